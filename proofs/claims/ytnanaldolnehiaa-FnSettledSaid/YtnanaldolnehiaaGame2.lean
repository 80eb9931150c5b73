/-
  Games converted into the program's, compared, sized.
-/
import Derived.Test.YtnanaldolnehiaaGame
import Derived.Deep.Cut
set_option linter.unusedSimpArgs false
set_option linter.unusedVariables false
namespace Go.Proofs.Ytnanaldolnehiaa
open Go.ChangeShapes Go.WideShapes Go.RowKit Go.Deep

/-- A variable that holds these cells and can be written. -/
def OutAt (w : World) (b : Nat) (cs : List Value) : Prop := Has w b cs ∧ ∀ i, w.frozen? ⟨b, i, none⟩ = false
section
variable {w w' : World} {b : Nat} {cs : List Value}
theorem OutAt.sub (h : OutAt w b cs) (hb : Below w.heap.size w w') : OutAt w' b cs := ⟨h.1.sub hb, fun i => (hb.frozen (p := ⟨b, i, none⟩) h.1.1).trans (h.2 i)⟩
theorem OutAt.alloc (h : OutAt w b cs) (o : Obj) : OutAt (w.alloc o) b cs := h.sub ((Below.refl _ _).alloc (Nat.le_refl _) o)
theorem OutAt.other (h : OutAt w b cs) (p : Addr) (hp : ¬ (p.block = b)) (u : Value) : OutAt (w.setCell p u) b cs :=
  ⟨⟨by simp; exact h.1.1, fun i v hv => (World.cell?_setCell_other w p ⟨b, i, none⟩ u (fun e => hp (by rw [e]))).trans (h.1.2 i v hv)⟩, fun i => by rw [World.frozen?_setCell]; exact h.2 i⟩
theorem OutAt.set (h : OutAt w b cs) (i : Nat) (u : Value) (hi : i < cs.length) : OutAt (w.setCell ⟨b, i, none⟩ u) b (cs.set i u) := by
  refine ⟨⟨by simp; exact h.1.1, fun j v hv => ?_⟩, fun i => by rw [World.frozen?_setCell]; exact h.2 i⟩
  by_cases e : i = j
  · subst e
    rw [List.getElem?_set_self hi] at hv
    injection hv with hv
    subst hv
    exact World.cell?_setCell_same _ _ _ (h.1.2 i cs[i] (List.getElem?_eq_getElem hi))
  · rw [List.getElem?_set_ne e] at hv
    rw [World.cell?_setCell_other w ⟨b, i, none⟩ ⟨b, j, none⟩ u (by first | (simp; done) | (simp; omega))]
    exact h.1.2 j v hv
theorem Has.other (h : Has w b cs) (p : Addr) (hp : ¬ (p.block = b)) (u : Value) : Has (w.setCell p u) b cs :=
  ⟨by simp; exact h.1, fun i v hv => (World.cell?_setCell_other w p ⟨b, i, none⟩ u (fun e => hp (by rw [e]))).trans (h.2 i v hv)⟩
theorem OutAt.box (w : World) (cs : List Value) (t : TypeId) (g : Nat) (hg : g = w.heap.size) : OutAt (w.alloc (.cells cs.toArray t)) g cs :=
  ⟨Has.box w cs t g hg, fun i => by subst hg; rw [frozen?_alloc_cells]; simp [World.frozen?]⟩
end
theorem wp_namedH {P : Program} {Q : Exit → Act → World → Prop} {a : Act} {w : World} {c : Code} (K : World → Prop) (hK : K w) (h : ∀ W, K W → c.wp P Q a W) : c.wp P Q a w := h w hK
/-- A game of the call's own. -/
def RetGame (w : World) (p1 s1 : Int) (st1 sk1 re1 fe1 ag1 : Bool) (c1 sl1 : Int) (n1 n1' : Nat) (pl1 : Int) (k1 m1 m1' : Nat) (ql1 z1 : Int) (xs1 xs1' ms1 ys1 ys1' : List Int) (e : Ending) (w' : World) : Prop :=
  ∃ X x X' x' N y Y v Y' v', e = .returned (.agg #[.int .i64 p1, .int .i64 s1, .bool st1, .bool sk1, .bool re1, .bool fe1, .bool ag1, .int .i64 c1, .int .i64 sl1, .slice X n1 x, .slice X' n1' x', .int .i64 pl1, .slice N k1 y, .slice Y m1 v, .slice Y' m1' v', .int .i64 ql1, .int .i64 z1]) ∧ (Ints w' w'.heap.size X n1 x xs1 ∧ Ints w' w'.heap.size X' n1' x' xs1' ∧ Ints w' w'.heap.size N k1 y ms1 ∧ Ints w' w'.heap.size Y m1 v ys1 ∧ Ints w' w'.heap.size Y' m1' v' ys1') ∧ Below w.heap.size w w'
theorem toGame_ret {Post : Ending → World → Prop} {a : Act} {W : World} {g : Nat} (p1 s1 : Int) (st1 sk1 re1 fe1 ag1 : Bool) (c1 sl1 : Int) (A1 : Option Addr) (n1 u1 : Nat) (A1' : Option Addr) (n1' u1' : Nat) (pl1 : Int) (M1 : Option Addr) (k1 d1 : Nat) (B1 : Option Addr) (m1 e1 : Nat) (B1' : Option Addr) (m1' e1' : Nat) (ql1 z1 : Int) (ha : a.tmps.getD 2 undef = .pointer (some ⟨g, 0, none⟩)) (hd : a.defers = []) (hr : Has W g [.int .i64 p1, .int .i64 s1, .bool st1, .bool sk1, .bool re1, .bool fe1, .bool ag1, .int .i64 c1, .int .i64 sl1, .slice A1 n1 u1, .slice A1' n1' u1', .int .i64 pl1, .slice M1 k1 d1, .slice B1 m1 e1, .slice B1' m1' e1', .int .i64 ql1, .int .i64 z1]) (hP : Post (.returned (.agg #[.int .i64 p1, .int .i64 s1, .bool st1, .bool sk1, .bool re1, .bool fe1, .bool ag1, .int .i64 c1, .int .i64 sl1, .slice A1 n1 u1, .slice A1' n1' u1', .int .i64 pl1, .slice M1 k1 d1, .slice B1 m1 e1, .slice B1' m1' e1', .int .i64 ql1, .int .i64 z1])) W) : bodyPost Try.prog Try.f35 Post Exit.ret a W := by
  have q0 := hr.at_ 0 rfl
  have q1 := hr.at_ 1 rfl
  have q2 := hr.at_ 2 rfl
  have q3 := hr.at_ 3 rfl
  have q4 := hr.at_ 4 rfl
  have q5 := hr.at_ 5 rfl
  have q6 := hr.at_ 6 rfl
  have q7 := hr.at_ 7 rfl
  have q8 := hr.at_ 8 rfl
  have q9 := hr.at_ 9 rfl
  have q10 := hr.at_ 10 rfl
  have q11 := hr.at_ 11 rfl
  have q12 := hr.at_ 12 rfl
  have q13 := hr.at_ 13 rfl
  have q14 := hr.at_ 14 rfl
  have q15 := hr.at_ 15 rfl
  have q16 := hr.at_ 16 rfl
  refine bodyPost_ret (v := .agg #[.int .i64 p1, .int .i64 s1, .bool st1, .bool sk1, .bool re1, .bool fe1, .bool ag1, .int .i64 c1, .int .i64 sl1, .slice A1 n1 u1, .slice A1' n1' u1', .int .i64 pl1, .slice M1 k1 d1, .slice B1 m1 e1, .slice B1' m1' e1', .int .i64 ql1, .int .i64 z1]) ?_ hd hP
  obtain ⟨tmps, defers⟩ := a
  simp only [Array.getD_eq_getD_getElem?] at ha
  simp [results, Try.results35, go_sem, ha, q0, q1, q2, q3, q4, q5, q6, q7, q8, q9, q10, q11, q12, q13, q14, q15, q16]
set_option maxRecDepth 100000 in
set_option maxHeartbeats 8000000 in
theorem toGame_any (p1 s1 : Int) (st1 sk1 re1 fe1 ag1 : Bool) (c1 sl1 : Int) (A1 : Option Addr) (n1 u1 : Nat) (A1' : Option Addr) (n1' u1' : Nat) (pl1 : Int) (M1 : Option Addr) (k1 d1 : Nat) (B1 : Option Addr) (m1 e1 : Nat) (B1' : Option Addr) (m1' e1' : Nat) (ql1 z1 : Int) (xs1 xs1' ms1 ys1 ys1' : List Int) (w : World) (h1 : Ints w w.heap.size A1 n1 u1 xs1 ∧ Ints w w.heap.size A1' n1' u1' xs1' ∧ Ints w w.heap.size M1 k1 d1 ms1 ∧ Ints w w.heap.size B1 m1 e1 ys1 ∧ Ints w w.heap.size B1' m1' e1' ys1') (hn : n1 ≤ 4294967296) (hn' : n1' ≤ 4294967296) (hk : k1 ≤ 4294967296) (hm : m1 ≤ 4294967296) (hm' : m1' ≤ 4294967296) :
    Calls Try.prog 35 #[.agg #[.int .i64 p1, .int .i64 s1, .bool st1, .bool sk1, .bool re1, .bool fe1, .bool ag1, .int .i64 c1, .int .i64 sl1, .slice A1 n1 u1, .slice A1' n1' u1', .int .i64 pl1, .slice M1 k1 d1, .slice B1 m1 e1, .slice B1' m1' e1', .int .i64 ql1, .int .i64 z1]] w (RetGame w p1 s1 st1 sk1 re1 fe1 ag1 c1 sl1 n1 n1' pl1 k1 m1 m1' ql1 z1 xs1 xs1' ms1 ys1 ys1') := by
  have G1 := ((Has.box w [.int .i64 p1, .int .i64 s1, .bool st1, .bool sk1, .bool re1, .bool fe1, .bool ag1, .int .i64 c1, .int .i64 sl1, .slice A1 n1 u1, .slice A1' n1' u1', .int .i64 pl1, .slice M1 k1 d1, .slice B1 m1 e1, .slice B1' m1' e1', .int .i64 ql1, .int .i64 z1] 46 w.heap.size rfl).alloc (.cells #[.int .i64 0, .int .i64 0, .bool false, .bool false, .bool false, .bool false, .bool false, .int .i64 0, .int .i64 0, .slice none 0 0, .slice none 0 0, .int .i64 0, .slice none 0 0, .slice none 0 0, .slice none 0 0, .int .i64 0, .int .i64 0] 50)).alloc (.cells #[.int .i64 0, .int .i64 0, .bool false, .bool false, .bool false, .bool false, .bool false, .int .i64 0, .int .i64 0, .slice none 0 0, .slice none 0 0, .int .i64 0, .slice none 0 0, .slice none 0 0, .slice none 0 0, .int .i64 0, .int .i64 0] 50)
  have R1 := (OutAt.box (w.alloc (.cells #[.int .i64 p1, .int .i64 s1, .bool st1, .bool sk1, .bool re1, .bool fe1, .bool ag1, .int .i64 c1, .int .i64 sl1, .slice A1 n1 u1, .slice A1' n1' u1', .int .i64 pl1, .slice M1 k1 d1, .slice B1 m1 e1, .slice B1' m1' e1', .int .i64 ql1, .int .i64 z1] 46)) [.int .i64 0, .int .i64 0, .bool false, .bool false, .bool false, .bool false, .bool false, .int .i64 0, .int .i64 0, .slice none 0 0, .slice none 0 0, .int .i64 0, .slice none 0 0, .slice none 0 0, .slice none 0 0, .int .i64 0, .int .i64 0] 50 (w.heap.size + 1) (by simp)).alloc (.cells #[.int .i64 0, .int .i64 0, .bool false, .bool false, .bool false, .bool false, .bool false, .int .i64 0, .int .i64 0, .slice none 0 0, .slice none 0 0, .int .i64 0, .slice none 0 0, .slice none 0 0, .slice none 0 0, .int .i64 0, .int .i64 0] 50)
  have U1 := OutAt.box ((w.alloc (.cells #[.int .i64 p1, .int .i64 s1, .bool st1, .bool sk1, .bool re1, .bool fe1, .bool ag1, .int .i64 c1, .int .i64 sl1, .slice A1 n1 u1, .slice A1' n1' u1', .int .i64 pl1, .slice M1 k1 d1, .slice B1 m1 e1, .slice B1' m1' e1', .int .i64 ql1, .int .i64 z1] 46)).alloc (.cells #[.int .i64 0, .int .i64 0, .bool false, .bool false, .bool false, .bool false, .bool false, .int .i64 0, .int .i64 0, .slice none 0 0, .slice none 0 0, .int .i64 0, .slice none 0 0, .slice none 0 0, .slice none 0 0, .int .i64 0, .int .i64 0] 50)) [.int .i64 0, .int .i64 0, .bool false, .bool false, .bool false, .bool false, .bool false, .int .i64 0, .int .i64 0, .slice none 0 0, .slice none 0 0, .int .i64 0, .slice none 0 0, .slice none 0 0, .slice none 0 0, .int .i64 0, .int .i64 0] 50 (w.heap.size + 1 + 1) (by simp)
  have bW : Below w.heap.size w (((w.alloc (.cells #[.int .i64 p1, .int .i64 s1, .bool st1, .bool sk1, .bool re1, .bool fe1, .bool ag1, .int .i64 c1, .int .i64 sl1, .slice A1 n1 u1, .slice A1' n1' u1', .int .i64 pl1, .slice M1 k1 d1, .slice B1 m1 e1, .slice B1' m1' e1', .int .i64 ql1, .int .i64 z1] 46)).alloc (.cells #[.int .i64 0, .int .i64 0, .bool false, .bool false, .bool false, .bool false, .bool false, .int .i64 0, .int .i64 0, .slice none 0 0, .slice none 0 0, .int .i64 0, .slice none 0 0, .slice none 0 0, .slice none 0 0, .int .i64 0, .int .i64 0] 50)).alloc (.cells #[.int .i64 0, .int .i64 0, .bool false, .bool false, .bool false, .bool false, .bool false, .int .i64 0, .int .i64 0, .slice none 0 0, .slice none 0 0, .int .i64 0, .slice none 0 0, .slice none 0 0, .slice none 0 0, .int .i64 0, .int .i64 0] 50)) := (by repeat (first | with_reducible exact Below.refl _ _ | with_reducible assumption | with_reducible refine sub_alloc ?_ _ | (with_reducible refine sub_setCell2 ?_ ?_ _; (focus (first | (simp; done) | (simp <;> omega)))) | with_reducible refine sub_drew ?_ | with_reducible refine below_drewN ?_ _ | with_reducible refine sub_step (by assumption) ?_ (by first | rfl | (simp; done)) | exact Below.refl _ _ | assumption | refine sub_alloc ?_ _ | refine sub_setCell ?_ (by simp <;> omega) _ | refine sub_drew ?_ | refine below_drewN ?_ _ | refine sub_step (by assumption) ?_ (by first | rfl | (simp; done))))
  obtain ⟨W, hW⟩ : ∃ W, W = ((w.alloc (.cells #[.int .i64 p1, .int .i64 s1, .bool st1, .bool sk1, .bool re1, .bool fe1, .bool ag1, .int .i64 c1, .int .i64 sl1, .slice A1 n1 u1, .slice A1' n1' u1', .int .i64 pl1, .slice M1 k1 d1, .slice B1 m1 e1, .slice B1' m1' e1', .int .i64 ql1, .int .i64 z1] 46)).alloc (.cells #[.int .i64 0, .int .i64 0, .bool false, .bool false, .bool false, .bool false, .bool false, .int .i64 0, .int .i64 0, .slice none 0 0, .slice none 0 0, .int .i64 0, .slice none 0 0, .slice none 0 0, .slice none 0 0, .int .i64 0, .int .i64 0] 50)).alloc (.cells #[.int .i64 0, .int .i64 0, .bool false, .bool false, .bool false, .bool false, .bool false, .int .i64 0, .int .i64 0, .slice none 0 0, .slice none 0 0, .int .i64 0, .slice none 0 0, .slice none 0 0, .slice none 0 0, .int .i64 0, .int .i64 0] 50) := ⟨_, rfl⟩
  have G1 : Hid (Has W w.heap.size [.int .i64 p1, .int .i64 s1, .bool st1, .bool sk1, .bool re1, .bool fe1, .bool ag1, .int .i64 c1, .int .i64 sl1, .slice A1 n1 u1, .slice A1' n1' u1', .int .i64 pl1, .slice M1 k1 d1, .slice B1 m1 e1, .slice B1' m1' e1', .int .i64 ql1, .int .i64 z1]) := Lib.hid (by rw [hW]; exact G1)
  have R1 : Hid (OutAt W (w.heap.size + 1) [.int .i64 0, .int .i64 0, .bool false, .bool false, .bool false, .bool false, .bool false, .int .i64 0, .int .i64 0, .slice none 0 0, .slice none 0 0, .int .i64 0, .slice none 0 0, .slice none 0 0, .slice none 0 0, .int .i64 0, .int .i64 0]) := Lib.hid (by rw [hW]; exact R1)
  have U1 : Hid (OutAt W (w.heap.size + 1 + 1) [.int .i64 0, .int .i64 0, .bool false, .bool false, .bool false, .bool false, .bool false, .int .i64 0, .int .i64 0, .slice none 0 0, .slice none 0 0, .int .i64 0, .slice none 0 0, .slice none 0 0, .slice none 0 0, .int .i64 0, .int .i64 0]) := Lib.hid (by rw [hW]; exact U1)
  have H1 := Lib.hid h1
  rw [← hW] at bW
  have BW := Lib.hid bW
  have HW := Lib.hid hW
  clear h1 hW bW
  have sW : w.heap.size + 1 + 1 < W.heap.size := U1.out.1.1
  go_enter Try.func35, Try.ntmps35
  go_wp2_with fail
  rw [← HW.out]
  have KA := G1.out
  have KR := R1.out
  have KU := U1.out
  have KB := BW.out
  have KS : W.heap.size ≤ W.heap.size := Nat.le_refl _
  refine (toRules_any _ _ _ _ _ _ _ _ _ _).mono ?_
  rintro e v1_ ⟨rfl, hb⟩
  have KA := KA.sub hb
  have KR := KR.sub hb
  have KU := KU.sub hb
  have KB := KB.trans (hb.mono KB.size)
  have KS := Nat.le_trans KS hb.size
  have uu0 := KU.1.at_ 0 rfl
  have ff0 := KU.2 0
  have uu1 := KU.1.at_ 1 rfl
  have ff1 := KU.2 1
  have uu2 := KU.1.at_ 2 rfl
  have ff2 := KU.2 2
  have uu3 := KU.1.at_ 3 rfl
  have ff3 := KU.2 3
  have uu4 := KU.1.at_ 4 rfl
  have ff4 := KU.2 4
  have uu5 := KU.1.at_ 5 rfl
  have ff5 := KU.2 5
  have uu6 := KU.1.at_ 6 rfl
  have ff6 := KU.2 6
  have uu7 := KU.1.at_ 7 rfl
  have ff7 := KU.2 7
  have uu8 := KU.1.at_ 8 rfl
  have ff8 := KU.2 8
  go_upto_region 3 with fail
  refine wp_namedH (fun w' => Has w' w.heap.size [.int .i64 p1, .int .i64 s1, .bool st1, .bool sk1, .bool re1, .bool fe1, .bool ag1, .int .i64 c1, .int .i64 sl1, .slice A1 n1 u1, .slice A1' n1' u1', .int .i64 pl1, .slice M1 k1 d1, .slice B1 m1 e1, .slice B1' m1' e1', .int .i64 ql1, .int .i64 z1] ∧ OutAt w' (w.heap.size + 1) [.int .i64 0, .int .i64 0, .bool false, .bool false, .bool false, .bool false, .bool false, .int .i64 0, .int .i64 0, .slice none 0 0, .slice none 0 0, .int .i64 0, .slice none 0 0, .slice none 0 0, .slice none 0 0, .int .i64 0, .int .i64 0] ∧ OutAt w' (w.heap.size + 1 + 1) [.int .i64 p1, .int .i64 s1, .bool st1, .bool sk1, .bool re1, .bool fe1, .bool ag1, .int .i64 c1, .int .i64 sl1, .slice none 0 0, .slice none 0 0, .int .i64 0, .slice none 0 0, .slice none 0 0, .slice none 0 0, .int .i64 0, .int .i64 0] ∧ Below w.heap.size w w' ∧ W.heap.size ≤ w'.heap.size) ?_ ?_
  · refine ⟨?_, ?_, ?_, ?_, ?_⟩
    · repeat (with_reducible refine Has.other ?_ _ (by simp <;> omega) _)
      exact KA
    · repeat (with_reducible refine OutAt.other ?_ _ (by simp) _)
      exact KR
    · exact (((((((((KU.set 0 (.int .i64 p1) (by simp)).set 1 (.int .i64 s1) (by simp)).set 2 (.bool st1) (by simp)).set 3 (.bool sk1) (by simp)).set 4 (.bool re1) (by simp)).set 5 (.bool fe1) (by simp)).set 6 (.bool ag1) (by simp)).set 7 (.int .i64 c1) (by simp)).set 8 (.int .i64 sl1) (by simp))
    · exact (((((((((KB.setCell (by show _ ≤ w.heap.size + 1 + 1; omega) _).setCell (by show _ ≤ w.heap.size + 1 + 1; omega) _).setCell (by show _ ≤ w.heap.size + 1 + 1; omega) _).setCell (by show _ ≤ w.heap.size + 1 + 1; omega) _).setCell (by show _ ≤ w.heap.size + 1 + 1; omega) _).setCell (by show _ ≤ w.heap.size + 1 + 1; omega) _).setCell (by show _ ≤ w.heap.size + 1 + 1; omega) _).setCell (by show _ ≤ w.heap.size + 1 + 1; omega) _).setCell (by show _ ≤ w.heap.size + 1 + 1; omega) _)
    · simpa using KS
  clear uu0 ff0 uu1 ff1 uu2 ff2 uu3 ff3 uu4 ff4 uu5 ff5 uu6 ff6 uu7 ff7 uu8 ff8 KA KR KU  KB KS
  rintro v1 ⟨KA, KR, KU, KB, KS⟩
  have aa9 := KA.at_ 9 rfl
  have aa10 := KA.at_ 10 rfl
  have aa11 := KA.at_ 11 rfl
  go_wp2_with fail
  refine (toPosition_any _ _ _ _ _ _ xs1 xs1' _ _ (by exact H1.out.1.sub KB) (by exact H1.out.2.1.sub KB) hn hn').mono ?_
  rintro e v2_ ⟨X, x, X', x', rfl, o1, o2, ap, hb⟩
  have q0 : Own v2_ W.heap.size X n1 x xs1 := o1.lower KS
  have q1 : Own v2_ W.heap.size X' n1' x' xs1' := o2.lower KS
  have KA := KA.sub hb
  have KR := KR.sub hb
  have KU := KU.sub hb
  have KB := KB.trans (hb.mono KB.size)
  have KS := Nat.le_trans KS hb.size
  have KO0 := q0
  have KO1 := q1
  have uu9 := KU.1.at_ 9 rfl
  have ff9 := KU.2 9
  have uu10 := KU.1.at_ 10 rfl
  have ff10 := KU.2 10
  have uu11 := KU.1.at_ 11 rfl
  have ff11 := KU.2 11
  go_upto_region 4 with fail
  refine wp_namedH (fun w' => Has w' w.heap.size [.int .i64 p1, .int .i64 s1, .bool st1, .bool sk1, .bool re1, .bool fe1, .bool ag1, .int .i64 c1, .int .i64 sl1, .slice A1 n1 u1, .slice A1' n1' u1', .int .i64 pl1, .slice M1 k1 d1, .slice B1 m1 e1, .slice B1' m1' e1', .int .i64 ql1, .int .i64 z1] ∧ OutAt w' (w.heap.size + 1) [.int .i64 0, .int .i64 0, .bool false, .bool false, .bool false, .bool false, .bool false, .int .i64 0, .int .i64 0, .slice none 0 0, .slice none 0 0, .int .i64 0, .slice none 0 0, .slice none 0 0, .slice none 0 0, .int .i64 0, .int .i64 0] ∧ OutAt w' (w.heap.size + 1 + 1) [.int .i64 p1, .int .i64 s1, .bool st1, .bool sk1, .bool re1, .bool fe1, .bool ag1, .int .i64 c1, .int .i64 sl1, .slice X n1 x, .slice X' n1' x', .int .i64 pl1, .slice none 0 0, .slice none 0 0, .slice none 0 0, .int .i64 0, .int .i64 0] ∧ Own w' W.heap.size X n1 x xs1 ∧ Own w' W.heap.size X' n1' x' xs1' ∧ Below w.heap.size w w' ∧ W.heap.size ≤ w'.heap.size) ?_ ?_
  · refine ⟨?_, ?_, ?_, ?_, ?_, ?_, ?_⟩
    · repeat (with_reducible refine Has.other ?_ _ (by simp <;> omega) _)
      exact KA
    · repeat (with_reducible refine OutAt.other ?_ _ (by simp) _)
      exact KR
    · exact (((KU.set 9 (.slice X n1 x) (by simp)).set 10 (.slice X' n1' x') (by simp)).set 11 (.int .i64 pl1) (by simp))
    · repeat (with_reducible refine Own.setBelow ?_ sW _)
      exact KO0
    · repeat (with_reducible refine Own.setBelow ?_ sW _)
      exact KO1
    · exact (((KB.setCell (by show _ ≤ w.heap.size + 1 + 1; omega) _).setCell (by show _ ≤ w.heap.size + 1 + 1; omega) _).setCell (by show _ ≤ w.heap.size + 1 + 1; omega) _)
    · simpa using KS
  clear uu9 ff9 uu10 ff10 uu11 ff11 aa9 aa10 aa11 KA KR KU KO0 KO1 KB KS
  rintro v2 ⟨KA, KR, KU, KO0, KO1, KB, KS⟩
  have aa12 := KA.at_ 12 rfl
  go_wp2_with fail
  refine (toInt64S_any _ _ _ _ ms1 _ (by exact H1.out.2.2.1.sub KB) hk (Nat.le_refl _)).mono ?_
  rintro e v3_ ⟨N, y, rfl, o1, hb⟩
  have q0 : Own v3_ W.heap.size N k1 y ms1 := o1.lower KS
  have KA := KA.sub hb
  have KR := KR.sub hb
  have KU := KU.sub hb
  have KO0 := KO0.below hb (Nat.le_refl _)
  have KO1 := KO1.below hb (Nat.le_refl _)
  have KB := KB.trans (hb.mono KB.size)
  have KS := Nat.le_trans KS hb.size
  have KO2 := q0
  have uu12 := KU.1.at_ 12 rfl
  have ff12 := KU.2 12
  go_upto_region 5 with fail
  refine wp_namedH (fun w' => Has w' w.heap.size [.int .i64 p1, .int .i64 s1, .bool st1, .bool sk1, .bool re1, .bool fe1, .bool ag1, .int .i64 c1, .int .i64 sl1, .slice A1 n1 u1, .slice A1' n1' u1', .int .i64 pl1, .slice M1 k1 d1, .slice B1 m1 e1, .slice B1' m1' e1', .int .i64 ql1, .int .i64 z1] ∧ OutAt w' (w.heap.size + 1) [.int .i64 0, .int .i64 0, .bool false, .bool false, .bool false, .bool false, .bool false, .int .i64 0, .int .i64 0, .slice none 0 0, .slice none 0 0, .int .i64 0, .slice none 0 0, .slice none 0 0, .slice none 0 0, .int .i64 0, .int .i64 0] ∧ OutAt w' (w.heap.size + 1 + 1) [.int .i64 p1, .int .i64 s1, .bool st1, .bool sk1, .bool re1, .bool fe1, .bool ag1, .int .i64 c1, .int .i64 sl1, .slice X n1 x, .slice X' n1' x', .int .i64 pl1, .slice N k1 y, .slice none 0 0, .slice none 0 0, .int .i64 0, .int .i64 0] ∧ Own w' W.heap.size X n1 x xs1 ∧ Own w' W.heap.size X' n1' x' xs1' ∧ Own w' W.heap.size N k1 y ms1 ∧ Below w.heap.size w w' ∧ W.heap.size ≤ w'.heap.size) ?_ ?_
  · refine ⟨?_, ?_, ?_, ?_, ?_, ?_, ?_, ?_⟩
    · repeat (with_reducible refine Has.other ?_ _ (by simp <;> omega) _)
      exact KA
    · repeat (with_reducible refine OutAt.other ?_ _ (by simp) _)
      exact KR
    · exact (KU.set 12 (.slice N k1 y) (by simp))
    · repeat (with_reducible refine Own.setBelow ?_ sW _)
      exact KO0
    · repeat (with_reducible refine Own.setBelow ?_ sW _)
      exact KO1
    · repeat (with_reducible refine Own.setBelow ?_ sW _)
      exact KO2
    · exact (KB.setCell (by show _ ≤ w.heap.size + 1 + 1; omega) _)
    · simpa using KS
  clear uu12 ff12 aa12 KA KR KU KO0 KO1 KO2 KB KS
  rintro v3 ⟨KA, KR, KU, KO0, KO1, KO2, KB, KS⟩
  have aa13 := KA.at_ 13 rfl
  have aa14 := KA.at_ 14 rfl
  have aa15 := KA.at_ 15 rfl
  go_wp2_with fail
  refine (toPosition_any _ _ _ _ _ _ ys1 ys1' _ _ (by exact H1.out.2.2.2.1.sub KB) (by exact H1.out.2.2.2.2.sub KB) hm hm').mono ?_
  rintro e v4_ ⟨Y, v, Y', v', rfl, o1, o2, ap, hb⟩
  have q0 : Own v4_ W.heap.size Y m1 v ys1 := o1.lower KS
  have q1 : Own v4_ W.heap.size Y' m1' v' ys1' := o2.lower KS
  have KA := KA.sub hb
  have KR := KR.sub hb
  have KU := KU.sub hb
  have KO0 := KO0.below hb (Nat.le_refl _)
  have KO1 := KO1.below hb (Nat.le_refl _)
  have KO2 := KO2.below hb (Nat.le_refl _)
  have KB := KB.trans (hb.mono KB.size)
  have KS := Nat.le_trans KS hb.size
  have KO3 := q0
  have KO4 := q1
  have uu13 := KU.1.at_ 13 rfl
  have ff13 := KU.2 13
  have uu14 := KU.1.at_ 14 rfl
  have ff14 := KU.2 14
  have uu15 := KU.1.at_ 15 rfl
  have ff15 := KU.2 15
  go_upto_region 6 with fail
  refine wp_namedH (fun w' => Has w' w.heap.size [.int .i64 p1, .int .i64 s1, .bool st1, .bool sk1, .bool re1, .bool fe1, .bool ag1, .int .i64 c1, .int .i64 sl1, .slice A1 n1 u1, .slice A1' n1' u1', .int .i64 pl1, .slice M1 k1 d1, .slice B1 m1 e1, .slice B1' m1' e1', .int .i64 ql1, .int .i64 z1] ∧ OutAt w' (w.heap.size + 1) [.int .i64 0, .int .i64 0, .bool false, .bool false, .bool false, .bool false, .bool false, .int .i64 0, .int .i64 0, .slice none 0 0, .slice none 0 0, .int .i64 0, .slice none 0 0, .slice none 0 0, .slice none 0 0, .int .i64 0, .int .i64 0] ∧ OutAt w' (w.heap.size + 1 + 1) [.int .i64 p1, .int .i64 s1, .bool st1, .bool sk1, .bool re1, .bool fe1, .bool ag1, .int .i64 c1, .int .i64 sl1, .slice X n1 x, .slice X' n1' x', .int .i64 pl1, .slice N k1 y, .slice Y m1 v, .slice Y' m1' v', .int .i64 ql1, .int .i64 0] ∧ Own w' W.heap.size X n1 x xs1 ∧ Own w' W.heap.size X' n1' x' xs1' ∧ Own w' W.heap.size N k1 y ms1 ∧ Own w' W.heap.size Y m1 v ys1 ∧ Own w' W.heap.size Y' m1' v' ys1' ∧ Below w.heap.size w w' ∧ W.heap.size ≤ w'.heap.size) ?_ ?_
  · refine ⟨?_, ?_, ?_, ?_, ?_, ?_, ?_, ?_, ?_, ?_⟩
    · repeat (with_reducible refine Has.other ?_ _ (by simp <;> omega) _)
      exact KA
    · repeat (with_reducible refine OutAt.other ?_ _ (by simp) _)
      exact KR
    · exact (((KU.set 13 (.slice Y m1 v) (by simp)).set 14 (.slice Y' m1' v') (by simp)).set 15 (.int .i64 ql1) (by simp))
    · repeat (with_reducible refine Own.setBelow ?_ sW _)
      exact KO0
    · repeat (with_reducible refine Own.setBelow ?_ sW _)
      exact KO1
    · repeat (with_reducible refine Own.setBelow ?_ sW _)
      exact KO2
    · repeat (with_reducible refine Own.setBelow ?_ sW _)
      exact KO3
    · repeat (with_reducible refine Own.setBelow ?_ sW _)
      exact KO4
    · exact (((KB.setCell (by show _ ≤ w.heap.size + 1 + 1; omega) _).setCell (by show _ ≤ w.heap.size + 1 + 1; omega) _).setCell (by show _ ≤ w.heap.size + 1 + 1; omega) _)
    · simpa using KS
  clear uu13 ff13 uu14 ff14 uu15 ff15 aa13 aa14 aa15 KA KR KU KO0 KO1 KO2 KO3 KO4 KB KS
  rintro v4 ⟨KA, KR, KU, KO0, KO1, KO2, KO3, KO4, KB, KS⟩
  have aa16 := KA.at_ 16 rfl
  have uu16 := KU.1.at_ 16 rfl
  have ff16 := KU.2 16
  go_upto_region 7 with fail
  refine wp_namedH (fun w' => Has w' w.heap.size [.int .i64 p1, .int .i64 s1, .bool st1, .bool sk1, .bool re1, .bool fe1, .bool ag1, .int .i64 c1, .int .i64 sl1, .slice A1 n1 u1, .slice A1' n1' u1', .int .i64 pl1, .slice M1 k1 d1, .slice B1 m1 e1, .slice B1' m1' e1', .int .i64 ql1, .int .i64 z1] ∧ OutAt w' (w.heap.size + 1) [.int .i64 0, .int .i64 0, .bool false, .bool false, .bool false, .bool false, .bool false, .int .i64 0, .int .i64 0, .slice none 0 0, .slice none 0 0, .int .i64 0, .slice none 0 0, .slice none 0 0, .slice none 0 0, .int .i64 0, .int .i64 0] ∧ OutAt w' (w.heap.size + 1 + 1) [.int .i64 p1, .int .i64 s1, .bool st1, .bool sk1, .bool re1, .bool fe1, .bool ag1, .int .i64 c1, .int .i64 sl1, .slice X n1 x, .slice X' n1' x', .int .i64 pl1, .slice N k1 y, .slice Y m1 v, .slice Y' m1' v', .int .i64 ql1, .int .i64 z1] ∧ Own w' W.heap.size X n1 x xs1 ∧ Own w' W.heap.size X' n1' x' xs1' ∧ Own w' W.heap.size N k1 y ms1 ∧ Own w' W.heap.size Y m1 v ys1 ∧ Own w' W.heap.size Y' m1' v' ys1' ∧ Below w.heap.size w w' ∧ W.heap.size ≤ w'.heap.size) ?_ ?_
  · refine ⟨?_, ?_, ?_, ?_, ?_, ?_, ?_, ?_, ?_, ?_⟩
    · repeat (with_reducible refine Has.other ?_ _ (by simp <;> omega) _)
      exact KA
    · repeat (with_reducible refine OutAt.other ?_ _ (by simp) _)
      exact KR
    · exact (KU.set 16 (.int .i64 z1) (by simp))
    · repeat (with_reducible refine Own.setBelow ?_ sW _)
      exact KO0
    · repeat (with_reducible refine Own.setBelow ?_ sW _)
      exact KO1
    · repeat (with_reducible refine Own.setBelow ?_ sW _)
      exact KO2
    · repeat (with_reducible refine Own.setBelow ?_ sW _)
      exact KO3
    · repeat (with_reducible refine Own.setBelow ?_ sW _)
      exact KO4
    · exact (KB.setCell (by show _ ≤ w.heap.size + 1 + 1; omega) _)
    · simpa using KS
  clear uu16 ff16 aa16 KA KR KU KO0 KO1 KO2 KO3 KO4 KB KS
  rintro v5 ⟨KA, KR, KU, KO0, KO1, KO2, KO3, KO4, KB, KS⟩
  have uu0 := KU.1.at_ 0 rfl
  have rr0 := KR.1.at_ 0 rfl
  have ff0 := KR.2 0
  have uu1 := KU.1.at_ 1 rfl
  have rr1 := KR.1.at_ 1 rfl
  have ff1 := KR.2 1
  have uu2 := KU.1.at_ 2 rfl
  have rr2 := KR.1.at_ 2 rfl
  have ff2 := KR.2 2
  have uu3 := KU.1.at_ 3 rfl
  have rr3 := KR.1.at_ 3 rfl
  have ff3 := KR.2 3
  have uu4 := KU.1.at_ 4 rfl
  have rr4 := KR.1.at_ 4 rfl
  have ff4 := KR.2 4
  have uu5 := KU.1.at_ 5 rfl
  have rr5 := KR.1.at_ 5 rfl
  have ff5 := KR.2 5
  have uu6 := KU.1.at_ 6 rfl
  have rr6 := KR.1.at_ 6 rfl
  have ff6 := KR.2 6
  have uu7 := KU.1.at_ 7 rfl
  have rr7 := KR.1.at_ 7 rfl
  have ff7 := KR.2 7
  have uu8 := KU.1.at_ 8 rfl
  have rr8 := KR.1.at_ 8 rfl
  have ff8 := KR.2 8
  have uu9 := KU.1.at_ 9 rfl
  have rr9 := KR.1.at_ 9 rfl
  have ff9 := KR.2 9
  have uu10 := KU.1.at_ 10 rfl
  have rr10 := KR.1.at_ 10 rfl
  have ff10 := KR.2 10
  have uu11 := KU.1.at_ 11 rfl
  have rr11 := KR.1.at_ 11 rfl
  have ff11 := KR.2 11
  have uu12 := KU.1.at_ 12 rfl
  have rr12 := KR.1.at_ 12 rfl
  have ff12 := KR.2 12
  have uu13 := KU.1.at_ 13 rfl
  have rr13 := KR.1.at_ 13 rfl
  have ff13 := KR.2 13
  have uu14 := KU.1.at_ 14 rfl
  have rr14 := KR.1.at_ 14 rfl
  have ff14 := KR.2 14
  have uu15 := KU.1.at_ 15 rfl
  have rr15 := KR.1.at_ 15 rfl
  have ff15 := KR.2 15
  have uu16 := KU.1.at_ 16 rfl
  have rr16 := KR.1.at_ 16 rfl
  have ff16 := KR.2 16
  have HF := (((((((((((((((((KR.set 0 (.int .i64 p1) (by simp)).set 1 (.int .i64 s1) (by simp)).set 2 (.bool st1) (by simp)).set 3 (.bool sk1) (by simp)).set 4 (.bool re1) (by simp)).set 5 (.bool fe1) (by simp)).set 6 (.bool ag1) (by simp)).set 7 (.int .i64 c1) (by simp)).set 8 (.int .i64 sl1) (by simp)).set 9 (.slice X n1 x) (by simp)).set 10 (.slice X' n1' x') (by simp)).set 11 (.int .i64 pl1) (by simp)).set 12 (.slice N k1 y) (by simp)).set 13 (.slice Y m1 v) (by simp)).set 14 (.slice Y' m1' v') (by simp)).set 15 (.int .i64 ql1) (by simp)).set 16 (.int .i64 z1) (by simp))
  have sW1 : w.heap.size + 1 < W.heap.size := by omega
  go_wp2_with fail
  refine toGame_ret (g := w.heap.size + 1) p1 s1 st1 sk1 re1 fe1 ag1 c1 sl1 X n1 x X' n1' x' pl1 N k1 y Y m1 v Y' m1' v' ql1 z1 (by rfl) (by rfl) HF.1 ⟨X, x, X', x', N, y, Y, v, Y', v', rfl, ⟨?_, ?_, ?_, ?_, ?_⟩, ?_⟩
  · refine Own.ints (base := W.heap.size) ?_
    repeat (with_reducible refine Own.setBelow ?_ sW1 _)
    exact KO0
  · refine Own.ints (base := W.heap.size) ?_
    repeat (with_reducible refine Own.setBelow ?_ sW1 _)
    exact KO1
  · refine Own.ints (base := W.heap.size) ?_
    repeat (with_reducible refine Own.setBelow ?_ sW1 _)
    exact KO2
  · refine Own.ints (base := W.heap.size) ?_
    repeat (with_reducible refine Own.setBelow ?_ sW1 _)
    exact KO3
  · refine Own.ints (base := W.heap.size) ?_
    repeat (with_reducible refine Own.setBelow ?_ sW1 _)
    exact KO4
  · exact (((((((((((((((((KB.setCell (by show _ ≤ w.heap.size + 1; omega) _).setCell (by show _ ≤ w.heap.size + 1; omega) _).setCell (by show _ ≤ w.heap.size + 1; omega) _).setCell (by show _ ≤ w.heap.size + 1; omega) _).setCell (by show _ ≤ w.heap.size + 1; omega) _).setCell (by show _ ≤ w.heap.size + 1; omega) _).setCell (by show _ ≤ w.heap.size + 1; omega) _).setCell (by show _ ≤ w.heap.size + 1; omega) _).setCell (by show _ ≤ w.heap.size + 1; omega) _).setCell (by show _ ≤ w.heap.size + 1; omega) _).setCell (by show _ ≤ w.heap.size + 1; omega) _).setCell (by show _ ≤ w.heap.size + 1; omega) _).setCell (by show _ ≤ w.heap.size + 1; omega) _).setCell (by show _ ≤ w.heap.size + 1; omega) _).setCell (by show _ ≤ w.heap.size + 1; omega) _).setCell (by show _ ≤ w.heap.size + 1; omega) _).setCell (by show _ ≤ w.heap.size + 1; omega) _)
end Go.Proofs.Ytnanaldolnehiaa
