/-
  Whether two positions are the same, as the program and the reference find it; the law FnExactSamePosition, walked.
-/
import Derived.Test.YtnanaldolnehiaaPos
namespace Go.Proofs.Ytnanaldolnehiaa
open Go.ChangeShapes Go.WideShapes Go.RowKit Go.Deep

theorem undrew {B : Nat} {w w' : World} (h : Below B w.drew w') : Below B w w' := ⟨h.os, h.tape, h.output, h.size, h.block⟩
/-- The three cells of a position at a place. -/
def PosAt (w : World) (b o : Nat) (A : Option Addr) (n c : Nat) (A' : Option Addr) (n' c' : Nat) (pl : Int) : Prop :=
  w.cell? ⟨b, o, none⟩ = some (.slice A n c) ∧ w.cell? ⟨b, o + 1, none⟩ = some (.slice A' n' c') ∧ w.cell? ⟨b, o + 2, none⟩ = some (.int .i64 pl)
section
variable {w w' : World} {b o : Nat} {A : Option Addr} {n c : Nat} {A' : Option Addr} {n' c' : Nat} {pl : Int}
theorem PosAt.lt (h : PosAt w b o A n c A' n' c' pl) : b < w.heap.size := by have := lt_of_cell h.1; simpa using this
theorem PosAt.keep (h : PosAt w b o A n c A' n' c' pl) (hk : ∀ i, w'.cell? ⟨b, i, none⟩ = w.cell? ⟨b, i, none⟩) : PosAt w' b o A n c A' n' c' pl := by
  unfold PosAt at h ⊢
  simp only [hk]
  exact h
theorem PosAt.below {B : Nat} (h : PosAt w b o A n c A' n' c' pl) (hb : Below B w w') (hB : b < B) : PosAt w' b o A n c A' n' c' pl := h.keep fun i => hb.cell (p := ⟨b, i, none⟩) hB
theorem PosAt.alloc (h : PosAt w b o A n c A' n' c' pl) (x : Obj) : PosAt (w.alloc x) b o A n c A' n' c' pl := h.keep fun i => World.cell?_alloc_lt w x ⟨b, i, none⟩ h.lt
theorem PosAt.drewN (h : PosAt w b o A n c A' n' c' pl) (k : Nat) : PosAt (w.drewN k) b o A n c A' n' c' pl := h
theorem PosAt.box (w : World) (t : TypeId) (A : Option Addr) (n c : Nat) (A' : Option Addr) (n' c' : Nat) (pl : Int) : PosAt (w.alloc (.cells #[.slice A n c, .slice A' n' c', .int .i64 pl] t)) w.heap.size 0 A n c A' n' c' pl := by
  unfold PosAt
  simp [World.cell?_alloc_new]
theorem PosAt.flat (h : PosAt w b 0 A n c A' n' c' pl) : w.cell? ⟨b, 0, none⟩ = some (.slice A n c) ∧ w.cell? ⟨b, 1, none⟩ = some (.slice A' n' c') ∧ w.cell? ⟨b, 2, none⟩ = some (.int .i64 pl) := by simpa [PosAt] using h
end

/-- Whether two positions are the same. -/
def sameP (xs xs' : List Int) (pl : Int) (ys ys' : List Int) (ql : Int) : Bool := decide (xs = ys) && decide (xs' = ys') && decide (pl = ql)

set_option maxHeartbeats 1000000 in
theorem SamePosition_any (A A' C C' : Option Addr) (n c n' c' m d m' d' : Nat) (xs xs' ys ys' : List Int) (pl ql : Int) (w : World) (h : Ints w w.heap.size A n c xs) (h' : Ints w w.heap.size A' n' c' xs') (k : Ints w w.heap.size C m d ys) (k' : Ints w w.heap.size C' m' d' ys') :
    Calls Try.prog 109 #[.agg #[.slice A n c, .slice A' n' c', .int .i64 pl], .agg #[.slice C m d, .slice C' m' d', .int .i64 ql]] w fun e w' => e = .returned (.bool (sameP xs xs' pl ys ys' ql)) ∧ Below w.heap.size w w' := by
  have HH := Lib.hid h
  have HH' := Lib.hid h'
  have KK := Lib.hid k
  have KK' := Lib.hid k'
  clear h h' k k'
  by_cases e0 : pl = ql
  · subst e0
    cases e1 : decide (xs = ys)
    · go_enter Try.func109, Try.ntmps109
      go_wp2_with fail
      refine (sameNumbers_any _ _ _ _ _ _ _ _ xs ys _ (by exact HH.out.sub (by repeat (first | with_reducible exact Below.refl _ _ | with_reducible assumption | with_reducible refine sub_alloc ?_ _ | (with_reducible refine sub_setCell2 ?_ ?_ _; (focus (first | (simp; done) | (simp <;> omega)))) | with_reducible refine sub_drew ?_ | with_reducible refine below_drewN ?_ _ | with_reducible refine sub_step (by assumption) ?_ (by first | rfl | (simp; done)) | exact Below.refl _ _ | assumption | refine sub_alloc ?_ _ | refine sub_setCell ?_ (by simp <;> omega) _ | refine sub_drew ?_ | refine below_drewN ?_ _ | refine sub_step (by assumption) ?_ (by first | rfl | (simp; done))))) (by exact KK.out.sub (by repeat (first | with_reducible exact Below.refl _ _ | with_reducible assumption | with_reducible refine sub_alloc ?_ _ | (with_reducible refine sub_setCell2 ?_ ?_ _; (focus (first | (simp; done) | (simp <;> omega)))) | with_reducible refine sub_drew ?_ | with_reducible refine below_drewN ?_ _ | with_reducible refine sub_step (by assumption) ?_ (by first | rfl | (simp; done)) | exact Below.refl _ _ | assumption | refine sub_alloc ?_ _ | refine sub_setCell ?_ (by simp <;> omega) _ | refine sub_drew ?_ | refine below_drewN ?_ _ | refine sub_step (by assumption) ?_ (by first | rfl | (simp; done)))))).mono ?_
      rintro e w1 ⟨rfl, m1, rfl⟩
      go_wp2_with fail
      go_ret
      exact ⟨ret_b (by simp [sameP, e1]), (by repeat (first | with_reducible exact Below.refl _ _ | with_reducible assumption | with_reducible refine sub_alloc ?_ _ | (with_reducible refine sub_setCell2 ?_ ?_ _; (focus (first | (simp; done) | (simp <;> omega)))) | with_reducible refine sub_drew ?_ | with_reducible refine below_drewN ?_ _ | with_reducible refine sub_step (by assumption) ?_ (by first | rfl | (simp; done)) | exact Below.refl _ _ | assumption | refine sub_alloc ?_ _ | refine sub_setCell ?_ (by simp <;> omega) _ | refine sub_drew ?_ | refine below_drewN ?_ _ | refine sub_step (by assumption) ?_ (by first | rfl | (simp; done))))⟩
    · go_enter Try.func109, Try.ntmps109
      go_wp2_with fail
      refine (sameNumbers_any _ _ _ _ _ _ _ _ xs ys _ (by exact HH.out.sub (by repeat (first | with_reducible exact Below.refl _ _ | with_reducible assumption | with_reducible refine sub_alloc ?_ _ | (with_reducible refine sub_setCell2 ?_ ?_ _; (focus (first | (simp; done) | (simp <;> omega)))) | with_reducible refine sub_drew ?_ | with_reducible refine below_drewN ?_ _ | with_reducible refine sub_step (by assumption) ?_ (by first | rfl | (simp; done)) | exact Below.refl _ _ | assumption | refine sub_alloc ?_ _ | refine sub_setCell ?_ (by simp <;> omega) _ | refine sub_drew ?_ | refine below_drewN ?_ _ | refine sub_step (by assumption) ?_ (by first | rfl | (simp; done))))) (by exact KK.out.sub (by repeat (first | with_reducible exact Below.refl _ _ | with_reducible assumption | with_reducible refine sub_alloc ?_ _ | (with_reducible refine sub_setCell2 ?_ ?_ _; (focus (first | (simp; done) | (simp <;> omega)))) | with_reducible refine sub_drew ?_ | with_reducible refine below_drewN ?_ _ | with_reducible refine sub_step (by assumption) ?_ (by first | rfl | (simp; done)) | exact Below.refl _ _ | assumption | refine sub_alloc ?_ _ | refine sub_setCell ?_ (by simp <;> omega) _ | refine sub_drew ?_ | refine below_drewN ?_ _ | refine sub_step (by assumption) ?_ (by first | rfl | (simp; done)))))).mono ?_
      rintro e w1 ⟨rfl, m1, rfl⟩
      go_wp2_with fail
      refine (sameNumbers_any _ _ _ _ _ _ _ _ xs' ys' _ (by exact HH'.out.sub (by repeat (first | with_reducible exact Below.refl _ _ | with_reducible assumption | with_reducible refine sub_alloc ?_ _ | (with_reducible refine sub_setCell2 ?_ ?_ _; (focus (first | (simp; done) | (simp <;> omega)))) | with_reducible refine sub_drew ?_ | with_reducible refine below_drewN ?_ _ | with_reducible refine sub_step (by assumption) ?_ (by first | rfl | (simp; done)) | exact Below.refl _ _ | assumption | refine sub_alloc ?_ _ | refine sub_setCell ?_ (by simp <;> omega) _ | refine sub_drew ?_ | refine below_drewN ?_ _ | refine sub_step (by assumption) ?_ (by first | rfl | (simp; done))))) (by exact KK'.out.sub (by repeat (first | with_reducible exact Below.refl _ _ | with_reducible assumption | with_reducible refine sub_alloc ?_ _ | (with_reducible refine sub_setCell2 ?_ ?_ _; (focus (first | (simp; done) | (simp <;> omega)))) | with_reducible refine sub_drew ?_ | with_reducible refine below_drewN ?_ _ | with_reducible refine sub_step (by assumption) ?_ (by first | rfl | (simp; done)) | exact Below.refl _ _ | assumption | refine sub_alloc ?_ _ | refine sub_setCell ?_ (by simp <;> omega) _ | refine sub_drew ?_ | refine below_drewN ?_ _ | refine sub_step (by assumption) ?_ (by first | rfl | (simp; done)))))).mono ?_
      rintro e w2 ⟨rfl, m2, rfl⟩
      go_wp2_with fail
      go_ret
      exact ⟨ret_b (by simp [sameP, e1]), (by repeat (first | with_reducible exact Below.refl _ _ | with_reducible assumption | with_reducible refine sub_alloc ?_ _ | (with_reducible refine sub_setCell2 ?_ ?_ _; (focus (first | (simp; done) | (simp <;> omega)))) | with_reducible refine sub_drew ?_ | with_reducible refine below_drewN ?_ _ | with_reducible refine sub_step (by assumption) ?_ (by first | rfl | (simp; done)) | exact Below.refl _ _ | assumption | refine sub_alloc ?_ _ | refine sub_setCell ?_ (by simp <;> omega) _ | refine sub_drew ?_ | refine below_drewN ?_ _ | refine sub_step (by assumption) ?_ (by first | rfl | (simp; done))))⟩
  · have e4 : (pl == ql) = false := by simpa using e0
    have e5 := Lib.hid e0
    clear e0
    go_enter Try.func109, Try.ntmps109
    go_wp2_with fail
    go_ret
    exact ⟨ret_b (by simp [sameP, e5.out]), (by repeat (first | with_reducible exact Below.refl _ _ | with_reducible assumption | with_reducible refine sub_alloc ?_ _ | (with_reducible refine sub_setCell2 ?_ ?_ _; (focus (first | (simp; done) | (simp <;> omega)))) | with_reducible refine sub_drew ?_ | with_reducible refine below_drewN ?_ _ | with_reducible refine sub_step (by assumption) ?_ (by first | rfl | (simp; done)) | exact Below.refl _ _ | assumption | refine sub_alloc ?_ _ | refine sub_setCell ?_ (by simp <;> omega) _ | refine sub_drew ?_ | refine below_drewN ?_ _ | refine sub_step (by assumption) ?_ (by first | rfl | (simp; done))))⟩
set_option maxHeartbeats 400000 in
theorem l04Same_any (b o b2 o2 : Nat) (A A' C C' : Option Addr) (n c n' c' m d m' d' : Nat) (xs xs' ys ys' : List Int) (pl ql : Int) (w : World) (hp : PosAt w b o A n c A' n' c' pl) (hq : PosAt w b2 o2 C m d C' m' d' ql)
    (h : Ints w w.heap.size A n c xs) (h' : Ints w w.heap.size A' n' c' xs') (k : Ints w w.heap.size C m d ys) (k' : Ints w w.heap.size C' m' d' ys') :
    Calls Try.prog 107 #[.pointer (some ⟨b, o, none⟩), .pointer (some ⟨b2, o2, none⟩)] w fun e w' => e = .returned (.bool (sameP xs xs' pl ys ys' ql)) ∧ ∃ m, w' = w.drewN m := by
  have HH := Lib.hid h
  have HH' := Lib.hid h'
  have KK := Lib.hid k
  have KK' := Lib.hid k'
  clear h h' k k'
  obtain ⟨p0, p1, p2⟩ := hp
  obtain ⟨q0, q1, q2⟩ := hq
  cases e1 : decide (xs = ys)
  · go_enter Try.func107, Try.ntmps107
    go_wp2_with fail
    go_quiet ((go_at_call_of 111 (Value.slice A n c); exact Calls.quiet_of (l00Same_is w.heap.size w.heap.size _ _ _ _ _ _ xs ys false e1 _ (HH.out.drewN _) (KK.out.drewN _))))
    go_wp2_with fail
    go_ret
    exact ⟨ret_b (by simp [sameP, e1]), _, rfl⟩
  cases e2 : decide (xs' = ys')
  · go_enter Try.func107, Try.ntmps107
    go_wp2_with fail
    go_quiet ((first | (go_at_call_of 111 (Value.slice A n c); exact Calls.quiet_of (l00Same_is w.heap.size w.heap.size _ _ _ _ _ _ xs ys true e1 _ (HH.out.drewN _) (KK.out.drewN _))) | (go_at_call_of 111 (Value.slice A' n' c'); exact Calls.quiet_of (l00Same_is w.heap.size w.heap.size _ _ _ _ _ _ xs' ys' false e2 _ (HH'.out.drewN _) (KK'.out.drewN _)))))
    go_wp2_with fail
    go_ret
    exact ⟨ret_b (by simp [sameP, e2]), _, rfl⟩
  by_cases e3 : pl = ql
  · subst e3
    go_enter Try.func107, Try.ntmps107
    go_wp2_with fail
    go_quiet ((first | (go_at_call_of 111 (Value.slice A n c); exact Calls.quiet_of (l00Same_is w.heap.size w.heap.size _ _ _ _ _ _ xs ys true e1 _ (HH.out.drewN _) (KK.out.drewN _))) | (go_at_call_of 111 (Value.slice A' n' c'); exact Calls.quiet_of (l00Same_is w.heap.size w.heap.size _ _ _ _ _ _ xs' ys' true e2 _ (HH'.out.drewN _) (KK'.out.drewN _)))))
    go_wp2_with fail
    go_ret
    exact ⟨ret_b (by simp [sameP, e1, e2]), _, rfl⟩
  · have e4 : (pl == ql) = false := by simpa using e3
    have e5 := Lib.hid e3
    clear e3
    go_enter Try.func107, Try.ntmps107
    go_wp2_with fail
    go_quiet ((first | (go_at_call_of 111 (Value.slice A n c); exact Calls.quiet_of (l00Same_is w.heap.size w.heap.size _ _ _ _ _ _ xs ys true e1 _ (HH.out.drewN _) (KK.out.drewN _))) | (go_at_call_of 111 (Value.slice A' n' c'); exact Calls.quiet_of (l00Same_is w.heap.size w.heap.size _ _ _ _ _ _ xs' ys' true e2 _ (HH'.out.drewN _) (KK'.out.drewN _)))))
    go_wp2_with fail
    go_ret
    exact ⟨ret_b (by simp [sameP, e5.out]), _, rfl⟩
set_option maxHeartbeats 1000000 in
theorem specSamePosition_any (A A' C C' : Option Addr) (n c n' c' m d m' d' : Nat) (xs xs' ys ys' : List Int) (pl ql : Int) (w : World) (h : Ints w w.heap.size A n c xs) (h' : Ints w w.heap.size A' n' c' xs') (k : Ints w w.heap.size C m d ys) (k' : Ints w w.heap.size C' m' d' ys') :
    Calls Try.prog 87 #[.agg #[.slice A n c, .slice A' n' c', .int .i64 pl], .agg #[.slice C m d, .slice C' m' d', .int .i64 ql]] w fun e w' => e = .returned (.bool (sameP xs xs' pl ys ys' ql)) ∧ Below w.heap.size w w' := by
  have HH := Lib.hid h
  have HH' := Lib.hid h'
  have KK := Lib.hid k
  have KK' := Lib.hid k'
  have P0 := Lib.hid ((PosAt.box w 28 A n c A' n' c' pl).alloc (.cells #[.slice C m d, .slice C' m' d', .int .i64 ql] 28))
  have P1 := Lib.hid (PosAt.box (w.alloc (.cells #[.slice A n c, .slice A' n' c', .int .i64 pl] 28)) 28 C m d C' m' d' ql)
  clear h h' k k'
  go_enter Try.func87, Try.ntmps87
  go_wp2_with fail
  refine (l04Same_any w.heap.size 0 (w.heap.size + 1) 0 _ _ _ _ _ _ _ _ _ _ _ _ xs xs' ys ys' pl ql _ (by exact P0.out) (by simpa using P1.out) (by exact HH.out.sub (by repeat (first | with_reducible exact Below.refl _ _ | with_reducible assumption | with_reducible refine sub_alloc ?_ _ | (with_reducible refine sub_setCell2 ?_ ?_ _; (focus (first | (simp; done) | (simp <;> omega)))) | with_reducible refine sub_drew ?_ | with_reducible refine below_drewN ?_ _ | with_reducible refine sub_step (by assumption) ?_ (by first | rfl | (simp; done)) | exact Below.refl _ _ | assumption | refine sub_alloc ?_ _ | refine sub_setCell ?_ (by simp <;> omega) _ | refine sub_drew ?_ | refine below_drewN ?_ _ | refine sub_step (by assumption) ?_ (by first | rfl | (simp; done))))) (by exact HH'.out.sub (by repeat (first | with_reducible exact Below.refl _ _ | with_reducible assumption | with_reducible refine sub_alloc ?_ _ | (with_reducible refine sub_setCell2 ?_ ?_ _; (focus (first | (simp; done) | (simp <;> omega)))) | with_reducible refine sub_drew ?_ | with_reducible refine below_drewN ?_ _ | with_reducible refine sub_step (by assumption) ?_ (by first | rfl | (simp; done)) | exact Below.refl _ _ | assumption | refine sub_alloc ?_ _ | refine sub_setCell ?_ (by simp <;> omega) _ | refine sub_drew ?_ | refine below_drewN ?_ _ | refine sub_step (by assumption) ?_ (by first | rfl | (simp; done))))) (by exact KK.out.sub (by repeat (first | with_reducible exact Below.refl _ _ | with_reducible assumption | with_reducible refine sub_alloc ?_ _ | (with_reducible refine sub_setCell2 ?_ ?_ _; (focus (first | (simp; done) | (simp <;> omega)))) | with_reducible refine sub_drew ?_ | with_reducible refine below_drewN ?_ _ | with_reducible refine sub_step (by assumption) ?_ (by first | rfl | (simp; done)) | exact Below.refl _ _ | assumption | refine sub_alloc ?_ _ | refine sub_setCell ?_ (by simp <;> omega) _ | refine sub_drew ?_ | refine below_drewN ?_ _ | refine sub_step (by assumption) ?_ (by first | rfl | (simp; done))))) (by exact KK'.out.sub (by repeat (first | with_reducible exact Below.refl _ _ | with_reducible assumption | with_reducible refine sub_alloc ?_ _ | (with_reducible refine sub_setCell2 ?_ ?_ _; (focus (first | (simp; done) | (simp <;> omega)))) | with_reducible refine sub_drew ?_ | with_reducible refine below_drewN ?_ _ | with_reducible refine sub_step (by assumption) ?_ (by first | rfl | (simp; done)) | exact Below.refl _ _ | assumption | refine sub_alloc ?_ _ | refine sub_setCell ?_ (by simp <;> omega) _ | refine sub_drew ?_ | refine below_drewN ?_ _ | refine sub_step (by assumption) ?_ (by first | rfl | (simp; done)))))).mono ?_
  rintro e w1 ⟨rfl, m1, rfl⟩
  go_wp2_with fail
  go_ret
  exact ⟨rfl, (by repeat (first | with_reducible exact Below.refl _ _ | with_reducible assumption | with_reducible refine sub_alloc ?_ _ | (with_reducible refine sub_setCell2 ?_ ?_ _; (focus (first | (simp; done) | (simp <;> omega)))) | with_reducible refine sub_drew ?_ | with_reducible refine below_drewN ?_ _ | with_reducible refine sub_step (by assumption) ?_ (by first | rfl | (simp; done)) | exact Below.refl _ _ | assumption | refine sub_alloc ?_ _ | refine sub_setCell ?_ (by simp <;> omega) _ | refine sub_drew ?_ | refine below_drewN ?_ _ | refine sub_step (by assumption) ?_ (by first | rfl | (simp; done))))⟩
end Go.Proofs.Ytnanaldolnehiaa
