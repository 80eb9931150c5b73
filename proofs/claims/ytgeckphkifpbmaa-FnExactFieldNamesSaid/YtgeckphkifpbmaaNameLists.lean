/-
  The names of games and of the fields of rules: StandardNames, FieldNames; the laws FnExactStandardNames and FnExactFieldNames, walked.
-/
import Derived.Test.YtgeckphkifpbmaaTexts
set_option linter.unusedSimpArgs false
set_option linter.unusedVariables false
namespace Go.Proofs.Ytgeckphkifpbmaa
open Go.ChangeShapes Go.WideShapes Go.RowKit Go.Deep

/-- What a call hands back that makes a list of texts of its own. -/
def RetOwnT (w : World) (n : Nat) (zs : List ByteArray) (e : Ending) (w' : World) : Prop := ∃ A c, e = .returned (.slice A n c) ∧ OwnT w' w.heap.size A n c zs ∧ Below w.heap.size w w'
theorem ownT_new (w : World) (zs : List ByteArray) (n : Nat) (hn : zs.length = n) (hm : n ≤ 4294967296) : OwnT (w.alloc (.cells (zs.map Value.string).toArray 9)) w.heap.size (some ⟨w.heap.size, 0, none⟩) n n zs := by
  refine ⟨hn, Nat.le_refl _, by omega, ?_⟩
  have := World.ownsRow_lit (base := w.heap.size) (e := 9) (size := 1) w (zs.map Value.string).toArray n (Nat.le_refl _) (by unfold maxLen; omega) (by simp [hn])
  simpa using this
theorem ret_eqT {xs ys : List ByteArray} (h : xs = ys) : decide (xs = ys) = true := by simp [h]
def nmStandardNames : List ByteArray := [(⟨#[107, 97, 108, 97, 104]⟩ : ByteArray), (⟨#[109, 105, 110, 105]⟩ : ByteArray), (⟨#[111, 119, 97, 114, 101]⟩ : ByteArray), (⟨#[114, 101, 108, 97, 121]⟩ : ByteArray)]
theorem specStandardNames_any (w : World) : Calls Try.prog 40 #[] w (RetOwnT w 4 nmStandardNames) := by
  have ho := Lib.hid (ownT_new w nmStandardNames 4 rfl (by omega))
  go_enter Try.func40, Try.ntmps40
  go_wp2
  go_ret
  exact ⟨_, _, rfl, ho.out, (by repeat (first | with_reducible exact Below.refl _ _ | with_reducible assumption | with_reducible refine sub_alloc ?_ _ | (with_reducible refine sub_setCell2 ?_ ?_ _; (focus (first | (simp; done) | (simp <;> omega)))) | with_reducible refine sub_drew ?_ | with_reducible refine below_drewN ?_ _ | with_reducible refine sub_step (by assumption) ?_ (by first | rfl | (simp; done)) | exact Below.refl _ _ | assumption | refine sub_alloc ?_ _ | refine sub_setCell ?_ (by simp <;> omega) _ | refine sub_drew ?_ | refine below_drewN ?_ _ | refine sub_step (by assumption) ?_ (by first | rfl | (simp; done))))⟩
theorem implStandardNames_any (w : World) : Calls Try.prog 41 #[] w (RetOwnT w 4 nmStandardNames) := by
  have ho := Lib.hid (ownT_new w nmStandardNames 4 rfl (by omega))
  go_enter Try.func41, Try.ntmps41
  go_wp2
  go_ret
  exact ⟨_, _, rfl, ho.out, (by repeat (first | with_reducible exact Below.refl _ _ | with_reducible assumption | with_reducible refine sub_alloc ?_ _ | (with_reducible refine sub_setCell2 ?_ ?_ _; (focus (first | (simp; done) | (simp <;> omega)))) | with_reducible refine sub_drew ?_ | with_reducible refine below_drewN ?_ _ | with_reducible refine sub_step (by assumption) ?_ (by first | rfl | (simp; done)) | exact Below.refl _ _ | assumption | refine sub_alloc ?_ _ | refine sub_setCell ?_ (by simp <;> omega) _ | refine sub_drew ?_ | refine below_drewN ?_ _ | refine sub_step (by assumption) ?_ (by first | rfl | (simp; done))))⟩
set_option maxRecDepth 100000 in
set_option maxHeartbeats 1000000 in
theorem FnExactStandardNames_walk (w : World) : Calls Try.prog 11 #[] w fun e w' => e = .returned (.bool true) ∧ Below w.heap.size w w' := by
  go_enter Try.func11, Try.ntmps11
  go_wp2_with fail
  refine (specStandardNames_any _).mono ?_
  rintro e w1 ⟨A0, c0, rfl, o0, b1⟩
  have O0 := Lib.hid o0
  have B1 := Lib.hid b1
  clear o0 b1
  go_wp2_with fail
  refine (implStandardNames_any _).mono ?_
  rintro e w2 ⟨A1, c1, rfl, o1, b2⟩
  have J0 := Lib.hid O0.out.ints
  have I1 := Lib.hid o1.ints
  have O1 := Lib.hid o1
  have C2 := Lib.hid b2
  have S2 := b2.size
  clear o1 b2
  go_wp2_with fail
  refine (eqStringS_is _ _ _ _ _ _ _ _ nmStandardNames nmStandardNames true (ret_eqT rfl) _ I1.out (J0.out.sub C2.out)).mono ?_
  rintro e w3 ⟨rfl, m3, rfl⟩
  go_wp2_with fail
  refine (markStringS_any w1.heap.size A1 4 c1 nmStandardNames 1 _ (O1.out.drewN m3) (by simpa using S2) (by omega) (by omega) (by omega)).mono ?_
  rintro e w4 ⟨rfl, o4, b4⟩
  have I4 := Lib.hid o4.ints
  have C4 := Lib.hid ((below_drewN C2.out m3).trans b4)
  clear o4 b4 S2
  go_wp2_with fail
  refine (heldStringS_any A1 4 c1 1 _ I4.out (by omega) (by omega) (by omega)).mono ?_
  rintro e w5 ⟨rfl, b5⟩
  have C5 := Lib.hid (C4.out.trans (b5.mono C4.out.size))
  have D5 := Lib.hid b5
  clear b5
  go_wp2_with fail
  refine (implStandardNames_any _).mono ?_
  rintro e w6 ⟨A6, c6, rfl, o6, b6⟩
  have I6 := Lib.hid o6.ints
  have C6 := Lib.hid (C5.out.trans (b6.mono C5.out.size))
  have D6 := Lib.hid (sub_step b6 D5.out rfl)
  clear b6 o6
  go_wp2_with fail
  refine (eqStringS_is _ _ _ _ _ _ _ _ nmStandardNames nmStandardNames true (ret_eqT rfl) _ I6.out (J0.out.sub C6.out)).mono ?_
  rintro e w7 ⟨rfl, m7, rfl⟩
  go_wp2_with fail
  refine (heldStringS_any A1 4 c1 1 _ ((I4.out.sub D6.out).drewN m7) (by omega) (by omega) (by omega)).mono ?_
  rintro e w8 ⟨rfl, b8⟩
  go_wp2_with fail
  go_ret
  exact ⟨rfl, B1.out.trans (((below_drewN C6.out m7).trans (b8.mono C6.out.size)).mono B1.out.size)⟩
def nmFieldNames : List ByteArray := [(⟨#[112, 105, 116, 115]⟩ : ByteArray), (⟨#[115, 101, 101, 100, 115]⟩ : ByteArray), (⟨#[115, 116, 111, 114, 101, 115]⟩ : ByteArray), (⟨#[115, 107, 105, 112]⟩ : ByteArray), (⟨#[114, 101, 108, 97, 121]⟩ : ByteArray), (⟨#[102, 101, 101, 100]⟩ : ByteArray), (⟨#[97, 103, 97, 105, 110]⟩ : ByteArray), (⟨#[99, 97, 112, 116, 117, 114, 101]⟩ : ByteArray), (⟨#[115, 108, 97, 109]⟩ : ByteArray)]
theorem specFieldNames_any (w : World) : Calls Try.prog 42 #[] w (RetOwnT w 9 nmFieldNames) := by
  have ho := Lib.hid (ownT_new w nmFieldNames 9 rfl (by omega))
  go_enter Try.func42, Try.ntmps42
  go_wp2
  go_ret
  exact ⟨_, _, rfl, ho.out, (by repeat (first | with_reducible exact Below.refl _ _ | with_reducible assumption | with_reducible refine sub_alloc ?_ _ | (with_reducible refine sub_setCell2 ?_ ?_ _; (focus (first | (simp; done) | (simp <;> omega)))) | with_reducible refine sub_drew ?_ | with_reducible refine below_drewN ?_ _ | with_reducible refine sub_step (by assumption) ?_ (by first | rfl | (simp; done)) | exact Below.refl _ _ | assumption | refine sub_alloc ?_ _ | refine sub_setCell ?_ (by simp <;> omega) _ | refine sub_drew ?_ | refine below_drewN ?_ _ | refine sub_step (by assumption) ?_ (by first | rfl | (simp; done))))⟩
theorem implFieldNames_any (w : World) : Calls Try.prog 43 #[] w (RetOwnT w 9 nmFieldNames) := by
  have ho := Lib.hid (ownT_new w nmFieldNames 9 rfl (by omega))
  go_enter Try.func43, Try.ntmps43
  go_wp2
  go_ret
  exact ⟨_, _, rfl, ho.out, (by repeat (first | with_reducible exact Below.refl _ _ | with_reducible assumption | with_reducible refine sub_alloc ?_ _ | (with_reducible refine sub_setCell2 ?_ ?_ _; (focus (first | (simp; done) | (simp <;> omega)))) | with_reducible refine sub_drew ?_ | with_reducible refine below_drewN ?_ _ | with_reducible refine sub_step (by assumption) ?_ (by first | rfl | (simp; done)) | exact Below.refl _ _ | assumption | refine sub_alloc ?_ _ | refine sub_setCell ?_ (by simp <;> omega) _ | refine sub_drew ?_ | refine below_drewN ?_ _ | refine sub_step (by assumption) ?_ (by first | rfl | (simp; done))))⟩
set_option maxRecDepth 100000 in
set_option maxHeartbeats 1000000 in
theorem FnExactFieldNames_walk (w : World) : Calls Try.prog 12 #[] w fun e w' => e = .returned (.bool true) ∧ Below w.heap.size w w' := by
  go_enter Try.func12, Try.ntmps12
  go_wp2_with fail
  refine (specFieldNames_any _).mono ?_
  rintro e w1 ⟨A0, c0, rfl, o0, b1⟩
  have O0 := Lib.hid o0
  have B1 := Lib.hid b1
  clear o0 b1
  go_wp2_with fail
  refine (implFieldNames_any _).mono ?_
  rintro e w2 ⟨A1, c1, rfl, o1, b2⟩
  have J0 := Lib.hid O0.out.ints
  have I1 := Lib.hid o1.ints
  have O1 := Lib.hid o1
  have C2 := Lib.hid b2
  have S2 := b2.size
  clear o1 b2
  go_wp2_with fail
  refine (eqStringS_is _ _ _ _ _ _ _ _ nmFieldNames nmFieldNames true (ret_eqT rfl) _ I1.out (J0.out.sub C2.out)).mono ?_
  rintro e w3 ⟨rfl, m3, rfl⟩
  go_wp2_with fail
  refine (markStringS_any w1.heap.size A1 9 c1 nmFieldNames 1 _ (O1.out.drewN m3) (by simpa using S2) (by omega) (by omega) (by omega)).mono ?_
  rintro e w4 ⟨rfl, o4, b4⟩
  have I4 := Lib.hid o4.ints
  have C4 := Lib.hid ((below_drewN C2.out m3).trans b4)
  clear o4 b4 S2
  go_wp2_with fail
  refine (heldStringS_any A1 9 c1 1 _ I4.out (by omega) (by omega) (by omega)).mono ?_
  rintro e w5 ⟨rfl, b5⟩
  have C5 := Lib.hid (C4.out.trans (b5.mono C4.out.size))
  have D5 := Lib.hid b5
  clear b5
  go_wp2_with fail
  refine (implFieldNames_any _).mono ?_
  rintro e w6 ⟨A6, c6, rfl, o6, b6⟩
  have I6 := Lib.hid o6.ints
  have C6 := Lib.hid (C5.out.trans (b6.mono C5.out.size))
  have D6 := Lib.hid (sub_step b6 D5.out rfl)
  clear b6 o6
  go_wp2_with fail
  refine (eqStringS_is _ _ _ _ _ _ _ _ nmFieldNames nmFieldNames true (ret_eqT rfl) _ I6.out (J0.out.sub C6.out)).mono ?_
  rintro e w7 ⟨rfl, m7, rfl⟩
  go_wp2_with fail
  refine (heldStringS_any A1 9 c1 1 _ ((I4.out.sub D6.out).drewN m7) (by omega) (by omega) (by omega)).mono ?_
  rintro e w8 ⟨rfl, b8⟩
  go_wp2_with fail
  go_ret
  exact ⟨rfl, B1.out.trans (((below_drewN C6.out m7).trans (b8.mono C6.out.size)).mono B1.out.size)⟩
end Go.Proofs.Ytgeckphkifpbmaa
