/-
  The names of games and of the fields of rules: StandardNames, FieldNames; the laws FnExactStandardNames and FnExactFieldNames, walked.
-/
import Derived.Test.YtnanaldolnehiaaTexts
set_option linter.unusedSimpArgs false
set_option linter.unusedVariables false
namespace Go.Proofs.Ytnanaldolnehiaa
open Go.ChangeShapes Go.WideShapes Go.RowKit Go.Deep

/-- What a call hands back that makes a list of texts of its own. -/
def RetOwnT (w : World) (n : Nat) (zs : List ByteArray) (e : Ending) (w' : World) : Prop := ∃ A c, e = .returned (.slice A n c) ∧ OwnT w' w.heap.size A n c zs ∧ Below w.heap.size w w'
theorem ownT_new (w : World) (zs : List ByteArray) (n : Nat) (hn : zs.length = n) (hm : n ≤ 4294967296) : OwnT (w.alloc (.cells (zs.map Value.string).toArray 9)) w.heap.size (some ⟨w.heap.size, 0, none⟩) n n zs := by
  refine ⟨hn, Nat.le_refl _, by omega, ?_⟩
  have := World.ownsRow_lit (base := w.heap.size) (e := 9) (size := 1) w (zs.map Value.string).toArray n (Nat.le_refl _) (by unfold maxLen; omega) (by simp [hn])
  simpa using this
theorem ret_eqT {xs ys : List ByteArray} (h : xs = ys) : decide (xs = ys) = true := by simp [h]
def nmStandardNames : List ByteArray := [(⟨#[107, 97, 108, 97, 104]⟩ : ByteArray), (⟨#[109, 105, 110, 105]⟩ : ByteArray), (⟨#[111, 119, 97, 114, 101]⟩ : ByteArray), (⟨#[114, 101, 108, 97, 121]⟩ : ByteArray)]
theorem specStandardNames_any (w : World) : Calls Try.prog 163 #[] w (RetOwnT w 4 nmStandardNames) := by
  have ho := Lib.hid (ownT_new w nmStandardNames 4 rfl (by omega))
  go_enter Try.func163, Try.ntmps163
  go_wp2
  go_ret
  exact ⟨_, _, rfl, ho.out, (by repeat (first | with_reducible exact Below.refl _ _ | with_reducible assumption | with_reducible refine sub_alloc ?_ _ | (with_reducible refine sub_setCell2 ?_ ?_ _; (focus (first | (simp; done) | (simp <;> omega)))) | with_reducible refine sub_drew ?_ | with_reducible refine below_drewN ?_ _ | with_reducible refine sub_step (by assumption) ?_ (by first | rfl | (simp; done)) | exact Below.refl _ _ | assumption | refine sub_alloc ?_ _ | refine sub_setCell ?_ (by simp <;> omega) _ | refine sub_drew ?_ | refine below_drewN ?_ _ | refine sub_step (by assumption) ?_ (by first | rfl | (simp; done))))⟩
theorem implStandardNames_any (w : World) : Calls Try.prog 70 #[] w (RetOwnT w 4 nmStandardNames) := by
  have ho := Lib.hid (ownT_new w nmStandardNames 4 rfl (by omega))
  go_enter Try.func70, Try.ntmps70
  go_wp2
  go_ret
  exact ⟨_, _, rfl, ho.out, (by repeat (first | with_reducible exact Below.refl _ _ | with_reducible assumption | with_reducible refine sub_alloc ?_ _ | (with_reducible refine sub_setCell2 ?_ ?_ _; (focus (first | (simp; done) | (simp <;> omega)))) | with_reducible refine sub_drew ?_ | with_reducible refine below_drewN ?_ _ | with_reducible refine sub_step (by assumption) ?_ (by first | rfl | (simp; done)) | exact Below.refl _ _ | assumption | refine sub_alloc ?_ _ | refine sub_setCell ?_ (by simp <;> omega) _ | refine sub_drew ?_ | refine below_drewN ?_ _ | refine sub_step (by assumption) ?_ (by first | rfl | (simp; done))))⟩
def nmFieldNames : List ByteArray := [(⟨#[112, 105, 116, 115]⟩ : ByteArray), (⟨#[115, 101, 101, 100, 115]⟩ : ByteArray), (⟨#[115, 116, 111, 114, 101, 115]⟩ : ByteArray), (⟨#[115, 107, 105, 112]⟩ : ByteArray), (⟨#[114, 101, 108, 97, 121]⟩ : ByteArray), (⟨#[102, 101, 101, 100]⟩ : ByteArray), (⟨#[97, 103, 97, 105, 110]⟩ : ByteArray), (⟨#[99, 97, 112, 116, 117, 114, 101]⟩ : ByteArray), (⟨#[115, 108, 97, 109]⟩ : ByteArray)]
end Go.Proofs.Ytnanaldolnehiaa
