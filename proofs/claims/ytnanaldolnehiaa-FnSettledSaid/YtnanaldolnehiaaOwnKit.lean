/-
  Words for laws of functions that hand back a position of their own: variables of positions, made, kept and written.
-/
import Derived.Test.YtnanaldolnehiaaTurn2
set_option linter.unusedSimpArgs false
set_option linter.unusedVariables false
namespace Go.Proofs.Ytnanaldolnehiaa
open Go.ChangeShapes Go.WideShapes Go.RowKit Go.Deep

/-- A variable of a position that has been made and not been written. -/
def BoxAt (w : World) (b : Nat) : Prop := PosAt w b 0 none 0 0 none 0 0 0 ∧ ∀ i, w.frozen? ⟨b, i, none⟩ = false
theorem BoxAt.keep {w w' : World} {b : Nat} (h : BoxAt w b) (hb : Below w.heap.size w w') : BoxAt w' b :=
  ⟨h.1.below hb h.1.lt, fun i => (hb.frozen (p := ⟨b, i, none⟩) h.1.lt).trans (h.2 i)⟩
theorem newbox {X w' : World} {t : TypeId} (hb : Below (X.alloc (.cells #[.slice none 0 0, .slice none 0 0, .int .i64 0] t)).heap.size (X.alloc (.cells #[.slice none 0 0, .slice none 0 0, .int .i64 0] t)) w') : BoxAt w' X.heap.size :=
  ⟨(PosAt.box X t none 0 0 none 0 0 0).below hb (by simp), fun i => (hb.frozen (p := ⟨_, i, none⟩) (by simp)).trans (frozen_new X _ t i)⟩
theorem BoxAt.flat {w : World} {b : Nat} (h : BoxAt w b) : w.cell? ⟨b, 0, none⟩ = some (.slice none 0 0) ∧ w.cell? ⟨b, 1, none⟩ = some (.slice none 0 0) ∧ w.cell? ⟨b, 2, none⟩ = some (.int .i64 0) ∧ w.frozen? ⟨b, 0, none⟩ = false ∧ w.frozen? ⟨b, 1, none⟩ = false ∧ w.frozen? ⟨b, 2, none⟩ = false :=
  ⟨h.1.flat.1, h.1.flat.2.1, h.1.flat.2.2, h.2 0, h.2 1, h.2 2⟩
theorem BoxAt.set {w : World} {b : Nat} (h : BoxAt w b) (A : Option Addr) (n c : Nat) (A' : Option Addr) (n' c' : Nat) (pl : Int) :
    PosAt (((w.setCell ⟨b, 0, none⟩ (.slice A n c)).setCell ⟨b, 1, none⟩ (.slice A' n' c')).setCell ⟨b, 2, none⟩ (.int .i64 pl)) b 0 A n c A' n' c' pl := by
  obtain ⟨h0, h1, h2, r0, r1, r2⟩ := h.flat
  refine ⟨?_, ?_, ?_⟩ <;> simp [go_sem, h0, h1, h2]
/-- A slice of the call's own does not lie in a block that is made behind it, nor in one that was made ahead. -/
theorem own_lt {w : World} {base n c b : Nat} {A : Option Addr} {zs : List Int} (h : Own w base A n c zs) (hb : w.heap.size ≤ b) : A ≠ some ⟨b, 0, none⟩ := by
  rintro rfl
  rcases h.form with ⟨e, _⟩ | ⟨g, e, _, h1⟩
  · cases e
  · injection e with e
    injection e with e
    omega
theorem own_ge {w : World} {base n c b : Nat} {A : Option Addr} {zs : List Int} (h : Own w base A n c zs) (hb : b < base) : A ≠ some ⟨b, 0, none⟩ := by
  rintro rfl
  rcases h.form with ⟨e, _⟩ | ⟨g, e, h1, _⟩
  · cases e
  · injection e with e
    injection e with e
    omega
end Go.Proofs.Ytnanaldolnehiaa
