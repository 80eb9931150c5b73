/-
  A position with the players exchanged: TurnPosition.
-/
import Derived.Test.YtnanaldolnehiaaTurn
set_option linter.unusedSimpArgs false
set_option linter.unusedVariables false
namespace Go.Proofs.Ytnanaldolnehiaa
open Go.ChangeShapes Go.WideShapes Go.RowKit Go.Deep

/-- What TurnPosition returns. -/
def tuX (b : Bool) (p : Int) (xs : List Int) : List Int := if b then turnL p.toNat xs else []
def tuY (b : Bool) (xs' : List Int) : List Int := if b then [xs'.getD 1 0, xs'.getD 0 0] else []
theorem apart_nil : Apart none none := fun g e => by cases e
theorem own_nil (w : World) (base : Nat) : Own w base none 0 0 [] := ⟨rfl, Nat.le_refl _, by omega, World.ownsRow_nil w _ _ _⟩


end Go.Proofs.Ytnanaldolnehiaa
