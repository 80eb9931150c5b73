/-
  A region of a function's code, by its number.
-/
import Derived.Test.YtnanaldolnehiaaWords
namespace Go.Proofs.Ytnanaldolnehiaa
open Go.ChangeShapes Go.WideShapes Go.RowKit Go.Deep
/-- The region with this number. -/
def findRegion (k : Nat) : Code → Code
  | .region id ops d => if id = k then .region id ops d else .skip
  | .seq a b => match findRegion k a with | .skip => findRegion k b | c => c
  | .cond _ a b => match findRegion k a with | .skip => findRegion k b | c => c
  | .block _ b => findRegion k b
  | .loop b => findRegion k b
  | .scope b => findRegion k b
  | _ => .skip
end Go.Proofs.Ytnanaldolnehiaa
