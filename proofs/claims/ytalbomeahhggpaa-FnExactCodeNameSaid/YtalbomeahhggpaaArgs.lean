/-
  The arguments of the laws, opened by their types in this seat's translation: rules, positions, sown seeds, lists of numbers.
-/
import Derived.Test.YtalbomeahhggpaaRows
import Derived.Test.YtalbomeahhggpaaWords
namespace Go.Proofs.Ytalbomeahhggpaa
open Go.ChangeShapes Go.WideShapes Go.RowKit Go.Deep

theorem own : ownKnob Try.prog.godebug = none := by kernel_rfl
theorem laidOut : laidOutB Try.prog = true := by kernel_rfl

section
variable {H : Type} {enc : TypeId × Value → H} {w : World} {base : Nat} {spare : Nat → Bool} {held : Bool} {r : Reach} {b0 : Nat} {v : Value} {d : DataW H} {p : List MemPlace}

end
end Go.Proofs.Ytalbomeahhggpaa
