/-
  The lead of player 0: LeadOf.
-/
import Derived.Test.YtjacmbgngbhcpaaEnds
namespace Go.Proofs.Ytjacmbgngbhcpaa
open Go.ChangeShapes Go.WideShapes Go.RowKit Go.Deep

theorem two_of {xs : List Int} (h : xs.length = 2) : ∃ a b, xs = [a, b] := by
  match xs, h with
  | [a, b], _ => exact ⟨a, b, rfl⟩
/-- What LeadOf returns for a valid position. -/
def leadP (xs : List Int) : Int := xs.getD 0 0 - xs.getD 1 0


end Go.Proofs.Ytjacmbgngbhcpaa
