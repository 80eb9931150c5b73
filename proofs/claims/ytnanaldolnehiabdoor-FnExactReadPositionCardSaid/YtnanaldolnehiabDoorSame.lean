/-
  Whether two positions are the same, as the program and the reference find it; the law FnExactSamePosition, walked.
-/
import Derived.Test.YtnanaldolnehiabDoorPos
namespace Go.Proofs.YtnanaldolnehiabDoor
open Go.ChangeShapes Go.WideShapes Go.RowKit Go.Deep

theorem undrew {B : Nat} {w w' : World} (h : Below B w.drew w') : Below B w w' := ⟨h.os, h.tape, h.output, h.size, h.block⟩
/-- The three cells of a position at a place. -/
def PosAt (w : World) (b o : Nat) (A : Option Addr) (n c : Nat) (A' : Option Addr) (n' c' : Nat) (pl : Int) : Prop :=
  w.cell? ⟨b, o, none⟩ = some (.slice A n c) ∧ w.cell? ⟨b, o + 1, none⟩ = some (.slice A' n' c') ∧ w.cell? ⟨b, o + 2, none⟩ = some (.int .i64 pl)
section
variable {w w' : World} {b o : Nat} {A : Option Addr} {n c : Nat} {A' : Option Addr} {n' c' : Nat} {pl : Int}
theorem PosAt.lt (h : PosAt w b o A n c A' n' c' pl) : b < w.heap.size := by have := lt_of_cell h.1; simpa using this
theorem PosAt.keep (h : PosAt w b o A n c A' n' c' pl) (hk : ∀ i, w'.cell? ⟨b, i, none⟩ = w.cell? ⟨b, i, none⟩) : PosAt w' b o A n c A' n' c' pl := by
  unfold PosAt at h ⊢
  simp only [hk]
  exact h
theorem PosAt.below {B : Nat} (h : PosAt w b o A n c A' n' c' pl) (hb : Below B w w') (hB : b < B) : PosAt w' b o A n c A' n' c' pl := h.keep fun i => hb.cell (p := ⟨b, i, none⟩) hB
theorem PosAt.alloc (h : PosAt w b o A n c A' n' c' pl) (x : Obj) : PosAt (w.alloc x) b o A n c A' n' c' pl := h.keep fun i => World.cell?_alloc_lt w x ⟨b, i, none⟩ h.lt
theorem PosAt.drewN (h : PosAt w b o A n c A' n' c' pl) (k : Nat) : PosAt (w.drewN k) b o A n c A' n' c' pl := h
theorem PosAt.box (w : World) (t : TypeId) (A : Option Addr) (n c : Nat) (A' : Option Addr) (n' c' : Nat) (pl : Int) : PosAt (w.alloc (.cells #[.slice A n c, .slice A' n' c', .int .i64 pl] t)) w.heap.size 0 A n c A' n' c' pl := by
  unfold PosAt
  simp [World.cell?_alloc_new]
theorem PosAt.flat (h : PosAt w b 0 A n c A' n' c' pl) : w.cell? ⟨b, 0, none⟩ = some (.slice A n c) ∧ w.cell? ⟨b, 1, none⟩ = some (.slice A' n' c') ∧ w.cell? ⟨b, 2, none⟩ = some (.int .i64 pl) := by simpa [PosAt] using h
end

/-- Whether two positions are the same. -/
def sameP (xs xs' : List Int) (pl : Int) (ys ys' : List Int) (ql : Int) : Bool := decide (xs = ys) && decide (xs' = ys') && decide (pl = ql)

end Go.Proofs.YtnanaldolnehiabDoor
