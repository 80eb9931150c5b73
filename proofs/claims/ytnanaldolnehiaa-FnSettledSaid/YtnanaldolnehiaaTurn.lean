/-
  A position with the players exchanged: l04Turn, turned, TurnPosition.
-/
import Derived.Test.YtnanaldolnehiaaMajor
import Derived.Test.YtnanaldolnehiaaAppend
set_option linter.unusedSimpArgs false
set_option linter.unusedVariables false
namespace Go.Proofs.Ytnanaldolnehiaa
open Go.ChangeShapes Go.WideShapes Go.RowKit Go.Deep

/-- What a call hands back that makes a position of its own, and a code. -/
def RetP (w : World) (zs zs' : List Int) (pl cd : Int) (e : Ending) (w' : World) : Prop :=
  ∃ A c A' c' n n', e = .returned (.tuple #[.agg #[.slice A n c, .slice A' n' c', .int .i64 pl], .int .i64 cd]) ∧ Own w' w.heap.size A n c zs ∧ Own w' w.heap.size A' n' c' zs' ∧ Apart A A' ∧ n ≤ 2097152 ∧ n' ≤ 2097152 ∧ Below w.heap.size w w'
theorem Ints.front {w : World} {B n c : Nat} {A : Option Addr} {zs : List Int} (h : Ints w B A n c zs) (j : Nat) (hj : j ≤ n) : Ints w B A j c (zs.take j) := by
  have hl := h.len
  refine ⟨by simp; omega, by have := h.2.1; omega, h.2.2.1, fun e => ?_, fun hp => ?_⟩
  · have := h.2.2.2.1 e
    omega
  · obtain ⟨b, off, e, hb, hc⟩ := h.at_ (by omega)
    refine ⟨b, off, e, hb, fun i x hx => hc i x ?_⟩
    have hi : i < j := by
      have := (List.getElem?_eq_some_iff.1 hx).1
      simp at this
      omega
    rwa [List.getElem?_take, if_pos hi] at hx
/-- A list of two numbers that is made just now. -/
theorem own_two (w : World) (base g : Nat) (x y : Int) (hb : base ≤ w.heap.size) (hg : g = w.heap.size) : Own (w.alloc (.cells #[.int .i64 x, .int .i64 y] 2)) base (some ⟨g, 0, none⟩) 2 2 [x, y] := by
  subst hg
  exact ⟨rfl, Nat.le_refl _, by omega, by
    have := World.ownsRow_lit (base := base) (e := 2) (size := 1) w #[.int .i64 x, .int .i64 y] 2 hb (by unfold maxLen; omega) rfl
    simpa using this⟩
/-- A block has one length. -/
theorem own_cap {w : World} {b1 b2 g n c n' c' : Nat} {zs ys : List Int} (h : Own w b1 (some ⟨g, 0, none⟩) n c zs) (h' : Own w b2 (some ⟨g, 0, none⟩) n' c' ys) : c = c' := by
  rcases h.row.2 with ⟨e, _⟩ | ⟨g1, cap, cur, e, _, hg, _, _, hs, _⟩
  · cases e
  rcases h'.row.2 with ⟨e', _⟩ | ⟨g2, cap', cur', e', _, hg', _, _, hs', _⟩
  · cases e'
  simp at e e'
  obtain ⟨rfl, rfl⟩ := e
  obtain ⟨rfl, rfl⟩ := e'
  rw [hg] at hg'
  simp at hg'
  subst hg'
  omega
/-- The pits behind an exchange. -/
def turnL (m : Nat) (xs : List Int) : List Int := (xs.drop m).take m ++ xs.take m
theorem frozen_new (w : World) (cs : Array Value) (t : TypeId) (i : Nat) : (w.alloc (.cells cs t)).frozen? ⟨w.heap.size, i, none⟩ = false := by
  rw [frozen?_alloc_cells]
  simp [World.frozen?]
end Go.Proofs.Ytnanaldolnehiaa
