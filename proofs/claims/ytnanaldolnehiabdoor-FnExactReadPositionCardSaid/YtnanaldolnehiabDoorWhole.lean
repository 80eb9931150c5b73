/-
  All seeds of a position; whether a position is whole: IsWhole.
-/
import Derived.Test.YtnanaldolnehiabDoorEnds
set_option linter.unusedSimpArgs false
set_option linter.unusedVariables false
namespace Go.Proofs.YtnanaldolnehiabDoor
open Go.ChangeShapes Go.WideShapes Go.RowKit Go.Deep

theorem l04Ok_is (b o b2 o2 : Nat) (r : Ru) (A A' : Option Addr) (n c n' c' : Nat) (xs xs' : List Int) (pl : Int) (v : Bool) (hv : okP r xs xs' pl = v) (w : World) (hr : RuAt w b o r) (hp : PosAt w b2 o2 A n c A' n' c' pl)
    (h : Ints w w.heap.size A n c xs) (h' : Ints w w.heap.size A' n' c' xs') (hn : n ≤ 4294967296) :
    Calls Tryd.prog 54 #[.pointer (some ⟨b, o, none⟩), .pointer (some ⟨b2, o2, none⟩)] w fun e w' => e = .returned (.bool v) ∧ ∃ m, w' = w.drewN m := by
  subst hv
  exact l04Ok_any b o b2 o2 r A A' n c n' c' xs xs' pl w hr hp h h' hn
theorem l04Sum_is (B : Nat) (A : Option Addr) (n c : Nat) (zs : List Int) (v : Int) (hv : sumL zs = v) (w : World) (h : Ints w B A n c zs) (hn : n ≤ 4294967296) :
    Calls Tryd.prog 78 #[.slice A n c] w fun e w' => e = .returned (.int .i64 v) ∧ ∃ m, w' = w.drewN m := by
  subst hv
  exact l04Sum_any B A n c zs w h hn

/-- Whether a position is whole. -/
def wholeP (r : Ru) (xs xs' : List Int) (pl : Int) : Bool := okP r xs xs' pl && decide (xs.sum + xs'.sum = 2 * r.pits * r.seeds)
theorem okR_seeds {r : Ru} (h : okR r = true) : 1 ≤ r.seeds ∧ r.seeds ≤ 6 := by
  simp [okR, inB] at h
  omega

theorem bd_ps {p s : Int} (h0 : 2 ≤ p) (h1 : p ≤ 8) (h2 : 1 ≤ s) (h3 : s ≤ 6) : 0 ≤ 2 * p * s ∧ 2 * p * s ≤ 96 := by
  have a : 0 ≤ p * s := Int.mul_nonneg (by omega) (by omega)
  have b : p * s ≤ 8 * 6 := Int.mul_le_mul h1 h3 (by omega) (by omega)
  rw [Int.mul_assoc]
  omega

theorem ValidPosition_is (p s : Int) (st sk re fe ag : Bool) (c sl : Int) (A A' : Option Addr) (n u n' u' : Nat) (xs xs' : List Int) (pl : Int) (v : Bool) (hv : okP ⟨p, s, st, sk, re, fe, ag, c, sl⟩ xs xs' pl = v) (w : World) (h : Ints w w.heap.size A n u xs) (h' : Ints w w.heap.size A' n' u' xs') (hn : n ≤ 4294967296) :
    Calls Tryd.prog 57 #[.agg #[.int .i64 p, .int .i64 s, .bool st, .bool sk, .bool re, .bool fe, .bool ag, .int .i64 c, .int .i64 sl], .agg #[.slice A n u, .slice A' n' u', .int .i64 pl]] w fun e w' => e = .returned (.bool v) ∧ Below w.heap.size w w' := by
  subst hv
  exact ValidPosition_any p s st sk re fe ag c sl A A' n u n' u' xs xs' pl w h h' hn
end Go.Proofs.YtnanaldolnehiabDoor
