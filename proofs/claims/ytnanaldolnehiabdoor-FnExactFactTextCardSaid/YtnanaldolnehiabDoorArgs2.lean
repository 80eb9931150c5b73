/-
  The arguments of the laws, opened by their types in this seat's translation: problems, facts.
-/
import Derived.Test.YtnanaldolnehiabDoorArgs
namespace Go.Proofs.YtnanaldolnehiabDoor
open Go.ChangeShapes Go.WideShapes Go.RowKit Go.Deep

section
variable {H : Type} {enc : TypeId × Value → H} {w : World} {base : Nat} {spare : Nat → Bool} {held : Bool} {r : Reach} {b0 : Nat} {v : Value} {d : DataW H} {p : List MemPlace}

set_option maxRecDepth 100000 in
theorem open_problem (hv : Value.okWide Tryd.prog w r b0 47 v) (h : DataW.Trod enc Tryd.prog w base spare held 47 v d p) :
    ∃ (x0 x1 : Int) (s : ByteArray), v = .agg #[.int .i64 x0, .int .i64 x1, .string s] ∧ in64 x0 ∧ in64 x1 ∧ s.size ≤ maxLen := by
  obtain ⟨cs, rfl, hlen, hf⟩ := open_agg1 Tryd.underlying47 (by kernel_rfl) hv h
  obtain ⟨c0, c1, c2, rfl⟩ := list3 cs (hlen.trans (by kernel_rfl))
  obtain ⟨_, _, t0⟩ := hf 0 _ rfl (by simp)
  obtain ⟨_, _, t1⟩ := hf 1 _ rfl (by simp)
  obtain ⟨_, _, t2⟩ := hf 2 _ rfl (by simp)
  obtain ⟨x0, e0, _, b0⟩ := DataW.trod_int Tryd.underlying2 t0
  obtain ⟨x1, e1, _, b1⟩ := DataW.trod_int Tryd.underlying2 t1
  obtain ⟨x2, e2, _, b2⟩ := DataW.trod_string Tryd.underlying9 t2
  simp at e0 e1 e2
  subst e0 e1 e2
  exact ⟨x0, x1, x2, rfl, wf64 b0, wf64 b1, b2⟩
set_option maxRecDepth 100000 in
theorem open_fact (hv : Value.okWide Tryd.prog w r b0 58 v) (h : DataW.Trod enc Tryd.prog w base spare held 58 v d p) :
    ∃ (x0 x1 x2 : Int), v = .agg #[.int .i64 x0, .int .i64 x1, .int .i64 x2] ∧ in64 x0 ∧ in64 x1 ∧ in64 x2 := by
  obtain ⟨cs, rfl, hlen, hf⟩ := open_agg1 Tryd.underlying58 (by kernel_rfl) hv h
  obtain ⟨c0, c1, c2, rfl⟩ := list3 cs (hlen.trans (by kernel_rfl))
  obtain ⟨_, _, t0⟩ := hf 0 _ rfl (by simp)
  obtain ⟨_, _, t1⟩ := hf 1 _ rfl (by simp)
  obtain ⟨_, _, t2⟩ := hf 2 _ rfl (by simp)
  obtain ⟨x0, e0, _, b0⟩ := DataW.trod_int Tryd.underlying2 t0
  obtain ⟨x1, e1, _, b1⟩ := DataW.trod_int Tryd.underlying2 t1
  obtain ⟨x2, e2, _, b2⟩ := DataW.trod_int Tryd.underlying2 t2
  simp at e0 e1 e2
  subst e0 e1 e2
  exact ⟨x0, x1, x2, rfl, wf64 b0, wf64 b1, wf64 b2⟩
end
end Go.Proofs.YtnanaldolnehiabDoor
