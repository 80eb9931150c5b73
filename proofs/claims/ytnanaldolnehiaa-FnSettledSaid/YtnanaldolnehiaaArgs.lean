/-
  The arguments of the laws, opened by their types in this seat's translation: rules, positions, sown seeds, lists of numbers.
-/
import Derived.Test.YtnanaldolnehiaaRows
import Derived.Test.YtnanaldolnehiaaWords
namespace Go.Proofs.Ytnanaldolnehiaa
open Go.ChangeShapes Go.WideShapes Go.RowKit Go.Deep

theorem own : ownKnob Try.prog.godebug = none := by kernel_rfl
theorem laidOut : laidOutB Try.prog = true := by kernel_rfl

section
variable {H : Type} {enc : TypeId × Value → H} {w : World} {base : Nat} {spare : Nat → Bool} {held : Bool} {r : Reach} {b0 : Nat} {v : Value} {d : DataW H} {p : List MemPlace}

set_option maxRecDepth 100000 in
theorem open_rules (hv : Value.okWide Try.prog w r b0 23 v) (h : DataW.Trod enc Try.prog w base spare held 23 v d p) : ∃ x : Ru, v = .agg x.cells.toArray ∧ x.wf := by
  obtain ⟨cs, rfl, hlen, hf⟩ := open_agg1 Try.underlying23 (by kernel_rfl) hv h
  obtain ⟨c0, c1, c2, c3, c4, c5, c6, c7, c8, rfl⟩ := list9 cs (hlen.trans (by kernel_rfl))
  obtain ⟨_, _, t0⟩ := hf 0 _ rfl (by simp)
  obtain ⟨_, _, t1⟩ := hf 1 _ rfl (by simp)
  obtain ⟨_, _, t2⟩ := hf 2 _ rfl (by simp)
  obtain ⟨_, _, t3⟩ := hf 3 _ rfl (by simp)
  obtain ⟨_, _, t4⟩ := hf 4 _ rfl (by simp)
  obtain ⟨_, _, t5⟩ := hf 5 _ rfl (by simp)
  obtain ⟨_, _, t6⟩ := hf 6 _ rfl (by simp)
  obtain ⟨_, _, t7⟩ := hf 7 _ rfl (by simp)
  obtain ⟨_, _, t8⟩ := hf 8 _ rfl (by simp)
  obtain ⟨x0, e0, _, b0⟩ := DataW.trod_int Try.underlying2 t0
  obtain ⟨x1, e1, _, b1⟩ := DataW.trod_int Try.underlying2 t1
  obtain ⟨x2, e2, _⟩ := DataW.trod_bool Try.underlying4 t2
  obtain ⟨x3, e3, _⟩ := DataW.trod_bool Try.underlying4 t3
  obtain ⟨x4, e4, _⟩ := DataW.trod_bool Try.underlying4 t4
  obtain ⟨x5, e5, _⟩ := DataW.trod_bool Try.underlying4 t5
  obtain ⟨x6, e6, _⟩ := DataW.trod_bool Try.underlying4 t6
  obtain ⟨x7, e7, _, b7⟩ := DataW.trod_int Try.underlying2 t7
  obtain ⟨x8, e8, _, b8⟩ := DataW.trod_int Try.underlying2 t8
  simp at e0 e1 e2 e3 e4 e5 e6 e7 e8
  subst e0 e1 e2 e3 e4 e5 e6 e7 e8
  exact ⟨⟨x0, x1, x2, x3, x4, x5, x6, x7, x8⟩, rfl, wf64 b0, wf64 b1, wf64 b7, wf64 b8⟩
set_option maxRecDepth 100000 in
theorem open_position (hv : Value.okWide Try.prog w r b0 26 v) (h : DataW.Trod enc Try.prog w base spare held 26 v d p) :
    ∃ A n c zs A' n' c' zs' pl, v = .agg #[.slice A n c, .slice A' n' c', .int .i64 pl] ∧ Ints w w.heap.size A n c zs ∧ Ints w w.heap.size A' n' c' zs' ∧ (∀ z ∈ zs, in64 z) ∧ (∀ z ∈ zs', in64 z) ∧ in64 pl := by
  obtain ⟨cs, rfl, hlen, hf⟩ := open_agg1 Try.underlying26 (by kernel_rfl) hv h
  obtain ⟨c0, c1, c2, rfl⟩ := list3 cs (hlen.trans (by kernel_rfl))
  obtain ⟨_, _, t0⟩ := hf 0 _ rfl (by simp)
  obtain ⟨_, _, t1⟩ := hf 1 _ rfl (by simp)
  obtain ⟨_, _, t2⟩ := hf 2 _ rfl (by simp)
  obtain ⟨A, n, c, zs, e0, i0, b0⟩ := open_ints64 Try.underlying24 Try.underlying2 (by kernel_rfl) t0
  obtain ⟨A', n', c', zs', e1, i1, b1⟩ := open_ints64 Try.underlying24 Try.underlying2 (by kernel_rfl) t1
  obtain ⟨x2, e2, _, b2⟩ := DataW.trod_int Try.underlying2 t2
  simp at e0 e1 e2
  subst e0 e1 e2
  exact ⟨A, n, c, zs, A', n', c', zs', x2, rfl, i0, i1, b0, b1, wf64 b2⟩
set_option maxRecDepth 100000 in
theorem open_slice64 (hv : Value.okWide Try.prog w r b0 24 v) (h : DataW.Trod enc Try.prog w base spare held 24 v d p) :
    ∃ A n c zs, v = .slice A n c ∧ Ints w w.heap.size A n c zs ∧ ∀ z ∈ zs, in64 z := by
  obtain ⟨a0, len0, cap0, rfl⟩ := okWide_slice Try.underlying24 hv
  obtain ⟨fuel, hf⟩ := h
  obtain ⟨A, n, c, zs, e, hi, hz⟩ := open_ints64 Try.underlying24 Try.underlying2 (by kernel_rfl) hf
  exact ⟨A, n, c, zs, e, hi, hz⟩
end
end Go.Proofs.Ytnanaldolnehiaa
