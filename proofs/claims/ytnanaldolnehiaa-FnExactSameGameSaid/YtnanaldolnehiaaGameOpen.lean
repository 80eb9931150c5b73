/-
  A game that came in, opened by its type.
-/
import Derived.Test.YtnanaldolnehiaaArgs
import Derived.Test.YtnanaldolnehiaaGame
set_option linter.unusedSimpArgs false
set_option linter.unusedVariables false
namespace Go.Proofs.Ytnanaldolnehiaa
open Go.ChangeShapes Go.WideShapes Go.RowKit Go.Deep

theorem list17 {α : Type} (l : List α) (h : l.length = 17) : ∃ a b c d e f g i j k m n o p q r s, l = [a, b, c, d, e, f, g, i, j, k, m, n, o, p, q, r, s] := by
  match l, h with
  | [a, b, c, d, e, f, g, i, j, k, m, n, o, p, q, r, s], _ => exact ⟨a, b, c, d, e, f, g, i, j, k, m, n, o, p, q, r, s, rfl⟩
section
variable {H : Type} {enc : TypeId × Value → H} {w : World} {base : Nat} {spare : Nat → Bool} {held : Bool} {r : Reach} {B00 : Nat} {v : Value} {dd : DataW H} {pp : List MemPlace}

theorem sub_agg {P : Program} {t : TypeId} {fs : Array Field} {fuel : Nat} {l : List Value} {x : DataW H × List MemPlace} (hs : P.underlying t = some (.struct fs))
    (hf : DataW.trod enc P w base spare held fuel t l = some x) (i : Nat) (f : Field) (hi : fs[i]? = some f) :
    ∃ n y, DataW.trod enc P w base spare held n f.type ((l.drop f.offset).take (P.cellsOf f.type)) = some y := by
  obtain ⟨xs, n, _, hx, _, hlen, hg⟩ := DataW.trod_struct hs hf
  have hlt : i < fs.size := (Array.getElem?_eq_some_iff.1 hi).1
  have h1 := hg i f hi
  refine ⟨n, xs[i]'(by omega), ?_⟩
  rw [List.getElem?_eq_getElem (by omega)] at h1
  exact h1
theorem sub_agg1 {P : Program} {t : TypeId} {fs : Array Field} {fuel : Nat} {l : List Value} {x : DataW H × List MemPlace} (hs : P.underlying t = some (.struct fs)) (hone : oneCellFields P fs = true)
    (hf : DataW.trod enc P w base spare held fuel t l = some x) (i : Nat) (f : Field) (hi : fs[i]? = some f) (hlt : i < l.length) :
    ∃ n y, DataW.trod enc P w base spare held n f.type [l.getD i undef] = some y := by
  obtain ⟨n, y, hy⟩ := sub_agg hs hf i f hi
  obtain ⟨ho, hk⟩ := hone_of hone i f hi
  rw [ho, hk, take1_drop l i undef hlt] at hy
  exact ⟨n, y, hy⟩
set_option maxRecDepth 100000 in
theorem open_game (hv : Value.okWide Try.prog w r B00 46 v) (h : DataW.Trod enc Try.prog w base spare held 46 v dd pp) :
    ∃ (p1 s1 : Int) (st1 sk1 re1 fe1 ag1 : Bool) (c1 sl1 : Int) (A1 : Option Addr) (n1 u1 : Nat) (A1' : Option Addr) (n1' u1' : Nat) (pl1 : Int) (M1 : Option Addr) (k1 d1 : Nat) (B1 : Option Addr) (m1 e1 : Nat) (B1' : Option Addr) (m1' e1' : Nat) (ql1 z1 : Int) (xs1 xs1' ms1 ys1 ys1' : List Int), v = .agg #[.int .i64 p1, .int .i64 s1, .bool st1, .bool sk1, .bool re1, .bool fe1, .bool ag1, .int .i64 c1, .int .i64 sl1, .slice A1 n1 u1, .slice A1' n1' u1', .int .i64 pl1, .slice M1 k1 d1, .slice B1 m1 e1, .slice B1' m1' e1', .int .i64 ql1, .int .i64 z1] ∧
      (Ints w w.heap.size A1 n1 u1 xs1 ∧ Ints w w.heap.size A1' n1' u1' xs1' ∧ Ints w w.heap.size M1 k1 d1 ms1 ∧ Ints w w.heap.size B1 m1 e1 ys1 ∧ Ints w w.heap.size B1' m1' e1' ys1') := by
  obtain ⟨cs, rfl, hlen, hf⟩ := open_agg Try.underlying46 hv h
  obtain ⟨c0, c1, c2, c3, c4, c5, c6, c7, c8, c9, c10, c11, c12, c13, c14, c15, c16, rfl⟩ := list17 cs (hlen.trans (by kernel_rfl))
  obtain ⟨_, _, g0⟩ := hf 0 _ rfl
  replace g0 : DataW.trod enc Try.prog w base spare held _ 23 ((([c0, c1, c2, c3, c4, c5, c6, c7, c8, c9, c10, c11, c12, c13, c14, c15, c16] : List Value).drop 0).take (Try.prog.cellsOf 23)) = some _ := g0
  rw [show Try.prog.cellsOf 23 = 9 by kernel_rfl] at g0
  replace g0 : DataW.trod enc Try.prog w base spare held _ 23 [c0, c1, c2, c3, c4, c5, c6, c7, c8] = some _ := g0
  obtain ⟨_, _, g1⟩ := hf 1 _ rfl
  replace g1 : DataW.trod enc Try.prog w base spare held _ 26 ((([c0, c1, c2, c3, c4, c5, c6, c7, c8, c9, c10, c11, c12, c13, c14, c15, c16] : List Value).drop 9).take (Try.prog.cellsOf 26)) = some _ := g1
  rw [show Try.prog.cellsOf 26 = 3 by kernel_rfl] at g1
  replace g1 : DataW.trod enc Try.prog w base spare held _ 26 [c9, c10, c11] = some _ := g1
  obtain ⟨_, _, g2⟩ := hf 2 _ rfl
  replace g2 : DataW.trod enc Try.prog w base spare held _ 24 ((([c0, c1, c2, c3, c4, c5, c6, c7, c8, c9, c10, c11, c12, c13, c14, c15, c16] : List Value).drop 12).take (Try.prog.cellsOf 24)) = some _ := g2
  rw [show Try.prog.cellsOf 24 = 1 by kernel_rfl] at g2
  replace g2 : DataW.trod enc Try.prog w base spare held _ 24 [c12] = some _ := g2
  obtain ⟨_, _, g3⟩ := hf 3 _ rfl
  replace g3 : DataW.trod enc Try.prog w base spare held _ 26 ((([c0, c1, c2, c3, c4, c5, c6, c7, c8, c9, c10, c11, c12, c13, c14, c15, c16] : List Value).drop 13).take (Try.prog.cellsOf 26)) = some _ := g3
  rw [show Try.prog.cellsOf 26 = 3 by kernel_rfl] at g3
  replace g3 : DataW.trod enc Try.prog w base spare held _ 26 [c13, c14, c15] = some _ := g3
  obtain ⟨_, _, g4⟩ := hf 4 _ rfl
  replace g4 : DataW.trod enc Try.prog w base spare held _ 2 ((([c0, c1, c2, c3, c4, c5, c6, c7, c8, c9, c10, c11, c12, c13, c14, c15, c16] : List Value).drop 16).take (Try.prog.cellsOf 2)) = some _ := g4
  rw [show Try.prog.cellsOf 2 = 1 by kernel_rfl] at g4
  replace g4 : DataW.trod enc Try.prog w base spare held _ 2 [c16] = some _ := g4
  clear hf h hv
  obtain ⟨_, _, t0⟩ := sub_agg1 Try.underlying23 (by kernel_rfl) g0 0 _ rfl (by simp)
  obtain ⟨_, _, t1⟩ := sub_agg1 Try.underlying23 (by kernel_rfl) g0 1 _ rfl (by simp)
  obtain ⟨_, _, t2⟩ := sub_agg1 Try.underlying23 (by kernel_rfl) g0 2 _ rfl (by simp)
  obtain ⟨_, _, t3⟩ := sub_agg1 Try.underlying23 (by kernel_rfl) g0 3 _ rfl (by simp)
  obtain ⟨_, _, t4⟩ := sub_agg1 Try.underlying23 (by kernel_rfl) g0 4 _ rfl (by simp)
  obtain ⟨_, _, t5⟩ := sub_agg1 Try.underlying23 (by kernel_rfl) g0 5 _ rfl (by simp)
  obtain ⟨_, _, t6⟩ := sub_agg1 Try.underlying23 (by kernel_rfl) g0 6 _ rfl (by simp)
  obtain ⟨_, _, t7⟩ := sub_agg1 Try.underlying23 (by kernel_rfl) g0 7 _ rfl (by simp)
  obtain ⟨_, _, t8⟩ := sub_agg1 Try.underlying23 (by kernel_rfl) g0 8 _ rfl (by simp)
  obtain ⟨_, _, t9⟩ := sub_agg1 Try.underlying26 (by kernel_rfl) g1 0 _ rfl (by simp)
  obtain ⟨_, _, t10⟩ := sub_agg1 Try.underlying26 (by kernel_rfl) g1 1 _ rfl (by simp)
  obtain ⟨_, _, t11⟩ := sub_agg1 Try.underlying26 (by kernel_rfl) g1 2 _ rfl (by simp)
  obtain ⟨_, _, t13⟩ := sub_agg1 Try.underlying26 (by kernel_rfl) g3 0 _ rfl (by simp)
  obtain ⟨_, _, t14⟩ := sub_agg1 Try.underlying26 (by kernel_rfl) g3 1 _ rfl (by simp)
  obtain ⟨_, _, t15⟩ := sub_agg1 Try.underlying26 (by kernel_rfl) g3 2 _ rfl (by simp)
  obtain ⟨x0, e0, _, _⟩ := DataW.trod_int Try.underlying2 t0
  obtain ⟨x1, e1, _, _⟩ := DataW.trod_int Try.underlying2 t1
  obtain ⟨x7, e7, _, _⟩ := DataW.trod_int Try.underlying2 t7
  obtain ⟨x8, e8, _, _⟩ := DataW.trod_int Try.underlying2 t8
  obtain ⟨x11, e11, _, _⟩ := DataW.trod_int Try.underlying2 t11
  obtain ⟨x15, e15, _, _⟩ := DataW.trod_int Try.underlying2 t15
  obtain ⟨x16, e16, _, _⟩ := DataW.trod_int Try.underlying2 g4
  obtain ⟨x2, e2, _⟩ := DataW.trod_bool Try.underlying4 t2
  obtain ⟨x3, e3, _⟩ := DataW.trod_bool Try.underlying4 t3
  obtain ⟨x4, e4, _⟩ := DataW.trod_bool Try.underlying4 t4
  obtain ⟨x5, e5, _⟩ := DataW.trod_bool Try.underlying4 t5
  obtain ⟨x6, e6, _⟩ := DataW.trod_bool Try.underlying4 t6
  obtain ⟨A9, n9, u9, zs9, e9, i9, _⟩ := open_ints64 Try.underlying24 Try.underlying2 (by kernel_rfl) t9
  obtain ⟨A10, n10, u10, zs10, e10, i10, _⟩ := open_ints64 Try.underlying24 Try.underlying2 (by kernel_rfl) t10
  obtain ⟨A13, n13, u13, zs13, e13, i13, _⟩ := open_ints64 Try.underlying24 Try.underlying2 (by kernel_rfl) t13
  obtain ⟨A14, n14, u14, zs14, e14, i14, _⟩ := open_ints64 Try.underlying24 Try.underlying2 (by kernel_rfl) t14
  obtain ⟨A12, n12, u12, zs12, e12, i12, _⟩ := open_ints64 Try.underlying24 Try.underlying2 (by kernel_rfl) g2
  simp at e0 e1 e2 e3 e4 e5 e6 e7 e8 e9 e10 e11 e12 e13 e14 e15 e16
  subst e0 e1 e2 e3 e4 e5 e6 e7 e8 e9 e10 e11 e12 e13 e14 e15 e16
  exact ⟨x0, x1, x2, x3, x4, x5, x6, x7, x8, A9, n9, u9, A10, n10, u10, x11, A12, n12, u12, A13, n13, u13, A14, n14, u14, x15, x16, zs9, zs10, zs12, zs13, zs14, rfl, i9, i10, i12, i13, i14⟩
end
end Go.Proofs.Ytnanaldolnehiaa
