/-
  append of numbers onto a slice of the call's own: at a step of a region that draws its order, and in a plain region.
-/
import Derived.Test.YtnanaldolnehiaaSums
import Derived.Test.YtnanaldolnehiaaPos
set_option linter.unusedSimpArgs false
set_option linter.unusedVariables false
namespace Go.Proofs.Ytnanaldolnehiaa
open Go.ChangeShapes Go.WideShapes Go.RowKit Go.Deep

theorem append_run (base : Nat) (ty : TypeId) (A0 : Option Addr) (n c0 : Nat) (xs : List Int) (A : Option Addr) (m c B : Nat) (ys : List Int) (w : World) (ho : Own w base A0 n c0 xs) (hy : Ints w B A m c ys) (hn : n ≤ 4294967296) (hm : m ≤ 4294967296) (hbase : base ≤ w.heap.size) :
    ∃ A' c' w', (Builtin.append_ #[24, 24] ty #[.slice A0 n c0, .slice A m c]).run Try.prog w = .ok (.slice A' (n + m) c') w' ∧ Own w' base A' (n + m) c' (xs ++ ys) ∧ w.grownBy w' (Value.slice A0 n c0).ownBlock := by
  obtain ⟨i0, hi, hz0, hz1, hz2⟩ := info_parts info64
  have hl := hy.len
  rcases A with _ | ad
  · obtain ⟨rfl, rfl⟩ := hy.2.2.2.1 rfl
    obtain rfl : ys = [] := List.eq_nil_of_length_eq_zero hl
    refine ⟨A0, c0, w, ?_, ?_, World.grownBy.refl _ _⟩
    · simpa using run_append_owned_none (P := Try.prog) (w := w) base 24 ty 2 i0 1 Try.underlying24 hi _ n _ ho.row
    · simpa using ho
  · obtain ⟨v', w', hr, hown, hg, -⟩ := run_append_own (P := Try.prog) w base 24 ty 2 i0 _ 1 8 Try.underlying24 hi hz0 hz1 hz2 rfl (by decide) _ n _ ho.row ad m c (ys.map (Value.int .i64)) (by simp [hl]) hy.news (ints_oneCell _ _) (by unfold maxLen; omega) (by omega) hbase
    rw [← List.map_append] at hown
    obtain ⟨A', c', rfl, ho'⟩ := Own.of_row hown
    exact ⟨A', c', w', hr, ho', hg⟩

/-- At the operation, in a region that draws. -/
theorem step_append64 {ops : Array Oper} {o : Oper} {a : Act} {K : Act → World → Prop} {Q : Exit → Act → World → Prop} {E : Prop} {w : World} (hgd : o.guard = none) (s x : Operand)
    (hop : o.op = .call { callee := .builtin .append, args := #[s, x], argTypes := #[24, 24] })
    (base : Nat) (A0 : Option Addr) (n c0 : Nat) (xs : List Int) (A : Option Addr) (m c B : Nat) (ys : List Int) (hs : a.eval s = .slice A0 n c0) (hx : a.eval x = .slice A m c) (ho : Own w base A0 n c0 xs) (hy : Ints w B A m c ys) (hn : n ≤ 4294967296) (hm : m ≤ 4294967296) (hbase : base ≤ w.heap.size)
    (h : ∀ A' c' w', Own w' base A' (n + m) c' (xs ++ ys) → w.grownBy w' (Value.slice A0 n c0).ownBlock → K (a.put o.dst (.slice A' (n + m) c')) w') :
    if Region.wanted o (yielded ops a.tmps) = true then Oper.wp Try.prog o a w K Q else E := by
  have hw : Region.wanted o (yielded ops a.tmps) = true := by simp [Region.wanted, hgd]
  rw [if_pos hw]
  obtain ⟨A', c', w', hrun, ho', hg⟩ := append_run base o.type A0 n c0 xs A m c B ys w ho hy hn hm hbase
  unfold Oper.wp
  simp only [execOp, hop, resolve, invoke, builtin, Sem.run_bind, Sem.run_pure, Result.andThen_ok, List.map_toArray, List.map_cons, List.map_nil, hs, hx, hrun]
  exact h A' c' w' ho' hg

/-- .. in a plain region. -/
theorem list_append64 {ops : Array Oper} {rest : List Oper} {o : Oper} {a : Act} {Q : Exit → Act → World → Prop} {w : World} (hgd : o.guard = none) (s x : Operand)
    (hop : o.op = .call { callee := .builtin .append, args := #[s, x], argTypes := #[24, 24] })
    (base : Nat) (A0 : Option Addr) (n c0 : Nat) (xs : List Int) (A : Option Addr) (m c B : Nat) (ys : List Int) (hs : a.eval s = .slice A0 n c0) (hx : a.eval x = .slice A m c) (ho : Own w base A0 n c0 xs) (hy : Ints w B A m c ys) (hn : n ≤ 4294967296) (hm : m ≤ 4294967296) (hbase : base ≤ w.heap.size)
    (h : ∀ A' c' w', Own w' base A' (n + m) c' (xs ++ ys) → w.grownBy w' (Value.slice A0 n c0).ownBlock → wpList Try.prog ops Q rest (a.put o.dst (.slice A' (n + m) c')) w') : wpList Try.prog ops Q (o :: rest) a w := by
  refine wpList_plain hgd fun K hK => ?_
  obtain ⟨A', c', w', hrun, ho', hg⟩ := append_run base o.type A0 n c0 xs A m c B ys w ho hy hn hm hbase
  unfold Oper.wp
  simp only [execOp, hop, resolve, invoke, builtin, Sem.run_bind, Sem.run_pure, Result.andThen_ok, List.map_toArray, List.map_cons, List.map_nil, hs, hx, hrun]
  exact hK _ _ (h A' c' w' ho' hg)
theorem Own.growBelow {w w1 w2 : World} {base B n c : Nat} {A : Option Addr} {zs : List Int} (h : Below B w w1) (ho : Own w1 base A n c zs) (hg : w1.grownBy w2 (Value.slice A n c).ownBlock) (hB : B ≤ base) (hs : B ≤ w1.heap.size) : Below B w w2 :=
  h.grown hg hs (fun g e => Nat.le_trans hB (own_block ho e).2.1)
end Go.Proofs.Ytnanaldolnehiaa
