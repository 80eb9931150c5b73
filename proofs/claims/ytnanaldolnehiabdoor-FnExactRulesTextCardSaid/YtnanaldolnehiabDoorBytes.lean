/-
  Lists of bytes of the call's own; the bytes of an item: put, l14Put; PutNumber; the law FnExactPutNumber, walked.
-/
import Derived.Test.YtnanaldolnehiabDoorTexts
import Derived.Test.YtnanaldolnehiabDoorRules
set_option linter.unusedSimpArgs false
set_option linter.unusedVariables false
namespace Go.Proofs.YtnanaldolnehiabDoor
open Go.ChangeShapes Go.WideShapes Go.RowKit Go.Deep

theorem info8 : (Tryd.prog.info? 5).map (fun i => (i.zero, i.size, i.bytes)) = some (some (.int .u8 0), 1, 1) := by kernel_rfl
/-- The slice value is the call's own (its block is 'base' or above), and holds the numbers zs. -/
def OwnB (w : World) (base : Nat) (A : Option Addr) (n c : Nat) (zs : List UInt8) : Prop :=
  zs.length = n ∧ n ≤ c ∧ c ≤ 9223372036854775807 ∧ w.ownsRow base 5 1 (.slice A n c) n (zs.map (fun b : UInt8 => Value.int .u8 (b.toNat : Int)))
section
variable {w w' : World} {base base' n c : Nat} {A : Option Addr} {zs : List UInt8}
theorem OwnB.len (h : OwnB w base A n c zs) : zs.length = n := h.1
theorem OwnB.row (h : OwnB w base A n c zs) : w.ownsRow base 5 1 (.slice A n c) n (zs.map (fun b : UInt8 => Value.int .u8 (b.toNat : Int))) := h.2.2.2
theorem OwnB.of_row {v : Value} (h : w.ownsRow base 5 1 v n (zs.map (fun b : UInt8 => Value.int .u8 (b.toNat : Int)))) : ∃ A c, v = .slice A n c ∧ OwnB w base A n c zs := by
  have hl : zs.length = n := by simpa using h.1
  rcases h.2 with ⟨rfl, rfl⟩ | ⟨g, cap, cur, rfl, hb, hg, hnc, hcm, rest⟩
  · exact ⟨none, 0, rfl, hl, by omega, by omega, h⟩
  · refine ⟨_, cap, rfl, hl, hnc, ?_, h⟩
    unfold maxLen at hcm
    omega
theorem OwnB.form (h : OwnB w base A n c zs) : (A = none ∧ n = 0 ∧ c = 0) ∨ ∃ g, A = some ⟨g, 0, none⟩ ∧ base ≤ g ∧ g < w.heap.size := by
  rcases h.row.2 with ⟨e, rfl⟩ | ⟨g, cap, cur, e, hb, hg, _⟩
  · injection e with e1 e2 e3
    exact .inl ⟨e1, rfl, e3⟩
  · injection e with e1 e2 e3
    exact .inr ⟨g, e1, hb, (Array.getElem?_eq_some_iff.1 hg).1⟩
theorem OwnB.kept (h : OwnB w base A n c zs) {row : Option Nat} (hg : w.grownBy w' row) (hne : ∀ g, row = some g → g < base ∨ A ≠ some ⟨g, 0, none⟩) : OwnB w' base A n c zs := by
  refine ⟨h.1, h.2.1, h.2.2.1, h.row.kept hg ?_⟩
  rcases h.form with ⟨rfl, _⟩ | ⟨g, rfl, hb, _⟩
  · exact .inl rfl
  · refine .inr fun e => ?_
    rcases hne g (by rw [← e]; rfl) with h1 | h1
    · omega
    · exact h1 rfl
theorem OwnB.below {B : Nat} (h : OwnB w base A n c zs) (hb : Below B w w') (hB : w.heap.size ≤ B) : OwnB w' base A n c zs := h.kept (grown_of_below hb hB) (fun g e => by cases e)
theorem OwnB.alloc (h : OwnB w base A n c zs) (o : Obj) : OwnB (w.alloc o) base A n c zs := ⟨h.1, h.2.1, h.2.2.1, h.row.alloc o⟩
theorem OwnB.drewN (h : OwnB w base A n c zs) (k : Nat) : OwnB (w.drewN k) base A n c zs := h
end
theorem OwnB.byte {w : World} {base g n c : Nat} {zs : List UInt8} (h : OwnB w base (some ⟨g, 0, none⟩) n c zs) (j : Nat) (hj : j < zs.length) : w.cell? ((⟨g, 0, none⟩ : Addr).add j) = some (.int .u8 ((zs[j]).toNat : Int)) := by
  have h1 : j < n * 1 := by have := h.1; omega
  rw [add_plain, Nat.zero_add, h.row.cellAt j h1, List.getElem?_map, List.getElem?_eq_getElem hj]
  rfl
/-- 'string(b)' of bytes of the call's own. -/
theorem conv_own {w : World} {base n c : Nat} {A : Option Addr} {zs : List UInt8} (h : OwnB w base A n c zs) (hn : 0 < n) : (convert 94 9 (.slice A n c)).run Tryd.prog w = .ok (.string ⟨zs.toArray⟩) w := by
  rcases h.form with ⟨_, h1, _⟩ | ⟨g, rfl, _, _⟩
  · omega
  · have hl := h.len
    have := run_convert_bytes_back (P := Tryd.prog) w 94 9 5 ⟨g, 0, none⟩ c zs Tryd.underlying94 Tryd.underlying5 Tryd.underlying9 (fun j hj => h.byte j hj)
    rw [hl] at this
    exact this
theorem appendB_one (base : Nat) (ty : TypeId) (A0 : Option Addr) (n c0 : Nat) (xs : List UInt8) (x : Int) (hx0 : 0 ≤ x) (hx1 : x ≤ 255) (w : World) (b : Nat) (hb : b = w.heap.size) (ho : OwnB w base A0 n c0 xs) (hn : n ≤ 4294967296) (hbase : base ≤ w.heap.size) :
    ∃ A' c' w', (Builtin.append_ #[94, 94] ty #[.slice A0 n c0, .slice (some ⟨b, 0, none⟩) 1 1]).run Tryd.prog (w.alloc (.cells #[.int .u8 x] 5)) = .ok (.slice A' (n + 1) c') w' ∧ OwnB w' base A' (n + 1) c' (xs ++ [UInt8.ofNat x.toNat]) ∧ (w.alloc (.cells #[.int .u8 x] 5)).grownBy w' (Value.slice A0 n c0).ownBlock := by
  subst hb
  obtain ⟨i0, hi, hz0, hz1, hz2⟩ := info_parts info8
  obtain ⟨v', w', hr, hown, hg, -⟩ := run_append_own (P := Tryd.prog) (w.alloc (.cells #[.int .u8 x] 5)) base 94 ty 5 i0 _ 1 1 Tryd.underlying94 hi hz0 hz1 hz2 rfl (by decide) _ n _ (ho.alloc _).row ⟨w.heap.size, 0, none⟩ 1 1 [.int .u8 x] (by simp) (fun j u hu => by
      have hj : j = 0 := by
        have := (List.getElem?_eq_some_iff.1 hu).1
        simp at this
        omega
      subst hj
      simp at hu
      subst hu
      simp [World.cell?_alloc_new, Addr.add]) (by intro v hv; simp at hv; subst hv; rfl) (by unfold maxLen; omega) (by omega) (by simp; omega)
  have e : xs.map (fun b : UInt8 => Value.int .u8 (b.toNat : Int)) ++ [Value.int .u8 x] = (xs ++ [UInt8.ofNat x.toNat]).map (fun b : UInt8 => Value.int .u8 (b.toNat : Int)) := by
    simp
    omega
  rw [e] at hown
  obtain ⟨A', c', rfl, ho'⟩ := OwnB.of_row hown
  exact ⟨A', c', w', hr, ho', hg⟩
/-- 'append(s, b)' in a plain region. -/
theorem list_appendB {ops : Array Oper} {rest : List Oper} {o : Oper} {a : Act} {Q : Exit → Act → World → Prop} {w : World} (hgd : o.guard = none) (s x : Operand)
    (hop : o.op = .call { callee := .builtin .append, args := #[s, x], argTypes := #[94, 94] })
    (base : Nat) (A0 : Option Addr) (n c0 : Nat) (xs : List UInt8) (y : Int) (hx0 : 0 ≤ y) (hx1 : y ≤ 255) (b : Nat) (hb : b = w.heap.size) (hs : a.eval s = .slice A0 n c0) (hx : a.eval x = .slice (some ⟨b, 0, none⟩) 1 1) (ho : OwnB w base A0 n c0 xs) (hn : n ≤ 4294967296) (hbase : base ≤ w.heap.size)
    (h : ∀ A' c' w', OwnB w' base A' (n + 1) c' (xs ++ [UInt8.ofNat y.toNat]) → Below base w w' → wpList Tryd.prog ops Q rest (a.put o.dst (.slice A' (n + 1) c')) w') : wpList Tryd.prog ops Q (o :: rest) a (w.alloc (.cells #[.int .u8 y] 5)) := by
  refine wpList_plain hgd fun K hK => ?_
  obtain ⟨A', c', w', hrun, ho', hg⟩ := appendB_one base o.type A0 n c0 xs y hx0 hx1 w b hb ho hn hbase
  unfold Oper.wp
  simp only [execOp, hop, resolve, invoke, builtin, Sem.run_bind, Sem.run_pure, Result.andThen_ok, List.map_toArray, List.map_cons, List.map_nil, hs, hx, hrun]
  refine hK _ _ (h A' c' w' ho' (((Below.refl _ _).alloc hbase _).grown hg (by simp; omega) (fun g e => ?_)))
  rcases ho.form with ⟨rfl, _⟩ | ⟨g', rfl, hb', _⟩
  · cases e
  · simp [Value.ownBlock] at e
    omega

/-- The bytes of a number. -/
def pbs (u : Nat) : List UInt8 := if u < 128 then [UInt8.ofNat u] else UInt8.ofNat (u % 128 + 128) :: pbs (u / 128)
termination_by u
decreasing_by omega
theorem pbs_last {u : Nat} (h : u < 128) : pbs u = [UInt8.ofNat u] := by rw [pbs, if_pos h]
theorem pbs_step {u : Nat} (h : ¬ (u < 128)) : pbs u = UInt8.ofNat (u % 128 + 128) :: pbs (u / 128) := by rw [pbs, if_neg h]
/-- A number without its sign. -/
def zz (n : Int) : Nat := if n < 0 then (-2 * n - 1).toNat else (2 * n).toNat
/-- What PutNumber returns. -/
def pnS (n : Int) : ByteArray := if inB n (-1000000) 1000000 = true then ⟨(pbs (zz n)).toArray⟩ else ⟨#[]⟩
def pnC (n : Int) : Int := if inB n (-1000000) 1000000 = true then 0 else 2
end Go.Proofs.YtnanaldolnehiabDoor
