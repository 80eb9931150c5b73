/-
  Lists of texts in memory: equal or not, marked and held; the marks as texts.
-/
import Derived.Test.YtnanaldolnehiabDoorLists
import Derived.Laws.IdiomStrings
import Derived.Deep.RegionHeld3
set_option linter.unusedSimpArgs false
set_option linter.unusedVariables false
namespace Go.Proofs.YtnanaldolnehiabDoor
open Go.ChangeShapes Go.WideShapes Go.RowKit Go.Deep

/-! ### lists of texts -/
/-- The slice value '.slice A n c' holds the numbers zs; their cells lie below block B. -/
def Strs (w : World) (B : Nat) (A : Option Addr) (n c : Nat) (zs : List ByteArray) : Prop :=
  zs.length = n ∧ n ≤ c ∧ c ≤ 9223372036854775807 ∧ (A = none → n = 0 ∧ c = 0) ∧ (0 < n → ∃ b off, A = some ⟨b, off, none⟩ ∧ b < B ∧ ∀ j x, zs[j]? = some x → w.cell? ⟨b, off + j, none⟩ = some (.string x))

section
variable {w w' : World} {B B' n c : Nat} {A : Option Addr} {zs : List ByteArray}
theorem Strs.len (h : Strs w B A n c zs) : zs.length = n := h.1
theorem Strs.le (h : Strs w B A n c zs) : n ≤ 9223372036854775807 := Nat.le_trans h.2.1 h.2.2.1
theorem Strs.at_ (h : Strs w B A n c zs) (hn : 0 < n) : ∃ b off, A = some ⟨b, off, none⟩ ∧ b < B ∧ ∀ j x, zs[j]? = some x → w.cell? ⟨b, off + j, none⟩ = some (.string x) := h.2.2.2.2 hn
theorem Strs.keep (h : Strs w B A n c zs) (hk : ∀ p : Addr, p.block < B → w'.cell? p = w.cell? p) : Strs w' B A n c zs :=
  ⟨h.1, h.2.1, h.2.2.1, h.2.2.2.1, fun hn => by
    obtain ⟨b, off, e, hb, hc⟩ := h.at_ hn
    exact ⟨b, off, e, hb, fun j x hx => (hk _ hb).trans (hc j x hx)⟩⟩
theorem Strs.more (h : Strs w B A n c zs) (hB : B ≤ B') : Strs w B' A n c zs :=
  ⟨h.1, h.2.1, h.2.2.1, h.2.2.2.1, fun hn => by
    obtain ⟨b, off, e, hb, hc⟩ := h.at_ hn
    exact ⟨b, off, e, by omega, hc⟩⟩
theorem Strs.below (h : Strs w B A n c zs) (hb : Below B w w') : Strs w' B A n c zs := h.keep fun _ hp => hb.cell hp
theorem Strs.drew (h : Strs w B A n c zs) : Strs w.drew B A n c zs := h
theorem Strs.drewN (h : Strs w B A n c zs) (k : Nat) : Strs (w.drewN k) B A n c zs := h
theorem Strs.alloc (h : Strs w B A n c zs) (hB : B ≤ w.heap.size) (o : Obj) : Strs (w.alloc o) B A n c zs := h.keep fun p hp => World.cell?_alloc_lt w o p (by omega)
theorem Strs.setCell (h : Strs w B A n c zs) {p : Addr} (hB : B ≤ p.block) (u : Value) : Strs (w.setCell p u) B A n c zs :=
  h.keep fun q hq => World.cell?_setCell_other w p q u (fun e => by subst e; omega)
theorem Strs.grown (h : Strs w B A n c zs) {row : Option Nat} (hg : w.grownBy w' row) (hB : B ≤ w.heap.size) (hr : ∀ g, row = some g → B ≤ g) : Strs w' B A n c zs :=
  h.keep fun p hp => World.cell?_of_block (hg.block p.block (by omega) (fun e => by have := hr _ e.symm; omega))
theorem Strs.sub (h : Strs w w.heap.size A n c zs) (hs : Below w.heap.size w w') : Strs w' w'.heap.size A n c zs := (h.below hs).more hs.size
theorem Strs.nil (w : World) (B : Nat) : Strs w B none 0 0 [] := ⟨rfl, by omega, by omega, fun _ => ⟨rfl, rfl⟩, fun h => by omega⟩
end
/-- A list's element in front of its end. -/
theorem t_get_some {zs : List ByteArray} {k : Nat} (h : k < zs.length) : ∃ x, zs[k]? = some x := ⟨_, List.getElem?_eq_getElem h⟩
theorem t_take_step {xs ys : List ByteArray} {k : Nat} {x : ByteArray} (h : xs.take k = ys.take k) (hx : xs[k]? = some x) (hy : ys[k]? = some x) : xs.take (k + 1) = ys.take (k + 1) := by
  rw [List.take_add_one, List.take_add_one, h, hx, hy]
theorem t_take_ne {xs ys : List ByteArray} {k : Nat} {x y : ByteArray} (hx : xs[k]? = some x) (hy : ys[k]? = some y) (h : x ≠ y) : xs ≠ ys := by
  rintro rfl
  rw [hx] at hy
  exact h (by injection hy)
theorem t_take_all {xs ys : List ByteArray} {n : Nat} (h : xs.take n = ys.take n) (hx : xs.length = n) (hy : ys.length = n) : xs = ys := by
  rw [List.take_of_length_le (by omega), List.take_of_length_le (by omega)] at h
  exact h

/-- The slice value is the call's own (its block is 'base' or above), and holds the numbers zs. -/
def OwnT (w : World) (base : Nat) (A : Option Addr) (n c : Nat) (zs : List ByteArray) : Prop :=
  zs.length = n ∧ n ≤ c ∧ c ≤ 9223372036854775807 ∧ w.ownsRow base 9 1 (.slice A n c) n (zs.map (Value.string))
section
variable {w w' : World} {base base' n c : Nat} {A : Option Addr} {zs : List ByteArray}
theorem OwnT.len (h : OwnT w base A n c zs) : zs.length = n := h.1
theorem OwnT.row (h : OwnT w base A n c zs) : w.ownsRow base 9 1 (.slice A n c) n (zs.map (Value.string)) := h.2.2.2
theorem OwnT.of_row {v : Value} (h : w.ownsRow base 9 1 v n (zs.map (Value.string))) : ∃ A c, v = .slice A n c ∧ OwnT w base A n c zs := by
  have hl : zs.length = n := by simpa using h.1
  rcases h.2 with ⟨rfl, rfl⟩ | ⟨g, cap, cur, rfl, hb, hg, hnc, hcm, rest⟩
  · exact ⟨none, 0, rfl, hl, by omega, by omega, h⟩
  · refine ⟨_, cap, rfl, hl, hnc, ?_, h⟩
    unfold maxLen at hcm
    omega
theorem OwnT.form (h : OwnT w base A n c zs) : (A = none ∧ n = 0 ∧ c = 0) ∨ ∃ g, A = some ⟨g, 0, none⟩ ∧ base ≤ g ∧ g < w.heap.size := by
  rcases h.row.2 with ⟨e, rfl⟩ | ⟨g, cap, cur, e, hb, hg, _⟩
  · injection e with e1 e2 e3
    exact .inl ⟨e1, rfl, e3⟩
  · injection e with e1 e2 e3
    exact .inr ⟨g, e1, hb, (Array.getElem?_eq_some_iff.1 hg).1⟩
theorem OwnT.ints (h : OwnT w base A n c zs) : Strs w w.heap.size A n c zs := by
  refine ⟨h.1, h.2.1, h.2.2.1, ?_, fun hn => ?_⟩
  · rcases h.form with ⟨_, h1, h2⟩ | ⟨g, rfl, _⟩
    · exact fun _ => ⟨h1, h2⟩
    · intro e; cases e
  · rcases h.form with ⟨_, h1, _⟩ | ⟨g, rfl, hb, hg⟩
    · omega
    · refine ⟨g, 0, rfl, hg, fun j x hx => ?_⟩
      have hj : j < n := by have := (List.getElem?_eq_some_iff.1 hx).1; have := h.1; omega
      rw [Nat.zero_add, h.row.cellAt j (by omega), List.getElem?_map, hx]
      rfl
theorem OwnT.kept (h : OwnT w base A n c zs) {row : Option Nat} (hg : w.grownBy w' row) (hne : ∀ g, row = some g → g < base ∨ A ≠ some ⟨g, 0, none⟩) : OwnT w' base A n c zs := by
  refine ⟨h.1, h.2.1, h.2.2.1, h.row.kept hg ?_⟩
  rcases h.form with ⟨rfl, _⟩ | ⟨g, rfl, hb, _⟩
  · exact .inl rfl
  · refine .inr fun e => ?_
    rcases hne g (by rw [← e]; rfl) with h1 | h1
    · omega
    · exact h1 rfl
theorem OwnT.below {B : Nat} (h : OwnT w base A n c zs) (hb : Below B w w') (hB : w.heap.size ≤ B) : OwnT w' base A n c zs := h.kept (grown_of_below hb hB) (fun g e => by cases e)
theorem OwnT.alloc (h : OwnT w base A n c zs) (o : Obj) : OwnT (w.alloc o) base A n c zs := ⟨h.1, h.2.1, h.2.2.1, h.row.alloc o⟩
theorem OwnT.drewN (h : OwnT w base A n c zs) (k : Nat) : OwnT (w.drewN k) base A n c zs := h
end
theorem OwnT.stored {w : World} {base g n c : Nat} {zs : List ByteArray} (h : OwnT w base (some ⟨g, 0, none⟩) n c zs) (k : Nat) (x : ByteArray) :
    OwnT (w.setCell ⟨g, k, none⟩ (.string x)) base (some ⟨g, 0, none⟩) n c (zs.set k x) ∧ w.grownBy (w.setCell ⟨g, k, none⟩ (.string x)) (some g) := by
  obtain ⟨h1, h2⟩ := h.row.stored k (.string x)
  refine ⟨⟨by simpa using h.1, h.2.1, h.2.2.1, ?_⟩, h2⟩
  rw [List.map_set]
  exact h1
theorem OwnT.cell {w : World} {base g n c : Nat} {zs : List ByteArray} (h : OwnT w base (some ⟨g, 0, none⟩) n c zs) {k : Nat} {x : ByteArray} (hx : zs[k]? = some x) : w.cell? ⟨g, k, none⟩ = some (.string x) := by
  have hk : k < n := by have := (List.getElem?_eq_some_iff.1 hx).1; have := h.1; omega
  rw [h.row.cellAt k (by omega), List.getElem?_map, hx]
  rfl
theorem OwnT.free {w : World} {base g n c : Nat} {zs : List ByteArray} (h : OwnT w base (some ⟨g, 0, none⟩) n c zs) (k : Nat) : w.frozen? ⟨g, k, none⟩ = false := h.row.frozenAt k

/-- The digits of a number, in front of what stands. -/
def digs (k : Nat) (l : List UInt8) : List UInt8 := if h : k = 0 then l else digs (k / 10) (UInt8.ofNat (48 + k % 10) :: l)
termination_by k
decreasing_by omega
theorem digs_zero (l : List UInt8) : digs 0 l = l := by rw [digs]; simp
theorem digs_step (k : Nat) (l : List UInt8) (h : 0 < k) : digs k l = digs (k / 10) (UInt8.ofNat (48 + k % 10) :: l) := by rw [digs, dif_neg (by omega)]
/-- The text of a mark. -/
def mt (k : Nat) : ByteArray := ⟨(109 :: digs k []).toArray⟩
theorem undrewT {B : Nat} {w w' : World} (h : Below B w.drew w') : Below B w w' := ⟨h.os, h.tape, h.output, h.size, h.block⟩
theorem cat_cons (d : UInt8) (l : List UInt8) : ((⟨#[d]⟩ : ByteArray) ++ (⟨l.toArray⟩ : ByteArray)) = ⟨(d :: l).toArray⟩ := by
  apply ByteArray.ext
  simp
theorem toList_ne {x y : ByteArray} (h : ¬ (x = y)) : (x.toList == y.toList) = false := by
  rw [beq_eq_false_iff_ne]
  intro e
  rw [ByteArray.toList_eq, ByteArray.toList_eq] at e
  exact h (ByteArray.ext (Array.toList_inj.mp e))
/-- 'string([]byte{b})'. -/
theorem conv_one (w : World) (x : Int) (h0 : 0 ≤ x) (h1 : x ≤ 255) : (convert 94 9 (.slice (some ⟨w.heap.size, 0, none⟩) 1 1)).run Tryd.prog (w.alloc (.cells #[.int .u8 x] 5)) = .ok (.string ⟨#[UInt8.ofNat x.toNat]⟩) (w.alloc (.cells #[.int .u8 x] 5)) := by
  have := run_convert_bytes_back (P := Tryd.prog) (w.alloc (.cells #[.int .u8 x] 5)) 94 9 5 ⟨w.heap.size, 0, none⟩ 1 [UInt8.ofNat x.toNat] Tryd.underlying94 Tryd.underlying5 Tryd.underlying9 (fun j hj => by
    simp at hj
    subst hj
    simp [World.cell?_alloc_new, Addr.add]
    omega)
  simpa using this
/-- The marks k0, k0 + 1, .. as texts. -/
def tmarks (k0 : Nat) (m : Nat) : List ByteArray := (List.range m).map (fun (j : Nat) => mt (k0 + j))
theorem tmarks_len (k0 : Nat) (m : Nat) : (tmarks k0 m).length = m := by simp [tmarks]
theorem tmarks_get {k0 : Nat} {m k : Nat} (h : k < m) : (tmarks k0 m)[k]? = some (mt (k0 + k)) := by simp [tmarks, h]
theorem tmarks_step {k0 : Nat} {k : Nat} {zs : List ByteArray} (h : k < zs.length) : (tmarks k0 k ++ zs.drop k).set k (mt (k0 + k)) = tmarks k0 (k + 1) ++ zs.drop (k + 1) := by
  rw [List.set_append, if_neg (by simp [tmarks_len])]
  rw [tmarks_len, Nat.sub_self, List.drop_eq_getElem_cons h, List.set_cons_zero]
  simp [tmarks, List.range_succ]
end Go.Proofs.YtnanaldolnehiabDoor
