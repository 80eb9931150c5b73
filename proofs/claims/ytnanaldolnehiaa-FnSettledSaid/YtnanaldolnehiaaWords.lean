/-
  Words on memory and on values for all proofs of this seat: a slice that reads as a list of numbers, rules and positions as values, arguments opened to them. No condition; nothing of the program stands in it.
-/
import Derived.WalkKit
import Derived.ProofKit
import Derived.OpenShut
import Derived.ShutString
import Derived.ChangeOld
import Derived.Below
import Derived.Lib.Hide
import Derived.Deep.Slices
import Derived.Deep.Fields
import Derived.Deep.Draws
import Derived.Laws.OwnMore
namespace Go.Proofs.Ytnanaldolnehiaa
open Go.ChangeShapes Go.WideShapes Go.RowKit Go.Deep

theorem lt_of_cell {w : World} {a : Addr} {v : Value} (h : w.cell? a = some v) : a.block < w.heap.size := by
  rcases Nat.lt_or_ge a.block w.heap.size with h1 | h1
  · exact h1
  · simp [World.cell?, Array.getElem?_eq_none h1] at h

theorem below_drewN {B : Nat} {a w : World} (h : Below B a w) (n : Nat) : Below B a (w.drewN n) := ⟨h.os, h.tape, h.output, h.size, h.block⟩

theorem bcell {B : Nat} {W w1 : World} (hb : Below B W w1) : (∀ b o, b < B → w1.cell? ⟨b, o, none⟩ = W.cell? ⟨b, o, none⟩) ∧ (∀ b o, b < B → w1.frozen? ⟨b, o, none⟩ = W.frozen? ⟨b, o, none⟩) :=
  ⟨fun b o h => hb.cell (p := ⟨b, o, none⟩) h, fun b o h => hb.frozen (p := ⟨b, o, none⟩) h⟩

/-! ### 'nothing that was there has turned', step by step -/
theorem sub_step {B : Nat} {a b c : World} (h : Below B b c) (k : Below a.heap.size a b) (hB : B = b.heap.size) : Below a.heap.size a c := k.trans (h.mono (by rw [hB]; exact k.size))
theorem sub_alloc {a b : World} (k : Below a.heap.size a b) (o : Obj) : Below a.heap.size a (b.alloc o) := k.alloc k.size o
theorem sub_setCell {a b : World} (k : Below a.heap.size a b) {p : Addr} (hp : a.heap.size ≤ p.block) (u : Value) : Below a.heap.size a (b.setCell p u) := k.setCell hp u
theorem sub_setCell2 {a b : World} {p : Addr} (hp : a.heap.size ≤ p.block) (k : Below a.heap.size a b) (u : Value) : Below a.heap.size a (b.setCell p u) := k.setCell hp u
theorem sub_drew {a b : World} (k : Below a.heap.size a b) : Below a.heap.size a b.drew := k.drew

theorem wf64 {n : Int} (h : (Lit.int .i64 n).wf = true) : -9223372036854775808 ≤ n ∧ n ≤ 9223372036854775807 := by
  have := bounds_i64 h
  omega

/-! ### a slice of int64 that reads as a list -/
/-- The slice value '.slice A n c' holds the numbers zs; their cells lie below block B. -/
def Ints (w : World) (B : Nat) (A : Option Addr) (n c : Nat) (zs : List Int) : Prop :=
  zs.length = n ∧ n ≤ c ∧ c ≤ 9223372036854775807 ∧ (A = none → n = 0 ∧ c = 0) ∧ (0 < n → ∃ b off, A = some ⟨b, off, none⟩ ∧ b < B ∧ ∀ j x, zs[j]? = some x → w.cell? ⟨b, off + j, none⟩ = some (.int .i64 x))

section
variable {w w' : World} {B B' n c : Nat} {A : Option Addr} {zs : List Int}
theorem Ints.len (h : Ints w B A n c zs) : zs.length = n := h.1
theorem Ints.le (h : Ints w B A n c zs) : n ≤ 9223372036854775807 := Nat.le_trans h.2.1 h.2.2.1
theorem Ints.at_ (h : Ints w B A n c zs) (hn : 0 < n) : ∃ b off, A = some ⟨b, off, none⟩ ∧ b < B ∧ ∀ j x, zs[j]? = some x → w.cell? ⟨b, off + j, none⟩ = some (.int .i64 x) := h.2.2.2.2 hn
theorem Ints.keep (h : Ints w B A n c zs) (hk : ∀ p : Addr, p.block < B → w'.cell? p = w.cell? p) : Ints w' B A n c zs :=
  ⟨h.1, h.2.1, h.2.2.1, h.2.2.2.1, fun hn => by
    obtain ⟨b, off, e, hb, hc⟩ := h.at_ hn
    exact ⟨b, off, e, hb, fun j x hx => (hk _ hb).trans (hc j x hx)⟩⟩
theorem Ints.more (h : Ints w B A n c zs) (hB : B ≤ B') : Ints w B' A n c zs :=
  ⟨h.1, h.2.1, h.2.2.1, h.2.2.2.1, fun hn => by
    obtain ⟨b, off, e, hb, hc⟩ := h.at_ hn
    exact ⟨b, off, e, by omega, hc⟩⟩
theorem Ints.below (h : Ints w B A n c zs) (hb : Below B w w') : Ints w' B A n c zs := h.keep fun _ hp => hb.cell hp
theorem Ints.drew (h : Ints w B A n c zs) : Ints w.drew B A n c zs := h
theorem Ints.drewN (h : Ints w B A n c zs) (k : Nat) : Ints (w.drewN k) B A n c zs := h
theorem Ints.alloc (h : Ints w B A n c zs) (hB : B ≤ w.heap.size) (o : Obj) : Ints (w.alloc o) B A n c zs := h.keep fun p hp => World.cell?_alloc_lt w o p (by omega)
theorem Ints.setCell (h : Ints w B A n c zs) {p : Addr} (hB : B ≤ p.block) (u : Value) : Ints (w.setCell p u) B A n c zs :=
  h.keep fun q hq => World.cell?_setCell_other w p q u (fun e => by subst e; omega)
theorem Ints.grown (h : Ints w B A n c zs) {row : Option Nat} (hg : w.grownBy w' row) (hB : B ≤ w.heap.size) (hr : ∀ g, row = some g → B ≤ g) : Ints w' B A n c zs :=
  h.keep fun p hp => World.cell?_of_block (hg.block p.block (by omega) (fun e => by have := hr _ e.symm; omega))
theorem Ints.sub (h : Ints w w.heap.size A n c zs) (hs : Below w.heap.size w w') : Ints w' w'.heap.size A n c zs := (h.below hs).more hs.size
theorem Ints.nil (w : World) (B : Nat) : Ints w B none 0 0 [] := ⟨rfl, by omega, by omega, fun _ => ⟨rfl, rfl⟩, fun h => by omega⟩
/-- The cells as the laws on append want them. -/
theorem Ints.news {b : Addr} (h : Ints w B (some b) n c zs) : ∀ j u, (zs.map (Value.int .i64))[j]? = some u → w.cell? (b.add j) = some u := by
  intro j u hu
  rw [List.getElem?_map, Option.map_eq_some_iff] at hu
  obtain ⟨x, hx, rfl⟩ := hu
  have hlt : j < zs.length := (List.getElem?_eq_some_iff.1 hx).1
  obtain ⟨b', off, e, _, hc⟩ := h.at_ (by have := h.len; omega)
  injection e with e
  subst e
  rw [add_plain]
  exact hc j x hx
end

/-! ### structs: any number of one-cell fields, by value -/
section
variable {H : Type} {enc : TypeId × Value → H} {P : Program} {w : World} {base : Nat} {spare : Nat → Bool} {held : Bool}
theorem open_agg {r : Reach} {b0 : Nat} {t : TypeId} {fs : Array Field} {v : Value} {d : DataW H} {p : List MemPlace} (hs : P.underlying t = some (.struct fs))
    (hv : Value.okWide P w r b0 t v) (h : DataW.Trod enc P w base spare held t v d p) :
    ∃ (cs : List Value), v = .agg cs.toArray ∧ cs.length = P.cellsOf t ∧
      ∀ (i : Nat) (f : Field), fs[i]? = some f → ∃ n y, DataW.trod enc P w base spare held n f.type ((cs.drop f.offset).take (P.cellsOf f.type)) = some y := by
  obtain ⟨cs, rfl, hsz⟩ := okWide_struct hs hv
  obtain ⟨l⟩ := cs
  obtain ⟨fuel, hf⟩ := h
  obtain ⟨xs, n, _, hx, _, hlen, hg⟩ := DataW.trod_struct hs hf
  refine ⟨l, rfl, hsz, fun i f hi => ?_⟩
  have hlt : i < fs.size := (Array.getElem?_eq_some_iff.1 hi).1
  have h1 := hg i f hi
  refine ⟨n, xs[i]'(by omega), ?_⟩
  rw [List.getElem?_eq_getElem (by omega)] at h1
  exact h1

/-- A slice of int64 that came in. -/
theorem open_ints64 {t e : TypeId} {fuel : Nat} {v : Value} {x : DataW H × List MemPlace} (ht : P.underlying t = some (.slice e)) (he : P.underlying e = some (.int .i64)) (hc : P.cellsOf e = 1)
    (h : DataW.trod enc P w base spare held fuel t [v] = some x) :
    ∃ A n c zs, v = .slice A n c ∧ Ints w w.heap.size A n c zs ∧ ∀ z ∈ zs, -9223372036854775808 ≤ z ∧ z ≤ 9223372036854775807 := by
  rcases open_ints ht he hc h with ⟨hcs, _⟩ | ⟨a, len, cap, zs, hcs, _, hl, hm, hz, _, hcell, hwz⟩
  · simp at hcs
    exact ⟨none, 0, 0, [], hcs, Ints.nil _ _, fun z hz => by cases hz⟩
  · simp at hcs
    unfold maxLen at hm
    have hle : zs.length = cap ∨ zs.length = len := by
      split at hz <;> simp_all
    refine ⟨some a, len, cap, zs.take len, hcs, ⟨by simp; omega, hl, by omega, (fun h => by cases h), fun hn => ?_⟩, fun z hz => wf64 (hwz z (List.mem_of_mem_take hz))⟩
    obtain ⟨b, off, spot⟩ := a
    have h0 := hcell 0 (by omega)
    have hspot : spot = none := by simpa [Addr.add] using World.cell?_spot h0
    subst hspot
    have hb : b < w.heap.size := by
      have := lt_of_cell h0
      simpa [Addr.add] using this
    refine ⟨b, off, rfl, hb, fun j y hy => ?_⟩
    have hj : j < zs.length := by
      have := (List.getElem?_eq_some_iff.1 hy).1
      simp at this; omega
    have h1 := hcell j hj
    rw [add_plain] at h1
    rw [h1]
    have : zs[j]? = some y := by
      rw [List.getElem?_take] at hy
      split at hy
      · exact hy
      · cases hy
    simp [List.getD, this]
end
/-- .. where every field is one cell. -/
theorem open_agg1 {H : Type} {enc : TypeId × Value → H} {P : Program} {w : World} {base : Nat} {spare : Nat → Bool} {held : Bool} {r : Reach} {b0 : Nat} {t : TypeId} {fs : Array Field} {v : Value} {d : DataW H} {p : List MemPlace}
    (hs : P.underlying t = some (.struct fs)) (hone : oneCellFields P fs = true) (hv : Value.okWide P w r b0 t v) (h : DataW.Trod enc P w base spare held t v d p) :
    ∃ (cs : List Value), v = .agg cs.toArray ∧ cs.length = P.cellsOf t ∧
      ∀ (i : Nat) (f : Field), fs[i]? = some f → i < cs.length → ∃ n y, DataW.trod enc P w base spare held n f.type [cs.getD i undef] = some y := by
  obtain ⟨cs, hv', hlen, hf⟩ := open_agg hs hv h
  refine ⟨cs, hv', hlen, fun i f hi hlt => ?_⟩
  obtain ⟨n, y, hy⟩ := hf i f hi
  obtain ⟨ho, hk⟩ := hone_of hone i f hi
  rw [ho, hk, take1_drop cs i undef hlt] at hy
  exact ⟨n, y, hy⟩

theorem list3 {α : Type} (l : List α) (h : l.length = 3) : ∃ a b c, l = [a, b, c] := by
  match l, h with
  | [a, b, c], _ => exact ⟨a, b, c, rfl⟩
theorem list4 {α : Type} (l : List α) (h : l.length = 4) : ∃ a b c d, l = [a, b, c, d] := by
  match l, h with
  | [a, b, c, d], _ => exact ⟨a, b, c, d, rfl⟩
theorem list9 {α : Type} (l : List α) (h : l.length = 9) : ∃ a b c d e f g i j, l = [a, b, c, d, e, f, g, i, j] := by
  match l, h with
  | [a, b, c, d, e, f, g, i, j], _ => exact ⟨a, b, c, d, e, f, g, i, j, rfl⟩

/-! ### rules -/
structure Ru where
  pits : Int
  seeds : Int
  stores : Bool
  skip : Bool
  relay : Bool
  feed : Bool
  again : Bool
  capture : Int
  slam : Int
def Ru.cells (r : Ru) : List Value := [.int .i64 r.pits, .int .i64 r.seeds, .bool r.stores, .bool r.skip, .bool r.relay, .bool r.feed, .bool r.again, .int .i64 r.capture, .int .i64 r.slam]
def in64 (n : Int) : Prop := -9223372036854775808 ≤ n ∧ n ≤ 9223372036854775807
def Ru.wf (r : Ru) : Prop := in64 r.pits ∧ in64 r.seeds ∧ in64 r.capture ∧ in64 r.slam
def inB (n a b : Int) : Bool := decide (a ≤ n ∧ n ≤ b)
/-- The nine cells of rules at a place. -/
def RuAt (w : World) (b o : Nat) (r : Ru) : Prop :=
  w.cell? ⟨b, o, none⟩ = some (.int .i64 r.pits) ∧ w.cell? ⟨b, o + 1, none⟩ = some (.int .i64 r.seeds) ∧ w.cell? ⟨b, o + 2, none⟩ = some (.bool r.stores) ∧ w.cell? ⟨b, o + 3, none⟩ = some (.bool r.skip) ∧ w.cell? ⟨b, o + 4, none⟩ = some (.bool r.relay) ∧
  w.cell? ⟨b, o + 5, none⟩ = some (.bool r.feed) ∧ w.cell? ⟨b, o + 6, none⟩ = some (.bool r.again) ∧ w.cell? ⟨b, o + 7, none⟩ = some (.int .i64 r.capture) ∧ w.cell? ⟨b, o + 8, none⟩ = some (.int .i64 r.slam)
theorem RuAt.lt {w : World} {b o : Nat} {r : Ru} (h : RuAt w b o r) : b < w.heap.size := by have := lt_of_cell h.1; simpa using this
theorem RuAt.keep {w w' : World} {b o : Nat} {r : Ru} (h : RuAt w b o r) (hk : ∀ i, w'.cell? ⟨b, i, none⟩ = w.cell? ⟨b, i, none⟩) : RuAt w' b o r := by
  unfold RuAt at h ⊢
  simp only [hk]
  exact h
theorem RuAt.below {w w' : World} {B b o : Nat} {r : Ru} (h : RuAt w b o r) (hb : Below B w w') (hB : b < B) : RuAt w' b o r := h.keep fun i => hb.cell (p := ⟨b, i, none⟩) hB
theorem RuAt.alloc {w : World} {b o : Nat} {r : Ru} (h : RuAt w b o r) (x : Obj) : RuAt (w.alloc x) b o r := h.keep fun i => World.cell?_alloc_lt w x ⟨b, i, none⟩ h.lt
theorem RuAt.drew {w : World} {b o : Nat} {r : Ru} (h : RuAt w b o r) : RuAt w.drew b o r := h
theorem RuAt.box (w : World) (t : TypeId) (p s : Int) (st sk re fe ag : Bool) (c sl : Int) :
    RuAt (w.alloc (.cells #[.int .i64 p, .int .i64 s, .bool st, .bool sk, .bool re, .bool fe, .bool ag, .int .i64 c, .int .i64 sl] t)) w.heap.size 0 ⟨p, s, st, sk, re, fe, ag, c, sl⟩ := by
  unfold RuAt
  simp [World.cell?_alloc_new]
theorem RuAt.flat {w : World} {b : Nat} {p s : Int} {st sk re fe ag : Bool} {c sl : Int} (h : RuAt w b 0 ⟨p, s, st, sk, re, fe, ag, c, sl⟩) :
    w.cell? ⟨b, 0, none⟩ = some (.int .i64 p) ∧ w.cell? ⟨b, 1, none⟩ = some (.int .i64 s) ∧ w.cell? ⟨b, 2, none⟩ = some (.bool st) ∧ w.cell? ⟨b, 3, none⟩ = some (.bool sk) ∧ w.cell? ⟨b, 4, none⟩ = some (.bool re) ∧
    w.cell? ⟨b, 5, none⟩ = some (.bool fe) ∧ w.cell? ⟨b, 6, none⟩ = some (.bool ag) ∧ w.cell? ⟨b, 7, none⟩ = some (.int .i64 c) ∧ w.cell? ⟨b, 8, none⟩ = some (.int .i64 sl) := by
  simpa [RuAt] using h
def okR (r : Ru) : Bool := inB r.pits 2 8 && inB r.seeds 1 6 && inB r.capture 0 3 && inB r.slam 0 2 && (r.stores || !r.again)
end Go.Proofs.Ytnanaldolnehiaa
