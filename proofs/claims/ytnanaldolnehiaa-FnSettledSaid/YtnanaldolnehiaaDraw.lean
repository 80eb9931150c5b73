/-
  Rules that are drawn: l00From, text, l02Draw, A2Rules.
-/
import Derived.Test.YtnanaldolnehiaaSrc
import Derived.Test.YtnanaldolnehiaaStd
import Derived.Test.YtnanaldolnehiaaNameLists
import Derived.Test.YtnanaldolnehiaaSplit
import Derived.Test.YtnanaldolnehiaaRules
import Derived.Deep.Cut
set_option linter.unusedSimpArgs false
set_option linter.unusedVariables false
namespace Go.Proofs.Ytnanaldolnehiaa
open Go.ChangeShapes Go.WideShapes Go.RowKit Go.Deep

/-- Rules in a block of their own, which can be written. -/
def RX (w : World) (g : Nat) (r : Ru) : Prop := RuAt w g 0 r ∧ ∀ i, w.frozen? ⟨g, i, none⟩ = false
section
variable {w w' : World} {g b : Nat} {r : Ru}
theorem RX.lt (h : RX w g r) : g < w.heap.size := h.1.lt
theorem RX.grown (h : RX w g r) (hg : w.grownBy w' (some b)) (hne : ¬ (g = b)) : RX w' g r := by
  have e : w'.heap[g]? = w.heap[g]? := hg.block g h.lt (fun e => hne (by injection e))
  refine ⟨h.1.keep fun i => World.cell?_of_block e, fun i => ?_⟩
  have := h.2 i
  unfold World.frozen? at *
  simp only [e]
  exact this
theorem RX.alloc (h : RX w g r) (o : Obj) : RX (w.alloc o) g r := h.grown (b := w.heap.size) (grown_below ((Below.refl _ _).alloc (Nat.le_refl _) o)) (by have := h.lt; omega)
theorem RX.other (h : RX w g r) (p : Addr) (hp : ¬ (p.block = g)) (u : Value) : RX (w.setCell p u) g r := by
  refine ⟨h.1.keep fun i => World.cell?_setCell_other w p ⟨g, i, none⟩ u (fun e => hp (by rw [e])), fun i => ?_⟩
  rw [World.frozen?_setCell]
  exact h.2 i
end
theorem RX.box (w : World) (t : TypeId) (p s : Int) (st sk re fe ag : Bool) (c sl : Int) : RX (w.alloc (.cells #[.int .i64 p, .int .i64 s, .bool st, .bool sk, .bool re, .bool fe, .bool ag, .int .i64 c, .int .i64 sl] t)) w.heap.size ⟨p, s, st, sk, re, fe, ag, c, sl⟩ := ⟨RuAt.box w t p s st sk re fe ag c sl, fun i => by rw [frozen?_alloc_cells]; simp [World.frozen?]⟩
theorem RX.set0 {w : World} {g : Nat} {p s : Int} {st sk re fe ag : Bool} {c sl : Int} (h : RX w g ⟨p, s, st, sk, re, fe, ag, c, sl⟩) (x : Int) : RX (w.setCell ⟨g, 0, none⟩ (.int .i64 x)) g ⟨x, s, st, sk, re, fe, ag, c, sl⟩ := by
  obtain ⟨⟨c0, c1, c2, c3, c4, c5, c6, c7, c8⟩, hf⟩ := h
  simp only [Nat.zero_add] at c0 c1 c2 c3 c4 c5 c6 c7 c8
  refine ⟨⟨?_, ?_, ?_, ?_, ?_, ?_, ?_, ?_, ?_⟩, fun i => by rw [World.frozen?_setCell]; exact hf i⟩
  · exact World.cell?_setCell_same _ _ _ c0
  · rw [World.cell?_setCell_other _ _ _ _ (by simp)]; exact c1
  · rw [World.cell?_setCell_other _ _ _ _ (by simp)]; exact c2
  · rw [World.cell?_setCell_other _ _ _ _ (by simp)]; exact c3
  · rw [World.cell?_setCell_other _ _ _ _ (by simp)]; exact c4
  · rw [World.cell?_setCell_other _ _ _ _ (by simp)]; exact c5
  · rw [World.cell?_setCell_other _ _ _ _ (by simp)]; exact c6
  · rw [World.cell?_setCell_other _ _ _ _ (by simp)]; exact c7
  · rw [World.cell?_setCell_other _ _ _ _ (by simp)]; exact c8
theorem RX.set1 {w : World} {g : Nat} {p s : Int} {st sk re fe ag : Bool} {c sl : Int} (h : RX w g ⟨p, s, st, sk, re, fe, ag, c, sl⟩) (x : Int) : RX (w.setCell ⟨g, 1, none⟩ (.int .i64 x)) g ⟨p, x, st, sk, re, fe, ag, c, sl⟩ := by
  obtain ⟨⟨c0, c1, c2, c3, c4, c5, c6, c7, c8⟩, hf⟩ := h
  simp only [Nat.zero_add] at c0 c1 c2 c3 c4 c5 c6 c7 c8
  refine ⟨⟨?_, ?_, ?_, ?_, ?_, ?_, ?_, ?_, ?_⟩, fun i => by rw [World.frozen?_setCell]; exact hf i⟩
  · rw [World.cell?_setCell_other _ _ _ _ (by simp)]; exact c0
  · exact World.cell?_setCell_same _ _ _ c1
  · rw [World.cell?_setCell_other _ _ _ _ (by simp)]; exact c2
  · rw [World.cell?_setCell_other _ _ _ _ (by simp)]; exact c3
  · rw [World.cell?_setCell_other _ _ _ _ (by simp)]; exact c4
  · rw [World.cell?_setCell_other _ _ _ _ (by simp)]; exact c5
  · rw [World.cell?_setCell_other _ _ _ _ (by simp)]; exact c6
  · rw [World.cell?_setCell_other _ _ _ _ (by simp)]; exact c7
  · rw [World.cell?_setCell_other _ _ _ _ (by simp)]; exact c8
theorem RX.set2 {w : World} {g : Nat} {p s : Int} {st sk re fe ag : Bool} {c sl : Int} (h : RX w g ⟨p, s, st, sk, re, fe, ag, c, sl⟩) (x : Bool) : RX (w.setCell ⟨g, 2, none⟩ (.bool x)) g ⟨p, s, x, sk, re, fe, ag, c, sl⟩ := by
  obtain ⟨⟨c0, c1, c2, c3, c4, c5, c6, c7, c8⟩, hf⟩ := h
  simp only [Nat.zero_add] at c0 c1 c2 c3 c4 c5 c6 c7 c8
  refine ⟨⟨?_, ?_, ?_, ?_, ?_, ?_, ?_, ?_, ?_⟩, fun i => by rw [World.frozen?_setCell]; exact hf i⟩
  · rw [World.cell?_setCell_other _ _ _ _ (by simp)]; exact c0
  · rw [World.cell?_setCell_other _ _ _ _ (by simp)]; exact c1
  · exact World.cell?_setCell_same _ _ _ c2
  · rw [World.cell?_setCell_other _ _ _ _ (by simp)]; exact c3
  · rw [World.cell?_setCell_other _ _ _ _ (by simp)]; exact c4
  · rw [World.cell?_setCell_other _ _ _ _ (by simp)]; exact c5
  · rw [World.cell?_setCell_other _ _ _ _ (by simp)]; exact c6
  · rw [World.cell?_setCell_other _ _ _ _ (by simp)]; exact c7
  · rw [World.cell?_setCell_other _ _ _ _ (by simp)]; exact c8
theorem RX.set3 {w : World} {g : Nat} {p s : Int} {st sk re fe ag : Bool} {c sl : Int} (h : RX w g ⟨p, s, st, sk, re, fe, ag, c, sl⟩) (x : Bool) : RX (w.setCell ⟨g, 3, none⟩ (.bool x)) g ⟨p, s, st, x, re, fe, ag, c, sl⟩ := by
  obtain ⟨⟨c0, c1, c2, c3, c4, c5, c6, c7, c8⟩, hf⟩ := h
  simp only [Nat.zero_add] at c0 c1 c2 c3 c4 c5 c6 c7 c8
  refine ⟨⟨?_, ?_, ?_, ?_, ?_, ?_, ?_, ?_, ?_⟩, fun i => by rw [World.frozen?_setCell]; exact hf i⟩
  · rw [World.cell?_setCell_other _ _ _ _ (by simp)]; exact c0
  · rw [World.cell?_setCell_other _ _ _ _ (by simp)]; exact c1
  · rw [World.cell?_setCell_other _ _ _ _ (by simp)]; exact c2
  · exact World.cell?_setCell_same _ _ _ c3
  · rw [World.cell?_setCell_other _ _ _ _ (by simp)]; exact c4
  · rw [World.cell?_setCell_other _ _ _ _ (by simp)]; exact c5
  · rw [World.cell?_setCell_other _ _ _ _ (by simp)]; exact c6
  · rw [World.cell?_setCell_other _ _ _ _ (by simp)]; exact c7
  · rw [World.cell?_setCell_other _ _ _ _ (by simp)]; exact c8
theorem RX.set4 {w : World} {g : Nat} {p s : Int} {st sk re fe ag : Bool} {c sl : Int} (h : RX w g ⟨p, s, st, sk, re, fe, ag, c, sl⟩) (x : Bool) : RX (w.setCell ⟨g, 4, none⟩ (.bool x)) g ⟨p, s, st, sk, x, fe, ag, c, sl⟩ := by
  obtain ⟨⟨c0, c1, c2, c3, c4, c5, c6, c7, c8⟩, hf⟩ := h
  simp only [Nat.zero_add] at c0 c1 c2 c3 c4 c5 c6 c7 c8
  refine ⟨⟨?_, ?_, ?_, ?_, ?_, ?_, ?_, ?_, ?_⟩, fun i => by rw [World.frozen?_setCell]; exact hf i⟩
  · rw [World.cell?_setCell_other _ _ _ _ (by simp)]; exact c0
  · rw [World.cell?_setCell_other _ _ _ _ (by simp)]; exact c1
  · rw [World.cell?_setCell_other _ _ _ _ (by simp)]; exact c2
  · rw [World.cell?_setCell_other _ _ _ _ (by simp)]; exact c3
  · exact World.cell?_setCell_same _ _ _ c4
  · rw [World.cell?_setCell_other _ _ _ _ (by simp)]; exact c5
  · rw [World.cell?_setCell_other _ _ _ _ (by simp)]; exact c6
  · rw [World.cell?_setCell_other _ _ _ _ (by simp)]; exact c7
  · rw [World.cell?_setCell_other _ _ _ _ (by simp)]; exact c8
theorem RX.set5 {w : World} {g : Nat} {p s : Int} {st sk re fe ag : Bool} {c sl : Int} (h : RX w g ⟨p, s, st, sk, re, fe, ag, c, sl⟩) (x : Bool) : RX (w.setCell ⟨g, 5, none⟩ (.bool x)) g ⟨p, s, st, sk, re, x, ag, c, sl⟩ := by
  obtain ⟨⟨c0, c1, c2, c3, c4, c5, c6, c7, c8⟩, hf⟩ := h
  simp only [Nat.zero_add] at c0 c1 c2 c3 c4 c5 c6 c7 c8
  refine ⟨⟨?_, ?_, ?_, ?_, ?_, ?_, ?_, ?_, ?_⟩, fun i => by rw [World.frozen?_setCell]; exact hf i⟩
  · rw [World.cell?_setCell_other _ _ _ _ (by simp)]; exact c0
  · rw [World.cell?_setCell_other _ _ _ _ (by simp)]; exact c1
  · rw [World.cell?_setCell_other _ _ _ _ (by simp)]; exact c2
  · rw [World.cell?_setCell_other _ _ _ _ (by simp)]; exact c3
  · rw [World.cell?_setCell_other _ _ _ _ (by simp)]; exact c4
  · exact World.cell?_setCell_same _ _ _ c5
  · rw [World.cell?_setCell_other _ _ _ _ (by simp)]; exact c6
  · rw [World.cell?_setCell_other _ _ _ _ (by simp)]; exact c7
  · rw [World.cell?_setCell_other _ _ _ _ (by simp)]; exact c8
theorem RX.set6 {w : World} {g : Nat} {p s : Int} {st sk re fe ag : Bool} {c sl : Int} (h : RX w g ⟨p, s, st, sk, re, fe, ag, c, sl⟩) (x : Bool) : RX (w.setCell ⟨g, 6, none⟩ (.bool x)) g ⟨p, s, st, sk, re, fe, x, c, sl⟩ := by
  obtain ⟨⟨c0, c1, c2, c3, c4, c5, c6, c7, c8⟩, hf⟩ := h
  simp only [Nat.zero_add] at c0 c1 c2 c3 c4 c5 c6 c7 c8
  refine ⟨⟨?_, ?_, ?_, ?_, ?_, ?_, ?_, ?_, ?_⟩, fun i => by rw [World.frozen?_setCell]; exact hf i⟩
  · rw [World.cell?_setCell_other _ _ _ _ (by simp)]; exact c0
  · rw [World.cell?_setCell_other _ _ _ _ (by simp)]; exact c1
  · rw [World.cell?_setCell_other _ _ _ _ (by simp)]; exact c2
  · rw [World.cell?_setCell_other _ _ _ _ (by simp)]; exact c3
  · rw [World.cell?_setCell_other _ _ _ _ (by simp)]; exact c4
  · rw [World.cell?_setCell_other _ _ _ _ (by simp)]; exact c5
  · exact World.cell?_setCell_same _ _ _ c6
  · rw [World.cell?_setCell_other _ _ _ _ (by simp)]; exact c7
  · rw [World.cell?_setCell_other _ _ _ _ (by simp)]; exact c8
theorem RX.set7 {w : World} {g : Nat} {p s : Int} {st sk re fe ag : Bool} {c sl : Int} (h : RX w g ⟨p, s, st, sk, re, fe, ag, c, sl⟩) (x : Int) : RX (w.setCell ⟨g, 7, none⟩ (.int .i64 x)) g ⟨p, s, st, sk, re, fe, ag, x, sl⟩ := by
  obtain ⟨⟨c0, c1, c2, c3, c4, c5, c6, c7, c8⟩, hf⟩ := h
  simp only [Nat.zero_add] at c0 c1 c2 c3 c4 c5 c6 c7 c8
  refine ⟨⟨?_, ?_, ?_, ?_, ?_, ?_, ?_, ?_, ?_⟩, fun i => by rw [World.frozen?_setCell]; exact hf i⟩
  · rw [World.cell?_setCell_other _ _ _ _ (by simp)]; exact c0
  · rw [World.cell?_setCell_other _ _ _ _ (by simp)]; exact c1
  · rw [World.cell?_setCell_other _ _ _ _ (by simp)]; exact c2
  · rw [World.cell?_setCell_other _ _ _ _ (by simp)]; exact c3
  · rw [World.cell?_setCell_other _ _ _ _ (by simp)]; exact c4
  · rw [World.cell?_setCell_other _ _ _ _ (by simp)]; exact c5
  · rw [World.cell?_setCell_other _ _ _ _ (by simp)]; exact c6
  · exact World.cell?_setCell_same _ _ _ c7
  · rw [World.cell?_setCell_other _ _ _ _ (by simp)]; exact c8
theorem RX.set8 {w : World} {g : Nat} {p s : Int} {st sk re fe ag : Bool} {c sl : Int} (h : RX w g ⟨p, s, st, sk, re, fe, ag, c, sl⟩) (x : Int) : RX (w.setCell ⟨g, 8, none⟩ (.int .i64 x)) g ⟨p, s, st, sk, re, fe, ag, c, x⟩ := by
  obtain ⟨⟨c0, c1, c2, c3, c4, c5, c6, c7, c8⟩, hf⟩ := h
  simp only [Nat.zero_add] at c0 c1 c2 c3 c4 c5 c6 c7 c8
  refine ⟨⟨?_, ?_, ?_, ?_, ?_, ?_, ?_, ?_, ?_⟩, fun i => by rw [World.frozen?_setCell]; exact hf i⟩
  · rw [World.cell?_setCell_other _ _ _ _ (by simp)]; exact c0
  · rw [World.cell?_setCell_other _ _ _ _ (by simp)]; exact c1
  · rw [World.cell?_setCell_other _ _ _ _ (by simp)]; exact c2
  · rw [World.cell?_setCell_other _ _ _ _ (by simp)]; exact c3
  · rw [World.cell?_setCell_other _ _ _ _ (by simp)]; exact c4
  · rw [World.cell?_setCell_other _ _ _ _ (by simp)]; exact c5
  · rw [World.cell?_setCell_other _ _ _ _ (by simp)]; exact c6
  · rw [World.cell?_setCell_other _ _ _ _ (by simp)]; exact c7
  · exact World.cell?_setCell_same _ _ _ c8
theorem l00From_any (A : Option Addr) (n c : Nat) (zs : List Int) (w : World) (h : Bys w w.heap.size A n c zs) (hn : n ≤ 4096) : Calls Try.prog 129 #[.slice A n c] w fun e w' => e = .returned (.pointer (some ⟨w.heap.size, 0, none⟩)) ∧ Src w' w.heap.size A n c zs 0 0 ∧ Below w.heap.size w w' := by
  have H := Lib.hid h
  clear h
  go_enter Try.func129, Try.ntmps129
  go_wp2_with fail
  go_ret
  refine ⟨rfl, ⟨?_, ?_, ?_, fun i => ?_, H.out.below (by repeat (first | with_reducible exact Below.refl _ _ | with_reducible assumption | with_reducible refine sub_alloc ?_ _ | (with_reducible refine sub_setCell2 ?_ ?_ _; (focus (first | (simp; done) | (simp <;> omega)))) | with_reducible refine sub_drew ?_ | with_reducible refine below_drewN ?_ _ | with_reducible refine sub_step (by assumption) ?_ (by first | rfl | (simp; done)) | exact Below.refl _ _ | assumption | refine sub_alloc ?_ _ | refine sub_setCell ?_ (by simp <;> omega) _ | refine sub_drew ?_ | refine below_drewN ?_ _ | refine sub_step (by assumption) ?_ (by first | rfl | (simp; done)))), hn, by omega, by omega⟩, (by repeat (first | with_reducible exact Below.refl _ _ | with_reducible assumption | with_reducible refine sub_alloc ?_ _ | (with_reducible refine sub_setCell2 ?_ ?_ _; (focus (first | (simp; done) | (simp <;> omega)))) | with_reducible refine sub_drew ?_ | with_reducible refine below_drewN ?_ _ | with_reducible refine sub_step (by assumption) ?_ (by first | rfl | (simp; done)) | exact Below.refl _ _ | assumption | refine sub_alloc ?_ _ | refine sub_setCell ?_ (by simp <;> omega) _ | refine sub_drew ?_ | refine below_drewN ?_ _ | refine sub_step (by assumption) ?_ (by first | rfl | (simp; done))))⟩
  · simp [World.cell?_alloc_new]
  · simp [World.cell?_alloc_new]
  · simp [World.cell?_alloc_new]
  · rw [frozen?_alloc_cells]; simp [World.frozen?]
theorem text_any (b : Nat) (A : Option Addr) (n c : Nat) (zs : List Int) (k : Nat) (sd : Int) (A' : Option Addr) (m c' : Nat) (l : List ByteArray) (hk : k ≤ 549755813888) (h0 : 1 ≤ m) (hm : m ≤ 4294967296) (w : World) (h : Src w b A n c zs k sd) (ho : OwnT w (b + 1) A' m c' l) : Calls Try.prog 131 #[.pointer (some ⟨b, 0, none⟩), .slice A' m c'] w fun e w' => e = .returned (.string (l.getD (pk zs k sd m).1.toNat ⟨#[]⟩)) ∧ Src w' b A n c zs (pk zs k sd m).2.1 (pk zs k sd m).2.2 ∧ w.grownBy w' (some b) := by
  have H := Lib.hid h
  have HO := Lib.hid ho
  obtain ⟨b0, b1, -⟩ := pk_bd zs k sd m (by omega)
  clear h ho
  go_enter Try.func131, Try.ntmps131
  go_wp2_with fail
  refine (pick_any b A n c zs k sd m hk (by omega) (by omega) _ (by exact H.out)).mono ?_
  rintro e w1 ⟨rfl, s1, g1⟩
  have HS := Lib.hid s1
  have HG := Lib.hid g1
  have HO1 := Lib.hid (HO.out.kept g1 (fun g e => .inl (by injection e with e; omega)))
  clear s1 g1
  obtain ⟨x, hx⟩ : ∃ x : Nat, (pk zs k sd m).1 = (x : Int) := ⟨(pk zs k sd m).1.toNat, by omega⟩
  have HX := Lib.hid hx
  rw [hx] at b0 b1 ⊢
  obtain ⟨t, ht⟩ := t_get_some (zs := l) (k := x) (by rw [HO1.out.len]; omega)
  obtain ⟨bb, off, rfl, -, hc⟩ := HO1.out.ints.at_ (by omega)
  have cx := hc x t ht
  have ht2 := Lib.hid (show l.getD ((x : Int)).toNat ⟨#[]⟩ = t by simp [List.getD, ht])
  clear hc ht hx
  go_wp2_with fail
  go_ret
  exact ⟨by rw [HX.out, ht2.out]; rfl, HS.out, HG.out⟩
theorem sstd0 (w : World) : Calls Try.prog 162 #[.string (⟨#[107, 97, 108, 97, 104]⟩ : ByteArray)] w fun e w' => e = .returned (.tuple #[.agg #[.int .i64 6, .int .i64 4, .bool true, .bool false, .bool false, .bool false, .bool true, .int .i64 2, .int .i64 0], .int .i64 0]) ∧ Below w.heap.size w w' := specStandardRules_any (⟨#[107, 97, 108, 97, 104]⟩ : ByteArray) w
theorem sstd1 (w : World) : Calls Try.prog 162 #[.string (⟨#[109, 105, 110, 105]⟩ : ByteArray)] w fun e w' => e = .returned (.tuple #[.agg #[.int .i64 3, .int .i64 2, .bool false, .bool false, .bool false, .bool true, .bool false, .int .i64 1, .int .i64 0], .int .i64 0]) ∧ Below w.heap.size w w' := specStandardRules_any (⟨#[109, 105, 110, 105]⟩ : ByteArray) w
theorem sstd2 (w : World) : Calls Try.prog 162 #[.string (⟨#[111, 119, 97, 114, 101]⟩ : ByteArray)] w fun e w' => e = .returned (.tuple #[.agg #[.int .i64 6, .int .i64 4, .bool false, .bool true, .bool false, .bool true, .bool false, .int .i64 1, .int .i64 2], .int .i64 0]) ∧ Below w.heap.size w w' := specStandardRules_any (⟨#[111, 119, 97, 114, 101]⟩ : ByteArray) w
theorem sstd3 (w : World) : Calls Try.prog 162 #[.string (⟨#[114, 101, 108, 97, 121]⟩ : ByteArray)] w fun e w' => e = .returned (.tuple #[.agg #[.int .i64 4, .int .i64 2, .bool false, .bool false, .bool true, .bool false, .bool false, .int .i64 2, .int .i64 0], .int .i64 0]) ∧ Below w.heap.size w w' := specStandardRules_any (⟨#[114, 101, 108, 97, 121]⟩ : ByteArray) w
theorem l02Draw_ret {Post : Ending → World → Prop} {a : Act} {W : World} {g : Nat} {p s : Int} {st sk re fe ag : Bool} {c sl : Int} (ha : a.tmps.getD 2 undef = .pointer (some ⟨g, 0, none⟩)) (hd : a.defers = []) (hr : RuAt W g 0 ⟨p, s, st, sk, re, fe, ag, c, sl⟩) (hP : Post (.returned (.agg #[.int .i64 p, .int .i64 s, .bool st, .bool sk, .bool re, .bool fe, .bool ag, .int .i64 c, .int .i64 sl])) W) : bodyPost Try.prog Try.f139 Post Exit.ret a W := by
  obtain ⟨c0, c1, c2, c3, c4, c5, c6, c7, c8⟩ := hr.flat
  refine bodyPost_ret (v := .agg #[.int .i64 p, .int .i64 s, .bool st, .bool sk, .bool re, .bool fe, .bool ag, .int .i64 c, .int .i64 sl]) ?_ hd hP
  obtain ⟨tmps, defers⟩ := a
  simp only [Array.getD_eq_getD_getElem?] at ha
  simp [results, Try.results139, go_sem, ha, c0, c1, c2, c3, c4, c5, c6, c7, c8]
set_option maxRecDepth 100000 in
set_option maxHeartbeats 16000000 in
theorem l02Draw_any (b : Nat) (A : Option Addr) (n cc : Nat) (zs : List Int) (k : Nat) (sd : Int) (hk : k ≤ 1048576) (w : World) (h : Src w b A n cc zs k sd) : Calls Try.prog 139 #[.pointer (some ⟨b, 0, none⟩)] w fun e w' => ∃ (r : Ru) (k' : Nat) (sd' : Int), e = .returned (.agg r.cells.toArray) ∧ okR r = true ∧ Src w' b A n cc zs k' sd' ∧ k' ≤ k + 40 ∧ w.grownBy w' (some b) := by
  have hlt := h.lt
  have S0 := Lib.hid (h.alloc (.cells #[.int .i64 0, .int .i64 0, .bool false, .bool false, .bool false, .bool false, .bool false, .int .i64 0, .int .i64 0] 31))
  have Z0 := Lib.hid (RX.box w 31 0 0 false false false false false 0 0)
  have G0 := Lib.hid (grown_alloc (World.grownBy.refl w (some b)) (.cells #[.int .i64 0, .int .i64 0, .bool false, .bool false, .bool false, .bool false, .bool false, .int .i64 0, .int .i64 0] 31))
  clear h
  have ne : ¬ (w.heap.size = b) := by omega
  cases hv : decide ((pk zs k sd 3).1 = 0)
  rotate_left
  · go_enter Try.func139, Try.ntmps139
    go_wp2_with fail
    refine (one_any b A n cc zs k sd 3 (by omega) (by omega) (by omega) true hv _ (by exact S0.out)).mono ?_
    rintro e w1 ⟨rfl, s1, g1⟩
    have bd := (pk_bd zs k sd 3 (by omega)).2.2
    have Z1 := Lib.hid (Z0.out.grown g1 ne)
    have G1 := Lib.hid (gr_trans G0.out g1)
    have S1 := Lib.hid s1
    have lt1 := s1.lt
    clear hv s1 g1 S0 Z0 G0
    generalize (pk zs k sd 3).2.1 = k1 at *
    generalize (pk zs k sd 3).2.2 = d1 at *
    go_wp2_with fail
    refine (specStandardNames_any _).mono ?_
    rintro e w2 ⟨N1, c1, rfl, o2, b2⟩
    have Z2 := Lib.hid (Z1.out.grown (grown_below (r := some b) b2) ne)
    have G2 := Lib.hid (gr_trans G1.out (grown_below b2))
    have S2 := Lib.hid (S1.out.below b2 lt1)
    have O2 := Lib.hid (o2.lower (base' := b + 1) (by omega))
    clear o2 b2 S1 Z1 G1
    obtain ⟨x0, x1, x2⟩ := pk_bd zs k1 d1 4 (by omega)
    go_wp2_with fail
    refine (text_any b A n cc zs k1 d1 N1 4 c1 nmStandardNames (by omega) (by omega) (by omega) _ (by exact S2.out) (by exact O2.out)).mono ?_
    rintro e w3 ⟨rfl, s3, g3⟩
    have Z3 := Lib.hid (Z2.out.grown g3 ne)
    have G3 := Lib.hid (gr_trans G2.out g3)
    have S3 := Lib.hid s3
    have lt3 := s3.lt
    clear s3 g3 S2 Z2 G2 O2
    generalize (pk zs k1 d1 (4 : Nat)).1 = x at *
    generalize (pk zs k1 d1 (4 : Nat)).2.1 = k2 at *
    generalize (pk zs k1 d1 (4 : Nat)).2.2 = d2 at *
    rcases (by omega : x = 0 ∨ x = 1 ∨ x = 2 ∨ x = 3) with rfl | rfl | rfl | rfl
    · rw [show nmStandardNames.getD (0 : Int).toNat ⟨#[]⟩ = (⟨#[107, 97, 108, 97, 104]⟩ : ByteArray) from rfl]
      go_wp2_with fail
      refine (sstd0 _).mono ?_
      rintro e w4 ⟨rfl, b4⟩
      have Z4 := Z3.out.grown (grown_below (r := some b) b4) ne
      have G4 := Lib.hid (gr_trans G3.out (grown_below b4))
      have S4 := Lib.hid (S3.out.below b4 lt3)
      have X5 := RX.box w4 31 6 4 true false false false true 2 0
      have Z5 := Z4.alloc (.cells #[.int .i64 6, .int .i64 4, .bool true, .bool false, .bool false, .bool false, .bool true, .int .i64 2, .int .i64 0] 31)
      have S5 := S4.out.alloc (.cells #[.int .i64 6, .int .i64 4, .bool true, .bool false, .bool false, .bool false, .bool true, .int .i64 2, .int .i64 0] 31)
      have G5 := grown_alloc G4.out (.cells #[.int .i64 6, .int .i64 4, .bool true, .bool false, .bool false, .bool false, .bool true, .int .i64 2, .int .i64 0] 31)
      have lz := Z4.lt
      have XX := Lib.hid X5
      have ZZ := Lib.hid Z5
      have SS := Lib.hid S5
      have GG := Lib.hid G5
      clear b4 Z4 Z3 G3 S3 S4 G4 X5 Z5 S5 G5
      go_upto_region 3 with fail
      refine wp_namedS (fun w' => RX w' w4.heap.size ⟨6, 4, true, false, false, false, true, 2, 0⟩ ∧ RX w' w.heap.size ⟨0, 0, false, false, false, false, false, 0, 0⟩ ∧ Src w' b A n cc zs k2 d2 ∧ w.grownBy w' (some b)) ⟨XX.out, ZZ.out, SS.out, GG.out⟩ ?_
      rintro W ⟨X5, Z5, S5, G5⟩
      obtain ⟨c0, c1, c2, c3, c4, c5, c6, c7, c8⟩ := X5.1.flat
      obtain ⟨e0, e1, e2, e3, e4, e5, e6, e7, e8⟩ := Z5.1.flat
      have fz := Z5.2
      have f0 := fz 0; have f1 := fz 1; have f2 := fz 2; have f3 := fz 3; have f4 := fz 4; have f5 := fz 5; have f6 := fz 6; have f7 := fz 7; have f8 := fz 8
      have ZZ := Lib.hid Z5
      have SS := Lib.hid S5
      have GG := Lib.hid G5
      clear fz X5 XX Z5 S5 G5
      go_wp2_with fail
      have Z5 := ZZ.out
      have hX := (((((((((Z5.set0 6).set1 4).set2 true).set3 false).set4 false).set5 false).set6 true).set7 2).set8 0)
      refine l02Draw_ret (g := w.heap.size) (by rfl) (by rfl) hX.1 ⟨⟨6, 4, true, false, false, false, true, 2, 0⟩, k2, d2, rfl, rfl, ?_, by omega, ?_⟩
      · repeat (refine Src.other ?_ (by simp; omega) _)
        exact SS.out
      · repeat (refine grown_set ?_ _ (by simp) _)
        exact GG.out
    · rw [show nmStandardNames.getD (1 : Int).toNat ⟨#[]⟩ = (⟨#[109, 105, 110, 105]⟩ : ByteArray) from rfl]
      go_wp2_with fail
      refine (sstd1 _).mono ?_
      rintro e w4 ⟨rfl, b4⟩
      have Z4 := Z3.out.grown (grown_below (r := some b) b4) ne
      have G4 := Lib.hid (gr_trans G3.out (grown_below b4))
      have S4 := Lib.hid (S3.out.below b4 lt3)
      have X5 := RX.box w4 31 3 2 false false false true false 1 0
      have Z5 := Z4.alloc (.cells #[.int .i64 3, .int .i64 2, .bool false, .bool false, .bool false, .bool true, .bool false, .int .i64 1, .int .i64 0] 31)
      have S5 := S4.out.alloc (.cells #[.int .i64 3, .int .i64 2, .bool false, .bool false, .bool false, .bool true, .bool false, .int .i64 1, .int .i64 0] 31)
      have G5 := grown_alloc G4.out (.cells #[.int .i64 3, .int .i64 2, .bool false, .bool false, .bool false, .bool true, .bool false, .int .i64 1, .int .i64 0] 31)
      have lz := Z4.lt
      have XX := Lib.hid X5
      have ZZ := Lib.hid Z5
      have SS := Lib.hid S5
      have GG := Lib.hid G5
      clear b4 Z4 Z3 G3 S3 S4 G4 X5 Z5 S5 G5
      go_upto_region 3 with fail
      refine wp_namedS (fun w' => RX w' w4.heap.size ⟨3, 2, false, false, false, true, false, 1, 0⟩ ∧ RX w' w.heap.size ⟨0, 0, false, false, false, false, false, 0, 0⟩ ∧ Src w' b A n cc zs k2 d2 ∧ w.grownBy w' (some b)) ⟨XX.out, ZZ.out, SS.out, GG.out⟩ ?_
      rintro W ⟨X5, Z5, S5, G5⟩
      obtain ⟨c0, c1, c2, c3, c4, c5, c6, c7, c8⟩ := X5.1.flat
      obtain ⟨e0, e1, e2, e3, e4, e5, e6, e7, e8⟩ := Z5.1.flat
      have fz := Z5.2
      have f0 := fz 0; have f1 := fz 1; have f2 := fz 2; have f3 := fz 3; have f4 := fz 4; have f5 := fz 5; have f6 := fz 6; have f7 := fz 7; have f8 := fz 8
      have ZZ := Lib.hid Z5
      have SS := Lib.hid S5
      have GG := Lib.hid G5
      clear fz X5 XX Z5 S5 G5
      go_wp2_with fail
      have Z5 := ZZ.out
      have hX := (((((((((Z5.set0 3).set1 2).set2 false).set3 false).set4 false).set5 true).set6 false).set7 1).set8 0)
      refine l02Draw_ret (g := w.heap.size) (by rfl) (by rfl) hX.1 ⟨⟨3, 2, false, false, false, true, false, 1, 0⟩, k2, d2, rfl, rfl, ?_, by omega, ?_⟩
      · repeat (refine Src.other ?_ (by simp; omega) _)
        exact SS.out
      · repeat (refine grown_set ?_ _ (by simp) _)
        exact GG.out
    · rw [show nmStandardNames.getD (2 : Int).toNat ⟨#[]⟩ = (⟨#[111, 119, 97, 114, 101]⟩ : ByteArray) from rfl]
      go_wp2_with fail
      refine (sstd2 _).mono ?_
      rintro e w4 ⟨rfl, b4⟩
      have Z4 := Z3.out.grown (grown_below (r := some b) b4) ne
      have G4 := Lib.hid (gr_trans G3.out (grown_below b4))
      have S4 := Lib.hid (S3.out.below b4 lt3)
      have X5 := RX.box w4 31 6 4 false true false true false 1 2
      have Z5 := Z4.alloc (.cells #[.int .i64 6, .int .i64 4, .bool false, .bool true, .bool false, .bool true, .bool false, .int .i64 1, .int .i64 2] 31)
      have S5 := S4.out.alloc (.cells #[.int .i64 6, .int .i64 4, .bool false, .bool true, .bool false, .bool true, .bool false, .int .i64 1, .int .i64 2] 31)
      have G5 := grown_alloc G4.out (.cells #[.int .i64 6, .int .i64 4, .bool false, .bool true, .bool false, .bool true, .bool false, .int .i64 1, .int .i64 2] 31)
      have lz := Z4.lt
      have XX := Lib.hid X5
      have ZZ := Lib.hid Z5
      have SS := Lib.hid S5
      have GG := Lib.hid G5
      clear b4 Z4 Z3 G3 S3 S4 G4 X5 Z5 S5 G5
      go_upto_region 3 with fail
      refine wp_namedS (fun w' => RX w' w4.heap.size ⟨6, 4, false, true, false, true, false, 1, 2⟩ ∧ RX w' w.heap.size ⟨0, 0, false, false, false, false, false, 0, 0⟩ ∧ Src w' b A n cc zs k2 d2 ∧ w.grownBy w' (some b)) ⟨XX.out, ZZ.out, SS.out, GG.out⟩ ?_
      rintro W ⟨X5, Z5, S5, G5⟩
      obtain ⟨c0, c1, c2, c3, c4, c5, c6, c7, c8⟩ := X5.1.flat
      obtain ⟨e0, e1, e2, e3, e4, e5, e6, e7, e8⟩ := Z5.1.flat
      have fz := Z5.2
      have f0 := fz 0; have f1 := fz 1; have f2 := fz 2; have f3 := fz 3; have f4 := fz 4; have f5 := fz 5; have f6 := fz 6; have f7 := fz 7; have f8 := fz 8
      have ZZ := Lib.hid Z5
      have SS := Lib.hid S5
      have GG := Lib.hid G5
      clear fz X5 XX Z5 S5 G5
      go_wp2_with fail
      have Z5 := ZZ.out
      have hX := (((((((((Z5.set0 6).set1 4).set2 false).set3 true).set4 false).set5 true).set6 false).set7 1).set8 2)
      refine l02Draw_ret (g := w.heap.size) (by rfl) (by rfl) hX.1 ⟨⟨6, 4, false, true, false, true, false, 1, 2⟩, k2, d2, rfl, rfl, ?_, by omega, ?_⟩
      · repeat (refine Src.other ?_ (by simp; omega) _)
        exact SS.out
      · repeat (refine grown_set ?_ _ (by simp) _)
        exact GG.out
    · rw [show nmStandardNames.getD (3 : Int).toNat ⟨#[]⟩ = (⟨#[114, 101, 108, 97, 121]⟩ : ByteArray) from rfl]
      go_wp2_with fail
      refine (sstd3 _).mono ?_
      rintro e w4 ⟨rfl, b4⟩
      have Z4 := Z3.out.grown (grown_below (r := some b) b4) ne
      have G4 := Lib.hid (gr_trans G3.out (grown_below b4))
      have S4 := Lib.hid (S3.out.below b4 lt3)
      have X5 := RX.box w4 31 4 2 false false true false false 2 0
      have Z5 := Z4.alloc (.cells #[.int .i64 4, .int .i64 2, .bool false, .bool false, .bool true, .bool false, .bool false, .int .i64 2, .int .i64 0] 31)
      have S5 := S4.out.alloc (.cells #[.int .i64 4, .int .i64 2, .bool false, .bool false, .bool true, .bool false, .bool false, .int .i64 2, .int .i64 0] 31)
      have G5 := grown_alloc G4.out (.cells #[.int .i64 4, .int .i64 2, .bool false, .bool false, .bool true, .bool false, .bool false, .int .i64 2, .int .i64 0] 31)
      have lz := Z4.lt
      have XX := Lib.hid X5
      have ZZ := Lib.hid Z5
      have SS := Lib.hid S5
      have GG := Lib.hid G5
      clear b4 Z4 Z3 G3 S3 S4 G4 X5 Z5 S5 G5
      go_upto_region 3 with fail
      refine wp_namedS (fun w' => RX w' w4.heap.size ⟨4, 2, false, false, true, false, false, 2, 0⟩ ∧ RX w' w.heap.size ⟨0, 0, false, false, false, false, false, 0, 0⟩ ∧ Src w' b A n cc zs k2 d2 ∧ w.grownBy w' (some b)) ⟨XX.out, ZZ.out, SS.out, GG.out⟩ ?_
      rintro W ⟨X5, Z5, S5, G5⟩
      obtain ⟨c0, c1, c2, c3, c4, c5, c6, c7, c8⟩ := X5.1.flat
      obtain ⟨e0, e1, e2, e3, e4, e5, e6, e7, e8⟩ := Z5.1.flat
      have fz := Z5.2
      have f0 := fz 0; have f1 := fz 1; have f2 := fz 2; have f3 := fz 3; have f4 := fz 4; have f5 := fz 5; have f6 := fz 6; have f7 := fz 7; have f8 := fz 8
      have ZZ := Lib.hid Z5
      have SS := Lib.hid S5
      have GG := Lib.hid G5
      clear fz X5 XX Z5 S5 G5
      go_wp2_with fail
      have Z5 := ZZ.out
      have hX := (((((((((Z5.set0 4).set1 2).set2 false).set3 false).set4 true).set5 false).set6 false).set7 2).set8 0)
      refine l02Draw_ret (g := w.heap.size) (by rfl) (by rfl) hX.1 ⟨⟨4, 2, false, false, true, false, false, 2, 0⟩, k2, d2, rfl, rfl, ?_, by omega, ?_⟩
      · repeat (refine Src.other ?_ (by simp; omega) _)
        exact SS.out
      · repeat (refine grown_set ?_ _ (by simp) _)
        exact GG.out
  · go_enter Try.func139, Try.ntmps139
    go_wp2_with fail
    refine (one_any b A n cc zs k sd 3 (by omega) (by omega) (by omega) false hv _ (by exact S0.out)).mono ?_
    rintro e w1 ⟨rfl, s1, g1⟩
    have bd := (pk_bd zs k sd 3 (by omega)).2.2
    have ZZ := Lib.hid (Z0.out.grown g1 ne)
    have GG := Lib.hid (gr_trans G0.out g1)
    have SS := Lib.hid s1
    clear hv s1 g1 S0 Z0 G0
    generalize (pk zs k sd 3).2.1 = k1 at *
    generalize (pk zs k sd 3).2.2 = d1 at *
    obtain ⟨x0, x1, bd1⟩ := pk_bd zs k1 d1 4 (by omega)
    go_wp2_with fail
    refine (pick_any b A n cc zs k1 d1 4 (by omega) (by omega) (by omega) _ (by exact SS.out)).mono ?_
    rintro e w2 ⟨rfl, s1, g1⟩
    have ZZ := Lib.hid (ZZ.out.grown g1 ne)
    have GG := Lib.hid (gr_trans GG.out g1)
    have SS := Lib.hid s1
    clear s1 g1
    generalize (pk zs k1 d1 4).1 = x at *
    generalize (pk zs k1 d1 4).2.1 = k2 at *
    generalize (pk zs k1 d1 4).2.2 = d2 at *
    obtain ⟨y0, y1, bd2⟩ := pk_bd zs k2 d2 4 (by omega)
    go_wp2_with fail
    refine (pick_any b A n cc zs k2 d2 4 (by omega) (by omega) (by omega) _ (by exact SS.out)).mono ?_
    rintro e w3 ⟨rfl, s1, g1⟩
    have Z1 := ZZ.out.grown g1 ne
    have lz : w.heap.size < w3.heap.size := Z1.lt
    generalize (pk zs k2 d2 4).1 = y at *
    generalize (pk zs k2 d2 4).2.1 = k3 at *
    generalize (pk zs k2 d2 4).2.2 = d3 at *
    have neg : ¬ (w3.heap.size = b) := by omega
    have XY := Lib.hid (RX.box w3 31 (2 + x) (1 + y) false false false false false 0 0)
    have ZY := Lib.hid (Z1.alloc (.cells #[.int .i64 (2 + x), .int .i64 (1 + y), .bool false, .bool false, .bool false, .bool false, .bool false, .int .i64 0, .int .i64 0] 31))
    have SY := Lib.hid (s1.alloc (.cells #[.int .i64 (2 + x), .int .i64 (1 + y), .bool false, .bool false, .bool false, .bool false, .bool false, .int .i64 0, .int .i64 0] 31))
    have GY := Lib.hid (grown_alloc (gr_trans GG.out g1) (.cells #[.int .i64 (2 + x), .int .i64 (1 + y), .bool false, .bool false, .bool false, .bool false, .bool false, .int .i64 0, .int .i64 0] 31))
    clear Z1 s1 g1 ZZ SS GG
    go_upto_region 5 with fail
    refine wp_namedS (fun w' => RX w' w3.heap.size ⟨2 + x, 1 + y, false, false, false, false, false, 0, 0⟩ ∧ RX w' w.heap.size ⟨0, 0, false, false, false, false, false, 0, 0⟩ ∧ Src w' b A n cc zs k3 d3 ∧ w.grownBy w' (some b)) ⟨XY.out, ZY.out, SY.out, GY.out⟩ ?_
    clear XY ZY SY GY
    rintro W3 ⟨X1, Z1, S1, G1⟩
    have XX := Lib.hid X1
    have ZZ := Lib.hid Z1
    have SS := Lib.hid S1
    have GG := Lib.hid G1
    clear X1 Z1 S1 G1
    obtain ⟨st, hv⟩ : ∃ v, decide ((pk zs k3 d3 2).1 = 0) = v := ⟨_, rfl⟩
    have bd3 := (pk_bd zs k3 d3 2 (by omega)).2.2
    go_wp2_with fail
    refine (one_any b A n cc zs k3 d3 2 (by omega) (by omega) (by omega) st hv _ (by exact SS.out)).mono ?_
    clear hv
    rintro e v3 ⟨rfl, s1, g1⟩
    have X1 := XX.out.grown g1 neg
    have Z1 := ZZ.out.grown g1 ne
    obtain ⟨q0, q1, q2, q3, q4, q5, q6, q7, q8⟩ := X1.1.flat
    have fj := X1.2 2
    have XY := Lib.hid (X1.set2 st)
    have ZY := Lib.hid (Z1.other ⟨w3.heap.size, 2, none⟩ (by simp; omega) (.bool st))
    have SY := Lib.hid (s1.other (p := ⟨w3.heap.size, 2, none⟩) (by show b < w3.heap.size; omega) (.bool st))
    have GY := Lib.hid (grown_set (gr_trans GG.out g1) ⟨w3.heap.size, 2, none⟩ (by show w.heap.size ≤ w3.heap.size; omega) (.bool st))
    clear X1 Z1 s1 g1 XX ZZ SS GG
    generalize (pk zs k3 d3 2).2.1 = k4 at *
    generalize (pk zs k3 d3 2).2.2 = d4 at *
    go_upto_region 6 with fail
    refine wp_namedS (fun w' => RX w' w3.heap.size ⟨2 + x, 1 + y, st, false, false, false, false, 0, 0⟩ ∧ RX w' w.heap.size ⟨0, 0, false, false, false, false, false, 0, 0⟩ ∧ Src w' b A n cc zs k4 d4 ∧ w.grownBy w' (some b)) ⟨XY.out, ZY.out, SY.out, GY.out⟩ ?_
    clear XY ZY SY GY
    rintro W4 ⟨X1, Z1, S1, G1⟩
    have XX := Lib.hid X1
    have ZZ := Lib.hid Z1
    have SS := Lib.hid S1
    have GG := Lib.hid G1
    clear X1 Z1 S1 G1
    obtain ⟨sk, hv⟩ : ∃ v, decide ((pk zs k4 d4 2).1 = 0) = v := ⟨_, rfl⟩
    have bd4 := (pk_bd zs k4 d4 2 (by omega)).2.2
    go_wp2_with fail
    refine (one_any b A n cc zs k4 d4 2 (by omega) (by omega) (by omega) sk hv _ (by exact SS.out)).mono ?_
    clear hv
    rintro e v4 ⟨rfl, s1, g1⟩
    have X1 := XX.out.grown g1 neg
    have Z1 := ZZ.out.grown g1 ne
    obtain ⟨q0, q1, q2, q3, q4, q5, q6, q7, q8⟩ := X1.1.flat
    have fj := X1.2 3
    have XY := Lib.hid (X1.set3 sk)
    have ZY := Lib.hid (Z1.other ⟨w3.heap.size, 3, none⟩ (by simp; omega) (.bool sk))
    have SY := Lib.hid (s1.other (p := ⟨w3.heap.size, 3, none⟩) (by show b < w3.heap.size; omega) (.bool sk))
    have GY := Lib.hid (grown_set (gr_trans GG.out g1) ⟨w3.heap.size, 3, none⟩ (by show w.heap.size ≤ w3.heap.size; omega) (.bool sk))
    clear X1 Z1 s1 g1 XX ZZ SS GG
    generalize (pk zs k4 d4 2).2.1 = k5 at *
    generalize (pk zs k4 d4 2).2.2 = d5 at *
    go_upto_region 7 with fail
    refine wp_namedS (fun w' => RX w' w3.heap.size ⟨2 + x, 1 + y, st, sk, false, false, false, 0, 0⟩ ∧ RX w' w.heap.size ⟨0, 0, false, false, false, false, false, 0, 0⟩ ∧ Src w' b A n cc zs k5 d5 ∧ w.grownBy w' (some b)) ⟨XY.out, ZY.out, SY.out, GY.out⟩ ?_
    clear XY ZY SY GY
    rintro W5 ⟨X1, Z1, S1, G1⟩
    have XX := Lib.hid X1
    have ZZ := Lib.hid Z1
    have SS := Lib.hid S1
    have GG := Lib.hid G1
    clear X1 Z1 S1 G1
    obtain ⟨re, hv⟩ : ∃ v, decide ((pk zs k5 d5 4).1 = 0) = v := ⟨_, rfl⟩
    have bd5 := (pk_bd zs k5 d5 4 (by omega)).2.2
    go_wp2_with fail
    refine (one_any b A n cc zs k5 d5 4 (by omega) (by omega) (by omega) re hv _ (by exact SS.out)).mono ?_
    clear hv
    rintro e v5 ⟨rfl, s1, g1⟩
    have X1 := XX.out.grown g1 neg
    have Z1 := ZZ.out.grown g1 ne
    obtain ⟨q0, q1, q2, q3, q4, q5, q6, q7, q8⟩ := X1.1.flat
    have fj := X1.2 4
    have XY := Lib.hid (X1.set4 re)
    have ZY := Lib.hid (Z1.other ⟨w3.heap.size, 4, none⟩ (by simp; omega) (.bool re))
    have SY := Lib.hid (s1.other (p := ⟨w3.heap.size, 4, none⟩) (by show b < w3.heap.size; omega) (.bool re))
    have GY := Lib.hid (grown_set (gr_trans GG.out g1) ⟨w3.heap.size, 4, none⟩ (by show w.heap.size ≤ w3.heap.size; omega) (.bool re))
    clear X1 Z1 s1 g1 XX ZZ SS GG
    generalize (pk zs k5 d5 4).2.1 = k6 at *
    generalize (pk zs k5 d5 4).2.2 = d6 at *
    go_upto_region 8 with fail
    refine wp_namedS (fun w' => RX w' w3.heap.size ⟨2 + x, 1 + y, st, sk, re, false, false, 0, 0⟩ ∧ RX w' w.heap.size ⟨0, 0, false, false, false, false, false, 0, 0⟩ ∧ Src w' b A n cc zs k6 d6 ∧ w.grownBy w' (some b)) ⟨XY.out, ZY.out, SY.out, GY.out⟩ ?_
    clear XY ZY SY GY
    rintro W6 ⟨X1, Z1, S1, G1⟩
    have XX := Lib.hid X1
    have ZZ := Lib.hid Z1
    have SS := Lib.hid S1
    have GG := Lib.hid G1
    clear X1 Z1 S1 G1
    obtain ⟨fe, hv⟩ : ∃ v, decide ((pk zs k6 d6 2).1 = 0) = v := ⟨_, rfl⟩
    have bd6 := (pk_bd zs k6 d6 2 (by omega)).2.2
    go_wp2_with fail
    refine (one_any b A n cc zs k6 d6 2 (by omega) (by omega) (by omega) fe hv _ (by exact SS.out)).mono ?_
    clear hv
    rintro e v6 ⟨rfl, s1, g1⟩
    have X1 := XX.out.grown g1 neg
    have Z1 := ZZ.out.grown g1 ne
    obtain ⟨q0, q1, q2, q3, q4, q5, q6, q7, q8⟩ := X1.1.flat
    have fj := X1.2 5
    have XY := Lib.hid (X1.set5 fe)
    have ZY := Lib.hid (Z1.other ⟨w3.heap.size, 5, none⟩ (by simp; omega) (.bool fe))
    have SY := Lib.hid (s1.other (p := ⟨w3.heap.size, 5, none⟩) (by show b < w3.heap.size; omega) (.bool fe))
    have GY := Lib.hid (grown_set (gr_trans GG.out g1) ⟨w3.heap.size, 5, none⟩ (by show w.heap.size ≤ w3.heap.size; omega) (.bool fe))
    clear X1 Z1 s1 g1 XX ZZ SS GG
    generalize (pk zs k6 d6 2).2.1 = k7 at *
    generalize (pk zs k6 d6 2).2.2 = d7 at *
    go_upto_region 9 with fail
    refine wp_namedS (fun w' => RX w' w3.heap.size ⟨2 + x, 1 + y, st, sk, re, fe, false, 0, 0⟩ ∧ RX w' w.heap.size ⟨0, 0, false, false, false, false, false, 0, 0⟩ ∧ Src w' b A n cc zs k7 d7 ∧ w.grownBy w' (some b)) ⟨XY.out, ZY.out, SY.out, GY.out⟩ ?_
    clear XY ZY SY GY
    rintro W7 ⟨X1, Z1, S1, G1⟩
    have XX := Lib.hid X1
    have ZZ := Lib.hid Z1
    have SS := Lib.hid S1
    have GG := Lib.hid G1
    clear X1 Z1 S1 G1
    cases st
    · obtain ⟨q0, q1, q2, q3, q4, q5, q6, q7, q8⟩ := XX.out.1.flat
      have fj := XX.out.2 6
      have XY := Lib.hid (XX.out.set6 false)
      have ZY := Lib.hid (ZZ.out.other ⟨w3.heap.size, 6, none⟩ (by simp; omega) (.bool false))
      have SY := Lib.hid (SS.out.other (p := ⟨w3.heap.size, 6, none⟩) (by show b < w3.heap.size; omega) (.bool false))
      have GY := Lib.hid (grown_set GG.out ⟨w3.heap.size, 6, none⟩ (by show w.heap.size ≤ w3.heap.size; omega) (.bool false))
      clear XX ZZ SS GG
      go_upto_region 10 with fail
      refine wp_namedS (fun w' => RX w' w3.heap.size ⟨2 + x, 1 + y, false, sk, re, fe, false, 0, 0⟩ ∧ RX w' w.heap.size ⟨0, 0, false, false, false, false, false, 0, 0⟩ ∧ Src w' b A n cc zs k7 d7 ∧ w.grownBy w' (some b)) ⟨XY.out, ZY.out, SY.out, GY.out⟩ ?_
      clear XY ZY SY GY
      rintro W7 ⟨X1, Z1, S1, G1⟩
      have XX := Lib.hid X1
      have ZZ := Lib.hid Z1
      have SS := Lib.hid S1
      have GG := Lib.hid G1
      clear X1 Z1 S1 G1
      obtain ⟨cp0, cp1, bd7⟩ := pk_bd zs k7 d7 4 (by omega)
      go_wp2_with fail
      refine (pick_any b A n cc zs k7 d7 4 (by omega) (by omega) (by omega) _ (by exact SS.out)).mono ?_
      rintro e v7 ⟨rfl, s1, g1⟩
      generalize (pk zs k7 d7 4).1 = cp at *
      have X1 := XX.out.grown g1 neg
      have Z1 := ZZ.out.grown g1 ne
      obtain ⟨q0, q1, q2, q3, q4, q5, q6, q7, q8⟩ := X1.1.flat
      have fj := X1.2 7
      have XY := Lib.hid (X1.set7 cp)
      have ZY := Lib.hid (Z1.other ⟨w3.heap.size, 7, none⟩ (by simp; omega) (.int .i64 cp))
      have SY := Lib.hid (s1.other (p := ⟨w3.heap.size, 7, none⟩) (by show b < w3.heap.size; omega) (.int .i64 cp))
      have GY := Lib.hid (grown_set (gr_trans GG.out g1) ⟨w3.heap.size, 7, none⟩ (by show w.heap.size ≤ w3.heap.size; omega) (.int .i64 cp))
      clear X1 Z1 s1 g1 XX ZZ SS GG
      generalize (pk zs k7 d7 4).2.1 = k8 at *
      generalize (pk zs k7 d7 4).2.2 = d8 at *
      go_upto_region 11 with fail
      refine wp_namedS (fun w' => RX w' w3.heap.size ⟨2 + x, 1 + y, false, sk, re, fe, false, cp, 0⟩ ∧ RX w' w.heap.size ⟨0, 0, false, false, false, false, false, 0, 0⟩ ∧ Src w' b A n cc zs k8 d8 ∧ w.grownBy w' (some b)) ⟨XY.out, ZY.out, SY.out, GY.out⟩ ?_
      clear XY ZY SY GY
      rintro W8 ⟨X1, Z1, S1, G1⟩
      have XX := Lib.hid X1
      have ZZ := Lib.hid Z1
      have SS := Lib.hid S1
      have GG := Lib.hid G1
      clear X1 Z1 S1 G1
      obtain ⟨sl0, sl1, bd8⟩ := pk_bd zs k8 d8 3 (by omega)
      go_wp2_with fail
      refine (pick_any b A n cc zs k8 d8 3 (by omega) (by omega) (by omega) _ (by exact SS.out)).mono ?_
      rintro e v8 ⟨rfl, s1, g1⟩
      generalize (pk zs k8 d8 3).1 = sl at *
      have X1 := XX.out.grown g1 neg
      have Z1 := ZZ.out.grown g1 ne
      obtain ⟨q0, q1, q2, q3, q4, q5, q6, q7, q8⟩ := X1.1.flat
      have fj := X1.2 8
      have XY := Lib.hid (X1.set8 sl)
      have ZY := Lib.hid (Z1.other ⟨w3.heap.size, 8, none⟩ (by simp; omega) (.int .i64 sl))
      have SY := Lib.hid (s1.other (p := ⟨w3.heap.size, 8, none⟩) (by show b < w3.heap.size; omega) (.int .i64 sl))
      have GY := Lib.hid (grown_set (gr_trans GG.out g1) ⟨w3.heap.size, 8, none⟩ (by show w.heap.size ≤ w3.heap.size; omega) (.int .i64 sl))
      clear X1 Z1 s1 g1 XX ZZ SS GG
      generalize (pk zs k8 d8 3).2.1 = k9 at *
      generalize (pk zs k8 d8 3).2.2 = d9 at *
      go_upto_region 12 with fail
      refine wp_namedS (fun w' => RX w' w3.heap.size ⟨2 + x, 1 + y, false, sk, re, fe, false, cp, sl⟩ ∧ RX w' w.heap.size ⟨0, 0, false, false, false, false, false, 0, 0⟩ ∧ Src w' b A n cc zs k9 d9 ∧ w.grownBy w' (some b)) ⟨XY.out, ZY.out, SY.out, GY.out⟩ ?_
      clear XY ZY SY GY
      rintro W9 ⟨X1, Z1, S1, G1⟩
      have XX := Lib.hid X1
      have ZZ := Lib.hid Z1
      have SS := Lib.hid S1
      have GG := Lib.hid G1
      clear X1 Z1 S1 G1
      obtain ⟨c0, c1, c2, c3, c4, c5, c6, c7, c8⟩ := XX.out.1.flat
      obtain ⟨e0, e1, e2, e3, e4, e5, e6, e7, e8⟩ := ZZ.out.1.flat
      have fz := ZZ.out.2
      have f0 := fz 0; have f1 := fz 1; have f2 := fz 2; have f3 := fz 3; have f4 := fz 4; have f5 := fz 5; have f6 := fz 6; have f7 := fz 7; have f8 := fz 8
      clear fz XX
      go_wp2_with fail
      have hX := (((((((((ZZ.out.set0 (2 + x)).set1 (1 + y)).set2 (false)).set3 (sk)).set4 (re)).set5 (fe)).set6 (false)).set7 (cp)).set8 (sl))
      refine l02Draw_ret (g := w.heap.size) (by rfl) (by rfl) hX.1 ⟨⟨2 + x, 1 + y, false, sk, re, fe, false, cp, sl⟩, k9, d9, rfl, ?_, ?_, by omega, ?_⟩
      · simp [okR, inB]; omega
      · repeat (refine Src.other ?_ (by simp; omega) _)
        exact SS.out
      · repeat (refine grown_set ?_ _ (by simp) _)
        exact GG.out
    · obtain ⟨c0, c1, c2, c3, c4, c5, c6, c7, c8⟩ := XX.out.1.flat
      obtain ⟨ag, hv⟩ : ∃ v, decide ((pk zs k7 d7 2).1 = 0) = v := ⟨_, rfl⟩
      have bd7 := (pk_bd zs k7 d7 2 (by omega)).2.2
      go_wp2_with fail
      refine (one_any b A n cc zs k7 d7 2 (by omega) (by omega) (by omega) ag hv _ (by exact SS.out)).mono ?_
      clear hv
      rintro e v7 ⟨rfl, s1, g1⟩
      have X1 := XX.out.grown g1 neg
      have Z1 := ZZ.out.grown g1 ne
      obtain ⟨q0, q1, q2, q3, q4, q5, q6, q7, q8⟩ := X1.1.flat
      have fj := X1.2 6
      have XY := Lib.hid (X1.set6 ag)
      have ZY := Lib.hid (Z1.other ⟨w3.heap.size, 6, none⟩ (by simp; omega) (.bool ag))
      have SY := Lib.hid (s1.other (p := ⟨w3.heap.size, 6, none⟩) (by show b < w3.heap.size; omega) (.bool ag))
      have GY := Lib.hid (grown_set (gr_trans GG.out g1) ⟨w3.heap.size, 6, none⟩ (by show w.heap.size ≤ w3.heap.size; omega) (.bool ag))
      clear X1 Z1 s1 g1 XX ZZ SS GG
      generalize (pk zs k7 d7 2).2.1 = k8 at *
      generalize (pk zs k7 d7 2).2.2 = d8 at *
      go_upto_region 10 with fail
      refine wp_namedS (fun w' => RX w' w3.heap.size ⟨2 + x, 1 + y, true, sk, re, fe, ag, 0, 0⟩ ∧ RX w' w.heap.size ⟨0, 0, false, false, false, false, false, 0, 0⟩ ∧ Src w' b A n cc zs k8 d8 ∧ w.grownBy w' (some b)) ⟨XY.out, ZY.out, SY.out, GY.out⟩ ?_
      clear XY ZY SY GY
      rintro W8 ⟨X1, Z1, S1, G1⟩
      have XX := Lib.hid X1
      have ZZ := Lib.hid Z1
      have SS := Lib.hid S1
      have GG := Lib.hid G1
      clear X1 Z1 S1 G1
      obtain ⟨cp0, cp1, bd8⟩ := pk_bd zs k8 d8 4 (by omega)
      go_wp2_with fail
      refine (pick_any b A n cc zs k8 d8 4 (by omega) (by omega) (by omega) _ (by exact SS.out)).mono ?_
      rintro e v8 ⟨rfl, s1, g1⟩
      generalize (pk zs k8 d8 4).1 = cp at *
      have X1 := XX.out.grown g1 neg
      have Z1 := ZZ.out.grown g1 ne
      obtain ⟨q0, q1, q2, q3, q4, q5, q6, q7, q8⟩ := X1.1.flat
      have fj := X1.2 7
      have XY := Lib.hid (X1.set7 cp)
      have ZY := Lib.hid (Z1.other ⟨w3.heap.size, 7, none⟩ (by simp; omega) (.int .i64 cp))
      have SY := Lib.hid (s1.other (p := ⟨w3.heap.size, 7, none⟩) (by show b < w3.heap.size; omega) (.int .i64 cp))
      have GY := Lib.hid (grown_set (gr_trans GG.out g1) ⟨w3.heap.size, 7, none⟩ (by show w.heap.size ≤ w3.heap.size; omega) (.int .i64 cp))
      clear X1 Z1 s1 g1 XX ZZ SS GG
      generalize (pk zs k8 d8 4).2.1 = k9 at *
      generalize (pk zs k8 d8 4).2.2 = d9 at *
      go_upto_region 11 with fail
      refine wp_namedS (fun w' => RX w' w3.heap.size ⟨2 + x, 1 + y, true, sk, re, fe, ag, cp, 0⟩ ∧ RX w' w.heap.size ⟨0, 0, false, false, false, false, false, 0, 0⟩ ∧ Src w' b A n cc zs k9 d9 ∧ w.grownBy w' (some b)) ⟨XY.out, ZY.out, SY.out, GY.out⟩ ?_
      clear XY ZY SY GY
      rintro W9 ⟨X1, Z1, S1, G1⟩
      have XX := Lib.hid X1
      have ZZ := Lib.hid Z1
      have SS := Lib.hid S1
      have GG := Lib.hid G1
      clear X1 Z1 S1 G1
      obtain ⟨sl0, sl1, bd9⟩ := pk_bd zs k9 d9 3 (by omega)
      go_wp2_with fail
      refine (pick_any b A n cc zs k9 d9 3 (by omega) (by omega) (by omega) _ (by exact SS.out)).mono ?_
      rintro e v9 ⟨rfl, s1, g1⟩
      generalize (pk zs k9 d9 3).1 = sl at *
      have X1 := XX.out.grown g1 neg
      have Z1 := ZZ.out.grown g1 ne
      obtain ⟨q0, q1, q2, q3, q4, q5, q6, q7, q8⟩ := X1.1.flat
      have fj := X1.2 8
      have XY := Lib.hid (X1.set8 sl)
      have ZY := Lib.hid (Z1.other ⟨w3.heap.size, 8, none⟩ (by simp; omega) (.int .i64 sl))
      have SY := Lib.hid (s1.other (p := ⟨w3.heap.size, 8, none⟩) (by show b < w3.heap.size; omega) (.int .i64 sl))
      have GY := Lib.hid (grown_set (gr_trans GG.out g1) ⟨w3.heap.size, 8, none⟩ (by show w.heap.size ≤ w3.heap.size; omega) (.int .i64 sl))
      clear X1 Z1 s1 g1 XX ZZ SS GG
      generalize (pk zs k9 d9 3).2.1 = k10 at *
      generalize (pk zs k9 d9 3).2.2 = d10 at *
      go_upto_region 12 with fail
      refine wp_namedS (fun w' => RX w' w3.heap.size ⟨2 + x, 1 + y, true, sk, re, fe, ag, cp, sl⟩ ∧ RX w' w.heap.size ⟨0, 0, false, false, false, false, false, 0, 0⟩ ∧ Src w' b A n cc zs k10 d10 ∧ w.grownBy w' (some b)) ⟨XY.out, ZY.out, SY.out, GY.out⟩ ?_
      clear XY ZY SY GY
      rintro W10 ⟨X1, Z1, S1, G1⟩
      have XX := Lib.hid X1
      have ZZ := Lib.hid Z1
      have SS := Lib.hid S1
      have GG := Lib.hid G1
      clear X1 Z1 S1 G1
      obtain ⟨c0, c1, c2, c3, c4, c5, c6, c7, c8⟩ := XX.out.1.flat
      obtain ⟨e0, e1, e2, e3, e4, e5, e6, e7, e8⟩ := ZZ.out.1.flat
      have fz := ZZ.out.2
      have f0 := fz 0; have f1 := fz 1; have f2 := fz 2; have f3 := fz 3; have f4 := fz 4; have f5 := fz 5; have f6 := fz 6; have f7 := fz 7; have f8 := fz 8
      clear fz XX
      go_wp2_with fail
      have hX := (((((((((ZZ.out.set0 (2 + x)).set1 (1 + y)).set2 (true)).set3 (sk)).set4 (re)).set5 (fe)).set6 (ag)).set7 (cp)).set8 (sl))
      refine l02Draw_ret (g := w.heap.size) (by rfl) (by rfl) hX.1 ⟨⟨2 + x, 1 + y, true, sk, re, fe, ag, cp, sl⟩, k10, d10, rfl, ?_, ?_, by omega, ?_⟩
      · simp [okR, inB]; omega
      · repeat (refine Src.other ?_ (by simp; omega) _)
        exact SS.out
      · repeat (refine grown_set ?_ _ (by simp) _)
        exact GG.out
theorem A2Rules_ret {Post : Ending → World → Prop} {a : Act} {W : World} {g : Nat} {p s : Int} {st sk re fe ag : Bool} {c sl : Int} (ha : a.tmps.getD 2 undef = .pointer (some ⟨g, 0, none⟩)) (hd : a.defers = []) (hr : RuAt W g 0 ⟨p, s, st, sk, re, fe, ag, c, sl⟩) (hP : Post (.returned (.agg #[.int .i64 p, .int .i64 s, .bool st, .bool sk, .bool re, .bool fe, .bool ag, .int .i64 c, .int .i64 sl])) W) : bodyPost Try.prog Try.f79 Post Exit.ret a W := by
  obtain ⟨c0, c1, c2, c3, c4, c5, c6, c7, c8⟩ := hr.flat
  refine bodyPost_ret (v := .agg #[.int .i64 p, .int .i64 s, .bool st, .bool sk, .bool re, .bool fe, .bool ag, .int .i64 c, .int .i64 sl]) ?_ hd hP
  obtain ⟨tmps, defers⟩ := a
  simp only [Array.getD_eq_getD_getElem?] at ha
  simp [results, Try.results79, go_sem, ha, c0, c1, c2, c3, c4, c5, c6, c7, c8]
set_option maxRecDepth 100000 in
set_option maxHeartbeats 4000000 in
theorem A2Rules_any (A : Option Addr) (n cc : Nat) (zs : List Int) (w : World) (h : Bys w w.heap.size A n cc zs) (hn : n ≤ 4096) : Calls Try.prog 79 #[.slice A n cc] w fun e w' => ∃ r : Ru, e = .returned (.agg r.cells.toArray) ∧ okR r = true ∧ Below w.heap.size w w' := by
  have bw : Below w.heap.size w (w.alloc (.cells #[.int .i64 0, .int .i64 0, .bool false, .bool false, .bool false, .bool false, .bool false, .int .i64 0, .int .i64 0] 31)) := (by repeat (first | with_reducible exact Below.refl _ _ | with_reducible assumption | with_reducible refine sub_alloc ?_ _ | (with_reducible refine sub_setCell2 ?_ ?_ _; (focus (first | (simp; done) | (simp <;> omega)))) | with_reducible refine sub_drew ?_ | with_reducible refine below_drewN ?_ _ | with_reducible refine sub_step (by assumption) ?_ (by first | rfl | (simp; done)) | exact Below.refl _ _ | assumption | refine sub_alloc ?_ _ | refine sub_setCell ?_ (by simp <;> omega) _ | refine sub_drew ?_ | refine below_drewN ?_ _ | refine sub_step (by assumption) ?_ (by first | rfl | (simp; done))))
  have H := Lib.hid (h.sub bw)
  have Z0 := Lib.hid (RX.box w 31 0 0 false false false false false 0 0)
  have BW := Lib.hid bw
  clear h bw
  go_enter Try.func79, Try.ntmps79
  go_wp2_with fail
  refine (l00From_any A n cc zs _ (by exact H.out) hn).mono ?_
  rintro e w1 ⟨rfl, s1, b1⟩
  have Z1 := Lib.hid (Z0.out.grown (grown_below (r := none) b1 |> fun h => (⟨h.os, h.tape, h.output, h.size, fun k hk _ => h.block k hk (by simp)⟩ : World.grownBy _ _ (some (w.heap.size + 1)))) (by omega))
  have B1 := Lib.hid (sub_step b1 BW.out rfl)
  have sz1 : (w.alloc (.cells #[.int .i64 0, .int .i64 0, .bool false, .bool false, .bool false, .bool false, .bool false, .int .i64 0, .int .i64 0] 31)).heap.size = w.heap.size + 1 := by simp
  rw [sz1] at s1
  have S1 := Lib.hid s1
  have lt1 := s1.lt
  clear b1 s1
  go_wp2_with fail
  refine (l02Draw_any _ A n cc zs 0 0 (by omega) _ (by exact S1.out)).mono ?_
  rintro e w2 ⟨r, k2, d2, rfl, hr, s2, -, g2⟩
  have Z2 := Z1.out.grown g2 (by omega)
  have B2 := Lib.hid (B1.out.grown g2 B1.out.size (fun k e => by injection e with e; omega))
  have HR := Lib.hid hr
  clear s2 g2 hr
  obtain ⟨p, s, st, sk, re, fe, ag, c, sl⟩ := r
  rw [show (Value.agg (Ru.cells ⟨p, s, st, sk, re, fe, ag, c, sl⟩).toArray) = .agg #[.int .i64 p, .int .i64 s, .bool st, .bool sk, .bool re, .bool fe, .bool ag, .int .i64 c, .int .i64 sl] from rfl]
  obtain ⟨e0, e1, e2, e3, e4, e5, e6, e7, e8⟩ := Z2.1.flat
  have fz := Z2.2
  have f0 := fz 0; have f1 := fz 1; have f2 := fz 2; have f3 := fz 3; have f4 := fz 4; have f5 := fz 5; have f6 := fz 6; have f7 := fz 7; have f8 := fz 8
  have ZZ := Lib.hid Z2
  clear fz Z2
  go_wp2_with fail
  have hX := (((((((((ZZ.out.set0 p).set1 s).set2 st).set3 sk).set4 re).set5 fe).set6 ag).set7 c).set8 sl)
  refine A2Rules_ret (g := w.heap.size) (by rfl) (by rfl) hX.1 ⟨⟨p, s, st, sk, re, fe, ag, c, sl⟩, rfl, HR.out, ?_⟩
  repeat (refine sub_setCell2 (by simp) ?_ _)
  exact B2.out
end Go.Proofs.Ytnanaldolnehiaa
