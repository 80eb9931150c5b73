/-
  The names of rules that are given: StandardName; the law FnExactStandardName, walked.
-/
import Derived.Test.YtnanaldolnehiaaStd
import Derived.Deep.RegionHeld3
set_option linter.unusedSimpArgs false
set_option linter.unusedVariables false
namespace Go.Proofs.Ytnanaldolnehiaa
open Go.ChangeShapes Go.WideShapes Go.RowKit Go.Deep

theorem undrew {B : Nat} {w w' : World} (h : Below B w.drew w') : Below B w w' := ⟨h.os, h.tape, h.output, h.size, h.block⟩
/-- Whether two rules are the same. -/
def eqRu (a b : Ru) : Bool := (a.pits == b.pits) && ((a.seeds == b.seeds) && ((a.stores == b.stores) && ((a.skip == b.skip) && ((a.relay == b.relay) && ((a.feed == b.feed) && ((a.again == b.again) && ((a.capture == b.capture) && (a.slam == b.slam))))))))
set_option maxHeartbeats 4000000 in
theorem eql_rules (p s : Int) (st sk re fe ag : Bool) (c sl : Int) (p' s' : Int) (st' sk' re' fe' ag' : Bool) (c' sl' : Int) (v : Bool) (hv : eqRu ⟨p, s, st, sk, re, fe, ag, c, sl⟩ ⟨p', s', st', sk', re', fe', ag', c', sl'⟩ = v) (w : World) : (binOp .eql 31 (.agg #[.int .i64 p, .int .i64 s, .bool st, .bool sk, .bool re, .bool fe, .bool ag, .int .i64 c, .int .i64 sl]) (.agg #[.int .i64 p', .int .i64 s', .bool st', .bool sk', .bool re', .bool fe', .bool ag', .int .i64 c', .int .i64 sl'])).run Try.prog w = .ok (.bool v) w := by
  subst hv
  go_simp
  (repeat' split) <;> simp_all [eqRu]
/-- The four names at a place. -/
def NmAt (w : World) (b : Nat) : Prop := w.cell? ⟨b, 0, none⟩ = some (.string (⟨#[107, 97, 108, 97, 104]⟩ : ByteArray)) ∧ w.cell? ⟨b, 1, none⟩ = some (.string (⟨#[109, 105, 110, 105]⟩ : ByteArray)) ∧ w.cell? ⟨b, 2, none⟩ = some (.string (⟨#[111, 119, 97, 114, 101]⟩ : ByteArray)) ∧ w.cell? ⟨b, 3, none⟩ = some (.string (⟨#[114, 101, 108, 97, 121]⟩ : ByteArray))
theorem NmAt.lt {w : World} {b : Nat} (h : NmAt w b) : b < w.heap.size := by have := lt_of_cell h.1; simpa using this
theorem NmAt.keep {w w' : World} {b : Nat} (h : NmAt w b) (hk : ∀ i, w'.cell? ⟨b, i, none⟩ = w.cell? ⟨b, i, none⟩) : NmAt w' b := by
  unfold NmAt at h ⊢
  simp only [hk]
  exact h
theorem NmAt.below {w w' : World} {B b : Nat} (h : NmAt w b) (hb : Below B w w') (hB : b < B) : NmAt w' b := h.keep fun i => hb.cell (p := ⟨b, i, none⟩) hB
theorem NmAt.alloc {w : World} {b : Nat} (h : NmAt w b) (x : Obj) : NmAt (w.alloc x) b := h.keep fun i => World.cell?_alloc_lt w x ⟨b, i, none⟩ h.lt
theorem NmAt.box (w : World) (t : TypeId) : NmAt (w.alloc (.cells #[.string (⟨#[107, 97, 108, 97, 104]⟩ : ByteArray), .string (⟨#[109, 105, 110, 105]⟩ : ByteArray), .string (⟨#[111, 119, 97, 114, 101]⟩ : ByteArray), .string (⟨#[114, 101, 108, 97, 121]⟩ : ByteArray)] t)) w.heap.size := by
  unfold NmAt
  simp [World.cell?_alloc_new]
/-- The name of rules, and a code. -/
def nmS (r : Ru) : ByteArray := if eqRu ⟨6, 4, true, false, false, false, true, 2, 0⟩ r = true then (⟨#[107, 97, 108, 97, 104]⟩ : ByteArray) else if eqRu ⟨3, 2, false, false, false, true, false, 1, 0⟩ r = true then (⟨#[109, 105, 110, 105]⟩ : ByteArray) else if eqRu ⟨6, 4, false, true, false, true, false, 1, 2⟩ r = true then (⟨#[111, 119, 97, 114, 101]⟩ : ByteArray) else if eqRu ⟨4, 2, false, false, true, false, false, 2, 0⟩ r = true then (⟨#[114, 101, 108, 97, 121]⟩ : ByteArray) else ⟨#[]⟩
def nmC (r : Ru) : Int := if eqRu ⟨6, 4, true, false, false, false, true, 2, 0⟩ r = true then 0 else if eqRu ⟨3, 2, false, false, false, true, false, 1, 0⟩ r = true then 0 else if eqRu ⟨6, 4, false, true, false, true, false, 1, 2⟩ r = true then 0 else if eqRu ⟨4, 2, false, false, true, false, false, 2, 0⟩ r = true then 0 else 3


set_option maxRecDepth 100000 in
set_option maxHeartbeats 8000000 in
theorem StandardName_any (p s : Int) (st sk re fe ag : Bool) (c sl : Int) (w : World) : Calls Try.prog 73 #[.agg #[.int .i64 p, .int .i64 s, .bool st, .bool sk, .bool re, .bool fe, .bool ag, .int .i64 c, .int .i64 sl]] w fun e w' => e = .returned (.tuple #[.string (nmS ⟨p, s, st, sk, re, fe, ag, c, sl⟩), .int .i64 (nmC ⟨p, s, st, sk, re, fe, ag, c, sl⟩)]) ∧ Below w.heap.size w w' := by
  cases f0 : eqRu ⟨6, 4, true, false, false, false, true, 2, 0⟩ ⟨p, s, st, sk, re, fe, ag, c, sl⟩
  rotate_left
  · have hn : nmS ⟨p, s, st, sk, re, fe, ag, c, sl⟩ = (⟨#[107, 97, 108, 97, 104]⟩ : ByteArray) := by simp [nmS, f0]
    have hc : nmC ⟨p, s, st, sk, re, fe, ag, c, sl⟩ = 0 := by simp [nmC, f0]
    rw [hn, hc]
    clear hn hc
    have E0 := fun (w : World) => eql_rules 6 4 true false false false true 2 0 p s st sk re fe ag c sl true f0 w
    clear f0
    have Y0 := (RuAt.box w 31 p s st sk re fe ag c sl).alloc (.cells #[.string (⟨#[107, 97, 108, 97, 104]⟩ : ByteArray), .string (⟨#[109, 105, 110, 105]⟩ : ByteArray), .string (⟨#[111, 119, 97, 114, 101]⟩ : ByteArray), .string (⟨#[114, 101, 108, 97, 121]⟩ : ByteArray)] 9)
    have N0 := NmAt.box (w.alloc (.cells #[.int .i64 p, .int .i64 s, .bool st, .bool sk, .bool re, .bool fe, .bool ag, .int .i64 c, .int .i64 sl] 31)) 9
    have hs1 : (w.alloc (.cells #[.int .i64 p, .int .i64 s, .bool st, .bool sk, .bool re, .bool fe, .bool ag, .int .i64 c, .int .i64 sl] 31)).heap.size = w.heap.size + 1 := by simp
    rw [hs1] at N0
    clear hs1
    obtain ⟨c0, c1, c2, c3, c4, c5, c6, c7, c8⟩ := Y0.flat
    have bw0 : Below w.heap.size w ((w.alloc (.cells #[.int .i64 p, .int .i64 s, .bool st, .bool sk, .bool re, .bool fe, .bool ag, .int .i64 c, .int .i64 sl] 31)).alloc (.cells #[.string (⟨#[107, 97, 108, 97, 104]⟩ : ByteArray), .string (⟨#[109, 105, 110, 105]⟩ : ByteArray), .string (⟨#[111, 119, 97, 114, 101]⟩ : ByteArray), .string (⟨#[114, 101, 108, 97, 121]⟩ : ByteArray)] 9)) := (by repeat (first | with_reducible exact Below.refl _ _ | with_reducible assumption | with_reducible refine sub_alloc ?_ _ | (with_reducible refine sub_setCell2 ?_ ?_ _; (focus (first | (simp; done) | (simp <;> omega)))) | with_reducible refine sub_drew ?_ | with_reducible refine below_drewN ?_ _ | with_reducible refine sub_step (by assumption) ?_ (by first | rfl | (simp; done)) | exact Below.refl _ _ | assumption | refine sub_alloc ?_ _ | refine sub_setCell ?_ (by simp <;> omega) _ | refine sub_drew ?_ | refine below_drewN ?_ _ | refine sub_step (by assumption) ?_ (by first | rfl | (simp; done))))
    go_enter Try.func73, Try.ntmps73
    go_wp2
    refine wp_loop_rounds 5 ?_; rw [rounds_succ]
    go_wp2_with fail
    go_region_held3 (fun w' => w'.cell? ⟨w.heap.size, 0, none⟩ = some (.int .i64 p) ∧ w'.cell? ⟨w.heap.size, 1, none⟩ = some (.int .i64 s) ∧ w'.cell? ⟨w.heap.size, 2, none⟩ = some (.bool st) ∧ w'.cell? ⟨w.heap.size, 3, none⟩ = some (.bool sk) ∧ w'.cell? ⟨w.heap.size, 4, none⟩ = some (.bool re) ∧ w'.cell? ⟨w.heap.size, 5, none⟩ = some (.bool fe) ∧ w'.cell? ⟨w.heap.size, 6, none⟩ = some (.bool ag) ∧ w'.cell? ⟨w.heap.size, 7, none⟩ = some (.int .i64 c) ∧ w'.cell? ⟨w.heap.size, 8, none⟩ = some (.int .i64 sl)) (first | (refine ⟨?_, ?_, ?_, ?_, ?_, ?_, ?_, ?_, ?_⟩ <;> assumption) | go_keep) (first | (go_at_call 133; refine (standard_any _ _).mono ?_; rintro e w1 ⟨rfl, hb1⟩; rw [show stdR (⟨#[107, 97, 108, 97, 104]⟩ : ByteArray) = ⟨6, 4, true, false, false, false, true, 2, 0⟩ by rfl]; dsimp only [Ru.cells, List.toArray]; have hb1 := undrew hb1; have Y1 := Y0.below hb1 Y0.lt; obtain ⟨c0, c1, c2, c3, c4, c5, c6, c7, c8⟩ := Y1.flat))
    have N1 := N0.below hb1 N0.lt
    have NN := N1
    obtain ⟨n0, n1, n2, n3⟩ := NN
    have bw1 : Below w.heap.size w w1 := sub_step hb1 bw0 rfl
    go_wp2_with fail
    go_ret2
    exact ⟨rfl, bw1⟩
  cases f1 : eqRu ⟨3, 2, false, false, false, true, false, 1, 0⟩ ⟨p, s, st, sk, re, fe, ag, c, sl⟩
  rotate_left
  · have hn : nmS ⟨p, s, st, sk, re, fe, ag, c, sl⟩ = (⟨#[109, 105, 110, 105]⟩ : ByteArray) := by simp [nmS, f0, f1]
    have hc : nmC ⟨p, s, st, sk, re, fe, ag, c, sl⟩ = 0 := by simp [nmC, f0, f1]
    rw [hn, hc]
    clear hn hc
    have E0 := fun (w : World) => eql_rules 6 4 true false false false true 2 0 p s st sk re fe ag c sl false f0 w
    have E1 := fun (w : World) => eql_rules 3 2 false false false true false 1 0 p s st sk re fe ag c sl true f1 w
    clear f0 f1
    have Y0 := (RuAt.box w 31 p s st sk re fe ag c sl).alloc (.cells #[.string (⟨#[107, 97, 108, 97, 104]⟩ : ByteArray), .string (⟨#[109, 105, 110, 105]⟩ : ByteArray), .string (⟨#[111, 119, 97, 114, 101]⟩ : ByteArray), .string (⟨#[114, 101, 108, 97, 121]⟩ : ByteArray)] 9)
    have N0 := NmAt.box (w.alloc (.cells #[.int .i64 p, .int .i64 s, .bool st, .bool sk, .bool re, .bool fe, .bool ag, .int .i64 c, .int .i64 sl] 31)) 9
    have hs1 : (w.alloc (.cells #[.int .i64 p, .int .i64 s, .bool st, .bool sk, .bool re, .bool fe, .bool ag, .int .i64 c, .int .i64 sl] 31)).heap.size = w.heap.size + 1 := by simp
    rw [hs1] at N0
    clear hs1
    obtain ⟨c0, c1, c2, c3, c4, c5, c6, c7, c8⟩ := Y0.flat
    have bw0 : Below w.heap.size w ((w.alloc (.cells #[.int .i64 p, .int .i64 s, .bool st, .bool sk, .bool re, .bool fe, .bool ag, .int .i64 c, .int .i64 sl] 31)).alloc (.cells #[.string (⟨#[107, 97, 108, 97, 104]⟩ : ByteArray), .string (⟨#[109, 105, 110, 105]⟩ : ByteArray), .string (⟨#[111, 119, 97, 114, 101]⟩ : ByteArray), .string (⟨#[114, 101, 108, 97, 121]⟩ : ByteArray)] 9)) := (by repeat (first | with_reducible exact Below.refl _ _ | with_reducible assumption | with_reducible refine sub_alloc ?_ _ | (with_reducible refine sub_setCell2 ?_ ?_ _; (focus (first | (simp; done) | (simp <;> omega)))) | with_reducible refine sub_drew ?_ | with_reducible refine below_drewN ?_ _ | with_reducible refine sub_step (by assumption) ?_ (by first | rfl | (simp; done)) | exact Below.refl _ _ | assumption | refine sub_alloc ?_ _ | refine sub_setCell ?_ (by simp <;> omega) _ | refine sub_drew ?_ | refine below_drewN ?_ _ | refine sub_step (by assumption) ?_ (by first | rfl | (simp; done))))
    go_enter Try.func73, Try.ntmps73
    go_wp2
    refine wp_loop_rounds 5 ?_; rw [rounds_succ]
    go_wp2_with fail
    go_region_held3 (fun w' => w'.cell? ⟨w.heap.size, 0, none⟩ = some (.int .i64 p) ∧ w'.cell? ⟨w.heap.size, 1, none⟩ = some (.int .i64 s) ∧ w'.cell? ⟨w.heap.size, 2, none⟩ = some (.bool st) ∧ w'.cell? ⟨w.heap.size, 3, none⟩ = some (.bool sk) ∧ w'.cell? ⟨w.heap.size, 4, none⟩ = some (.bool re) ∧ w'.cell? ⟨w.heap.size, 5, none⟩ = some (.bool fe) ∧ w'.cell? ⟨w.heap.size, 6, none⟩ = some (.bool ag) ∧ w'.cell? ⟨w.heap.size, 7, none⟩ = some (.int .i64 c) ∧ w'.cell? ⟨w.heap.size, 8, none⟩ = some (.int .i64 sl)) (first | (refine ⟨?_, ?_, ?_, ?_, ?_, ?_, ?_, ?_, ?_⟩ <;> assumption) | go_keep) (first | (go_at_call 133; refine (standard_any _ _).mono ?_; rintro e w1 ⟨rfl, hb1⟩; rw [show stdR (⟨#[107, 97, 108, 97, 104]⟩ : ByteArray) = ⟨6, 4, true, false, false, false, true, 2, 0⟩ by rfl]; dsimp only [Ru.cells, List.toArray]; have hb1 := undrew hb1; have Y1 := Y0.below hb1 Y0.lt; obtain ⟨c0, c1, c2, c3, c4, c5, c6, c7, c8⟩ := Y1.flat))
    have N1 := N0.below hb1 N0.lt
    have NN := N1
    obtain ⟨n0, n1, n2, n3⟩ := NN
    have bw1 : Below w.heap.size w w1 := sub_step hb1 bw0 rfl
    go_wp2_with fail
    rw [rounds_succ]
    go_wp2_with fail
    go_region_held3 (fun w' => w'.cell? ⟨w.heap.size, 0, none⟩ = some (.int .i64 p) ∧ w'.cell? ⟨w.heap.size, 1, none⟩ = some (.int .i64 s) ∧ w'.cell? ⟨w.heap.size, 2, none⟩ = some (.bool st) ∧ w'.cell? ⟨w.heap.size, 3, none⟩ = some (.bool sk) ∧ w'.cell? ⟨w.heap.size, 4, none⟩ = some (.bool re) ∧ w'.cell? ⟨w.heap.size, 5, none⟩ = some (.bool fe) ∧ w'.cell? ⟨w.heap.size, 6, none⟩ = some (.bool ag) ∧ w'.cell? ⟨w.heap.size, 7, none⟩ = some (.int .i64 c) ∧ w'.cell? ⟨w.heap.size, 8, none⟩ = some (.int .i64 sl)) (first | (refine ⟨?_, ?_, ?_, ?_, ?_, ?_, ?_, ?_, ?_⟩ <;> assumption) | go_keep) (first | (go_at_call 133; refine (standard_any _ _).mono ?_; rintro e w2 ⟨rfl, hb2⟩; rw [show stdR (⟨#[109, 105, 110, 105]⟩ : ByteArray) = ⟨3, 2, false, false, false, true, false, 1, 0⟩ by rfl]; dsimp only [Ru.cells, List.toArray]; have hb2 := undrew hb2; have Y2 := Y1.below hb2 Y1.lt; obtain ⟨c0, c1, c2, c3, c4, c5, c6, c7, c8⟩ := Y2.flat))
    have N2 := N1.below hb2 N1.lt
    have NN := N2
    obtain ⟨n0, n1, n2, n3⟩ := NN
    have bw2 : Below w.heap.size w w2 := sub_step hb2 bw1 rfl
    go_wp2_with fail
    go_ret2
    exact ⟨rfl, bw2⟩
  cases f2 : eqRu ⟨6, 4, false, true, false, true, false, 1, 2⟩ ⟨p, s, st, sk, re, fe, ag, c, sl⟩
  rotate_left
  · have hn : nmS ⟨p, s, st, sk, re, fe, ag, c, sl⟩ = (⟨#[111, 119, 97, 114, 101]⟩ : ByteArray) := by simp [nmS, f0, f1, f2]
    have hc : nmC ⟨p, s, st, sk, re, fe, ag, c, sl⟩ = 0 := by simp [nmC, f0, f1, f2]
    rw [hn, hc]
    clear hn hc
    have E0 := fun (w : World) => eql_rules 6 4 true false false false true 2 0 p s st sk re fe ag c sl false f0 w
    have E1 := fun (w : World) => eql_rules 3 2 false false false true false 1 0 p s st sk re fe ag c sl false f1 w
    have E2 := fun (w : World) => eql_rules 6 4 false true false true false 1 2 p s st sk re fe ag c sl true f2 w
    clear f0 f1 f2
    have Y0 := (RuAt.box w 31 p s st sk re fe ag c sl).alloc (.cells #[.string (⟨#[107, 97, 108, 97, 104]⟩ : ByteArray), .string (⟨#[109, 105, 110, 105]⟩ : ByteArray), .string (⟨#[111, 119, 97, 114, 101]⟩ : ByteArray), .string (⟨#[114, 101, 108, 97, 121]⟩ : ByteArray)] 9)
    have N0 := NmAt.box (w.alloc (.cells #[.int .i64 p, .int .i64 s, .bool st, .bool sk, .bool re, .bool fe, .bool ag, .int .i64 c, .int .i64 sl] 31)) 9
    have hs1 : (w.alloc (.cells #[.int .i64 p, .int .i64 s, .bool st, .bool sk, .bool re, .bool fe, .bool ag, .int .i64 c, .int .i64 sl] 31)).heap.size = w.heap.size + 1 := by simp
    rw [hs1] at N0
    clear hs1
    obtain ⟨c0, c1, c2, c3, c4, c5, c6, c7, c8⟩ := Y0.flat
    have bw0 : Below w.heap.size w ((w.alloc (.cells #[.int .i64 p, .int .i64 s, .bool st, .bool sk, .bool re, .bool fe, .bool ag, .int .i64 c, .int .i64 sl] 31)).alloc (.cells #[.string (⟨#[107, 97, 108, 97, 104]⟩ : ByteArray), .string (⟨#[109, 105, 110, 105]⟩ : ByteArray), .string (⟨#[111, 119, 97, 114, 101]⟩ : ByteArray), .string (⟨#[114, 101, 108, 97, 121]⟩ : ByteArray)] 9)) := (by repeat (first | with_reducible exact Below.refl _ _ | with_reducible assumption | with_reducible refine sub_alloc ?_ _ | (with_reducible refine sub_setCell2 ?_ ?_ _; (focus (first | (simp; done) | (simp <;> omega)))) | with_reducible refine sub_drew ?_ | with_reducible refine below_drewN ?_ _ | with_reducible refine sub_step (by assumption) ?_ (by first | rfl | (simp; done)) | exact Below.refl _ _ | assumption | refine sub_alloc ?_ _ | refine sub_setCell ?_ (by simp <;> omega) _ | refine sub_drew ?_ | refine below_drewN ?_ _ | refine sub_step (by assumption) ?_ (by first | rfl | (simp; done))))
    go_enter Try.func73, Try.ntmps73
    go_wp2
    refine wp_loop_rounds 5 ?_; rw [rounds_succ]
    go_wp2_with fail
    go_region_held3 (fun w' => w'.cell? ⟨w.heap.size, 0, none⟩ = some (.int .i64 p) ∧ w'.cell? ⟨w.heap.size, 1, none⟩ = some (.int .i64 s) ∧ w'.cell? ⟨w.heap.size, 2, none⟩ = some (.bool st) ∧ w'.cell? ⟨w.heap.size, 3, none⟩ = some (.bool sk) ∧ w'.cell? ⟨w.heap.size, 4, none⟩ = some (.bool re) ∧ w'.cell? ⟨w.heap.size, 5, none⟩ = some (.bool fe) ∧ w'.cell? ⟨w.heap.size, 6, none⟩ = some (.bool ag) ∧ w'.cell? ⟨w.heap.size, 7, none⟩ = some (.int .i64 c) ∧ w'.cell? ⟨w.heap.size, 8, none⟩ = some (.int .i64 sl)) (first | (refine ⟨?_, ?_, ?_, ?_, ?_, ?_, ?_, ?_, ?_⟩ <;> assumption) | go_keep) (first | (go_at_call 133; refine (standard_any _ _).mono ?_; rintro e w1 ⟨rfl, hb1⟩; rw [show stdR (⟨#[107, 97, 108, 97, 104]⟩ : ByteArray) = ⟨6, 4, true, false, false, false, true, 2, 0⟩ by rfl]; dsimp only [Ru.cells, List.toArray]; have hb1 := undrew hb1; have Y1 := Y0.below hb1 Y0.lt; obtain ⟨c0, c1, c2, c3, c4, c5, c6, c7, c8⟩ := Y1.flat))
    have N1 := N0.below hb1 N0.lt
    have NN := N1
    obtain ⟨n0, n1, n2, n3⟩ := NN
    have bw1 : Below w.heap.size w w1 := sub_step hb1 bw0 rfl
    go_wp2_with fail
    rw [rounds_succ]
    go_wp2_with fail
    go_region_held3 (fun w' => w'.cell? ⟨w.heap.size, 0, none⟩ = some (.int .i64 p) ∧ w'.cell? ⟨w.heap.size, 1, none⟩ = some (.int .i64 s) ∧ w'.cell? ⟨w.heap.size, 2, none⟩ = some (.bool st) ∧ w'.cell? ⟨w.heap.size, 3, none⟩ = some (.bool sk) ∧ w'.cell? ⟨w.heap.size, 4, none⟩ = some (.bool re) ∧ w'.cell? ⟨w.heap.size, 5, none⟩ = some (.bool fe) ∧ w'.cell? ⟨w.heap.size, 6, none⟩ = some (.bool ag) ∧ w'.cell? ⟨w.heap.size, 7, none⟩ = some (.int .i64 c) ∧ w'.cell? ⟨w.heap.size, 8, none⟩ = some (.int .i64 sl)) (first | (refine ⟨?_, ?_, ?_, ?_, ?_, ?_, ?_, ?_, ?_⟩ <;> assumption) | go_keep) (first | (go_at_call 133; refine (standard_any _ _).mono ?_; rintro e w2 ⟨rfl, hb2⟩; rw [show stdR (⟨#[109, 105, 110, 105]⟩ : ByteArray) = ⟨3, 2, false, false, false, true, false, 1, 0⟩ by rfl]; dsimp only [Ru.cells, List.toArray]; have hb2 := undrew hb2; have Y2 := Y1.below hb2 Y1.lt; obtain ⟨c0, c1, c2, c3, c4, c5, c6, c7, c8⟩ := Y2.flat))
    have N2 := N1.below hb2 N1.lt
    have NN := N2
    obtain ⟨n0, n1, n2, n3⟩ := NN
    have bw2 : Below w.heap.size w w2 := sub_step hb2 bw1 rfl
    go_wp2_with fail
    rw [rounds_succ]
    go_wp2_with fail
    go_region_held3 (fun w' => w'.cell? ⟨w.heap.size, 0, none⟩ = some (.int .i64 p) ∧ w'.cell? ⟨w.heap.size, 1, none⟩ = some (.int .i64 s) ∧ w'.cell? ⟨w.heap.size, 2, none⟩ = some (.bool st) ∧ w'.cell? ⟨w.heap.size, 3, none⟩ = some (.bool sk) ∧ w'.cell? ⟨w.heap.size, 4, none⟩ = some (.bool re) ∧ w'.cell? ⟨w.heap.size, 5, none⟩ = some (.bool fe) ∧ w'.cell? ⟨w.heap.size, 6, none⟩ = some (.bool ag) ∧ w'.cell? ⟨w.heap.size, 7, none⟩ = some (.int .i64 c) ∧ w'.cell? ⟨w.heap.size, 8, none⟩ = some (.int .i64 sl)) (first | (refine ⟨?_, ?_, ?_, ?_, ?_, ?_, ?_, ?_, ?_⟩ <;> assumption) | go_keep) (first | (go_at_call 133; refine (standard_any _ _).mono ?_; rintro e w3 ⟨rfl, hb3⟩; rw [show stdR (⟨#[111, 119, 97, 114, 101]⟩ : ByteArray) = ⟨6, 4, false, true, false, true, false, 1, 2⟩ by rfl]; dsimp only [Ru.cells, List.toArray]; have hb3 := undrew hb3; have Y3 := Y2.below hb3 Y2.lt; obtain ⟨c0, c1, c2, c3, c4, c5, c6, c7, c8⟩ := Y3.flat))
    have N3 := N2.below hb3 N2.lt
    have NN := N3
    obtain ⟨n0, n1, n2, n3⟩ := NN
    have bw3 : Below w.heap.size w w3 := sub_step hb3 bw2 rfl
    go_wp2_with fail
    go_ret2
    exact ⟨rfl, bw3⟩
  cases f3 : eqRu ⟨4, 2, false, false, true, false, false, 2, 0⟩ ⟨p, s, st, sk, re, fe, ag, c, sl⟩
  rotate_left
  · have hn : nmS ⟨p, s, st, sk, re, fe, ag, c, sl⟩ = (⟨#[114, 101, 108, 97, 121]⟩ : ByteArray) := by simp [nmS, f0, f1, f2, f3]
    have hc : nmC ⟨p, s, st, sk, re, fe, ag, c, sl⟩ = 0 := by simp [nmC, f0, f1, f2, f3]
    rw [hn, hc]
    clear hn hc
    have E0 := fun (w : World) => eql_rules 6 4 true false false false true 2 0 p s st sk re fe ag c sl false f0 w
    have E1 := fun (w : World) => eql_rules 3 2 false false false true false 1 0 p s st sk re fe ag c sl false f1 w
    have E2 := fun (w : World) => eql_rules 6 4 false true false true false 1 2 p s st sk re fe ag c sl false f2 w
    have E3 := fun (w : World) => eql_rules 4 2 false false true false false 2 0 p s st sk re fe ag c sl true f3 w
    clear f0 f1 f2 f3
    have Y0 := (RuAt.box w 31 p s st sk re fe ag c sl).alloc (.cells #[.string (⟨#[107, 97, 108, 97, 104]⟩ : ByteArray), .string (⟨#[109, 105, 110, 105]⟩ : ByteArray), .string (⟨#[111, 119, 97, 114, 101]⟩ : ByteArray), .string (⟨#[114, 101, 108, 97, 121]⟩ : ByteArray)] 9)
    have N0 := NmAt.box (w.alloc (.cells #[.int .i64 p, .int .i64 s, .bool st, .bool sk, .bool re, .bool fe, .bool ag, .int .i64 c, .int .i64 sl] 31)) 9
    have hs1 : (w.alloc (.cells #[.int .i64 p, .int .i64 s, .bool st, .bool sk, .bool re, .bool fe, .bool ag, .int .i64 c, .int .i64 sl] 31)).heap.size = w.heap.size + 1 := by simp
    rw [hs1] at N0
    clear hs1
    obtain ⟨c0, c1, c2, c3, c4, c5, c6, c7, c8⟩ := Y0.flat
    have bw0 : Below w.heap.size w ((w.alloc (.cells #[.int .i64 p, .int .i64 s, .bool st, .bool sk, .bool re, .bool fe, .bool ag, .int .i64 c, .int .i64 sl] 31)).alloc (.cells #[.string (⟨#[107, 97, 108, 97, 104]⟩ : ByteArray), .string (⟨#[109, 105, 110, 105]⟩ : ByteArray), .string (⟨#[111, 119, 97, 114, 101]⟩ : ByteArray), .string (⟨#[114, 101, 108, 97, 121]⟩ : ByteArray)] 9)) := (by repeat (first | with_reducible exact Below.refl _ _ | with_reducible assumption | with_reducible refine sub_alloc ?_ _ | (with_reducible refine sub_setCell2 ?_ ?_ _; (focus (first | (simp; done) | (simp <;> omega)))) | with_reducible refine sub_drew ?_ | with_reducible refine below_drewN ?_ _ | with_reducible refine sub_step (by assumption) ?_ (by first | rfl | (simp; done)) | exact Below.refl _ _ | assumption | refine sub_alloc ?_ _ | refine sub_setCell ?_ (by simp <;> omega) _ | refine sub_drew ?_ | refine below_drewN ?_ _ | refine sub_step (by assumption) ?_ (by first | rfl | (simp; done))))
    go_enter Try.func73, Try.ntmps73
    go_wp2
    refine wp_loop_rounds 5 ?_; rw [rounds_succ]
    go_wp2_with fail
    go_region_held3 (fun w' => w'.cell? ⟨w.heap.size, 0, none⟩ = some (.int .i64 p) ∧ w'.cell? ⟨w.heap.size, 1, none⟩ = some (.int .i64 s) ∧ w'.cell? ⟨w.heap.size, 2, none⟩ = some (.bool st) ∧ w'.cell? ⟨w.heap.size, 3, none⟩ = some (.bool sk) ∧ w'.cell? ⟨w.heap.size, 4, none⟩ = some (.bool re) ∧ w'.cell? ⟨w.heap.size, 5, none⟩ = some (.bool fe) ∧ w'.cell? ⟨w.heap.size, 6, none⟩ = some (.bool ag) ∧ w'.cell? ⟨w.heap.size, 7, none⟩ = some (.int .i64 c) ∧ w'.cell? ⟨w.heap.size, 8, none⟩ = some (.int .i64 sl)) (first | (refine ⟨?_, ?_, ?_, ?_, ?_, ?_, ?_, ?_, ?_⟩ <;> assumption) | go_keep) (first | (go_at_call 133; refine (standard_any _ _).mono ?_; rintro e w1 ⟨rfl, hb1⟩; rw [show stdR (⟨#[107, 97, 108, 97, 104]⟩ : ByteArray) = ⟨6, 4, true, false, false, false, true, 2, 0⟩ by rfl]; dsimp only [Ru.cells, List.toArray]; have hb1 := undrew hb1; have Y1 := Y0.below hb1 Y0.lt; obtain ⟨c0, c1, c2, c3, c4, c5, c6, c7, c8⟩ := Y1.flat))
    have N1 := N0.below hb1 N0.lt
    have NN := N1
    obtain ⟨n0, n1, n2, n3⟩ := NN
    have bw1 : Below w.heap.size w w1 := sub_step hb1 bw0 rfl
    go_wp2_with fail
    rw [rounds_succ]
    go_wp2_with fail
    go_region_held3 (fun w' => w'.cell? ⟨w.heap.size, 0, none⟩ = some (.int .i64 p) ∧ w'.cell? ⟨w.heap.size, 1, none⟩ = some (.int .i64 s) ∧ w'.cell? ⟨w.heap.size, 2, none⟩ = some (.bool st) ∧ w'.cell? ⟨w.heap.size, 3, none⟩ = some (.bool sk) ∧ w'.cell? ⟨w.heap.size, 4, none⟩ = some (.bool re) ∧ w'.cell? ⟨w.heap.size, 5, none⟩ = some (.bool fe) ∧ w'.cell? ⟨w.heap.size, 6, none⟩ = some (.bool ag) ∧ w'.cell? ⟨w.heap.size, 7, none⟩ = some (.int .i64 c) ∧ w'.cell? ⟨w.heap.size, 8, none⟩ = some (.int .i64 sl)) (first | (refine ⟨?_, ?_, ?_, ?_, ?_, ?_, ?_, ?_, ?_⟩ <;> assumption) | go_keep) (first | (go_at_call 133; refine (standard_any _ _).mono ?_; rintro e w2 ⟨rfl, hb2⟩; rw [show stdR (⟨#[109, 105, 110, 105]⟩ : ByteArray) = ⟨3, 2, false, false, false, true, false, 1, 0⟩ by rfl]; dsimp only [Ru.cells, List.toArray]; have hb2 := undrew hb2; have Y2 := Y1.below hb2 Y1.lt; obtain ⟨c0, c1, c2, c3, c4, c5, c6, c7, c8⟩ := Y2.flat))
    have N2 := N1.below hb2 N1.lt
    have NN := N2
    obtain ⟨n0, n1, n2, n3⟩ := NN
    have bw2 : Below w.heap.size w w2 := sub_step hb2 bw1 rfl
    go_wp2_with fail
    rw [rounds_succ]
    go_wp2_with fail
    go_region_held3 (fun w' => w'.cell? ⟨w.heap.size, 0, none⟩ = some (.int .i64 p) ∧ w'.cell? ⟨w.heap.size, 1, none⟩ = some (.int .i64 s) ∧ w'.cell? ⟨w.heap.size, 2, none⟩ = some (.bool st) ∧ w'.cell? ⟨w.heap.size, 3, none⟩ = some (.bool sk) ∧ w'.cell? ⟨w.heap.size, 4, none⟩ = some (.bool re) ∧ w'.cell? ⟨w.heap.size, 5, none⟩ = some (.bool fe) ∧ w'.cell? ⟨w.heap.size, 6, none⟩ = some (.bool ag) ∧ w'.cell? ⟨w.heap.size, 7, none⟩ = some (.int .i64 c) ∧ w'.cell? ⟨w.heap.size, 8, none⟩ = some (.int .i64 sl)) (first | (refine ⟨?_, ?_, ?_, ?_, ?_, ?_, ?_, ?_, ?_⟩ <;> assumption) | go_keep) (first | (go_at_call 133; refine (standard_any _ _).mono ?_; rintro e w3 ⟨rfl, hb3⟩; rw [show stdR (⟨#[111, 119, 97, 114, 101]⟩ : ByteArray) = ⟨6, 4, false, true, false, true, false, 1, 2⟩ by rfl]; dsimp only [Ru.cells, List.toArray]; have hb3 := undrew hb3; have Y3 := Y2.below hb3 Y2.lt; obtain ⟨c0, c1, c2, c3, c4, c5, c6, c7, c8⟩ := Y3.flat))
    have N3 := N2.below hb3 N2.lt
    have NN := N3
    obtain ⟨n0, n1, n2, n3⟩ := NN
    have bw3 : Below w.heap.size w w3 := sub_step hb3 bw2 rfl
    go_wp2_with fail
    rw [rounds_succ]
    go_wp2_with fail
    go_region_held3 (fun w' => w'.cell? ⟨w.heap.size, 0, none⟩ = some (.int .i64 p) ∧ w'.cell? ⟨w.heap.size, 1, none⟩ = some (.int .i64 s) ∧ w'.cell? ⟨w.heap.size, 2, none⟩ = some (.bool st) ∧ w'.cell? ⟨w.heap.size, 3, none⟩ = some (.bool sk) ∧ w'.cell? ⟨w.heap.size, 4, none⟩ = some (.bool re) ∧ w'.cell? ⟨w.heap.size, 5, none⟩ = some (.bool fe) ∧ w'.cell? ⟨w.heap.size, 6, none⟩ = some (.bool ag) ∧ w'.cell? ⟨w.heap.size, 7, none⟩ = some (.int .i64 c) ∧ w'.cell? ⟨w.heap.size, 8, none⟩ = some (.int .i64 sl)) (first | (refine ⟨?_, ?_, ?_, ?_, ?_, ?_, ?_, ?_, ?_⟩ <;> assumption) | go_keep) (first | (go_at_call 133; refine (standard_any _ _).mono ?_; rintro e w4 ⟨rfl, hb4⟩; rw [show stdR (⟨#[114, 101, 108, 97, 121]⟩ : ByteArray) = ⟨4, 2, false, false, true, false, false, 2, 0⟩ by rfl]; dsimp only [Ru.cells, List.toArray]; have hb4 := undrew hb4; have Y4 := Y3.below hb4 Y3.lt; obtain ⟨c0, c1, c2, c3, c4, c5, c6, c7, c8⟩ := Y4.flat))
    have N4 := N3.below hb4 N3.lt
    have NN := N4
    obtain ⟨n0, n1, n2, n3⟩ := NN
    have bw4 : Below w.heap.size w w4 := sub_step hb4 bw3 rfl
    go_wp2_with fail
    go_ret2
    exact ⟨rfl, bw4⟩
  have hn : nmS ⟨p, s, st, sk, re, fe, ag, c, sl⟩ = (⟨#[]⟩ : ByteArray) := by simp [nmS, f0, f1, f2, f3]
  have hc : nmC ⟨p, s, st, sk, re, fe, ag, c, sl⟩ = 3 := by simp [nmC, f0, f1, f2, f3]
  rw [hn, hc]
  clear hn hc
  have E0 := fun (w : World) => eql_rules 6 4 true false false false true 2 0 p s st sk re fe ag c sl false f0 w
  have E1 := fun (w : World) => eql_rules 3 2 false false false true false 1 0 p s st sk re fe ag c sl false f1 w
  have E2 := fun (w : World) => eql_rules 6 4 false true false true false 1 2 p s st sk re fe ag c sl false f2 w
  have E3 := fun (w : World) => eql_rules 4 2 false false true false false 2 0 p s st sk re fe ag c sl false f3 w
  clear f0 f1 f2 f3
  have Y0 := (RuAt.box w 31 p s st sk re fe ag c sl).alloc (.cells #[.string (⟨#[107, 97, 108, 97, 104]⟩ : ByteArray), .string (⟨#[109, 105, 110, 105]⟩ : ByteArray), .string (⟨#[111, 119, 97, 114, 101]⟩ : ByteArray), .string (⟨#[114, 101, 108, 97, 121]⟩ : ByteArray)] 9)
  have N0 := NmAt.box (w.alloc (.cells #[.int .i64 p, .int .i64 s, .bool st, .bool sk, .bool re, .bool fe, .bool ag, .int .i64 c, .int .i64 sl] 31)) 9
  have hs1 : (w.alloc (.cells #[.int .i64 p, .int .i64 s, .bool st, .bool sk, .bool re, .bool fe, .bool ag, .int .i64 c, .int .i64 sl] 31)).heap.size = w.heap.size + 1 := by simp
  rw [hs1] at N0
  clear hs1
  obtain ⟨c0, c1, c2, c3, c4, c5, c6, c7, c8⟩ := Y0.flat
  have bw0 : Below w.heap.size w ((w.alloc (.cells #[.int .i64 p, .int .i64 s, .bool st, .bool sk, .bool re, .bool fe, .bool ag, .int .i64 c, .int .i64 sl] 31)).alloc (.cells #[.string (⟨#[107, 97, 108, 97, 104]⟩ : ByteArray), .string (⟨#[109, 105, 110, 105]⟩ : ByteArray), .string (⟨#[111, 119, 97, 114, 101]⟩ : ByteArray), .string (⟨#[114, 101, 108, 97, 121]⟩ : ByteArray)] 9)) := (by repeat (first | with_reducible exact Below.refl _ _ | with_reducible assumption | with_reducible refine sub_alloc ?_ _ | (with_reducible refine sub_setCell2 ?_ ?_ _; (focus (first | (simp; done) | (simp <;> omega)))) | with_reducible refine sub_drew ?_ | with_reducible refine below_drewN ?_ _ | with_reducible refine sub_step (by assumption) ?_ (by first | rfl | (simp; done)) | exact Below.refl _ _ | assumption | refine sub_alloc ?_ _ | refine sub_setCell ?_ (by simp <;> omega) _ | refine sub_drew ?_ | refine below_drewN ?_ _ | refine sub_step (by assumption) ?_ (by first | rfl | (simp; done))))
  go_enter Try.func73, Try.ntmps73
  go_wp2
  refine wp_loop_rounds 5 ?_; rw [rounds_succ]
  go_wp2_with fail
  go_region_held3 (fun w' => w'.cell? ⟨w.heap.size, 0, none⟩ = some (.int .i64 p) ∧ w'.cell? ⟨w.heap.size, 1, none⟩ = some (.int .i64 s) ∧ w'.cell? ⟨w.heap.size, 2, none⟩ = some (.bool st) ∧ w'.cell? ⟨w.heap.size, 3, none⟩ = some (.bool sk) ∧ w'.cell? ⟨w.heap.size, 4, none⟩ = some (.bool re) ∧ w'.cell? ⟨w.heap.size, 5, none⟩ = some (.bool fe) ∧ w'.cell? ⟨w.heap.size, 6, none⟩ = some (.bool ag) ∧ w'.cell? ⟨w.heap.size, 7, none⟩ = some (.int .i64 c) ∧ w'.cell? ⟨w.heap.size, 8, none⟩ = some (.int .i64 sl)) (first | (refine ⟨?_, ?_, ?_, ?_, ?_, ?_, ?_, ?_, ?_⟩ <;> assumption) | go_keep) (first | (go_at_call 133; refine (standard_any _ _).mono ?_; rintro e w1 ⟨rfl, hb1⟩; rw [show stdR (⟨#[107, 97, 108, 97, 104]⟩ : ByteArray) = ⟨6, 4, true, false, false, false, true, 2, 0⟩ by rfl]; dsimp only [Ru.cells, List.toArray]; have hb1 := undrew hb1; have Y1 := Y0.below hb1 Y0.lt; obtain ⟨c0, c1, c2, c3, c4, c5, c6, c7, c8⟩ := Y1.flat))
  have N1 := N0.below hb1 N0.lt
  have NN := N1
  obtain ⟨n0, n1, n2, n3⟩ := NN
  have bw1 : Below w.heap.size w w1 := sub_step hb1 bw0 rfl
  go_wp2_with fail
  rw [rounds_succ]
  go_wp2_with fail
  go_region_held3 (fun w' => w'.cell? ⟨w.heap.size, 0, none⟩ = some (.int .i64 p) ∧ w'.cell? ⟨w.heap.size, 1, none⟩ = some (.int .i64 s) ∧ w'.cell? ⟨w.heap.size, 2, none⟩ = some (.bool st) ∧ w'.cell? ⟨w.heap.size, 3, none⟩ = some (.bool sk) ∧ w'.cell? ⟨w.heap.size, 4, none⟩ = some (.bool re) ∧ w'.cell? ⟨w.heap.size, 5, none⟩ = some (.bool fe) ∧ w'.cell? ⟨w.heap.size, 6, none⟩ = some (.bool ag) ∧ w'.cell? ⟨w.heap.size, 7, none⟩ = some (.int .i64 c) ∧ w'.cell? ⟨w.heap.size, 8, none⟩ = some (.int .i64 sl)) (first | (refine ⟨?_, ?_, ?_, ?_, ?_, ?_, ?_, ?_, ?_⟩ <;> assumption) | go_keep) (first | (go_at_call 133; refine (standard_any _ _).mono ?_; rintro e w2 ⟨rfl, hb2⟩; rw [show stdR (⟨#[109, 105, 110, 105]⟩ : ByteArray) = ⟨3, 2, false, false, false, true, false, 1, 0⟩ by rfl]; dsimp only [Ru.cells, List.toArray]; have hb2 := undrew hb2; have Y2 := Y1.below hb2 Y1.lt; obtain ⟨c0, c1, c2, c3, c4, c5, c6, c7, c8⟩ := Y2.flat))
  have N2 := N1.below hb2 N1.lt
  have NN := N2
  obtain ⟨n0, n1, n2, n3⟩ := NN
  have bw2 : Below w.heap.size w w2 := sub_step hb2 bw1 rfl
  go_wp2_with fail
  rw [rounds_succ]
  go_wp2_with fail
  go_region_held3 (fun w' => w'.cell? ⟨w.heap.size, 0, none⟩ = some (.int .i64 p) ∧ w'.cell? ⟨w.heap.size, 1, none⟩ = some (.int .i64 s) ∧ w'.cell? ⟨w.heap.size, 2, none⟩ = some (.bool st) ∧ w'.cell? ⟨w.heap.size, 3, none⟩ = some (.bool sk) ∧ w'.cell? ⟨w.heap.size, 4, none⟩ = some (.bool re) ∧ w'.cell? ⟨w.heap.size, 5, none⟩ = some (.bool fe) ∧ w'.cell? ⟨w.heap.size, 6, none⟩ = some (.bool ag) ∧ w'.cell? ⟨w.heap.size, 7, none⟩ = some (.int .i64 c) ∧ w'.cell? ⟨w.heap.size, 8, none⟩ = some (.int .i64 sl)) (first | (refine ⟨?_, ?_, ?_, ?_, ?_, ?_, ?_, ?_, ?_⟩ <;> assumption) | go_keep) (first | (go_at_call 133; refine (standard_any _ _).mono ?_; rintro e w3 ⟨rfl, hb3⟩; rw [show stdR (⟨#[111, 119, 97, 114, 101]⟩ : ByteArray) = ⟨6, 4, false, true, false, true, false, 1, 2⟩ by rfl]; dsimp only [Ru.cells, List.toArray]; have hb3 := undrew hb3; have Y3 := Y2.below hb3 Y2.lt; obtain ⟨c0, c1, c2, c3, c4, c5, c6, c7, c8⟩ := Y3.flat))
  have N3 := N2.below hb3 N2.lt
  have NN := N3
  obtain ⟨n0, n1, n2, n3⟩ := NN
  have bw3 : Below w.heap.size w w3 := sub_step hb3 bw2 rfl
  go_wp2_with fail
  rw [rounds_succ]
  go_wp2_with fail
  go_region_held3 (fun w' => w'.cell? ⟨w.heap.size, 0, none⟩ = some (.int .i64 p) ∧ w'.cell? ⟨w.heap.size, 1, none⟩ = some (.int .i64 s) ∧ w'.cell? ⟨w.heap.size, 2, none⟩ = some (.bool st) ∧ w'.cell? ⟨w.heap.size, 3, none⟩ = some (.bool sk) ∧ w'.cell? ⟨w.heap.size, 4, none⟩ = some (.bool re) ∧ w'.cell? ⟨w.heap.size, 5, none⟩ = some (.bool fe) ∧ w'.cell? ⟨w.heap.size, 6, none⟩ = some (.bool ag) ∧ w'.cell? ⟨w.heap.size, 7, none⟩ = some (.int .i64 c) ∧ w'.cell? ⟨w.heap.size, 8, none⟩ = some (.int .i64 sl)) (first | (refine ⟨?_, ?_, ?_, ?_, ?_, ?_, ?_, ?_, ?_⟩ <;> assumption) | go_keep) (first | (go_at_call 133; refine (standard_any _ _).mono ?_; rintro e w4 ⟨rfl, hb4⟩; rw [show stdR (⟨#[114, 101, 108, 97, 121]⟩ : ByteArray) = ⟨4, 2, false, false, true, false, false, 2, 0⟩ by rfl]; dsimp only [Ru.cells, List.toArray]; have hb4 := undrew hb4; have Y4 := Y3.below hb4 Y3.lt; obtain ⟨c0, c1, c2, c3, c4, c5, c6, c7, c8⟩ := Y4.flat))
  have N4 := N3.below hb4 N3.lt
  have NN := N4
  obtain ⟨n0, n1, n2, n3⟩ := NN
  have bw4 : Below w.heap.size w w4 := sub_step hb4 bw3 rfl
  go_wp2_with fail
  rw [rounds_succ]
  go_wp2_with fail
  go_ret2
  exact ⟨rfl, bw4⟩

end Go.Proofs.Ytnanaldolnehiaa
