/-
  A slice of structs of numbers that came in, opened as a flat list; the law FnExactSameFacts, walked.
-/
import Derived.Test.YtnanaldolnehiaaArgs
import Derived.Test.YtnanaldolnehiaaFacts
set_option linter.unusedSimpArgs false
set_option linter.unusedVariables false
namespace Go.Proofs.Ytnanaldolnehiaa
open Go.ChangeShapes Go.WideShapes Go.RowKit Go.Deep

theorem open_flat {H : Type} {enc : TypeId × Value → H} {P : Program} {w : World} {base : Nat} {spare : Nat → Bool} {held : Bool} {t e : TypeId} {K fuel : Nat} {fs : Array Field} {v : Value} {x : DataW H × List MemPlace} (hKp : 0 < K) (ht : P.underlying t = some (.slice e)) (he : P.underlying e = some (.struct fs))
    (hK : P.cellsOf e = K) (hfs : fs.size = K) (hone : oneCellFields P fs = true) (hint : ∀ (i : Nat) (f : Field), fs[i]? = some f → P.underlying f.type = some (.int .i64))
    (h : DataW.trod enc P w base spare held fuel t [v] = some x) : ∃ A n c zs, v = .slice A n c ∧ Flat K w w.heap.size A n c zs ∧ ∀ z ∈ zs, in64 z := by
  rcases open_slice ht h with ⟨hcs, _⟩ | ⟨a, len, cap, m, nn, D, Pl, hcs, hb, hl, hm, hmm, _, hx⟩
  · simp at hcs
    exact ⟨none, 0, 0, [], hcs, Flat.nil _ _, fun z hz => by cases hz⟩
  · simp at hcs
    unfold maxLen at hm
    have hlm : len ≤ m := by rw [hmm]; split <;> omega
    have hrow : ∀ i, i < len → ∃ R : Nat → Int, ∀ r, r < K → w.cell? (a.add (i * K + r)) = some (.int .i64 (R r)) ∧ in64 (R r) := by
      intro i hi
      obtain ⟨cs', h1, h2⟩ := hx i (by omega)
      obtain ⟨_, hlen, hc⟩ := World.cells?_some h1
      obtain ⟨xs, n1, _, _, _, hxl, hg⟩ := DataW.trod_struct he h2
      refine choose_lt (α := Int) (p := fun r z => w.cell? (a.add (i * K + r)) = some (.int .i64 z) ∧ in64 z) fun r hr => ?_
      have hrf : r < fs.size := by omega
      have hfr : fs[r]? = some fs[r] := Array.getElem?_eq_getElem hrf
      obtain ⟨ho, hk⟩ := hone_of hone r _ hfr
      have h3 := hg r _ hfr
      rw [ho, hk, take1_drop cs' r undef (by omega), List.getElem?_eq_getElem (show r < xs.length by omega)] at h3
      obtain ⟨z, e1, _, b1⟩ := DataW.trod_int (hint r _ hfr) h3
      refine ⟨z, ?_, wf64 b1⟩
      have h4 := hc r (by omega)
      rw [hK] at h4
      have e2 : (a.add (i * K)).add r = a.add (i * K + r) := by by_cases q1 : i * K = 0 <;> by_cases q2 : r = 0 <;> simp [Addr.add, q1, q2, Nat.add_assoc]
      rw [← e2, h4, List.getElem?_eq_getElem (show r < cs'.length by omega)]
      have e3 : cs'.getD r undef = cs'[r]'(by omega) := by simp [List.getD, List.getElem?_eq_getElem (show r < cs'.length by omega)]
      simp only [List.cons.injEq, and_true] at e1
      rw [← e3, e1]
    obtain ⟨R, hR⟩ := choose_lt (α := Nat → Int) hrow
    have hdm : ∀ j, j < len * K → j / K < len ∧ j % K < K ∧ j / K * K + j % K = j := fun j hj => ⟨Nat.div_lt_of_lt_mul (by rwa [Nat.mul_comm]), Nat.mod_lt _ hKp, by rw [Nat.mul_comm]; exact Nat.div_add_mod j K⟩
    refine ⟨some a, len, cap, (List.range (len * K)).map (fun j => R (j / K) (j % K)), hcs, ⟨by simp, hl, by omega, (fun h => by cases h), fun hn => ?_⟩, fun z hz => ?_⟩
    · obtain ⟨b, off, spot⟩ := a
      have h0 := (hR 0 hn 0 hKp).1
      have hspot : spot = none := by simpa [Addr.add] using World.cell?_spot h0
      subst hspot
      have hb : b < w.heap.size := by
        have := lt_of_cell h0
        simpa [Addr.add] using this
      refine ⟨b, off, rfl, hb, fun j y hy => ?_⟩
      have hj : j < len * K := by have := (List.getElem?_eq_some_iff.1 hy).1; simpa using this
      obtain ⟨d1, d2, d3⟩ := hdm j hj
      have h5 := (hR (j / K) d1 (j % K) d2).1
      rw [d3, add_plain] at h5
      rw [h5]
      rw [List.getElem?_map, List.getElem?_range hj] at hy
      simpa using hy
    · obtain ⟨j, hj, rfl⟩ := List.mem_map.1 hz
      obtain ⟨d1, d2, d3⟩ := hdm j (by simpa using hj)
      exact (hR _ d1 _ d2).2
set_option maxRecDepth 100000 in
theorem open_facts {H : Type} {enc : TypeId × Value → H} {w : World} {base : Nat} {spare : Nat → Bool} {held : Bool} {r : Reach} {b0 : Nat} {v : Value} {d : DataW H} {p : List MemPlace} (hv : Value.okWide Try.prog w r b0 66 v) (h : DataW.Trod enc Try.prog w base spare held 66 v d p) :
    ∃ A n c zs, v = .slice A n c ∧ Flat 3 w w.heap.size A n c zs ∧ ∀ z ∈ zs, in64 z := by
  obtain ⟨a0, len0, cap0, rfl⟩ := okWide_slice Try.underlying66 hv
  obtain ⟨fuel, hf⟩ := h
  exact open_flat (by decide) Try.underlying66 Try.underlying141 (by kernel_rfl) (by rfl) (by kernel_rfl) (fun i f hi => by
    have hlt : i < 3 := (Array.getElem?_eq_some_iff.1 hi).1
    rcases (by omega : i = 0 ∨ i = 1 ∨ i = 2) with rfl | rfl | rfl <;> (cases hi; exact Try.underlying2)) hf
set_option maxRecDepth 100000 in
set_option maxHeartbeats 4000000 in
theorem FnExactSameFacts_walk (A : Option Addr) (n c : Nat) (xs : List Int) (A' : Option Addr) (n' c' : Nat) (ys : List Int) (w : World) (h : Flat 3 w w.heap.size A n c xs ∧ ∀ z ∈ xs, in64 z) (h' : Flat 3 w w.heap.size A' n' c' ys ∧ ∀ z ∈ ys, in64 z) :
    Calls Try.prog 10 #[.slice A n c, .slice A' n' c'] w fun e w' => e = .returned (.bool true) ∧ Below w.heap.size w w' := by
  obtain ⟨h, -⟩ := h
  obtain ⟨h', -⟩ := h'
  have hn := h.le
  have hn' := h'.le
  by_cases e1 : (1048576 : Int) - (n : Int) < 0
  · have z1 : szF 1048576 n = -1 := by unfold szF; rw [if_pos e1]
    clear e1 h h'
    go_enter Try.func10, Try.ntmps10
    go_wp2_with fail
    refine (szFactS_any A n c 1048576 w hn (by omega) (by omega)).mono ?_
    rintro e w' ⟨rfl, rfl⟩
    rw [z1]
    go_wp2_with fail
    go_ret
    exact ⟨rfl, Below.refl _ _⟩
  have z1 : szF 1048576 n = 1048576 - (n : Int) := by unfold szF; rw [if_neg e1]
  have e1' : 0 ≤ (1048576 : Int) - (n : Int) := by omega
  clear e1
  by_cases e2 : (1048576 : Int) - (n : Int) - (n' : Int) < 0
  · have z2 : szF (1048576 - (n : Int)) n' = -1 := by unfold szF; rw [if_pos e2]
    clear e2 h h'
    go_enter Try.func10, Try.ntmps10
    go_wp2_with fail
    refine (szFactS_any A n c 1048576 w hn (by omega) (by omega)).mono ?_
    rintro e w' ⟨rfl, rfl⟩
    rw [z1]
    go_wp2_with fail
    refine (szFactS_any A' n' c' _ w hn' (by omega) (by omega)).mono ?_
    rintro e w' ⟨rfl, rfl⟩
    rw [z2]
    go_wp2_with fail
    go_ret
    exact ⟨rfl, Below.refl _ _⟩
  have z2 : szF (1048576 - (n : Int)) n' = 1048576 - (n : Int) - (n' : Int) := by unfold szF; rw [if_neg e2]
  have e2' : 0 ≤ (1048576 : Int) - (n : Int) - (n' : Int) := by omega
  clear e2
  have hN : n ≤ 4294967296 := by omega
  have hN' : n' ≤ 4294967296 := by omega
  have H := Lib.hid h
  have H' := Lib.hid h'
  clear h h'
  go_enter Try.func10, Try.ntmps10
  go_wp2_with fail
  refine (szFactS_any A n c 1048576 w hn (by omega) (by omega)).mono ?_
  rintro e w' ⟨rfl, rfl⟩
  rw [z1]
  go_wp2_with fail
  refine (szFactS_any A' n' c' _ w hn' (by omega) (by omega)).mono ?_
  rintro e w' ⟨rfl, rfl⟩
  rw [z2]
  go_wp2_with fail
  refine (toFactS_any w.heap.size A n c xs _ (by exact H.out) hN (Nat.le_refl _)).mono ?_
  rintro e w1 ⟨B1, k1, rfl, o1, b1⟩
  have O1 := Lib.hid o1
  clear o1
  go_wp2_with fail
  refine (toFactS_any w1.heap.size A' n' c' ys _ (by exact H'.out.sub b1) hN' (Nat.le_refl _)).mono ?_
  rintro e w2 ⟨B2, k2, rfl, o2, b2⟩
  have O2 := Lib.hid o2
  have c2 := sub_step b2 b1 rfl
  clear o2
  go_wp2_with fail
  refine (specSameFacts_any w2.heap.size w2.heap.size B1 B2 n n' k1 k2 xs ys _ (by exact (O1.out.below b2 (Nat.le_refl _)).flat) (by exact O2.out.flat)).mono ?_
  rintro e w3 ⟨rfl, m3, rfl⟩
  have c3 : Below w.heap.size w (w2.drewN m3) := below_drewN c2 m3
  clear O1 O2 b1 b2 c2
  generalize hq : decide (xs = ys) = q
  have HQ := Lib.hid hq
  clear hq
  go_wp2_with fail
  refine (toFactS_any w.heap.size A n c xs _ (by exact H.out.below c3) hN (by exact c3.size)).mono ?_
  rintro e w4 ⟨B4, k4, rfl, o4, b4⟩
  have O4 := Lib.hid o4
  have c4 := sub_step b4 c3 rfl
  clear o4 c3 b4
  go_wp2_with fail
  refine (toFactS_any w.heap.size A' n' c' ys _ (by exact H'.out.below c4) hN' (by exact c4.size)).mono ?_
  rintro e w5 ⟨B5, k5, rfl, o5, b5⟩
  have O4 := Lib.hid (O4.out.below b5 (Nat.le_refl _))
  have O5 := Lib.hid o5
  have c5 := sub_step b5 c4 rfl
  clear o5 c4 b5
  go_wp2_with fail
  refine (implSameFacts_any w5.heap.size w5.heap.size B4 B5 n n' k4 k5 xs ys _ (by exact O4.out.flat) (by exact O5.out.flat)).mono ?_
  rintro e w6 ⟨rfl, m6, rfl⟩
  rw [HQ.out]
  have c6 : Below w.heap.size w (w5.drewN m6) := below_drewN c5 m6
  have O4 := Lib.hid (O4.out.drewN m6)
  have O5 := Lib.hid (O5.out.drewN m6)
  clear c5
  go_wp2_with fail
  refine (toFactS_any w.heap.size A n c xs _ (by exact H.out.below c6) hN (by exact c6.size)).mono ?_
  rintro e w7 ⟨B7, k7, rfl, o7, b7⟩
  have O4 := Lib.hid (O4.out.below b7 (Nat.le_refl _))
  have O5 := Lib.hid (O5.out.below b7 (Nat.le_refl _))
  have O7 := Lib.hid o7
  have c7 := sub_step b7 c6 rfl
  clear o7 c6 b7
  go_wp2_with fail
  refine (eqFactS_any w7.heap.size w7.heap.size B4 B7 n n k4 k7 xs xs _ (by exact Nat.le_refl _) (by exact Nat.le_refl _) (by exact O4.out.flat) (by exact O7.out.flat)).mono ?_
  rintro e w8 ⟨rfl, b8⟩
  rw [show decide (xs = xs) = true from decide_eq_true rfl]
  have O5 := Lib.hid (O5.out.below b8 (Nat.le_refl _))
  have c8 := sub_step b8 c7 rfl
  clear c7 b8 O4 O7
  go_wp2_with fail
  refine (toFactS_any w.heap.size A' n' c' ys _ (by exact H'.out.below c8) hN' (by exact c8.size)).mono ?_
  rintro e w9 ⟨B9, k9, rfl, o9, b9⟩
  have O5 := Lib.hid (O5.out.below b9 (Nat.le_refl _))
  have O9 := Lib.hid o9
  have c9 := sub_step b9 c8 rfl
  clear o9 c8 b9
  go_wp2_with fail
  refine (eqFactS_any w9.heap.size w9.heap.size B5 B9 n' n' k5 k9 ys ys _ (by exact Nat.le_refl _) (by exact Nat.le_refl _) (by exact O5.out.flat) (by exact O9.out.flat)).mono ?_
  rintro e w10 ⟨rfl, b10⟩
  rw [show decide (ys = ys) = true from decide_eq_true rfl]
  have c10 := sub_step b10 c9 rfl
  clear c9 b10
  go_wp2_with fail
  go_ret
  exact ⟨rfl, c10⟩
end Go.Proofs.Ytnanaldolnehiaa
