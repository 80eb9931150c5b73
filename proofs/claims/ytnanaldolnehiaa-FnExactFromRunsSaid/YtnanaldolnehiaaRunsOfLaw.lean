/-
  The law FnExactRunsOf, walked.
-/
import Derived.Test.YtnanaldolnehiaaRunsOf
set_option linter.unusedSimpArgs false
set_option linter.unusedVariables false
namespace Go.Proofs.Ytnanaldolnehiaa
open Go.ChangeShapes Go.WideShapes Go.RowKit Go.Deep

theorem run_block {w : World} {base n c g : Nat} {A : Option Addr} {zs : List Int} (h : OwnRun w base A n c zs) (e : (Value.slice A n c).ownBlock = some g) : A = some ⟨g, 0, none⟩ ∧ base ≤ g ∧ g < w.heap.size := by
  rcases h.form with ⟨rfl, _⟩ | ⟨g', rfl, h1, h2⟩
  · simp [Value.ownBlock] at e
  · simp [Value.ownBlock] at e
    subst e
    exact ⟨rfl, h1, h2⟩
theorem rnR_len (l : List Int) : (rnR l).length ≤ l.length := by
  unfold rnR
  split
  · exact (rn_bound l).1
  · simp
set_option maxRecDepth 100000 in
set_option maxHeartbeats 4000000 in
theorem FnExactRunsOf_walk (A : Option Addr) (n c : Nat) (xs : List Int) (w : World) (h : Ints w w.heap.size A n c xs ∧ ∀ z ∈ xs, in64 z) :
    Calls Try.prog 12 #[.slice A n c] w fun e w' => e = .returned (.bool true) ∧ Below w.heap.size w w' := by
  replace h := h.1
  have hm := h.le
  have hl := h.len
  have H := Lib.hid h
  clear h
  by_cases hs : 1048576 < n
  · have j0 : (1048576 : Int) < (n : Int) := by omega
    clear hl
    go_enter Try.func12, Try.ntmps12
    go_wp2_with fail
    go_ret
    exact ⟨rfl, Below.refl _ _⟩
  have hs' : n ≤ 1048576 := by omega
  have hs2 : n ≤ 4294967296 := by omega
  have j0 : ¬ ((1048576 : Int) < (n : Int)) := by omega
  have hln := rnR_len xs
  rw [hl] at hln
  clear hl
  go_enter Try.func12, Try.ntmps12
  go_wp2_with fail
  refine (toInt64S_any w.heap.size A n c xs _ (by exact H.out) hs2 (by exact Nat.le_refl _)).mono ?_
  rintro e w1 ⟨A1, c1, rfl, o1, b1⟩
  have O1 := Lib.hid o1
  have B1 := Lib.hid b1
  clear o1 b1
  go_wp2_with fail
  refine (specRunsOf_any w1.heap.size A1 n c1 xs _ (by exact O1.out.ints) hs' (by exact Nat.le_refl _)).mono ?_
  rintro e w2 ⟨A2, c2, rfl, o2, b2⟩
  have O2 := Lib.hid o2
  have B2 := Lib.hid (sub_step b2 B1.out rfl)
  clear o2 b2 O1 B1
  generalize hL : rnR xs = L at *
  generalize hR : rnC xs = R at *
  have HL := Lib.hid hL
  have HR := Lib.hid hR
  clear hL hR
  go_wp2_with fail
  refine (toInt64S_any w.heap.size A n c xs _ (by exact H.out.below B2.out) hs2 (by exact B2.out.size)).mono ?_
  rintro e w3 ⟨A3, c3, rfl, o3, b3⟩
  have O3 := Lib.hid o3
  have B3 := Lib.hid b3
  have S3 := b3.size
  clear o3 b3
  go_wp2_with fail
  refine (implRunsOf_any w3.heap.size A3 n c3 xs _ (by exact O3.out.ints) hs' (by exact Nat.le_refl _)).mono ?_
  rintro e w4 ⟨A4, c4, rfl, o4, b4⟩
  rw [HL.out] at o4
  rw [HL.out, HR.out]
  have O4 := Lib.hid o4
  have B4 := Lib.hid b4
  have O34 := Lib.hid (O3.out.below b4 (Nat.le_refl _))
  have C4 := Lib.hid (B3.out.trans (b4.mono S3))
  have S4 := b4.size
  clear o4 b4
  have J2 := Lib.hid O2.out.flat
  go_wp2_with fail
  refine (eqRunS_any w4.heap.size w4.heap.size A4 A2 L.length L.length c4 c2 (flR L) (flR L) _ (by exact Nat.le_refl _) (by exact Nat.le_refl _) (by exact O4.out.flat) (by exact J2.out.sub C4.out)).mono ?_
  rintro e w5 ⟨rfl, b5⟩
  rw [show decide (flR L = flR L) = true from decide_eq_true rfl]
  have O5 := Lib.hid (O4.out.below b5 (Nat.le_refl _))
  have O35 := Lib.hid (O34.out.below b5 (Nat.le_refl _))
  have C5 := Lib.hid (C4.out.trans (b5.mono C4.out.size))
  have S5 := b5.size
  clear b5 O34
  go_wp2_with fail
  refine (toInt64S_any w.heap.size A n c xs _ (by exact H.out.below (B2.out.trans (C5.out.mono B2.out.size))) hs2 (by exact (B2.out.trans (C5.out.mono B2.out.size)).size)).mono ?_
  rintro e w6 ⟨A6, c6, rfl, o6, b6⟩
  have O6 := Lib.hid o6.ints
  have O46 := Lib.hid (O5.out.below b6 (Nat.le_refl _))
  have O36 := Lib.hid (O35.out.below b6 (Nat.le_refl _))
  have C6 := Lib.hid (C5.out.trans (b6.mono C5.out.size))
  have S6 := b6.size
  clear o6 b6 O5 O35
  go_wp2_with fail
  refine (eqInt64S_is _ _ _ _ _ _ _ _ xs xs true (decide_eq_true rfl) _ (by exact O36.out.ints) (by exact O6.out)).mono ?_
  rintro e w7 ⟨rfl, m7, rfl⟩
  have O37 := Lib.hid (O36.out.drewN m7)
  have O47 := Lib.hid (O46.out.drewN m7)
  clear O36 O46 O6
  go_wp2_with fail
  refine (markInt64S_any w2.heap.size A3 n c3 xs 1 _ (by exact O37.out) (by omega) (by omega) (by omega)).mono ?_
  rintro e w8 ⟨rfl, o8, g8⟩
  have C8 : Hid (Below w2.heap.size w2 w8) := Lib.hid (Below.grown (below_drewN C6.out m7) g8 (by exact C6.out.size) (fun g e => (own_block O37.out e).2.1))
  have O48 := Lib.hid (O47.out.kept g8 (fun g e => .inl (by have := (own_block O3.out e).2.2; omega)))
  clear o8 g8 O47 O37
  go_wp2_with fail
  refine (eqRunS_any w8.heap.size w8.heap.size A4 A2 L.length L.length c4 c2 (flR L) (flR L) _ (by exact Nat.le_refl _) (by exact Nat.le_refl _) (by exact O48.out.flat) (by exact J2.out.sub C8.out)).mono ?_
  rintro e w9 ⟨rfl, b9⟩
  rw [show decide (flR L = flR L) = true from decide_eq_true rfl]
  have O49 := Lib.hid (O48.out.below b9 (Nat.le_refl _))
  have C9 := Lib.hid (C8.out.trans (b9.mono C8.out.size))
  clear b9 O48
  go_wp2_with fail
  refine (markRunS_any w3.heap.size A4 L.length c4 (flR L) 1 _ (by exact O49.out) (by omega) (by omega) (by omega)).mono ?_
  rintro e w10 ⟨rfl, o10, g10⟩
  have C10 : Hid (Below w2.heap.size w2 w10) := Lib.hid (Below.grown C9.out g10 (by exact C9.out.size) (fun g e => by
    have := (run_block O49.out e).2.1; omega))
  have F10 := Lib.hid o10.flat
  clear o10 g10 O49 C9
  go_wp2_with fail
  refine (heldRunS_any _ A4 L.length c4 1 _ (by exact F10.out) (by omega) (by omega) (by omega)).mono ?_
  rintro e w' ⟨rfl, rfl⟩
  go_wp2_with fail
  refine (toInt64S_any w.heap.size A n c xs _ (by exact H.out.below (B2.out.trans (C10.out.mono B2.out.size))) hs2 (by exact (B2.out.trans (C10.out.mono B2.out.size)).size)).mono ?_
  rintro e w11 ⟨A11, c11, rfl, o11, b11⟩
  have O11 := Lib.hid o11
  have F11 := Lib.hid (F10.out.sub b11)
  have C11 := Lib.hid (C10.out.trans (b11.mono C10.out.size))
  clear o11 b11 F10
  go_wp2_with fail
  refine (implRunsOf_any w11.heap.size A11 n c11 xs _ (by exact O11.out.ints) hs' (by exact Nat.le_refl _)).mono ?_
  rintro e w12 ⟨A12, c12, rfl, o12, b12⟩
  rw [HL.out] at o12
  rw [HL.out, HR.out]
  have O12 := Lib.hid o12
  have F12 := Lib.hid (F11.out.sub b12)
  have C12 := Lib.hid (C11.out.trans (b12.mono C11.out.size))
  clear o12 b12 F11 O11
  go_wp2_with fail
  refine (eqRunS_any w12.heap.size w12.heap.size A12 A2 L.length L.length c12 c2 (flR L) (flR L) _ (by exact Nat.le_refl _) (by exact Nat.le_refl _) (by exact O12.out.flat) (by exact J2.out.sub C12.out)).mono ?_
  rintro e w13 ⟨rfl, b13⟩
  rw [show decide (flR L = flR L) = true from decide_eq_true rfl]
  have F13 := Lib.hid (F12.out.sub b13)
  have C13 := Lib.hid (C12.out.trans (b13.mono C12.out.size))
  clear b13 O12 F12
  go_wp2_with fail
  refine (heldRunS_any _ A4 L.length c4 1 _ (by exact F13.out) (by omega) (by omega) (by omega)).mono ?_
  rintro e w' ⟨rfl, rfl⟩
  go_wp2_with fail
  go_ret
  exact ⟨rfl, B2.out.trans (C13.out.mono B2.out.size)⟩
end Go.Proofs.Ytnanaldolnehiaa
