/-
  All seeds of a position; whether a position is whole: IsWhole.
-/
import Derived.Test.YtjacmbgngbhcpaaEnds
set_option linter.unusedSimpArgs false
set_option linter.unusedVariables false
namespace Go.Proofs.Ytjacmbgngbhcpaa
open Go.ChangeShapes Go.WideShapes Go.RowKit Go.Deep

set_option maxHeartbeats 400000 in
theorem all_any (A A' : Option Addr) (n u n' u' : Nat) (xs xs' : List Int) (pl : Int) (w : World) (h : Ints w w.heap.size A n u xs) (h' : Ints w w.heap.size A' n' u' xs') (hn : n ≤ 4294967296) (hn' : n' ≤ 4294967296) :
    Calls Try.prog 80 #[.agg #[.slice A n u, .slice A' n' u', .int .i64 pl]] w fun e w' => e = .returned (.int .i64 (sumV xs + sumV xs')) ∧ Below w.heap.size w w' := by
  have HL := Lib.hid h.len
  have HL' := Lib.hid h'.len
  have HH := Lib.hid h
  have HH' := Lib.hid h'
  clear h h'
  go_enter Try.func80, Try.ntmps80
  go_wp2_with fail
  refine (sumOf_any _ _ _ _ xs _ (by exact HH.out.sub (by repeat (first | with_reducible exact Below.refl _ _ | with_reducible assumption | with_reducible refine sub_alloc ?_ _ | (with_reducible refine sub_setCell2 ?_ ?_ _; (focus (first | (simp; done) | (simp <;> omega)))) | with_reducible refine sub_drew ?_ | with_reducible refine below_drewN ?_ _ | with_reducible refine sub_step (by assumption) ?_ (by first | rfl | (simp; done)) | exact Below.refl _ _ | assumption | refine sub_alloc ?_ _ | refine sub_setCell ?_ (by simp <;> omega) _ | refine sub_drew ?_ | refine below_drewN ?_ _ | refine sub_step (by assumption) ?_ (by first | rfl | (simp; done))))) hn).mono ?_
  rintro e w1 ⟨rfl, m1, rfl⟩
  go_wp2_with fail
  refine (sumOf_any _ _ _ _ xs' _ (by exact HH'.out.sub (by repeat (first | with_reducible exact Below.refl _ _ | with_reducible assumption | with_reducible refine sub_alloc ?_ _ | (with_reducible refine sub_setCell2 ?_ ?_ _; (focus (first | (simp; done) | (simp <;> omega)))) | with_reducible refine sub_drew ?_ | with_reducible refine below_drewN ?_ _ | with_reducible refine sub_step (by assumption) ?_ (by first | rfl | (simp; done)) | exact Below.refl _ _ | assumption | refine sub_alloc ?_ _ | refine sub_setCell ?_ (by simp <;> omega) _ | refine sub_drew ?_ | refine below_drewN ?_ _ | refine sub_step (by assumption) ?_ (by first | rfl | (simp; done))))) hn').mono ?_
  rintro e w2 ⟨rfl, m2, rfl⟩
  obtain ⟨s0, s1⟩ := sumV_bd xs
  obtain ⟨s2, s3⟩ := sumV_bd xs'
  rw [HL.out] at s1
  rw [HL'.out] at s3
  go_wp2_with fail
  go_ret
  exact ⟨rfl, (by repeat (first | with_reducible exact Below.refl _ _ | with_reducible assumption | with_reducible refine sub_alloc ?_ _ | (with_reducible refine sub_setCell2 ?_ ?_ _; (focus (first | (simp; done) | (simp <;> omega)))) | with_reducible refine sub_drew ?_ | with_reducible refine below_drewN ?_ _ | with_reducible refine sub_step (by assumption) ?_ (by first | rfl | (simp; done)) | exact Below.refl _ _ | assumption | refine sub_alloc ?_ _ | refine sub_setCell ?_ (by simp <;> omega) _ | refine sub_drew ?_ | refine below_drewN ?_ _ | refine sub_step (by assumption) ?_ (by first | rfl | (simp; done))))⟩
theorem l04Ok_is (b o b2 o2 : Nat) (r : Ru) (A A' : Option Addr) (n c n' c' : Nat) (xs xs' : List Int) (pl : Int) (v : Bool) (hv : okP r xs xs' pl = v) (w : World) (hr : RuAt w b o r) (hp : PosAt w b2 o2 A n c A' n' c' pl)
    (h : Ints w w.heap.size A n c xs) (h' : Ints w w.heap.size A' n' c' xs') (hn : n ≤ 4294967296) :
    Calls Try.prog 77 #[.pointer (some ⟨b, o, none⟩), .pointer (some ⟨b2, o2, none⟩)] w fun e w' => e = .returned (.bool v) ∧ ∃ m, w' = w.drewN m := by
  subst hv
  exact l04Ok_any b o b2 o2 r A A' n c n' c' xs xs' pl w hr hp h h' hn
theorem l04Sum_is (B : Nat) (A : Option Addr) (n c : Nat) (zs : List Int) (v : Int) (hv : sumL zs = v) (w : World) (h : Ints w B A n c zs) (hn : n ≤ 4294967296) :
    Calls Try.prog 78 #[.slice A n c] w fun e w' => e = .returned (.int .i64 v) ∧ ∃ m, w' = w.drewN m := by
  subst hv
  exact l04Sum_any B A n c zs w h hn

/-- Whether a position is whole. -/
def wholeP (r : Ru) (xs xs' : List Int) (pl : Int) : Bool := okP r xs xs' pl && decide (xs.sum + xs'.sum = 2 * r.pits * r.seeds)
theorem okR_seeds {r : Ru} (h : okR r = true) : 1 ≤ r.seeds ∧ r.seeds ≤ 6 := by
  simp [okR, inB] at h
  omega

theorem bd_ps {p s : Int} (h0 : 2 ≤ p) (h1 : p ≤ 8) (h2 : 1 ≤ s) (h3 : s ≤ 6) : 0 ≤ 2 * p * s ∧ 2 * p * s ≤ 96 := by
  have a : 0 ≤ p * s := Int.mul_nonneg (by omega) (by omega)
  have b : p * s ≤ 8 * 6 := Int.mul_le_mul h1 h3 (by omega) (by omega)
  rw [Int.mul_assoc]
  omega

set_option maxHeartbeats 400000 in
theorem specIsWhole_any (p s : Int) (st sk re fe ag : Bool) (c sl : Int) (A A' : Option Addr) (n u n' u' : Nat) (xs xs' : List Int) (pl : Int) (w : World) (h : Ints w w.heap.size A n u xs) (h' : Ints w w.heap.size A' n' u' xs') (hn : n ≤ 4294967296) :
    Calls Try.prog 35 #[.agg #[.int .i64 p, .int .i64 s, .bool st, .bool sk, .bool re, .bool fe, .bool ag, .int .i64 c, .int .i64 sl], .agg #[.slice A n u, .slice A' n' u', .int .i64 pl]] w fun e w' => e = .returned (.bool (wholeP ⟨p, s, st, sk, re, fe, ag, c, sl⟩ xs xs' pl)) ∧ Below w.heap.size w w' := by
  have HL' := Lib.hid h'.len
  have P0 := Lib.hid ((RuAt.box w 38 p s st sk re fe ag c sl).alloc (.cells #[.slice A n u, .slice A' n' u', .int .i64 pl] 35))
  have P1 := Lib.hid (PosAt.box (w.alloc (.cells #[.int .i64 p, .int .i64 s, .bool st, .bool sk, .bool re, .bool fe, .bool ag, .int .i64 c, .int .i64 sl] 38)) 35 A n u A' n' u' pl)
  have hbW : Below w.heap.size w ((w.alloc (.cells #[.int .i64 p, .int .i64 s, .bool st, .bool sk, .bool re, .bool fe, .bool ag, .int .i64 c, .int .i64 sl] 38)).alloc (.cells #[.slice A n u, .slice A' n' u', .int .i64 pl] 35)) := (by repeat (first | with_reducible exact Below.refl _ _ | with_reducible assumption | with_reducible refine sub_alloc ?_ _ | (with_reducible refine sub_setCell2 ?_ ?_ _; (focus (first | (simp; done) | (simp <;> omega)))) | with_reducible refine sub_drew ?_ | with_reducible refine below_drewN ?_ _ | with_reducible refine sub_step (by assumption) ?_ (by first | rfl | (simp; done)) | exact Below.refl _ _ | assumption | refine sub_alloc ?_ _ | refine sub_setCell ?_ (by simp <;> omega) _ | refine sub_drew ?_ | refine below_drewN ?_ _ | refine sub_step (by assumption) ?_ (by first | rfl | (simp; done))))
  have HH := Lib.hid (h.sub hbW)
  have HH' := Lib.hid (h'.sub hbW)
  clear h h' hbW
  have hs1 : (w.alloc (.cells #[.int .i64 p, .int .i64 s, .bool st, .bool sk, .bool re, .bool fe, .bool ag, .int .i64 c, .int .i64 sl] 38)).heap.size = w.heap.size + 1 := by simp
  have P3 := P1.out
  rw [hs1] at P3
  clear P1 hs1
  have P1 := Lib.hid P3
  obtain ⟨d0, d1, d2⟩ := P3.flat
  have P4 := P0.out
  obtain ⟨c0, c1, -⟩ := P4.flat
  clear P3 P4
  cases e0 : okP ⟨p, s, st, sk, re, fe, ag, c, sl⟩ xs xs' pl
  · go_enter Try.func35, Try.ntmps35
    go_wp2_with fail
    go_quiet ((go_at_call 77; exact Calls.quiet_of (l04Ok_is w.heap.size 0 (w.heap.size + 1) 0 ⟨p, s, st, sk, re, fe, ag, c, sl⟩ _ _ _ _ _ _ xs xs' pl false e0 _ P0.out P1.out (HH.out.drewN _) (HH'.out.drewN _) hn)))
    go_wp2_with fail
    go_ret
    exact ⟨ret_b (by simp [wholeP, e0]), (by repeat (first | with_reducible exact Below.refl _ _ | with_reducible assumption | with_reducible refine sub_alloc ?_ _ | (with_reducible refine sub_setCell2 ?_ ?_ _; (focus (first | (simp; done) | (simp <;> omega)))) | with_reducible refine sub_drew ?_ | with_reducible refine below_drewN ?_ _ | with_reducible refine sub_step (by assumption) ?_ (by first | rfl | (simp; done)) | exact Below.refl _ _ | assumption | refine sub_alloc ?_ _ | refine sub_setCell ?_ (by simp <;> omega) _ | refine sub_drew ?_ | refine below_drewN ?_ _ | refine sub_step (by assumption) ?_ (by first | rfl | (simp; done))))⟩
  obtain ⟨z1, -, z2, -, -, -, z6, z7, z8, z9, z10, -⟩ := okP_parts e0
  obtain ⟨hq0, hq1⟩ := okR_pits z1
  obtain ⟨hs0, hs1⟩ := okR_seeds z1
  dsimp only at hq0 hq1 hs0 hs1
  obtain rfl : n' = 2 := by rw [← HL'.out, z2]
  clear z1 z2
  have Z9 := Lib.hid z9
  have Z10 := Lib.hid z10
  clear z9 z10
  have hps := bd_ps hq0 hq1 hs0 hs1
  by_cases e1 : xs.sum + xs'.sum = 2 * p * s
  · have e2 : (xs.sum + xs'.sum == 2 * p * s) = true := by simpa using e1
    have E1 := Lib.hid e1
    clear e1
    go_enter Try.func35, Try.ntmps35
    go_wp2_with fail
    go_quiet ((first | (go_at_call 77; exact Calls.quiet_of (l04Ok_is w.heap.size 0 (w.heap.size + 1) 0 ⟨p, s, st, sk, re, fe, ag, c, sl⟩ _ _ _ _ _ _ xs xs' pl true e0 _ P0.out P1.out (HH.out.drewN _) (HH'.out.drewN _) hn)) | (go_at_call_of 78 (Value.slice A n u); exact Calls.quiet_of (l04Sum_is _ _ _ _ xs _ Z9.out _ (HH.out.drewN _) hn)) | (go_at_call_of 78 (Value.slice A' 2 u'); exact Calls.quiet_of (l04Sum_is _ _ _ _ xs' _ Z10.out _ (HH'.out.drewN _) (by omega)))))
    go_wp2_with fail
    go_ret
    exact ⟨ret_b (by simp [wholeP, e0, E1.out]), (by repeat (first | with_reducible exact Below.refl _ _ | with_reducible assumption | with_reducible refine sub_alloc ?_ _ | (with_reducible refine sub_setCell2 ?_ ?_ _; (focus (first | (simp; done) | (simp <;> omega)))) | with_reducible refine sub_drew ?_ | with_reducible refine below_drewN ?_ _ | with_reducible refine sub_step (by assumption) ?_ (by first | rfl | (simp; done)) | exact Below.refl _ _ | assumption | refine sub_alloc ?_ _ | refine sub_setCell ?_ (by simp <;> omega) _ | refine sub_drew ?_ | refine below_drewN ?_ _ | refine sub_step (by assumption) ?_ (by first | rfl | (simp; done))))⟩
  · have e2 : (xs.sum + xs'.sum == 2 * p * s) = false := by simpa using e1
    have E1 := Lib.hid e1
    clear e1
    go_enter Try.func35, Try.ntmps35
    go_wp2_with fail
    go_quiet ((first | (go_at_call 77; exact Calls.quiet_of (l04Ok_is w.heap.size 0 (w.heap.size + 1) 0 ⟨p, s, st, sk, re, fe, ag, c, sl⟩ _ _ _ _ _ _ xs xs' pl true e0 _ P0.out P1.out (HH.out.drewN _) (HH'.out.drewN _) hn)) | (go_at_call_of 78 (Value.slice A n u); exact Calls.quiet_of (l04Sum_is _ _ _ _ xs _ Z9.out _ (HH.out.drewN _) hn)) | (go_at_call_of 78 (Value.slice A' 2 u'); exact Calls.quiet_of (l04Sum_is _ _ _ _ xs' _ Z10.out _ (HH'.out.drewN _) (by omega)))))
    go_wp2_with fail
    go_ret
    exact ⟨ret_b (by simp [wholeP, e0, E1.out]), (by repeat (first | with_reducible exact Below.refl _ _ | with_reducible assumption | with_reducible refine sub_alloc ?_ _ | (with_reducible refine sub_setCell2 ?_ ?_ _; (focus (first | (simp; done) | (simp <;> omega)))) | with_reducible refine sub_drew ?_ | with_reducible refine below_drewN ?_ _ | with_reducible refine sub_step (by assumption) ?_ (by first | rfl | (simp; done)) | exact Below.refl _ _ | assumption | refine sub_alloc ?_ _ | refine sub_setCell ?_ (by simp <;> omega) _ | refine sub_drew ?_ | refine below_drewN ?_ _ | refine sub_step (by assumption) ?_ (by first | rfl | (simp; done))))⟩
theorem ValidPosition_is (p s : Int) (st sk re fe ag : Bool) (c sl : Int) (A A' : Option Addr) (n u n' u' : Nat) (xs xs' : List Int) (pl : Int) (v : Bool) (hv : okP ⟨p, s, st, sk, re, fe, ag, c, sl⟩ xs xs' pl = v) (w : World) (h : Ints w w.heap.size A n u xs) (h' : Ints w w.heap.size A' n' u' xs') (hn : n ≤ 4294967296) :
    Calls Try.prog 79 #[.agg #[.int .i64 p, .int .i64 s, .bool st, .bool sk, .bool re, .bool fe, .bool ag, .int .i64 c, .int .i64 sl], .agg #[.slice A n u, .slice A' n' u', .int .i64 pl]] w fun e w' => e = .returned (.bool v) ∧ Below w.heap.size w w' := by
  subst hv
  exact ValidPosition_any p s st sk re fe ag c sl A A' n u n' u' xs xs' pl w h h' hn
theorem all_is (A A' : Option Addr) (n u n' u' : Nat) (xs xs' : List Int) (pl : Int) (v : Int) (hv : sumV xs + sumV xs' = v) (w : World) (h : Ints w w.heap.size A n u xs) (h' : Ints w w.heap.size A' n' u' xs') (hn : n ≤ 4294967296) (hn' : n' ≤ 4294967296) :
    Calls Try.prog 80 #[.agg #[.slice A n u, .slice A' n' u', .int .i64 pl]] w fun e w' => e = .returned (.int .i64 v) ∧ Below w.heap.size w w' := by
  subst hv
  exact all_any A A' n u n' u' xs xs' pl w h h' hn hn'
set_option maxHeartbeats 1000000 in
theorem IsWhole_any (p s : Int) (st sk re fe ag : Bool) (c sl : Int) (A A' : Option Addr) (n u n' u' : Nat) (xs xs' : List Int) (pl : Int) (w : World) (h : Ints w w.heap.size A n u xs) (h' : Ints w w.heap.size A' n' u' xs') (hn : n ≤ 4294967296) :
    Calls Try.prog 36 #[.agg #[.int .i64 p, .int .i64 s, .bool st, .bool sk, .bool re, .bool fe, .bool ag, .int .i64 c, .int .i64 sl], .agg #[.slice A n u, .slice A' n' u', .int .i64 pl]] w fun e w' => e = .returned (.bool (wholeP ⟨p, s, st, sk, re, fe, ag, c, sl⟩ xs xs' pl)) ∧ Below w.heap.size w w' := by
  have HL' := Lib.hid h'.len
  have P0 := (RuAt.box w 38 p s st sk re fe ag c sl).alloc (.cells #[.slice A n u, .slice A' n' u', .int .i64 pl] 35)
  have P1 := PosAt.box (w.alloc (.cells #[.int .i64 p, .int .i64 s, .bool st, .bool sk, .bool re, .bool fe, .bool ag, .int .i64 c, .int .i64 sl] 38)) 35 A n u A' n' u' pl
  have hbW : Below w.heap.size w ((w.alloc (.cells #[.int .i64 p, .int .i64 s, .bool st, .bool sk, .bool re, .bool fe, .bool ag, .int .i64 c, .int .i64 sl] 38)).alloc (.cells #[.slice A n u, .slice A' n' u', .int .i64 pl] 35)) := (by repeat (first | with_reducible exact Below.refl _ _ | with_reducible assumption | with_reducible refine sub_alloc ?_ _ | (with_reducible refine sub_setCell2 ?_ ?_ _; (focus (first | (simp; done) | (simp <;> omega)))) | with_reducible refine sub_drew ?_ | with_reducible refine below_drewN ?_ _ | with_reducible refine sub_step (by assumption) ?_ (by first | rfl | (simp; done)) | exact Below.refl _ _ | assumption | refine sub_alloc ?_ _ | refine sub_setCell ?_ (by simp <;> omega) _ | refine sub_drew ?_ | refine below_drewN ?_ _ | refine sub_step (by assumption) ?_ (by first | rfl | (simp; done))))
  have HH := Lib.hid (h.sub hbW)
  have HH' := Lib.hid (h'.sub hbW)
  clear h h'
  have hs1 : (w.alloc (.cells #[.int .i64 p, .int .i64 s, .bool st, .bool sk, .bool re, .bool fe, .bool ag, .int .i64 c, .int .i64 sl] 38)).heap.size = w.heap.size + 1 := by simp
  rw [hs1] at P1
  clear hs1
  obtain ⟨c0, c1, c2, c3, c4, c5, c6, c7, c8⟩ := P0.flat
  obtain ⟨d0, d1, d2⟩ := P1.flat
  cases e0 : okP ⟨p, s, st, sk, re, fe, ag, c, sl⟩ xs xs' pl
  · go_enter Try.func36, Try.ntmps36
    go_wp2_with fail
    refine wp_region_held_drew (S := (fun w' => w'.cell? ⟨w.heap.size, 0, none⟩ = some (.int .i64 p) ∧ w'.cell? ⟨w.heap.size, 1, none⟩ = some (.int .i64 s) ∧ w'.cell? ⟨w.heap.size, 2, none⟩ = some (.bool st) ∧ w'.cell? ⟨w.heap.size, 3, none⟩ = some (.bool sk) ∧ w'.cell? ⟨w.heap.size, 4, none⟩ = some (.bool re) ∧ w'.cell? ⟨w.heap.size, 5, none⟩ = some (.bool fe) ∧ w'.cell? ⟨w.heap.size, 6, none⟩ = some (.bool ag) ∧ w'.cell? ⟨w.heap.size, 7, none⟩ = some (.int .i64 c) ∧ w'.cell? ⟨w.heap.size, 8, none⟩ = some (.int .i64 sl) ∧ w'.cell? ⟨w.heap.size + 1, 0, none⟩ = some (.slice A n u) ∧ w'.cell? ⟨w.heap.size + 1, 1, none⟩ = some (.slice A' n' u') ∧ w'.cell? ⟨w.heap.size + 1, 2, none⟩ = some (.int .i64 pl))) (by kernel_rfl) (by (first | (refine ⟨?_, ?_, ?_, ?_, ?_, ?_, ?_, ?_, ?_, ?_, ?_, ?_⟩ <;> assumption) | go_keep)) (fun hHeld => ?_)
    refine wpAnyH_take (i := 0) (oi := ⟨some 5, _, _, _, _, _⟩) (v := .agg #[.int .i64 p, .int .i64 s, .bool st, .bool sk, .bool re, .bool fe, .bool ag, .int .i64 c, .int .i64 sl]) rfl (by kernel_rfl) (by kernel_rfl) (by kernel_rfl) (fun _ _ _ h => h) (Or.inl ⟨by rfl, by (intro w hSw; (try dsimp only at hSw); go_simp)⟩) hHeld ?_
    (try simp only [Act.put, List.setIfInBounds_toArray, List.set_cons_zero, List.set_cons_succ])
    refine wpAnyH_take (i := 1) (oi := ⟨some 6, _, _, _, _, _⟩) (v := .agg #[.slice A n u, .slice A' n' u', .int .i64 pl]) rfl (by kernel_rfl) (by kernel_rfl) (by kernel_rfl) (fun _ _ _ h => h) (Or.inl ⟨by rfl, by (intro w hSw; (try dsimp only at hSw); go_simp)⟩) hHeld ?_
    (try simp only [Act.put, List.setIfInBounds_toArray, List.set_cons_zero, List.set_cons_succ])
    refine wpAnyH_ready (rs := [2]) (by kernel_rfl) (by simp) ?_
    refine AllReadyH.cons (o := ⟨some 7, _, _, _, _, _⟩) rfl (fun K hK => ?_) AllReadyH.nil
    go_simp
    (go_at_call 79; refine (ValidPosition_is p s st sk re fe ag c sl _ _ _ _ _ _ xs xs' pl false e0 _ (by exact HH.out) (by exact HH'.out) hn).mono ?_; rintro e w1 ⟨rfl, hb1⟩; have hb1 := undrew hb1; have Y0 := P0.below hb1 P0.lt; have Y1 := P1.below hb1 P1.lt; obtain ⟨y0, y1, y2, y3, y4, y5, y6, y7, y8⟩ := Y0.flat; obtain ⟨y9, y10, y11⟩ := Y1.flat)
    (try go_wp2_with fail)
    refine hK.out _ _ (by (first | (refine ⟨?_, ?_, ?_, ?_, ?_, ?_, ?_, ?_, ?_, ?_, ?_, ?_⟩ <;> assumption) | go_keep)) (fun hHeld => ?_)
    clear hK K
    (try simp only [Act.put, List.setIfInBounds_toArray, List.set_cons_zero, List.set_cons_succ])
    refine wpAnyH_take (i := 3) (oi := ⟨some 8, _, _, _, _, _⟩) (v := .bool false) rfl (by kernel_rfl) (by kernel_rfl) (by kernel_rfl) (fun _ _ _ h => h) (Or.inl ⟨by rfl, by (intro w hSw; (try dsimp only at hSw); go_simp)⟩) hHeld ?_
    (try simp only [Act.put, List.setIfInBounds_toArray, List.set_cons_zero, List.set_cons_succ])
    refine wpAnyH_take (i := 4) (oi := ⟨some 9, _, _, _, _, _⟩) (v := undef) rfl (by kernel_rfl) (by kernel_rfl) (by kernel_rfl) (fun _ _ _ h => h) (Or.inr ⟨by rfl, rfl⟩) hHeld ?_
    (try simp only [Act.put, List.setIfInBounds_toArray, List.set_cons_zero, List.set_cons_succ])
    refine wpAnyH_take (i := 5) (oi := ⟨some 10, _, _, _, _, _⟩) (v := undef) rfl (by kernel_rfl) (by kernel_rfl) (by kernel_rfl) (fun _ _ _ h => h) (Or.inr ⟨by rfl, rfl⟩) hHeld ?_
    (try simp only [Act.put, List.setIfInBounds_toArray, List.set_cons_zero, List.set_cons_succ])
    refine wpAnyH_take (i := 6) (oi := ⟨some 11, _, _, _, _, _⟩) (v := undef) rfl (by kernel_rfl) (by kernel_rfl) (by kernel_rfl) (fun _ _ _ h => h) (Or.inr ⟨by rfl, rfl⟩) hHeld ?_
    (try simp only [Act.put, List.setIfInBounds_toArray, List.set_cons_zero, List.set_cons_succ])
    refine wpAnyH_take (i := 7) (oi := ⟨some 12, _, _, _, _, _⟩) (v := undef) rfl (by kernel_rfl) (by kernel_rfl) (by kernel_rfl) (fun _ _ _ h => h) (Or.inr ⟨by rfl, rfl⟩) hHeld ?_
    (try simp only [Act.put, List.setIfInBounds_toArray, List.set_cons_zero, List.set_cons_succ])
    refine wpAnyH_take (i := 8) (oi := ⟨some 13, _, _, _, _, _⟩) (v := undef) rfl (by kernel_rfl) (by kernel_rfl) (by kernel_rfl) (fun _ _ _ h => h) (Or.inr ⟨by rfl, rfl⟩) hHeld ?_
    (try simp only [Act.put, List.setIfInBounds_toArray, List.set_cons_zero, List.set_cons_succ])
    refine wpAnyH_take (i := 9) (oi := ⟨some 14, _, _, _, _, _⟩) (v := undef) rfl (by kernel_rfl) (by kernel_rfl) (by kernel_rfl) (fun _ _ _ h => h) (Or.inr ⟨by rfl, rfl⟩) hHeld ?_
    (try simp only [Act.put, List.setIfInBounds_toArray, List.set_cons_zero, List.set_cons_succ])
    refine wpAnyH_take (i := 10) (oi := ⟨some 15, _, _, _, _, _⟩) (v := undef) rfl (by kernel_rfl) (by kernel_rfl) (by kernel_rfl) (fun _ _ _ h => h) (Or.inr ⟨by rfl, rfl⟩) hHeld ?_
    (try simp only [Act.put, List.setIfInBounds_toArray, List.set_cons_zero, List.set_cons_succ])
    refine wpAnyH_take (i := 11) (oi := ⟨some 16, _, _, _, _, _⟩) (v := undef) rfl (by kernel_rfl) (by kernel_rfl) (by kernel_rfl) (fun _ _ _ h => h) (Or.inr ⟨by rfl, rfl⟩) hHeld ?_
    (try simp only [Act.put, List.setIfInBounds_toArray, List.set_cons_zero, List.set_cons_succ])
    refine wpAnyH_take (i := 12) (oi := ⟨some 17, _, _, _, _, _⟩) (v := undef) rfl (by kernel_rfl) (by kernel_rfl) (by kernel_rfl) (fun _ _ _ h => h) (Or.inr ⟨by rfl, rfl⟩) hHeld ?_
    (try simp only [Act.put, List.setIfInBounds_toArray, List.set_cons_zero, List.set_cons_succ])
    refine wpAnyH_take (i := 13) (oi := ⟨some 18, _, _, _, _, _⟩) (v := .bool false) rfl (by kernel_rfl) (by kernel_rfl) (by kernel_rfl) (fun _ _ _ h => h) (Or.inl ⟨by rfl, by (intro w hSw; (try dsimp only at hSw); go_simp)⟩) hHeld ?_
    (try simp only [Act.put, List.setIfInBounds_toArray, List.set_cons_zero, List.set_cons_succ])
    refine wpAnyH_take (i := 14) (oi := ⟨some 4, _, _, _, _, _⟩) (v := .bool false) rfl (by kernel_rfl) (by kernel_rfl) (by kernel_rfl) (fun _ _ _ h => h) (Or.inl ⟨by rfl, by (intro w hSw; (try dsimp only at hSw); go_simp)⟩) hHeld ?_
    (try simp only [Act.put, List.setIfInBounds_toArray, List.set_cons_zero, List.set_cons_succ])
    refine wpAnyH_done (by kernel_rfl) ?_ _
    have b1 : Below w.heap.size w w1 := sub_step hb1 hbW rfl
    go_wp2_with fail
    go_ret
    exact ⟨ret_b (by simp [wholeP, e0]), b1⟩
  obtain ⟨z1, -, z2, -, -, -, z6, z7, z8, -, -, z9, z10⟩ := okP_parts e0
  obtain ⟨hq0, hq1⟩ := okR_pits z1
  obtain ⟨hs0, hs1⟩ := okR_seeds z1
  dsimp only at hq0 hq1 hs0 hs1
  obtain rfl : n' = 2 := by rw [← HL'.out, z2]
  clear z1 z2
  have Z := Lib.hid (show sumV xs + sumV xs' = xs.sum + xs'.sum by rw [z9, z10])
  clear z9 z10
  have hps := bd_ps hq0 hq1 hs0 hs1
  have WR := Lib.hid (show IntKind.i64.wrap (IntKind.i64.wrap (2 * p) * s) = 2 * p * s by rw [IntWalk.i64_in (2 * p) (by omega), IntWalk.i64_in (2 * p * s) (by omega)])
  have hw : wholeP ⟨p, s, st, sk, re, fe, ag, c, sl⟩ xs xs' pl = (xs.sum + xs'.sum == 2 * p * s) := by
    simp only [wholeP, e0, Bool.true_and]
    rw [Bool.eq_iff_iff]
    simp
  rw [hw]
  clear hw
  have tok : True := trivial
  go_enter Try.func36, Try.ntmps36
  go_wp2_with fail
  (first | go_region_held3 (fun w' => w'.cell? ⟨w.heap.size, 0, none⟩ = some (.int .i64 p) ∧ w'.cell? ⟨w.heap.size, 1, none⟩ = some (.int .i64 s) ∧ w'.cell? ⟨w.heap.size, 2, none⟩ = some (.bool st) ∧ w'.cell? ⟨w.heap.size, 3, none⟩ = some (.bool sk) ∧ w'.cell? ⟨w.heap.size, 4, none⟩ = some (.bool re) ∧ w'.cell? ⟨w.heap.size, 5, none⟩ = some (.bool fe) ∧ w'.cell? ⟨w.heap.size, 6, none⟩ = some (.bool ag) ∧ w'.cell? ⟨w.heap.size, 7, none⟩ = some (.int .i64 c) ∧ w'.cell? ⟨w.heap.size, 8, none⟩ = some (.int .i64 sl) ∧ w'.cell? ⟨w.heap.size + 1, 0, none⟩ = some (.slice A n u) ∧ w'.cell? ⟨w.heap.size + 1, 1, none⟩ = some (.slice A' 2 u') ∧ w'.cell? ⟨w.heap.size + 1, 2, none⟩ = some (.int .i64 pl)) (first | (refine ⟨?_, ?_, ?_, ?_, ?_, ?_, ?_, ?_, ?_, ?_, ?_, ?_⟩ <;> assumption) | go_keep) (first | (go_at_call 79; refine (ValidPosition_is p s st sk re fe ag c sl _ _ _ _ _ _ xs xs' pl true e0 _ (by exact HH.out) (by exact HH'.out) hn).mono ?_; rintro e w1 ⟨rfl, hb1⟩; have hb1 := undrew hb1; have Y0 := P0.below hb1 P0.lt; have Y1 := P1.below hb1 P1.lt; obtain ⟨y0, y1, y2, y3, y4, y5, y6, y7, y8⟩ := Y0.flat; obtain ⟨y9, y10, y11⟩ := Y1.flat) | (go_at_call 80; refine (all_is _ _ _ _ _ _ xs xs' pl _ Z.out _ (by exact HH.out.sub hb1) (by exact HH'.out.sub hb1) hn (by omega)).mono ?_; rintro e w2 ⟨rfl, hb2⟩; have X0 := Y0.below hb2 Y0.lt; have X1 := Y1.below hb2 Y1.lt; obtain ⟨x0, x1, x2, x3, x4, x5, x6, x7, x8⟩ := X0.flat; obtain ⟨x9, x10, x11⟩ := X1.flat)) | fail)
  have b2 : Below w.heap.size w w2 := sub_step (sub_step hb2 hb1 rfl) hbW rfl
  go_wp2_with fail
  go_ret
  exact ⟨ret_b (by rw [WR.out]), b2⟩
end Go.Proofs.Ytjacmbgngbhcpaa
