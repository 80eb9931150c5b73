/-
  The seeds of a side: side, SideSeeds; whether a player must feed: MustFeed.
-/
import Derived.Test.YtjacmbgngbhcpaaSide
set_option linter.unusedSimpArgs false
set_option linter.unusedVariables false
namespace Go.Proofs.Ytjacmbgngbhcpaa
open Go.ChangeShapes Go.WideShapes Go.RowKit Go.Deep

theorem RuAt.drew1 {w : World} {b o : Nat} {r : Ru} (h : RuAt w b o r) (m : Nat) : RuAt (w.drewN m) b o r := h
/-- A part of a slice. -/
theorem Ints.cut {w : World} {B b off n c : Nat} {zs : List Int} (h : Ints w B (some ⟨b, off, none⟩) n c zs) (l j : Nat) (hj : l + j ≤ n) : Ints w B (some ⟨b, off + l, none⟩) j (c - l) ((zs.drop l).take j) := by
  have hlen := h.len
  refine ⟨by simp; omega, by have := h.2.1; omega, by have := h.2.2.1; omega, fun e => by (cases e), fun hp => ?_⟩
  obtain ⟨b', off', e, hb, hc⟩ := h.at_ (by omega)
  injection e with e
  injection e with e1 e2
  subst e1
  subst e2
  refine ⟨b, off + l, rfl, hb, fun i x hx => ?_⟩
  have hi : i < j := by
    have := (List.getElem?_eq_some_iff.1 hx).1
    simp at this
    omega
  rw [List.getElem?_take, if_pos hi, List.getElem?_drop] at hx
  have := hc (l + i) x hx
  rwa [← Nat.add_assoc] at this
theorem sideV_ok {xs : List Int} (h : okN xs = true) (p pl : Int) : sumV ((xs.drop (pl * p).toNat).take p.toNat) = sideV p xs pl := by
  simp [sumV, sideV, okN_take (okN_drop h _) _]
/-- What SideSeeds returns. -/
def sideR (r : Ru) (xs xs' : List Int) (pl q : Int) : Int × Int := if okP r xs xs' pl then (if inB q 0 1 then (sideV r.pits xs q, 0) else (0, 2)) else (0, 1)
/-- Whether the player to move must feed. -/
def feedP (r : Ru) (xs xs' : List Int) (pl : Int) : Bool := okP r xs xs' pl && (r.feed && (sideV r.pits xs (1 - pl) == 0))

set_option maxHeartbeats 400000 in
theorem side_any (p s : Int) (st sk re fe ag : Bool) (c sl : Int) (q : Int) (A : Option Addr) (n u : Nat) (zs : List Int) (w : World) (h : Ints w w.heap.size A n u zs) (hq : (n : Int) = 2 * p) (q0 : 2 ≤ p) (q1 : p ≤ 8) (hk : okN zs = true) (p0 : 0 ≤ q) (p1 : q ≤ 1) :
    Calls Try.prog 89 #[.agg #[.int .i64 p, .int .i64 s, .bool st, .bool sk, .bool re, .bool fe, .bool ag, .int .i64 c, .int .i64 sl], .slice A n u, .int .i64 q] w fun e w' => e = .returned (.int .i64 (sideV p zs q)) ∧ Below w.heap.size w w' := by
  obtain ⟨m, rfl⟩ : ∃ m : Nat, p = (m : Int) := ⟨p.toNat, by omega⟩
  obtain rfl : n = 2 * m := by omega
  have hu := h.2.1
  have hu2 := h.2.2.1
  obtain ⟨bb, off, rfl, -, -⟩ := h.at_ (by omega)
  have hv := Lib.hid (sideV_ok hk m q)
  have HH := Lib.hid h
  clear h hk
  rcases (show q = 0 ∨ q = 1 by omega) with rfl | rfl
  · clear p0 p1
    go_enter Try.func89, Try.ntmps89
    go_wp2_with fail
    refine (sumOf_any _ _ _ _ ((zs.drop 0).take m) _ (by exact (HH.out.sub (by repeat (first | with_reducible exact Below.refl _ _ | with_reducible assumption | with_reducible refine sub_alloc ?_ _ | (with_reducible refine sub_setCell2 ?_ ?_ _; (focus (first | (simp; done) | (simp <;> omega)))) | with_reducible refine sub_drew ?_ | with_reducible refine below_drewN ?_ _ | with_reducible refine sub_step (by assumption) ?_ (by first | rfl | (simp; done)) | exact Below.refl _ _ | assumption | refine sub_alloc ?_ _ | refine sub_setCell ?_ (by simp <;> omega) _ | refine sub_drew ?_ | refine below_drewN ?_ _ | refine sub_step (by assumption) ?_ (by first | rfl | (simp; done))))).cut 0 m (by omega)) (by omega)).mono ?_
    rintro e w1 ⟨rfl, m1, rfl⟩
    go_wp2_with fail
    go_ret
    exact ⟨by rw [← hv.out]; simp, (by repeat (first | with_reducible exact Below.refl _ _ | with_reducible assumption | with_reducible refine sub_alloc ?_ _ | (with_reducible refine sub_setCell2 ?_ ?_ _; (focus (first | (simp; done) | (simp <;> omega)))) | with_reducible refine sub_drew ?_ | with_reducible refine below_drewN ?_ _ | with_reducible refine sub_step (by assumption) ?_ (by first | rfl | (simp; done)) | exact Below.refl _ _ | assumption | refine sub_alloc ?_ _ | refine sub_setCell ?_ (by simp <;> omega) _ | refine sub_drew ?_ | refine below_drewN ?_ _ | refine sub_step (by assumption) ?_ (by first | rfl | (simp; done))))⟩
  · clear p0 p1
    go_enter Try.func89, Try.ntmps89
    go_wp2_with fail
    refine (sumOf_any _ _ _ _ ((zs.drop m).take m) _ (by rw [show 2 * m - m = m by omega]; exact (HH.out.sub (by repeat (first | with_reducible exact Below.refl _ _ | with_reducible assumption | with_reducible refine sub_alloc ?_ _ | (with_reducible refine sub_setCell2 ?_ ?_ _; (focus (first | (simp; done) | (simp <;> omega)))) | with_reducible refine sub_drew ?_ | with_reducible refine below_drewN ?_ _ | with_reducible refine sub_step (by assumption) ?_ (by first | rfl | (simp; done)) | exact Below.refl _ _ | assumption | refine sub_alloc ?_ _ | refine sub_setCell ?_ (by simp <;> omega) _ | refine sub_drew ?_ | refine below_drewN ?_ _ | refine sub_step (by assumption) ?_ (by first | rfl | (simp; done))))).cut m m (by omega)) (by omega)).mono ?_
    rintro e w1 ⟨rfl, m1, rfl⟩
    go_wp2_with fail
    go_ret
    exact ⟨by rw [← hv.out]; simp, (by repeat (first | with_reducible exact Below.refl _ _ | with_reducible assumption | with_reducible refine sub_alloc ?_ _ | (with_reducible refine sub_setCell2 ?_ ?_ _; (focus (first | (simp; done) | (simp <;> omega)))) | with_reducible refine sub_drew ?_ | with_reducible refine below_drewN ?_ _ | with_reducible refine sub_step (by assumption) ?_ (by first | rfl | (simp; done)) | exact Below.refl _ _ | assumption | refine sub_alloc ?_ _ | refine sub_setCell ?_ (by simp <;> omega) _ | refine sub_drew ?_ | refine below_drewN ?_ _ | refine sub_step (by assumption) ?_ (by first | rfl | (simp; done))))⟩

set_option maxHeartbeats 1000000 in
theorem specSideSeeds_any (p s : Int) (st sk re fe ag : Bool) (c sl : Int) (A A' : Option Addr) (n u n' u' : Nat) (xs xs' : List Int) (pl : Int) (q : Int) (w : World) (h : Ints w w.heap.size A n u xs) (h' : Ints w w.heap.size A' n' u' xs') (hn : n ≤ 4294967296) :
    Calls Try.prog 41 #[.agg #[.int .i64 p, .int .i64 s, .bool st, .bool sk, .bool re, .bool fe, .bool ag, .int .i64 c, .int .i64 sl], .agg #[.slice A n u, .slice A' n' u', .int .i64 pl], .int .i64 q] w fun e w' => e = .returned (.tuple #[.int .i64 (sideR ⟨p, s, st, sk, re, fe, ag, c, sl⟩ xs xs' pl q).1, .int .i64 (sideR ⟨p, s, st, sk, re, fe, ag, c, sl⟩ xs xs' pl q).2]) ∧ Below w.heap.size w w' := by
  have HL := Lib.hid h.len
  have HL' := Lib.hid h'.len
  have HH := Lib.hid h
  have HH' := Lib.hid h'
  have P0 := Lib.hid ((RuAt.box w 38 p s st sk re fe ag c sl).alloc (.cells #[.slice A n u, .slice A' n' u', .int .i64 pl] 35))
  have P1 := Lib.hid (PosAt.box (w.alloc (.cells #[.int .i64 p, .int .i64 s, .bool st, .bool sk, .bool re, .bool fe, .bool ag, .int .i64 c, .int .i64 sl] 38)) 35 A n u A' n' u' pl)
  clear h h'
  cases e0 : okP ⟨p, s, st, sk, re, fe, ag, c, sl⟩ xs xs' pl
  · go_enter Try.func41, Try.ntmps41
    go_wp2_with fail
    refine (l04Ok_any w.heap.size 0 (w.heap.size + 1) 0 ⟨p, s, st, sk, re, fe, ag, c, sl⟩ _ _ _ _ _ _ xs xs' pl _ (by exact P0.out) (by simpa using P1.out) (by exact HH.out.sub (by repeat (first | with_reducible exact Below.refl _ _ | with_reducible assumption | with_reducible refine sub_alloc ?_ _ | (with_reducible refine sub_setCell2 ?_ ?_ _; (focus (first | (simp; done) | (simp <;> omega)))) | with_reducible refine sub_drew ?_ | with_reducible refine below_drewN ?_ _ | with_reducible refine sub_step (by assumption) ?_ (by first | rfl | (simp; done)) | exact Below.refl _ _ | assumption | refine sub_alloc ?_ _ | refine sub_setCell ?_ (by simp <;> omega) _ | refine sub_drew ?_ | refine below_drewN ?_ _ | refine sub_step (by assumption) ?_ (by first | rfl | (simp; done))))) (by exact HH'.out.sub (by repeat (first | with_reducible exact Below.refl _ _ | with_reducible assumption | with_reducible refine sub_alloc ?_ _ | (with_reducible refine sub_setCell2 ?_ ?_ _; (focus (first | (simp; done) | (simp <;> omega)))) | with_reducible refine sub_drew ?_ | with_reducible refine below_drewN ?_ _ | with_reducible refine sub_step (by assumption) ?_ (by first | rfl | (simp; done)) | exact Below.refl _ _ | assumption | refine sub_alloc ?_ _ | refine sub_setCell ?_ (by simp <;> omega) _ | refine sub_drew ?_ | refine below_drewN ?_ _ | refine sub_step (by assumption) ?_ (by first | rfl | (simp; done))))) hn).mono ?_
    rintro e w1 ⟨rfl, m1, rfl⟩
    go_wp2_with fail
    go_ret2
    exact ⟨by simp [sideR, e0], (by repeat (first | with_reducible exact Below.refl _ _ | with_reducible assumption | with_reducible refine sub_alloc ?_ _ | (with_reducible refine sub_setCell2 ?_ ?_ _; (focus (first | (simp; done) | (simp <;> omega)))) | with_reducible refine sub_drew ?_ | with_reducible refine below_drewN ?_ _ | with_reducible refine sub_step (by assumption) ?_ (by first | rfl | (simp; done)) | exact Below.refl _ _ | assumption | refine sub_alloc ?_ _ | refine sub_setCell ?_ (by simp <;> omega) _ | refine sub_drew ?_ | refine below_drewN ?_ _ | refine sub_step (by assumption) ?_ (by first | rfl | (simp; done))))⟩
  obtain ⟨z0, z1, -, -, z4, -⟩ := okP_parts e0
  obtain ⟨hq0, hq1⟩ := okR_pits z0
  dsimp only at hq0 hq1 z1
  have Z4 := Lib.hid z4
  rw [HL.out] at z1
  clear z0 z4
  cases e1 : inB q 0 1
  · go_enter Try.func41, Try.ntmps41
    go_wp2_with fail
    refine (l04Ok_any w.heap.size 0 (w.heap.size + 1) 0 ⟨p, s, st, sk, re, fe, ag, c, sl⟩ _ _ _ _ _ _ xs xs' pl _ (by exact P0.out) (by simpa using P1.out) (by exact HH.out.sub (by repeat (first | with_reducible exact Below.refl _ _ | with_reducible assumption | with_reducible refine sub_alloc ?_ _ | (with_reducible refine sub_setCell2 ?_ ?_ _; (focus (first | (simp; done) | (simp <;> omega)))) | with_reducible refine sub_drew ?_ | with_reducible refine below_drewN ?_ _ | with_reducible refine sub_step (by assumption) ?_ (by first | rfl | (simp; done)) | exact Below.refl _ _ | assumption | refine sub_alloc ?_ _ | refine sub_setCell ?_ (by simp <;> omega) _ | refine sub_drew ?_ | refine below_drewN ?_ _ | refine sub_step (by assumption) ?_ (by first | rfl | (simp; done))))) (by exact HH'.out.sub (by repeat (first | with_reducible exact Below.refl _ _ | with_reducible assumption | with_reducible refine sub_alloc ?_ _ | (with_reducible refine sub_setCell2 ?_ ?_ _; (focus (first | (simp; done) | (simp <;> omega)))) | with_reducible refine sub_drew ?_ | with_reducible refine below_drewN ?_ _ | with_reducible refine sub_step (by assumption) ?_ (by first | rfl | (simp; done)) | exact Below.refl _ _ | assumption | refine sub_alloc ?_ _ | refine sub_setCell ?_ (by simp <;> omega) _ | refine sub_drew ?_ | refine below_drewN ?_ _ | refine sub_step (by assumption) ?_ (by first | rfl | (simp; done))))) hn).mono ?_
    rintro e w1 ⟨rfl, m1, rfl⟩
    have P2 := P0.out.drew1 m1
    have P3 := P1.out.drewN m1
    obtain ⟨c0, c1, c2, c3, c4, c5, c6, c7, c8⟩ := P2.flat
    obtain ⟨d0, d1, d2⟩ := P3.flat
    simp at d0 d1 d2
    go_wp2_with fail
    refine (l00In_any _ _ _ _).mono ?_
    rintro e w2 ⟨rfl, rfl⟩
    go_wp2_with fail
    go_ret2
    exact ⟨by simp [sideR, e0, e1], (by repeat (first | with_reducible exact Below.refl _ _ | with_reducible assumption | with_reducible refine sub_alloc ?_ _ | (with_reducible refine sub_setCell2 ?_ ?_ _; (focus (first | (simp; done) | (simp <;> omega)))) | with_reducible refine sub_drew ?_ | with_reducible refine below_drewN ?_ _ | with_reducible refine sub_step (by assumption) ?_ (by first | rfl | (simp; done)) | exact Below.refl _ _ | assumption | refine sub_alloc ?_ _ | refine sub_setCell ?_ (by simp <;> omega) _ | refine sub_drew ?_ | refine below_drewN ?_ _ | refine sub_step (by assumption) ?_ (by first | rfl | (simp; done))))⟩
  have hi := inB_t e1
  go_enter Try.func41, Try.ntmps41
  go_wp2_with fail
  refine (l04Ok_any w.heap.size 0 (w.heap.size + 1) 0 ⟨p, s, st, sk, re, fe, ag, c, sl⟩ _ _ _ _ _ _ xs xs' pl _ (by exact P0.out) (by simpa using P1.out) (by exact HH.out.sub (by repeat (first | with_reducible exact Below.refl _ _ | with_reducible assumption | with_reducible refine sub_alloc ?_ _ | (with_reducible refine sub_setCell2 ?_ ?_ _; (focus (first | (simp; done) | (simp <;> omega)))) | with_reducible refine sub_drew ?_ | with_reducible refine below_drewN ?_ _ | with_reducible refine sub_step (by assumption) ?_ (by first | rfl | (simp; done)) | exact Below.refl _ _ | assumption | refine sub_alloc ?_ _ | refine sub_setCell ?_ (by simp <;> omega) _ | refine sub_drew ?_ | refine below_drewN ?_ _ | refine sub_step (by assumption) ?_ (by first | rfl | (simp; done))))) (by exact HH'.out.sub (by repeat (first | with_reducible exact Below.refl _ _ | with_reducible assumption | with_reducible refine sub_alloc ?_ _ | (with_reducible refine sub_setCell2 ?_ ?_ _; (focus (first | (simp; done) | (simp <;> omega)))) | with_reducible refine sub_drew ?_ | with_reducible refine below_drewN ?_ _ | with_reducible refine sub_step (by assumption) ?_ (by first | rfl | (simp; done)) | exact Below.refl _ _ | assumption | refine sub_alloc ?_ _ | refine sub_setCell ?_ (by simp <;> omega) _ | refine sub_drew ?_ | refine below_drewN ?_ _ | refine sub_step (by assumption) ?_ (by first | rfl | (simp; done))))) hn).mono ?_
  rintro e w1 ⟨rfl, m1, rfl⟩
  have P2 := P0.out.drew1 m1
  have P3 := P1.out.drewN m1
  obtain ⟨c0, c1, c2, c3, c4, c5, c6, c7, c8⟩ := P2.flat
  obtain ⟨d0, d1, d2⟩ := P3.flat
  simp at d0 d1 d2
  go_wp2_with fail
  refine (l00In_any _ _ _ _).mono ?_
  rintro e w2 ⟨rfl, rfl⟩
  go_wp2_with fail
  refine (l04Side_any _ _ ⟨p, s, st, sk, re, fe, ag, c, sl⟩ _ _ _ _ _ xs _ (by exact P2) (by exact HH.out.sub (by repeat (first | with_reducible exact Below.refl _ _ | with_reducible assumption | with_reducible refine sub_alloc ?_ _ | (with_reducible refine sub_setCell2 ?_ ?_ _; (focus (first | (simp; done) | (simp <;> omega)))) | with_reducible refine sub_drew ?_ | with_reducible refine below_drewN ?_ _ | with_reducible refine sub_step (by assumption) ?_ (by first | rfl | (simp; done)) | exact Below.refl _ _ | assumption | refine sub_alloc ?_ _ | refine sub_setCell ?_ (by simp <;> omega) _ | refine sub_drew ?_ | refine below_drewN ?_ _ | refine sub_step (by assumption) ?_ (by first | rfl | (simp; done))))) (by dsimp only; omega) (by dsimp only; omega) (by dsimp only; omega) Z4.out hi.1 hi.2).mono ?_
  rintro e w2 ⟨rfl, m2, rfl⟩
  go_wp2_with fail
  go_ret2
  exact ⟨by simp [sideR, e0, e1], (by repeat (first | with_reducible exact Below.refl _ _ | with_reducible assumption | with_reducible refine sub_alloc ?_ _ | (with_reducible refine sub_setCell2 ?_ ?_ _; (focus (first | (simp; done) | (simp <;> omega)))) | with_reducible refine sub_drew ?_ | with_reducible refine below_drewN ?_ _ | with_reducible refine sub_step (by assumption) ?_ (by first | rfl | (simp; done)) | exact Below.refl _ _ | assumption | refine sub_alloc ?_ _ | refine sub_setCell ?_ (by simp <;> omega) _ | refine sub_drew ?_ | refine below_drewN ?_ _ | refine sub_step (by assumption) ?_ (by first | rfl | (simp; done))))⟩

set_option maxHeartbeats 1000000 in
theorem SideSeeds_any (p s : Int) (st sk re fe ag : Bool) (c sl : Int) (A A' : Option Addr) (n u n' u' : Nat) (xs xs' : List Int) (pl : Int) (q : Int) (w : World) (h : Ints w w.heap.size A n u xs) (h' : Ints w w.heap.size A' n' u' xs') (hn : n ≤ 4294967296) :
    Calls Try.prog 42 #[.agg #[.int .i64 p, .int .i64 s, .bool st, .bool sk, .bool re, .bool fe, .bool ag, .int .i64 c, .int .i64 sl], .agg #[.slice A n u, .slice A' n' u', .int .i64 pl], .int .i64 q] w fun e w' => e = .returned (.tuple #[.int .i64 (sideR ⟨p, s, st, sk, re, fe, ag, c, sl⟩ xs xs' pl q).1, .int .i64 (sideR ⟨p, s, st, sk, re, fe, ag, c, sl⟩ xs xs' pl q).2]) ∧ Below w.heap.size w w' := by
  have HL := Lib.hid h.len
  have HL' := Lib.hid h'.len
  have HH := Lib.hid h
  have HH' := Lib.hid h'
  have P0 := Lib.hid ((RuAt.box w 38 p s st sk re fe ag c sl).alloc (.cells #[.slice A n u, .slice A' n' u', .int .i64 pl] 35))
  have P1 := Lib.hid (PosAt.box (w.alloc (.cells #[.int .i64 p, .int .i64 s, .bool st, .bool sk, .bool re, .bool fe, .bool ag, .int .i64 c, .int .i64 sl] 38)) 35 A n u A' n' u' pl)
  clear h h'
  cases e0 : okP ⟨p, s, st, sk, re, fe, ag, c, sl⟩ xs xs' pl
  · go_enter Try.func42, Try.ntmps42
    go_wp2_with fail
    refine (ValidPosition_any p s st sk re fe ag c sl _ _ _ _ _ _ xs xs' pl _ (by exact HH.out.sub (by repeat (first | with_reducible exact Below.refl _ _ | with_reducible assumption | with_reducible refine sub_alloc ?_ _ | (with_reducible refine sub_setCell2 ?_ ?_ _; (focus (first | (simp; done) | (simp <;> omega)))) | with_reducible refine sub_drew ?_ | with_reducible refine below_drewN ?_ _ | with_reducible refine sub_step (by assumption) ?_ (by first | rfl | (simp; done)) | exact Below.refl _ _ | assumption | refine sub_alloc ?_ _ | refine sub_setCell ?_ (by simp <;> omega) _ | refine sub_drew ?_ | refine below_drewN ?_ _ | refine sub_step (by assumption) ?_ (by first | rfl | (simp; done))))) (by exact HH'.out.sub (by repeat (first | with_reducible exact Below.refl _ _ | with_reducible assumption | with_reducible refine sub_alloc ?_ _ | (with_reducible refine sub_setCell2 ?_ ?_ _; (focus (first | (simp; done) | (simp <;> omega)))) | with_reducible refine sub_drew ?_ | with_reducible refine below_drewN ?_ _ | with_reducible refine sub_step (by assumption) ?_ (by first | rfl | (simp; done)) | exact Below.refl _ _ | assumption | refine sub_alloc ?_ _ | refine sub_setCell ?_ (by simp <;> omega) _ | refine sub_drew ?_ | refine below_drewN ?_ _ | refine sub_step (by assumption) ?_ (by first | rfl | (simp; done))))) hn).mono ?_
    rintro e w1 ⟨rfl, hb1⟩
    go_wp2_with fail
    go_ret2
    exact ⟨by simp [sideR, e0], (by repeat (first | with_reducible exact Below.refl _ _ | with_reducible assumption | with_reducible refine sub_alloc ?_ _ | (with_reducible refine sub_setCell2 ?_ ?_ _; (focus (first | (simp; done) | (simp <;> omega)))) | with_reducible refine sub_drew ?_ | with_reducible refine below_drewN ?_ _ | with_reducible refine sub_step (by assumption) ?_ (by first | rfl | (simp; done)) | exact Below.refl _ _ | assumption | refine sub_alloc ?_ _ | refine sub_setCell ?_ (by simp <;> omega) _ | refine sub_drew ?_ | refine below_drewN ?_ _ | refine sub_step (by assumption) ?_ (by first | rfl | (simp; done))))⟩
  obtain ⟨z0, z1, -, -, z4, -⟩ := okP_parts e0
  obtain ⟨hq0, hq1⟩ := okR_pits z0
  dsimp only at hq0 hq1 z1
  have Z4 := Lib.hid z4
  rw [HL.out] at z1
  clear z0 z4
  cases e1 : inB q 0 1
  · go_enter Try.func42, Try.ntmps42
    go_wp2_with fail
    refine (ValidPosition_any p s st sk re fe ag c sl _ _ _ _ _ _ xs xs' pl _ (by exact HH.out.sub (by repeat (first | with_reducible exact Below.refl _ _ | with_reducible assumption | with_reducible refine sub_alloc ?_ _ | (with_reducible refine sub_setCell2 ?_ ?_ _; (focus (first | (simp; done) | (simp <;> omega)))) | with_reducible refine sub_drew ?_ | with_reducible refine below_drewN ?_ _ | with_reducible refine sub_step (by assumption) ?_ (by first | rfl | (simp; done)) | exact Below.refl _ _ | assumption | refine sub_alloc ?_ _ | refine sub_setCell ?_ (by simp <;> omega) _ | refine sub_drew ?_ | refine below_drewN ?_ _ | refine sub_step (by assumption) ?_ (by first | rfl | (simp; done))))) (by exact HH'.out.sub (by repeat (first | with_reducible exact Below.refl _ _ | with_reducible assumption | with_reducible refine sub_alloc ?_ _ | (with_reducible refine sub_setCell2 ?_ ?_ _; (focus (first | (simp; done) | (simp <;> omega)))) | with_reducible refine sub_drew ?_ | with_reducible refine below_drewN ?_ _ | with_reducible refine sub_step (by assumption) ?_ (by first | rfl | (simp; done)) | exact Below.refl _ _ | assumption | refine sub_alloc ?_ _ | refine sub_setCell ?_ (by simp <;> omega) _ | refine sub_drew ?_ | refine below_drewN ?_ _ | refine sub_step (by assumption) ?_ (by first | rfl | (simp; done))))) hn).mono ?_
    rintro e w1 ⟨rfl, hb1⟩
    have P2 := P0.out.below hb1 (by simp <;> omega)
    have P3 := P1.out.below hb1 (by simp <;> omega)
    obtain ⟨c0, c1, c2, c3, c4, c5, c6, c7, c8⟩ := P2.flat
    obtain ⟨d0, d1, d2⟩ := P3.flat
    simp at d0 d1 d2
    go_wp2_with fail
    refine (isPlayer_any _ _).mono ?_
    rintro e w2 ⟨rfl, rfl⟩
    go_wp2_with fail
    go_ret2
    exact ⟨by simp [sideR, e0, e1], (by repeat (first | with_reducible exact Below.refl _ _ | with_reducible assumption | with_reducible refine sub_alloc ?_ _ | (with_reducible refine sub_setCell2 ?_ ?_ _; (focus (first | (simp; done) | (simp <;> omega)))) | with_reducible refine sub_drew ?_ | with_reducible refine below_drewN ?_ _ | with_reducible refine sub_step (by assumption) ?_ (by first | rfl | (simp; done)) | exact Below.refl _ _ | assumption | refine sub_alloc ?_ _ | refine sub_setCell ?_ (by simp <;> omega) _ | refine sub_drew ?_ | refine below_drewN ?_ _ | refine sub_step (by assumption) ?_ (by first | rfl | (simp; done))))⟩
  have hi := inB_t e1
  go_enter Try.func42, Try.ntmps42
  go_wp2_with fail
  refine (ValidPosition_any p s st sk re fe ag c sl _ _ _ _ _ _ xs xs' pl _ (by exact HH.out.sub (by repeat (first | with_reducible exact Below.refl _ _ | with_reducible assumption | with_reducible refine sub_alloc ?_ _ | (with_reducible refine sub_setCell2 ?_ ?_ _; (focus (first | (simp; done) | (simp <;> omega)))) | with_reducible refine sub_drew ?_ | with_reducible refine below_drewN ?_ _ | with_reducible refine sub_step (by assumption) ?_ (by first | rfl | (simp; done)) | exact Below.refl _ _ | assumption | refine sub_alloc ?_ _ | refine sub_setCell ?_ (by simp <;> omega) _ | refine sub_drew ?_ | refine below_drewN ?_ _ | refine sub_step (by assumption) ?_ (by first | rfl | (simp; done))))) (by exact HH'.out.sub (by repeat (first | with_reducible exact Below.refl _ _ | with_reducible assumption | with_reducible refine sub_alloc ?_ _ | (with_reducible refine sub_setCell2 ?_ ?_ _; (focus (first | (simp; done) | (simp <;> omega)))) | with_reducible refine sub_drew ?_ | with_reducible refine below_drewN ?_ _ | with_reducible refine sub_step (by assumption) ?_ (by first | rfl | (simp; done)) | exact Below.refl _ _ | assumption | refine sub_alloc ?_ _ | refine sub_setCell ?_ (by simp <;> omega) _ | refine sub_drew ?_ | refine below_drewN ?_ _ | refine sub_step (by assumption) ?_ (by first | rfl | (simp; done))))) hn).mono ?_
  rintro e w1 ⟨rfl, hb1⟩
  have P2 := P0.out.below hb1 (by simp <;> omega)
  have P3 := P1.out.below hb1 (by simp <;> omega)
  obtain ⟨c0, c1, c2, c3, c4, c5, c6, c7, c8⟩ := P2.flat
  obtain ⟨d0, d1, d2⟩ := P3.flat
  simp at d0 d1 d2
  go_wp2_with fail
  refine (isPlayer_any _ _).mono ?_
  rintro e w2 ⟨rfl, rfl⟩
  go_wp2_with fail
  refine (side_any p s st sk re fe ag c sl _ _ _ _ xs _ (by exact HH.out.sub (by repeat (first | with_reducible exact Below.refl _ _ | with_reducible assumption | with_reducible refine sub_alloc ?_ _ | (with_reducible refine sub_setCell2 ?_ ?_ _; (focus (first | (simp; done) | (simp <;> omega)))) | with_reducible refine sub_drew ?_ | with_reducible refine below_drewN ?_ _ | with_reducible refine sub_step (by assumption) ?_ (by first | rfl | (simp; done)) | exact Below.refl _ _ | assumption | refine sub_alloc ?_ _ | refine sub_setCell ?_ (by simp <;> omega) _ | refine sub_drew ?_ | refine below_drewN ?_ _ | refine sub_step (by assumption) ?_ (by first | rfl | (simp; done))))) (by omega) (by omega) (by omega) Z4.out hi.1 hi.2).mono ?_
  rintro e w2 ⟨rfl, hb2⟩
  go_wp2_with fail
  go_ret2
  exact ⟨by simp [sideR, e0, e1], (by repeat (first | with_reducible exact Below.refl _ _ | with_reducible assumption | with_reducible refine sub_alloc ?_ _ | (with_reducible refine sub_setCell2 ?_ ?_ _; (focus (first | (simp; done) | (simp <;> omega)))) | with_reducible refine sub_drew ?_ | with_reducible refine below_drewN ?_ _ | with_reducible refine sub_step (by assumption) ?_ (by first | rfl | (simp; done)) | exact Below.refl _ _ | assumption | refine sub_alloc ?_ _ | refine sub_setCell ?_ (by simp <;> omega) _ | refine sub_drew ?_ | refine below_drewN ?_ _ | refine sub_step (by assumption) ?_ (by first | rfl | (simp; done))))⟩

set_option maxHeartbeats 1000000 in
theorem l07Feed_any (b o b2 o2 : Nat) (p s : Int) (st sk re fe ag : Bool) (c sl : Int) (A A' : Option Addr) (n u n' u' : Nat) (xs xs' : List Int) (pl : Int) (w : World) (hr : RuAt w b o ⟨p, s, st, sk, re, fe, ag, c, sl⟩) (hp : PosAt w b2 o2 A n u A' n' u' pl) (h : Ints w w.heap.size A n u xs) (hq : (n : Int) = 2 * p) (q0 : 2 ≤ p) (q1 : p ≤ 8) (hk : okN xs = true) (p0 : 0 ≤ pl) (p1 : pl ≤ 1) :
    Calls Try.prog 81 #[.pointer (some ⟨b, o, none⟩), .pointer (some ⟨b2, o2, none⟩)] w fun e w' => e = .returned (.bool (fe && (sideV p xs (1 - pl) == 0))) ∧ ∃ m, w' = w.drewN m := by
  have HR := Lib.hid hr
  have HH := Lib.hid h
  have HK := Lib.hid hk
  obtain ⟨-, -, -, -, -, c5, -⟩ := hr
  dsimp only at c5
  obtain ⟨d0, d1, d2⟩ := hp
  clear h hk
  cases fe
  · go_enter Try.func81, Try.ntmps81
    go_wp2_with fail
    go_quiet (fail)
    go_wp2_with fail
    go_ret
    exact ⟨rfl, _, rfl⟩
  · go_enter Try.func81, Try.ntmps81
    go_wp2_with fail
    go_quiet ((go_at_call 88; exact Calls.quiet_of (l04Side_any _ _ ⟨p, s, st, sk, re, true, ag, c, sl⟩ (1 - pl) _ _ _ _ xs _ HR.out (HH.out.drewN _) hq q0 q1 HK.out (by omega) (by omega))))
    go_wp2_with fail
    go_ret
    exact ⟨by simp, _, rfl⟩
set_option maxHeartbeats 1000000 in
theorem mustFeed_any (p s : Int) (st sk re fe ag : Bool) (c sl : Int) (A A' : Option Addr) (n u n' u' : Nat) (xs xs' : List Int) (pl : Int) (w : World) (h : Ints w w.heap.size A n u xs) (hq : (n : Int) = 2 * p) (q0 : 2 ≤ p) (q1 : p ≤ 8) (hk : okN xs = true) (p0 : 0 ≤ pl) (p1 : pl ≤ 1) :
    Calls Try.prog 82 #[.agg #[.int .i64 p, .int .i64 s, .bool st, .bool sk, .bool re, .bool fe, .bool ag, .int .i64 c, .int .i64 sl], .agg #[.slice A n u, .slice A' n' u', .int .i64 pl]] w fun e w' => e = .returned (.bool (fe && (sideV p xs (1 - pl) == 0))) ∧ Below w.heap.size w w' := by
  have HH := Lib.hid h
  have HK := Lib.hid hk
  clear h hk
  cases fe
  · go_enter Try.func82, Try.ntmps82
    go_wp2_with fail
    go_ret
    exact ⟨rfl, (by repeat (first | with_reducible exact Below.refl _ _ | with_reducible assumption | with_reducible refine sub_alloc ?_ _ | (with_reducible refine sub_setCell2 ?_ ?_ _; (focus (first | (simp; done) | (simp <;> omega)))) | with_reducible refine sub_drew ?_ | with_reducible refine below_drewN ?_ _ | with_reducible refine sub_step (by assumption) ?_ (by first | rfl | (simp; done)) | exact Below.refl _ _ | assumption | refine sub_alloc ?_ _ | refine sub_setCell ?_ (by simp <;> omega) _ | refine sub_drew ?_ | refine below_drewN ?_ _ | refine sub_step (by assumption) ?_ (by first | rfl | (simp; done))))⟩
  · go_enter Try.func82, Try.ntmps82
    go_wp2_with fail
    refine (side_any _ _ _ _ _ _ _ _ _ (1 - pl) _ _ _ xs _ (by exact HH.out.sub (by repeat (first | with_reducible exact Below.refl _ _ | with_reducible assumption | with_reducible refine sub_alloc ?_ _ | (with_reducible refine sub_setCell2 ?_ ?_ _; (focus (first | (simp; done) | (simp <;> omega)))) | with_reducible refine sub_drew ?_ | with_reducible refine below_drewN ?_ _ | with_reducible refine sub_step (by assumption) ?_ (by first | rfl | (simp; done)) | exact Below.refl _ _ | assumption | refine sub_alloc ?_ _ | refine sub_setCell ?_ (by simp <;> omega) _ | refine sub_drew ?_ | refine below_drewN ?_ _ | refine sub_step (by assumption) ?_ (by first | rfl | (simp; done))))) hq q0 q1 HK.out (by omega) (by omega)).mono ?_
    rintro e w1 ⟨rfl, hb1⟩
    go_wp2_with fail
    go_ret
    exact ⟨by simp, (by repeat (first | with_reducible exact Below.refl _ _ | with_reducible assumption | with_reducible refine sub_alloc ?_ _ | (with_reducible refine sub_setCell2 ?_ ?_ _; (focus (first | (simp; done) | (simp <;> omega)))) | with_reducible refine sub_drew ?_ | with_reducible refine below_drewN ?_ _ | with_reducible refine sub_step (by assumption) ?_ (by first | rfl | (simp; done)) | exact Below.refl _ _ | assumption | refine sub_alloc ?_ _ | refine sub_setCell ?_ (by simp <;> omega) _ | refine sub_drew ?_ | refine below_drewN ?_ _ | refine sub_step (by assumption) ?_ (by first | rfl | (simp; done))))⟩

set_option maxHeartbeats 1000000 in
theorem specMustFeed_any (p s : Int) (st sk re fe ag : Bool) (c sl : Int) (A A' : Option Addr) (n u n' u' : Nat) (xs xs' : List Int) (pl : Int) (w : World) (h : Ints w w.heap.size A n u xs) (h' : Ints w w.heap.size A' n' u' xs') (hn : n ≤ 4294967296) :
    Calls Try.prog 37 #[.agg #[.int .i64 p, .int .i64 s, .bool st, .bool sk, .bool re, .bool fe, .bool ag, .int .i64 c, .int .i64 sl], .agg #[.slice A n u, .slice A' n' u', .int .i64 pl]] w fun e w' => e = .returned (.bool (feedP ⟨p, s, st, sk, re, fe, ag, c, sl⟩ xs xs' pl)) ∧ Below w.heap.size w w' := by
  have HL := Lib.hid h.len
  have HL' := Lib.hid h'.len
  have HH := Lib.hid h
  have HH' := Lib.hid h'
  have P0 := Lib.hid ((RuAt.box w 38 p s st sk re fe ag c sl).alloc (.cells #[.slice A n u, .slice A' n' u', .int .i64 pl] 35))
  have P1 := Lib.hid (PosAt.box (w.alloc (.cells #[.int .i64 p, .int .i64 s, .bool st, .bool sk, .bool re, .bool fe, .bool ag, .int .i64 c, .int .i64 sl] 38)) 35 A n u A' n' u' pl)
  clear h h'
  cases e0 : okP ⟨p, s, st, sk, re, fe, ag, c, sl⟩ xs xs' pl
  · go_enter Try.func37, Try.ntmps37
    go_wp2_with fail
    refine (l04Ok_any w.heap.size 0 (w.heap.size + 1) 0 ⟨p, s, st, sk, re, fe, ag, c, sl⟩ _ _ _ _ _ _ xs xs' pl _ (by exact P0.out) (by simpa using P1.out) (by exact HH.out.sub (by repeat (first | with_reducible exact Below.refl _ _ | with_reducible assumption | with_reducible refine sub_alloc ?_ _ | (with_reducible refine sub_setCell2 ?_ ?_ _; (focus (first | (simp; done) | (simp <;> omega)))) | with_reducible refine sub_drew ?_ | with_reducible refine below_drewN ?_ _ | with_reducible refine sub_step (by assumption) ?_ (by first | rfl | (simp; done)) | exact Below.refl _ _ | assumption | refine sub_alloc ?_ _ | refine sub_setCell ?_ (by simp <;> omega) _ | refine sub_drew ?_ | refine below_drewN ?_ _ | refine sub_step (by assumption) ?_ (by first | rfl | (simp; done))))) (by exact HH'.out.sub (by repeat (first | with_reducible exact Below.refl _ _ | with_reducible assumption | with_reducible refine sub_alloc ?_ _ | (with_reducible refine sub_setCell2 ?_ ?_ _; (focus (first | (simp; done) | (simp <;> omega)))) | with_reducible refine sub_drew ?_ | with_reducible refine below_drewN ?_ _ | with_reducible refine sub_step (by assumption) ?_ (by first | rfl | (simp; done)) | exact Below.refl _ _ | assumption | refine sub_alloc ?_ _ | refine sub_setCell ?_ (by simp <;> omega) _ | refine sub_drew ?_ | refine below_drewN ?_ _ | refine sub_step (by assumption) ?_ (by first | rfl | (simp; done))))) hn).mono ?_
    rintro e w1 ⟨rfl, m1, rfl⟩
    go_wp2_with fail
    go_ret
    exact ⟨ret_b (by simp [feedP, e0]), (by repeat (first | with_reducible exact Below.refl _ _ | with_reducible assumption | with_reducible refine sub_alloc ?_ _ | (with_reducible refine sub_setCell2 ?_ ?_ _; (focus (first | (simp; done) | (simp <;> omega)))) | with_reducible refine sub_drew ?_ | with_reducible refine below_drewN ?_ _ | with_reducible refine sub_step (by assumption) ?_ (by first | rfl | (simp; done)) | exact Below.refl _ _ | assumption | refine sub_alloc ?_ _ | refine sub_setCell ?_ (by simp <;> omega) _ | refine sub_drew ?_ | refine below_drewN ?_ _ | refine sub_step (by assumption) ?_ (by first | rfl | (simp; done))))⟩
  obtain ⟨z0, z1, -, ⟨h0, h1⟩, z4, -⟩ := okP_parts e0
  obtain ⟨hq0, hq1⟩ := okR_pits z0
  dsimp only at hq0 hq1 z1
  have Z4 := Lib.hid z4
  rw [HL.out] at z1
  clear z0 z4
  go_enter Try.func37, Try.ntmps37
  go_wp2_with fail
  refine (l04Ok_any w.heap.size 0 (w.heap.size + 1) 0 ⟨p, s, st, sk, re, fe, ag, c, sl⟩ _ _ _ _ _ _ xs xs' pl _ (by exact P0.out) (by simpa using P1.out) (by exact HH.out.sub (by repeat (first | with_reducible exact Below.refl _ _ | with_reducible assumption | with_reducible refine sub_alloc ?_ _ | (with_reducible refine sub_setCell2 ?_ ?_ _; (focus (first | (simp; done) | (simp <;> omega)))) | with_reducible refine sub_drew ?_ | with_reducible refine below_drewN ?_ _ | with_reducible refine sub_step (by assumption) ?_ (by first | rfl | (simp; done)) | exact Below.refl _ _ | assumption | refine sub_alloc ?_ _ | refine sub_setCell ?_ (by simp <;> omega) _ | refine sub_drew ?_ | refine below_drewN ?_ _ | refine sub_step (by assumption) ?_ (by first | rfl | (simp; done))))) (by exact HH'.out.sub (by repeat (first | with_reducible exact Below.refl _ _ | with_reducible assumption | with_reducible refine sub_alloc ?_ _ | (with_reducible refine sub_setCell2 ?_ ?_ _; (focus (first | (simp; done) | (simp <;> omega)))) | with_reducible refine sub_drew ?_ | with_reducible refine below_drewN ?_ _ | with_reducible refine sub_step (by assumption) ?_ (by first | rfl | (simp; done)) | exact Below.refl _ _ | assumption | refine sub_alloc ?_ _ | refine sub_setCell ?_ (by simp <;> omega) _ | refine sub_drew ?_ | refine below_drewN ?_ _ | refine sub_step (by assumption) ?_ (by first | rfl | (simp; done))))) hn).mono ?_
  rintro e w1 ⟨rfl, m1, rfl⟩
  have P2 := P0.out.drew1 m1
  have P3 := P1.out.drewN m1
  obtain ⟨c0, c1, c2, c3, c4, c5, c6, c7, c8⟩ := P2.flat
  obtain ⟨d0, d1, d2⟩ := P3.flat
  simp at d0 d1 d2
  go_wp2_with fail
  refine (l07Feed_any _ _ _ _ p s st sk re fe ag c sl _ _ _ _ _ _ xs xs' pl _ (by exact P2) (by simpa using P3) (by exact HH.out.sub (by repeat (first | with_reducible exact Below.refl _ _ | with_reducible assumption | with_reducible refine sub_alloc ?_ _ | (with_reducible refine sub_setCell2 ?_ ?_ _; (focus (first | (simp; done) | (simp <;> omega)))) | with_reducible refine sub_drew ?_ | with_reducible refine below_drewN ?_ _ | with_reducible refine sub_step (by assumption) ?_ (by first | rfl | (simp; done)) | exact Below.refl _ _ | assumption | refine sub_alloc ?_ _ | refine sub_setCell ?_ (by simp <;> omega) _ | refine sub_drew ?_ | refine below_drewN ?_ _ | refine sub_step (by assumption) ?_ (by first | rfl | (simp; done))))) (by omega) (by omega) (by omega) Z4.out h0 h1).mono ?_
  rintro e w2 ⟨rfl, m2, rfl⟩
  go_wp2_with fail
  go_ret
  exact ⟨ret_b (by simp [feedP, e0]), (by repeat (first | with_reducible exact Below.refl _ _ | with_reducible assumption | with_reducible refine sub_alloc ?_ _ | (with_reducible refine sub_setCell2 ?_ ?_ _; (focus (first | (simp; done) | (simp <;> omega)))) | with_reducible refine sub_drew ?_ | with_reducible refine below_drewN ?_ _ | with_reducible refine sub_step (by assumption) ?_ (by first | rfl | (simp; done)) | exact Below.refl _ _ | assumption | refine sub_alloc ?_ _ | refine sub_setCell ?_ (by simp <;> omega) _ | refine sub_drew ?_ | refine below_drewN ?_ _ | refine sub_step (by assumption) ?_ (by first | rfl | (simp; done))))⟩

set_option maxHeartbeats 1000000 in
theorem MustFeed_any (p s : Int) (st sk re fe ag : Bool) (c sl : Int) (A A' : Option Addr) (n u n' u' : Nat) (xs xs' : List Int) (pl : Int) (w : World) (h : Ints w w.heap.size A n u xs) (h' : Ints w w.heap.size A' n' u' xs') (hn : n ≤ 4294967296) :
    Calls Try.prog 38 #[.agg #[.int .i64 p, .int .i64 s, .bool st, .bool sk, .bool re, .bool fe, .bool ag, .int .i64 c, .int .i64 sl], .agg #[.slice A n u, .slice A' n' u', .int .i64 pl]] w fun e w' => e = .returned (.bool (feedP ⟨p, s, st, sk, re, fe, ag, c, sl⟩ xs xs' pl)) ∧ Below w.heap.size w w' := by
  have HL := Lib.hid h.len
  have HL' := Lib.hid h'.len
  have HH := Lib.hid h
  have HH' := Lib.hid h'
  have P0 := Lib.hid ((RuAt.box w 38 p s st sk re fe ag c sl).alloc (.cells #[.slice A n u, .slice A' n' u', .int .i64 pl] 35))
  have P1 := Lib.hid (PosAt.box (w.alloc (.cells #[.int .i64 p, .int .i64 s, .bool st, .bool sk, .bool re, .bool fe, .bool ag, .int .i64 c, .int .i64 sl] 38)) 35 A n u A' n' u' pl)
  clear h h'
  cases e0 : okP ⟨p, s, st, sk, re, fe, ag, c, sl⟩ xs xs' pl
  · go_enter Try.func38, Try.ntmps38
    go_wp2_with fail
    refine (ValidPosition_any p s st sk re fe ag c sl _ _ _ _ _ _ xs xs' pl _ (by exact HH.out.sub (by repeat (first | with_reducible exact Below.refl _ _ | with_reducible assumption | with_reducible refine sub_alloc ?_ _ | (with_reducible refine sub_setCell2 ?_ ?_ _; (focus (first | (simp; done) | (simp <;> omega)))) | with_reducible refine sub_drew ?_ | with_reducible refine below_drewN ?_ _ | with_reducible refine sub_step (by assumption) ?_ (by first | rfl | (simp; done)) | exact Below.refl _ _ | assumption | refine sub_alloc ?_ _ | refine sub_setCell ?_ (by simp <;> omega) _ | refine sub_drew ?_ | refine below_drewN ?_ _ | refine sub_step (by assumption) ?_ (by first | rfl | (simp; done))))) (by exact HH'.out.sub (by repeat (first | with_reducible exact Below.refl _ _ | with_reducible assumption | with_reducible refine sub_alloc ?_ _ | (with_reducible refine sub_setCell2 ?_ ?_ _; (focus (first | (simp; done) | (simp <;> omega)))) | with_reducible refine sub_drew ?_ | with_reducible refine below_drewN ?_ _ | with_reducible refine sub_step (by assumption) ?_ (by first | rfl | (simp; done)) | exact Below.refl _ _ | assumption | refine sub_alloc ?_ _ | refine sub_setCell ?_ (by simp <;> omega) _ | refine sub_drew ?_ | refine below_drewN ?_ _ | refine sub_step (by assumption) ?_ (by first | rfl | (simp; done))))) hn).mono ?_
    rintro e w1 ⟨rfl, hb1⟩
    go_wp2_with fail
    go_ret
    exact ⟨ret_b (by simp [feedP, e0]), (by repeat (first | with_reducible exact Below.refl _ _ | with_reducible assumption | with_reducible refine sub_alloc ?_ _ | (with_reducible refine sub_setCell2 ?_ ?_ _; (focus (first | (simp; done) | (simp <;> omega)))) | with_reducible refine sub_drew ?_ | with_reducible refine below_drewN ?_ _ | with_reducible refine sub_step (by assumption) ?_ (by first | rfl | (simp; done)) | exact Below.refl _ _ | assumption | refine sub_alloc ?_ _ | refine sub_setCell ?_ (by simp <;> omega) _ | refine sub_drew ?_ | refine below_drewN ?_ _ | refine sub_step (by assumption) ?_ (by first | rfl | (simp; done))))⟩
  obtain ⟨z0, z1, -, ⟨h0, h1⟩, z4, -⟩ := okP_parts e0
  obtain ⟨hq0, hq1⟩ := okR_pits z0
  dsimp only at hq0 hq1 z1
  have Z4 := Lib.hid z4
  rw [HL.out] at z1
  clear z0 z4
  go_enter Try.func38, Try.ntmps38
  go_wp2_with fail
  refine (ValidPosition_any p s st sk re fe ag c sl _ _ _ _ _ _ xs xs' pl _ (by exact HH.out.sub (by repeat (first | with_reducible exact Below.refl _ _ | with_reducible assumption | with_reducible refine sub_alloc ?_ _ | (with_reducible refine sub_setCell2 ?_ ?_ _; (focus (first | (simp; done) | (simp <;> omega)))) | with_reducible refine sub_drew ?_ | with_reducible refine below_drewN ?_ _ | with_reducible refine sub_step (by assumption) ?_ (by first | rfl | (simp; done)) | exact Below.refl _ _ | assumption | refine sub_alloc ?_ _ | refine sub_setCell ?_ (by simp <;> omega) _ | refine sub_drew ?_ | refine below_drewN ?_ _ | refine sub_step (by assumption) ?_ (by first | rfl | (simp; done))))) (by exact HH'.out.sub (by repeat (first | with_reducible exact Below.refl _ _ | with_reducible assumption | with_reducible refine sub_alloc ?_ _ | (with_reducible refine sub_setCell2 ?_ ?_ _; (focus (first | (simp; done) | (simp <;> omega)))) | with_reducible refine sub_drew ?_ | with_reducible refine below_drewN ?_ _ | with_reducible refine sub_step (by assumption) ?_ (by first | rfl | (simp; done)) | exact Below.refl _ _ | assumption | refine sub_alloc ?_ _ | refine sub_setCell ?_ (by simp <;> omega) _ | refine sub_drew ?_ | refine below_drewN ?_ _ | refine sub_step (by assumption) ?_ (by first | rfl | (simp; done))))) hn).mono ?_
  rintro e w1 ⟨rfl, hb1⟩
  have P2 := P0.out.below hb1 (by simp <;> omega)
  have P3 := P1.out.below hb1 (by simp <;> omega)
  obtain ⟨c0, c1, c2, c3, c4, c5, c6, c7, c8⟩ := P2.flat
  obtain ⟨d0, d1, d2⟩ := P3.flat
  simp at d0 d1 d2
  go_wp2_with fail
  refine (mustFeed_any p s st sk re fe ag c sl _ _ _ _ _ _ xs xs' pl _ (by exact HH.out.sub (by repeat (first | with_reducible exact Below.refl _ _ | with_reducible assumption | with_reducible refine sub_alloc ?_ _ | (with_reducible refine sub_setCell2 ?_ ?_ _; (focus (first | (simp; done) | (simp <;> omega)))) | with_reducible refine sub_drew ?_ | with_reducible refine below_drewN ?_ _ | with_reducible refine sub_step (by assumption) ?_ (by first | rfl | (simp; done)) | exact Below.refl _ _ | assumption | refine sub_alloc ?_ _ | refine sub_setCell ?_ (by simp <;> omega) _ | refine sub_drew ?_ | refine below_drewN ?_ _ | refine sub_step (by assumption) ?_ (by first | rfl | (simp; done))))) (by omega) (by omega) (by omega) Z4.out h0 h1).mono ?_
  rintro e w2 ⟨rfl, hb2⟩
  go_wp2_with fail
  go_ret
  exact ⟨ret_b (by simp [feedP, e0]), (by repeat (first | with_reducible exact Below.refl _ _ | with_reducible assumption | with_reducible refine sub_alloc ?_ _ | (with_reducible refine sub_setCell2 ?_ ?_ _; (focus (first | (simp; done) | (simp <;> omega)))) | with_reducible refine sub_drew ?_ | with_reducible refine below_drewN ?_ _ | with_reducible refine sub_step (by assumption) ?_ (by first | rfl | (simp; done)) | exact Below.refl _ _ | assumption | refine sub_alloc ?_ _ | refine sub_setCell ?_ (by simp <;> omega) _ | refine sub_drew ?_ | refine below_drewN ?_ _ | refine sub_step (by assumption) ?_ (by first | rfl | (simp; done))))⟩
end Go.Proofs.Ytjacmbgngbhcpaa
