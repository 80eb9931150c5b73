/-
  The seeds of a side: side, SideSeeds; whether a player must feed: MustFeed.
-/
import Derived.Test.YtnanaldolnehiaaSide
set_option linter.unusedSimpArgs false
set_option linter.unusedVariables false
namespace Go.Proofs.Ytnanaldolnehiaa
open Go.ChangeShapes Go.WideShapes Go.RowKit Go.Deep

theorem RuAt.drew1 {w : World} {b o : Nat} {r : Ru} (h : RuAt w b o r) (m : Nat) : RuAt (w.drewN m) b o r := h
/-- A part of a slice. -/
theorem Ints.cut {w : World} {B b off n c : Nat} {zs : List Int} (h : Ints w B (some ⟨b, off, none⟩) n c zs) (l j : Nat) (hj : l + j ≤ n) : Ints w B (some ⟨b, off + l, none⟩) j (c - l) ((zs.drop l).take j) := by
  have hlen := h.len
  refine ⟨by simp; omega, by have := h.2.1; omega, by have := h.2.2.1; omega, fun e => by (cases e), fun hp => ?_⟩
  obtain ⟨b', off', e, hb, hc⟩ := h.at_ (by omega)
  injection e with e
  injection e with e1 e2
  subst e1
  subst e2
  refine ⟨b, off + l, rfl, hb, fun i x hx => ?_⟩
  have hi : i < j := by
    have := (List.getElem?_eq_some_iff.1 hx).1
    simp at this
    omega
  rw [List.getElem?_take, if_pos hi, List.getElem?_drop] at hx
  have := hc (l + i) x hx
  rwa [← Nat.add_assoc] at this
theorem sideV_ok {xs : List Int} (h : okN xs = true) (p pl : Int) : sumV ((xs.drop (pl * p).toNat).take p.toNat) = sideV p xs pl := by
  simp [sumV, sideV, okN_take (okN_drop h _) _]
/-- What SideSeeds returns. -/
def sideR (r : Ru) (xs xs' : List Int) (pl q : Int) : Int × Int := if okP r xs xs' pl then (if inB q 0 1 then (sideV r.pits xs q, 0) else (0, 2)) else (0, 1)
/-- Whether the player to move must feed. -/
def feedP (r : Ru) (xs xs' : List Int) (pl : Int) : Bool := okP r xs xs' pl && (r.feed && (sideV r.pits xs (1 - pl) == 0))

set_option maxHeartbeats 400000 in
theorem side_any (p s : Int) (st sk re fe ag : Bool) (c sl : Int) (q : Int) (A : Option Addr) (n u : Nat) (zs : List Int) (w : World) (h : Ints w w.heap.size A n u zs) (hq : (n : Int) = 2 * p) (q0 : 2 ≤ p) (q1 : p ≤ 8) (hk : okN zs = true) (p0 : 0 ≤ q) (p1 : q ≤ 1) :
    Calls Try.prog 156 #[.agg #[.int .i64 p, .int .i64 s, .bool st, .bool sk, .bool re, .bool fe, .bool ag, .int .i64 c, .int .i64 sl], .slice A n u, .int .i64 q] w fun e w' => e = .returned (.int .i64 (sideV p zs q)) ∧ Below w.heap.size w w' := by
  obtain ⟨m, rfl⟩ : ∃ m : Nat, p = (m : Int) := ⟨p.toNat, by omega⟩
  obtain rfl : n = 2 * m := by omega
  have hu := h.2.1
  have hu2 := h.2.2.1
  obtain ⟨bb, off, rfl, -, -⟩ := h.at_ (by omega)
  have hv := Lib.hid (sideV_ok hk m q)
  have HH := Lib.hid h
  clear h hk
  rcases (show q = 0 ∨ q = 1 by omega) with rfl | rfl
  · clear p0 p1
    go_enter Try.func156, Try.ntmps156
    go_wp2_with fail
    refine (sumOf_any _ _ _ _ ((zs.drop 0).take m) _ (by exact (HH.out.sub (by repeat (first | with_reducible exact Below.refl _ _ | with_reducible assumption | with_reducible refine sub_alloc ?_ _ | (with_reducible refine sub_setCell2 ?_ ?_ _; (focus (first | (simp; done) | (simp <;> omega)))) | with_reducible refine sub_drew ?_ | with_reducible refine below_drewN ?_ _ | with_reducible refine sub_step (by assumption) ?_ (by first | rfl | (simp; done)) | exact Below.refl _ _ | assumption | refine sub_alloc ?_ _ | refine sub_setCell ?_ (by simp <;> omega) _ | refine sub_drew ?_ | refine below_drewN ?_ _ | refine sub_step (by assumption) ?_ (by first | rfl | (simp; done))))).cut 0 m (by omega)) (by omega)).mono ?_
    rintro e w1 ⟨rfl, m1, rfl⟩
    go_wp2_with fail
    go_ret
    exact ⟨by rw [← hv.out]; simp, (by repeat (first | with_reducible exact Below.refl _ _ | with_reducible assumption | with_reducible refine sub_alloc ?_ _ | (with_reducible refine sub_setCell2 ?_ ?_ _; (focus (first | (simp; done) | (simp <;> omega)))) | with_reducible refine sub_drew ?_ | with_reducible refine below_drewN ?_ _ | with_reducible refine sub_step (by assumption) ?_ (by first | rfl | (simp; done)) | exact Below.refl _ _ | assumption | refine sub_alloc ?_ _ | refine sub_setCell ?_ (by simp <;> omega) _ | refine sub_drew ?_ | refine below_drewN ?_ _ | refine sub_step (by assumption) ?_ (by first | rfl | (simp; done))))⟩
  · clear p0 p1
    go_enter Try.func156, Try.ntmps156
    go_wp2_with fail
    refine (sumOf_any _ _ _ _ ((zs.drop m).take m) _ (by rw [show 2 * m - m = m by omega]; exact (HH.out.sub (by repeat (first | with_reducible exact Below.refl _ _ | with_reducible assumption | with_reducible refine sub_alloc ?_ _ | (with_reducible refine sub_setCell2 ?_ ?_ _; (focus (first | (simp; done) | (simp <;> omega)))) | with_reducible refine sub_drew ?_ | with_reducible refine below_drewN ?_ _ | with_reducible refine sub_step (by assumption) ?_ (by first | rfl | (simp; done)) | exact Below.refl _ _ | assumption | refine sub_alloc ?_ _ | refine sub_setCell ?_ (by simp <;> omega) _ | refine sub_drew ?_ | refine below_drewN ?_ _ | refine sub_step (by assumption) ?_ (by first | rfl | (simp; done))))).cut m m (by omega)) (by omega)).mono ?_
    rintro e w1 ⟨rfl, m1, rfl⟩
    go_wp2_with fail
    go_ret
    exact ⟨by rw [← hv.out]; simp, (by repeat (first | with_reducible exact Below.refl _ _ | with_reducible assumption | with_reducible refine sub_alloc ?_ _ | (with_reducible refine sub_setCell2 ?_ ?_ _; (focus (first | (simp; done) | (simp <;> omega)))) | with_reducible refine sub_drew ?_ | with_reducible refine below_drewN ?_ _ | with_reducible refine sub_step (by assumption) ?_ (by first | rfl | (simp; done)) | exact Below.refl _ _ | assumption | refine sub_alloc ?_ _ | refine sub_setCell ?_ (by simp <;> omega) _ | refine sub_drew ?_ | refine below_drewN ?_ _ | refine sub_step (by assumption) ?_ (by first | rfl | (simp; done))))⟩





end Go.Proofs.Ytnanaldolnehiaa
