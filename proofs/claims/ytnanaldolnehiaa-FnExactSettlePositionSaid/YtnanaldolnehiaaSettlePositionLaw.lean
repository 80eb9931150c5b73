/-
  The law FnExactSettlePosition, walked.
-/
import Derived.Test.YtnanaldolnehiaaSettleTop
import Derived.Test.YtnanaldolnehiaaOwnKit
import Derived.Deep.CutRange
import Derived.Outline
set_option linter.unusedSimpArgs false
set_option linter.unusedVariables false
namespace Go.Proofs.Ytnanaldolnehiaa
open Go.ChangeShapes Go.WideShapes Go.RowKit Go.Deep

theorem specSettlePosition_is (p s : Int) (st sk re fe ag : Bool) (c sl : Int) (A A' : Option Addr) (n u n' u' : Nat) (zs1 zs1' : List Int) (pl1 : Int) (vx vy : List Int) (vp vc : Int) (e1 : seX (okP ⟨p, s, st, sk, re, fe, ag, c, sl⟩ zs1 zs1' pl1) zs1 = vx) (e2 : seY (okP ⟨p, s, st, sk, re, fe, ag, c, sl⟩ zs1 zs1' pl1) p zs1 zs1' = vy) (e3 : seP (okP ⟨p, s, st, sk, re, fe, ag, c, sl⟩ zs1 zs1' pl1) pl1 = vp) (e4 : codP (okP ⟨p, s, st, sk, re, fe, ag, c, sl⟩ zs1 zs1' pl1) = vc) (w : World) (h : Ints w w.heap.size A n u zs1) (h' : Ints w w.heap.size A' n' u' zs1') (hn : n ≤ 4294967296) :
    Calls Try.prog 26 #[.agg #[.int .i64 p, .int .i64 s, .bool st, .bool sk, .bool re, .bool fe, .bool ag, .int .i64 c, .int .i64 sl], .agg #[.slice A n u, .slice A' n' u', .int .i64 pl1]] w (RetP w vx vy vp vc) := by
  subst e1 e2 e3 e4
  exact specSettlePosition_any p s st sk re fe ag c sl A A' n u n' u' zs1 zs1' pl1 w h h' hn
theorem SettlePosition_is (p s : Int) (st sk re fe ag : Bool) (c sl : Int) (A A' : Option Addr) (n u n' u' : Nat) (zs1 zs1' : List Int) (pl1 : Int) (vx vy : List Int) (vp vc : Int) (e1 : seX (okP ⟨p, s, st, sk, re, fe, ag, c, sl⟩ zs1 zs1' pl1) zs1 = vx) (e2 : seY (okP ⟨p, s, st, sk, re, fe, ag, c, sl⟩ zs1 zs1' pl1) p zs1 zs1' = vy) (e3 : seP (okP ⟨p, s, st, sk, re, fe, ag, c, sl⟩ zs1 zs1' pl1) pl1 = vp) (e4 : codP (okP ⟨p, s, st, sk, re, fe, ag, c, sl⟩ zs1 zs1' pl1) = vc) (w : World) (h : Ints w w.heap.size A n u zs1) (h' : Ints w w.heap.size A' n' u' zs1') (hn : n ≤ 4294967296) :
    Calls Try.prog 27 #[.agg #[.int .i64 p, .int .i64 s, .bool st, .bool sk, .bool re, .bool fe, .bool ag, .int .i64 c, .int .i64 sl], .agg #[.slice A n u, .slice A' n' u', .int .i64 pl1]] w (RetP w vx vy vp vc) := by
  subst e1 e2 e3 e4
  exact SettlePosition_any p s st sk re fe ag c sl A A' n u n' u' zs1 zs1' pl1 w h h' hn
set_option maxRecDepth 100000 in
set_option maxHeartbeats 40000000 in
theorem FnExactSettlePosition_walk (a0 : Ru) (A1 : Option Addr) (n1 c1 : Nat) (zs1 : List Int) (A1' : Option Addr) (n1' c1' : Nat) (zs1' : List Int) (pl1 : Int) (w : World) (_h0 : a0.wf)
    (h1 : Ints w w.heap.size A1 n1 c1 zs1 ∧ Ints w w.heap.size A1' n1' c1' zs1' ∧ (∀ z ∈ zs1, in64 z) ∧ (∀ z ∈ zs1', in64 z) ∧ in64 pl1) :
    Calls Try.prog 4 #[.agg a0.cells.toArray, .agg #[.slice A1 n1 c1, .slice A1' n1' c1', .int .i64 pl1]] w fun e w' => e = .returned (.bool true) ∧ Below w.heap.size w w' := by
  obtain ⟨p, s, st, sk, re, fe, ag, c, sl⟩ := a0
  show Calls Try.prog 4 #[.agg #[.int .i64 p, .int .i64 s, .bool st, .bool sk, .bool re, .bool fe, .bool ag, .int .i64 c, .int .i64 sl], .agg #[.slice A1 n1 c1, .slice A1' n1' c1', .int .i64 pl1]] w _
  clear _h0
  obtain ⟨i1, i1', -⟩ := h1
  have e1 := i1.le
  have e1' := i1'.le
  have I1 := Lib.hid i1
  have I1' := Lib.hid i1'
  clear i1 i1'
  obtain ⟨vx, hvx⟩ : ∃ vx, seX (okP ⟨p, s, st, sk, re, fe, ag, c, sl⟩ zs1 zs1' pl1) zs1 = vx := ⟨_, rfl⟩
  obtain ⟨vy, hvy⟩ : ∃ vy, seY (okP ⟨p, s, st, sk, re, fe, ag, c, sl⟩ zs1 zs1' pl1) p zs1 zs1' = vy := ⟨_, rfl⟩
  obtain ⟨vp, hvp⟩ : ∃ vp, seP (okP ⟨p, s, st, sk, re, fe, ag, c, sl⟩ zs1 zs1' pl1) pl1 = vp := ⟨_, rfl⟩
  obtain ⟨vc, hvc⟩ : ∃ vc, codP (okP ⟨p, s, st, sk, re, fe, ag, c, sl⟩ zs1 zs1' pl1) = vc := ⟨_, rfl⟩
  have HV := Lib.hid (And.intro hvx (And.intro hvy (And.intro hvp hvc)))
  clear hvx hvy hvp hvc
  have HP0 := Lib.hid ((RuAt.box w 23 p s st sk re fe ag c sl).alloc (.cells #[.slice A1 n1 c1, .slice A1' n1' c1', .int .i64 pl1] 26))
  have HP1 := Lib.hid (PosAt.box (w.alloc (.cells #[.int .i64 p, .int .i64 s, .bool st, .bool sk, .bool re, .bool fe, .bool ag, .int .i64 c, .int .i64 sl] 23)) 26 A1 n1 c1 A1' n1' c1' pl1)
  go_enter Try.func4, Try.ntmps4
  go_wp2_with fail
  refine (szPosition_any _ _ _ _ _ _ _ _ _ e1 e1' (by omega) (by omega)).mono ?_
  rintro e w1 ⟨rfl, hb1⟩
  have V0 := HP0.out.below hb1 (by simp <;> omega)
  have q1 := HP1.out.below hb1 (by simp <;> omega)
  have b1 : Below w.heap.size w w1 := (by repeat (first | with_reducible exact Below.refl _ _ | with_reducible assumption | with_reducible refine sub_alloc ?_ _ | (with_reducible refine sub_setCell2 ?_ ?_ _; (focus (first | (simp; done) | (simp <;> omega)))) | with_reducible refine sub_drew ?_ | with_reducible refine below_drewN ?_ _ | with_reducible refine sub_step (by assumption) ?_ (by first | rfl | (simp; done)) | exact Below.refl _ _ | assumption | refine sub_alloc ?_ _ | refine sub_setCell ?_ (by simp <;> omega) _ | refine sub_drew ?_ | refine below_drewN ?_ _ | refine sub_step (by assumption) ?_ (by first | rfl | (simp; done))))
  have V1 : PosAt w1 (w.heap.size + 1) 0 A1 n1 c1 A1' n1' c1' pl1 := by simpa using q1
  obtain ⟨k0, k1, k2, k3, k4, k5, k6, k7, k8⟩ := V0.flat
  obtain ⟨k9, k10, k11⟩ := V1.flat
  clear hb1 q1
  go_wp2_with fail
  · go_ret
    exact ⟨rfl, b1⟩
  have g0 : 0 ≤ szPF 1048576 n1 n1' := by assumption
  obtain ⟨s0, s1⟩ := szPF_ok g0
  have m1 : n1 ≤ 1048576 := by omega
  have m1' : n1' ≤ 1048576 := by omega
  clear g0 s0 s1 e1 e1'
  have J1 := Lib.hid (I1.out.sub b1)
  have J1' := Lib.hid (I1'.out.sub b1)

  go_cut [6, 7] from 21 to 28 (fun sa sb wr => ∃ b W l W' l' a a', sa = .pointer (some ⟨b, 0, none⟩) ∧ sb = .int .i64 vc ∧ PosAt wr b 0 W a l W' a' l' vp ∧ Own wr w1.heap.size W a l vx ∧ Own wr w1.heap.size W' a' l' vy ∧ Below w1.heap.size w1 wr)
  case first =>
    have tok1 : True := trivial
    have v1lt := V1.lt
    have v0lt := V0.lt
    have n10 : ¬ (w1.heap.size = w.heap.size) := by omega
    have n11 : ¬ (w1.heap.size = w.heap.size + 1) := by omega
    go_region_held3 (fun w' => w'.cell? ⟨w.heap.size, 0, none⟩ = some (.int .i64 p) ∧ w'.cell? ⟨w.heap.size, 1, none⟩ = some (.int .i64 s) ∧ w'.cell? ⟨w.heap.size, 2, none⟩ = some (.bool st) ∧ w'.cell? ⟨w.heap.size, 3, none⟩ = some (.bool sk) ∧ w'.cell? ⟨w.heap.size, 4, none⟩ = some (.bool re) ∧ w'.cell? ⟨w.heap.size, 5, none⟩ = some (.bool fe) ∧ w'.cell? ⟨w.heap.size, 6, none⟩ = some (.bool ag) ∧ w'.cell? ⟨w.heap.size, 7, none⟩ = some (.int .i64 c) ∧ w'.cell? ⟨w.heap.size, 8, none⟩ = some (.int .i64 sl) ∧ w'.cell? ⟨w.heap.size + 1, 0, none⟩ = some (.slice A1 n1 c1) ∧ w'.cell? ⟨w.heap.size + 1, 1, none⟩ = some (.slice A1' n1' c1') ∧ w'.cell? ⟨w.heap.size + 1, 2, none⟩ = some (.int .i64 pl1)) (first | (refine ⟨?_, ?_, ?_, ?_, ?_, ?_, ?_, ?_, ?_, ?_, ?_, ?_⟩ <;> assumption) | go_keep) (first | (go_at_call 20; have _t := tok1; refine (toRules_any _ _ _ _ _ _ _ _ _ _).mono ?_; rintro e w2 ⟨rfl, hb2⟩; clear tok1; have B2 : Below w1.heap.size w1 w2 := (by repeat (first | with_reducible exact Below.refl _ _ | with_reducible assumption | with_reducible refine sub_alloc ?_ _ | (with_reducible refine sub_setCell2 ?_ ?_ _; (focus (first | (simp; done) | (simp <;> omega)))) | with_reducible refine sub_drew ?_ | with_reducible refine below_drewN ?_ _ | with_reducible refine sub_step (by assumption) ?_ (by first | rfl | (simp; done)) | exact Below.refl _ _ | assumption | refine sub_alloc ?_ _ | refine sub_setCell ?_ (by simp <;> omega) _ | refine sub_drew ?_ | refine below_drewN ?_ _ | refine sub_step (by assumption) ?_ (by first | rfl | (simp; done)))); have zz2 := B2.size; have Y0 := V0.below B2 V0.lt; have Y1 := V1.below B2 V1.lt; obtain ⟨y0, y1, y2, y3, y4, y5, y6, y7, y8⟩ := Y0.flat; obtain ⟨y9, y10, y11⟩ := Y1.flat; (first | (have N2 := newbox hb2) | (have N2 := newbox (undrew hb2)) | skip); have y1lt := Y1.lt; have y0lt := Y0.lt; have n20 : ¬ (w2.heap.size = w.heap.size) := (by omega); have n21 : ¬ (w2.heap.size = w.heap.size + 1) := (by omega)) | (go_at_call 21; refine (toPosition_any _ _ _ _ _ _ zs1 zs1' _ _ (by exact J1.out.sub (by repeat (first | with_reducible exact Below.refl _ _ | with_reducible assumption | with_reducible refine sub_alloc ?_ _ | (with_reducible refine sub_setCell2 ?_ ?_ _; (focus (first | (simp; done) | (simp <;> omega)))) | with_reducible refine sub_drew ?_ | with_reducible refine below_drewN ?_ _ | with_reducible refine sub_step (by assumption) ?_ (by first | rfl | (simp; done)) | exact Below.refl _ _ | assumption | refine sub_alloc ?_ _ | refine sub_setCell ?_ (by simp <;> omega) _ | refine sub_drew ?_ | refine below_drewN ?_ _ | refine sub_step (by assumption) ?_ (by first | rfl | (simp; done))))) (by exact J1'.out.sub (by repeat (first | with_reducible exact Below.refl _ _ | with_reducible assumption | with_reducible refine sub_alloc ?_ _ | (with_reducible refine sub_setCell2 ?_ ?_ _; (focus (first | (simp; done) | (simp <;> omega)))) | with_reducible refine sub_drew ?_ | with_reducible refine below_drewN ?_ _ | with_reducible refine sub_step (by assumption) ?_ (by first | rfl | (simp; done)) | exact Below.refl _ _ | assumption | refine sub_alloc ?_ _ | refine sub_setCell ?_ (by simp <;> omega) _ | refine sub_drew ?_ | refine below_drewN ?_ _ | refine sub_step (by assumption) ?_ (by first | rfl | (simp; done))))) (by omega) (by omega)).mono ?_; rintro e w3 ⟨B1, d1, B1', d1', rfl, o1, o1', ap1, hb3⟩; have B3 : Below w1.heap.size w1 w3 := (by repeat (first | with_reducible exact Below.refl _ _ | with_reducible assumption | with_reducible refine sub_alloc ?_ _ | (with_reducible refine sub_setCell2 ?_ ?_ _; (focus (first | (simp; done) | (simp <;> omega)))) | with_reducible refine sub_drew ?_ | with_reducible refine below_drewN ?_ _ | with_reducible refine sub_step (by assumption) ?_ (by first | rfl | (simp; done)) | exact Below.refl _ _ | assumption | refine sub_alloc ?_ _ | refine sub_setCell ?_ (by simp <;> omega) _ | refine sub_drew ?_ | refine below_drewN ?_ _ | refine sub_step (by assumption) ?_ (by first | rfl | (simp; done)))); have zz3 := B3.size; have Z0 := V0.below B3 V0.lt; have Z1 := V1.below B3 V1.lt; obtain ⟨z0, z1, z2, z3, z4, z5, z6, z7, z8⟩ := Z0.flat; obtain ⟨z9, z10, z11⟩ := Z1.flat; (first | (have N3 := BoxAt.keep N2 hb3) | (have N3 := newbox hb3) | (have N3 := newbox (undrew hb3)) | skip); have z1lt := Z1.lt; have z0lt := Z0.lt; have n30 : ¬ (w3.heap.size = w.heap.size) := (by omega); have n31 : ¬ (w3.heap.size = w.heap.size + 1) := (by omega)) | (go_at_call 26; refine (specSettlePosition_is _ _ _ _ _ _ _ _ _ _ _ _ _ _ _ zs1 zs1' _ vx vy vp vc HV.out.1 HV.out.2.1 HV.out.2.2.1 HV.out.2.2.2 _ (by exact o1.ints.sub (by repeat (first | with_reducible exact Below.refl _ _ | with_reducible assumption | with_reducible refine sub_alloc ?_ _ | (with_reducible refine sub_setCell2 ?_ ?_ _; (focus (first | (simp; done) | (simp <;> omega)))) | with_reducible refine sub_drew ?_ | with_reducible refine below_drewN ?_ _ | with_reducible refine sub_step (by assumption) ?_ (by first | rfl | (simp; done)) | exact Below.refl _ _ | assumption | refine sub_alloc ?_ _ | refine sub_setCell ?_ (by simp <;> omega) _ | refine sub_drew ?_ | refine below_drewN ?_ _ | refine sub_step (by assumption) ?_ (by first | rfl | (simp; done))))) (by exact o1'.ints.sub (by repeat (first | with_reducible exact Below.refl _ _ | with_reducible assumption | with_reducible refine sub_alloc ?_ _ | (with_reducible refine sub_setCell2 ?_ ?_ _; (focus (first | (simp; done) | (simp <;> omega)))) | with_reducible refine sub_drew ?_ | with_reducible refine below_drewN ?_ _ | with_reducible refine sub_step (by assumption) ?_ (by first | rfl | (simp; done)) | exact Below.refl _ _ | assumption | refine sub_alloc ?_ _ | refine sub_setCell ?_ (by simp <;> omega) _ | refine sub_drew ?_ | refine below_drewN ?_ _ | refine sub_step (by assumption) ?_ (by first | rfl | (simp; done))))) (by omega)).mono ?_; rintro e w4 ⟨W, l, W', l', a, a', rfl, p1, p1', pap, pa, pa', hb4⟩; have B4 : Below w1.heap.size w1 w4 := (by repeat (first | with_reducible exact Below.refl _ _ | with_reducible assumption | with_reducible refine sub_alloc ?_ _ | (with_reducible refine sub_setCell2 ?_ ?_ _; (focus (first | (simp; done) | (simp <;> omega)))) | with_reducible refine sub_drew ?_ | with_reducible refine below_drewN ?_ _ | with_reducible refine sub_step (by assumption) ?_ (by first | rfl | (simp; done)) | exact Below.refl _ _ | assumption | refine sub_alloc ?_ _ | refine sub_setCell ?_ (by simp <;> omega) _ | refine sub_drew ?_ | refine below_drewN ?_ _ | refine sub_step (by assumption) ?_ (by first | rfl | (simp; done)))); have X0 := V0.below B4 V0.lt; have X1 := V1.below B4 V1.lt; obtain ⟨x0, x1, x2, x3, x4, x5, x6, x7, x8⟩ := X0.flat; obtain ⟨x9, x10, x11⟩ := X1.flat; (first | (have N4 := BoxAt.keep N3 hb4) | (have N4 := newbox hb4) | (have N4 := newbox (undrew hb4)) | skip); (try (obtain ⟨f0, f1, f2, f3, f4, f5⟩ := N4.flat; (try simp at f0 f1 f2 f3 f4 f5)))))
    all_goals
      go_wp2_with fail
      go_meet
      first
        | exact ⟨w4.heap.size, W, l, W', l', a, a', rfl, rfl, PosAt.box _ _ _ _ _ _ _ _ _, (p1.alloc _).lower (by have := B3.size; simp at this ⊢ <;> omega), (p1'.alloc _).lower (by have := B3.size; simp at this ⊢ <;> omega), (by repeat (first | with_reducible exact Below.refl _ _ | with_reducible assumption | with_reducible refine sub_alloc ?_ _ | (with_reducible refine sub_setCell2 ?_ ?_ _; (focus (first | (simp; done) | (simp <;> omega)))) | with_reducible refine sub_drew ?_ | with_reducible refine below_drewN ?_ _ | with_reducible refine sub_step (by assumption) ?_ (by first | rfl | (simp; done)) | exact Below.refl _ _ | assumption | refine sub_alloc ?_ _ | refine sub_setCell ?_ (by simp <;> omega) _ | refine sub_drew ?_ | refine below_drewN ?_ _ | refine sub_step (by assumption) ?_ (by first | rfl | (simp; done))))⟩
        | exact ⟨_, W, l, W', l', a, a', rfl, rfl, N4.set _ _ _ _ _ _ _, Own.lower (Own.setBelow (Own.setBelow (Own.setBelow p1 (by first | (simp; done) | (have := N3.1.lt; simp at this ⊢; omega) | (have := N3.1.lt; simp at this; exact this) | (have := N3.1.lt; exact this)) _) (by first | (simp; done) | (have := N3.1.lt; simp at this ⊢; omega) | (have := N3.1.lt; simp at this; exact this) | (have := N3.1.lt; exact this)) _) (by first | (simp; done) | (have := N3.1.lt; simp at this ⊢; omega) | (have := N3.1.lt; simp at this; exact this) | (have := N3.1.lt; exact this)) _) (by have := B3.size; simp at this ⊢ <;> omega), Own.lower (Own.setBelow (Own.setBelow (Own.setBelow p1' (by first | (simp; done) | (have := N3.1.lt; simp at this ⊢; omega) | (have := N3.1.lt; simp at this; exact this) | (have := N3.1.lt; exact this)) _) (by first | (simp; done) | (have := N3.1.lt; simp at this ⊢; omega) | (have := N3.1.lt; simp at this; exact this) | (have := N3.1.lt; exact this)) _) (by first | (simp; done) | (have := N3.1.lt; simp at this ⊢; omega) | (have := N3.1.lt; simp at this; exact this) | (have := N3.1.lt; exact this)) _) (by have := B3.size; simp at this ⊢ <;> omega), (by repeat (first | with_reducible exact Below.refl _ _ | with_reducible assumption | with_reducible refine sub_alloc ?_ _ | (with_reducible refine sub_setCell2 ?_ ?_ _; (focus (first | (simp; done) | (simp <;> omega)))) | with_reducible refine sub_drew ?_ | with_reducible refine below_drewN ?_ _ | with_reducible refine sub_step (by assumption) ?_ (by first | rfl | (simp; done)) | exact Below.refl _ _ | assumption | refine sub_alloc ?_ _ | refine sub_setCell ?_ (by simp <;> omega) _ | refine sub_drew ?_ | refine below_drewN ?_ _ | refine sub_step (by assumption) ?_ (by first | rfl | (simp; done))))⟩
  case rest =>
    obtain ⟨b0, W0, kk, W0', kk', aa, aa', rfl, rfl, X0, O0, O0', BA⟩ := hcut
    obtain ⟨wA, hnew⟩ : ∃ x, x = wc := ⟨_, rfl⟩
    subst hnew
    have bA : Below w.heap.size w wA := sub_step BA b1 rfl
    have VA0 := V0.below BA V0.lt
    have VA1 := V1.below BA V1.lt
    have J2 := Lib.hid (J1.out.sub BA)
    have J2' := Lib.hid (J1'.out.sub BA)
    have Q0 := Lib.hid O0.ints
    have Q0' := Lib.hid O0'.ints
    have QA := Q0
    have QA' := Q0'
    have JA := J2
    have JA' := J2'
    clear O0 O0' k0 k1 k2 k3 k4 k5 k6 k7 k8 k9 k10 k11 V0 V1 J1 J1' BA
    obtain ⟨k0, k1, k2, k3, k4, k5, k6, k7, k8⟩ := VA0.flat
    obtain ⟨k9, k10, k11⟩ := VA1.flat
    obtain ⟨x0, x1, x2⟩ := X0.flat
    go_wp2_with fail
    refine (toPosition_any _ _ _ _ _ _ zs1 zs1' _ _ (by exact J2.out) (by exact J2'.out) (by omega) (by omega)).mono ?_
    rintro e w5 ⟨E, f, E', f', rfl, o1, o1', ap1, hb5⟩
    have l0 := VA0.lt
    have l1 := VA1.lt
    have l2 := X0.lt
    have l3 := hb5.size
    have VB0 := (VA0.below hb5 VA0.lt).alloc (.cells #[.slice E n1 f, .slice E' n1' f', .int .i64 pl1] 28)
    have VB1 := (VA1.below hb5 VA1.lt).alloc (.cells #[.slice E n1 f, .slice E' n1' f', .int .i64 pl1] 28)
    have XB0 := (X0.below hb5 X0.lt).alloc (.cells #[.slice E n1 f, .slice E' n1' f', .int .i64 pl1] 28)
    have XB1 := PosAt.box w5 28 E n1 f E' n1' f' pl1
    have O1 := Lib.hid (o1.alloc (.cells #[.slice E n1 f, .slice E' n1' f', .int .i64 pl1] 28))
    have O1' := Lib.hid (o1'.alloc (.cells #[.slice E n1 f, .slice E' n1' f', .int .i64 pl1] 28))
    have hBA : Below wA.heap.size wA (w5.alloc (.cells #[.slice E n1 f, .slice E' n1' f', .int .i64 pl1] 28)) := (by repeat (first | with_reducible exact Below.refl _ _ | with_reducible assumption | with_reducible refine sub_alloc ?_ _ | (with_reducible refine sub_setCell2 ?_ ?_ _; (focus (first | (simp; done) | (simp <;> omega)))) | with_reducible refine sub_drew ?_ | with_reducible refine below_drewN ?_ _ | with_reducible refine sub_step (by assumption) ?_ (by first | rfl | (simp; done)) | exact Below.refl _ _ | assumption | refine sub_alloc ?_ _ | refine sub_setCell ?_ (by simp <;> omega) _ | refine sub_drew ?_ | refine below_drewN ?_ _ | refine sub_step (by assumption) ?_ (by first | rfl | (simp; done))))
    obtain ⟨wB, hwB⟩ : ∃ x, x = w5.alloc (.cells #[.slice E n1 f, .slice E' n1' f', .int .i64 pl1] 28) := ⟨_, rfl⟩
    have hsB : wB.heap.size = w5.heap.size + 1 := by rw [hwB]; simp
    rw [← hwB] at VB0 VB1 XB0 XB1 O1 O1' hBA
    have J3 := Lib.hid (J2.out.sub hBA)
    have J3' := Lib.hid (J2'.out.sub hBA)
    have Q1 := Lib.hid (Q0.out.sub hBA)
    have Q1' := Lib.hid (Q0'.out.sub hBA)
    have I3 := Lib.hid O1.out.ints
    have I3' := Lib.hid O1'.out.ints
    clear o1 o1' hb5 k0 k1 k2 k3 k4 k5 k6 k7 k8 k9 k10 k11 x0 x1 x2 J2 J2' Q0 Q0'
    obtain ⟨k0, k1, k2, k3, k4, k5, k6, k7, k8⟩ := VB0.flat
    obtain ⟨k9, k10, k11⟩ := VB1.flat
    obtain ⟨x0, x1, x2⟩ := XB0.flat
    obtain ⟨x3, x4, x5⟩ := XB1.flat
    have bB : Below w.heap.size w wB := sub_step hBA bA rfl
    go_wp2_with fail
    rw [← hwB]
    clear hwB hsB
    go_cut [9, 10] from 31 to 37 (fun sa sb wr => ∃ b W l W' l' a a', sa = .pointer (some ⟨b, 0, none⟩) ∧ sb = .int .i64 vc ∧ wB.heap.size ≤ b ∧ PosAt wr b 0 W a l W' a' l' vp ∧ Own wr wB.heap.size W a l vx ∧ Own wr wB.heap.size W' a' l' vy ∧ Apart W W' ∧ W ≠ some ⟨b, 0, none⟩ ∧ W' ≠ some ⟨b, 0, none⟩ ∧ a ≤ 2097152 ∧ a' ≤ 2097152 ∧ Below wB.heap.size wB wr)
    case first =>
      have tok1 : True := trivial
      have v1lt := XB1.lt
      have v0lt := VB0.lt
      have n10 : ¬ (wB.heap.size = w.heap.size) := by omega
      have n11 : ¬ (wB.heap.size = w5.heap.size) := by omega
      go_region_held3 (fun w' => w'.cell? ⟨w.heap.size, 0, none⟩ = some (.int .i64 p) ∧ w'.cell? ⟨w.heap.size, 1, none⟩ = some (.int .i64 s) ∧ w'.cell? ⟨w.heap.size, 2, none⟩ = some (.bool st) ∧ w'.cell? ⟨w.heap.size, 3, none⟩ = some (.bool sk) ∧ w'.cell? ⟨w.heap.size, 4, none⟩ = some (.bool re) ∧ w'.cell? ⟨w.heap.size, 5, none⟩ = some (.bool fe) ∧ w'.cell? ⟨w.heap.size, 6, none⟩ = some (.bool ag) ∧ w'.cell? ⟨w.heap.size, 7, none⟩ = some (.int .i64 c) ∧ w'.cell? ⟨w.heap.size, 8, none⟩ = some (.int .i64 sl) ∧ w'.cell? ⟨w5.heap.size, 0, none⟩ = some (.slice E n1 f) ∧ w'.cell? ⟨w5.heap.size, 1, none⟩ = some (.slice E' n1' f') ∧ w'.cell? ⟨w5.heap.size, 2, none⟩ = some (.int .i64 pl1)) (first | (refine ⟨?_, ?_, ?_, ?_, ?_, ?_, ?_, ?_, ?_, ?_, ?_, ?_⟩ <;> assumption) | go_keep) (first | (go_at_call 20; have _t := tok1; refine (toRules_any _ _ _ _ _ _ _ _ _ _).mono ?_; rintro e w2 ⟨rfl, hb2⟩; clear tok1; have B2 : Below wB.heap.size wB w2 := (by repeat (first | with_reducible exact Below.refl _ _ | with_reducible assumption | with_reducible refine sub_alloc ?_ _ | (with_reducible refine sub_setCell2 ?_ ?_ _; (focus (first | (simp; done) | (simp <;> omega)))) | with_reducible refine sub_drew ?_ | with_reducible refine below_drewN ?_ _ | with_reducible refine sub_step (by assumption) ?_ (by first | rfl | (simp; done)) | exact Below.refl _ _ | assumption | refine sub_alloc ?_ _ | refine sub_setCell ?_ (by simp <;> omega) _ | refine sub_drew ?_ | refine below_drewN ?_ _ | refine sub_step (by assumption) ?_ (by first | rfl | (simp; done)))); have zz2 := B2.size; have Y0 := VB0.below B2 VB0.lt; have Y1 := XB1.below B2 XB1.lt; obtain ⟨y0, y1, y2, y3, y4, y5, y6, y7, y8⟩ := Y0.flat; obtain ⟨y9, y10, y11⟩ := Y1.flat; (first | (have N2 := newbox hb2) | (have N2 := newbox (undrew hb2)) | skip); have y1lt := Y1.lt; have y0lt := Y0.lt; have n20 : ¬ (w2.heap.size = w.heap.size) := (by omega); have n21 : ¬ (w2.heap.size = w5.heap.size) := (by omega)) | (go_at_call 27; refine (SettlePosition_is _ _ _ _ _ _ _ _ _ _ _ _ _ _ _ zs1 zs1' _ vx vy vp vc HV.out.1 HV.out.2.1 HV.out.2.2.1 HV.out.2.2.2 _ (by exact I3.out.sub (by repeat (first | with_reducible exact Below.refl _ _ | with_reducible assumption | with_reducible refine sub_alloc ?_ _ | (with_reducible refine sub_setCell2 ?_ ?_ _; (focus (first | (simp; done) | (simp <;> omega)))) | with_reducible refine sub_drew ?_ | with_reducible refine below_drewN ?_ _ | with_reducible refine sub_step (by assumption) ?_ (by first | rfl | (simp; done)) | exact Below.refl _ _ | assumption | refine sub_alloc ?_ _ | refine sub_setCell ?_ (by simp <;> omega) _ | refine sub_drew ?_ | refine below_drewN ?_ _ | refine sub_step (by assumption) ?_ (by first | rfl | (simp; done))))) (by exact I3'.out.sub (by repeat (first | with_reducible exact Below.refl _ _ | with_reducible assumption | with_reducible refine sub_alloc ?_ _ | (with_reducible refine sub_setCell2 ?_ ?_ _; (focus (first | (simp; done) | (simp <;> omega)))) | with_reducible refine sub_drew ?_ | with_reducible refine below_drewN ?_ _ | with_reducible refine sub_step (by assumption) ?_ (by first | rfl | (simp; done)) | exact Below.refl _ _ | assumption | refine sub_alloc ?_ _ | refine sub_setCell ?_ (by simp <;> omega) _ | refine sub_drew ?_ | refine below_drewN ?_ _ | refine sub_step (by assumption) ?_ (by first | rfl | (simp; done))))) (by omega)).mono ?_; rintro e w4 ⟨W, l, W', l', a, a', rfl, p1, p1', pap, pa, pa', hb4⟩; have B4 : Below wB.heap.size wB w4 := (by repeat (first | with_reducible exact Below.refl _ _ | with_reducible assumption | with_reducible refine sub_alloc ?_ _ | (with_reducible refine sub_setCell2 ?_ ?_ _; (focus (first | (simp; done) | (simp <;> omega)))) | with_reducible refine sub_drew ?_ | with_reducible refine below_drewN ?_ _ | with_reducible refine sub_step (by assumption) ?_ (by first | rfl | (simp; done)) | exact Below.refl _ _ | assumption | refine sub_alloc ?_ _ | refine sub_setCell ?_ (by simp <;> omega) _ | refine sub_drew ?_ | refine below_drewN ?_ _ | refine sub_step (by assumption) ?_ (by first | rfl | (simp; done)))); have X0 := VB0.below B4 VB0.lt; have X1 := XB1.below B4 XB1.lt; obtain ⟨x0, x1, x2, x3, x4, x5, x6, x7, x8⟩ := X0.flat; obtain ⟨x9, x10, x11⟩ := X1.flat; (first | (have N4 := BoxAt.keep N2 hb4) | (have N4 := newbox hb4) | (have N4 := newbox (undrew hb4)) | skip); (try (obtain ⟨f0, f1, f2, f3, f4, f5⟩ := N4.flat; (try simp at f0 f1 f2 f3 f4 f5)))))
      all_goals
        go_wp2_with fail
        go_meet
        first
          | exact ⟨w4.heap.size, W, l, W', l', a, a', rfl, rfl, (by have := B4.size; simp at this ⊢ <;> omega), PosAt.box _ _ _ _ _ _ _ _ _, (p1.alloc _).lower (by have := B2.size; simp at this ⊢ <;> omega), (p1'.alloc _).lower (by have := B2.size; simp at this ⊢ <;> omega), pap, own_lt p1 (Nat.le_refl _), own_lt p1' (Nat.le_refl _), pa, pa', (by repeat (first | with_reducible exact Below.refl _ _ | with_reducible assumption | with_reducible refine sub_alloc ?_ _ | (with_reducible refine sub_setCell2 ?_ ?_ _; (focus (first | (simp; done) | (simp <;> omega)))) | with_reducible refine sub_drew ?_ | with_reducible refine below_drewN ?_ _ | with_reducible refine sub_step (by assumption) ?_ (by first | rfl | (simp; done)) | exact Below.refl _ _ | assumption | refine sub_alloc ?_ _ | refine sub_setCell ?_ (by simp <;> omega) _ | refine sub_drew ?_ | refine below_drewN ?_ _ | refine sub_step (by assumption) ?_ (by first | rfl | (simp; done))))⟩
          | exact ⟨_, W, l, W', l', a, a', rfl, rfl, (by first | (simp; done) | (have := B2.size; simp at this ⊢ <;> omega)), N4.set _ _ _ _ _ _ _, Own.lower (Own.setBelow (Own.setBelow (Own.setBelow p1 (by first | (simp; done) | (have := N2.1.lt; simp at this ⊢; omega) | (have := N2.1.lt; simp at this; exact this) | (have := N2.1.lt; exact this)) _) (by first | (simp; done) | (have := N2.1.lt; simp at this ⊢; omega) | (have := N2.1.lt; simp at this; exact this) | (have := N2.1.lt; exact this)) _) (by first | (simp; done) | (have := N2.1.lt; simp at this ⊢; omega) | (have := N2.1.lt; simp at this; exact this) | (have := N2.1.lt; exact this)) _) (by have := B2.size; simp at this ⊢ <;> omega), Own.lower (Own.setBelow (Own.setBelow (Own.setBelow p1' (by first | (simp; done) | (have := N2.1.lt; simp at this ⊢; omega) | (have := N2.1.lt; simp at this; exact this) | (have := N2.1.lt; exact this)) _) (by first | (simp; done) | (have := N2.1.lt; simp at this ⊢; omega) | (have := N2.1.lt; simp at this; exact this) | (have := N2.1.lt; exact this)) _) (by first | (simp; done) | (have := N2.1.lt; simp at this ⊢; omega) | (have := N2.1.lt; simp at this; exact this) | (have := N2.1.lt; exact this)) _) (by have := B2.size; simp at this ⊢ <;> omega), pap, own_ge p1 (by first | (simp; done) | (have := N2.1.lt; simp at this ⊢; omega) | (have := N2.1.lt; simp at this; exact this) | (have := N2.1.lt; exact this)), own_ge p1' (by first | (simp; done) | (have := N2.1.lt; simp at this ⊢; omega) | (have := N2.1.lt; simp at this; exact this) | (have := N2.1.lt; exact this)), pa, pa', (by repeat (first | with_reducible exact Below.refl _ _ | with_reducible assumption | with_reducible refine sub_alloc ?_ _ | (with_reducible refine sub_setCell2 ?_ ?_ _; (focus (first | (simp; done) | (simp <;> omega)))) | with_reducible refine sub_drew ?_ | with_reducible refine below_drewN ?_ _ | with_reducible refine sub_step (by assumption) ?_ (by first | rfl | (simp; done)) | exact Below.refl _ _ | assumption | refine sub_alloc ?_ _ | refine sub_setCell ?_ (by simp <;> omega) _ | refine sub_drew ?_ | refine below_drewN ?_ _ | refine sub_step (by assumption) ?_ (by first | rfl | (simp; done))))⟩
    case rest =>
      obtain ⟨b9, G, gg, G', gg', ga, ga', rfl, rfl, hb9, X9, P9, P9', AP, NB, NB', gl, gl', BC⟩ := hcut
      obtain ⟨wC, hnew⟩ : ∃ x, x = wc := ⟨_, rfl⟩
      subst hnew
      clear k0 k1 k2 k3 k4 k5 k6 k7 k8 k9 k10 k11 x0 x1 x2 x3 x4 x5
      have bAC : Below wA.heap.size wA wC := sub_step BC hBA rfl
      have sBC := BC.size
      have NE : E ≠ some ⟨b9, 0, none⟩ := own_lt O1.out hb9
      have NE' : E' ≠ some ⟨b9, 0, none⟩ := own_lt O1'.out hb9
      have AG := apart_of O1.out P9 (Nat.le_refl _)
      have AG' := apart_of O1.out P9' (Nat.le_refl _)
      have AH := apart_of O1'.out P9 (Nat.le_refl _)
      have AH' := apart_of O1'.out P9' (Nat.le_refl _)
      have lb9 := X9.lt
      have O2 := Lib.hid (O1.out.below BC (Nat.le_refl _))
      have O2' := Lib.hid (O1'.out.below BC (Nat.le_refl _))
      have R9 := Lib.hid P9.ints
      have R9' := Lib.hid P9'.ints
      have XX := XB1.below BC XB1.lt
      have hlx := XX.lt
      have bA0 := bAC
      have VR0 := VA0.below bA0 l0
      have VP0 := VA1.below bA0 l1
      have X00 := X0.below bA0 l2
      have sz0 := bA0.size
      have Q2 := Lib.hid (QA.out.sub bA0)
      have Q2' := Lib.hid (QA'.out.sub bA0)
      clear VB0 VB1 XB0 XB1 O1 O1' J3 J3' Q1 Q1' I3 I3'
      obtain ⟨x0, x1, x2⟩ := X9.flat
      obtain ⟨y0, y1, y2⟩ := X00.flat
      go_wp2_with fail
      refine (eqPosition_any _ _ _ _ _ _ _ _ _ _ _ _ vx vy vx vy _ _ _ (by exact R9.out) (by exact R9'.out) (by exact Q2.out) (by exact Q2'.out)).mono ?_
      rintro e v1 ⟨rfl, hv1⟩
      clear x0 x1 x2 y0 y1 y2
      have bA1 : Below wA.heap.size wA v1 := sub_step hv1 bA0 rfl
      have X91 := X9.below hv1 X9.lt
      have XX1 := XX.below hv1 XX.lt
      have O3 := Lib.hid (O2.out.below hv1 (Nat.le_refl _))
      have O3' := Lib.hid (O2'.out.below hv1 (Nat.le_refl _))
      have P3 := Lib.hid (P9.below hv1 (Nat.le_refl _))
      have P3' := Lib.hid (P9'.below hv1 (Nat.le_refl _))
      have VR1 := VA0.below bA1 l0
      have VP1 := VA1.below bA1 l1
      have X01 := X0.below bA1 l2
      have sz1 := bA1.size
      have J4 := Lib.hid (JA.out.sub bA1)
      have J4' := Lib.hid (JA'.out.sub bA1)
      have I4 := Lib.hid O3.out.ints
      have I4' := Lib.hid O3'.out.ints
      obtain ⟨x0, x1, x2⟩ := VP1.flat
      obtain ⟨x3, x4, x5⟩ := XX1.flat
      go_wp2_with fail
      go_region_held3 (fun w' => w'.cell? ⟨w.heap.size + 1, 0, none⟩ = some (.slice A1 n1 c1) ∧ w'.cell? ⟨w.heap.size + 1, 1, none⟩ = some (.slice A1' n1' c1') ∧ w'.cell? ⟨w.heap.size + 1, 2, none⟩ = some (.int .i64 pl1) ∧ w'.cell? ⟨w5.heap.size, 0, none⟩ = some (.slice E n1 f) ∧ w'.cell? ⟨w5.heap.size, 1, none⟩ = some (.slice E' n1' f') ∧ w'.cell? ⟨w5.heap.size, 2, none⟩ = some (.int .i64 pl1)) (first | (refine ⟨?_, ?_, ?_, ?_, ?_, ?_⟩ <;> assumption) | go_keep) (first | (go_at_call 21; refine (toPosition_any _ _ _ _ _ _ zs1 zs1' _ _ (by exact J4.out) (by exact J4'.out) (by omega) (by omega)).mono ?_; rintro e v2 ⟨C1, h1, C1', h1', rfl, r1, r1', ap0, hv2⟩; have hv2 := undrew hv2; have U1 := VP1.below hv2 VP1.lt; have U2 := XX1.below hv2 XX1.lt; obtain ⟨t0, t1, t2⟩ := U1.flat; obtain ⟨t3, t4, t5⟩ := U2.flat) | (go_at_call 23; refine (eqPosition_any _ _ _ _ _ _ _ _ _ _ _ _ zs1 zs1' zs1 zs1' _ _ _ (by exact I4.out.sub hv2) (by exact I4'.out.sub hv2) (by exact r1.ints) (by exact r1'.ints)).mono ?_; rintro e v3 ⟨rfl, hv3⟩; have D1 := U1.below hv3 U1.lt; have D2 := U2.below hv3 U2.lt; obtain ⟨d0, d1, d2⟩ := D1.flat; obtain ⟨d3, d4, d5⟩ := D2.flat))
      have hv13 : Below v1.heap.size v1 v3 := (by repeat (first | with_reducible exact Below.refl _ _ | with_reducible assumption | with_reducible refine sub_alloc ?_ _ | (with_reducible refine sub_setCell2 ?_ ?_ _; (focus (first | (simp; done) | (simp <;> omega)))) | with_reducible refine sub_drew ?_ | with_reducible refine below_drewN ?_ _ | with_reducible refine sub_step (by assumption) ?_ (by first | rfl | (simp; done)) | exact Below.refl _ _ | assumption | refine sub_alloc ?_ _ | refine sub_setCell ?_ (by simp <;> omega) _ | refine sub_drew ?_ | refine below_drewN ?_ _ | refine sub_step (by assumption) ?_ (by first | rfl | (simp; done))))
      have bA3 : Below wA.heap.size wA v3 := sub_step hv13 bA1 rfl
      have X93 := X91.below hv13 X91.lt
      have XX3 := XX1.below hv13 XX1.lt
      have O5 := Lib.hid (O3.out.below hv13 (Nat.le_refl _))
      have O5' := Lib.hid (O3'.out.below hv13 (Nat.le_refl _))
      have P5 := Lib.hid (P3.out.below hv13 (Nat.le_refl _))
      have P5' := Lib.hid (P3'.out.below hv13 (Nat.le_refl _))
      clear x0 x1 x2 x3 x4 x5 t0 t1 t2 t3 t4 t5 d0 d1 d2 d3 d4 d5 U1 U2 D1 D2 r1 r1' ap0 hv2 hv3
      obtain ⟨x3, x4, x5⟩ := XX3.flat
      have sz3 := bA3.size
      go_wp2_with fail
      refine (markPosition_any wA.heap.size _ _ _ _ _ _ zs1 zs1' _ _ O5.out O5'.out ap1 (by omega) (by omega) sz3).mono ?_
      rintro e v4 ⟨rfl, mo, mo', hv4, bu⟩
      clear mo mo' x3 x4 x5
      have bA4 : Below wA.heap.size wA v4 := bA3.trans hv4
      have lb3 := X93.lt
      have X94 : PosAt v4 b9 0 G ga gg G' ga' gg' vp := X93.keep fun i => bu.1 b9 i lb3 NE NE'
      have P6 := Lib.hid (bu.2 _ _ _ _ _ P5.out AG AH)
      have P6' := Lib.hid (bu.2 _ _ _ _ _ P5'.out AG' AH')
      have R6 := Lib.hid P6.out.ints
      have R6' := Lib.hid P6'.out.ints
      clear bu hv4 P5 P5' O5 O5' XX3
      have VR4 := VA0.below bA4 l0
      have VP4 := VA1.below bA4 l1
      have X04 := X0.below bA4 l2
      have sz4 := bA4.size
      have Q4 := Lib.hid (QA.out.sub bA4)
      have Q4' := Lib.hid (QA'.out.sub bA4)
      obtain ⟨x0, x1, x2⟩ := X94.flat
      obtain ⟨y0, y1, y2⟩ := X04.flat
      go_wp2_with fail
      refine (eqPosition_any _ _ _ _ _ _ _ _ _ _ _ _ vx vy vx vy _ _ _ (by exact R6.out) (by exact R6'.out) (by exact Q4.out) (by exact Q4'.out)).mono ?_
      rintro e v5 ⟨rfl, hv5⟩
      clear x0 x1 x2 y0 y1 y2
      have bA5 : Below wA.heap.size wA v5 := sub_step hv5 bA4 rfl
      have X95 := X94.below hv5 X94.lt
      have P7 := Lib.hid (P6.out.below hv5 (Nat.le_refl _))
      have P7' := Lib.hid (P6'.out.below hv5 (Nat.le_refl _))
      have sB5 : wB.heap.size ≤ v5.heap.size := by have := X95.lt; omega
      obtain ⟨x0, x1, x2⟩ := X95.flat
      go_wp2_with fail
      refine (markPosition_any wB.heap.size _ _ _ _ _ _ vx vy _ _ P7.out P7'.out AP gl gl' sB5).mono ?_
      rintro e v6 ⟨rfl, M, M', hv6, bu⟩
      clear x0 x1 x2
      have sAB : wA.heap.size ≤ wB.heap.size := hBA.size
      have bA6 : Below wA.heap.size wA v6 := bA5.trans (hv6.mono sAB)
      have lb5 := X95.lt
      have X96 : PosAt v6 b9 0 G ga gg G' ga' gg' vp := X95.keep fun i => bu.1 b9 i lb5 NB NB'
      have M6 := Lib.hid M.ints
      have M6' := Lib.hid M'.ints
      clear bu hv6 P7 P7' M M'
      obtain ⟨x0, x1, x2⟩ := X96.flat
      go_wp2_with fail
      refine (heldPosition_any _ _ _ _ _ _ _ _ (by exact M6.out) (by exact M6'.out) gl gl').mono ?_
      rintro e v7 ⟨rfl, hv7⟩
      clear x0 x1 x2
      have bA7 : Below wA.heap.size wA v7 := sub_step hv7 bA6 rfl
      have X97 := X96.below hv7 X96.lt
      have M7 := Lib.hid (M6.out.sub hv7)
      have M7' := Lib.hid (M6'.out.sub hv7)
      have VR7 := VA0.below bA7 l0
      have VP7 := VA1.below bA7 l1
      have X07 := X0.below bA7 l2
      have sz7 := bA7.size
      have J7 := Lib.hid (JA.out.sub bA7)
      have J7' := Lib.hid (JA'.out.sub bA7)
      obtain ⟨k0, k1, k2, k3, k4, k5, k6, k7, k8⟩ := VR7.flat
      obtain ⟨k9, k10, k11⟩ := VP7.flat
      go_wp2_with fail
      go_cut [14, 15] from 79 to 86 (fun sa sb wr => ∃ b W l W' l' a a', sa = .pointer (some ⟨b, 0, none⟩) ∧ sb = .int .i64 vc ∧ PosAt wr b 0 W a l W' a' l' vp ∧ Own wr v7.heap.size W a l vx ∧ Own wr v7.heap.size W' a' l' vy ∧ Below v7.heap.size v7 wr)
      case first =>
        have tok1 : True := trivial
        have v1lt := VP7.lt
        have v0lt := VR7.lt
        have n10 : ¬ (v7.heap.size = w.heap.size) := by omega
        have n11 : ¬ (v7.heap.size = w.heap.size + 1) := by omega
        go_region_held3 (fun w' => w'.cell? ⟨w.heap.size, 0, none⟩ = some (.int .i64 p) ∧ w'.cell? ⟨w.heap.size, 1, none⟩ = some (.int .i64 s) ∧ w'.cell? ⟨w.heap.size, 2, none⟩ = some (.bool st) ∧ w'.cell? ⟨w.heap.size, 3, none⟩ = some (.bool sk) ∧ w'.cell? ⟨w.heap.size, 4, none⟩ = some (.bool re) ∧ w'.cell? ⟨w.heap.size, 5, none⟩ = some (.bool fe) ∧ w'.cell? ⟨w.heap.size, 6, none⟩ = some (.bool ag) ∧ w'.cell? ⟨w.heap.size, 7, none⟩ = some (.int .i64 c) ∧ w'.cell? ⟨w.heap.size, 8, none⟩ = some (.int .i64 sl) ∧ w'.cell? ⟨w.heap.size + 1, 0, none⟩ = some (.slice A1 n1 c1) ∧ w'.cell? ⟨w.heap.size + 1, 1, none⟩ = some (.slice A1' n1' c1') ∧ w'.cell? ⟨w.heap.size + 1, 2, none⟩ = some (.int .i64 pl1)) (first | (refine ⟨?_, ?_, ?_, ?_, ?_, ?_, ?_, ?_, ?_, ?_, ?_, ?_⟩ <;> assumption) | go_keep) (first | (go_at_call 20; have _t := tok1; refine (toRules_any _ _ _ _ _ _ _ _ _ _).mono ?_; rintro e w2 ⟨rfl, hb2⟩; clear tok1; have B2 : Below v7.heap.size v7 w2 := (by repeat (first | with_reducible exact Below.refl _ _ | with_reducible assumption | with_reducible refine sub_alloc ?_ _ | (with_reducible refine sub_setCell2 ?_ ?_ _; (focus (first | (simp; done) | (simp <;> omega)))) | with_reducible refine sub_drew ?_ | with_reducible refine below_drewN ?_ _ | with_reducible refine sub_step (by assumption) ?_ (by first | rfl | (simp; done)) | exact Below.refl _ _ | assumption | refine sub_alloc ?_ _ | refine sub_setCell ?_ (by simp <;> omega) _ | refine sub_drew ?_ | refine below_drewN ?_ _ | refine sub_step (by assumption) ?_ (by first | rfl | (simp; done)))); have zz2 := B2.size; have Y0 := VR7.below B2 VR7.lt; have Y1 := VP7.below B2 VP7.lt; obtain ⟨y0, y1, y2, y3, y4, y5, y6, y7, y8⟩ := Y0.flat; obtain ⟨y9, y10, y11⟩ := Y1.flat; (first | (have N2 := newbox hb2) | (have N2 := newbox (undrew hb2)) | skip); have y1lt := Y1.lt; have y0lt := Y0.lt; have n20 : ¬ (w2.heap.size = w.heap.size) := (by omega); have n21 : ¬ (w2.heap.size = w.heap.size + 1) := (by omega)) | (go_at_call 21; refine (toPosition_any _ _ _ _ _ _ zs1 zs1' _ _ (by exact J7.out.sub (by repeat (first | with_reducible exact Below.refl _ _ | with_reducible assumption | with_reducible refine sub_alloc ?_ _ | (with_reducible refine sub_setCell2 ?_ ?_ _; (focus (first | (simp; done) | (simp <;> omega)))) | with_reducible refine sub_drew ?_ | with_reducible refine below_drewN ?_ _ | with_reducible refine sub_step (by assumption) ?_ (by first | rfl | (simp; done)) | exact Below.refl _ _ | assumption | refine sub_alloc ?_ _ | refine sub_setCell ?_ (by simp <;> omega) _ | refine sub_drew ?_ | refine below_drewN ?_ _ | refine sub_step (by assumption) ?_ (by first | rfl | (simp; done))))) (by exact J7'.out.sub (by repeat (first | with_reducible exact Below.refl _ _ | with_reducible assumption | with_reducible refine sub_alloc ?_ _ | (with_reducible refine sub_setCell2 ?_ ?_ _; (focus (first | (simp; done) | (simp <;> omega)))) | with_reducible refine sub_drew ?_ | with_reducible refine below_drewN ?_ _ | with_reducible refine sub_step (by assumption) ?_ (by first | rfl | (simp; done)) | exact Below.refl _ _ | assumption | refine sub_alloc ?_ _ | refine sub_setCell ?_ (by simp <;> omega) _ | refine sub_drew ?_ | refine below_drewN ?_ _ | refine sub_step (by assumption) ?_ (by first | rfl | (simp; done))))) (by omega) (by omega)).mono ?_; rintro e w3 ⟨B1, d1, B1', d1', rfl, o1, o1', ap1, hb3⟩; have B3 : Below v7.heap.size v7 w3 := (by repeat (first | with_reducible exact Below.refl _ _ | with_reducible assumption | with_reducible refine sub_alloc ?_ _ | (with_reducible refine sub_setCell2 ?_ ?_ _; (focus (first | (simp; done) | (simp <;> omega)))) | with_reducible refine sub_drew ?_ | with_reducible refine below_drewN ?_ _ | with_reducible refine sub_step (by assumption) ?_ (by first | rfl | (simp; done)) | exact Below.refl _ _ | assumption | refine sub_alloc ?_ _ | refine sub_setCell ?_ (by simp <;> omega) _ | refine sub_drew ?_ | refine below_drewN ?_ _ | refine sub_step (by assumption) ?_ (by first | rfl | (simp; done)))); have zz3 := B3.size; have Z0 := VR7.below B3 VR7.lt; have Z1 := VP7.below B3 VP7.lt; obtain ⟨z0, z1, z2, z3, z4, z5, z6, z7, z8⟩ := Z0.flat; obtain ⟨z9, z10, z11⟩ := Z1.flat; (first | (have N3 := BoxAt.keep N2 hb3) | (have N3 := newbox hb3) | (have N3 := newbox (undrew hb3)) | skip); have z1lt := Z1.lt; have z0lt := Z0.lt; have n30 : ¬ (w3.heap.size = w.heap.size) := (by omega); have n31 : ¬ (w3.heap.size = w.heap.size + 1) := (by omega)) | (go_at_call 27; refine (SettlePosition_is _ _ _ _ _ _ _ _ _ _ _ _ _ _ _ zs1 zs1' _ vx vy vp vc HV.out.1 HV.out.2.1 HV.out.2.2.1 HV.out.2.2.2 _ (by exact o1.ints.sub (by repeat (first | with_reducible exact Below.refl _ _ | with_reducible assumption | with_reducible refine sub_alloc ?_ _ | (with_reducible refine sub_setCell2 ?_ ?_ _; (focus (first | (simp; done) | (simp <;> omega)))) | with_reducible refine sub_drew ?_ | with_reducible refine below_drewN ?_ _ | with_reducible refine sub_step (by assumption) ?_ (by first | rfl | (simp; done)) | exact Below.refl _ _ | assumption | refine sub_alloc ?_ _ | refine sub_setCell ?_ (by simp <;> omega) _ | refine sub_drew ?_ | refine below_drewN ?_ _ | refine sub_step (by assumption) ?_ (by first | rfl | (simp; done))))) (by exact o1'.ints.sub (by repeat (first | with_reducible exact Below.refl _ _ | with_reducible assumption | with_reducible refine sub_alloc ?_ _ | (with_reducible refine sub_setCell2 ?_ ?_ _; (focus (first | (simp; done) | (simp <;> omega)))) | with_reducible refine sub_drew ?_ | with_reducible refine below_drewN ?_ _ | with_reducible refine sub_step (by assumption) ?_ (by first | rfl | (simp; done)) | exact Below.refl _ _ | assumption | refine sub_alloc ?_ _ | refine sub_setCell ?_ (by simp <;> omega) _ | refine sub_drew ?_ | refine below_drewN ?_ _ | refine sub_step (by assumption) ?_ (by first | rfl | (simp; done))))) (by omega)).mono ?_; rintro e w4 ⟨W, l, W', l', a, a', rfl, p1, p1', pap, pa, pa', hb4⟩; have B4 : Below v7.heap.size v7 w4 := (by repeat (first | with_reducible exact Below.refl _ _ | with_reducible assumption | with_reducible refine sub_alloc ?_ _ | (with_reducible refine sub_setCell2 ?_ ?_ _; (focus (first | (simp; done) | (simp <;> omega)))) | with_reducible refine sub_drew ?_ | with_reducible refine below_drewN ?_ _ | with_reducible refine sub_step (by assumption) ?_ (by first | rfl | (simp; done)) | exact Below.refl _ _ | assumption | refine sub_alloc ?_ _ | refine sub_setCell ?_ (by simp <;> omega) _ | refine sub_drew ?_ | refine below_drewN ?_ _ | refine sub_step (by assumption) ?_ (by first | rfl | (simp; done)))); have X0 := VR7.below B4 VR7.lt; have X1 := VP7.below B4 VP7.lt; obtain ⟨x0, x1, x2, x3, x4, x5, x6, x7, x8⟩ := X0.flat; obtain ⟨x9, x10, x11⟩ := X1.flat; (first | (have N4 := BoxAt.keep N3 hb4) | (have N4 := newbox hb4) | (have N4 := newbox (undrew hb4)) | skip); (try (obtain ⟨f0, f1, f2, f3, f4, f5⟩ := N4.flat; (try simp at f0 f1 f2 f3 f4 f5)))))
        all_goals
          go_wp2_with fail
          go_meet
          first
            | exact ⟨w4.heap.size, W, l, W', l', a, a', rfl, rfl, PosAt.box _ _ _ _ _ _ _ _ _, (p1.alloc _).lower (by have := B3.size; simp at this ⊢ <;> omega), (p1'.alloc _).lower (by have := B3.size; simp at this ⊢ <;> omega), (by repeat (first | with_reducible exact Below.refl _ _ | with_reducible assumption | with_reducible refine sub_alloc ?_ _ | (with_reducible refine sub_setCell2 ?_ ?_ _; (focus (first | (simp; done) | (simp <;> omega)))) | with_reducible refine sub_drew ?_ | with_reducible refine below_drewN ?_ _ | with_reducible refine sub_step (by assumption) ?_ (by first | rfl | (simp; done)) | exact Below.refl _ _ | assumption | refine sub_alloc ?_ _ | refine sub_setCell ?_ (by simp <;> omega) _ | refine sub_drew ?_ | refine below_drewN ?_ _ | refine sub_step (by assumption) ?_ (by first | rfl | (simp; done))))⟩
            | exact ⟨_, W, l, W', l', a, a', rfl, rfl, N4.set _ _ _ _ _ _ _, Own.lower (Own.setBelow (Own.setBelow (Own.setBelow p1 (by first | (simp; done) | (have := N3.1.lt; simp at this ⊢; omega) | (have := N3.1.lt; simp at this; exact this) | (have := N3.1.lt; exact this)) _) (by first | (simp; done) | (have := N3.1.lt; simp at this ⊢; omega) | (have := N3.1.lt; simp at this; exact this) | (have := N3.1.lt; exact this)) _) (by first | (simp; done) | (have := N3.1.lt; simp at this ⊢; omega) | (have := N3.1.lt; simp at this; exact this) | (have := N3.1.lt; exact this)) _) (by have := B3.size; simp at this ⊢ <;> omega), Own.lower (Own.setBelow (Own.setBelow (Own.setBelow p1' (by first | (simp; done) | (have := N3.1.lt; simp at this ⊢; omega) | (have := N3.1.lt; simp at this; exact this) | (have := N3.1.lt; exact this)) _) (by first | (simp; done) | (have := N3.1.lt; simp at this ⊢; omega) | (have := N3.1.lt; simp at this; exact this) | (have := N3.1.lt; exact this)) _) (by first | (simp; done) | (have := N3.1.lt; simp at this ⊢; omega) | (have := N3.1.lt; simp at this; exact this) | (have := N3.1.lt; exact this)) _) (by have := B3.size; simp at this ⊢ <;> omega), (by repeat (first | with_reducible exact Below.refl _ _ | with_reducible assumption | with_reducible refine sub_alloc ?_ _ | (with_reducible refine sub_setCell2 ?_ ?_ _; (focus (first | (simp; done) | (simp <;> omega)))) | with_reducible refine sub_drew ?_ | with_reducible refine below_drewN ?_ _ | with_reducible refine sub_step (by assumption) ?_ (by first | rfl | (simp; done)) | exact Below.refl _ _ | assumption | refine sub_alloc ?_ _ | refine sub_setCell ?_ (by simp <;> omega) _ | refine sub_drew ?_ | refine below_drewN ?_ _ | refine sub_step (by assumption) ?_ (by first | rfl | (simp; done))))⟩
      case rest =>
        obtain ⟨b14, H, hh, H', hh', ha, ha', rfl, rfl, X14, PH, PH', BH⟩ := hcut
        obtain ⟨v8, hnew⟩ : ∃ x, x = wc := ⟨_, rfl⟩
        subst hnew
        have bA8 : Below wA.heap.size wA v8 := sub_step BH bA7 rfl
        have X98 := X97.below BH X97.lt
        have M8 := Lib.hid (M7.out.sub BH)
        have M8' := Lib.hid (M7'.out.sub BH)
        have RH := Lib.hid PH.ints
        have RH' := Lib.hid PH'.ints
        clear k0 k1 k2 k3 k4 k5 k6 k7 k8 k9 k10 k11
        have VR8 := VA0.below bA8 l0
        have VP8 := VA1.below bA8 l1
        have X08 := X0.below bA8 l2
        have sz8 := bA8.size
        have Q8 := Lib.hid (QA.out.sub bA8)
        have Q8' := Lib.hid (QA'.out.sub bA8)
        obtain ⟨x0, x1, x2⟩ := X14.flat
        obtain ⟨y0, y1, y2⟩ := X08.flat
        go_wp2_with fail
        refine (eqPosition_any _ _ _ _ _ _ _ _ _ _ _ _ vx vy vx vy _ _ _ (by exact RH.out) (by exact RH'.out) (by exact Q8.out) (by exact Q8'.out)).mono ?_
        rintro e v9 ⟨rfl, hv9⟩
        clear x0 x1 x2 y0 y1 y2
        have bA9 : Below wA.heap.size wA v9 := sub_step hv9 bA8 rfl
        have X99 := X98.below hv9 X98.lt
        have M9 := Lib.hid (M8.out.sub hv9)
        have M9' := Lib.hid (M8'.out.sub hv9)
        obtain ⟨x0, x1, x2⟩ := X99.flat
        go_wp2_with fail
        refine (heldPosition_any _ _ _ _ _ _ _ _ (by exact M9.out) (by exact M9'.out) gl gl').mono ?_
        rintro e v10 ⟨rfl, hv10⟩
        have bA10 : Below wA.heap.size wA v10 := sub_step hv10 bA9 rfl
        have b10 : Below w.heap.size w v10 := sub_step bA10 bA rfl
        go_wp2_with fail
        go_ret
        exact ⟨rfl, b10⟩
end Go.Proofs.Ytnanaldolnehiaa
