/-
  The law FnExactPositionText, walked.
-/
import Derived.Test.YtnanaldolnehiabDoorPosText
import Derived.Outline
namespace Go.Proofs.YtnanaldolnehiabDoor
open Go.ChangeShapes Go.WideShapes Go.RowKit Go.Deep

set_option maxHeartbeats 2000000 in
theorem FnExactPositionText_walk (a0 : Ru) (A1 : Option Addr) (n1 c1 : Nat) (zs1 : List Int) (A1' : Option Addr) (n1' c1' : Nat) (zs1' : List Int) (pl1 : Int) (w : World) (_h0 : a0.wf)
    (h1 : Ints w w.heap.size A1 n1 c1 zs1 ∧ Ints w w.heap.size A1' n1' c1' zs1' ∧ (∀ z ∈ zs1, in64 z) ∧ (∀ z ∈ zs1', in64 z) ∧ in64 pl1) (ht : Tab w) :
    Calls Tryd.prog 12 #[.agg a0.cells.toArray, .agg #[.slice A1 n1 c1, .slice A1' n1' c1', .int .i64 pl1]] w fun e w' => e = .returned (.bool true) ∧ Below w.heap.size w w' := by
  obtain ⟨p, s, st, sk, re, fe, ag, c, sl⟩ := a0
  show Calls Tryd.prog 12 #[.agg #[.int .i64 p, .int .i64 s, .bool st, .bool sk, .bool re, .bool fe, .bool ag, .int .i64 c, .int .i64 sl], .agg #[.slice A1 n1 c1, .slice A1' n1' c1', .int .i64 pl1]] w _
  clear _h0
  obtain ⟨i1, i1', -⟩ := h1
  have HT := Lib.hid ht
  clear ht
  have e1 := i1.le
  have e1' := i1'.le
  have I1 := Lib.hid i1
  have I1' := Lib.hid i1'
  clear i1 i1'
  have HP0 := Lib.hid ((RuAt.box w 34 p s st sk re fe ag c sl).alloc (.cells #[.slice A1 n1 c1, .slice A1' n1' c1', .int .i64 pl1] 64))
  have HP1 := Lib.hid (PosAt.box (w.alloc (.cells #[.int .i64 p, .int .i64 s, .bool st, .bool sk, .bool re, .bool fe, .bool ag, .int .i64 c, .int .i64 sl] 34)) 64 A1 n1 c1 A1' n1' c1' pl1)
  go_enter Tryd.func12, Tryd.ntmps12
  go_wp2_with fail
  refine (szPosition_any _ _ _ _ _ _ _ _ _ e1 e1' (by omega) (by omega)).mono ?_
  rintro e w1 ⟨rfl, hb1⟩
  have V0 := HP0.out.below hb1 (by simp <;> omega)
  have q1 := HP1.out.below hb1 (by simp <;> omega)
  have b1 : Below w.heap.size w w1 := (by repeat (first | with_reducible exact Below.refl _ _ | with_reducible assumption | with_reducible refine sub_alloc ?_ _ | (with_reducible refine sub_setCell2 ?_ ?_ _; (focus (first | (simp; done) | (simp <;> omega)))) | with_reducible refine sub_drew ?_ | with_reducible refine below_drewN ?_ _ | with_reducible refine sub_step (by assumption) ?_ (by first | rfl | (simp; done)) | exact Below.refl _ _ | assumption | refine sub_alloc ?_ _ | refine sub_setCell ?_ (by simp <;> omega) _ | refine sub_drew ?_ | refine below_drewN ?_ _ | refine sub_step (by assumption) ?_ (by first | rfl | (simp; done))))
  have V1 : PosAt w1 (w.heap.size + 1) 0 A1 n1 c1 A1' n1' c1' pl1 := by simpa using q1
  obtain ⟨k0, k1, k2, k3, k4, k5, k6, k7, k8⟩ := V0.flat
  obtain ⟨k9, k10, k11⟩ := V1.flat
  clear hb1 q1
  go_wp2_with fail
  · go_ret
    exact ⟨rfl, b1⟩
  have g0 : 0 ≤ szPF 1048576 n1 n1' := by assumption
  obtain ⟨s0, s1⟩ := szPF_ok g0
  have m1 : n1 ≤ 1048576 := by omega
  have m1' : n1' ≤ 1048576 := by omega
  clear g0 s0 s1 e1 e1'
  have J1 := Lib.hid (I1.out.sub b1)
  have J1' := Lib.hid (I1'.out.sub b1)
  have tok1 : True := trivial
  go_region_held3 (fun w' => w'.cell? ⟨w.heap.size, 0, none⟩ = some (.int .i64 p) ∧ w'.cell? ⟨w.heap.size, 1, none⟩ = some (.int .i64 s) ∧ w'.cell? ⟨w.heap.size, 2, none⟩ = some (.bool st) ∧ w'.cell? ⟨w.heap.size, 3, none⟩ = some (.bool sk) ∧ w'.cell? ⟨w.heap.size, 4, none⟩ = some (.bool re) ∧ w'.cell? ⟨w.heap.size, 5, none⟩ = some (.bool fe) ∧ w'.cell? ⟨w.heap.size, 6, none⟩ = some (.bool ag) ∧ w'.cell? ⟨w.heap.size, 7, none⟩ = some (.int .i64 c) ∧ w'.cell? ⟨w.heap.size, 8, none⟩ = some (.int .i64 sl) ∧ w'.cell? ⟨w.heap.size + 1, 0, none⟩ = some (.slice A1 n1 c1) ∧ w'.cell? ⟨w.heap.size + 1, 1, none⟩ = some (.slice A1' n1' c1') ∧ w'.cell? ⟨w.heap.size + 1, 2, none⟩ = some (.int .i64 pl1)) (first | (refine ⟨?_, ?_, ?_, ?_, ?_, ?_, ?_, ?_, ?_, ?_, ?_, ?_⟩ <;> assumption) | go_keep) (first
    | (go_at_call 22; have _t := tok1; refine (toRules_any _ _ _ _ _ _ _ _ _ _).mono ?_; rintro e w2 ⟨rfl, hb2⟩; have hb2 := undrew hb2; clear tok1; have Y0 := V0.below hb2 V0.lt; have Y1 := V1.below hb2 V1.lt; obtain ⟨y0, y1, y2, y3, y4, y5, y6, y7, y8⟩ := Y0.flat; obtain ⟨y9, y10, y11⟩ := Y1.flat)
    | (go_at_call 45; refine (toPosition_any _ _ _ _ _ _ zs1 zs1' _ _ (by exact J1.out.sub hb2) (by exact J1'.out.sub hb2) (by omega) (by omega)).mono ?_; rintro e w3 ⟨B1, d1, B1', d1', rfl, o1, o1', ap1, hb3⟩; have Z0 := Y0.below hb3 Y0.lt; have Z1 := Y1.below hb3 Y1.lt; obtain ⟨z0, z1, z2, z3, z4, z5, z6, z7, z8⟩ := Z0.flat; obtain ⟨z9, z10, z11⟩ := Z1.flat)
    | (go_at_call 44; refine (specPositionText_any _ _ _ _ _ _ _ _ _ _ _ _ _ _ _ zs1 zs1' _ _ (by exact o1.ints) (by exact o1'.ints) (by omega)).mono ?_; rintro e w4 ⟨rfl, hb4⟩; have X0 := Z0.below hb4 Z0.lt; have X1 := Z1.below hb4 Z1.lt; obtain ⟨x0, x1, x2, x3, x4, x5, x6, x7, x8⟩ := X0.flat; obtain ⟨x9, x10, x11⟩ := X1.flat))
  have b14 : Below w1.heap.size w1 w4 := (by repeat (first | with_reducible exact Below.refl _ _ | with_reducible assumption | with_reducible refine sub_alloc ?_ _ | (with_reducible refine sub_setCell2 ?_ ?_ _; (focus (first | (simp; done) | (simp <;> omega)))) | with_reducible refine sub_drew ?_ | with_reducible refine below_drewN ?_ _ | with_reducible refine sub_step (by assumption) ?_ (by first | rfl | (simp; done)) | exact Below.refl _ _ | assumption | refine sub_alloc ?_ _ | refine sub_setCell ?_ (by simp <;> omega) _ | refine sub_drew ?_ | refine below_drewN ?_ _ | refine sub_step (by assumption) ?_ (by first | rfl | (simp; done))))
  have b4 : Below w.heap.size w w4 := sub_step b14 b1 rfl
  have L1 := Lib.hid (J1.out.sub b14)
  have L1' := Lib.hid (J1'.out.sub b14)
  clear o1 o1' ap1 hb2 hb3 hb4 Y0 Y1 Z0 Z1 y0 y1 y2 y3 y4 y5 y6 y7 y8 y9 y10 y11 z0 z1 z2 z3 z4 z5 z6 z7 z8 z9 z10 z11 k0 k1 k2 k3 k4 k5 k6 k7 k8 k9 k10 k11 V0 V1
  go_wp2_with fail
  refine (toPosition_any _ _ _ _ _ _ zs1 zs1' _ _ (by exact L1.out) (by exact L1'.out) (by omega) (by omega)).mono ?_; rintro e w5 ⟨E1, f1, E1', f1', rfl, o1, o1', ap1, hb5⟩
  have Y0 := X0.below hb5 X0.lt
  have Y1 := X1.below hb5 X1.lt
  obtain ⟨y0, y1, y2, y3, y4, y5, y6, y7, y8⟩ := Y0.flat
  obtain ⟨y9, y10, y11⟩ := Y1.flat
  have l50 : w.heap.size < w5.heap.size := Y0.lt
  have l51 : w.heap.size + 1 < w5.heap.size := Y1.lt
  have b45 : Below w4.heap.size w4 (w5.alloc (.cells #[.slice E1 n1 f1, .slice E1' n1' f1', .int .i64 pl1] 36)) := (by repeat (first | with_reducible exact Below.refl _ _ | with_reducible assumption | with_reducible refine sub_alloc ?_ _ | (with_reducible refine sub_setCell2 ?_ ?_ _; (focus (first | (simp; done) | (simp <;> omega)))) | with_reducible refine sub_drew ?_ | with_reducible refine below_drewN ?_ _ | with_reducible refine sub_step (by assumption) ?_ (by first | rfl | (simp; done)) | exact Below.refl _ _ | assumption | refine sub_alloc ?_ _ | refine sub_setCell ?_ (by simp <;> omega) _ | refine sub_drew ?_ | refine below_drewN ?_ _ | refine sub_step (by assumption) ?_ (by first | rfl | (simp; done))))
  have V0 := Y0.alloc (.cells #[.slice E1 n1 f1, .slice E1' n1' f1', .int .i64 pl1] 36)
  have V1 := Y1.alloc (.cells #[.slice E1 n1 f1, .slice E1' n1' f1', .int .i64 pl1] 36)
  have V2 := PosAt.box w5 36 E1 n1 f1 E1' n1' f1' pl1
  have O1 := Lib.hid (o1.ints.sub (w' := w5.alloc (.cells #[.slice E1 n1 f1, .slice E1' n1' f1', .int .i64 pl1] 36)) (Below.alloc (Below.refl _ _) (Nat.le_refl _) _))
  have O1' := Lib.hid (o1'.ints.sub (w' := w5.alloc (.cells #[.slice E1 n1 f1, .slice E1' n1' f1', .int .i64 pl1] 36)) (Below.alloc (Below.refl _ _) (Nat.le_refl _) _))
  have TB := Lib.hid (HT.out.below (sub_step b45 b4 rfl) (Nat.le_refl _))
  go_wp2_with fail
  obtain ⟨k0, k1, k2, k3, k4, k5, k6, k7, k8⟩ := V0.flat
  obtain ⟨k9, k10, k11⟩ := V2.flat
  have tok2 : True := trivial
  go_region_held3 (fun w' => w'.cell? ⟨w.heap.size, 0, none⟩ = some (.int .i64 p) ∧ w'.cell? ⟨w.heap.size, 1, none⟩ = some (.int .i64 s) ∧ w'.cell? ⟨w.heap.size, 2, none⟩ = some (.bool st) ∧ w'.cell? ⟨w.heap.size, 3, none⟩ = some (.bool sk) ∧ w'.cell? ⟨w.heap.size, 4, none⟩ = some (.bool re) ∧ w'.cell? ⟨w.heap.size, 5, none⟩ = some (.bool fe) ∧ w'.cell? ⟨w.heap.size, 6, none⟩ = some (.bool ag) ∧ w'.cell? ⟨w.heap.size, 7, none⟩ = some (.int .i64 c) ∧ w'.cell? ⟨w.heap.size, 8, none⟩ = some (.int .i64 sl) ∧ w'.cell? ⟨w5.heap.size, 0, none⟩ = some (.slice E1 n1 f1) ∧ w'.cell? ⟨w5.heap.size, 1, none⟩ = some (.slice E1' n1' f1') ∧ w'.cell? ⟨w5.heap.size, 2, none⟩ = some (.int .i64 pl1)) (first | (refine ⟨?_, ?_, ?_, ?_, ?_, ?_, ?_, ?_, ?_, ?_, ?_, ?_⟩ <;> assumption) | go_keep) (first
    | (go_at_call 22; have _t := tok2; refine (toRules_any _ _ _ _ _ _ _ _ _ _).mono ?_; rintro e w6 ⟨rfl, hb6⟩; have hb6 := undrew hb6; clear tok2; have Z0 := V0.below hb6 V0.lt; have Z1 := V1.below hb6 V1.lt; have Z2 := V2.below hb6 V2.lt; obtain ⟨z0, z1, z2, z3, z4, z5, z6, z7, z8⟩ := Z0.flat; obtain ⟨z9, z10, z11⟩ := Z2.flat)
    | (go_at_call 46; refine (PositionText_any _ _ _ _ _ _ _ _ _ _ _ _ _ _ _ zs1 zs1' _ _ (by exact O1.out.sub hb6) (by exact O1'.out.sub hb6) (by omega) (by exact TB.out.below hb6 (Nat.le_refl _))).mono ?_; rintro e w7 ⟨rfl, hb7⟩; have W0 := Z0.below hb7 Z0.lt; have W1 := Z1.below hb7 Z1.lt; have W2 := Z2.below hb7 Z2.lt; obtain ⟨u0, u1, u2, u3, u4, u5, u6, u7, u8⟩ := W0.flat; obtain ⟨u9, u10, u11⟩ := W2.flat))
  have b57 : Below (w5.alloc (.cells #[.slice E1 n1 f1, .slice E1' n1' f1', .int .i64 pl1] 36)).heap.size (w5.alloc (.cells #[.slice E1 n1 f1, .slice E1' n1' f1', .int .i64 pl1] 36)) w7 := (by repeat (first | with_reducible exact Below.refl _ _ | with_reducible assumption | with_reducible refine sub_alloc ?_ _ | (with_reducible refine sub_setCell2 ?_ ?_ _; (focus (first | (simp; done) | (simp <;> omega)))) | with_reducible refine sub_drew ?_ | with_reducible refine below_drewN ?_ _ | with_reducible refine sub_step (by assumption) ?_ (by first | rfl | (simp; done)) | exact Below.refl _ _ | assumption | refine sub_alloc ?_ _ | refine sub_setCell ?_ (by simp <;> omega) _ | refine sub_drew ?_ | refine below_drewN ?_ _ | refine sub_step (by assumption) ?_ (by first | rfl | (simp; done))))
  have b47 : Below w4.heap.size w4 w7 := sub_step b57 b45 rfl
  have b7 : Below w.heap.size w w7 := sub_step b47 b4 rfl
  have M1 := Lib.hid (O1.out.sub b57)
  have M1' := Lib.hid (O1'.out.sub b57)
  have N1 := Lib.hid (L1.out.sub b47)
  have N1' := Lib.hid (L1'.out.sub b47)
  obtain ⟨v0, v1, v2⟩ := W1.flat
  clear o1 o1' ap1 hb5 hb6 hb7 Y0 Y1 Z0 Z1 Z2 y0 y1 y2 y3 y4 y5 y6 y7 y8 y9 y10 y11 z0 z1 z2 z3 z4 z5 z6 z7 z8 z9 z10 z11 k0 k1 k2 k3 k4 k5 k6 k7 k8 k9 k10 k11 V0 V1 V2
  go_wp2_with fail
  go_region_held3 (fun w' => w'.cell? ⟨w.heap.size + 1, 0, none⟩ = some (.slice A1 n1 c1) ∧ w'.cell? ⟨w.heap.size + 1, 1, none⟩ = some (.slice A1' n1' c1') ∧ w'.cell? ⟨w.heap.size + 1, 2, none⟩ = some (.int .i64 pl1) ∧ w'.cell? ⟨w5.heap.size, 0, none⟩ = some (.slice E1 n1 f1) ∧ w'.cell? ⟨w5.heap.size, 1, none⟩ = some (.slice E1' n1' f1') ∧ w'.cell? ⟨w5.heap.size, 2, none⟩ = some (.int .i64 pl1)) (first | (refine ⟨?_, ?_, ?_, ?_, ?_, ?_⟩ <;> assumption) | go_keep) (first
    | (go_at_call 45; refine (toPosition_any _ _ _ _ _ _ zs1 zs1' _ _ (by exact N1.out) (by exact N1'.out) (by omega) (by omega)).mono ?_; rintro e w8 ⟨G1, g1, G1', g1', rfl, r0, r0', ap0, hb8⟩; have hb8 := undrew hb8; have U1 := W1.below hb8 W1.lt; have U2 := W2.below hb8 W2.lt; obtain ⟨t0, t1, t2⟩ := U1.flat; obtain ⟨t5, t6, t7⟩ := U2.flat)
    | (go_at_call 24; refine (eqPosition_any _ _ _ _ _ _ _ _ _ _ _ _ zs1 zs1' zs1 zs1' _ _ _ (by exact M1.out.sub hb8) (by exact M1'.out.sub hb8) (by exact r0.ints) (by exact r0'.ints)).mono ?_; rintro e w9 ⟨rfl, hb9⟩; have D1 := U1.below hb9 U1.lt; have D2 := U2.below hb9 U2.lt; obtain ⟨d0, d1, d2⟩ := D1.flat; obtain ⟨d5, d6, d7⟩ := D2.flat))
  have b79 : Below w7.heap.size w7 w9 := (by repeat (first | with_reducible exact Below.refl _ _ | with_reducible assumption | with_reducible refine sub_alloc ?_ _ | (with_reducible refine sub_setCell2 ?_ ?_ _; (focus (first | (simp; done) | (simp <;> omega)))) | with_reducible refine sub_drew ?_ | with_reducible refine below_drewN ?_ _ | with_reducible refine sub_step (by assumption) ?_ (by first | rfl | (simp; done)) | exact Below.refl _ _ | assumption | refine sub_alloc ?_ _ | refine sub_setCell ?_ (by simp <;> omega) _ | refine sub_drew ?_ | refine below_drewN ?_ _ | refine sub_step (by assumption) ?_ (by first | rfl | (simp; done))))
  go_wp2_with fail
  go_ret
  exact ⟨rfl, sub_step b79 b7 rfl⟩
end Go.Proofs.YtnanaldolnehiabDoor
