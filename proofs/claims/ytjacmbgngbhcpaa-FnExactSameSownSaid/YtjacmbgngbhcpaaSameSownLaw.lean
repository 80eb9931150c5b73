/-
  The law FnExactSameSown, walked.
-/
import Derived.Test.YtjacmbgngbhcpaaSameS
import Derived.Outline
namespace Go.Proofs.Ytjacmbgngbhcpaa
open Go.ChangeShapes Go.WideShapes Go.RowKit Go.Deep

set_option maxHeartbeats 2000000 in
theorem FnExactSameSown_walk (A0 : Option Addr) (n0 c0 : Nat) (zs0 : List Int) (A0' : Option Addr) (n0' c0' : Nat) (zs0' : List Int) (la0 lp0 : Int) (A1 : Option Addr) (n1 c1 : Nat) (zs1 : List Int) (A1' : Option Addr) (n1' c1' : Nat) (zs1' : List Int) (la1 lp1 : Int) (w : World)
    (h0 : Ints w w.heap.size A0 n0 c0 zs0 ∧ Ints w w.heap.size A0' n0' c0' zs0' ∧ (∀ z ∈ zs0, in64 z) ∧ (∀ z ∈ zs0', in64 z) ∧ in64 la0 ∧ in64 lp0) (h1 : Ints w w.heap.size A1 n1 c1 zs1 ∧ Ints w w.heap.size A1' n1' c1' zs1' ∧ (∀ z ∈ zs1, in64 z) ∧ (∀ z ∈ zs1', in64 z) ∧ in64 la1 ∧ in64 lp1) :
    Calls Try.prog 4 #[.agg #[.slice A0 n0 c0, .slice A0' n0' c0', .int .i64 la0, .int .i64 lp0], .agg #[.slice A1 n1 c1, .slice A1' n1' c1', .int .i64 la1, .int .i64 lp1]] w fun e w' => e = .returned (.bool true) ∧ Below w.heap.size w w' := by
  obtain ⟨i0, i0', -⟩ := h0
  obtain ⟨i1, i1', -⟩ := h1
  have e0 := i0.le
  have e0' := i0'.le
  have e1 := i1.le
  have e1' := i1'.le
  have I0 := Lib.hid i0
  have I0' := Lib.hid i0'
  have I1 := Lib.hid i1
  have I1' := Lib.hid i1'
  clear i0 i0' i1 i1'
  have P0 := (SoAt.box w 24 A0 n0 c0 A0' n0' c0' la0 lp0).alloc (.cells #[.slice A1 n1 c1, .slice A1' n1' c1', .int .i64 la1, .int .i64 lp1] 24)
  have P1 := SoAt.box (w.alloc (.cells #[.slice A0 n0 c0, .slice A0' n0' c0', .int .i64 la0, .int .i64 lp0] 24)) 24 A1 n1 c1 A1' n1' c1' la1 lp1
  have HP0 := Lib.hid P0
  have HP1 := Lib.hid P1
  clear P0 P1
  go_enter Try.func4, Try.ntmps4
  go_wp2_with fail
  refine (szSown_any _ _ _ _ _ _ _ _ _ _ e0 e0' (by omega) (by omega)).mono ?_
  rintro e w1 ⟨rfl, hb1⟩
  have q0 := HP0.out.below hb1 (by simp <;> omega)
  have q1 := HP1.out.below hb1 (by simp <;> omega)
  have Q0 := Lib.hid q0
  have hb1' : Below w.heap.size w w1 := (by repeat (first | with_reducible exact Below.refl _ _ | with_reducible assumption | with_reducible refine sub_alloc ?_ _ | (with_reducible refine sub_setCell2 ?_ ?_ _; (focus (first | (simp; done) | (simp <;> omega)))) | with_reducible refine sub_drew ?_ | with_reducible refine below_drewN ?_ _ | with_reducible refine sub_step (by assumption) ?_ (by first | rfl | (simp; done)) | exact Below.refl _ _ | assumption | refine sub_alloc ?_ _ | refine sub_setCell ?_ (by simp <;> omega) _ | refine sub_drew ?_ | refine below_drewN ?_ _ | refine sub_step (by assumption) ?_ (by first | rfl | (simp; done))))
  obtain ⟨k0, k1, k2, kq0⟩ := q1.flat
  simp at k0 k1 k2 kq0
  have HB1 := Lib.hid hb1
  clear hb1
  go_wp2_with fail
  · go_ret
    exact ⟨rfl, hb1'⟩
  have g0 : 0 ≤ szPF 1048576 n0 n0' := by assumption
  obtain ⟨s0, s1⟩ := szPF_ok g0
  have s2 : szPF 1048576 n0 n0' ≤ 1048576 := by omega
  clear s1
  refine (szSown_any _ _ _ _ _ _ _ _ _ _ e1 e1' g0 s2).mono ?_
  rintro e w2 ⟨rfl, hb2⟩
  have hb2' : Below w.heap.size w w2 := (by repeat (first | with_reducible exact Below.refl _ _ | with_reducible assumption | with_reducible refine sub_alloc ?_ _ | (with_reducible refine sub_setCell2 ?_ ?_ _; (focus (first | (simp; done) | (simp <;> omega)))) | with_reducible refine sub_drew ?_ | with_reducible refine below_drewN ?_ _ | with_reducible refine sub_step (by assumption) ?_ (by first | rfl | (simp; done)) | exact Below.refl _ _ | assumption | refine sub_alloc ?_ _ | refine sub_setCell ?_ (by simp <;> omega) _ | refine sub_drew ?_ | refine below_drewN ?_ _ | refine sub_step (by assumption) ?_ (by first | rfl | (simp; done))))
  have q0 := Q0.out.below hb2 Q0.out.lt
  have q1 := q1.below hb2 q1.lt
  obtain ⟨k0, k1, k2, kq0⟩ := q0.flat
  obtain ⟨k3, k4, k5, kq3⟩ := q1.flat
  simp at k3 k4 k5 kq3
  clear hb2 q0
  go_wp2_with fail
  · go_ret
    exact ⟨rfl, hb2'⟩
  have g1 : 0 ≤ szPF (szPF 1048576 n0 n0') n1 n1' := by assumption
  obtain ⟨t0, -⟩ := szPF_ok g1
  have m0 : n0 ≤ 1048576 := by omega
  have m0' : n0' ≤ 1048576 := by omega
  have m1 : n1 ≤ 1048576 := by omega
  have m1' : n1' ≤ 1048576 := by omega
  clear g0 g1 s0 s2 t0 e0 e0' e1 e1'
  have J0 := Lib.hid (I0.out.sub hb2')
  have J0' := Lib.hid (I0'.out.sub hb2')
  have J1 := Lib.hid (I1.out.sub hb2')
  have J1' := Lib.hid (I1'.out.sub hb2')
  have tok1 : True := trivial
  have V0 : SoAt w2 w.heap.size 0 A0 n0 c0 A0' n0' c0' la0 lp0 := by simpa [SoAt] using ⟨k0, k1, k2, kq0⟩
  have V1 : SoAt w2 (w.heap.size + 1) 0 A1 n1 c1 A1' n1' c1' la1 lp1 := by simpa [SoAt] using ⟨k3, k4, k5, kq3⟩
  go_region_held3 (fun w' => w'.cell? ⟨w.heap.size, 0, none⟩ = some (.slice A0 n0 c0) ∧ w'.cell? ⟨w.heap.size, 1, none⟩ = some (.slice A0' n0' c0') ∧ w'.cell? ⟨w.heap.size, 2, none⟩ = some (.int .i64 la0) ∧ w'.cell? ⟨w.heap.size, 3, none⟩ = some (.int .i64 lp0) ∧ w'.cell? ⟨w.heap.size + 1, 0, none⟩ = some (.slice A1 n1 c1) ∧ w'.cell? ⟨w.heap.size + 1, 1, none⟩ = some (.slice A1' n1' c1') ∧ w'.cell? ⟨w.heap.size + 1, 2, none⟩ = some (.int .i64 la1) ∧ w'.cell? ⟨w.heap.size + 1, 3, none⟩ = some (.int .i64 lp1)) (first | (refine ⟨?_, ?_, ?_, ?_, ?_, ?_, ?_, ?_⟩ <;> assumption) | go_keep) (first
    | (go_at_call 20; have _t := tok1; refine (toSown_any _ _ _ _ _ _ zs0 zs0' _ _ _ (by exact J0.out) (by exact J0'.out) (by omega) (by omega)).mono ?_; rintro e w3 ⟨B0, d0, B0', d0', rfl, o0, o0', ap0, hb3⟩; have hb3 := undrew hb3; clear tok1; have Y0 := V0.below hb3 V0.lt; have Y1 := V1.below hb3 V1.lt; obtain ⟨y0, y1, y2, yq0⟩ := Y0.flat; obtain ⟨y3, y4, y5, yq3⟩ := Y1.flat)
    | (go_at_call 20; refine (toSown_any _ _ _ _ _ _ zs1 zs1' _ _ _ (by exact J1.out.sub hb3) (by exact J1'.out.sub hb3) (by omega) (by omega)).mono ?_; rintro e w4 ⟨B1, d1, B1', d1', rfl, o1, o1', ap1, hb4⟩; have Z0 := Y0.below hb4 Y0.lt; have Z1 := Y1.below hb4 Y1.lt; obtain ⟨z0, z1, z2, zq0⟩ := Z0.flat; obtain ⟨z3, z4, z5, zq3⟩ := Z1.flat)
    | (go_at_call 23; refine (specSameSown_any _ _ _ _ _ _ _ _ _ _ _ _ zs0 zs0' zs1 zs1' _ _ _ _ _ (by exact o0.ints.sub hb4) (by exact o0'.ints.sub hb4) (by exact o1.ints) (by exact o1'.ints)).mono ?_; rintro e w5 ⟨rfl, hb5⟩; have X0 := Z0.below hb5 Z0.lt; have X1 := Z1.below hb5 Z1.lt; obtain ⟨x0, x1, x2, xq0⟩ := X0.flat; obtain ⟨x3, x4, x5, xq3⟩ := X1.flat))
  have b25 : Below w2.heap.size w2 w5 := (by repeat (first | with_reducible exact Below.refl _ _ | with_reducible assumption | with_reducible refine sub_alloc ?_ _ | (with_reducible refine sub_setCell2 ?_ ?_ _; (focus (first | (simp; done) | (simp <;> omega)))) | with_reducible refine sub_drew ?_ | with_reducible refine below_drewN ?_ _ | with_reducible refine sub_step (by assumption) ?_ (by first | rfl | (simp; done)) | exact Below.refl _ _ | assumption | refine sub_alloc ?_ _ | refine sub_setCell ?_ (by simp <;> omega) _ | refine sub_drew ?_ | refine below_drewN ?_ _ | refine sub_step (by assumption) ?_ (by first | rfl | (simp; done))))
  have b5 : Below w.heap.size w w5 := (by repeat (first | with_reducible exact Below.refl _ _ | with_reducible assumption | with_reducible refine sub_alloc ?_ _ | (with_reducible refine sub_setCell2 ?_ ?_ _; (focus (first | (simp; done) | (simp <;> omega)))) | with_reducible refine sub_drew ?_ | with_reducible refine below_drewN ?_ _ | with_reducible refine sub_step (by assumption) ?_ (by first | rfl | (simp; done)) | exact Below.refl _ _ | assumption | refine sub_alloc ?_ _ | refine sub_setCell ?_ (by simp <;> omega) _ | refine sub_drew ?_ | refine below_drewN ?_ _ | refine sub_step (by assumption) ?_ (by first | rfl | (simp; done))))
  have L0 := Lib.hid (J0.out.sub b25)
  have L0' := Lib.hid (J0'.out.sub b25)
  have L1 := Lib.hid (J1.out.sub b25)
  have L1' := Lib.hid (J1'.out.sub b25)
  clear o0 o0' o1 o1' ap0 ap1 hb3 hb4 hb5 Y0 Y1 Z0 Z1 y0 y1 y2 yq0 y3 y4 y5 yq3 z0 z1 z2 zq0 z3 z4 z5 zq3 V0 V1 k0 k1 k2 kq0 k3 k4 k5 kq3 q0 q1
  go_wp2_with fail
  refine (toSown_any _ _ _ _ _ _ zs0 zs0' _ _ _ (by exact L0.out) (by exact L0'.out) (by omega) (by omega)).mono ?_; rintro e w6 ⟨E0, f0, E0', f0', rfl, o0, o0', ap0, hb6⟩
  have Y0 := X0.below hb6 X0.lt
  have Y1 := X1.below hb6 X1.lt
  obtain ⟨y0, y1, y2, yq0⟩ := Y0.flat
  obtain ⟨y3, y4, y5, yq3⟩ := Y1.flat
  have l60 : w.heap.size < w6.heap.size := Y0.lt
  have l61 : w.heap.size + 1 < w6.heap.size := Y1.lt
  go_wp2_with fail
  have X6 := SoAt.box w6 27 E0 n0 f0 E0' n0' f0' la0 lp0
  have b6 : Below w5.heap.size w5 (w6.alloc (.cells #[.slice E0 n0 f0, .slice E0' n0' f0', .int .i64 la0, .int .i64 lp0] 27)) := (by repeat (first | with_reducible exact Below.refl _ _ | with_reducible assumption | with_reducible refine sub_alloc ?_ _ | (with_reducible refine sub_setCell2 ?_ ?_ _; (focus (first | (simp; done) | (simp <;> omega)))) | with_reducible refine sub_drew ?_ | with_reducible refine below_drewN ?_ _ | with_reducible refine sub_step (by assumption) ?_ (by first | rfl | (simp; done)) | exact Below.refl _ _ | assumption | refine sub_alloc ?_ _ | refine sub_setCell ?_ (by simp <;> omega) _ | refine sub_drew ?_ | refine below_drewN ?_ _ | refine sub_step (by assumption) ?_ (by first | rfl | (simp; done))))
  refine (toSown_any _ _ _ _ _ _ zs1 zs1' _ _ _ (by exact L1.out.sub b6) (by exact L1'.out.sub b6) (by omega) (by omega)).mono ?_; rintro e w7 ⟨E1, f1, E1', f1', rfl, o1, o1', ap1, hb7⟩
  have Z0 := (Y0.alloc _).below hb7 (Y0.alloc _).lt
  have Z1 := (Y1.alloc _).below hb7 (Y1.alloc _).lt
  have Z6 := X6.below hb7 X6.lt
  have O0 := Lib.hid (o0.ints.sub (w' := w7) (Below.trans (Below.alloc (Below.refl _ _) (Nat.le_refl _) _) (hb7.mono (by simp))))
  have O0' := Lib.hid (o0'.ints.sub (w' := w7) (Below.trans (Below.alloc (Below.refl _ _) (Nat.le_refl _) _) (hb7.mono (by simp))))
  have O1 := Lib.hid o1.ints
  have O1' := Lib.hid o1'.ints
  have b57 : Below w5.heap.size w5 w7 := (by repeat (first | with_reducible exact Below.refl _ _ | with_reducible assumption | with_reducible refine sub_alloc ?_ _ | (with_reducible refine sub_setCell2 ?_ ?_ _; (focus (first | (simp; done) | (simp <;> omega)))) | with_reducible refine sub_drew ?_ | with_reducible refine below_drewN ?_ _ | with_reducible refine sub_step (by assumption) ?_ (by first | rfl | (simp; done)) | exact Below.refl _ _ | assumption | refine sub_alloc ?_ _ | refine sub_setCell ?_ (by simp <;> omega) _ | refine sub_drew ?_ | refine below_drewN ?_ _ | refine sub_step (by assumption) ?_ (by first | rfl | (simp; done))))
  have b7 : Below w.heap.size w w7 := sub_step b57 b5 rfl
  obtain ⟨z0, z1, z2, zq0⟩ := Z0.flat
  obtain ⟨z3, z4, z5, zq3⟩ := Z1.flat
  obtain ⟨z6, z7, z8, zq6⟩ := Z6.flat
  have l70 : w.heap.size < w7.heap.size := Z0.lt
  have l71 : w.heap.size + 1 < w7.heap.size := Z1.lt
  have l76 : w6.heap.size < w7.heap.size := Z6.lt
  clear o0 o0' o1 o1' ap0 ap1 hb6 hb7 y0 y1 y2 yq0 y3 y4 y5 yq3 X6
  go_wp2_with fail
  refine (SameSown_any _ _ _ _ _ _ _ _ _ _ _ _ zs0 zs0' zs1 zs1' _ _ _ _ _ (by exact O0.out.sub (by repeat (first | with_reducible exact Below.refl _ _ | with_reducible assumption | with_reducible refine sub_alloc ?_ _ | (with_reducible refine sub_setCell2 ?_ ?_ _; (focus (first | (simp; done) | (simp <;> omega)))) | with_reducible refine sub_drew ?_ | with_reducible refine below_drewN ?_ _ | with_reducible refine sub_step (by assumption) ?_ (by first | rfl | (simp; done)) | exact Below.refl _ _ | assumption | refine sub_alloc ?_ _ | refine sub_setCell ?_ (by simp <;> omega) _ | refine sub_drew ?_ | refine below_drewN ?_ _ | refine sub_step (by assumption) ?_ (by first | rfl | (simp; done))))) (by exact O0'.out.sub (by repeat (first | with_reducible exact Below.refl _ _ | with_reducible assumption | with_reducible refine sub_alloc ?_ _ | (with_reducible refine sub_setCell2 ?_ ?_ _; (focus (first | (simp; done) | (simp <;> omega)))) | with_reducible refine sub_drew ?_ | with_reducible refine below_drewN ?_ _ | with_reducible refine sub_step (by assumption) ?_ (by first | rfl | (simp; done)) | exact Below.refl _ _ | assumption | refine sub_alloc ?_ _ | refine sub_setCell ?_ (by simp <;> omega) _ | refine sub_drew ?_ | refine below_drewN ?_ _ | refine sub_step (by assumption) ?_ (by first | rfl | (simp; done))))) (by exact O1.out.sub (by repeat (first | with_reducible exact Below.refl _ _ | with_reducible assumption | with_reducible refine sub_alloc ?_ _ | (with_reducible refine sub_setCell2 ?_ ?_ _; (focus (first | (simp; done) | (simp <;> omega)))) | with_reducible refine sub_drew ?_ | with_reducible refine below_drewN ?_ _ | with_reducible refine sub_step (by assumption) ?_ (by first | rfl | (simp; done)) | exact Below.refl _ _ | assumption | refine sub_alloc ?_ _ | refine sub_setCell ?_ (by simp <;> omega) _ | refine sub_drew ?_ | refine below_drewN ?_ _ | refine sub_step (by assumption) ?_ (by first | rfl | (simp; done))))) (by exact O1'.out.sub (by repeat (first | with_reducible exact Below.refl _ _ | with_reducible assumption | with_reducible refine sub_alloc ?_ _ | (with_reducible refine sub_setCell2 ?_ ?_ _; (focus (first | (simp; done) | (simp <;> omega)))) | with_reducible refine sub_drew ?_ | with_reducible refine below_drewN ?_ _ | with_reducible refine sub_step (by assumption) ?_ (by first | rfl | (simp; done)) | exact Below.refl _ _ | assumption | refine sub_alloc ?_ _ | refine sub_setCell ?_ (by simp <;> omega) _ | refine sub_drew ?_ | refine below_drewN ?_ _ | refine sub_step (by assumption) ?_ (by first | rfl | (simp; done)))))).mono ?_; rintro e w8 ⟨rfl, hb8⟩
  have X7 := (SoAt.box w7 27 E1 n1 f1 E1' n1' f1' la1 lp1).below hb8 (by simp)
  have T0 := (Z0.alloc _).below hb8 (Z0.alloc _).lt
  have T1 := (Z1.alloc _).below hb8 (Z1.alloc _).lt
  have T6 := (Z6.alloc _).below hb8 (Z6.alloc _).lt
  have b78 : Below w7.heap.size w7 w8 := (by repeat (first | with_reducible exact Below.refl _ _ | with_reducible assumption | with_reducible refine sub_alloc ?_ _ | (with_reducible refine sub_setCell2 ?_ ?_ _; (focus (first | (simp; done) | (simp <;> omega)))) | with_reducible refine sub_drew ?_ | with_reducible refine below_drewN ?_ _ | with_reducible refine sub_step (by assumption) ?_ (by first | rfl | (simp; done)) | exact Below.refl _ _ | assumption | refine sub_alloc ?_ _ | refine sub_setCell ?_ (by simp <;> omega) _ | refine sub_drew ?_ | refine below_drewN ?_ _ | refine sub_step (by assumption) ?_ (by first | rfl | (simp; done))))
  have b58 : Below w5.heap.size w5 w8 := sub_step b78 b57 rfl
  have b8 : Below w.heap.size w w8 := sub_step b58 b5 rfl
  have M0 := Lib.hid (O0.out.sub b78)
  have M0' := Lib.hid (O0'.out.sub b78)
  have M1 := Lib.hid (O1.out.sub b78)
  have M1' := Lib.hid (O1'.out.sub b78)
  have N0 := Lib.hid (L0.out.sub b58)
  have N0' := Lib.hid (L0'.out.sub b58)
  have N1 := Lib.hid (L1.out.sub b58)
  have N1' := Lib.hid (L1'.out.sub b58)
  obtain ⟨t0, t1, t2, tq0⟩ := T0.flat
  obtain ⟨t3, t4, t5, tq3⟩ := T1.flat
  obtain ⟨t6, t7, t8, tq6⟩ := T6.flat
  obtain ⟨x6, x7, x8, xq6⟩ := X7.flat
  clear z0 z1 z2 zq0 z3 z4 z5 zq3 z6 z7 z8 zq6 hb8
  go_wp2_with fail
  go_region_held3 (fun w' => w'.cell? ⟨w.heap.size, 0, none⟩ = some (.slice A0 n0 c0) ∧ w'.cell? ⟨w.heap.size, 1, none⟩ = some (.slice A0' n0' c0') ∧ w'.cell? ⟨w.heap.size, 2, none⟩ = some (.int .i64 la0) ∧ w'.cell? ⟨w.heap.size, 3, none⟩ = some (.int .i64 lp0) ∧ w'.cell? ⟨w6.heap.size, 0, none⟩ = some (.slice E0 n0 f0) ∧ w'.cell? ⟨w6.heap.size, 1, none⟩ = some (.slice E0' n0' f0') ∧ w'.cell? ⟨w6.heap.size, 2, none⟩ = some (.int .i64 la0) ∧ w'.cell? ⟨w6.heap.size, 3, none⟩ = some (.int .i64 lp0)) (first | (refine ⟨?_, ?_, ?_, ?_, ?_, ?_, ?_, ?_⟩ <;> assumption) | go_keep) (first
    | (go_at_call 20; refine (toSown_any _ _ _ _ _ _ zs0 zs0' _ _ _ (by exact N0.out) (by exact N0'.out) (by omega) (by omega)).mono ?_; rintro e w9 ⟨G0, g0, G0', g0', rfl, r0, r0', ap0, hb9⟩; have hb9 := undrew hb9; have U0 := T0.below hb9 T0.lt; have U1 := T1.below hb9 T1.lt; have U6 := T6.below hb9 T6.lt; have U7 := X7.below hb9 X7.lt; obtain ⟨u0, u1, u2, uq0⟩ := U0.flat; obtain ⟨u3, u4, u5, uq3⟩ := U6.flat)
    | (go_at_call 22; refine (eqSown_any _ _ _ _ _ _ _ _ _ _ _ _ zs0 zs0' zs0 zs0' _ _ _ _ _ (by exact M0.out.sub hb9) (by exact M0'.out.sub hb9) (by exact r0.ints) (by exact r0'.ints)).mono ?_; rintro e w10 ⟨rfl, hb10⟩; have D0 := U0.below hb10 U0.lt; have D1 := U1.below hb10 U1.lt; have D6 := U6.below hb10 U6.lt; have D7 := U7.below hb10 U7.lt; obtain ⟨d0, d1, d2, dq0⟩ := D0.flat; obtain ⟨d3, d4, d5, dq3⟩ := D6.flat))
  have b810 : Below w8.heap.size w8 w10 := (by repeat (first | with_reducible exact Below.refl _ _ | with_reducible assumption | with_reducible refine sub_alloc ?_ _ | (with_reducible refine sub_setCell2 ?_ ?_ _; (focus (first | (simp; done) | (simp <;> omega)))) | with_reducible refine sub_drew ?_ | with_reducible refine below_drewN ?_ _ | with_reducible refine sub_step (by assumption) ?_ (by first | rfl | (simp; done)) | exact Below.refl _ _ | assumption | refine sub_alloc ?_ _ | refine sub_setCell ?_ (by simp <;> omega) _ | refine sub_drew ?_ | refine below_drewN ?_ _ | refine sub_step (by assumption) ?_ (by first | rfl | (simp; done))))
  have b10 : Below w.heap.size w w10 := sub_step b810 b8 rfl
  have R1 := Lib.hid (M1.out.sub b810)
  have R1' := Lib.hid (M1'.out.sub b810)
  have K1 := Lib.hid (N1.out.sub b810)
  have K1' := Lib.hid (N1'.out.sub b810)
  obtain ⟨v3, v4, v5, vq3⟩ := D1.flat
  obtain ⟨v6, v7, v8, vq6⟩ := D7.flat
  clear r0 r0' ap0 hb9 hb10 u0 u1 u2 uq0 u3 u4 u5 uq3 d0 d1 d2 dq0 d3 d4 d5 dq3 U0 U1 U6 U7
  go_wp2_with fail
  go_region_held3 (fun w' => w'.cell? ⟨w.heap.size + 1, 0, none⟩ = some (.slice A1 n1 c1) ∧ w'.cell? ⟨w.heap.size + 1, 1, none⟩ = some (.slice A1' n1' c1') ∧ w'.cell? ⟨w.heap.size + 1, 2, none⟩ = some (.int .i64 la1) ∧ w'.cell? ⟨w.heap.size + 1, 3, none⟩ = some (.int .i64 lp1) ∧ w'.cell? ⟨w7.heap.size, 0, none⟩ = some (.slice E1 n1 f1) ∧ w'.cell? ⟨w7.heap.size, 1, none⟩ = some (.slice E1' n1' f1') ∧ w'.cell? ⟨w7.heap.size, 2, none⟩ = some (.int .i64 la1) ∧ w'.cell? ⟨w7.heap.size, 3, none⟩ = some (.int .i64 lp1)) (first | (refine ⟨?_, ?_, ?_, ?_, ?_, ?_, ?_, ?_⟩ <;> assumption) | go_keep) (first
    | (go_at_call 20; refine (toSown_any _ _ _ _ _ _ zs1 zs1' _ _ _ (by exact K1.out) (by exact K1'.out) (by omega) (by omega)).mono ?_; rintro e w11 ⟨G1, g1, G1', g1', rfl, r0, r0', ap0, hb11⟩; have hb11 := undrew hb11; have U1 := D1.below hb11 D1.lt; have U7 := D7.below hb11 D7.lt; obtain ⟨u0, u1, u2, uq0⟩ := U1.flat; obtain ⟨u3, u4, u5, uq3⟩ := U7.flat)
    | (go_at_call 22; refine (eqSown_any _ _ _ _ _ _ _ _ _ _ _ _ zs1 zs1' zs1 zs1' _ _ _ _ _ (by exact R1.out.sub hb11) (by exact R1'.out.sub hb11) (by exact r0.ints) (by exact r0'.ints)).mono ?_; rintro e w12 ⟨rfl, hb12⟩; have D1 := U1.below hb12 U1.lt; have D7 := U7.below hb12 U7.lt; obtain ⟨d0, d1, d2, dq0⟩ := D1.flat; obtain ⟨d3, d4, d5, dq3⟩ := D7.flat))
  have b12 : Below w10.heap.size w10 w12 := (by repeat (first | with_reducible exact Below.refl _ _ | with_reducible assumption | with_reducible refine sub_alloc ?_ _ | (with_reducible refine sub_setCell2 ?_ ?_ _; (focus (first | (simp; done) | (simp <;> omega)))) | with_reducible refine sub_drew ?_ | with_reducible refine below_drewN ?_ _ | with_reducible refine sub_step (by assumption) ?_ (by first | rfl | (simp; done)) | exact Below.refl _ _ | assumption | refine sub_alloc ?_ _ | refine sub_setCell ?_ (by simp <;> omega) _ | refine sub_drew ?_ | refine below_drewN ?_ _ | refine sub_step (by assumption) ?_ (by first | rfl | (simp; done))))
  go_wp2_with fail
  go_ret
  exact ⟨rfl, sub_step b12 b10 rfl⟩
end Go.Proofs.Ytjacmbgngbhcpaa
