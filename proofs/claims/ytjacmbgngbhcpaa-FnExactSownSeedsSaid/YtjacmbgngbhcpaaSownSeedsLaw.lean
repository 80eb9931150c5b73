/-
  The law FnExactSownSeeds, walked.
-/
import Derived.Test.YtjacmbgngbhcpaaSownSeeds
import Derived.Outline
set_option linter.unusedSimpArgs false
set_option linter.unusedVariables false
namespace Go.Proofs.Ytjacmbgngbhcpaa
open Go.ChangeShapes Go.WideShapes Go.RowKit Go.Deep

set_option maxHeartbeats 2000000 in
theorem FnExactSownSeeds_walk (A1 : Option Addr) (n1 c1 : Nat) (zs1 : List Int) (A1' : Option Addr) (n1' c1' : Nat) (zs1' : List Int) (la1 lp1 : Int) (w : World)
    (h1 : Ints w w.heap.size A1 n1 c1 zs1 ∧ Ints w w.heap.size A1' n1' c1' zs1' ∧ (∀ z ∈ zs1, in64 z) ∧ (∀ z ∈ zs1', in64 z) ∧ in64 la1 ∧ in64 lp1) :
    Calls Try.prog 3 #[.agg #[.slice A1 n1 c1, .slice A1' n1' c1', .int .i64 la1, .int .i64 lp1]] w fun e w' => e = .returned (.bool true) ∧ Below w.heap.size w w' := by
  obtain ⟨i1, i1', -⟩ := h1
  have e1 := i1.le
  have e1' := i1'.le
  have I1 := Lib.hid i1
  have I1' := Lib.hid i1'
  clear i1 i1'
  have HP1 := SoAt.box w 24 A1 n1 c1 A1' n1' c1' la1 lp1
  go_enter Try.func3, Try.ntmps3
  go_wp2_with fail
  refine (szSown_any _ _ _ _ _ _ _ _ _ _ e1 e1' (by omega) (by omega)).mono ?_
  rintro e w1 ⟨rfl, hb1⟩
  have V1 := HP1.below hb1 (by simp <;> omega)
  have b1 : Below w.heap.size w w1 := (by repeat (first | with_reducible exact Below.refl _ _ | with_reducible assumption | with_reducible refine sub_alloc ?_ _ | (with_reducible refine sub_setCell2 ?_ ?_ _; (focus (first | (simp; done) | (simp <;> omega)))) | with_reducible refine sub_drew ?_ | with_reducible refine below_drewN ?_ _ | with_reducible refine sub_step (by assumption) ?_ (by first | rfl | (simp; done)) | exact Below.refl _ _ | assumption | refine sub_alloc ?_ _ | refine sub_setCell ?_ (by simp <;> omega) _ | refine sub_drew ?_ | refine below_drewN ?_ _ | refine sub_step (by assumption) ?_ (by first | rfl | (simp; done))))
  obtain ⟨k0, k1, k2, k3⟩ := V1.flat
  clear hb1
  go_wp2_with fail
  · go_ret
    exact ⟨rfl, b1⟩
  have g0 : 0 ≤ szPF 1048576 n1 n1' := by assumption
  obtain ⟨s0, s1⟩ := szPF_ok g0
  have m1 : n1 ≤ 1048576 := by omega
  have m1' : n1' ≤ 1048576 := by omega
  clear g0 s0 s1 e1 e1'
  have J1 := Lib.hid (I1.out.sub b1)
  have J1' := Lib.hid (I1'.out.sub b1)
  refine (toSown_any _ _ _ _ _ _ zs1 zs1' _ _ _ (by exact J1.out) (by exact J1'.out) (by omega) (by omega)).mono ?_
  rintro e w2 ⟨B1, d1, B1', d1', rfl, o1, o1', ap1, hb2⟩
  have Y1 := V1.below hb2 V1.lt
  obtain ⟨y0, y1, y2, y3⟩ := Y1.flat
  go_wp2_with fail
  refine (specSownSeeds_any _ _ _ _ _ _ zs1 zs1' _ _ _ (by exact o1.ints) (by exact o1'.ints) (by omega) (by omega)).mono ?_
  rintro e w3 ⟨rfl, hb3⟩
  have Z1 := Y1.below hb3 Y1.lt
  obtain ⟨z0, z1, z2, z3⟩ := Z1.flat
  have b13 : Below w1.heap.size w1 w3 := sub_step hb3 hb2 rfl
  have b3 : Below w.heap.size w w3 := sub_step b13 b1 rfl
  have L1 := Lib.hid (J1.out.sub b13)
  have L1' := Lib.hid (J1'.out.sub b13)
  clear o1 o1' ap1 hb2 hb3 Y1 V1 k0 k1 k2 k3 y0 y1 y2 y3
  go_wp2_with fail
  refine (toSown_any _ _ _ _ _ _ zs1 zs1' _ _ _ (by exact L1.out) (by exact L1'.out) (by omega) (by omega)).mono ?_
  rintro e w5 ⟨E1, f1, E1', f1', rfl, o1, o1', ap1, hb5⟩
  have Y1 := Z1.below hb5 Z1.lt
  obtain ⟨y0, y1, y2, y3⟩ := Y1.flat
  have l51 : w.heap.size < w5.heap.size := Y1.lt
  have b35 : Below w3.heap.size w3 (w5.alloc (.cells #[.slice E1 n1 f1, .slice E1' n1' f1', .int .i64 la1, .int .i64 lp1] 27)) := (by repeat (first | with_reducible exact Below.refl _ _ | with_reducible assumption | with_reducible refine sub_alloc ?_ _ | (with_reducible refine sub_setCell2 ?_ ?_ _; (focus (first | (simp; done) | (simp <;> omega)))) | with_reducible refine sub_drew ?_ | with_reducible refine below_drewN ?_ _ | with_reducible refine sub_step (by assumption) ?_ (by first | rfl | (simp; done)) | exact Below.refl _ _ | assumption | refine sub_alloc ?_ _ | refine sub_setCell ?_ (by simp <;> omega) _ | refine sub_drew ?_ | refine below_drewN ?_ _ | refine sub_step (by assumption) ?_ (by first | rfl | (simp; done))))
  have V1 := Y1.alloc (.cells #[.slice E1 n1 f1, .slice E1' n1' f1', .int .i64 la1, .int .i64 lp1] 27)
  have V2 := SoAt.box w5 27 E1 n1 f1 E1' n1' f1' la1 lp1
  have O1 := Lib.hid (o1.ints.sub (w' := w5.alloc (.cells #[.slice E1 n1 f1, .slice E1' n1' f1', .int .i64 la1, .int .i64 lp1] 27)) (Below.alloc (Below.refl _ _) (Nat.le_refl _) _))
  have O1' := Lib.hid (o1'.ints.sub (w' := w5.alloc (.cells #[.slice E1 n1 f1, .slice E1' n1' f1', .int .i64 la1, .int .i64 lp1] 27)) (Below.alloc (Below.refl _ _) (Nat.le_refl _) _))
  go_wp2_with fail
  refine (SownSeeds_any _ _ _ _ _ _ zs1 zs1' _ _ _ (by exact O1.out) (by exact O1'.out) (by omega) (by omega)).mono ?_
  rintro e w7 ⟨rfl, hb7⟩
  have W1 := V1.below hb7 V1.lt
  have W2 := V2.below hb7 V2.lt
  obtain ⟨u0, u1, u2, u3⟩ := W1.flat
  obtain ⟨u5, u6, u7, u8⟩ := W2.flat
  have b37 : Below w3.heap.size w3 w7 := sub_step hb7 b35 rfl
  have b7 : Below w.heap.size w w7 := sub_step b37 b3 rfl
  have M1 := Lib.hid (O1.out.sub hb7)
  have M1' := Lib.hid (O1'.out.sub hb7)
  have N1 := Lib.hid (L1.out.sub b37)
  have N1' := Lib.hid (L1'.out.sub b37)
  clear o1 o1' ap1 hb5 hb7 Y1 y0 y1 y2 y3 V1 V2 z0 z1 z2 z3
  go_wp2_with fail
  go_region_held3 (fun w' => w'.cell? ⟨w.heap.size, 0, none⟩ = some (.slice A1 n1 c1) ∧ w'.cell? ⟨w.heap.size, 1, none⟩ = some (.slice A1' n1' c1') ∧ w'.cell? ⟨w.heap.size, 2, none⟩ = some (.int .i64 la1) ∧ w'.cell? ⟨w.heap.size, 3, none⟩ = some (.int .i64 lp1) ∧ w'.cell? ⟨w5.heap.size, 0, none⟩ = some (.slice E1 n1 f1) ∧ w'.cell? ⟨w5.heap.size, 1, none⟩ = some (.slice E1' n1' f1') ∧ w'.cell? ⟨w5.heap.size, 2, none⟩ = some (.int .i64 la1) ∧ w'.cell? ⟨w5.heap.size, 3, none⟩ = some (.int .i64 lp1)) (first | (refine ⟨?_, ?_, ?_, ?_, ?_, ?_, ?_, ?_⟩ <;> assumption) | go_keep) (first
    | (go_at_call 20; refine (toSown_any _ _ _ _ _ _ zs1 zs1' _ _ _ (by exact N1.out) (by exact N1'.out) (by omega) (by omega)).mono ?_; rintro e w8 ⟨G1, g1, G1', g1', rfl, r0, r0', ap0, hb8⟩; have hb8 := undrew hb8; have U1 := W1.below hb8 W1.lt; have U2 := W2.below hb8 W2.lt; obtain ⟨t0, t1, t2, t3⟩ := U1.flat; obtain ⟨t5, t6, t7, t8⟩ := U2.flat)
    | (go_at_call 22; refine (eqSown_any _ _ _ _ _ _ _ _ _ _ _ _ zs1 zs1' zs1 zs1' _ _ _ _ _ (by exact M1.out.sub hb8) (by exact M1'.out.sub hb8) (by exact r0.ints) (by exact r0'.ints)).mono ?_; rintro e w9 ⟨rfl, hb9⟩; have D1 := U1.below hb9 U1.lt; have D2 := U2.below hb9 U2.lt; obtain ⟨d0, d1, d2, d3⟩ := D1.flat; obtain ⟨d5, d6, d7, d8⟩ := D2.flat))
  have b79 : Below w7.heap.size w7 w9 := (by repeat (first | with_reducible exact Below.refl _ _ | with_reducible assumption | with_reducible refine sub_alloc ?_ _ | (with_reducible refine sub_setCell2 ?_ ?_ _; (focus (first | (simp; done) | (simp <;> omega)))) | with_reducible refine sub_drew ?_ | with_reducible refine below_drewN ?_ _ | with_reducible refine sub_step (by assumption) ?_ (by first | rfl | (simp; done)) | exact Below.refl _ _ | assumption | refine sub_alloc ?_ _ | refine sub_setCell ?_ (by simp <;> omega) _ | refine sub_drew ?_ | refine below_drewN ?_ _ | refine sub_step (by assumption) ?_ (by first | rfl | (simp; done))))
  go_wp2_with fail
  go_ret
  exact ⟨rfl, sub_step b79 b7 rfl⟩
end Go.Proofs.Ytjacmbgngbhcpaa
