/-
  A drawn region of FnExactSameGame, alone.
-/
import Derived.Test.YtnanaldolnehiaaGameReg8
import Derived.Test.YtnanaldolnehiaaGame3
import Derived.Test.YtnanaldolnehiaaRegion
import Derived.Deep.RegionHeld3
import Derived.Deep.MidRow
set_option linter.unusedSimpArgs false
set_option linter.unusedVariables false
namespace Go.Proofs.Ytnanaldolnehiaa
open Go.ChangeShapes Go.WideShapes Go.RowKit Go.Deep
set_option maxRecDepth 100000 in
set_option maxHeartbeats 16000000 in
theorem gameReg2 (p1 s1 : Int) (st1 sk1 re1 fe1 ag1 : Bool) (c1 sl1 : Int) (A1 : Option Addr) (n1 u1 : Nat) (A1' : Option Addr) (n1' u1' : Nat) (pl1 : Int) (M1 : Option Addr) (k1 d1 : Nat) (B1 : Option Addr) (m1 e1 : Nat) (B1' : Option Addr) (m1' e1' : Nat) (ql1 z1 : Int) (left : Int) (W : World) (g1 : Nat) (G1 : Has W g1 [.int .i64 p1, .int .i64 s1, .bool st1, .bool sk1, .bool re1, .bool fe1, .bool ag1, .int .i64 c1, .int .i64 sl1, .slice A1 n1 u1, .slice A1' n1' u1', .int .i64 pl1, .slice M1 k1 d1, .slice B1 m1 e1, .slice B1' m1' e1', .int .i64 ql1, .int .i64 z1]) (b11 : n1 ≤ 9223372036854775807) (b12 : n1' ≤ 9223372036854775807) (b13 : k1 ≤ 9223372036854775807) (b14 : m1 ≤ 9223372036854775807) (b15 : m1' ≤ 9223372036854775807) (h0 : 0 ≤ left) (h1 : left ≤ 1048576) {K : Act → World → Prop} {Q' : Exit → Act → World → Prop} {t0 t1 t3 t4 t6 t7 t8 t9 t10 t11 t12 t13 t14 t15 t16 t17 t18 t19 t20 t21 t22 t23 t24 t25 t26 t27 t28 t29 t30 t31 t32 t33 t34 t35 t36 t37 t38 t39 t40 t41 t42 t43 t44 : Value} {ds : List Deferred}
    (hK : ∀ (u10 u11 u12 : Value) w', Below W.heap.size W w' → K ⟨#[t0, t1, .pointer (some ⟨g1, 0, none⟩), t3, t4, (.int .i64 (szG left n1 n1' k1 m1 m1')), t6, t7, t8, t9, u10, u11, u12, t13, t14, t15, t16, t17, t18, t19, t20, t21, t22, t23, t24, t25, t26, t27, t28, t29, t30, t31, t32, t33, t34, t35, t36, t37, t38, t39, t40, t41, t42, t43, t44], ds⟩ w') :
    Code.wp Try.prog (findRegion 2 (Try.f6.body.getD .skip)) (Exit.then K Q') ⟨#[t0, t1, .pointer (some ⟨g1, 0, none⟩), t3, t4, .int .i64 left, t6, t7, t8, t9, t10, t11, t12, t13, t14, t15, t16, t17, t18, t19, t20, t21, t22, t23, t24, t25, t26, t27, t28, t29, t30, t31, t32, t33, t34, t35, t36, t37, t38, t39, t40, t41, t42, t43, t44], ds⟩ W := by
  simp only [Try.f6, findRegion, Option.getD, Nat.reduceEqDiff, if_true, if_false]
  have HK := Lib.hid hK
  have G1 := Lib.hid G1
  clear hK
  refine wp_region_lit ?_
  refine wpList_load_mid (by rfl) _ _ rfl g1 0 rfl [.int .i64 p1, .int .i64 s1, .bool st1, .bool sk1, .bool re1, .bool fe1, .bool ag1, .int .i64 c1, .int .i64 sl1, .slice A1 n1 u1, .slice A1' n1' u1', .int .i64 pl1, .slice M1 k1 d1, .slice B1 m1 e1, .slice B1' m1' e1', .int .i64 ql1, .int .i64 z1] _ G1.out.range Try.underlying46 rfl (by kernel_rfl) ?_
  (try simp only [Act.put, List.setIfInBounds_toArray, List.set_cons_zero, List.set_cons_succ])
  go_wp2_with fail
  refine (szGame_any p1 s1 st1 sk1 re1 fe1 ag1 c1 sl1 A1 n1 u1 A1' n1' u1' pl1 M1 k1 d1 B1 m1 e1 B1' m1' e1' ql1 z1 left _ b11 b12 b13 b14 b15 h0 h1).mono ?_
  rintro e w1 ⟨rfl, q1⟩
  go_wp2_with fail
  exact HK.out _ _ _ _ q1
set_option maxRecDepth 100000 in
set_option maxHeartbeats 16000000 in
theorem gameReg5 (p1 s1 : Int) (st1 sk1 re1 fe1 ag1 : Bool) (c1 sl1 : Int) (A1 : Option Addr) (n1 u1 : Nat) (A1' : Option Addr) (n1' u1' : Nat) (pl1 : Int) (M1 : Option Addr) (k1 d1 : Nat) (B1 : Option Addr) (m1 e1 : Nat) (B1' : Option Addr) (m1' e1' : Nat) (ql1 z1 : Int) (left : Int) (W : World) (g1 : Nat) (G1 : Has W g1 [.int .i64 p1, .int .i64 s1, .bool st1, .bool sk1, .bool re1, .bool fe1, .bool ag1, .int .i64 c1, .int .i64 sl1, .slice A1 n1 u1, .slice A1' n1' u1', .int .i64 pl1, .slice M1 k1 d1, .slice B1 m1 e1, .slice B1' m1' e1', .int .i64 ql1, .int .i64 z1]) (b11 : n1 ≤ 9223372036854775807) (b12 : n1' ≤ 9223372036854775807) (b13 : k1 ≤ 9223372036854775807) (b14 : m1 ≤ 9223372036854775807) (b15 : m1' ≤ 9223372036854775807) (h0 : 0 ≤ left) (h1 : left ≤ 1048576) {K : Act → World → Prop} {Q' : Exit → Act → World → Prop} {t0 t1 t2 t4 t6 t7 t8 t9 t10 t11 t12 t13 t14 t15 t16 t17 t18 t19 t20 t21 t22 t23 t24 t25 t26 t27 t28 t29 t30 t31 t32 t33 t34 t35 t36 t37 t38 t39 t40 t41 t42 t43 t44 : Value} {ds : List Deferred}
    (hK : ∀ (u15 u16 u17 : Value) w', Below W.heap.size W w' → K ⟨#[t0, t1, t2, .pointer (some ⟨g1, 0, none⟩), t4, (.int .i64 (szG left n1 n1' k1 m1 m1')), t6, t7, t8, t9, t10, t11, t12, t13, t14, u15, u16, u17, t18, t19, t20, t21, t22, t23, t24, t25, t26, t27, t28, t29, t30, t31, t32, t33, t34, t35, t36, t37, t38, t39, t40, t41, t42, t43, t44], ds⟩ w') :
    Code.wp Try.prog (findRegion 5 (Try.f6.body.getD .skip)) (Exit.then K Q') ⟨#[t0, t1, t2, .pointer (some ⟨g1, 0, none⟩), t4, .int .i64 left, t6, t7, t8, t9, t10, t11, t12, t13, t14, t15, t16, t17, t18, t19, t20, t21, t22, t23, t24, t25, t26, t27, t28, t29, t30, t31, t32, t33, t34, t35, t36, t37, t38, t39, t40, t41, t42, t43, t44], ds⟩ W := by
  simp only [Try.f6, findRegion, Option.getD, Nat.reduceEqDiff, if_true, if_false]
  have HK := Lib.hid hK
  have G1 := Lib.hid G1
  clear hK
  refine wp_region_lit ?_
  refine wpList_load_mid (by rfl) _ _ rfl g1 0 rfl [.int .i64 p1, .int .i64 s1, .bool st1, .bool sk1, .bool re1, .bool fe1, .bool ag1, .int .i64 c1, .int .i64 sl1, .slice A1 n1 u1, .slice A1' n1' u1', .int .i64 pl1, .slice M1 k1 d1, .slice B1 m1 e1, .slice B1' m1' e1', .int .i64 ql1, .int .i64 z1] _ G1.out.range Try.underlying46 rfl (by kernel_rfl) ?_
  (try simp only [Act.put, List.setIfInBounds_toArray, List.set_cons_zero, List.set_cons_succ])
  go_wp2_with fail
  refine (szGame_any p1 s1 st1 sk1 re1 fe1 ag1 c1 sl1 A1 n1 u1 A1' n1' u1' pl1 M1 k1 d1 B1 m1 e1 B1' m1' e1' ql1 z1 left _ b11 b12 b13 b14 b15 h0 h1).mono ?_
  rintro e w1 ⟨rfl, q1⟩
  go_wp2_with fail
  exact HK.out _ _ _ _ q1
end Go.Proofs.Ytnanaldolnehiaa
