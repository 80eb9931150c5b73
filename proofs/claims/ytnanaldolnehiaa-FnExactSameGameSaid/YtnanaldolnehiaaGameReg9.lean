/-
  A drawn region of FnExactSameGame, alone.
-/
import Derived.Test.YtnanaldolnehiaaGameReg8
import Derived.Test.YtnanaldolnehiaaGame3
import Derived.Test.YtnanaldolnehiaaRegion
import Derived.Deep.RegionHeld3
import Derived.Deep.MidRow
set_option linter.unusedSimpArgs false
set_option linter.unusedVariables false
namespace Go.Proofs.Ytnanaldolnehiaa
open Go.ChangeShapes Go.WideShapes Go.RowKit Go.Deep
set_option maxRecDepth 100000 in
set_option maxHeartbeats 16000000 in
theorem gameReg9 (p1 s1 : Int) (st1 sk1 re1 fe1 ag1 : Bool) (c1 sl1 : Int) (A1 : Option Addr) (n1 u1 : Nat) (A1' : Option Addr) (n1' u1' : Nat) (pl1 : Int) (M1 : Option Addr) (k1 d1 : Nat) (B1 : Option Addr) (m1 e1 : Nat) (B1' : Option Addr) (m1' e1' : Nat) (ql1 z1 : Int) (xs1 xs1' ms1 ys1 ys1' : List Int) (W : World) (g1 : Nat) (G1 : Has W g1 [.int .i64 p1, .int .i64 s1, .bool st1, .bool sk1, .bool re1, .bool fe1, .bool ag1, .int .i64 c1, .int .i64 sl1, .slice A1 n1 u1, .slice A1' n1' u1', .int .i64 pl1, .slice M1 k1 d1, .slice B1 m1 e1, .slice B1' m1' e1', .int .i64 ql1, .int .i64 z1]) (h1 : Ints W W.heap.size A1 n1 u1 xs1 ∧ Ints W W.heap.size A1' n1' u1' xs1' ∧ Ints W W.heap.size M1 k1 d1 ms1 ∧ Ints W W.heap.size B1 m1 e1 ys1 ∧ Ints W W.heap.size B1' m1' e1' ys1') (n11 : n1 ≤ 4294967296) (n12 : n1' ≤ 4294967296) (n13 : k1 ≤ 4294967296) (n14 : m1 ≤ 4294967296) (n15 : m1' ≤ 4294967296) {K : Act → World → Prop} {Q' : Exit → Act → World → Prop} {t0 t1 t3 t4 t5 t6 t7 t8 t9 t10 t11 t12 t13 t14 t15 t16 t17 t18 t19 t20 t21 t22 t23 t24 t25 t26 t27 t28 t29 t30 t31 t32 t33 t34 t35 t36 t37 t38 t39 t40 t41 t42 t43 t44 : Value} {ds : List Deferred}
    (hK : ∀ (Xc : Option Addr) (xc : Nat) (Xc' : Option Addr) (xc' : Nat) (Nc : Option Addr) (yc : Nat) (Yc : Option Addr) (vc : Nat) (Yc' : Option Addr) (vc' : Nat) (gx : Nat) (u25 u26 : Value) w', Has w' gx [.int .i64 p1, .int .i64 s1, .bool st1, .bool sk1, .bool re1, .bool fe1, .bool ag1, .int .i64 c1, .int .i64 sl1, .slice Xc n1 xc, .slice Xc' n1' xc', .int .i64 pl1, .slice Nc k1 yc, .slice Yc m1 vc, .slice Yc' m1' vc', .int .i64 ql1, .int .i64 z1] → (Ints w' w'.heap.size Xc n1 xc xs1 ∧ Ints w' w'.heap.size Xc' n1' xc' xs1' ∧ Ints w' w'.heap.size Nc k1 yc ms1 ∧ Ints w' w'.heap.size Yc m1 vc ys1 ∧ Ints w' w'.heap.size Yc' m1' vc' ys1') → Below W.heap.size W w' → K ⟨#[t0, t1, .pointer (some ⟨g1, 0, none⟩), t3, t4, t5, t6, (.pointer (some ⟨gx, 0, none⟩)), t8, t9, t10, t11, t12, t13, t14, t15, t16, t17, t18, t19, t20, t21, t22, t23, t24, u25, u26, t27, t28, t29, t30, t31, t32, t33, t34, t35, t36, t37, t38, t39, t40, t41, t42, t43, t44], ds⟩ w') :
    Code.wp Try.prog (findRegion 9 (Try.f6.body.getD .skip)) (Exit.then K Q') ⟨#[t0, t1, .pointer (some ⟨g1, 0, none⟩), t3, t4, t5, t6, t7, t8, t9, t10, t11, t12, t13, t14, t15, t16, t17, t18, t19, t20, t21, t22, t23, t24, t25, t26, t27, t28, t29, t30, t31, t32, t33, t34, t35, t36, t37, t38, t39, t40, t41, t42, t43, t44], ds⟩ W := by
  simp only [Try.f6, findRegion, Option.getD, Nat.reduceEqDiff, if_true, if_false]
  have HK := Lib.hid hK
  have G1 := Lib.hid G1
  have H1 := Lib.hid h1
  clear hK h1
  refine wp_region_lit ?_
  refine wpList_load_mid (by rfl) _ _ rfl g1 0 rfl [.int .i64 p1, .int .i64 s1, .bool st1, .bool sk1, .bool re1, .bool fe1, .bool ag1, .int .i64 c1, .int .i64 sl1, .slice A1 n1 u1, .slice A1' n1' u1', .int .i64 pl1, .slice M1 k1 d1, .slice B1 m1 e1, .slice B1' m1' e1', .int .i64 ql1, .int .i64 z1] _ G1.out.range Try.underlying46 rfl (by kernel_rfl) ?_
  (try simp only [Act.put, List.setIfInBounds_toArray, List.set_cons_zero, List.set_cons_succ])
  go_wp2_with fail
  refine (toGame_any p1 s1 st1 sk1 re1 fe1 ag1 c1 sl1 A1 n1 u1 A1' n1' u1' pl1 M1 k1 d1 B1 m1 e1 B1' m1' e1' ql1 z1 xs1 xs1' ms1 ys1 ys1' _ (by exact H1.out) n11 n12 n13 n14 n15).mono ?_
  rintro e w6 ⟨Xc, xc, Xc', xc', Nc, yc, Yc, vc, Yc', vc', rfl, Ic, hb⟩
  have HI := Lib.hid Ic
  have HB := Lib.hid hb
  clear Ic hb
  go_wp2_with fail
  exact HK.out _ _ _ _ _ _ _ _ _ _ _ _ _ _ (Has.box _ _ _ _ rfl) ⟨HI.out.1.sub ((Below.refl _ _).alloc (Nat.le_refl _) _), HI.out.2.1.sub ((Below.refl _ _).alloc (Nat.le_refl _) _), HI.out.2.2.1.sub ((Below.refl _ _).alloc (Nat.le_refl _) _), HI.out.2.2.2.1.sub ((Below.refl _ _).alloc (Nat.le_refl _) _), HI.out.2.2.2.2.sub ((Below.refl _ _).alloc (Nat.le_refl _) _)⟩ (HB.out.alloc HB.out.size _)
set_option maxRecDepth 100000 in
set_option maxHeartbeats 16000000 in
theorem gameReg10 (p1 s1 : Int) (st1 sk1 re1 fe1 ag1 : Bool) (c1 sl1 : Int) (A1 : Option Addr) (n1 u1 : Nat) (A1' : Option Addr) (n1' u1' : Nat) (pl1 : Int) (M1 : Option Addr) (k1 d1 : Nat) (B1 : Option Addr) (m1 e1 : Nat) (B1' : Option Addr) (m1' e1' : Nat) (ql1 z1 : Int) (xs1 xs1' ms1 ys1 ys1' : List Int) (W : World) (g1 : Nat) (G1 : Has W g1 [.int .i64 p1, .int .i64 s1, .bool st1, .bool sk1, .bool re1, .bool fe1, .bool ag1, .int .i64 c1, .int .i64 sl1, .slice A1 n1 u1, .slice A1' n1' u1', .int .i64 pl1, .slice M1 k1 d1, .slice B1 m1 e1, .slice B1' m1' e1', .int .i64 ql1, .int .i64 z1]) (h1 : Ints W W.heap.size A1 n1 u1 xs1 ∧ Ints W W.heap.size A1' n1' u1' xs1' ∧ Ints W W.heap.size M1 k1 d1 ms1 ∧ Ints W W.heap.size B1 m1 e1 ys1 ∧ Ints W W.heap.size B1' m1' e1' ys1') (n11 : n1 ≤ 4294967296) (n12 : n1' ≤ 4294967296) (n13 : k1 ≤ 4294967296) (n14 : m1 ≤ 4294967296) (n15 : m1' ≤ 4294967296) {K : Act → World → Prop} {Q' : Exit → Act → World → Prop} {t0 t1 t2 t4 t5 t6 t7 t8 t9 t10 t11 t12 t13 t14 t15 t16 t17 t18 t19 t20 t21 t22 t23 t24 t25 t26 t27 t28 t29 t30 t31 t32 t33 t34 t35 t36 t37 t38 t39 t40 t41 t42 t43 t44 : Value} {ds : List Deferred}
    (hK : ∀ (Xc : Option Addr) (xc : Nat) (Xc' : Option Addr) (xc' : Nat) (Nc : Option Addr) (yc : Nat) (Yc : Option Addr) (vc : Nat) (Yc' : Option Addr) (vc' : Nat) (gx : Nat) (u27 u28 : Value) w', Has w' gx [.int .i64 p1, .int .i64 s1, .bool st1, .bool sk1, .bool re1, .bool fe1, .bool ag1, .int .i64 c1, .int .i64 sl1, .slice Xc n1 xc, .slice Xc' n1' xc', .int .i64 pl1, .slice Nc k1 yc, .slice Yc m1 vc, .slice Yc' m1' vc', .int .i64 ql1, .int .i64 z1] → (Ints w' w'.heap.size Xc n1 xc xs1 ∧ Ints w' w'.heap.size Xc' n1' xc' xs1' ∧ Ints w' w'.heap.size Nc k1 yc ms1 ∧ Ints w' w'.heap.size Yc m1 vc ys1 ∧ Ints w' w'.heap.size Yc' m1' vc' ys1') → Below W.heap.size W w' → K ⟨#[t0, t1, t2, .pointer (some ⟨g1, 0, none⟩), t4, t5, t6, t7, (.pointer (some ⟨gx, 0, none⟩)), t9, t10, t11, t12, t13, t14, t15, t16, t17, t18, t19, t20, t21, t22, t23, t24, t25, t26, u27, u28, t29, t30, t31, t32, t33, t34, t35, t36, t37, t38, t39, t40, t41, t42, t43, t44], ds⟩ w') :
    Code.wp Try.prog (findRegion 10 (Try.f6.body.getD .skip)) (Exit.then K Q') ⟨#[t0, t1, t2, .pointer (some ⟨g1, 0, none⟩), t4, t5, t6, t7, t8, t9, t10, t11, t12, t13, t14, t15, t16, t17, t18, t19, t20, t21, t22, t23, t24, t25, t26, t27, t28, t29, t30, t31, t32, t33, t34, t35, t36, t37, t38, t39, t40, t41, t42, t43, t44], ds⟩ W := by
  simp only [Try.f6, findRegion, Option.getD, Nat.reduceEqDiff, if_true, if_false]
  have HK := Lib.hid hK
  have G1 := Lib.hid G1
  have H1 := Lib.hid h1
  clear hK h1
  refine wp_region_lit ?_
  refine wpList_load_mid (by rfl) _ _ rfl g1 0 rfl [.int .i64 p1, .int .i64 s1, .bool st1, .bool sk1, .bool re1, .bool fe1, .bool ag1, .int .i64 c1, .int .i64 sl1, .slice A1 n1 u1, .slice A1' n1' u1', .int .i64 pl1, .slice M1 k1 d1, .slice B1 m1 e1, .slice B1' m1' e1', .int .i64 ql1, .int .i64 z1] _ G1.out.range Try.underlying46 rfl (by kernel_rfl) ?_
  (try simp only [Act.put, List.setIfInBounds_toArray, List.set_cons_zero, List.set_cons_succ])
  go_wp2_with fail
  refine (toGame_any p1 s1 st1 sk1 re1 fe1 ag1 c1 sl1 A1 n1 u1 A1' n1' u1' pl1 M1 k1 d1 B1 m1 e1 B1' m1' e1' ql1 z1 xs1 xs1' ms1 ys1 ys1' _ (by exact H1.out) n11 n12 n13 n14 n15).mono ?_
  rintro e w6 ⟨Xc, xc, Xc', xc', Nc, yc, Yc, vc, Yc', vc', rfl, Ic, hb⟩
  have HI := Lib.hid Ic
  have HB := Lib.hid hb
  clear Ic hb
  go_wp2_with fail
  exact HK.out _ _ _ _ _ _ _ _ _ _ _ _ _ _ (Has.box _ _ _ _ rfl) ⟨HI.out.1.sub ((Below.refl _ _).alloc (Nat.le_refl _) _), HI.out.2.1.sub ((Below.refl _ _).alloc (Nat.le_refl _) _), HI.out.2.2.1.sub ((Below.refl _ _).alloc (Nat.le_refl _) _), HI.out.2.2.2.1.sub ((Below.refl _ _).alloc (Nat.le_refl _) _), HI.out.2.2.2.2.sub ((Below.refl _ _).alloc (Nat.le_refl _) _)⟩ (HB.out.alloc HB.out.size _)
end Go.Proofs.Ytnanaldolnehiaa
