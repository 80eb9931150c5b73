/-
  A drawn region of FnExactSameGame, alone.
-/
import Derived.Test.YtnanaldolnehiaaGameReg8
import Derived.Test.YtnanaldolnehiaaGame3
import Derived.Test.YtnanaldolnehiaaRegion
import Derived.Deep.RegionHeld3
import Derived.Deep.MidRow
set_option linter.unusedSimpArgs false
set_option linter.unusedVariables false
namespace Go.Proofs.Ytnanaldolnehiaa
open Go.ChangeShapes Go.WideShapes Go.RowKit Go.Deep
set_option maxRecDepth 100000 in
set_option maxHeartbeats 16000000 in
theorem gameReg11 (p1 s1 : Int) (st1 sk1 re1 fe1 ag1 : Bool) (c1 sl1 : Int) (A1 : Option Addr) (n1 u1 : Nat) (A1' : Option Addr) (n1' u1' : Nat) (pl1 : Int) (M1 : Option Addr) (k1 d1 : Nat) (B1 : Option Addr) (m1 e1 : Nat) (B1' : Option Addr) (m1' e1' : Nat) (ql1 z1 : Int) (xs1 xs1' ms1 ys1 ys1' : List Int) (p2 s2 : Int) (st2 sk2 re2 fe2 ag2 : Bool) (c2 sl2 : Int) (A2 : Option Addr) (n2 u2 : Nat) (A2' : Option Addr) (n2' u2' : Nat) (pl2 : Int) (M2 : Option Addr) (k2 d2 : Nat) (B2 : Option Addr) (m2 e2 : Nat) (B2' : Option Addr) (m2' e2' : Nat) (ql2 z2 : Int) (xs2 xs2' ms2 ys2 ys2' : List Int) (Xc : Option Addr) (xc : Nat) (Xc' : Option Addr) (xc' : Nat) (Nc : Option Addr) (yc : Nat) (Yc : Option Addr) (vc : Nat) (Yc' : Option Addr) (vc' : Nat) (Xd : Option Addr) (xd : Nat) (Xd' : Option Addr) (xd' : Nat) (Nd : Option Addr) (yd : Nat) (Yd : Option Addr) (vd : Nat) (Yd' : Option Addr) (vd' : Nat) (W : World) (gx gy : Nat) (GX : Has W gx [.int .i64 p1, .int .i64 s1, .bool st1, .bool sk1, .bool re1, .bool fe1, .bool ag1, .int .i64 c1, .int .i64 sl1, .slice Xc n1 xc, .slice Xc' n1' xc', .int .i64 pl1, .slice Nc k1 yc, .slice Yc m1 vc, .slice Yc' m1' vc', .int .i64 ql1, .int .i64 z1]) (GY : Has W gy [.int .i64 p2, .int .i64 s2, .bool st2, .bool sk2, .bool re2, .bool fe2, .bool ag2, .int .i64 c2, .int .i64 sl2, .slice Xd n2 xd, .slice Xd' n2' xd', .int .i64 pl2, .slice Nd k2 yd, .slice Yd m2 vd, .slice Yd' m2' vd', .int .i64 ql2, .int .i64 z2]) (hc : (Ints W W.heap.size Xc n1 xc xs1 ∧ Ints W W.heap.size Xc' n1' xc' xs1' ∧ Ints W W.heap.size Nc k1 yc ms1 ∧ Ints W W.heap.size Yc m1 vc ys1 ∧ Ints W W.heap.size Yc' m1' vc' ys1')) (hd : (Ints W W.heap.size Xd n2 xd xs2 ∧ Ints W W.heap.size Xd' n2' xd' xs2' ∧ Ints W W.heap.size Nd k2 yd ms2 ∧ Ints W W.heap.size Yd m2 vd ys2 ∧ Ints W W.heap.size Yd' m2' vd' ys2')) (sg : Bool) (hsg : (sameG ⟨p1, s1, st1, sk1, re1, fe1, ag1, c1, sl1⟩ ⟨p2, s2, st2, sk2, re2, fe2, ag2, c2, sl2⟩ xs1 xs1' pl1 xs2 xs2' pl2 ms1 ms2 ys1 ys1' ql1 ys2 ys2' ql2 z1 z2) = sg) {K : Act → World → Prop} {Q' : Exit → Act → World → Prop} {t0 t1 t2 t3 t4 t5 t6 t9 t10 t11 t12 t13 t14 t15 t16 t17 t18 t19 t20 t21 t22 t23 t24 t25 t26 t27 t28 t29 t30 t31 t32 t33 t34 t35 t36 t37 t38 t39 t40 t41 t42 t43 t44 : Value} {ds : List Deferred}
    (hK : ∀ (u29 u30 u31 : Value) w', Below W.heap.size W w' → K ⟨#[t0, t1, t2, t3, t4, t5, t6, .pointer (some ⟨gx, 0, none⟩), .pointer (some ⟨gy, 0, none⟩), (.bool sg), t10, t11, t12, t13, t14, t15, t16, t17, t18, t19, t20, t21, t22, t23, t24, t25, t26, t27, t28, u29, u30, u31, t32, t33, t34, t35, t36, t37, t38, t39, t40, t41, t42, t43, t44], ds⟩ w') :
    Code.wp Try.prog (findRegion 11 (Try.f6.body.getD .skip)) (Exit.then K Q') ⟨#[t0, t1, t2, t3, t4, t5, t6, .pointer (some ⟨gx, 0, none⟩), .pointer (some ⟨gy, 0, none⟩), t9, t10, t11, t12, t13, t14, t15, t16, t17, t18, t19, t20, t21, t22, t23, t24, t25, t26, t27, t28, t29, t30, t31, t32, t33, t34, t35, t36, t37, t38, t39, t40, t41, t42, t43, t44], ds⟩ W := by
  simp only [Try.f6, findRegion, Option.getD, Nat.reduceEqDiff, if_true, if_false]
  have HK := Lib.hid hK
  have HC := Lib.hid hc
  have HDD := Lib.hid hd
  have HV := Lib.hid hsg
  clear hK hc hd hsg
  refine wp_region_lit ?_
  refine wpList_load_mid (by rfl) _ _ rfl gx 0 rfl [.int .i64 p1, .int .i64 s1, .bool st1, .bool sk1, .bool re1, .bool fe1, .bool ag1, .int .i64 c1, .int .i64 sl1, .slice Xc n1 xc, .slice Xc' n1' xc', .int .i64 pl1, .slice Nc k1 yc, .slice Yc m1 vc, .slice Yc' m1' vc', .int .i64 ql1, .int .i64 z1] _ GX.range Try.underlying50 rfl (by kernel_rfl) ?_
  (try simp only [Act.put, List.setIfInBounds_toArray, List.set_cons_zero, List.set_cons_succ])
  refine wpList_load_mid (by rfl) _ _ rfl gy 0 rfl [.int .i64 p2, .int .i64 s2, .bool st2, .bool sk2, .bool re2, .bool fe2, .bool ag2, .int .i64 c2, .int .i64 sl2, .slice Xd n2 xd, .slice Xd' n2' xd', .int .i64 pl2, .slice Nd k2 yd, .slice Yd m2 vd, .slice Yd' m2' vd', .int .i64 ql2, .int .i64 z2] _ GY.range Try.underlying50 rfl (by kernel_rfl) ?_
  (try simp only [Act.put, List.setIfInBounds_toArray, List.set_cons_zero, List.set_cons_succ])
  clear GX GY
  go_wp2_with fail
  refine (implSameGame_any p1 s1 st1 sk1 re1 fe1 ag1 c1 sl1 Xc n1 xc Xc' n1' xc' pl1 Nc k1 yc Yc m1 vc Yc' m1' vc' ql1 z1 xs1 xs1' ms1 ys1 ys1' p2 s2 st2 sk2 re2 fe2 ag2 c2 sl2 Xd n2 xd Xd' n2' xd' pl2 Nd k2 yd Yd m2 vd Yd' m2' vd' ql2 z2 xs2 xs2' ms2 ys2 ys2' _ (by exact HC.out) (by exact HDD.out)).mono ?_
  rintro e w10 ⟨rfl, hb⟩
  rw [HV.out]
  have HB := Lib.hid hb
  clear hb
  go_wp2_with fail
  exact HK.out _ _ _ _ HB.out
end Go.Proofs.Ytnanaldolnehiaa
