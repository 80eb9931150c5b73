/-
  A drawn region of FnExactSameGame, alone.
-/
import Derived.Test.YtnanaldolnehiaaGameReg8
import Derived.Test.YtnanaldolnehiaaGame3
import Derived.Test.YtnanaldolnehiaaRegion
import Derived.Deep.RegionHeld3
import Derived.Deep.MidRow
set_option linter.unusedSimpArgs false
set_option linter.unusedVariables false
namespace Go.Proofs.Ytnanaldolnehiaa
open Go.ChangeShapes Go.WideShapes Go.RowKit Go.Deep
set_option maxRecDepth 100000 in
set_option maxHeartbeats 16000000 in
theorem gameReg14 (p1 s1 : Int) (st1 sk1 re1 fe1 ag1 : Bool) (c1 sl1 : Int) (A1 : Option Addr) (n1 u1 : Nat) (A1' : Option Addr) (n1' u1' : Nat) (pl1 : Int) (M1 : Option Addr) (k1 d1 : Nat) (B1 : Option Addr) (m1 e1 : Nat) (B1' : Option Addr) (m1' e1' : Nat) (ql1 z1 : Int) (xs1 xs1' ms1 ys1 ys1' : List Int) (Xc : Option Addr) (xc : Nat) (Xc' : Option Addr) (xc' : Nat) (Nc : Option Addr) (yc : Nat) (Yc : Option Addr) (vc : Nat) (Yc' : Option Addr) (vc' : Nat) (W : World) (gx g1 : Nat) (GC : Has W gx [.int .i64 p1, .int .i64 s1, .bool st1, .bool sk1, .bool re1, .bool fe1, .bool ag1, .int .i64 c1, .int .i64 sl1, .slice Xc n1 xc, .slice Xc' n1' xc', .int .i64 pl1, .slice Nc k1 yc, .slice Yc m1 vc, .slice Yc' m1' vc', .int .i64 ql1, .int .i64 z1]) (G1 : Has W g1 [.int .i64 p1, .int .i64 s1, .bool st1, .bool sk1, .bool re1, .bool fe1, .bool ag1, .int .i64 c1, .int .i64 sl1, .slice A1 n1 u1, .slice A1' n1' u1', .int .i64 pl1, .slice M1 k1 d1, .slice B1 m1 e1, .slice B1' m1' e1', .int .i64 ql1, .int .i64 z1]) (hc : Ints W W.heap.size Xc n1 xc xs1 ∧ Ints W W.heap.size Xc' n1' xc' xs1' ∧ Ints W W.heap.size Nc k1 yc ms1 ∧ Ints W W.heap.size Yc m1 vc ys1 ∧ Ints W W.heap.size Yc' m1' vc' ys1') (h1 : Ints W W.heap.size A1 n1 u1 xs1 ∧ Ints W W.heap.size A1' n1' u1' xs1' ∧ Ints W W.heap.size M1 k1 d1 ms1 ∧ Ints W W.heap.size B1 m1 e1 ys1 ∧ Ints W W.heap.size B1' m1' e1' ys1') (n11 : n1 ≤ 4294967296) (n12 : n1' ≤ 4294967296) (n13 : k1 ≤ 4294967296) (n14 : m1 ≤ 4294967296) (n15 : m1' ≤ 4294967296) {K : Act → World → Prop} {Q' : Exit → Act → World → Prop} {t0 t1 t3 t4 t5 t6 t8 t9 t10 t11 t12 t13 t14 t15 t16 t17 t18 t19 t20 t21 t22 t23 t24 t25 t26 t27 t28 t29 t30 t31 t32 t33 t34 t35 t36 t37 t38 t39 t40 t41 t42 t43 t44 : Value} {ds : List Deferred}
    (hK : ∀ (u35 u36 u37 u38 : Value) w', Below W.heap.size W w' → K ⟨#[t0, t1, .pointer (some ⟨g1, 0, none⟩), t3, t4, t5, t6, .pointer (some ⟨gx, 0, none⟩), t8, t9, t10, t11, t12, t13, t14, t15, t16, t17, t18, t19, t20, t21, t22, t23, t24, t25, t26, t27, t28, t29, t30, t31, t32, t33, t34, u35, u36, u37, u38, .bool false, t40, t41, t42, t43, t44], ds⟩ w') :
    Code.wp Try.prog (findRegion 14 (Try.f6.body.getD .skip)) (Exit.then K Q') ⟨#[t0, t1, .pointer (some ⟨g1, 0, none⟩), t3, t4, t5, t6, .pointer (some ⟨gx, 0, none⟩), t8, t9, t10, t11, t12, t13, t14, t15, t16, t17, t18, t19, t20, t21, t22, t23, t24, t25, t26, t27, t28, t29, t30, t31, t32, t33, t34, t35, t36, t37, t38, t39, t40, t41, t42, t43, t44], ds⟩ W := by
  simp only [Try.f6, findRegion, Option.getD, Nat.reduceEqDiff, if_true, if_false]
  have H1 := Lib.hid h1
  have HC := Lib.hid hc
  have G1 := Lib.hid G1
  have GC := Lib.hid GC
  have HK := Lib.hid hK
  clear h1 hc hK
  have bt : Below W.heap.size W W.drew := (Below.refl _ _).drew
  have Ic := show _ ∧ _ ∧ _ ∧ _ ∧ _ from ⟨HC.out.1.sub bt, HC.out.2.1.sub bt, HC.out.2.2.1.sub bt, HC.out.2.2.2.1.sub bt, HC.out.2.2.2.2.sub bt⟩
  have X1 := G1.out.sub bt
  have Xc_ := GC.out.sub bt
  refine wp_region_noPanic ?_
  refine wp_region_held_drew (S := fun w' => w'.rangeAt gx 0 [.int .i64 p1, .int .i64 s1, .bool st1, .bool sk1, .bool re1, .bool fe1, .bool ag1, .int .i64 c1, .int .i64 sl1, .slice Xc n1 xc, .slice Xc' n1' xc', .int .i64 pl1, .slice Nc k1 yc, .slice Yc m1 vc, .slice Yc' m1' vc', .int .i64 ql1, .int .i64 z1] ∧ w'.rangeAt g1 0 [.int .i64 p1, .int .i64 s1, .bool st1, .bool sk1, .bool re1, .bool fe1, .bool ag1, .int .i64 c1, .int .i64 sl1, .slice A1 n1 u1, .slice A1' n1' u1', .int .i64 pl1, .slice M1 k1 d1, .slice B1 m1 e1, .slice B1' m1' e1', .int .i64 ql1, .int .i64 z1]) (by kernel_rfl) (by exact ⟨Xc_.range, X1.range⟩) (fun hHeld => ?_)
  refine wpAnyH_take (i := 0) (oi := ⟨some 35, _, _, _, _, _⟩) rfl (by kernel_rfl) (by kernel_rfl) (by kernel_rfl) (fun _ _ _ h => h) (yieldsIf_load_mid (by rfl) _ _ rfl gx 0 rfl [.int .i64 p1, .int .i64 s1, .bool st1, .bool sk1, .bool re1, .bool fe1, .bool ag1, .int .i64 c1, .int .i64 sl1, .slice Xc n1 xc, .slice Xc' n1' xc', .int .i64 pl1, .slice Nc k1 yc, .slice Yc m1 vc, .slice Yc' m1' vc', .int .i64 ql1, .int .i64 z1] _ (fun w h => h.1) Try.underlying50 rfl (by kernel_rfl)) hHeld ?_
  (try simp only [Act.put, List.setIfInBounds_toArray, List.set_cons_zero, List.set_cons_succ])
  refine wpAnyH_take (i := 1) (oi := ⟨some 36, _, _, _, _, _⟩) rfl (by kernel_rfl) (by kernel_rfl) (by kernel_rfl) (fun _ _ _ h => h) (yieldsIf_load_mid (by rfl) _ _ rfl g1 0 rfl [.int .i64 p1, .int .i64 s1, .bool st1, .bool sk1, .bool re1, .bool fe1, .bool ag1, .int .i64 c1, .int .i64 sl1, .slice A1 n1 u1, .slice A1' n1' u1', .int .i64 pl1, .slice M1 k1 d1, .slice B1 m1 e1, .slice B1' m1' e1', .int .i64 ql1, .int .i64 z1] _ (fun w h => h.2) Try.underlying46 rfl (by kernel_rfl)) hHeld ?_
  (try simp only [Act.put, List.setIfInBounds_toArray, List.set_cons_zero, List.set_cons_succ])
  refine wpAnyH_ready (rs := [2]) (by kernel_rfl) (by simp) ?_
  refine AllReadyH.cons (o := ⟨some 37, _, _, _, _, _⟩) rfl (fun K_ hK => ?_) AllReadyH.nil
  go_simp
  go_at_call 35; refine (toGame_any p1 s1 st1 sk1 re1 fe1 ag1 c1 sl1 A1 n1 u1 A1' n1' u1' pl1 M1 k1 d1 B1 m1 e1 B1' m1' e1' ql1 z1 xs1 xs1' ms1 ys1 ys1' _ (by exact ⟨H1.out.1.sub bt, H1.out.2.1.sub bt, H1.out.2.2.1.sub bt, H1.out.2.2.2.1.sub bt, H1.out.2.2.2.2.sub bt⟩) n11 n12 n13 n14 n15).mono ?_; rintro e w11 ⟨Xf, xf, Xf', xf', Nf, yf, Yf, vf, Yf', vf', rfl, If, hb⟩; have bt := bt.trans (hb.mono bt.size); have Ic := show _ ∧ _ ∧ _ ∧ _ ∧ _ from ⟨Ic.1.sub hb, Ic.2.1.sub hb, Ic.2.2.1.sub hb, Ic.2.2.2.1.sub hb, Ic.2.2.2.2.sub hb⟩; have X1 := G1.out.sub bt; have Xc_ := GC.out.sub bt
  (try go_wp2_with fail)
  refine hK.out _ _ (by exact ⟨Xc_.range, X1.range⟩) (fun hHeld => ?_)
  clear hK K_
  (try simp only [Act.put, List.setIfInBounds_toArray, List.set_cons_zero, List.set_cons_succ])
  refine wpAnyH_ready (rs := [3]) (by kernel_rfl) (by simp) ?_
  refine AllReadyH.cons (o := ⟨some 38, _, _, _, _, _⟩) rfl (fun K_ hK => ?_) AllReadyH.nil
  go_simp
  go_at_call 37; refine (eqGame_same p1 s1 st1 sk1 re1 fe1 ag1 c1 sl1 Xc n1 xc Xc' n1' xc' pl1 Nc k1 yc Yc m1 vc Yc' m1' vc' ql1 z1 xs1 xs1' ms1 ys1 ys1' Xf xf Xf' xf' Nf yf Yf vf Yf' vf' _ (by exact Ic) (by exact If)).mono ?_; rintro e w12 ⟨rfl, hb⟩; have bt := bt.trans (hb.mono bt.size); have X1 := G1.out.sub bt; have Xc_ := GC.out.sub bt
  (try go_wp2_with fail)
  refine hK.out _ _ (by exact ⟨Xc_.range, X1.range⟩) (fun hHeld => ?_)
  clear hK K_
  (try simp only [Act.put, List.setIfInBounds_toArray, List.set_cons_zero, List.set_cons_succ])
  refine wpAnyH_ready (rs := [4]) (by kernel_rfl) (by simp) ?_
  refine AllReadyH.cons (o := ⟨some 39, _, _, _, _, _⟩) rfl (fun K_ hK => ?_) AllReadyH.nil
  go_simp
  refine hK.out _ _ (by exact ⟨Xc_.range, X1.range⟩) (fun hHeld => ?_)
  clear hK K_
  (try simp only [Act.put, List.setIfInBounds_toArray, List.set_cons_zero, List.set_cons_succ])
  refine wpAnyH_done (by kernel_rfl) ?_ _
  refine NoPanic.normal ?_
  exact HK.out _ _ _ _ _ bt
end Go.Proofs.Ytnanaldolnehiaa
