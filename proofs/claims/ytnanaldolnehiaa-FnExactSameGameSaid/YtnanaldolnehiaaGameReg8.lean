/-
  A drawn region of FnExactSameGame, alone.
-/
import Derived.Test.YtnanaldolnehiaaGame2
import Derived.Test.YtnanaldolnehiaaGame3
import Derived.Test.YtnanaldolnehiaaRegion
import Derived.Deep.RegionHeld3
import Derived.Deep.MidRow
set_option linter.unusedSimpArgs false
set_option linter.unusedVariables false
namespace Go.Proofs.Ytnanaldolnehiaa
open Go.ChangeShapes Go.WideShapes Go.RowKit Go.Deep
theorem undrewQ {w w' : World} (h : Below w.drew.heap.size w.drew w') : Below w.heap.size w w' := ⟨h.os, h.tape, h.output, h.size, h.block⟩
theorem Has.range {w : World} {b : Nat} {cs : List Value} (h : Has w b cs) : w.rangeAt b 0 cs := fun j v hv => by rw [Nat.zero_add]; exact h.at_ j hv
set_option maxRecDepth 100000 in
set_option maxHeartbeats 16000000 in
theorem gameReg8 (p1 s1 : Int) (st1 sk1 re1 fe1 ag1 : Bool) (c1 sl1 : Int) (A1 : Option Addr) (n1 u1 : Nat) (A1' : Option Addr) (n1' u1' : Nat) (pl1 : Int) (M1 : Option Addr) (k1 d1 : Nat) (B1 : Option Addr) (m1 e1 : Nat) (B1' : Option Addr) (m1' e1' : Nat) (ql1 z1 : Int) (xs1 xs1' ms1 ys1 ys1' : List Int) (p2 s2 : Int) (st2 sk2 re2 fe2 ag2 : Bool) (c2 sl2 : Int) (A2 : Option Addr) (n2 u2 : Nat) (A2' : Option Addr) (n2' u2' : Nat) (pl2 : Int) (M2 : Option Addr) (k2 d2 : Nat) (B2 : Option Addr) (m2 e2 : Nat) (B2' : Option Addr) (m2' e2' : Nat) (ql2 z2 : Int) (xs2 xs2' ms2 ys2 ys2' : List Int) (W : World) (g1 g2 : Nat) (G1 : Has W g1 [.int .i64 p1, .int .i64 s1, .bool st1, .bool sk1, .bool re1, .bool fe1, .bool ag1, .int .i64 c1, .int .i64 sl1, .slice A1 n1 u1, .slice A1' n1' u1', .int .i64 pl1, .slice M1 k1 d1, .slice B1 m1 e1, .slice B1' m1' e1', .int .i64 ql1, .int .i64 z1]) (G2 : Has W g2 [.int .i64 p2, .int .i64 s2, .bool st2, .bool sk2, .bool re2, .bool fe2, .bool ag2, .int .i64 c2, .int .i64 sl2, .slice A2 n2 u2, .slice A2' n2' u2', .int .i64 pl2, .slice M2 k2 d2, .slice B2 m2 e2, .slice B2' m2' e2', .int .i64 ql2, .int .i64 z2]) (h1 : Ints W W.heap.size A1 n1 u1 xs1 ∧ Ints W W.heap.size A1' n1' u1' xs1' ∧ Ints W W.heap.size M1 k1 d1 ms1 ∧ Ints W W.heap.size B1 m1 e1 ys1 ∧ Ints W W.heap.size B1' m1' e1' ys1') (h2 : Ints W W.heap.size A2 n2 u2 xs2 ∧ Ints W W.heap.size A2' n2' u2' xs2' ∧ Ints W W.heap.size M2 k2 d2 ms2 ∧ Ints W W.heap.size B2 m2 e2 ys2 ∧ Ints W W.heap.size B2' m2' e2' ys2') (n11 : n1 ≤ 4294967296) (n12 : n1' ≤ 4294967296) (n13 : k1 ≤ 4294967296) (n14 : m1 ≤ 4294967296) (n15 : m1' ≤ 4294967296) (n21 : n2 ≤ 4294967296) (n22 : n2' ≤ 4294967296) (n23 : k2 ≤ 4294967296) (n24 : m2 ≤ 4294967296) (n25 : m2' ≤ 4294967296) (sg : Bool) (hsg : (sameG ⟨p1, s1, st1, sk1, re1, fe1, ag1, c1, sl1⟩ ⟨p2, s2, st2, sk2, re2, fe2, ag2, c2, sl2⟩ xs1 xs1' pl1 xs2 xs2' pl2 ms1 ms2 ys1 ys1' ql1 ys2 ys2' ql2 z1 z2) = sg) {K : Act → World → Prop} {Q' : Exit → Act → World → Prop} {t0 t1 t4 t5 t6 t7 t8 t9 t10 t11 t12 t13 t14 t15 t16 t17 t18 t19 t20 t21 t22 t23 t24 t25 t26 t27 t28 t29 t30 t31 t32 t33 t34 t35 t36 t37 t38 t39 t40 t41 t42 t43 t44 : Value} {ds : List Deferred}
    (hK : ∀ (u20 u21 u22 u23 u24 : Value) w', Below W.heap.size W w' → K ⟨#[t0, t1, .pointer (some ⟨g1, 0, none⟩), .pointer (some ⟨g2, 0, none⟩), t4, t5, .bool sg, t7, t8, t9, t10, t11, t12, t13, t14, t15, t16, t17, t18, t19, u20, u21, u22, u23, u24, t25, t26, t27, t28, t29, t30, t31, t32, t33, t34, t35, t36, t37, t38, t39, t40, t41, t42, t43, t44], ds⟩ w') :
    Code.wp Try.prog (findRegion 8 (Try.f6.body.getD .skip)) (Exit.then K Q') ⟨#[t0, t1, .pointer (some ⟨g1, 0, none⟩), .pointer (some ⟨g2, 0, none⟩), t4, t5, t6, t7, t8, t9, t10, t11, t12, t13, t14, t15, t16, t17, t18, t19, t20, t21, t22, t23, t24, t25, t26, t27, t28, t29, t30, t31, t32, t33, t34, t35, t36, t37, t38, t39, t40, t41, t42, t43, t44], ds⟩ W := by
  simp only [Try.f6, findRegion, Option.getD, Nat.reduceEqDiff, if_true, if_false]
  have H1 := Lib.hid h1
  have H2 := Lib.hid h2
  have G1 := Lib.hid G1
  have G2 := Lib.hid G2
  have HV := Lib.hid hsg
  have HK := Lib.hid hK
  clear h1 h2 hsg hK
  have bt : Below W.heap.size W W.drew := (Below.refl _ _).drew
  have X1 := G1.out.sub bt
  have X2 := G2.out.sub bt
  refine wp_region_noPanic ?_
  refine wp_region_held_drew (S := fun w' => w'.rangeAt g1 0 [.int .i64 p1, .int .i64 s1, .bool st1, .bool sk1, .bool re1, .bool fe1, .bool ag1, .int .i64 c1, .int .i64 sl1, .slice A1 n1 u1, .slice A1' n1' u1', .int .i64 pl1, .slice M1 k1 d1, .slice B1 m1 e1, .slice B1' m1' e1', .int .i64 ql1, .int .i64 z1] ∧ w'.rangeAt g2 0 [.int .i64 p2, .int .i64 s2, .bool st2, .bool sk2, .bool re2, .bool fe2, .bool ag2, .int .i64 c2, .int .i64 sl2, .slice A2 n2 u2, .slice A2' n2' u2', .int .i64 pl2, .slice M2 k2 d2, .slice B2 m2 e2, .slice B2' m2' e2', .int .i64 ql2, .int .i64 z2]) (by kernel_rfl) (by exact ⟨X1.range, X2.range⟩) (fun hHeld => ?_)
  refine wpAnyH_take (i := 0) (oi := ⟨some 20, _, _, _, _, _⟩) rfl (by kernel_rfl) (by kernel_rfl) (by kernel_rfl) (fun _ _ _ h => h) (yieldsIf_load_mid (by rfl) _ _ rfl g1 0 rfl [.int .i64 p1, .int .i64 s1, .bool st1, .bool sk1, .bool re1, .bool fe1, .bool ag1, .int .i64 c1, .int .i64 sl1, .slice A1 n1 u1, .slice A1' n1' u1', .int .i64 pl1, .slice M1 k1 d1, .slice B1 m1 e1, .slice B1' m1' e1', .int .i64 ql1, .int .i64 z1] _ (fun w h => h.1) Try.underlying46 rfl (by kernel_rfl)) hHeld ?_
  (try simp only [Act.put, List.setIfInBounds_toArray, List.set_cons_zero, List.set_cons_succ])
  refine wpAnyH_take (i := 2) (oi := ⟨some 22, _, _, _, _, _⟩) rfl (by kernel_rfl) (by kernel_rfl) (by kernel_rfl) (fun _ _ _ h => h) (yieldsIf_load_mid (by rfl) _ _ rfl g2 0 rfl [.int .i64 p2, .int .i64 s2, .bool st2, .bool sk2, .bool re2, .bool fe2, .bool ag2, .int .i64 c2, .int .i64 sl2, .slice A2 n2 u2, .slice A2' n2' u2', .int .i64 pl2, .slice M2 k2 d2, .slice B2 m2 e2, .slice B2' m2' e2', .int .i64 ql2, .int .i64 z2] _ (fun w h => h.2) Try.underlying46 rfl (by kernel_rfl)) hHeld ?_
  (try simp only [Act.put, List.setIfInBounds_toArray, List.set_cons_zero, List.set_cons_succ])
  refine wpAnyH_ready (rs := [1]) (by kernel_rfl) (by simp) ?_
  refine AllReadyH.cons (o := ⟨some 21, _, _, _, _, _⟩) rfl (fun K_ hK => ?_) AllReadyH.nil
  go_simp
  go_at_call 35; refine (toGame_any p1 s1 st1 sk1 re1 fe1 ag1 c1 sl1 A1 n1 u1 A1' n1' u1' pl1 M1 k1 d1 B1 m1 e1 B1' m1' e1' ql1 z1 xs1 xs1' ms1 ys1 ys1' _ (by exact ⟨H1.out.1.sub bt, H1.out.2.1.sub bt, H1.out.2.2.1.sub bt, H1.out.2.2.2.1.sub bt, H1.out.2.2.2.2.sub bt⟩) n11 n12 n13 n14 n15).mono ?_; rintro e w3 ⟨Xa, xa, Xa', xa', Na, ya, Ya, va, Ya', va', rfl, Ia, hb⟩; have bt := bt.trans (hb.mono bt.size); have X1 := G1.out.sub bt; have X2 := G2.out.sub bt
  (try go_wp2_with fail)
  refine hK.out _ _ (by exact ⟨X1.range, X2.range⟩) (fun hHeld => ?_)
  clear hK K_
  (try simp only [Act.put, List.setIfInBounds_toArray, List.set_cons_zero, List.set_cons_succ])
  refine wpAnyH_ready (rs := [3]) (by kernel_rfl) (by simp) ?_
  refine AllReadyH.cons (o := ⟨some 23, _, _, _, _, _⟩) rfl (fun K_ hK => ?_) AllReadyH.nil
  go_simp
  go_at_call 35; refine (toGame_any p2 s2 st2 sk2 re2 fe2 ag2 c2 sl2 A2 n2 u2 A2' n2' u2' pl2 M2 k2 d2 B2 m2 e2 B2' m2' e2' ql2 z2 xs2 xs2' ms2 ys2 ys2' _ (by exact ⟨H2.out.1.sub bt, H2.out.2.1.sub bt, H2.out.2.2.1.sub bt, H2.out.2.2.2.1.sub bt, H2.out.2.2.2.2.sub bt⟩) n21 n22 n23 n24 n25).mono ?_; rintro e w4 ⟨Xb, xb, Xb', xb', Nb, yb, Yb, vb, Yb', vb', rfl, Ib, hb⟩; have bt := bt.trans (hb.mono bt.size); have Ia := show _ ∧ _ ∧ _ ∧ _ ∧ _ from ⟨Ia.1.sub hb, Ia.2.1.sub hb, Ia.2.2.1.sub hb, Ia.2.2.2.1.sub hb, Ia.2.2.2.2.sub hb⟩; have X1 := G1.out.sub bt; have X2 := G2.out.sub bt
  (try go_wp2_with fail)
  refine hK.out _ _ (by exact ⟨X1.range, X2.range⟩) (fun hHeld => ?_)
  clear hK K_
  (try simp only [Act.put, List.setIfInBounds_toArray, List.set_cons_zero, List.set_cons_succ])
  refine wpAnyH_ready (rs := [4]) (by kernel_rfl) (by simp) ?_
  refine AllReadyH.cons (o := ⟨some 24, _, _, _, _, _⟩) rfl (fun K_ hK => ?_) AllReadyH.nil
  go_simp
  go_at_call 34; refine (specSameGame_any p1 s1 st1 sk1 re1 fe1 ag1 c1 sl1 Xa n1 xa Xa' n1' xa' pl1 Na k1 ya Ya m1 va Ya' m1' va' ql1 z1 xs1 xs1' ms1 ys1 ys1' p2 s2 st2 sk2 re2 fe2 ag2 c2 sl2 Xb n2 xb Xb' n2' xb' pl2 Nb k2 yb Yb m2 vb Yb' m2' vb' ql2 z2 xs2 xs2' ms2 ys2 ys2' _ (by exact Ia) (by exact Ib)).mono ?_; rintro e w5 ⟨rfl, hb⟩; rw [HV.out]; have bt := bt.trans (hb.mono bt.size); have X1 := G1.out.sub bt; have X2 := G2.out.sub bt
  (try go_wp2_with fail)
  refine hK.out _ _ (by exact ⟨X1.range, X2.range⟩) (fun hHeld => ?_)
  clear hK K_
  (try simp only [Act.put, List.setIfInBounds_toArray, List.set_cons_zero, List.set_cons_succ])
  refine wpAnyH_ready (rs := [5]) (by kernel_rfl) (by simp) ?_
  refine AllReadyH.cons (o := ⟨some 6, _, _, _, _, _⟩) rfl (fun K_ hK => ?_) AllReadyH.nil
  go_simp
  refine hK.out _ _ (by exact ⟨X1.range, X2.range⟩) (fun hHeld => ?_)
  clear hK K_
  (try simp only [Act.put, List.setIfInBounds_toArray, List.set_cons_zero, List.set_cons_succ])
  refine wpAnyH_done (by kernel_rfl) ?_ _
  refine NoPanic.normal ?_
  exact HK.out _ _ _ _ _ _ bt
end Go.Proofs.Ytnanaldolnehiaa
