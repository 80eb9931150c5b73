/-
  A drawn region of l04Bent, alone.
-/
import Derived.Test.YtnanaldolnehiaaBentKit
import Derived.Test.YtnanaldolnehiaaWhole
import Derived.Test.YtnanaldolnehiaaMajor
import Derived.Deep.RegionHeld3
set_option linter.unusedSimpArgs false
set_option linter.unusedVariables false
namespace Go.Proofs.Ytnanaldolnehiaa
open Go.ChangeShapes Go.WideShapes Go.RowKit Go.Deep

set_option maxRecDepth 100000 in
set_option maxHeartbeats 4000000 in
theorem bentReg6 (w0 W : World) (b : Nat) (SA : Option Addr) (sn sc : Nat) (szs : List Int) (k : Nat) (sd : Int) (R P rb pb base : Nat) (p s : Int) (st sk re fe ag : Bool) (c sl : Int) (gA n cA : Nat) (zs : List Int) (gB cB : Nat) (y0 y1 pl : Int) (a : Nat) (ha : a < n) (hk : k ≤ 3000000) (h : BS w0 W b SA sn sc szs k sd R P rb pb base [.int .i64 p, .int .i64 s, .bool st, .bool sk, .bool re, .bool fe, .bool ag, .int .i64 c, .int .i64 sl] [.slice (some ⟨gA, 0, none⟩) n cA, .slice (some ⟨gB, 0, none⟩) 2 cB, .int .i64 pl] gA n cA zs (some ⟨gB, 0, none⟩) 2 cB [y0, y1]) {Q_ : Exit → Act → World → Prop} {t1 t2 t3 t4 t7 t8 t9 t10 t11 t12 t13 t14 t15 t16 t17 t18 t19 t20 t21 t22 t23 t24 t25 t26 t27 t28 t29 t30 t31 t32 t33 t34 t35 t36 t37 t38 t39 t40 t41 t42 t43 t44 t45 t46 t47 t48 t49 t50 t51 t52 t53 t54 t55 t56 t57 t58 t59 t60 t61 t62 t63 t64 t65 t66 t67 t68 t69 : Value} {ds : List Deferred}
    (hK : ∀ (u20 u21 u22 u23 u24 u25 u26 : Value) (zs2 : List Int) (k2 : Nat) (d2 : Int) w', k2 ≤ k + 2 → BS w0 w' b SA sn sc szs k2 d2 R P rb pb base [.int .i64 p, .int .i64 s, .bool st, .bool sk, .bool re, .bool fe, .bool ag, .int .i64 c, .int .i64 sl] [.slice (some ⟨gA, 0, none⟩) n cA, .slice (some ⟨gB, 0, none⟩) 2 cB, .int .i64 pl] gA n cA zs2 (some ⟨gB, 0, none⟩) 2 cB [y0, y1] → Q_ Exit.normal ⟨#[.pointer (some ⟨b, 0, none⟩), t1, t2, t3, t4, .pointer (some ⟨pb, 0, none⟩), .int .i64 (a : Int), t7, t8, t9, t10, t11, t12, t13, t14, t15, t16, t17, t18, t19, u20, u21, u22, u23, u24, u25, u26, t27, t28, t29, t30, t31, t32, t33, t34, t35, t36, t37, t38, t39, t40, t41, t42, t43, t44, t45, t46, t47, t48, t49, t50, t51, t52, t53, t54, t55, t56, t57, t58, t59, t60, t61, t62, t63, t64, t65, t66, t67, t68, t69], ds⟩ w') :
    Code.wp Try.prog (findRegion 6 (Try.f166.body.getD .skip)) Q_ ⟨#[.pointer (some ⟨b, 0, none⟩), t1, t2, t3, t4, .pointer (some ⟨pb, 0, none⟩), .int .i64 (a : Int), t7, t8, t9, t10, t11, t12, t13, t14, t15, t16, t17, t18, t19, t20, t21, t22, t23, t24, t25, t26, t27, t28, t29, t30, t31, t32, t33, t34, t35, t36, t37, t38, t39, t40, t41, t42, t43, t44, t45, t46, t47, t48, t49, t50, t51, t52, t53, t54, t55, t56, t57, t58, t59, t60, t61, t62, t63, t64, t65, t66, t67, t68, t69], ds⟩ W := by
  simp only [Try.f166, findRegion, Option.getD, Nat.reduceEqDiff, if_true, if_false]
  have H1 := h.drew
  have g1_ := h.gpb
  have g2_ : ¬ (pb = gA) := fun e => g1_ e.symm
  have p0 := h.kq.1.at_ 0 rfl
  have i0 : (0 : Int) ≤ (a : Int) := by omega
  have i1 : (a : Int) < (n : Int) := by omega
  obtain ⟨x, hx⟩ := get_some (zs := zs) (k := a) (by have := h.oa.len; omega)
  have HX := Lib.hid hx
  have HK := Lib.hid hK
  have lt1 := h.sr.lt
  clear hx hK h
  go_region_held3 (fun w' => w'.cell? ⟨pb, 0, none⟩ = some (.slice (some ⟨gA, 0, none⟩) n cA)) (first | with_reducible assumption | go_keep) (first
    | (go_at_call 168; refine (among_any b SA sn sc szs k sd _ 4 4 [-1, 96, 40, 9223372036854775807] (by omega) (by omega) (by omega) _ (by exact (H1.alloc _).sr) (by exact (own_lit W.drew [-1, 96, 40, 9223372036854775807] 4 rfl (by omega)).lower (by show b + 1 ≤ W.heap.size; omega))).mono ?_; rintro e w3 ⟨z, k3, d3, rfl, s3, hk3, g3⟩; have H3 := (H1.alloc _).pick s3 g3; have p0 := H3.kq.1.at_ 0 rfl; have qj := H3.oa.cell HX.out; have fj := H3.oa.free a))
  exact HK.out _ _ _ _ _ _ _ _ _ _ _ hk3 (H3.setPit rfl a z)
theorem BS.drewN {w0 W : World} {b : Nat} {SA : Option Addr} {sn sc : Nat} {szs : List Int} {k : Nat} {sd : Int} {R P rb pb base : Nat} {rc pc : List Value} {gA n cA : Nat} {zs : List Int} {A' : Option Addr} {n' c' : Nat} {ys : List Int} (h : BS w0 W b SA sn sc szs k sd R P rb pb base rc pc gA n cA zs A' n' c' ys) (m : Nat) : BS w0 (W.drewN m) b SA sn sc szs k sd R P rb pb base rc pc gA n cA zs A' n' c' ys :=
  ⟨h.kr, h.kp, h.kv, h.kq, h.oa, h.ob, h.sr, ⟨h.gr.os, h.gr.tape, h.gr.output, h.gr.size, h.gr.block⟩, h.bR, h.bP, h.RP, h.brb, h.Rrb, h.Prb, h.Rba, h.Pba, h.bba, h.nrA, h.nrq, h.rpb, h.bpb, h.bgA, h.gpb, h.hR, h.hP, h.nA, h.nq⟩
set_option maxRecDepth 100000 in
set_option maxHeartbeats 4000000 in
theorem bentReg14 (w0 W : World) (b : Nat) (SA : Option Addr) (sn sc : Nat) (szs : List Int) (k : Nat) (sd : Int) (R P rb pb base : Nat) (p s : Int) (st sk re fe ag : Bool) (c sl : Int) (gA n cA : Nat) (zs : List Int) (gB cB : Nat) (y0 y1 pl : Int) (hn : n ≤ 16) (hk : k ≤ 3000000) (h : BS w0 W b SA sn sc szs k sd R P rb pb base [.int .i64 p, .int .i64 s, .bool st, .bool sk, .bool re, .bool fe, .bool ag, .int .i64 c, .int .i64 sl] [.slice (some ⟨gA, 0, none⟩) n cA, .slice (some ⟨gB, 0, none⟩) 2 cB, .int .i64 pl] gA n cA zs (some ⟨gB, 0, none⟩) 2 cB [y0, y1]) {Q_ : Exit → Act → World → Prop} {t1 t2 t3 t4 t6 t7 t8 t9 t10 t11 t12 t13 t14 t15 t16 t17 t18 t19 t20 t21 t22 t23 t24 t25 t26 t27 t28 t29 t30 t31 t32 t33 t34 t35 t36 t37 t38 t39 t40 t41 t42 t43 t44 t45 t46 t47 t48 t49 t50 t51 t52 t53 t54 t55 t56 t57 t58 t59 t60 t61 t62 t63 t64 t65 t66 t67 t68 t69 : Value} {ds : List Deferred}
    (hK : ∀ (u48 u49 u50 u51 u52 u53 u54 u55 u56 u57 u58 u59 u60 u61 u62 u63 : Value) (z : Int) (k2 : Nat) (d2 : Int) w', k2 ≤ k + 2 → BS w0 w' b SA sn sc szs k2 d2 R P rb pb base [.int .i64 p, .int .i64 s, .bool st, .bool sk, .bool re, .bool fe, .bool ag, .int .i64 c, .int .i64 sl] [.slice (some ⟨gA, 0, none⟩) n cA, .slice (some ⟨gB, 0, none⟩) 2 cB, .int .i64 pl] gA n cA zs (some ⟨gB, 0, none⟩) 2 cB [z, y1] → Q_ Exit.normal ⟨#[.pointer (some ⟨b, 0, none⟩), t1, t2, t3, t4, .pointer (some ⟨pb, 0, none⟩), t6, t7, t8, t9, t10, t11, t12, t13, t14, t15, t16, t17, t18, t19, t20, t21, t22, t23, t24, t25, t26, t27, t28, t29, t30, t31, t32, t33, t34, t35, t36, t37, t38, t39, t40, t41, t42, t43, t44, t45, t46, t47, u48, u49, u50, u51, u52, u53, u54, u55, u56, u57, u58, u59, u60, u61, u62, u63, t64, t65, t66, t67, t68, t69], ds⟩ w') :
    Code.wp Try.prog (findRegion 14 (Try.f166.body.getD .skip)) Q_ ⟨#[.pointer (some ⟨b, 0, none⟩), t1, t2, t3, t4, .pointer (some ⟨pb, 0, none⟩), t6, t7, t8, t9, t10, t11, t12, t13, t14, t15, t16, t17, t18, t19, t20, t21, t22, t23, t24, t25, t26, t27, t28, t29, t30, t31, t32, t33, t34, t35, t36, t37, t38, t39, t40, t41, t42, t43, t44, t45, t46, t47, t48, t49, t50, t51, t52, t53, t54, t55, t56, t57, t58, t59, t60, t61, t62, t63, t64, t65, t66, t67, t68, t69], ds⟩ W := by
  simp only [Try.f166, findRegion, Option.getD, Nat.reduceEqDiff, if_true, if_false]
  have H1 := h.drew
  have g1_ : ¬ (gB = pb) := fun e => h.nq (by rw [e])
  have e1_ : ∀ (w : World) (j : Nat) (u : Value), (w.setCell ⟨gB, 0, none⟩ u).cell? ⟨pb, j, none⟩ = w.cell? ⟨pb, j, none⟩ := fun w j u => World.cell?_setCell_other _ _ _ _ (by simp <;> omega)
  have e2_ : ∀ (w : World) (u : Value), (w.setCell ⟨gB, 0, none⟩ u).cell? ⟨gB, 1, none⟩ = w.cell? ⟨gB, 1, none⟩ := fun w u => World.cell?_setCell_other _ _ _ _ (by simp <;> omega)
  have p0 := h.kq.1.at_ 0 rfl
  have p1 := h.kq.1.at_ 1 rfl
  have q1 := h.ob.cell (k := 1) rfl
  obtain ⟨v, hv⟩ : ∃ v, sumL zs = v := ⟨_, rfl⟩
  obtain ⟨mxv, hmx⟩ : ∃ x, mx 0 v = x := ⟨_, rfl⟩
  have HV := Lib.hid hv
  have HM := Lib.hid hmx
  have HK := Lib.hid hK
  have lt1 := h.sr.lt
  clear hv hmx hK h
  go_region_held3 (fun w' => w'.cell? ⟨pb, 0, none⟩ = some (.slice (some ⟨gA, 0, none⟩) n cA) ∧ w'.cell? ⟨pb, 1, none⟩ = some (.slice (some ⟨gB, 0, none⟩) 2 cB) ∧ w'.cell? ⟨gB, 1, none⟩ = some (.int .i64 y1)) (first | (refine ⟨?_, ?_, ?_⟩ <;> with_reducible assumption) | (refine ⟨?_, ?_, ?_⟩ <;> (simp only [e1_, e2_]; with_reducible assumption)) | go_keep) (first
    | (go_at_call 138; refine (l04Sum_is _ _ n cA zs v HV.out _ (by exact H1.oa.ints) (by omega)).mono ?_; rintro e w2 ⟨rfl, m2, hm2⟩; have H2 := H1.drewN m2; rw [← hm2] at H2; clear hm2; have p0 := H2.kq.1.at_ 0 rfl; have p1 := H2.kq.1.at_ 1 rfl; have q1 := H2.ob.cell (k := 1) rfl)
    | (go_at_call 168; refine (among_any b SA sn sc szs k sd _ 3 3 [-1, _, 96] (by omega) (by omega) (by omega) _ (by exact (H3.alloc _).sr) (by exact (own_lit w3 [-1, _, 96] 3 rfl (by omega)).lower (by have := H3.sr.lt; omega))).mono ?_; rintro e w4 ⟨z, k3, d3, rfl, s3, hk3, g3⟩; have H4 := (H3.alloc _).pick s3 g3; have p0 := H4.kq.1.at_ 0 rfl; have p1 := H4.kq.1.at_ 1 rfl; have q1 := H4.ob.cell (k := 1) rfl; have qj := H4.ob.cell (k := 0) rfl; have fj := H4.ob.free 0)
    | (go_at_call 149; refine (l00Max_is 0 v mxv HM.out _).mono ?_; rintro e w3 ⟨rfl, m3, hm3⟩; have H3 := H2.drewN m3; rw [← hm3] at H3; clear hm3; have p0 := H3.kq.1.at_ 0 rfl; have p1 := H3.kq.1.at_ 1 rfl; have q1 := H3.ob.cell (k := 1) rfl))
  exact HK.out _ _ _ _ _ _ _ _ _ _ _ _ _ _ _ _ z _ _ _ hk3 (H4.setStore rfl 0 z)
theorem Has.drewQ {w : World} {b : Nat} {cs : List Value} (h : Has w b cs) : Has w.drew b cs := h
theorem Src.drewQ {w : World} {b : Nat} {A : Option Addr} {n c : Nat} {zs : List Int} {k : Nat} {sd : Int} (h : Src w b A n c zs k sd) : Src w.drew b A n c zs k sd := h
theorem gr_drewQ {w w' : World} {r : Option Nat} (h : w.grownBy w' r) : w.grownBy w'.drew r := ⟨h.os, h.tape, h.output, h.size, h.block⟩
set_option maxRecDepth 100000 in
set_option maxHeartbeats 4000000 in
theorem bentReg17 (w0 W : World) (b : Nat) (SA : Option Addr) (sn sc : Nat) (szs : List Int) (k : Nat) (sd : Int) (R P rb pb base : Nat) (p s : Int) (st sk re fe ag : Bool) (c sl : Int) (A1 : Option Addr) (n1 u1 : Nat) (pl : Int) (gA n cA : Nat) (zs : List Int) (A' : Option Addr) (n' c' : Nat) (ys : List Int) (hbR : b < R) (hbP : b < P) (h : BS w0 W b SA sn sc szs k sd R P rb pb base [.int .i64 p, .int .i64 s, .bool st, .bool sk, .bool re, .bool fe, .bool ag, .int .i64 c, .int .i64 sl] [.slice A1 n1 u1, .slice A' n' c', .int .i64 pl] gA n cA zs A' n' c' ys) {K : Act → World → Prop} {Q' : Exit → Act → World → Prop} {t0 t1 t6 t7 t8 t9 t10 t11 t12 t13 t14 t15 t16 t17 t18 t19 t20 t21 t22 t23 t24 t25 t26 t27 t28 t29 t30 t31 t32 t33 t34 t35 t36 t37 t38 t39 t40 t41 t42 t43 t44 t45 t46 t47 t48 t49 t50 t51 t52 t53 t54 t55 t56 t57 t58 t59 t60 t61 t62 t63 t64 t65 t66 t67 t68 t69 : Value} {ds : List Deferred}
    (hK : ∀ (u68 u69 : Value) w', Has w' R [.int .i64 p, .int .i64 s, .bool st, .bool sk, .bool re, .bool fe, .bool ag, .int .i64 c, .int .i64 sl] → Has w' P [.slice A1 n1 u1, .slice A' n' c', .int .i64 pl] → Own w' base (some ⟨gA, 0, none⟩) n cA zs → Own w' base A' n' c' ys → Src w' b SA sn sc szs k sd → w0.grownBy w' (some b) → K ⟨#[t0, t1, .pointer (some ⟨R, 0, none⟩), .pointer (some ⟨P, 0, none⟩), .pointer (some ⟨rb, 0, none⟩), .pointer (some ⟨pb, 0, none⟩), t6, t7, t8, t9, t10, t11, t12, t13, t14, t15, t16, t17, t18, t19, t20, t21, t22, t23, t24, t25, t26, t27, t28, t29, t30, t31, t32, t33, t34, t35, t36, t37, t38, t39, t40, t41, t42, t43, t44, t45, t46, t47, t48, t49, t50, t51, t52, t53, t54, t55, t56, t57, t58, t59, t60, t61, t62, t63, t64, t65, t66, t67, u68, u69], ds⟩ w') :
    Code.wp Try.prog (findRegion 17 (Try.f166.body.getD .skip)) (Exit.then K Q') ⟨#[t0, t1, .pointer (some ⟨R, 0, none⟩), .pointer (some ⟨P, 0, none⟩), .pointer (some ⟨rb, 0, none⟩), .pointer (some ⟨pb, 0, none⟩), t6, t7, t8, t9, t10, t11, t12, t13, t14, t15, t16, t17, t18, t19, t20, t21, t22, t23, t24, t25, t26, t27, t28, t29, t30, t31, t32, t33, t34, t35, t36, t37, t38, t39, t40, t41, t42, t43, t44, t45, t46, t47, t48, t49, t50, t51, t52, t53, t54, t55, t56, t57, t58, t59, t60, t61, t62, t63, t64, t65, t66, t67, t68, t69], ds⟩ W := by
  simp only [Try.f166, findRegion, Option.getD, Nat.reduceEqDiff, if_true, if_false]
  have H1 := h.drew
  have r0 := h.kv.1.at_ 0 rfl
  have rd0 := H1.kv.1.at_ 0 rfl
  have x0 := h.kr.1.at_ 0 rfl
  have f0 := h.kr.2 0
  have r1 := h.kv.1.at_ 1 rfl
  have rd1 := H1.kv.1.at_ 1 rfl
  have x1 := h.kr.1.at_ 1 rfl
  have f1 := h.kr.2 1
  have r2 := h.kv.1.at_ 2 rfl
  have rd2 := H1.kv.1.at_ 2 rfl
  have x2 := h.kr.1.at_ 2 rfl
  have f2 := h.kr.2 2
  have r3 := h.kv.1.at_ 3 rfl
  have rd3 := H1.kv.1.at_ 3 rfl
  have x3 := h.kr.1.at_ 3 rfl
  have f3 := h.kr.2 3
  have r4 := h.kv.1.at_ 4 rfl
  have rd4 := H1.kv.1.at_ 4 rfl
  have x4 := h.kr.1.at_ 4 rfl
  have f4 := h.kr.2 4
  have r5 := h.kv.1.at_ 5 rfl
  have rd5 := H1.kv.1.at_ 5 rfl
  have x5 := h.kr.1.at_ 5 rfl
  have f5 := h.kr.2 5
  have r6 := h.kv.1.at_ 6 rfl
  have rd6 := H1.kv.1.at_ 6 rfl
  have x6 := h.kr.1.at_ 6 rfl
  have f6 := h.kr.2 6
  have r7 := h.kv.1.at_ 7 rfl
  have rd7 := H1.kv.1.at_ 7 rfl
  have x7 := h.kr.1.at_ 7 rfl
  have f7 := h.kr.2 7
  have r8 := h.kv.1.at_ 8 rfl
  have rd8 := H1.kv.1.at_ 8 rfl
  have x8 := h.kr.1.at_ 8 rfl
  have f8 := h.kr.2 8
  have q0 := h.kq.1.at_ 0 rfl
  have qd0 := H1.kq.1.at_ 0 rfl
  have y0 := h.kp.1.at_ 0 rfl
  have g0 := h.kp.2 0
  have q1 := h.kq.1.at_ 1 rfl
  have qd1 := H1.kq.1.at_ 1 rfl
  have y1 := h.kp.1.at_ 1 rfl
  have g1 := h.kp.2 1
  have q2 := h.kq.1.at_ 2 rfl
  have qd2 := H1.kq.1.at_ 2 rfl
  have y2 := h.kp.1.at_ 2 rfl
  have g2 := h.kp.2 2
  simp only [z9, z3] at *
  have HB := Lib.hid h
  have HK := Lib.hid hK
  have n1_ : ¬ (rb = R) := by have := h.Rrb; omega
  have n2_ : ¬ (rb = P) := by have := h.Prb; omega
  have n3_ : ¬ (pb = R) := by have := h.Rba; have := h.bpb; omega
  have n4_ : ¬ (pb = P) := by have := h.Pba; have := h.bpb; omega
  have n5_ : ¬ (R = P) := h.RP
  have n6_ : R < base := h.Rba
  have n7_ : P < base := h.Pba
  have n8_ := h.hR
  have n9_ := h.hP
  have e1_ : ∀ (w : World) (i j : Nat) (u : Value), (w.setCell ⟨R, i, none⟩ u).cell? ⟨rb, j, none⟩ = w.cell? ⟨rb, j, none⟩ := fun w i j u => World.cell?_setCell_other _ _ _ _ (by simp <;> omega)
  have e2_ : ∀ (w : World) (i j : Nat) (u : Value), (w.setCell ⟨R, i, none⟩ u).cell? ⟨pb, j, none⟩ = w.cell? ⟨pb, j, none⟩ := fun w i j u => World.cell?_setCell_other _ _ _ _ (by simp <;> omega)
  have e3_ : ∀ (w : World) (i j : Nat) (u : Value), (w.setCell ⟨P, i, none⟩ u).cell? ⟨rb, j, none⟩ = w.cell? ⟨rb, j, none⟩ := fun w i j u => World.cell?_setCell_other _ _ _ _ (by simp <;> omega)
  have e4_ : ∀ (w : World) (i j : Nat) (u : Value), (w.setCell ⟨P, i, none⟩ u).cell? ⟨pb, j, none⟩ = w.cell? ⟨pb, j, none⟩ := fun w i j u => World.cell?_setCell_other _ _ _ _ (by simp <;> omega)
  have e5_ : ∀ (w : World) (i j : Nat) (u : Value), (w.setCell ⟨R, i, none⟩ u).cell? ⟨P, j, none⟩ = w.cell? ⟨P, j, none⟩ := fun w i j u => World.cell?_setCell_other _ _ _ _ (by simp <;> omega)
  have m1_ : ¬ (R = rb) := fun e => n1_ e.symm
  have m2_ : ¬ (P = rb) := fun e => n2_ e.symm
  have m3_ : ¬ (R = pb) := fun e => n3_ e.symm
  have m4_ : ¬ (P = pb) := fun e => n4_ e.symm
  have m5_ : ¬ (P = R) := fun e => n5_ e.symm
  clear hK h
  refine wp_region_noPanic ?_
  refine wp_region_held_drew (S := fun w' => w'.cell? ⟨rb, 0, none⟩ = some (.int .i64 p) ∧ w'.cell? ⟨rb, 1, none⟩ = some (.int .i64 s) ∧ w'.cell? ⟨rb, 2, none⟩ = some (.bool st) ∧ w'.cell? ⟨rb, 3, none⟩ = some (.bool sk) ∧ w'.cell? ⟨rb, 4, none⟩ = some (.bool re) ∧ w'.cell? ⟨rb, 5, none⟩ = some (.bool fe) ∧ w'.cell? ⟨rb, 6, none⟩ = some (.bool ag) ∧ w'.cell? ⟨rb, 7, none⟩ = some (.int .i64 c) ∧ w'.cell? ⟨rb, 8, none⟩ = some (.int .i64 sl) ∧ w'.cell? ⟨pb, 0, none⟩ = some (.slice A1 n1 u1) ∧ w'.cell? ⟨pb, 1, none⟩ = some (.slice A' n' c') ∧ w'.cell? ⟨pb, 2, none⟩ = some (.int .i64 pl)) (by kernel_rfl) (by first | (refine ⟨?_, ?_, ?_, ?_, ?_, ?_, ?_, ?_, ?_, ?_, ?_, ?_⟩ <;> with_reducible assumption) | (refine ⟨?_, ?_, ?_, ?_, ?_, ?_, ?_, ?_, ?_, ?_, ?_, ?_⟩ <;> (simp only [e1_, e2_, e3_, e4_]; with_reducible assumption)) | go_keep) (fun hHeld => ?_)
  refine wpAnyH_take (i := 0) (oi := ⟨some 68, _, _, _, _, _⟩) (v := ?_) rfl (by kernel_rfl) (by kernel_rfl) (by kernel_rfl) (fun _ _ _ h => h) (Or.inl ⟨by rfl, ?_⟩) hHeld ?_
  rotate_left
  · intro w hSw
    (try dsimp only at hSw)
    obtain ⟨_, _, _, _, _, _, _, _, _, _, _, _⟩ := hSw
    go_simp
    (try with_reducible rfl)
  (try simp only [Act.put, List.setIfInBounds_toArray, List.set_cons_zero, List.set_cons_succ])
  refine wpAnyH_take (i := 1) (oi := ⟨some 69, _, _, _, _, _⟩) (v := ?_) rfl (by kernel_rfl) (by kernel_rfl) (by kernel_rfl) (fun _ _ _ h => h) (Or.inl ⟨by rfl, ?_⟩) hHeld ?_
  rotate_left
  · intro w hSw
    (try dsimp only at hSw)
    obtain ⟨_, _, _, _, _, _, _, _, _, _, _, _⟩ := hSw
    go_simp
    (try with_reducible rfl)
  (try simp only [Act.put, List.setIfInBounds_toArray, List.set_cons_zero, List.set_cons_succ])
  refine wpAnyH_ready (rs := [2]) (by kernel_rfl) (by simp) ?_
  refine AllReadyH.cons (o := ⟨none, _, _, _, _, _⟩) rfl (fun K_ hK => ?_) AllReadyH.nil
  go_simp
  refine hK.out _ _ (by first | (refine ⟨?_, ?_, ?_, ?_, ?_, ?_, ?_, ?_, ?_, ?_, ?_, ?_⟩ <;> with_reducible assumption) | (refine ⟨?_, ?_, ?_, ?_, ?_, ?_, ?_, ?_, ?_, ?_, ?_, ?_⟩ <;> (simp only [e1_, e2_, e3_, e4_]; with_reducible assumption)) | go_keep) (fun hHeld => ?_)
  clear hK K_
  (try simp only [Act.put, List.setIfInBounds_toArray, List.set_cons_zero, List.set_cons_succ])
  refine wpAnyH_ready (rs := [3]) (by kernel_rfl) (by simp) ?_
  refine AllReadyH.cons (o := ⟨none, _, _, _, _, _⟩) rfl (fun K_ hK => ?_) AllReadyH.nil
  go_simp
  refine hK.out _ _ (by first | (refine ⟨?_, ?_, ?_, ?_, ?_, ?_, ?_, ?_, ?_, ?_, ?_, ?_⟩ <;> with_reducible assumption) | (refine ⟨?_, ?_, ?_, ?_, ?_, ?_, ?_, ?_, ?_, ?_, ?_, ?_⟩ <;> (simp only [e1_, e2_, e3_, e4_]; with_reducible assumption)) | go_keep) (fun hHeld => ?_)
  clear hK K_
  (try simp only [Act.put, List.setIfInBounds_toArray, List.set_cons_zero, List.set_cons_succ])
  refine wpAnyH_done (by kernel_rfl) ?_ _
  refine NoPanic.normal ?_
  refine HK.out _ _ _ ?_ ?_ ?_ ?_ ?_ ?_
  · refine Has.drewQ ?_
    repeat (with_reducible refine Has.other ?_ _ (by show ¬ (P = R); exact m5_) _)
    exact (((((((((HB.out.kr.set 0 (.int .i64 p) (by simp [z9])).set 1 (.int .i64 s) (by simp [z9])).set 2 (.bool st) (by simp [z9])).set 3 (.bool sk) (by simp [z9])).set 4 (.bool re) (by simp [z9])).set 5 (.bool fe) (by simp [z9])).set 6 (.bool ag) (by simp [z9])).set 7 (.int .i64 c) (by simp [z9])).set 8 (.int .i64 sl) (by simp [z9])).1
  · have KP1 := (OutAt.other (OutAt.other (OutAt.other (OutAt.other (OutAt.other (OutAt.other (OutAt.other (OutAt.other (OutAt.other HB.out.kp ⟨R, 0, none⟩ (by show ¬ (R = P); exact n5_) (.int .i64 p)) ⟨R, 1, none⟩ (by show ¬ (R = P); exact n5_) (.int .i64 s)) ⟨R, 2, none⟩ (by show ¬ (R = P); exact n5_) (.bool st)) ⟨R, 3, none⟩ (by show ¬ (R = P); exact n5_) (.bool sk)) ⟨R, 4, none⟩ (by show ¬ (R = P); exact n5_) (.bool re)) ⟨R, 5, none⟩ (by show ¬ (R = P); exact n5_) (.bool fe)) ⟨R, 6, none⟩ (by show ¬ (R = P); exact n5_) (.bool ag)) ⟨R, 7, none⟩ (by show ¬ (R = P); exact n5_) (.int .i64 c)) ⟨R, 8, none⟩ (by show ¬ (R = P); exact n5_) (.int .i64 sl))
    refine Has.drewQ ?_
    exact (((KP1.set 0 (.slice A1 n1 u1) (by simp [z3])).set 1 (.slice A' n' c') (by simp [z3])).set 2 (.int .i64 pl) (by simp [z3])).1
  · refine Own.drew' ?_
    repeat (with_reducible refine Own.setBelow ?_ (by first | exact n6_ | exact n7_) _)
    exact HB.out.oa
  · refine Own.drew' ?_
    repeat (with_reducible refine Own.setBelow ?_ (by first | exact n6_ | exact n7_) _)
    exact HB.out.ob
  · refine Src.drewQ ?_
    repeat (with_reducible refine Src.other ?_ (by first | exact hbR | exact hbP) _)
    exact HB.out.sr
  · refine gr_drewQ ?_
    repeat (with_reducible refine grown_set ?_ _ (by first | exact n8_ | exact n9_) _)
    exact HB.out.gr
end Go.Proofs.Ytnanaldolnehiaa
