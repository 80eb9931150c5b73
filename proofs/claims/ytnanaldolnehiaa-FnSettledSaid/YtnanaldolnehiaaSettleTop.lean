/-
  SettlePosition of both: what it hands back.
-/
import Derived.Test.YtnanaldolnehiaaSettled
import Derived.Test.YtnanaldolnehiaaGiveTop
set_option linter.unusedSimpArgs false
set_option linter.unusedVariables false
namespace Go.Proofs.Ytnanaldolnehiaa
open Go.ChangeShapes Go.WideShapes Go.RowKit Go.Deep

/-- What SettlePosition hands back. -/
def seX (b : Bool) (xs : List Int) : List Int := if b then List.replicate xs.length 0 else []
def seY (b : Bool) (p : Int) (xs xs' : List Int) : List Int := if b then [xs'.getD 0 0 + sideV p xs 0, xs'.getD 1 0 + sideV p xs 1] else []
def seP (b : Bool) (pl : Int) : Int := if b then pl else 0
theorem specSettlePosition_ret {Post : Ending → World → Prop} {a : Act} {W : World} {g n c n' c' : Nat} {A A' : Option Addr} {pl k : Int} (ha : a.tmps.getD 4 undef = .pointer (some ⟨g, 0, none⟩)) (hk : a.tmps.getD 5 undef = .int .i64 k) (hd : a.defers = []) (hr : PosAt W g 0 A n c A' n' c' pl) (hP : Post (.returned (.tuple #[.agg #[.slice A n c, .slice A' n' c', .int .i64 pl], .int .i64 k])) W) : bodyPost Try.prog Try.f26 Post Exit.ret a W := by
  obtain ⟨c0, c1, c2⟩ := hr.flat
  refine bodyPost_ret (v := .tuple #[.agg #[.slice A n c, .slice A' n' c', .int .i64 pl], .int .i64 k]) ?_ hd hP
  obtain ⟨tmps, defers⟩ := a
  simp only [Array.getD_eq_getD_getElem?] at ha hk
  simp [results, Try.results26, go_sem, ha, hk, c0, c1, c2]
set_option maxRecDepth 100000 in
set_option maxHeartbeats 4000000 in
theorem specSettlePosition_any (p s : Int) (st sk re fe ag : Bool) (c sl : Int) (A A' : Option Addr) (n u n' u' : Nat) (xs xs' : List Int) (pl : Int) (w : World) (h : Ints w w.heap.size A n u xs) (h' : Ints w w.heap.size A' n' u' xs') (hn : n ≤ 4294967296) :
    Calls Try.prog 26 #[.agg #[.int .i64 p, .int .i64 s, .bool st, .bool sk, .bool re, .bool fe, .bool ag, .int .i64 c, .int .i64 sl], .agg #[.slice A n u, .slice A' n' u', .int .i64 pl]] w (RetP w (seX (okP ⟨p, s, st, sk, re, fe, ag, c, sl⟩ xs xs' pl) xs) (seY (okP ⟨p, s, st, sk, re, fe, ag, c, sl⟩ xs xs' pl) p xs xs') (seP (okP ⟨p, s, st, sk, re, fe, ag, c, sl⟩ xs xs' pl) pl) (codP (okP ⟨p, s, st, sk, re, fe, ag, c, sl⟩ xs xs' pl))) := by
  have HL := Lib.hid h.len
  have HL' := Lib.hid h'.len
  have hi := h.le
  have P0 := ((RuAt.box w 31 p s st sk re fe ag c sl).alloc (.cells #[.slice A n u, .slice A' n' u', .int .i64 pl] 28)).alloc (.cells #[.slice none 0 0, .slice none 0 0, .int .i64 0] 28)
  have P1 := (PosAt.box (w.alloc (.cells #[.int .i64 p, .int .i64 s, .bool st, .bool sk, .bool re, .bool fe, .bool ag, .int .i64 c, .int .i64 sl] 31)) 28 A n u A' n' u' pl).alloc (.cells #[.slice none 0 0, .slice none 0 0, .int .i64 0] 28)
  have R0 := box_new' ((w.alloc (.cells #[.int .i64 p, .int .i64 s, .bool st, .bool sk, .bool re, .bool fe, .bool ag, .int .i64 c, .int .i64 sl] 31)).alloc (.cells #[.slice A n u, .slice A' n' u', .int .i64 pl] 28)) 28 (w.heap.size + 2) (by simp)
  have hs1 : (w.alloc (.cells #[.int .i64 p, .int .i64 s, .bool st, .bool sk, .bool re, .bool fe, .bool ag, .int .i64 c, .int .i64 sl] 31)).heap.size = w.heap.size + 1 := by simp
  rw [hs1] at P1
  clear hs1
  have hbW : Below w.heap.size w (((w.alloc (.cells #[.int .i64 p, .int .i64 s, .bool st, .bool sk, .bool re, .bool fe, .bool ag, .int .i64 c, .int .i64 sl] 31)).alloc (.cells #[.slice A n u, .slice A' n' u', .int .i64 pl] 28)).alloc (.cells #[.slice none 0 0, .slice none 0 0, .int .i64 0] 28)) := (by repeat (first | with_reducible exact Below.refl _ _ | with_reducible assumption | with_reducible refine sub_alloc ?_ _ | (with_reducible refine sub_setCell2 ?_ ?_ _; (focus (first | (simp; done) | (simp <;> omega)))) | with_reducible refine sub_drew ?_ | with_reducible refine below_drewN ?_ _ | with_reducible refine sub_step (by assumption) ?_ (by first | rfl | (simp; done)) | exact Below.refl _ _ | assumption | refine sub_alloc ?_ _ | refine sub_setCell ?_ (by simp <;> omega) _ | refine sub_drew ?_ | refine below_drewN ?_ _ | refine sub_step (by assumption) ?_ (by first | rfl | (simp; done))))
  have hsz : (((w.alloc (.cells #[.int .i64 p, .int .i64 s, .bool st, .bool sk, .bool re, .bool fe, .bool ag, .int .i64 c, .int .i64 sl] 31)).alloc (.cells #[.slice A n u, .slice A' n' u', .int .i64 pl] 28)).alloc (.cells #[.slice none 0 0, .slice none 0 0, .int .i64 0] 28)).heap.size = w.heap.size + 3 := by simp
  have HH := h.sub hbW
  have HH' := h'.sub hbW
  obtain ⟨W, hW⟩ : ∃ W, W = (((w.alloc (.cells #[.int .i64 p, .int .i64 s, .bool st, .bool sk, .bool re, .bool fe, .bool ag, .int .i64 c, .int .i64 sl] 31)).alloc (.cells #[.slice A n u, .slice A' n' u', .int .i64 pl] 28)).alloc (.cells #[.slice none 0 0, .slice none 0 0, .int .i64 0] 28)) := ⟨_, rfl⟩
  rw [← hW] at P0 P1 R0 hbW hsz HH HH'
  have HW := Lib.hid hW
  have HI := Lib.hid HH
  have HI' := Lib.hid HH'
  have HP0 := Lib.hid P0
  have HP1 := Lib.hid P1
  have HR := Lib.hid R0
  have l0 := P0.lt
  have l1 := P1.lt
  have l2 := R0.1.lt
  have sW : w.heap.size + 3 ≤ W.heap.size := by omega
  clear h h' hW HH HH' P0 P1 R0 hsz
  cases e0 : okP ⟨p, s, st, sk, re, fe, ag, c, sl⟩ xs xs' pl
  · have E0 := Lib.hid e0
    clear e0
    go_enter Try.func26, Try.ntmps26
    go_wp2_with fail
    rw [← HW.out]
    refine (l04Ok_any w.heap.size 0 (w.heap.size + 1) 0 ⟨p, s, st, sk, re, fe, ag, c, sl⟩ _ _ _ _ _ _ xs xs' pl _ (by exact HP0.out) (by exact HP1.out) (by exact HI.out) (by exact HI'.out) hn).mono ?_
    rintro e w1 ⟨rfl, m1, rfl⟩
    have hb1 : Below W.heap.size W (W.drewN m1) := below_drewN (Below.refl _ _) _
    rw [E0.out]
    have X0 := HP0.out.below hb1 l0
    have X1 := HP1.out.below hb1 l1
    have X2 := HR.out.keep hb1
    obtain ⟨c0, c1, c2, c3, c4, c5, c6, c7, c8⟩ := X0.flat
    obtain ⟨d0, d1, d2⟩ := X1.flat
    obtain ⟨f0, f1, f2, f3, f4, f5⟩ := X2.flat
    have hs := hb1.size
    go_wp2_with fail
    refine specSettlePosition_ret (g := w.heap.size + 2) (k := 1) (by rfl) (by rfl) (by rfl) (X2.set none 0 0 none 0 0 0) ⟨none, 0, none, 0, 0, 0, ?_, own_nil _ _, own_nil _ _, apart_nil, by omega, by omega, ?_⟩
    · simp [seX, seY, seP, codP, E0.out]
    · exact ((((hbW.trans (hb1.mono hbW.size)).setCell (by show _ ≤ w.heap.size + 2; omega) _).setCell (by show _ ≤ w.heap.size + 2; omega) _).setCell (by show _ ≤ w.heap.size + 2; omega) _)
  have E0 := Lib.hid e0
  obtain ⟨z0, z1, z2, -, z3, z4, z5, z6, z7, z8, -, -, -⟩ := okP_parts e0
  obtain ⟨hq0, hq1⟩ := okR_pits z0
  dsimp only at hq0 hq1 z1
  obtain rfl : n' = 2 := by rw [← HL'.out, z2]
  obtain ⟨x0, x1, rfl⟩ := two_of z2
  obtain ⟨g0, g1⟩ := okN_at z4 (k := 0) (x := x0) rfl
  obtain ⟨g2, g3⟩ := okN_at z4 (k := 1) (x := x1) rfl
  have hq9 : (n : Int) = 2 * p := by rw [← HL.out]; exact z1
  have HQ9 := Lib.hid hq9
  have SS := sides_sum z1 (by omega)
  have b0 := sideV_bd z3 p 0
  have b1 := sideV_bd z3 p 1
  have b2 : sideV p xs 0 + sideV p xs 1 ≤ 96 := by omega
  have b3 : xs.sum ≤ 96 := by omega
  have LN : Hid (xs.length = n) := HL
  have K3 := Lib.hid z3
  have K8 := Lib.hid z8
  have SSH := Lib.hid SS
  clear e0 z0 z1 z2 z3 z4 z5 z7 z8 hq9 SS
  refine Calls.mono (R := RetP w (List.replicate n 0) [x0 + sideV p xs 0, x1 + sideV p xs 1] pl 0) ?_ (fun e w' hq => by
    simpa [E0.out, seX, seY, seP, codP, HL.out] using hq)
  go_enter Try.func26, Try.ntmps26
  go_wp2_with fail
  rw [← HW.out]
  refine (l04Ok_any w.heap.size 0 (w.heap.size + 1) 0 ⟨p, s, st, sk, re, fe, ag, c, sl⟩ _ _ _ _ _ _ xs [x0, x1] pl _ (by exact HP0.out) (by exact HP1.out) (by exact HI.out) (by exact HI'.out) hn).mono ?_
  rintro e w1 ⟨rfl, m1, rfl⟩
  have hb1 : Below W.heap.size W (W.drewN m1) := below_drewN (Below.refl _ _) _
  rw [E0.out]
  have X0 := HP0.out.below hb1 l0
  have X1 := HP1.out.below hb1 l1
  have X2 := HR.out.keep hb1
  obtain ⟨c0, c1, c2, c3, c4, c5, c6, c7, c8⟩ := X0.flat
  obtain ⟨d0, d1, d2⟩ := X1.flat
  obtain ⟨f0, f1, f2, f3, f4, f5⟩ := X2.flat
  have hs := hb1.size
  go_wp2_with fail
  refine (l09Settle_any w.heap.size 0 (w.heap.size + 1) 0 p s st sk re fe ag c sl _ _ _ _ _ xs x0 x1 pl _ _ _ (by exact X0) (by exact X1) (by exact HI.out.sub hb1) (by exact HI'.out.sub hb1) hn HQ9.out hq0 hq1 K3.out rfl rfl b0 b1 b2 g0 g1 g2 g3).mono ?_
  rintro e w2 ⟨A1, u1, A2, u2, rfl, o1, o2, ap, hb2⟩
  have X3 := X2.keep hb2
  obtain ⟨f0, f1, f2, f3, f4, f5⟩ := X3.flat
  have hs2 := hb2.size
  have e1 := o1.lower (base' := w.heap.size + 3) (by first | (exact Nat.le_trans sW hs) | (simp; omega))
  have e2 := o2.lower (base' := w.heap.size + 3) (by first | (exact Nat.le_trans sW hs) | (simp; omega))
  have B2 := hbW.trans ((hb1.trans (hb2.mono hb1.size)).mono hbW.size)
  have O1 := Lib.hid e1
  have O2 := Lib.hid e2
  have BB := Lib.hid B2
  have n16 : n ≤ 16 := by have := HQ9.out; omega
  clear e1 e2 B2 o1 o2 hb2 hb1 X0 X1 X2 c0 c1 c2 c3 c4 c5 c6 c7 c8 d0 d1 d2
  go_wp2_with fail
  refine specSettlePosition_ret (g := w.heap.size + 2) (k := 0) (by rfl) (by rfl) (by rfl) (X3.set A1 n u1 A2 2 u2 pl) ⟨A1, u1, A2, u2, _, _, rfl, ?_, ?_, ap, by omega, by omega, ?_⟩
  · exact (((O1.out.setBelow (by show w.heap.size + 2 < _; omega) _).setBelow (by show w.heap.size + 2 < _; omega) _).setBelow (by show w.heap.size + 2 < _; omega) _).lower (by omega)
  · exact (((O2.out.setBelow (by show w.heap.size + 2 < _; omega) _).setBelow (by show w.heap.size + 2 < _; omega) _).setBelow (by show w.heap.size + 2 < _; omega) _).lower (by omega)
  · exact ((BB.out.setCell (by show _ ≤ w.heap.size + 2; omega) _).setCell (by show _ ≤ w.heap.size + 2; omega) _).setCell (by show _ ≤ w.heap.size + 2; omega) _
theorem implSettlePosition_ret {Post : Ending → World → Prop} {a : Act} {W : World} {g n c n' c' : Nat} {A A' : Option Addr} {pl k : Int} (ha : a.tmps.getD 4 undef = .pointer (some ⟨g, 0, none⟩)) (hk : a.tmps.getD 5 undef = .int .i64 k) (hd : a.defers = []) (hr : PosAt W g 0 A n c A' n' c' pl) (hP : Post (.returned (.tuple #[.agg #[.slice A n c, .slice A' n' c', .int .i64 pl], .int .i64 k])) W) : bodyPost Try.prog Try.f27 Post Exit.ret a W := by
  obtain ⟨c0, c1, c2⟩ := hr.flat
  refine bodyPost_ret (v := .tuple #[.agg #[.slice A n c, .slice A' n' c', .int .i64 pl], .int .i64 k]) ?_ hd hP
  obtain ⟨tmps, defers⟩ := a
  simp only [Array.getD_eq_getD_getElem?] at ha hk
  simp [results, Try.results27, go_sem, ha, hk, c0, c1, c2]
set_option maxRecDepth 100000 in
set_option maxHeartbeats 4000000 in
theorem SettlePosition_any (p s : Int) (st sk re fe ag : Bool) (c sl : Int) (A A' : Option Addr) (n u n' u' : Nat) (xs xs' : List Int) (pl : Int) (w : World) (h : Ints w w.heap.size A n u xs) (h' : Ints w w.heap.size A' n' u' xs') (hn : n ≤ 4294967296) :
    Calls Try.prog 27 #[.agg #[.int .i64 p, .int .i64 s, .bool st, .bool sk, .bool re, .bool fe, .bool ag, .int .i64 c, .int .i64 sl], .agg #[.slice A n u, .slice A' n' u', .int .i64 pl]] w (RetP w (seX (okP ⟨p, s, st, sk, re, fe, ag, c, sl⟩ xs xs' pl) xs) (seY (okP ⟨p, s, st, sk, re, fe, ag, c, sl⟩ xs xs' pl) p xs xs') (seP (okP ⟨p, s, st, sk, re, fe, ag, c, sl⟩ xs xs' pl) pl) (codP (okP ⟨p, s, st, sk, re, fe, ag, c, sl⟩ xs xs' pl))) := by
  have HL := Lib.hid h.len
  have HL' := Lib.hid h'.len
  have hi := h.le
  have P0 := ((RuAt.box w 31 p s st sk re fe ag c sl).alloc (.cells #[.slice A n u, .slice A' n' u', .int .i64 pl] 28)).alloc (.cells #[.slice none 0 0, .slice none 0 0, .int .i64 0] 28)
  have P1 := (PosAt.box (w.alloc (.cells #[.int .i64 p, .int .i64 s, .bool st, .bool sk, .bool re, .bool fe, .bool ag, .int .i64 c, .int .i64 sl] 31)) 28 A n u A' n' u' pl).alloc (.cells #[.slice none 0 0, .slice none 0 0, .int .i64 0] 28)
  have R0 := box_new' ((w.alloc (.cells #[.int .i64 p, .int .i64 s, .bool st, .bool sk, .bool re, .bool fe, .bool ag, .int .i64 c, .int .i64 sl] 31)).alloc (.cells #[.slice A n u, .slice A' n' u', .int .i64 pl] 28)) 28 (w.heap.size + 2) (by simp)
  have hs1 : (w.alloc (.cells #[.int .i64 p, .int .i64 s, .bool st, .bool sk, .bool re, .bool fe, .bool ag, .int .i64 c, .int .i64 sl] 31)).heap.size = w.heap.size + 1 := by simp
  rw [hs1] at P1
  clear hs1
  have hbW : Below w.heap.size w (((w.alloc (.cells #[.int .i64 p, .int .i64 s, .bool st, .bool sk, .bool re, .bool fe, .bool ag, .int .i64 c, .int .i64 sl] 31)).alloc (.cells #[.slice A n u, .slice A' n' u', .int .i64 pl] 28)).alloc (.cells #[.slice none 0 0, .slice none 0 0, .int .i64 0] 28)) := (by repeat (first | with_reducible exact Below.refl _ _ | with_reducible assumption | with_reducible refine sub_alloc ?_ _ | (with_reducible refine sub_setCell2 ?_ ?_ _; (focus (first | (simp; done) | (simp <;> omega)))) | with_reducible refine sub_drew ?_ | with_reducible refine below_drewN ?_ _ | with_reducible refine sub_step (by assumption) ?_ (by first | rfl | (simp; done)) | exact Below.refl _ _ | assumption | refine sub_alloc ?_ _ | refine sub_setCell ?_ (by simp <;> omega) _ | refine sub_drew ?_ | refine below_drewN ?_ _ | refine sub_step (by assumption) ?_ (by first | rfl | (simp; done))))
  have hsz : (((w.alloc (.cells #[.int .i64 p, .int .i64 s, .bool st, .bool sk, .bool re, .bool fe, .bool ag, .int .i64 c, .int .i64 sl] 31)).alloc (.cells #[.slice A n u, .slice A' n' u', .int .i64 pl] 28)).alloc (.cells #[.slice none 0 0, .slice none 0 0, .int .i64 0] 28)).heap.size = w.heap.size + 3 := by simp
  have HH := h.sub hbW
  have HH' := h'.sub hbW
  obtain ⟨W, hW⟩ : ∃ W, W = (((w.alloc (.cells #[.int .i64 p, .int .i64 s, .bool st, .bool sk, .bool re, .bool fe, .bool ag, .int .i64 c, .int .i64 sl] 31)).alloc (.cells #[.slice A n u, .slice A' n' u', .int .i64 pl] 28)).alloc (.cells #[.slice none 0 0, .slice none 0 0, .int .i64 0] 28)) := ⟨_, rfl⟩
  rw [← hW] at P0 P1 R0 hbW hsz HH HH'
  have HW := Lib.hid hW
  have HI := Lib.hid HH
  have HI' := Lib.hid HH'
  have HP0 := Lib.hid P0
  have HP1 := Lib.hid P1
  have HR := Lib.hid R0
  have l0 := P0.lt
  have l1 := P1.lt
  have l2 := R0.1.lt
  have sW : w.heap.size + 3 ≤ W.heap.size := by omega
  clear h h' hW HH HH' P0 P1 R0 hsz
  cases e0 : okP ⟨p, s, st, sk, re, fe, ag, c, sl⟩ xs xs' pl
  · have E0 := Lib.hid e0
    clear e0
    go_enter Try.func27, Try.ntmps27
    go_wp2_with fail
    rw [← HW.out]
    refine (ValidPosition_any p s st sk re fe ag c sl _ _ _ _ _ _ xs xs' pl _ (by exact HI.out) (by exact HI'.out) hn).mono ?_
    rintro e w1 ⟨rfl, hb1⟩
    rw [E0.out]
    have X0 := HP0.out.below hb1 l0
    have X1 := HP1.out.below hb1 l1
    have X2 := HR.out.keep hb1
    obtain ⟨c0, c1, c2, c3, c4, c5, c6, c7, c8⟩ := X0.flat
    obtain ⟨d0, d1, d2⟩ := X1.flat
    obtain ⟨f0, f1, f2, f3, f4, f5⟩ := X2.flat
    have hs := hb1.size
    go_wp2_with fail
    refine implSettlePosition_ret (g := w.heap.size + 2) (k := 1) (by rfl) (by rfl) (by rfl) (X2.set none 0 0 none 0 0 0) ⟨none, 0, none, 0, 0, 0, ?_, own_nil _ _, own_nil _ _, apart_nil, by omega, by omega, ?_⟩
    · simp [seX, seY, seP, codP, E0.out]
    · exact ((((hbW.trans (hb1.mono hbW.size)).setCell (by show _ ≤ w.heap.size + 2; omega) _).setCell (by show _ ≤ w.heap.size + 2; omega) _).setCell (by show _ ≤ w.heap.size + 2; omega) _)
  have E0 := Lib.hid e0
  obtain ⟨z0, z1, z2, -, z3, z4, z5, z6, z7, z8, -, -, -⟩ := okP_parts e0
  obtain ⟨hq0, hq1⟩ := okR_pits z0
  dsimp only at hq0 hq1 z1
  obtain rfl : n' = 2 := by rw [← HL'.out, z2]
  obtain ⟨x0, x1, rfl⟩ := two_of z2
  obtain ⟨g0, g1⟩ := okN_at z4 (k := 0) (x := x0) rfl
  obtain ⟨g2, g3⟩ := okN_at z4 (k := 1) (x := x1) rfl
  have hq9 : (n : Int) = 2 * p := by rw [← HL.out]; exact z1
  have HQ9 := Lib.hid hq9
  have SS := sides_sum z1 (by omega)
  have b0 := sideV_bd z3 p 0
  have b1 := sideV_bd z3 p 1
  have b2 : sideV p xs 0 + sideV p xs 1 ≤ 96 := by omega
  have b3 : xs.sum ≤ 96 := by omega
  have LN : Hid (xs.length = n) := HL
  have K3 := Lib.hid z3
  have K8 := Lib.hid z8
  have SSH := Lib.hid SS
  clear e0 z0 z1 z2 z3 z4 z5 z7 z8 hq9 SS
  refine Calls.mono (R := RetP w (List.replicate n 0) [x0 + sideV p xs 0, x1 + sideV p xs 1] pl 0) ?_ (fun e w' hq => by
    simpa [E0.out, seX, seY, seP, codP, HL.out] using hq)
  go_enter Try.func27, Try.ntmps27
  go_wp2_with fail
  rw [← HW.out]
  refine (ValidPosition_any p s st sk re fe ag c sl _ _ _ _ _ _ xs [x0, x1] pl _ (by exact HI.out) (by exact HI'.out) hn).mono ?_
  rintro e w1 ⟨rfl, hb1⟩
  rw [E0.out]
  have X0 := HP0.out.below hb1 l0
  have X1 := HP1.out.below hb1 l1
  have X2 := HR.out.keep hb1
  obtain ⟨c0, c1, c2, c3, c4, c5, c6, c7, c8⟩ := X0.flat
  obtain ⟨d0, d1, d2⟩ := X1.flat
  obtain ⟨f0, f1, f2, f3, f4, f5⟩ := X2.flat
  have hs := hb1.size
  go_wp2_with fail
  refine (settled_any p s st sk re fe ag c sl _ _ _ _ _ xs x0 x1 pl _ _ _ (by exact HI.out.sub hb1) (by exact HI'.out.sub hb1) hn HQ9.out hq0 hq1 K3.out rfl rfl b0 b1 b2 g0 g1 g2 g3).mono ?_
  rintro e w2 ⟨A1, u1, A2, u2, rfl, o1, o2, ap, hb2⟩
  have X3 := X2.keep hb2
  obtain ⟨f0, f1, f2, f3, f4, f5⟩ := X3.flat
  have hs2 := hb2.size
  have e1 := o1.lower (base' := w.heap.size + 3) (by first | (exact Nat.le_trans sW hs) | (simp; omega))
  have e2 := o2.lower (base' := w.heap.size + 3) (by first | (exact Nat.le_trans sW hs) | (simp; omega))
  have B2 := hbW.trans ((hb1.trans (hb2.mono hb1.size)).mono hbW.size)
  have O1 := Lib.hid e1
  have O2 := Lib.hid e2
  have BB := Lib.hid B2
  have n16 : n ≤ 16 := by have := HQ9.out; omega
  clear e1 e2 B2 o1 o2 hb2 hb1 X0 X1 X2 c0 c1 c2 c3 c4 c5 c6 c7 c8 d0 d1 d2
  go_wp2_with fail
  refine implSettlePosition_ret (g := w.heap.size + 2) (k := 0) (by rfl) (by rfl) (by rfl) (X3.set A1 n u1 A2 2 u2 pl) ⟨A1, u1, A2, u2, _, _, rfl, ?_, ?_, ap, by omega, by omega, ?_⟩
  · exact (((O1.out.setBelow (by show w.heap.size + 2 < _; omega) _).setBelow (by show w.heap.size + 2 < _; omega) _).setBelow (by show w.heap.size + 2 < _; omega) _).lower (by omega)
  · exact (((O2.out.setBelow (by show w.heap.size + 2 < _; omega) _).setBelow (by show w.heap.size + 2 < _; omega) _).setBelow (by show w.heap.size + 2 < _; omega) _).lower (by omega)
  · exact ((BB.out.setCell (by show _ ≤ w.heap.size + 2; omega) _).setCell (by show _ ≤ w.heap.size + 2; omega) _).setCell (by show _ ≤ w.heap.size + 2; omega) _
end Go.Proofs.Ytnanaldolnehiaa
