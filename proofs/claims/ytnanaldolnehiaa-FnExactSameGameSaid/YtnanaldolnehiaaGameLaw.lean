/-
  The law FnExactSameGame, walked.
-/
import Derived.Test.YtnanaldolnehiaaGameOpen
import Derived.Test.YtnanaldolnehiaaGameReg2
import Derived.Test.YtnanaldolnehiaaGameReg9
import Derived.Test.YtnanaldolnehiaaGameReg11
import Derived.Test.YtnanaldolnehiaaGameReg14
import Derived.Test.YtnanaldolnehiaaGameReg16
set_option linter.unusedSimpArgs false
set_option linter.unusedVariables false
namespace Go.Proofs.Ytnanaldolnehiaa
open Go.ChangeShapes Go.WideShapes Go.RowKit Go.Deep

set_option maxRecDepth 100000 in
set_option maxHeartbeats 16000000 in
theorem FnExactSameGame_walk (p1 s1 : Int) (st1 sk1 re1 fe1 ag1 : Bool) (c1 sl1 : Int) (A1 : Option Addr) (n1 u1 : Nat) (A1' : Option Addr) (n1' u1' : Nat) (pl1 : Int) (M1 : Option Addr) (k1 d1 : Nat) (B1 : Option Addr) (m1 e1 : Nat) (B1' : Option Addr) (m1' e1' : Nat) (ql1 z1 : Int) (xs1 xs1' ms1 ys1 ys1' : List Int) (p2 s2 : Int) (st2 sk2 re2 fe2 ag2 : Bool) (c2 sl2 : Int) (A2 : Option Addr) (n2 u2 : Nat) (A2' : Option Addr) (n2' u2' : Nat) (pl2 : Int) (M2 : Option Addr) (k2 d2 : Nat) (B2 : Option Addr) (m2 e2 : Nat) (B2' : Option Addr) (m2' e2' : Nat) (ql2 z2 : Int) (xs2 xs2' ms2 ys2 ys2' : List Int) (w : World) (h1 : Ints w w.heap.size A1 n1 u1 xs1 ∧ Ints w w.heap.size A1' n1' u1' xs1' ∧ Ints w w.heap.size M1 k1 d1 ms1 ∧ Ints w w.heap.size B1 m1 e1 ys1 ∧ Ints w w.heap.size B1' m1' e1' ys1') (h2 : Ints w w.heap.size A2 n2 u2 xs2 ∧ Ints w w.heap.size A2' n2' u2' xs2' ∧ Ints w w.heap.size M2 k2 d2 ms2 ∧ Ints w w.heap.size B2 m2 e2 ys2 ∧ Ints w w.heap.size B2' m2' e2' ys2') :
    Calls Try.prog 6 #[.agg #[.int .i64 p1, .int .i64 s1, .bool st1, .bool sk1, .bool re1, .bool fe1, .bool ag1, .int .i64 c1, .int .i64 sl1, .slice A1 n1 u1, .slice A1' n1' u1', .int .i64 pl1, .slice M1 k1 d1, .slice B1 m1 e1, .slice B1' m1' e1', .int .i64 ql1, .int .i64 z1], .agg #[.int .i64 p2, .int .i64 s2, .bool st2, .bool sk2, .bool re2, .bool fe2, .bool ag2, .int .i64 c2, .int .i64 sl2, .slice A2 n2 u2, .slice A2' n2' u2', .int .i64 pl2, .slice M2 k2 d2, .slice B2 m2 e2, .slice B2' m2' e2', .int .i64 ql2, .int .i64 z2]] w fun e w' => e = .returned (.bool true) ∧ Below w.heap.size w w' := by
  have bW : Below w.heap.size w ((w.alloc (.cells #[.int .i64 p1, .int .i64 s1, .bool st1, .bool sk1, .bool re1, .bool fe1, .bool ag1, .int .i64 c1, .int .i64 sl1, .slice A1 n1 u1, .slice A1' n1' u1', .int .i64 pl1, .slice M1 k1 d1, .slice B1 m1 e1, .slice B1' m1' e1', .int .i64 ql1, .int .i64 z1] 46)).alloc (.cells #[.int .i64 p2, .int .i64 s2, .bool st2, .bool sk2, .bool re2, .bool fe2, .bool ag2, .int .i64 c2, .int .i64 sl2, .slice A2 n2 u2, .slice A2' n2' u2', .int .i64 pl2, .slice M2 k2 d2, .slice B2 m2 e2, .slice B2' m2' e2', .int .i64 ql2, .int .i64 z2] 46)) := (by repeat (first | with_reducible exact Below.refl _ _ | with_reducible assumption | with_reducible refine sub_alloc ?_ _ | (with_reducible refine sub_setCell2 ?_ ?_ _; (focus (first | (simp; done) | (simp <;> omega)))) | with_reducible refine sub_drew ?_ | with_reducible refine below_drewN ?_ _ | with_reducible refine sub_step (by assumption) ?_ (by first | rfl | (simp; done)) | exact Below.refl _ _ | assumption | refine sub_alloc ?_ _ | refine sub_setCell ?_ (by simp <;> omega) _ | refine sub_drew ?_ | refine below_drewN ?_ _ | refine sub_step (by assumption) ?_ (by first | rfl | (simp; done))))
  have G1 := (Has.box w [.int .i64 p1, .int .i64 s1, .bool st1, .bool sk1, .bool re1, .bool fe1, .bool ag1, .int .i64 c1, .int .i64 sl1, .slice A1 n1 u1, .slice A1' n1' u1', .int .i64 pl1, .slice M1 k1 d1, .slice B1 m1 e1, .slice B1' m1' e1', .int .i64 ql1, .int .i64 z1] 46 w.heap.size rfl).alloc (.cells #[.int .i64 p2, .int .i64 s2, .bool st2, .bool sk2, .bool re2, .bool fe2, .bool ag2, .int .i64 c2, .int .i64 sl2, .slice A2 n2 u2, .slice A2' n2' u2', .int .i64 pl2, .slice M2 k2 d2, .slice B2 m2 e2, .slice B2' m2' e2', .int .i64 ql2, .int .i64 z2] 46)
  have G2 := Has.box (w.alloc (.cells #[.int .i64 p1, .int .i64 s1, .bool st1, .bool sk1, .bool re1, .bool fe1, .bool ag1, .int .i64 c1, .int .i64 sl1, .slice A1 n1 u1, .slice A1' n1' u1', .int .i64 pl1, .slice M1 k1 d1, .slice B1 m1 e1, .slice B1' m1' e1', .int .i64 ql1, .int .i64 z1] 46)) [.int .i64 p2, .int .i64 s2, .bool st2, .bool sk2, .bool re2, .bool fe2, .bool ag2, .int .i64 c2, .int .i64 sl2, .slice A2 n2 u2, .slice A2' n2' u2', .int .i64 pl2, .slice M2 k2 d2, .slice B2 m2 e2, .slice B2' m2' e2', .int .i64 ql2, .int .i64 z2] 46 (w.heap.size + 1) (by simp)
  have b11 := h1.1.le
  have b12 := h1.2.1.le
  have b13 := h1.2.2.1.le
  have b14 := h1.2.2.2.1.le
  have b15 := h1.2.2.2.2.le
  have b21 := h2.1.le
  have b22 := h2.2.1.le
  have b23 := h2.2.2.1.le
  have b24 := h2.2.2.2.1.le
  have b25 := h2.2.2.2.2.le
  have H1 := Lib.hid (show _ ∧ _ ∧ _ ∧ _ ∧ _ from ⟨h1.1.sub bW, h1.2.1.sub bW, h1.2.2.1.sub bW, h1.2.2.2.1.sub bW, h1.2.2.2.2.sub bW⟩)
  have H2 := Lib.hid (show _ ∧ _ ∧ _ ∧ _ ∧ _ from ⟨h2.1.sub bW, h2.2.1.sub bW, h2.2.2.1.sub bW, h2.2.2.2.1.sub bW, h2.2.2.2.2.sub bW⟩)
  obtain ⟨W, hW⟩ : ∃ W, W = (w.alloc (.cells #[.int .i64 p1, .int .i64 s1, .bool st1, .bool sk1, .bool re1, .bool fe1, .bool ag1, .int .i64 c1, .int .i64 sl1, .slice A1 n1 u1, .slice A1' n1' u1', .int .i64 pl1, .slice M1 k1 d1, .slice B1 m1 e1, .slice B1' m1' e1', .int .i64 ql1, .int .i64 z1] 46)).alloc (.cells #[.int .i64 p2, .int .i64 s2, .bool st2, .bool sk2, .bool re2, .bool fe2, .bool ag2, .int .i64 c2, .int .i64 sl2, .slice A2 n2 u2, .slice A2' n2' u2', .int .i64 pl2, .slice M2 k2 d2, .slice B2 m2 e2, .slice B2' m2' e2', .int .i64 ql2, .int .i64 z2] 46) := ⟨_, rfl⟩
  have G1 : Hid (Has W w.heap.size [.int .i64 p1, .int .i64 s1, .bool st1, .bool sk1, .bool re1, .bool fe1, .bool ag1, .int .i64 c1, .int .i64 sl1, .slice A1 n1 u1, .slice A1' n1' u1', .int .i64 pl1, .slice M1 k1 d1, .slice B1 m1 e1, .slice B1' m1' e1', .int .i64 ql1, .int .i64 z1]) := Lib.hid (by rw [hW]; exact G1)
  have G2 : Hid (Has W (w.heap.size + 1) [.int .i64 p2, .int .i64 s2, .bool st2, .bool sk2, .bool re2, .bool fe2, .bool ag2, .int .i64 c2, .int .i64 sl2, .slice A2 n2 u2, .slice A2' n2' u2', .int .i64 pl2, .slice M2 k2 d2, .slice B2 m2 e2, .slice B2' m2' e2', .int .i64 ql2, .int .i64 z2]) := Lib.hid (by rw [hW]; exact G2)
  rw [← hW] at bW H1 H2
  have HW := Lib.hid hW
  have BW := Lib.hid bW
  obtain ⟨sg, hsg⟩ : ∃ v, (sameG ⟨p1, s1, st1, sk1, re1, fe1, ag1, c1, sl1⟩ ⟨p2, s2, st2, sk2, re2, fe2, ag2, c2, sl2⟩ xs1 xs1' pl1 xs2 xs2' pl2 ms1 ms2 ys1 ys1' ql1 ys2 ys2' ql2 z1 z2) = v := ⟨_, rfl⟩
  have HV := Lib.hid hsg
  clear h1 h2 hW bW hsg
  go_enter Try.func6, Try.ntmps6
  go_upto_region 1 with fail
  rw [← HW.out]
  clear HW
  obtain ⟨a0, ha0⟩ : ∃ a : Value, a = .agg #[.int .i64 p1, .int .i64 s1, .bool st1, .bool sk1, .bool re1, .bool fe1, .bool ag1, .int .i64 c1, .int .i64 sl1, .slice A1 n1 u1, .slice A1' n1' u1', .int .i64 pl1, .slice M1 k1 d1, .slice B1 m1 e1, .slice B1' m1' e1', .int .i64 ql1, .int .i64 z1] := ⟨_, rfl⟩
  rw [← ha0]
  clear ha0
  obtain ⟨a1, ha1⟩ : ∃ a : Value, a = .agg #[.int .i64 p2, .int .i64 s2, .bool st2, .bool sk2, .bool re2, .bool fe2, .bool ag2, .int .i64 c2, .int .i64 sl2, .slice A2 n2 u2, .slice A2' n2' u2', .int .i64 pl2, .slice M2 k2 d2, .slice B2 m2 e2, .slice B2' m2' e2', .int .i64 ql2, .int .i64 z2] := ⟨_, rfl⟩
  rw [← ha1]
  clear ha1
  go_upto_region 2 with fail
  refine gameReg2 p1 s1 st1 sk1 re1 fe1 ag1 c1 sl1 A1 n1 u1 A1' n1' u1' pl1 M1 k1 d1 B1 m1 e1 B1' m1' e1' ql1 z1 1048576 _ w.heap.size (by exact G1.out) b11 b12 b13 b14 b15 (by omega) (by omega) ?_
  intro u10 u11 u12 w1 bt
  by_cases f1 : szG 1048576 n1 n1' k1 m1 m1' < 0
  · obtain ⟨a, ha⟩ : ∃ a, szG 1048576 n1 n1' k1 m1 m1' = a := ⟨_, rfl⟩
    rw [ha] at f1 ⊢
    clear ha
    go_wp2_with fail
    go_ret
    exact ⟨rfl, BW.out.trans (bt.mono BW.out.size)⟩
  obtain ⟨s1_, s2_⟩ := szG_ok (left := 1048576) (n := n1) (n' := n1') (k := k1) (m := m1) (m' := m1') (by omega)
  obtain ⟨left, hl⟩ : ∃ a, szG 1048576 n1 n1' k1 m1 m1' = a := ⟨_, rfl⟩
  rw [hl] at f1 s2_ ⊢
  have i1 : 0 ≤ left := by omega
  clear hl
  go_upto_region 5 with fail
  refine gameReg5 p2 s2 st2 sk2 re2 fe2 ag2 c2 sl2 A2 n2 u2 A2' n2' u2' pl2 M2 k2 d2 B2 m2 e2 B2' m2' e2' ql2 z2 left _ (w.heap.size + 1) (by exact G2.out.sub bt) b21 b22 b23 b24 b25 (by omega) (by omega) ?_
  intro u15 u16 u17 w2 hb
  have bt := bt.trans (hb.mono bt.size)
  clear hb
  by_cases f2 : szG left n2 n2' k2 m2 m2' < 0
  · obtain ⟨a, ha⟩ : ∃ a, szG left n2 n2' k2 m2 m2' = a := ⟨_, rfl⟩
    rw [ha] at f2 ⊢
    clear ha
    go_wp2_with fail
    go_ret
    exact ⟨rfl, BW.out.trans (bt.mono BW.out.size)⟩
  obtain ⟨s3_, s4_⟩ := szG_ok (left := left) (n := n2) (n' := n2') (k := k2) (m := m2) (m' := m2') (by omega)
  obtain ⟨lf, hl⟩ : ∃ a, szG left n2 n2' k2 m2 m2' = a := ⟨_, rfl⟩
  rw [hl] at f2 s4_ ⊢
  have i2 : 0 ≤ lf := by omega
  clear hl
  have n11 : n1 ≤ 4294967296 := by omega
  have n12 : n1' ≤ 4294967296 := by omega
  have n13 : k1 ≤ 4294967296 := by omega
  have n14 : m1 ≤ 4294967296 := by omega
  have n15 : m1' ≤ 4294967296 := by omega
  have n21 : n2 ≤ 4294967296 := by omega
  have n22 : n2' ≤ 4294967296 := by omega
  have n23 : k2 ≤ 4294967296 := by omega
  have n24 : m2 ≤ 4294967296 := by omega
  have n25 : m2' ≤ 4294967296 := by omega
  clear s1_ s2_ s3_ s4_ b11 b12 b13 b14 b15 b21 b22 b23 b24 b25
  go_upto_region 8 with fail
  refine gameReg8 p1 s1 st1 sk1 re1 fe1 ag1 c1 sl1 A1 n1 u1 A1' n1' u1' pl1 M1 k1 d1 B1 m1 e1 B1' m1' e1' ql1 z1 xs1 xs1' ms1 ys1 ys1' p2 s2 st2 sk2 re2 fe2 ag2 c2 sl2 A2 n2 u2 A2' n2' u2' pl2 M2 k2 d2 B2 m2 e2 B2' m2' e2' ql2 z2 xs2 xs2' ms2 ys2 ys2' _ w.heap.size (w.heap.size + 1) (by exact G1.out.sub bt) (by exact G2.out.sub bt) (by exact ⟨H1.out.1.sub bt, H1.out.2.1.sub bt, H1.out.2.2.1.sub bt, H1.out.2.2.2.1.sub bt, H1.out.2.2.2.2.sub bt⟩) (by exact ⟨H2.out.1.sub bt, H2.out.2.1.sub bt, H2.out.2.2.1.sub bt, H2.out.2.2.2.1.sub bt, H2.out.2.2.2.2.sub bt⟩) n11 n12 n13 n14 n15 n21 n22 n23 n24 n25 sg (by exact HV.out) ?_
  intro u20 u21 u22 u23 u24 w5 hb
  have bt := bt.trans (hb.mono bt.size)
  clear hb
  go_upto_region 9 with fail
  refine gameReg9 p1 s1 st1 sk1 re1 fe1 ag1 c1 sl1 A1 n1 u1 A1' n1' u1' pl1 M1 k1 d1 B1 m1 e1 B1' m1' e1' ql1 z1 xs1 xs1' ms1 ys1 ys1' _ w.heap.size (by exact G1.out.sub bt) (by exact ⟨H1.out.1.sub bt, H1.out.2.1.sub bt, H1.out.2.2.1.sub bt, H1.out.2.2.2.1.sub bt, H1.out.2.2.2.2.sub bt⟩) n11 n12 n13 n14 n15 ?_
  intro Xc xc Xc' xc' Nc yc Yc vc Yc' vc' gx u25 u26 w6 Hc Ic hb
  have bt := bt.trans (hb.mono bt.size)
  clear hb
  go_upto_region 10 with fail
  refine gameReg10 p2 s2 st2 sk2 re2 fe2 ag2 c2 sl2 A2 n2 u2 A2' n2' u2' pl2 M2 k2 d2 B2 m2 e2 B2' m2' e2' ql2 z2 xs2 xs2' ms2 ys2 ys2' _ (w.heap.size + 1) (by exact G2.out.sub bt) (by exact ⟨H2.out.1.sub bt, H2.out.2.1.sub bt, H2.out.2.2.1.sub bt, H2.out.2.2.2.1.sub bt, H2.out.2.2.2.2.sub bt⟩) n21 n22 n23 n24 n25 ?_
  intro Xd xd Xd' xd' Nd yd Yd vd Yd' vd' gy u27 u28 w8 Hd Id hb
  have bt := bt.trans (hb.mono bt.size)
  have Hc := Hc.sub hb
  have Ic := show _ ∧ _ ∧ _ ∧ _ ∧ _ from ⟨Ic.1.sub hb, Ic.2.1.sub hb, Ic.2.2.1.sub hb, Ic.2.2.2.1.sub hb, Ic.2.2.2.2.sub hb⟩
  clear hb
  go_upto_region 11 with fail
  refine gameReg11 p1 s1 st1 sk1 re1 fe1 ag1 c1 sl1 A1 n1 u1 A1' n1' u1' pl1 M1 k1 d1 B1 m1 e1 B1' m1' e1' ql1 z1 xs1 xs1' ms1 ys1 ys1' p2 s2 st2 sk2 re2 fe2 ag2 c2 sl2 A2 n2 u2 A2' n2' u2' pl2 M2 k2 d2 B2 m2 e2 B2' m2' e2' ql2 z2 xs2 xs2' ms2 ys2 ys2' Xc xc Xc' xc' Nc yc Yc vc Yc' vc' Xd xd Xd' xd' Nd yd Yd vd Yd' vd' _ gx gy (by exact Hc) (by exact Hd) (by exact Ic) (by exact Id) sg (by exact HV.out) ?_
  intro u29 u30 u31 w10 hb
  have bt := bt.trans (hb.mono bt.size)
  have Hc := Hc.sub hb
  have Hd := Hd.sub hb
  have Ic := show _ ∧ _ ∧ _ ∧ _ ∧ _ from ⟨Ic.1.sub hb, Ic.2.1.sub hb, Ic.2.2.1.sub hb, Ic.2.2.2.1.sub hb, Ic.2.2.2.2.sub hb⟩
  have Id := show _ ∧ _ ∧ _ ∧ _ ∧ _ from ⟨Id.1.sub hb, Id.2.1.sub hb, Id.2.2.1.sub hb, Id.2.2.2.1.sub hb, Id.2.2.2.2.sub hb⟩
  clear hb
  go_upto_region 14 with fail
  refine gameReg14 p1 s1 st1 sk1 re1 fe1 ag1 c1 sl1 A1 n1 u1 A1' n1' u1' pl1 M1 k1 d1 B1 m1 e1 B1' m1' e1' ql1 z1 xs1 xs1' ms1 ys1 ys1' Xc xc Xc' xc' Nc yc Yc vc Yc' vc' _ gx w.heap.size (by exact Hc) (by exact G1.out.sub bt) (by exact Ic) (by exact ⟨H1.out.1.sub bt, H1.out.2.1.sub bt, H1.out.2.2.1.sub bt, H1.out.2.2.2.1.sub bt, H1.out.2.2.2.2.sub bt⟩) n11 n12 n13 n14 n15 ?_
  intro u35 u36 u37 u38 w12 hb
  have bt := bt.trans (hb.mono bt.size)
  have Hd := Hd.sub hb
  have Id := show _ ∧ _ ∧ _ ∧ _ ∧ _ from ⟨Id.1.sub hb, Id.2.1.sub hb, Id.2.2.1.sub hb, Id.2.2.2.1.sub hb, Id.2.2.2.2.sub hb⟩
  clear Hc Ic hb
  go_upto_region 16 with fail
  refine gameReg16 p2 s2 st2 sk2 re2 fe2 ag2 c2 sl2 A2 n2 u2 A2' n2' u2' pl2 M2 k2 d2 B2 m2 e2 B2' m2' e2' ql2 z2 xs2 xs2' ms2 ys2 ys2' Xd xd Xd' xd' Nd yd Yd vd Yd' vd' _ gy (w.heap.size + 1) (by exact Hd) (by exact G2.out.sub bt) (by exact Id) (by exact ⟨H2.out.1.sub bt, H2.out.2.1.sub bt, H2.out.2.2.1.sub bt, H2.out.2.2.2.1.sub bt, H2.out.2.2.2.2.sub bt⟩) n21 n22 n23 n24 n25 ?_
  intro u40 u41 u42 u43 w14 hb
  have bt := bt.trans (hb.mono bt.size)
  clear Hd Id hb
  go_wp2_with fail
  go_ret
  exact ⟨rfl, BW.out.trans (bt.mono BW.out.size)⟩
end Go.Proofs.Ytnanaldolnehiaa
