/-
  The law FnExactReadPosition, walked.
-/
import Derived.Test.YtnanaldolnehiabDoorReadPosWalk
import Derived.Outline
set_option linter.unusedSimpArgs false
set_option linter.unusedVariables false
namespace Go.Proofs.YtnanaldolnehiabDoor
open Go.ChangeShapes Go.WideShapes Go.RowKit Go.Deep

theorem specReadPosition_is (p s : Int) (st sk re fe ag : Bool) (c sl : Int) (s0 : ByteArray) (hs : s0.size ≤ 1048576) (vx vy : List Int) (vp : Int) (vc : Bool) (e1 : rqX ⟨p, s, st, sk, re, fe, ag, c, sl⟩ s0 = vx) (e2 : rqY ⟨p, s, st, sk, re, fe, ag, c, sl⟩ s0 = vy) (e3 : rqP ⟨p, s, st, sk, re, fe, ag, c, sl⟩ s0 = vp) (e4 : rqB ⟨p, s, st, sk, re, fe, ag, c, sl⟩ s0 = vc) (w : World) :
    Calls Tryd.prog 21 #[.agg #[.int .i64 p, .int .i64 s, .bool st, .bool sk, .bool re, .bool fe, .bool ag, .int .i64 c, .int .i64 sl], .string s0] w (RetQ 2097152 w vx vy vp vc) := by
  subst e1 e2 e3 e4
  exact specReadPosition_any p s st sk re fe ag c sl s0 hs w
theorem implReadPosition_is (p s : Int) (st sk re fe ag : Bool) (c sl : Int) (s0 : ByteArray) (hs : s0.size ≤ 1048576) (vx vy : List Int) (vp : Int) (vc : Bool) (e1 : rqX ⟨p, s, st, sk, re, fe, ag, c, sl⟩ s0 = vx) (e2 : rqY ⟨p, s, st, sk, re, fe, ag, c, sl⟩ s0 = vy) (e3 : rqP ⟨p, s, st, sk, re, fe, ag, c, sl⟩ s0 = vp) (e4 : rqB ⟨p, s, st, sk, re, fe, ag, c, sl⟩ s0 = vc) (w : World) (ht : Tab w) :
    Calls Tryd.prog 23 #[.agg #[.int .i64 p, .int .i64 s, .bool st, .bool sk, .bool re, .bool fe, .bool ag, .int .i64 c, .int .i64 sl], .string s0] w (RetQ 2097152 w vx vy vp vc) := by
  subst e1 e2 e3 e4
  exact implReadPosition_any p s st sk re fe ag c sl s0 hs w ht
set_option maxRecDepth 100000 in
set_option maxHeartbeats 8000000 in
theorem FnExactReadPosition_walk (a0 : Ru) (s0 : ByteArray) (w : World) (_h0 : a0.wf) (h : s0.size ≤ maxLen) (ht : Tab w) :
    Calls Tryd.prog 5 #[.agg a0.cells.toArray, .string s0] w fun e w' => e = .returned (.bool true) ∧ Below w.heap.size w w' := by
  obtain ⟨p, s, st, sk, re, fe, ag, c, sl⟩ := a0
  show Calls Tryd.prog 5 #[.agg #[.int .i64 p, .int .i64 s, .bool st, .bool sk, .bool re, .bool fe, .bool ag, .int .i64 c, .int .i64 sl], .string s0] w _
  clear _h0
  unfold maxLen at h
  have HT := Lib.hid ht
  clear ht
  by_cases hs : 1048576 < s0.size
  · have j0 : (1048576 : Int) < (s0.size : Int) := by omega
    go_enter Tryd.func5, Tryd.ntmps5
    go_wp2_with fail
    go_ret
    exact ⟨rfl, (by repeat (first | with_reducible exact Below.refl _ _ | with_reducible assumption | with_reducible refine sub_alloc ?_ _ | (with_reducible refine sub_setCell2 ?_ ?_ _; (focus (first | (simp; done) | (simp <;> omega)))) | with_reducible refine sub_drew ?_ | with_reducible refine below_drewN ?_ _ | with_reducible refine sub_step (by assumption) ?_ (by first | rfl | (simp; done)) | exact Below.refl _ _ | assumption | refine sub_alloc ?_ _ | refine sub_setCell ?_ (by simp <;> omega) _ | refine sub_drew ?_ | refine below_drewN ?_ _ | refine sub_step (by assumption) ?_ (by first | rfl | (simp; done))))⟩
  have hs' : s0.size ≤ 1048576 := by omega
  have j0 : ¬ ((1048576 : Int) < (s0.size : Int)) := by omega
  obtain ⟨vx, hvx⟩ : ∃ vx, rqX ⟨p, s, st, sk, re, fe, ag, c, sl⟩ s0 = vx := ⟨_, rfl⟩
  obtain ⟨vy, hvy⟩ : ∃ vy, rqY ⟨p, s, st, sk, re, fe, ag, c, sl⟩ s0 = vy := ⟨_, rfl⟩
  obtain ⟨vp, hvp⟩ : ∃ vp, rqP ⟨p, s, st, sk, re, fe, ag, c, sl⟩ s0 = vp := ⟨_, rfl⟩
  obtain ⟨vc, hvc⟩ : ∃ vc, rqB ⟨p, s, st, sk, re, fe, ag, c, sl⟩ s0 = vc := ⟨_, rfl⟩
  have HV := Lib.hid (And.intro hvx (And.intro hvy (And.intro hvp hvc)))
  clear hvx hvy hvp hvc
  have V0 := RuAt.box w 34 p s st sk re fe ag c sl
  obtain ⟨k0, k1, k2, k3, k4, k5, k6, k7, k8⟩ := V0.flat
  go_enter Tryd.func5, Tryd.ntmps5
  go_wp2_with fail
  refine (toRules_any _ _ _ _ _ _ _ _ _ _).mono ?_
  rintro e w1 ⟨rfl, hb1⟩
  have V1 := V0.below hb1 V0.lt
  go_wp2_with fail
  refine (specReadPosition_is _ _ _ _ _ _ _ _ _ s0 hs' vx vy vp vc HV.out.1 HV.out.2.1 HV.out.2.2.1 HV.out.2.2.2 _).mono ?_
  rintro e w2 ⟨W, l, W', l', a, a', rfl, p1, p1', pap, pa, pa', hb2⟩
  have VW := V1.below hb2 V1.lt
  have lw := VW.lt
  have V2 := VW.alloc (.cells #[.slice W a l, .slice W' a' l', .int .i64 vp] 36)
  have X0 := PosAt.box w2 36 W a l W' a' l' vp
  have bA : Below w.heap.size w (w2.alloc (.cells #[.slice W a l, .slice W' a' l', .int .i64 vp] 36)) := (by repeat (first | with_reducible exact Below.refl _ _ | with_reducible assumption | with_reducible refine sub_alloc ?_ _ | (with_reducible refine sub_setCell2 ?_ ?_ _; (focus (first | (simp; done) | (simp <;> omega)))) | with_reducible refine sub_drew ?_ | with_reducible refine below_drewN ?_ _ | with_reducible refine sub_step (by assumption) ?_ (by first | rfl | (simp; done)) | exact Below.refl _ _ | assumption | refine sub_alloc ?_ _ | refine sub_setCell ?_ (by simp <;> omega) _ | refine sub_drew ?_ | refine below_drewN ?_ _ | refine sub_step (by assumption) ?_ (by first | rfl | (simp; done))))
  have QA := Lib.hid (p1.alloc (.cells #[.slice W a l, .slice W' a' l', .int .i64 vp] 36)).ints
  have QA' := Lib.hid (p1'.alloc (.cells #[.slice W a l, .slice W' a' l', .int .i64 vp] 36)).ints
  obtain ⟨wA, hwA⟩ : ∃ x, x = w2.alloc (.cells #[.slice W a l, .slice W' a' l', .int .i64 vp] 36) := ⟨_, rfl⟩
  have l2 : w2.heap.size < wA.heap.size := by rw [hwA]; simp
  rw [← hwA] at V2 X0 bA QA QA'
  have l0 := V2.lt
  clear k0 k1 k2 k3 k4 k5 k6 k7 k8 V0 V1 hb1 hb2 p1 p1'
  obtain ⟨k0, k1, k2, k3, k4, k5, k6, k7, k8⟩ := VW.flat
  go_wp2_with fail
  rw [← hwA]
  clear hwA lw VW
  refine (toRules_any _ _ _ _ _ _ _ _ _ _).mono ?_
  rintro e w3 ⟨rfl, hb3⟩
  have BT := Lib.hid (sub_step hb3 bA rfl)
  go_wp2_with fail
  refine (implReadPosition_is _ _ _ _ _ _ _ _ _ s0 hs' vx vy vp vc HV.out.1 HV.out.2.1 HV.out.2.2.1 HV.out.2.2.2 _ (by exact HT.out.below BT.out (Nat.le_refl _))).mono ?_
  rintro e w4 ⟨G, gg, G', gg', ga, ga', rfl, P, P', AP, gl, gl', hb4⟩
  have bA4 : Below wA.heap.size wA w4 := sub_step hb4 hb3 rfl
  have NB := own_ltP P (Nat.le_refl _)
  have NB' := own_ltP P' (Nat.le_refl _)
  have X9 := PosAt.box w4 36 G ga gg G' ga' gg' vp
  have bAB : Below wA.heap.size wA (w4.alloc (.cells #[.slice G ga gg, .slice G' ga' gg', .int .i64 vp] 36)) := (by repeat (first | with_reducible exact Below.refl _ _ | with_reducible assumption | with_reducible refine sub_alloc ?_ _ | (with_reducible refine sub_setCell2 ?_ ?_ _; (focus (first | (simp; done) | (simp <;> omega)))) | with_reducible refine sub_drew ?_ | with_reducible refine below_drewN ?_ _ | with_reducible refine sub_step (by assumption) ?_ (by first | rfl | (simp; done)) | exact Below.refl _ _ | assumption | refine sub_alloc ?_ _ | refine sub_setCell ?_ (by simp <;> omega) _ | refine sub_drew ?_ | refine below_drewN ?_ _ | refine sub_step (by assumption) ?_ (by first | rfl | (simp; done))))
  have P9 := Lib.hid (P.alloc (.cells #[.slice G ga gg, .slice G' ga' gg', .int .i64 vp] 36))
  have P9' := Lib.hid (P'.alloc (.cells #[.slice G ga gg, .slice G' ga' gg', .int .i64 vp] 36))
  have s3 : wA.heap.size ≤ w3.heap.size := hb3.size
  have s4 : w3.heap.size ≤ w4.heap.size := hb4.size
  have V4 := V2.below bA4 l0
  have X04 := X0.below bA4 l2
  obtain ⟨x0, x1, x2⟩ := X04.flat
  have z4 : w2.heap.size < w4.heap.size := X04.lt
  obtain ⟨wB, hwB⟩ : ∃ x, x = w4.alloc (.cells #[.slice G ga gg, .slice G' ga' gg', .int .i64 vp] 36) := ⟨_, rfl⟩
  have XB := X04.alloc (.cells #[.slice G ga gg, .slice G' ga' gg', .int .i64 vp] 36)
  have hsB : wB.heap.size = w4.heap.size + 1 := by rw [hwB]; simp
  rw [← hwB] at X9 bAB P9 P9' XB
  have Q2 := Lib.hid (QA.out.sub bAB)
  have Q2' := Lib.hid (QA'.out.sub bAB)
  have R9 := Lib.hid P9.out.ints
  have R9' := Lib.hid P9'.out.ints
  have HS := Lib.hid hsB
  clear hsB k0 k1 k2 k3 k4 k5 k6 k7 k8 P P' hb4 hb3
  go_wp2_with fail
  rw [← hwB]
  clear hwB
  refine (eqPosition_any _ _ _ _ _ _ _ _ _ _ _ _ vx vy vx vy _ _ _ (by exact R9.out) (by exact R9'.out) (by exact Q2.out) (by exact Q2'.out)).mono ?_
  rintro e v5 ⟨rfl, hv5⟩
  clear x0 x1 x2
  have bA5 : Below wA.heap.size wA v5 := sub_step hv5 bAB rfl
  have X95 := X9.below hv5 X9.lt
  have P7 := Lib.hid (P9.out.below hv5 (Nat.le_refl _))
  have P7' := Lib.hid (P9'.out.below hv5 (Nat.le_refl _))
  have sB5 : w3.heap.size ≤ v5.heap.size := by have := X95.lt; omega
  obtain ⟨x0, x1, x2⟩ := X95.flat
  go_wp2_with fail
  refine (markPosition_any w3.heap.size _ _ _ _ _ _ vx vy _ _ P7.out P7'.out AP gl gl' sB5).mono ?_
  rintro e v6 ⟨rfl, M, M', hv6, bu⟩
  clear x0 x1 x2
  have bA6 : Below wA.heap.size wA v6 := bA5.trans (hv6.mono s3)
  have lb5 := X95.lt
  have X96 : PosAt v6 w4.heap.size 0 G ga gg G' ga' gg' vp := X95.keep fun i => bu.1 w4.heap.size i lb5 NB NB'
  have M6 := Lib.hid M.ints
  have M6' := Lib.hid M'.ints
  clear bu hv6 P7 P7' M M'
  obtain ⟨x0, x1, x2⟩ := X96.flat
  go_wp2_with fail
  refine (heldPosition_any _ _ _ _ _ _ _ _ (by exact M6.out) (by exact M6'.out) gl gl').mono ?_
  rintro e v7 ⟨rfl, hv7⟩
  clear x0 x1 x2
  have bA7 : Below wA.heap.size wA v7 := sub_step hv7 bA6 rfl
  have X97 := X96.below hv7 X96.lt
  have M7 := Lib.hid (M6.out.sub hv7)
  have M7' := Lib.hid (M6'.out.sub hv7)
  have V7 := V2.below bA7 l0
  obtain ⟨k0, k1, k2, k3, k4, k5, k6, k7, k8⟩ := V7.flat
  go_wp2_with fail
  refine (toRules_any _ _ _ _ _ _ _ _ _ _).mono ?_
  rintro e v8 ⟨rfl, hv8⟩
  have BT := Lib.hid (sub_step (sub_step hv8 bA7 rfl) bA rfl)
  go_wp2_with fail
  refine (implReadPosition_is _ _ _ _ _ _ _ _ _ s0 hs' vx vy vp vc HV.out.1 HV.out.2.1 HV.out.2.2.1 HV.out.2.2.2 _ (by exact HT.out.below BT.out (Nat.le_refl _))).mono ?_
  rintro e v9 ⟨H, hh, H', hh', ha, ha', rfl, PH, PH', -, -, -, hv9⟩
  have b79 : Below v7.heap.size v7 v9 := sub_step hv9 hv8 rfl
  have bA9 : Below wA.heap.size wA v9 := sub_step b79 bA7 rfl
  have b7a : Below v7.heap.size v7 (v9.alloc (.cells #[.slice H ha hh, .slice H' ha' hh', .int .i64 vp] 36)) := (by repeat (first | with_reducible exact Below.refl _ _ | with_reducible assumption | with_reducible refine sub_alloc ?_ _ | (with_reducible refine sub_setCell2 ?_ ?_ _; (focus (first | (simp; done) | (simp <;> omega)))) | with_reducible refine sub_drew ?_ | with_reducible refine below_drewN ?_ _ | with_reducible refine sub_step (by assumption) ?_ (by first | rfl | (simp; done)) | exact Below.refl _ _ | assumption | refine sub_alloc ?_ _ | refine sub_setCell ?_ (by simp <;> omega) _ | refine sub_drew ?_ | refine below_drewN ?_ _ | refine sub_step (by assumption) ?_ (by first | rfl | (simp; done))))
  have bA10 : Below wA.heap.size wA (v9.alloc (.cells #[.slice H ha hh, .slice H' ha' hh', .int .i64 vp] 36)) := (by repeat (first | with_reducible exact Below.refl _ _ | with_reducible assumption | with_reducible refine sub_alloc ?_ _ | (with_reducible refine sub_setCell2 ?_ ?_ _; (focus (first | (simp; done) | (simp <;> omega)))) | with_reducible refine sub_drew ?_ | with_reducible refine below_drewN ?_ _ | with_reducible refine sub_step (by assumption) ?_ (by first | rfl | (simp; done)) | exact Below.refl _ _ | assumption | refine sub_alloc ?_ _ | refine sub_setCell ?_ (by simp <;> omega) _ | refine sub_drew ?_ | refine below_drewN ?_ _ | refine sub_step (by assumption) ?_ (by first | rfl | (simp; done))))
  have X98 := (X97.below b79 X97.lt).alloc (.cells #[.slice H ha hh, .slice H' ha' hh', .int .i64 vp] 36)
  have X08 := (X0.below bA9 l2).alloc (.cells #[.slice H ha hh, .slice H' ha' hh', .int .i64 vp] 36)
  have XH := PosAt.box v9 36 H ha hh H' ha' hh' vp
  have z9 : w2.heap.size < v9.heap.size := (X0.below bA9 l2).lt
  have z8 : w4.heap.size < v9.heap.size := (X97.below b79 X97.lt).lt
  have RH := Lib.hid (PH.alloc (.cells #[.slice H ha hh, .slice H' ha' hh', .int .i64 vp] 36)).ints
  have RH' := Lib.hid (PH'.alloc (.cells #[.slice H ha hh, .slice H' ha' hh', .int .i64 vp] 36)).ints
  obtain ⟨x0, x1, x2⟩ := (X0.below bA9 l2).flat
  obtain ⟨v10, hv10⟩ : ∃ x, x = v9.alloc (.cells #[.slice H ha hh, .slice H' ha' hh', .int .i64 vp] 36) := ⟨_, rfl⟩
  rw [← hv10] at b7a bA10 X98 X08 XH RH RH'
  have M8 := Lib.hid (M7.out.sub b7a)
  have M8' := Lib.hid (M7'.out.sub b7a)
  have Q8 := Lib.hid (QA.out.sub bA10)
  have Q8' := Lib.hid (QA'.out.sub bA10)
  clear k0 k1 k2 k3 k4 k5 k6 k7 k8
  go_wp2_with fail
  rw [← hv10]
  clear hv10
  refine (eqPosition_any _ _ _ _ _ _ _ _ _ _ _ _ vx vy vx vy _ _ _ (by exact RH.out) (by exact RH'.out) (by exact Q8.out) (by exact Q8'.out)).mono ?_
  rintro e v11 ⟨rfl, hv11⟩
  clear x0 x1 x2
  have bA11 : Below wA.heap.size wA v11 := sub_step hv11 bA10 rfl
  have X99 := X98.below hv11 X98.lt
  have M9 := Lib.hid (M8.out.sub hv11)
  have M9' := Lib.hid (M8'.out.sub hv11)
  obtain ⟨x0, x1, x2⟩ := X99.flat
  go_wp2_with fail
  refine (heldPosition_any _ _ _ _ _ _ _ _ (by exact M9.out) (by exact M9'.out) gl gl').mono ?_
  rintro e v12 ⟨rfl, hv12⟩
  have bA12 : Below wA.heap.size wA v12 := sub_step hv12 bA11 rfl
  have b12 : Below w.heap.size w v12 := sub_step bA12 bA rfl
  go_wp2_with fail
  go_ret
  exact ⟨rfl, b12⟩
end Go.Proofs.YtnanaldolnehiabDoor
