/-
  A position with the players exchanged: TurnPosition.
-/
import Derived.Test.YtjacmbgngbhcpaaTurn
set_option linter.unusedSimpArgs false
set_option linter.unusedVariables false
namespace Go.Proofs.Ytjacmbgngbhcpaa
open Go.ChangeShapes Go.WideShapes Go.RowKit Go.Deep

/-- What TurnPosition returns. -/
def tuX (b : Bool) (p : Int) (xs : List Int) : List Int := if b then turnL p.toNat xs else []
def tuY (b : Bool) (xs' : List Int) : List Int := if b then [xs'.getD 1 0, xs'.getD 0 0] else []
theorem apart_nil : Apart none none := fun g e => by cases e
theorem own_nil (w : World) (base : Nat) : Own w base none 0 0 [] := ⟨rfl, Nat.le_refl _, by omega, World.ownsRow_nil w _ _ _⟩

set_option maxRecDepth 100000 in
set_option maxHeartbeats 2000000 in
theorem specTurnPosition_any (p s : Int) (st sk re fe ag : Bool) (c sl : Int) (A A' : Option Addr) (n u n' u' : Nat) (xs xs' : List Int) (pl : Int) (w : World) (h : Ints w w.heap.size A n u xs) (h' : Ints w w.heap.size A' n' u' xs') (hn : n ≤ 4294967296) :
    Calls Try.prog 52 #[.agg #[.int .i64 p, .int .i64 s, .bool st, .bool sk, .bool re, .bool fe, .bool ag, .int .i64 c, .int .i64 sl], .agg #[.slice A n u, .slice A' n' u', .int .i64 pl]] w (RetP w (tuX (okP ⟨p, s, st, sk, re, fe, ag, c, sl⟩ xs xs' pl) p xs) (tuY (okP ⟨p, s, st, sk, re, fe, ag, c, sl⟩ xs xs' pl) xs') (if okP ⟨p, s, st, sk, re, fe, ag, c, sl⟩ xs xs' pl then 1 - pl else 0) (codP (okP ⟨p, s, st, sk, re, fe, ag, c, sl⟩ xs xs' pl))) := by
  have HL := Lib.hid h.len
  have HL' := Lib.hid h'.len
  have P0 := Lib.hid (((RuAt.box w 38 p s st sk re fe ag c sl).alloc (.cells #[.slice A n u, .slice A' n' u', .int .i64 pl] 35)).alloc (.cells #[.slice none 0 0, .slice none 0 0, .int .i64 0] 35))
  have P1 := (PosAt.box (w.alloc (.cells #[.int .i64 p, .int .i64 s, .bool st, .bool sk, .bool re, .bool fe, .bool ag, .int .i64 c, .int .i64 sl] 38)) 35 A n u A' n' u' pl).alloc (.cells #[.slice none 0 0, .slice none 0 0, .int .i64 0] 35)
  have P2 := PosAt.box ((w.alloc (.cells #[.int .i64 p, .int .i64 s, .bool st, .bool sk, .bool re, .bool fe, .bool ag, .int .i64 c, .int .i64 sl] 38)).alloc (.cells #[.slice A n u, .slice A' n' u', .int .i64 pl] 35)) 35 none 0 0 none 0 0 0
  have F2 := fun i => frozen_new ((w.alloc (.cells #[.int .i64 p, .int .i64 s, .bool st, .bool sk, .bool re, .bool fe, .bool ag, .int .i64 c, .int .i64 sl] 38)).alloc (.cells #[.slice A n u, .slice A' n' u', .int .i64 pl] 35)) #[.slice none 0 0, .slice none 0 0, .int .i64 0] 35 i
  have hs1 : (w.alloc (.cells #[.int .i64 p, .int .i64 s, .bool st, .bool sk, .bool re, .bool fe, .bool ag, .int .i64 c, .int .i64 sl] 38)).heap.size = w.heap.size + 1 := by simp
  have hs2 : ((w.alloc (.cells #[.int .i64 p, .int .i64 s, .bool st, .bool sk, .bool re, .bool fe, .bool ag, .int .i64 c, .int .i64 sl] 38)).alloc (.cells #[.slice A n u, .slice A' n' u', .int .i64 pl] 35)).heap.size = w.heap.size + 2 := by simp
  rw [hs1] at P1
  rw [hs2] at P2
  simp only [hs2] at F2
  clear hs1 hs2
  have hbW : Below w.heap.size w (((w.alloc (.cells #[.int .i64 p, .int .i64 s, .bool st, .bool sk, .bool re, .bool fe, .bool ag, .int .i64 c, .int .i64 sl] 38)).alloc (.cells #[.slice A n u, .slice A' n' u', .int .i64 pl] 35)).alloc (.cells #[.slice none 0 0, .slice none 0 0, .int .i64 0] 35)) := (by repeat (first | with_reducible exact Below.refl _ _ | with_reducible assumption | with_reducible refine sub_alloc ?_ _ | (with_reducible refine sub_setCell2 ?_ ?_ _; (focus (first | (simp; done) | (simp <;> omega)))) | with_reducible refine sub_drew ?_ | with_reducible refine below_drewN ?_ _ | with_reducible refine sub_step (by assumption) ?_ (by first | rfl | (simp; done)) | exact Below.refl _ _ | assumption | refine sub_alloc ?_ _ | refine sub_setCell ?_ (by simp <;> omega) _ | refine sub_drew ?_ | refine below_drewN ?_ _ | refine sub_step (by assumption) ?_ (by first | rfl | (simp; done))))
  have hsz : (((w.alloc (.cells #[.int .i64 p, .int .i64 s, .bool st, .bool sk, .bool re, .bool fe, .bool ag, .int .i64 c, .int .i64 sl] 38)).alloc (.cells #[.slice A n u, .slice A' n' u', .int .i64 pl] 35)).alloc (.cells #[.slice none 0 0, .slice none 0 0, .int .i64 0] 35)).heap.size = w.heap.size + 3 := by simp
  have HH := Lib.hid (h.sub hbW)
  have HH' := Lib.hid (h'.sub hbW)
  clear h h'
  cases e0 : okP ⟨p, s, st, sk, re, fe, ag, c, sl⟩ xs xs' pl
  · go_enter Try.func52, Try.ntmps52
    go_wp2_with fail
    refine (l04Ok_any w.heap.size 0 (w.heap.size + 1) 0 ⟨p, s, st, sk, re, fe, ag, c, sl⟩ _ _ _ _ _ _ xs xs' pl _ (by exact P0.out) (by exact P1) (by exact HH.out) (by exact HH'.out) hn).mono ?_
    rintro e w1 ⟨rfl, m1, rfl⟩
    have hb1 : Below (w.heap.size + 3) (((w.alloc (.cells #[.int .i64 p, .int .i64 s, .bool st, .bool sk, .bool re, .bool fe, .bool ag, .int .i64 c, .int .i64 sl] 38)).alloc (.cells #[.slice A n u, .slice A' n' u', .int .i64 pl] 35)).alloc (.cells #[.slice none 0 0, .slice none 0 0, .int .i64 0] 35)) ((((w.alloc (.cells #[.int .i64 p, .int .i64 s, .bool st, .bool sk, .bool re, .bool fe, .bool ag, .int .i64 c, .int .i64 sl] 38)).alloc (.cells #[.slice A n u, .slice A' n' u', .int .i64 pl] 35)).alloc (.cells #[.slice none 0 0, .slice none 0 0, .int .i64 0] 35)).drewN m1) := below_drewN (Below.refl _ _) _
    have Q0 := P0.out.below hb1 (by omega)
    have Q1 := P1.below hb1 (by omega)
    have Q2 := P2.below hb1 (by omega)
    obtain ⟨c0, c1, c2, c3, c4, c5, c6, c7, c8⟩ := Q0.flat
    obtain ⟨d0, d1, d2⟩ := Q1.flat
    obtain ⟨g0, g1, g2⟩ := Q2.flat
    have r0 := (hb1.frozen (p := ⟨w.heap.size + 2, 0, none⟩) (by simp)).trans (F2 0)
    have r1 := (hb1.frozen (p := ⟨w.heap.size + 2, 1, none⟩) (by simp)).trans (F2 1)
    have r2 := (hb1.frozen (p := ⟨w.heap.size + 2, 2, none⟩) (by simp)).trans (F2 2)
    go_wp2_with fail
    refine bodyPost_ret (v := .tuple #[.agg #[.slice none 0 0, .slice none 0 0, .int .i64 0], .int .i64 1]) (by simp [results, Try.results52, go_sem, g0, g1, g2]) rfl ⟨none, 0, none, 0, 0, 0, ?_, own_nil _ _, own_nil _ _, apart_nil, by omega, by omega, (by repeat (first | with_reducible exact Below.refl _ _ | with_reducible assumption | with_reducible refine sub_alloc ?_ _ | (with_reducible refine sub_setCell2 ?_ ?_ _; (focus (first | (simp; done) | (simp <;> omega)))) | with_reducible refine sub_drew ?_ | with_reducible refine below_drewN ?_ _ | with_reducible refine sub_step (by assumption) ?_ (by first | rfl | (simp; done)) | exact Below.refl _ _ | assumption | refine sub_alloc ?_ _ | refine sub_setCell ?_ (by simp <;> omega) _ | refine sub_drew ?_ | refine below_drewN ?_ _ | refine sub_step (by assumption) ?_ (by first | rfl | (simp; done))))⟩
    simp [tuX, tuY, codP]
  obtain ⟨z0, z1, z2, ⟨h0, h1⟩, -⟩ := okP_parts e0
  obtain ⟨hq0, hq1⟩ := okR_pits z0
  dsimp only at hq0 hq1 z1
  obtain rfl : n' = 2 := by rw [← HL'.out, z2]
  obtain ⟨x0, x1, rfl⟩ := two_of z2
  rw [HL.out] at z1
  obtain ⟨m, rfl⟩ : ∃ m : Nat, p = (m : Int) := ⟨p.toNat, by omega⟩
  obtain rfl : n = m + m := by omega
  clear z0 z2
  refine Calls.mono (R := RetP w (turnL m xs) [x1, x0] (1 - pl) 0) ?_ (fun e w' hq => by simpa [e0, tuX, tuY, codP] using hq)
  go_enter Try.func52, Try.ntmps52
  go_wp2_with fail
  refine (l04Ok_any w.heap.size 0 (w.heap.size + 1) 0 ⟨(m : Int), s, st, sk, re, fe, ag, c, sl⟩ _ _ _ _ _ _ xs [x0, x1] pl _ (by exact P0.out) (by exact P1) (by exact HH.out) (by exact HH'.out) hn).mono ?_
  rintro e w1 ⟨rfl, m1, rfl⟩
  have hb1 : Below (w.heap.size + 3) (((w.alloc (.cells #[.int .i64 (m : Int), .int .i64 s, .bool st, .bool sk, .bool re, .bool fe, .bool ag, .int .i64 c, .int .i64 sl] 38)).alloc (.cells #[.slice A (m + m) u, .slice A' 2 u', .int .i64 pl] 35)).alloc (.cells #[.slice none 0 0, .slice none 0 0, .int .i64 0] 35)) ((((w.alloc (.cells #[.int .i64 (m : Int), .int .i64 s, .bool st, .bool sk, .bool re, .bool fe, .bool ag, .int .i64 c, .int .i64 sl] 38)).alloc (.cells #[.slice A (m + m) u, .slice A' 2 u', .int .i64 pl] 35)).alloc (.cells #[.slice none 0 0, .slice none 0 0, .int .i64 0] 35)).drewN m1) := below_drewN (Below.refl _ _) _
  have Q0 := P0.out.below hb1 (by omega)
  have Q1 := P1.below hb1 (by omega)
  have Q2 := P2.below hb1 (by omega)
  obtain ⟨c0, c1, c2, c3, c4, c5, c6, c7, c8⟩ := Q0.flat
  obtain ⟨d0, d1, d2⟩ := Q1.flat
  obtain ⟨g0, g1, g2⟩ := Q2.flat
  have r0 := (hb1.frozen (p := ⟨w.heap.size + 2, 0, none⟩) (by simp)).trans (F2 0)
  have r1 := (hb1.frozen (p := ⟨w.heap.size + 2, 1, none⟩) (by simp)).trans (F2 1)
  have r2 := (hb1.frozen (p := ⟨w.heap.size + 2, 2, none⟩) (by simp)).trans (F2 2)
  go_wp2_with fail
  refine (l04Turn_any _ _ _ _ _ _ _ _ _ _ _ _ _ _ _ _ _ _ xs x0 x1 pl _ (by exact Q0) (by exact Q1) (by exact HH.out.drewN _) (by exact HH'.out.drewN _) m rfl rfl (by omega) (by omega) h0 h1).mono ?_
  rintro e w2 ⟨A1, u1, A2, u2, rfl, o1, o2, ap, hb2⟩
  have Q3 := Q2.below hb2 Q2.lt
  have r0 := (hb2.frozen (p := ⟨w.heap.size + 2, 0, none⟩) Q2.lt).trans r0
  have r1 := (hb2.frozen (p := ⟨w.heap.size + 2, 1, none⟩) Q2.lt).trans r1
  have r2 := (hb2.frozen (p := ⟨w.heap.size + 2, 2, none⟩) Q2.lt).trans r2
  obtain ⟨g0, g1, g2⟩ := Q3.flat
  have hs := hb1.size
  rw [hsz] at hs
  have hbel : Below w.heap.size w w2 := (by repeat (first | with_reducible exact Below.refl _ _ | with_reducible assumption | with_reducible refine sub_alloc ?_ _ | (with_reducible refine sub_setCell2 ?_ ?_ _; (focus (first | (simp; done) | (simp <;> omega)))) | with_reducible refine sub_drew ?_ | with_reducible refine below_drewN ?_ _ | with_reducible refine sub_step (by assumption) ?_ (by first | rfl | (simp; done)) | exact Below.refl _ _ | assumption | refine sub_alloc ?_ _ | refine sub_setCell ?_ (by simp <;> omega) _ | refine sub_drew ?_ | refine below_drewN ?_ _ | refine sub_step (by assumption) ?_ (by first | rfl | (simp; done))))
  have e1 := o1.lower (base' := w.heap.size + 3) (by first | exact hs | (simp; done))
  have e2 := o2.lower (base' := w.heap.size + 3) (by first | exact hs | (simp; done))
  clear hs
  go_wp2_with fail
  refine bodyPost_ret (v := .tuple #[.agg #[.slice A1 (m + m) u1, .slice A2 2 u2, .int .i64 (1 - pl)], .int .i64 0]) (by simp [results, Try.results52, go_sem, g0, g1, g2]) rfl ⟨A1, u1, A2, u2, _, _, rfl, ?_, ?_, ap, by omega, by omega, (by repeat (first | with_reducible exact Below.refl _ _ | with_reducible assumption | with_reducible refine sub_alloc ?_ _ | (with_reducible refine sub_setCell2 ?_ ?_ _; (focus (first | (simp; done) | (simp <;> omega)))) | with_reducible refine sub_drew ?_ | with_reducible refine below_drewN ?_ _ | with_reducible refine sub_step (by assumption) ?_ (by first | rfl | (simp; done)) | exact Below.refl _ _ | assumption | refine sub_alloc ?_ _ | refine sub_setCell ?_ (by simp <;> omega) _ | refine sub_drew ?_ | refine below_drewN ?_ _ | refine sub_step (by assumption) ?_ (by first | rfl | (simp; done))))⟩
  · refine Own.lower (base := w.heap.size + 3) ?_ (by omega)
    repeat (refine Own.setBelow ?_ (by simp) _)
    exact e1
  · refine Own.lower (base := w.heap.size + 3) ?_ (by omega)
    repeat (refine Own.setBelow ?_ (by simp) _)
    exact e2

set_option maxRecDepth 100000 in
set_option maxHeartbeats 2000000 in
theorem TurnPosition_any (p s : Int) (st sk re fe ag : Bool) (c sl : Int) (A A' : Option Addr) (n u n' u' : Nat) (xs xs' : List Int) (pl : Int) (w : World) (h : Ints w w.heap.size A n u xs) (h' : Ints w w.heap.size A' n' u' xs') (hn : n ≤ 4294967296) :
    Calls Try.prog 53 #[.agg #[.int .i64 p, .int .i64 s, .bool st, .bool sk, .bool re, .bool fe, .bool ag, .int .i64 c, .int .i64 sl], .agg #[.slice A n u, .slice A' n' u', .int .i64 pl]] w (RetP w (tuX (okP ⟨p, s, st, sk, re, fe, ag, c, sl⟩ xs xs' pl) p xs) (tuY (okP ⟨p, s, st, sk, re, fe, ag, c, sl⟩ xs xs' pl) xs') (if okP ⟨p, s, st, sk, re, fe, ag, c, sl⟩ xs xs' pl then 1 - pl else 0) (codP (okP ⟨p, s, st, sk, re, fe, ag, c, sl⟩ xs xs' pl))) := by
  have HL := Lib.hid h.len
  have HL' := Lib.hid h'.len
  have P0 := Lib.hid (((RuAt.box w 38 p s st sk re fe ag c sl).alloc (.cells #[.slice A n u, .slice A' n' u', .int .i64 pl] 35)).alloc (.cells #[.slice none 0 0, .slice none 0 0, .int .i64 0] 35))
  have P1 := (PosAt.box (w.alloc (.cells #[.int .i64 p, .int .i64 s, .bool st, .bool sk, .bool re, .bool fe, .bool ag, .int .i64 c, .int .i64 sl] 38)) 35 A n u A' n' u' pl).alloc (.cells #[.slice none 0 0, .slice none 0 0, .int .i64 0] 35)
  have P2 := PosAt.box ((w.alloc (.cells #[.int .i64 p, .int .i64 s, .bool st, .bool sk, .bool re, .bool fe, .bool ag, .int .i64 c, .int .i64 sl] 38)).alloc (.cells #[.slice A n u, .slice A' n' u', .int .i64 pl] 35)) 35 none 0 0 none 0 0 0
  have F2 := fun i => frozen_new ((w.alloc (.cells #[.int .i64 p, .int .i64 s, .bool st, .bool sk, .bool re, .bool fe, .bool ag, .int .i64 c, .int .i64 sl] 38)).alloc (.cells #[.slice A n u, .slice A' n' u', .int .i64 pl] 35)) #[.slice none 0 0, .slice none 0 0, .int .i64 0] 35 i
  have hs1 : (w.alloc (.cells #[.int .i64 p, .int .i64 s, .bool st, .bool sk, .bool re, .bool fe, .bool ag, .int .i64 c, .int .i64 sl] 38)).heap.size = w.heap.size + 1 := by simp
  have hs2 : ((w.alloc (.cells #[.int .i64 p, .int .i64 s, .bool st, .bool sk, .bool re, .bool fe, .bool ag, .int .i64 c, .int .i64 sl] 38)).alloc (.cells #[.slice A n u, .slice A' n' u', .int .i64 pl] 35)).heap.size = w.heap.size + 2 := by simp
  rw [hs1] at P1
  rw [hs2] at P2
  simp only [hs2] at F2
  clear hs1 hs2
  have hbW : Below w.heap.size w (((w.alloc (.cells #[.int .i64 p, .int .i64 s, .bool st, .bool sk, .bool re, .bool fe, .bool ag, .int .i64 c, .int .i64 sl] 38)).alloc (.cells #[.slice A n u, .slice A' n' u', .int .i64 pl] 35)).alloc (.cells #[.slice none 0 0, .slice none 0 0, .int .i64 0] 35)) := (by repeat (first | with_reducible exact Below.refl _ _ | with_reducible assumption | with_reducible refine sub_alloc ?_ _ | (with_reducible refine sub_setCell2 ?_ ?_ _; (focus (first | (simp; done) | (simp <;> omega)))) | with_reducible refine sub_drew ?_ | with_reducible refine below_drewN ?_ _ | with_reducible refine sub_step (by assumption) ?_ (by first | rfl | (simp; done)) | exact Below.refl _ _ | assumption | refine sub_alloc ?_ _ | refine sub_setCell ?_ (by simp <;> omega) _ | refine sub_drew ?_ | refine below_drewN ?_ _ | refine sub_step (by assumption) ?_ (by first | rfl | (simp; done))))
  have hsz : (((w.alloc (.cells #[.int .i64 p, .int .i64 s, .bool st, .bool sk, .bool re, .bool fe, .bool ag, .int .i64 c, .int .i64 sl] 38)).alloc (.cells #[.slice A n u, .slice A' n' u', .int .i64 pl] 35)).alloc (.cells #[.slice none 0 0, .slice none 0 0, .int .i64 0] 35)).heap.size = w.heap.size + 3 := by simp
  have HH := Lib.hid (h.sub hbW)
  have HH' := Lib.hid (h'.sub hbW)
  clear h h'
  cases e0 : okP ⟨p, s, st, sk, re, fe, ag, c, sl⟩ xs xs' pl
  · go_enter Try.func53, Try.ntmps53
    go_wp2_with fail
    refine (ValidPosition_any p s st sk re fe ag c sl _ _ _ _ _ _ xs xs' pl _ (by exact HH.out) (by exact HH'.out) hn).mono ?_
    rintro e w1 ⟨rfl, hb1⟩
    rw [hsz] at hb1
    have Q0 := P0.out.below hb1 (by omega)
    have Q1 := P1.below hb1 (by omega)
    have Q2 := P2.below hb1 (by omega)
    obtain ⟨c0, c1, c2, c3, c4, c5, c6, c7, c8⟩ := Q0.flat
    obtain ⟨d0, d1, d2⟩ := Q1.flat
    obtain ⟨g0, g1, g2⟩ := Q2.flat
    have r0 := (hb1.frozen (p := ⟨w.heap.size + 2, 0, none⟩) (by simp)).trans (F2 0)
    have r1 := (hb1.frozen (p := ⟨w.heap.size + 2, 1, none⟩) (by simp)).trans (F2 1)
    have r2 := (hb1.frozen (p := ⟨w.heap.size + 2, 2, none⟩) (by simp)).trans (F2 2)
    go_wp2_with fail
    refine bodyPost_ret (v := .tuple #[.agg #[.slice none 0 0, .slice none 0 0, .int .i64 0], .int .i64 1]) (by simp [results, Try.results53, go_sem, g0, g1, g2]) rfl ⟨none, 0, none, 0, 0, 0, ?_, own_nil _ _, own_nil _ _, apart_nil, by omega, by omega, (by repeat (first | with_reducible exact Below.refl _ _ | with_reducible assumption | with_reducible refine sub_alloc ?_ _ | (with_reducible refine sub_setCell2 ?_ ?_ _; (focus (first | (simp; done) | (simp <;> omega)))) | with_reducible refine sub_drew ?_ | with_reducible refine below_drewN ?_ _ | with_reducible refine sub_step (by assumption) ?_ (by first | rfl | (simp; done)) | exact Below.refl _ _ | assumption | refine sub_alloc ?_ _ | refine sub_setCell ?_ (by simp <;> omega) _ | refine sub_drew ?_ | refine below_drewN ?_ _ | refine sub_step (by assumption) ?_ (by first | rfl | (simp; done))))⟩
    simp [tuX, tuY, codP]
  obtain ⟨z0, z1, z2, ⟨h0, h1⟩, -⟩ := okP_parts e0
  obtain ⟨hq0, hq1⟩ := okR_pits z0
  dsimp only at hq0 hq1 z1
  obtain rfl : n' = 2 := by rw [← HL'.out, z2]
  obtain ⟨x0, x1, rfl⟩ := two_of z2
  rw [HL.out] at z1
  obtain ⟨m, rfl⟩ : ∃ m : Nat, p = (m : Int) := ⟨p.toNat, by omega⟩
  obtain rfl : n = m + m := by omega
  clear z0 z2
  refine Calls.mono (R := RetP w (turnL m xs) [x1, x0] (1 - pl) 0) ?_ (fun e w' hq => by simpa [e0, tuX, tuY, codP] using hq)
  go_enter Try.func53, Try.ntmps53
  go_wp2_with fail
  refine (ValidPosition_any (m : Int) s st sk re fe ag c sl _ _ _ _ _ _ xs [x0, x1] pl _ (by exact HH.out) (by exact HH'.out) hn).mono ?_
  rintro e w1 ⟨rfl, hb1⟩
  rw [hsz] at hb1
  have Q0 := P0.out.below hb1 (by omega)
  have Q1 := P1.below hb1 (by omega)
  have Q2 := P2.below hb1 (by omega)
  obtain ⟨c0, c1, c2, c3, c4, c5, c6, c7, c8⟩ := Q0.flat
  obtain ⟨d0, d1, d2⟩ := Q1.flat
  obtain ⟨g0, g1, g2⟩ := Q2.flat
  have r0 := (hb1.frozen (p := ⟨w.heap.size + 2, 0, none⟩) (by simp)).trans (F2 0)
  have r1 := (hb1.frozen (p := ⟨w.heap.size + 2, 1, none⟩) (by simp)).trans (F2 1)
  have r2 := (hb1.frozen (p := ⟨w.heap.size + 2, 2, none⟩) (by simp)).trans (F2 2)
  go_wp2_with fail
  refine (turned_any _ _ _ _ _ _ _ _ _ _ _ _ _ _ xs x0 x1 pl _ (by exact HH.out.sub (by rw [hsz]; exact hb1)) (by exact HH'.out.sub (by rw [hsz]; exact hb1)) m rfl rfl (by omega) (by omega) h0 h1).mono ?_
  rintro e w2 ⟨A1, u1, A2, u2, rfl, o1, o2, ap, hb2⟩
  have Q3 := Q2.below hb2 Q2.lt
  have r0 := (hb2.frozen (p := ⟨w.heap.size + 2, 0, none⟩) Q2.lt).trans r0
  have r1 := (hb2.frozen (p := ⟨w.heap.size + 2, 1, none⟩) Q2.lt).trans r1
  have r2 := (hb2.frozen (p := ⟨w.heap.size + 2, 2, none⟩) Q2.lt).trans r2
  obtain ⟨g0, g1, g2⟩ := Q3.flat
  have hs := hb1.size
  rw [hsz] at hs
  have hbel : Below w.heap.size w w2 := (by repeat (first | with_reducible exact Below.refl _ _ | with_reducible assumption | with_reducible refine sub_alloc ?_ _ | (with_reducible refine sub_setCell2 ?_ ?_ _; (focus (first | (simp; done) | (simp <;> omega)))) | with_reducible refine sub_drew ?_ | with_reducible refine below_drewN ?_ _ | with_reducible refine sub_step (by assumption) ?_ (by first | rfl | (simp; done)) | exact Below.refl _ _ | assumption | refine sub_alloc ?_ _ | refine sub_setCell ?_ (by simp <;> omega) _ | refine sub_drew ?_ | refine below_drewN ?_ _ | refine sub_step (by assumption) ?_ (by first | rfl | (simp; done))))
  have e1 := o1.lower (base' := w.heap.size + 3) (by first | exact hs | (simp; done))
  have e2 := o2.lower (base' := w.heap.size + 3) (by first | exact hs | (simp; done))
  clear hs
  go_wp2_with fail
  refine bodyPost_ret (v := .tuple #[.agg #[.slice A1 (m + m) u1, .slice A2 2 u2, .int .i64 (1 - pl)], .int .i64 0]) (by simp [results, Try.results53, go_sem, g0, g1, g2]) rfl ⟨A1, u1, A2, u2, _, _, rfl, ?_, ?_, ap, by omega, by omega, (by repeat (first | with_reducible exact Below.refl _ _ | with_reducible assumption | with_reducible refine sub_alloc ?_ _ | (with_reducible refine sub_setCell2 ?_ ?_ _; (focus (first | (simp; done) | (simp <;> omega)))) | with_reducible refine sub_drew ?_ | with_reducible refine below_drewN ?_ _ | with_reducible refine sub_step (by assumption) ?_ (by first | rfl | (simp; done)) | exact Below.refl _ _ | assumption | refine sub_alloc ?_ _ | refine sub_setCell ?_ (by simp <;> omega) _ | refine sub_drew ?_ | refine below_drewN ?_ _ | refine sub_step (by assumption) ?_ (by first | rfl | (simp; done))))⟩
  · refine Own.lower (base := w.heap.size + 3) ?_ (by omega)
    repeat (refine Own.setBelow ?_ (by simp) _)
    exact e1
  · refine Own.lower (base := w.heap.size + 3) ?_ (by omega)
    repeat (refine Own.setBelow ?_ (by simp) _)
    exact e2
end Go.Proofs.Ytjacmbgngbhcpaa
