/-
  The position at the beginning: StartPosition.
-/
import Derived.Test.YtnanaldolnehiaaStart
set_option linter.unusedSimpArgs false
set_option linter.unusedVariables false
namespace Go.Proofs.Ytnanaldolnehiaa
open Go.ChangeShapes Go.WideShapes Go.RowKit Go.Deep

/-- What StartPosition returns. -/
def stX (b : Bool) (p s : Int) : List Int := if b then List.replicate (p.toNat + p.toNat) s else []
def stY (b : Bool) : List Int := if b then [0, 0] else []


set_option maxRecDepth 100000 in
set_option maxHeartbeats 2000000 in
theorem StartPosition_any (p s : Int) (st sk re fe ag : Bool) (c sl : Int) (w : World) :
    Calls Try.prog 74 #[.agg #[.int .i64 p, .int .i64 s, .bool st, .bool sk, .bool re, .bool fe, .bool ag, .int .i64 c, .int .i64 sl]] w (RetP w (stX (okR ⟨p, s, st, sk, re, fe, ag, c, sl⟩) p s) (stY (okR ⟨p, s, st, sk, re, fe, ag, c, sl⟩)) 0 (codP (okR ⟨p, s, st, sk, re, fe, ag, c, sl⟩))) := by
  have P0 := Lib.hid ((RuAt.box w 31 p s st sk re fe ag c sl).alloc (.cells #[.slice none 0 0, .slice none 0 0, .int .i64 0] 28))
  have P2 := PosAt.box (w.alloc (.cells #[.int .i64 p, .int .i64 s, .bool st, .bool sk, .bool re, .bool fe, .bool ag, .int .i64 c, .int .i64 sl] 31)) 28 none 0 0 none 0 0 0
  have F2 := fun i => frozen_new (w.alloc (.cells #[.int .i64 p, .int .i64 s, .bool st, .bool sk, .bool re, .bool fe, .bool ag, .int .i64 c, .int .i64 sl] 31)) #[.slice none 0 0, .slice none 0 0, .int .i64 0] 28 i
  have hs1 : (w.alloc (.cells #[.int .i64 p, .int .i64 s, .bool st, .bool sk, .bool re, .bool fe, .bool ag, .int .i64 c, .int .i64 sl] 31)).heap.size = w.heap.size + 1 := by simp
  rw [hs1] at P2
  simp only [hs1] at F2
  clear hs1
  have hbW : Below w.heap.size w ((w.alloc (.cells #[.int .i64 p, .int .i64 s, .bool st, .bool sk, .bool re, .bool fe, .bool ag, .int .i64 c, .int .i64 sl] 31)).alloc (.cells #[.slice none 0 0, .slice none 0 0, .int .i64 0] 28)) := (by repeat (first | with_reducible exact Below.refl _ _ | with_reducible assumption | with_reducible refine sub_alloc ?_ _ | (with_reducible refine sub_setCell2 ?_ ?_ _; (focus (first | (simp; done) | (simp <;> omega)))) | with_reducible refine sub_drew ?_ | with_reducible refine below_drewN ?_ _ | with_reducible refine sub_step (by assumption) ?_ (by first | rfl | (simp; done)) | exact Below.refl _ _ | assumption | refine sub_alloc ?_ _ | refine sub_setCell ?_ (by simp <;> omega) _ | refine sub_drew ?_ | refine below_drewN ?_ _ | refine sub_step (by assumption) ?_ (by first | rfl | (simp; done))))
  have hsz : ((w.alloc (.cells #[.int .i64 p, .int .i64 s, .bool st, .bool sk, .bool re, .bool fe, .bool ag, .int .i64 c, .int .i64 sl] 31)).alloc (.cells #[.slice none 0 0, .slice none 0 0, .int .i64 0] 28)).heap.size = w.heap.size + 2 := by simp
  cases e0 : okR ⟨p, s, st, sk, re, fe, ag, c, sl⟩
  · go_enter Try.func74, Try.ntmps74
    go_wp2_with fail
    refine (ValidRules_any p s st sk re fe ag c sl _).mono ?_
    rintro e w1 ⟨rfl, hb1⟩
    rw [hsz] at hb1
    have Q0 := P0.out.below hb1 (by omega)
    have Q2 := P2.below hb1 (by omega)
    have F2 : ∀ i, w1.frozen? ⟨w.heap.size + 1, i, none⟩ = false := fun i => (hb1.frozen (p := ⟨w.heap.size + 1, i, none⟩) (by simp)).trans (F2 i)
    obtain ⟨c0, c1, c2, c3, c4, c5, c6, c7, c8⟩ := Q0.flat
    obtain ⟨g0, g1, g2⟩ := Q2.flat
    have r0 := F2 0
    have r1 := F2 1
    have r2 := F2 2
    go_wp2_with fail
    refine bodyPost_ret (v := .tuple #[.agg #[.slice none 0 0, .slice none 0 0, .int .i64 0], .int .i64 1]) (by simp [results, Try.results74, go_sem, g0, g1, g2]) rfl ⟨none, 0, none, 0, 0, 0, ?_, own_nil _ _, own_nil _ _, apart_nil, by omega, by omega, (by repeat (first | with_reducible exact Below.refl _ _ | with_reducible assumption | with_reducible refine sub_alloc ?_ _ | (with_reducible refine sub_setCell2 ?_ ?_ _; (focus (first | (simp; done) | (simp <;> omega)))) | with_reducible refine sub_drew ?_ | with_reducible refine below_drewN ?_ _ | with_reducible refine sub_step (by assumption) ?_ (by first | rfl | (simp; done)) | exact Below.refl _ _ | assumption | refine sub_alloc ?_ _ | refine sub_setCell ?_ (by simp <;> omega) _ | refine sub_drew ?_ | refine below_drewN ?_ _ | refine sub_step (by assumption) ?_ (by first | rfl | (simp; done))))⟩
    simp [stX, stY, codP]
  obtain ⟨hq0, hq1⟩ := okR_pits e0
  obtain ⟨hs0, hs1⟩ := okR_seeds e0
  dsimp only at hq0 hq1 hs0 hs1
  obtain ⟨m, rfl⟩ : ∃ m : Nat, p = (m : Int) := ⟨p.toNat, by omega⟩
  refine Calls.mono (R := RetP w (List.replicate (m + m) s) [0, 0] 0 0) ?_ (fun e w' hq => by simpa [e0, stX, stY, codP] using hq)
  go_enter Try.func74, Try.ntmps74
  go_wp2_with fail
  refine (ValidRules_any (m : Int) s st sk re fe ag c sl _).mono ?_
  rintro e w1 ⟨rfl, hb1⟩
  rw [hsz] at hb1
  have Q0 := P0.out.below hb1 (by omega)
  have Q2 := P2.below hb1 (by omega)
  have F2 : ∀ i, w1.frozen? ⟨w.heap.size + 1, i, none⟩ = false := fun i => (hb1.frozen (p := ⟨w.heap.size + 1, i, none⟩) (by simp)).trans (F2 i)
  obtain ⟨c0, c1, c2, c3, c4, c5, c6, c7, c8⟩ := Q0.flat
  obtain ⟨g0, g1, g2⟩ := Q2.flat
  have r0 := F2 0
  have r1 := F2 1
  have r2 := F2 2
  go_wp2_with fail
  refine (start_any _ _ _ _ _ _ _ _ _ _ m rfl hq0 hq1).mono ?_
  rintro e w2 ⟨A1, u1, A2, u2, rfl, o1, o2, ap, hb2⟩
  have Q3 := Q2.below hb2 Q2.lt
  have r0 := (hb2.frozen (p := ⟨w.heap.size + 1, 0, none⟩) Q2.lt).trans r0
  have r1 := (hb2.frozen (p := ⟨w.heap.size + 1, 1, none⟩) Q2.lt).trans r1
  have r2 := (hb2.frozen (p := ⟨w.heap.size + 1, 2, none⟩) Q2.lt).trans r2
  obtain ⟨g0, g1, g2⟩ := Q3.flat
  have hbel : Below w.heap.size w w2 := (by repeat (first | with_reducible exact Below.refl _ _ | with_reducible assumption | with_reducible refine sub_alloc ?_ _ | (with_reducible refine sub_setCell2 ?_ ?_ _; (focus (first | (simp; done) | (simp <;> omega)))) | with_reducible refine sub_drew ?_ | with_reducible refine below_drewN ?_ _ | with_reducible refine sub_step (by assumption) ?_ (by first | rfl | (simp; done)) | exact Below.refl _ _ | assumption | refine sub_alloc ?_ _ | refine sub_setCell ?_ (by simp <;> omega) _ | refine sub_drew ?_ | refine below_drewN ?_ _ | refine sub_step (by assumption) ?_ (by first | rfl | (simp; done))))
  have lq := Q2.lt
  have e1 := o1.lower (base' := w.heap.size + 2) (by omega)
  have e2 := o2.lower (base' := w.heap.size + 2) (by omega)
  clear lq
  go_wp2_with fail
  refine bodyPost_ret (v := .tuple #[.agg #[.slice A1 (m + m) u1, .slice A2 2 u2, .int .i64 0], .int .i64 0]) (by simp [results, Try.results74, go_sem, g0, g1, g2]) rfl ⟨A1, u1, A2, u2, _, _, rfl, ?_, ?_, ap, by omega, by omega, (by repeat (first | with_reducible exact Below.refl _ _ | with_reducible assumption | with_reducible refine sub_alloc ?_ _ | (with_reducible refine sub_setCell2 ?_ ?_ _; (focus (first | (simp; done) | (simp <;> omega)))) | with_reducible refine sub_drew ?_ | with_reducible refine below_drewN ?_ _ | with_reducible refine sub_step (by assumption) ?_ (by first | rfl | (simp; done)) | exact Below.refl _ _ | assumption | refine sub_alloc ?_ _ | refine sub_setCell ?_ (by simp <;> omega) _ | refine sub_drew ?_ | refine below_drewN ?_ _ | refine sub_step (by assumption) ?_ (by first | rfl | (simp; done))))⟩
  · refine Own.lower (base := w.heap.size + 2) ?_ (by omega)
    repeat (refine Own.setBelow ?_ (by simp) _)
    exact e1
  · refine Own.lower (base := w.heap.size + 2) ?_ (by omega)
    repeat (refine Own.setBelow ?_ (by simp) _)
    exact e2
end Go.Proofs.Ytnanaldolnehiaa
