/-
  Positions that are drawn: A2Position.
-/
import Derived.Test.YtnanaldolnehiaaOrder
set_option linter.unusedSimpArgs false
set_option linter.unusedVariables false
namespace Go.Proofs.Ytnanaldolnehiaa
open Go.ChangeShapes Go.WideShapes Go.RowKit Go.Deep

def RetA2P (w : World) (e : Ending) (w' : World) : Prop := ∃ (r : Ru) (gA n cA gB cB : Nat) (zs : List Int) (y0 y1 pl : Int), e = .returned (.tuple #[.agg r.cells.toArray, .agg #[.slice (some ⟨gA, 0, none⟩) n cA, .slice (some ⟨gB, 0, none⟩) 2 cB, .int .i64 pl]]) ∧ Own w' w.heap.size (some ⟨gA, 0, none⟩) n cA zs ∧ Own w' w.heap.size (some ⟨gB, 0, none⟩) 2 cB [y0, y1] ∧ n ≤ 16 ∧ Below w.heap.size w w'
theorem A2Position_ret {Post : Ending → World → Prop} {a : Act} {W : World} {g g2 : Nat} {p s : Int} {st sk re fe ag : Bool} {c sl : Int} {A A' : Option Addr} {n u n' u' : Nat} {pl : Int} (ha : a.tmps.getD 2 undef = .pointer (some ⟨g, 0, none⟩)) (ha2 : a.tmps.getD 3 undef = .pointer (some ⟨g2, 0, none⟩)) (hd : a.defers = []) (hr : RuAt W g 0 ⟨p, s, st, sk, re, fe, ag, c, sl⟩) (hp : PosAt W g2 0 A n u A' n' u' pl) (hP : Post (.returned (.tuple #[.agg #[.int .i64 p, .int .i64 s, .bool st, .bool sk, .bool re, .bool fe, .bool ag, .int .i64 c, .int .i64 sl], .agg #[.slice A n u, .slice A' n' u', .int .i64 pl]])) W) : bodyPost Try.prog Try.f85 Post Exit.ret a W := by
  obtain ⟨c0, c1, c2, c3, c4, c5, c6, c7, c8⟩ := hr.flat
  obtain ⟨d0, d1, d2⟩ := hp.flat
  refine bodyPost_ret (v := .tuple #[.agg #[.int .i64 p, .int .i64 s, .bool st, .bool sk, .bool re, .bool fe, .bool ag, .int .i64 c, .int .i64 sl], .agg #[.slice A n u, .slice A' n' u', .int .i64 pl]]) ?_ hd hP
  obtain ⟨tmps, defers⟩ := a
  simp only [Array.getD_eq_getD_getElem?] at ha ha2
  simp [results, Try.results85, go_sem, ha, ha2, c0, c1, c2, c3, c4, c5, c6, c7, c8, d0, d1, d2]
set_option maxRecDepth 100000 in
set_option maxHeartbeats 8000000 in
theorem A2Position_any (A : Option Addr) (n cc : Nat) (zs : List Int) (w : World) (h : Bys w w.heap.size A n cc zs) (hn : n ≤ 4096) : Calls Try.prog 85 #[.slice A n cc] w (RetA2P w) := by
  have bw : Below w.heap.size w ((w.alloc (.cells #[.int .i64 0, .int .i64 0, .bool false, .bool false, .bool false, .bool false, .bool false, .int .i64 0, .int .i64 0] 31)).alloc (.cells #[.slice none 0 0, .slice none 0 0, .int .i64 0] 28)) := (by repeat (first | with_reducible exact Below.refl _ _ | with_reducible assumption | with_reducible refine sub_alloc ?_ _ | (with_reducible refine sub_setCell2 ?_ ?_ _; (focus (first | (simp; done) | (simp <;> omega)))) | with_reducible refine sub_drew ?_ | with_reducible refine below_drewN ?_ _ | with_reducible refine sub_step (by assumption) ?_ (by first | rfl | (simp; done)) | exact Below.refl _ _ | assumption | refine sub_alloc ?_ _ | refine sub_setCell ?_ (by simp <;> omega) _ | refine sub_drew ?_ | refine below_drewN ?_ _ | refine sub_step (by assumption) ?_ (by first | rfl | (simp; done))))
  have sz : ((w.alloc (.cells #[.int .i64 0, .int .i64 0, .bool false, .bool false, .bool false, .bool false, .bool false, .int .i64 0, .int .i64 0] 31)).alloc (.cells #[.slice none 0 0, .slice none 0 0, .int .i64 0] 28)).heap.size = w.heap.size + 1 + 1 := by simp
  have H := Lib.hid (h.sub bw)
  have Z0 := Lib.hid ((RX.box w 31 0 0 false false false false false 0 0).alloc (.cells #[.slice none 0 0, .slice none 0 0, .int .i64 0] 28))
  have N0 := Lib.hid (box_new' (w.alloc (.cells #[.int .i64 0, .int .i64 0, .bool false, .bool false, .bool false, .bool false, .bool false, .int .i64 0, .int .i64 0] 31)) 28 (w.heap.size + 1) (by simp))
  have BW := Lib.hid bw
  have SZ := Lib.hid sz
  clear h bw sz
  go_enter Try.func85, Try.ntmps85
  go_wp2_with fail
  refine (l00From_any A n cc zs _ (by exact H.out) hn).mono ?_
  rintro e w1 ⟨rfl, s1, b1⟩
  rw [SZ.out] at s1
  have Z1 := Lib.hid (Z0.out.grown (b := w.heap.size + 1 + 1) (grown_below b1) (by omega))
  have N1 := Lib.hid (N0.out.keep b1)
  have B1 := Lib.hid (sub_step b1 BW.out rfl)
  have S1 := Lib.hid s1
  have lt1 := s1.lt
  clear b1 s1 Z0 N0 H
  go_wp2_with fail
  refine (l02Draw_any _ A n cc zs 0 0 (by omega) _ (by exact S1.out)).mono ?_
  rintro e w2 ⟨r, k2, d2, rfl, hr, s2, hk2, g2⟩
  have l2 := g2.size
  obtain ⟨p, s, st, sk, re, fe, ag, c, sl⟩ := r
  obtain ⟨hq0, hq1⟩ := okR_pits hr
  dsimp only at hq0 hq1
  have s3 := s2.alloc (.cells #[.int .i64 p, .int .i64 s, .bool st, .bool sk, .bool re, .bool fe, .bool ag, .int .i64 c, .int .i64 sl] 31)
  have S3 := Lib.hid s3
  have R3 := Lib.hid (RuAt.box w2 31 p s st sk re fe ag c sl)
  have Z3 := Lib.hid ((Z1.out.grown g2 (by omega)).alloc (.cells #[.int .i64 p, .int .i64 s, .bool st, .bool sk, .bool re, .bool fe, .bool ag, .int .i64 c, .int .i64 sl] 31))
  have N3 := Lib.hid ((N1.out.grownB g2 (by omega)).keepAlloc (.cells #[.int .i64 p, .int .i64 s, .bool st, .bool sk, .bool re, .bool fe, .bool ag, .int .i64 c, .int .i64 sl] 31))
  have B3 := Lib.hid ((B1.out.grown g2 B1.out.size (fun k e => by injection e with e; omega)).alloc (by have := B1.out.size; omega) (.cells #[.int .i64 p, .int .i64 s, .bool st, .bool sk, .bool re, .bool fe, .bool ag, .int .i64 c, .int .i64 sl] 31))
  clear s2 g2 s3 Z1 N1 B1 S1 hr
  have z3 : (w2.alloc (.cells #[.int .i64 p, .int .i64 s, .bool st, .bool sk, .bool re, .bool fe, .bool ag, .int .i64 c, .int .i64 sl] 31)).heap.size = w2.heap.size + 1 := by simp
  obtain ⟨W, hW⟩ : ∃ W, W = w2.alloc (.cells #[.int .i64 p, .int .i64 s, .bool st, .bool sk, .bool re, .bool fe, .bool ag, .int .i64 c, .int .i64 sl] 31) := ⟨_, rfl⟩
  rw [show (Value.agg (Ru.cells ⟨p, s, st, sk, re, fe, ag, c, sl⟩).toArray) = .agg #[.int .i64 p, .int .i64 s, .bool st, .bool sk, .bool re, .bool fe, .bool ag, .int .i64 c, .int .i64 sl] from rfl]
  rw [← hW] at S3 R3 Z3 N3 B3 z3
  have HW := Lib.hid hW
  clear hW
  obtain ⟨c0, c1, c2, c3, c4, c5, c6, c7, c8⟩ := R3.out.flat
  go_wp2_with fail
  rw [← HW.out]
  have n1 : ¬ (w.heap.size = w2.heap.size) := by omega
  have n2 : ¬ (w.heap.size + 1 = w2.heap.size) := by omega
  have hk9 : k2 ≤ 1048576 := by omega
  have hne9 : ¬ (w2.heap.size = w.heap.size + 1 + 1) := by omega
  have m1 : ¬ (w.heap.size = w.heap.size + 1 + 1) := by omega
  have m2 : ¬ (w.heap.size + 1 = w.heap.size + 1 + 1) := by omega
  have S4 : Src W.drew (w.heap.size + 1 + 1) A n cc zs k2 d2 := S3.out
  have R5 : RuAt W.drew w2.heap.size 0 ⟨p, s, st, sk, re, fe, ag, c, sl⟩ := R3.out
  have Z5 : RX W.drew w.heap.size ⟨0, 0, false, false, false, false, false, 0, 0⟩ := Z3.out
  have N5 : BoxAt W.drew (w.heap.size + 1) := N3.out
  go_region_held3 (fun w' => w'.cell? ⟨w2.heap.size, 0, none⟩ = some (.int .i64 p) ∧ w'.cell? ⟨w2.heap.size, 1, none⟩ = some (.int .i64 s) ∧ w'.cell? ⟨w2.heap.size, 2, none⟩ = some (.bool st) ∧ w'.cell? ⟨w2.heap.size, 3, none⟩ = some (.bool sk) ∧ w'.cell? ⟨w2.heap.size, 4, none⟩ = some (.bool re) ∧ w'.cell? ⟨w2.heap.size, 5, none⟩ = some (.bool fe) ∧ w'.cell? ⟨w2.heap.size, 6, none⟩ = some (.bool ag) ∧ w'.cell? ⟨w2.heap.size, 7, none⟩ = some (.int .i64 c) ∧ w'.cell? ⟨w2.heap.size, 8, none⟩ = some (.int .i64 sl)) (first | (refine ⟨?_, ?_, ?_, ?_, ?_, ?_, ?_, ?_, ?_⟩ <;> with_reducible assumption) | go_keep) (first
    | (go_at_call 145; refine (l04Draw_any (w.heap.size + 1 + 1) A n cc zs k2 d2 hk9 w2.heap.size 0 p s st sk re fe ag c sl W.drew S4 R5 hne9 hq0 hq1).mono ?_; rintro e w4 ⟨gA, n4, cA, gB, cB, zs4, y0, y1, pl, rfl, o1, o2, hn4, g4⟩; have R4 := R5.grownB g4 hne9; have Z4 := Z5.grown g4 m1; have N4 := N5.grownB g4 m2; obtain ⟨c0, c1, c2, c3, c4, c5, c6, c7, c8⟩ := R4.flat; obtain ⟨e0, e1, e2, e3, e4, e5, e6, e7, e8⟩ := Z4.1.flat; have fz := Z4.2; have f0 := fz 0; have f1 := fz 1; have f2 := fz 2; have f3 := fz 3; have f4 := fz 4; have f5 := fz 5; have f6 := fz 6; have f7 := fz 7; have f8 := fz 8; clear fz; obtain ⟨v0, v1, v2, v3, v4, v5⟩ := N4.flat))
  have hX := (((((((((Z4.set0 p).set1 s).set2 st).set3 sk).set4 re).set5 fe).set6 ag).set7 c).set8 sl)
  have ZS := W.heap.size
  have hz9 : w.heap.size + 1 + 1 ≤ W.drew.heap.size := by show _ ≤ W.heap.size; omega
  have B4 : Below w.heap.size w w4 := Below.grown B3.out.drew g4 (by exact B3.out.drew.size) (fun k e => by injection e with e; omega)
  have O1 := Lib.hid (o1.lower hz9)
  have O2 := Lib.hid (o2.lower hz9)
  have BB := Lib.hid B4
  have HX := Lib.hid hX
  have HN := Lib.hid N4
  clear hX o1 o2 B4 Z4 N4 R4 S4 R5 Z5 N5 g4 c0 c1 c2 c3 c4 c5 c6 c7 c8 e0 e1 e2 e3 e4 e5 e6 e7 e8 f0 f1 f2 f3 f4 f5 f6 f7 f8 v0 v1 v2 v3 v4 v5 ZS
  go_wp2_with fail
  refine A2Position_ret (g := w.heap.size) (g2 := w.heap.size + 1) (by rfl) (by rfl) (by rfl) ?hR (BoxAt.set ?hN _ _ _ _ _ _ _) ⟨⟨p, s, st, sk, re, fe, ag, c, sl⟩, gA, n4, cA, gB, cB, zs4, y0, y1, pl, rfl, ?_, ?_, hn4, ?_⟩
  case hR =>
    refine RuAt.other (RuAt.other (RuAt.other ?_ _ (by simp) _) _ (by simp) _) _ (by simp) _
    exact HX.out.1
  case hN =>
    repeat (with_reducible refine BoxAt.other ?_ _ (by simp) _)
    exact HN.out
  · refine Own.lower (base := w.heap.size + 1 + 1) ?_ (by omega)
    repeat (with_reducible refine Own.setBelow ?_ (by simp <;> omega) _)
    exact O1.out
  · refine Own.lower (base := w.heap.size + 1 + 1) ?_ (by omega)
    repeat (with_reducible refine Own.setBelow ?_ (by simp <;> omega) _)
    exact O2.out
  · repeat (with_reducible refine sub_setCell2 (by simp) ?_ _)
    exact BB.out
end Go.Proofs.Ytnanaldolnehiaa
