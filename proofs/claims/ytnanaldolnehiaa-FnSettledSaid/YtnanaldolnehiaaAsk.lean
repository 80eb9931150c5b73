/-
  l09Ask, DrawGivePosition: rules, a position and a player that are drawn.
-/
import Derived.Test.YtnanaldolnehiaaBent4
import Derived.Test.YtnanaldolnehiaaAskReg
set_option linter.unusedSimpArgs false
set_option linter.unusedVariables false
namespace Go.Proofs.Ytnanaldolnehiaa
open Go.ChangeShapes Go.WideShapes Go.RowKit Go.Deep

/-- What l09Ask hands back. -/
def RetAsk (w : World) (e : Ending) (w' : World) : Prop :=
  ∃ (r : Ru) (gA j n cA : Nat) (zs : List Int) (A' : Option Addr) (n' c' : Nat) (ys : List Int) (pl q : Int),
    e = .returned (.tuple #[.agg r.cells.toArray, .agg #[.slice (some ⟨gA, j, none⟩) (n - j) (cA - j), .slice A' n' c', .int .i64 pl], .int .i64 q]) ∧ j ≤ 1 ∧ 2 ≤ n ∧ n ≤ 16 ∧ Own w' w.heap.size (some ⟨gA, 0, none⟩) n cA zs ∧ Own w' w.heap.size A' n' c' ys ∧ Below w.heap.size w w'
theorem Ints.tail {w : World} {B g n c : Nat} {zs : List Int} (h : Ints w B (some ⟨g, 0, none⟩) n c zs) (j : Nat) (hj : j ≤ n) : Ints w B (some ⟨g, j, none⟩) (n - j) (c - j) (zs.drop j) := by
  obtain ⟨h1, h2, h3, h4, h5⟩ := h
  refine ⟨by simp [h1], by omega, by omega, (fun e => by cases e), fun hn => ?_⟩
  obtain ⟨b, off, e, hb, hc⟩ := h5 (by omega)
  injection e with e
  injection e with e1 e2
  subst e1 e2
  refine ⟨g, j, rfl, hb, fun i x hx => ?_⟩
  rw [List.getElem?_drop] at hx
  have := hc (j + i) x hx
  rwa [Nat.zero_add] at this
theorem l09Ask_ret {Post : Ending → World → Prop} {a : Act} {W : World} {g g2 : Nat} {p s : Int} {st sk re fe ag : Bool} {c sl : Int} {A A' : Option Addr} {n u n' u' : Nat} {pl q : Int} (ha : a.tmps.getD 2 undef = .pointer (some ⟨g, 0, none⟩)) (ha2 : a.tmps.getD 3 undef = .pointer (some ⟨g2, 0, none⟩)) (ha4 : a.tmps.getD 4 undef = .int .i64 q) (hd : a.defers = []) (hr : RuAt W g 0 ⟨p, s, st, sk, re, fe, ag, c, sl⟩) (hp : Has W g2 [.slice A n u, .slice A' n' u', .int .i64 pl]) (hP : Post (.returned (.tuple #[.agg #[.int .i64 p, .int .i64 s, .bool st, .bool sk, .bool re, .bool fe, .bool ag, .int .i64 c, .int .i64 sl], .agg #[.slice A n u, .slice A' n' u', .int .i64 pl], .int .i64 q])) W) : bodyPost Try.prog Try.f147 Post Exit.ret a W := by
  obtain ⟨c0, c1, c2, c3, c4, c5, c6, c7, c8⟩ := hr.flat
  have d0 := hp.at_ 0 rfl
  have d1 := hp.at_ 1 rfl
  have d2 := hp.at_ 2 rfl
  refine bodyPost_ret (v := .tuple #[.agg #[.int .i64 p, .int .i64 s, .bool st, .bool sk, .bool re, .bool fe, .bool ag, .int .i64 c, .int .i64 sl], .agg #[.slice A n u, .slice A' n' u', .int .i64 pl], .int .i64 q]) ?_ hd hP
  obtain ⟨tmps, defers⟩ := a
  simp only [Array.getD_eq_getD_getElem?] at ha ha2 ha4
  simp [results, Try.results147, go_sem, ha, ha2, ha4, c0, c1, c2, c3, c4, c5, c6, c7, c8, d0, d1, d2]
set_option maxRecDepth 100000 in
set_option maxHeartbeats 16000000 in
theorem l09Ask_any (A : Option Addr) (n0 c0 : Nat) (bs : List Int) (w : World) (h : Bys w w.heap.size A n0 c0 bs) (hn0 : n0 ≤ 4096) : Calls Try.prog 147 #[.slice A n0 c0] w (RetAsk w) := by
  have bw : Below w.heap.size w ((w.alloc (.cells #[.int .i64 0, .int .i64 0, .bool false, .bool false, .bool false, .bool false, .bool false, .int .i64 0, .int .i64 0] 31)).alloc (.cells #[.slice none 0 0, .slice none 0 0, .int .i64 0] 28)) := (by repeat (first | with_reducible exact Below.refl _ _ | with_reducible assumption | with_reducible refine sub_alloc ?_ _ | (with_reducible refine sub_setCell2 ?_ ?_ _; (focus (first | (simp; done) | (simp <;> omega)))) | with_reducible refine sub_drew ?_ | with_reducible refine below_drewN ?_ _ | with_reducible refine sub_step (by assumption) ?_ (by first | rfl | (simp; done)) | exact Below.refl _ _ | assumption | refine sub_alloc ?_ _ | refine sub_setCell ?_ (by simp <;> omega) _ | refine sub_drew ?_ | refine below_drewN ?_ _ | refine sub_step (by assumption) ?_ (by first | rfl | (simp; done))))
  have H := Lib.hid (h.sub bw)
  have KR0 := Lib.hid ((OutAt.box w [.int .i64 0, .int .i64 0, .bool false, .bool false, .bool false, .bool false, .bool false, .int .i64 0, .int .i64 0] 31 w.heap.size rfl).alloc (.cells #[.slice none 0 0, .slice none 0 0, .int .i64 0] 28))
  have KP0 := Lib.hid (OutAt.box (w.alloc (.cells #[.int .i64 0, .int .i64 0, .bool false, .bool false, .bool false, .bool false, .bool false, .int .i64 0, .int .i64 0] 31)) [.slice none 0 0, .slice none 0 0, .int .i64 0] 28 (w.heap.size + 1) (by simp))
  have BW := Lib.hid bw
  have sz0 : ((w.alloc (.cells #[.int .i64 0, .int .i64 0, .bool false, .bool false, .bool false, .bool false, .bool false, .int .i64 0, .int .i64 0] 31)).alloc (.cells #[.slice none 0 0, .slice none 0 0, .int .i64 0] 28)).heap.size = w.heap.size + 2 := by simp
  have SZ0 := Lib.hid sz0
  clear h bw sz0
  go_enter Try.func147, Try.ntmps147
  go_wp2_with fail
  refine (l00From_any A n0 c0 bs _ (by exact H.out) hn0).mono ?_
  rintro e w1 ⟨rfl, s1, b1⟩
  have lt1 := s1.lt
  rw [SZ0.out] at s1 lt1
  have KR1 := Lib.hid (KR0.out.sub b1)
  have KP1 := Lib.hid (KP0.out.sub b1)
  have B1 := Lib.hid (BW.out.trans (b1.mono BW.out.size))
  have S1 := Lib.hid s1
  rw [SZ0.out]
  clear s1 b1 KR0 KP0 BW SZ0 H
  obtain ⟨b, hb⟩ : ∃ x, x = w.heap.size + 2 := ⟨_, rfl⟩
  rw [← hb] at S1 lt1 ⊢
  have hb1 : w.heap.size + 2 ≤ b := by omega
  clear hb
  go_wp2_with fail
  refine (l04Bent_any b A n0 c0 bs 0 0 (by omega) _ (by exact S1.out)).mono ?_
  rintro e w2 ⟨r, A1, n1, u1, A', n', c', ys, pl, gA, n, cA, zs, j, k2, d2, rfl, ⟨hA1, hn1, hu1, hj, hn2, hn16⟩, oA, oB, hnA, s2, hk2, g2⟩
  subst hA1 hn1 hu1
  have z2 := g2.size
  obtain ⟨p, s, st, sk, re, fe, ag, c, sl⟩ := r
  have GA : w.grownBy w2 (some b) := gr_trans (grown_below B1.out) g2
  have a1 : w1.heap.size ≤ gA ∧ gA < w2.heap.size := by
    rcases oA.form with ⟨e, _⟩ | ⟨g, e, x1, x2⟩
    · cases e
    · injection e with e; injection e with e; omega
  have a2 : ∀ g, A' = some ⟨g, 0, none⟩ → g < w2.heap.size := by
    intro g eg
    rcases oB.form with ⟨e, _⟩ | ⟨g', e, x1, x2⟩
    · rw [e] at eg; cases eg
    · rw [e] at eg; injection eg with eg; injection eg with eg; omega
  have HH : Hid (BS w ((w2.alloc (.cells #[.int .i64 p, .int .i64 s, .bool st, .bool sk, .bool re, .bool fe, .bool ag, .int .i64 c, .int .i64 sl] 31)).alloc (.cells #[.slice (some ⟨gA, j, none⟩) (n - j) (cA - j), .slice A' n' c', .int .i64 pl] 28)) b A n0 c0 bs k2 d2 w.heap.size (w.heap.size + 1) w2.heap.size (w2.heap.size + 1) w1.heap.size [.int .i64 p, .int .i64 s, .bool st, .bool sk, .bool re, .bool fe, .bool ag, .int .i64 c, .int .i64 sl] [.slice (some ⟨gA, j, none⟩) (n - j) (cA - j), .slice A' n' c', .int .i64 pl] gA n cA zs A' n' c' ys) := Lib.hid (by
    have q1 := OutAt.box w2 [.int .i64 p, .int .i64 s, .bool st, .bool sk, .bool re, .bool fe, .bool ag, .int .i64 c, .int .i64 sl] 31 w2.heap.size rfl
    have q2 := OutAt.box (w2.alloc (.cells #[.int .i64 p, .int .i64 s, .bool st, .bool sk, .bool re, .bool fe, .bool ag, .int .i64 c, .int .i64 sl] 31)) [.slice (some ⟨gA, j, none⟩) (n - j) (cA - j), .slice A' n' c', .int .i64 pl] 28 (w2.heap.size + 1) (by simp)
    exact ⟨((KR1.out.grown g2 (by omega)).alloc _).alloc _, ((KP1.out.grown g2 (by omega)).alloc _).alloc _, q1.alloc _, q2, (oA.alloc _).alloc _, (oB.alloc _).alloc _, (s2.alloc _).alloc _, grown_alloc (grown_alloc GA _) _, by omega, by omega, by omega, by omega, by omega, by omega, by omega, by omega, by omega, by omega, (fun e => by have := a2 _ e; omega), by omega, by omega, by omega, by omega, by omega, by omega, hnA, fun e => by have := a2 _ e; omega⟩)
  clear oA oB s2 g2 KR1 KP1 B1 S1 GA
  obtain ⟨rb, hrb⟩ : ∃ x, x = w2.heap.size := ⟨_, rfl⟩
  rw [← hrb] at HH
  have HRB := Lib.hid hrb
  obtain ⟨W2, hW2⟩ : ∃ W, W = (w2.alloc (.cells #[.int .i64 p, .int .i64 s, .bool st, .bool sk, .bool re, .bool fe, .bool ag, .int .i64 c, .int .i64 sl] 31)).alloc (.cells #[.slice (some ⟨gA, j, none⟩) (n - j) (cA - j), .slice A' n' c', .int .i64 pl] 28) := ⟨_, rfl⟩
  rw [← hW2] at HH
  have HW2 := Lib.hid hW2
  clear hW2 hrb
  obtain ⟨bs1, hbs1⟩ : ∃ x, x = w1.heap.size := ⟨_, rfl⟩
  rw [← hbs1] at HH a1
  have zb : w.heap.size ≤ bs1 := by omega
  clear hbs1
  rw [show (Value.agg (Ru.cells ⟨p, s, st, sk, re, fe, ag, c, sl⟩).toArray) = .agg #[.int .i64 p, .int .i64 s, .bool st, .bool sk, .bool re, .bool fe, .bool ag, .int .i64 c, .int .i64 sl] from rfl]
  go_upto_region 3 with fail
  rw [← HW2.out, ← HRB.out]
  have x2 := (pk_bd bs k2 d2 20 (by omega)).2.2
  obtain ⟨y0, y1, -⟩ := pk_bd bs k2 d2 20 (by omega)
  go_wp2_with fail
  refine (pick_any b A n0 c0 bs k2 d2 20 (by omega) (by omega) (by omega) _ (by exact HH.out.sr)).mono ?_
  rintro e w3 ⟨rfl, s3, g3⟩
  have H3 := Lib.hid (HH.out.pick s3 g3)
  clear s3 g3 HH HW2 HRB
  generalize (pk bs k2 d2 20).1 = q1 at *
  generalize (pk bs k2 d2 20).2.1 = k3 at *
  generalize (pk bs k2 d2 20).2.2 = d3 at *
  have x3 := (pk_bd bs k3 d3 20 (by omega)).2.2
  obtain ⟨y2, y3, -⟩ := pk_bd bs k3 d3 20 (by omega)
  go_wp2_with fail
  refine (pick_any b A n0 c0 bs k3 d3 20 (by omega) (by omega) (by omega) _ (by exact H3.out.sr)).mono ?_
  rintro e w4 ⟨rfl, s4, g4⟩
  have H4 := Lib.hid (H3.out.pick s4 g4)
  clear s4 g4 H3
  generalize (pk bs k3 d3 20).1 = q2 at *
  generalize (pk bs k3 d3 20).2.1 = k4 at *
  generalize (pk bs k3 d3 20).2.2 = d4 at *
  go_upto_region 4 with fail
  obtain ⟨q, hq⟩ : ∃ x, x = q1 / 9 - q2 / 19 := ⟨_, rfl⟩
  rw [← hq]
  clear hq
  have p1 := H4.out.kq.1.at_ 1 rfl
  by_cases hn' : n' = 2
  · subst hn'
    rcases H4.out.ob.form with ⟨_, e, _⟩ | ⟨gB, rfl, _, _⟩
    · omega
    obtain ⟨y0', y1', rfl⟩ : ∃ y0 y1, ys = [y0, y1] := by
      have hl := H4.out.ob.len
      match ys, hl with
      | [y0, y1], _ => exact ⟨y0, y1, rfl⟩
    obtain ⟨v, hv⟩ : ∃ v, decide ((pk bs k4 d4 3).1 = 0) = v := ⟨_, rfl⟩
    have HV := Lib.hid hv
    clear hv
    have x4 := (pk_bd bs k4 d4 3 (by omega)).2.2
    go_wp2_with fail
    refine (one_any b A n0 c0 bs k4 d4 3 (by omega) (by omega) (by omega) v HV.out _ (by exact H4.out.sr)).mono ?_
    rintro e w5 ⟨rfl, s5, g5⟩
    have H5 := Lib.hid (H4.out.pick s5 g5)
    clear s5 g5 H4 HV p1
    generalize (pk bs k4 d4 3).2.1 = k5 at *
    generalize (pk bs k4 d4 3).2.2 = d5 at *
    cases v
    · go_upto_region 6 with fail
      refine askReg6 w w5 b A n0 c0 bs k5 d5 w.heap.size (w.heap.size + 1) rb (rb + 1) bs1 p s st sk re fe ag c sl (some ⟨gA, j, none⟩) (n - j) (cA - j) pl gA n cA zs (some ⟨gB, 0, none⟩) 2 c' [y0', y1'] q (by exact H5.out) ?_
      intro u41 u42 u43 w9 hr9 hp9 oA oB g9
      go_wp2_with fail
      refine l09Ask_ret (g := w.heap.size) (g2 := w.heap.size + 1) (by rfl) (by rfl) (by rfl) (by rfl) (RuAt.ofHas hr9) hp9 ⟨⟨p, s, st, sk, re, fe, ag, c, sl⟩, gA, j, n, cA, _, _, _, _, _, _, _, rfl, hj, hn2, hn16, oA.lower zb, oB.lower zb, below_grownB g9 (by omega) (Nat.le_refl _)⟩
    · go_upto_region 5 with fail
      refine askReg5 w w5 b A n0 c0 bs k5 d5 w.heap.size (w.heap.size + 1) rb (rb + 1) bs1 p s st sk re fe ag c sl (some ⟨gA, j, none⟩) (n - j) (cA - j) gA n cA zs gB c' y0' y1' pl (by omega) (by exact H5.out) ?_
      intro u31 u32 u33 u34 u35 u36 u37 u38 u39 u40 ys2 k6 d6 w6 H6
      clear H5
      go_upto_region 6 with fail
      refine askReg6 w w6 b A n0 c0 bs k6 d6 w.heap.size (w.heap.size + 1) rb (rb + 1) bs1 p s st sk re fe ag c sl (some ⟨gA, j, none⟩) (n - j) (cA - j) pl gA n cA zs (some ⟨gB, 0, none⟩) 2 c' ys2 q (by exact H6) ?_
      intro u41 u42 u43 w9 hr9 hp9 oA oB g9
      go_wp2_with fail
      refine l09Ask_ret (g := w.heap.size) (g2 := w.heap.size + 1) (by rfl) (by rfl) (by rfl) (by rfl) (RuAt.ofHas hr9) hp9 ⟨⟨p, s, st, sk, re, fe, ag, c, sl⟩, gA, j, n, cA, _, _, _, _, _, _, _, rfl, hj, hn2, hn16, oA.lower zb, oB.lower zb, below_grownB g9 (by omega) (Nat.le_refl _)⟩
  have e1 : ¬ ((n' : Int) = 2) := by omega
  have e2 : ((n' : Int) == 2) = false := by simpa using e1
  go_upto_region 6 with fail
  refine askReg6 w w4 b A n0 c0 bs k4 d4 w.heap.size (w.heap.size + 1) rb (rb + 1) bs1 p s st sk re fe ag c sl (some ⟨gA, j, none⟩) (n - j) (cA - j) pl gA n cA zs A' n' c' ys q (by exact H4.out) ?_
  intro u41 u42 u43 w9 hr9 hp9 oA oB g9
  go_wp2_with fail
  refine l09Ask_ret (g := w.heap.size) (g2 := w.heap.size + 1) (by rfl) (by rfl) (by rfl) (by rfl) (RuAt.ofHas hr9) hp9 ⟨⟨p, s, st, sk, re, fe, ag, c, sl⟩, gA, j, n, cA, _, _, _, _, _, _, _, rfl, hj, hn2, hn16, oA.lower zb, oB.lower zb, below_grownB g9 (by omega) (Nat.le_refl _)⟩
theorem DrawGivePosition_ret {Post : Ending → World → Prop} {a : Act} {W : World} {g g2 : Nat} {p s : Int} {st sk re fe ag : Bool} {c sl : Int} {A A' : Option Addr} {n u n' u' : Nat} {pl q : Int} (ha : a.tmps.getD 2 undef = .pointer (some ⟨g, 0, none⟩)) (ha2 : a.tmps.getD 3 undef = .pointer (some ⟨g2, 0, none⟩)) (ha4 : a.tmps.getD 4 undef = .int .i64 q) (hd : a.defers = []) (hr : RuAt W g 0 ⟨p, s, st, sk, re, fe, ag, c, sl⟩) (hp : Has W g2 [.slice A n u, .slice A' n' u', .int .i64 pl]) (hP : Post (.returned (.tuple #[.agg #[.int .i64 p, .int .i64 s, .bool st, .bool sk, .bool re, .bool fe, .bool ag, .int .i64 c, .int .i64 sl], .agg #[.slice A n u, .slice A' n' u', .int .i64 pl], .int .i64 q])) W) : bodyPost Try.prog Try.f89 Post Exit.ret a W := by
  obtain ⟨c0, c1, c2, c3, c4, c5, c6, c7, c8⟩ := hr.flat
  have d0 := hp.at_ 0 rfl
  have d1 := hp.at_ 1 rfl
  have d2 := hp.at_ 2 rfl
  refine bodyPost_ret (v := .tuple #[.agg #[.int .i64 p, .int .i64 s, .bool st, .bool sk, .bool re, .bool fe, .bool ag, .int .i64 c, .int .i64 sl], .agg #[.slice A n u, .slice A' n' u', .int .i64 pl], .int .i64 q]) ?_ hd hP
  obtain ⟨tmps, defers⟩ := a
  simp only [Array.getD_eq_getD_getElem?] at ha ha2 ha4
  simp [results, Try.results89, go_sem, ha, ha2, ha4, c0, c1, c2, c3, c4, c5, c6, c7, c8, d0, d1, d2]
set_option maxRecDepth 100000 in
set_option maxHeartbeats 4000000 in
theorem DrawGivePosition_any (A : Option Addr) (n0 c0 : Nat) (bs : List Int) (w : World) (h : Bys w w.heap.size A n0 c0 bs) (hn0 : n0 ≤ 4096) : Calls Try.prog 89 #[.slice A n0 c0] w (RetAsk w) := by
  have bw : Below w.heap.size w ((w.alloc (.cells #[.int .i64 0, .int .i64 0, .bool false, .bool false, .bool false, .bool false, .bool false, .int .i64 0, .int .i64 0] 31)).alloc (.cells #[.slice none 0 0, .slice none 0 0, .int .i64 0] 28)) := (by repeat (first | with_reducible exact Below.refl _ _ | with_reducible assumption | with_reducible refine sub_alloc ?_ _ | (with_reducible refine sub_setCell2 ?_ ?_ _; (focus (first | (simp; done) | (simp <;> omega)))) | with_reducible refine sub_drew ?_ | with_reducible refine below_drewN ?_ _ | with_reducible refine sub_step (by assumption) ?_ (by first | rfl | (simp; done)) | exact Below.refl _ _ | assumption | refine sub_alloc ?_ _ | refine sub_setCell ?_ (by simp <;> omega) _ | refine sub_drew ?_ | refine below_drewN ?_ _ | refine sub_step (by assumption) ?_ (by first | rfl | (simp; done))))
  have H := Lib.hid (h.sub bw)
  have KR0 := Lib.hid ((OutAt.box w [.int .i64 0, .int .i64 0, .bool false, .bool false, .bool false, .bool false, .bool false, .int .i64 0, .int .i64 0] 31 w.heap.size rfl).alloc (.cells #[.slice none 0 0, .slice none 0 0, .int .i64 0] 28))
  have KP0 := Lib.hid (OutAt.box (w.alloc (.cells #[.int .i64 0, .int .i64 0, .bool false, .bool false, .bool false, .bool false, .bool false, .int .i64 0, .int .i64 0] 31)) [.slice none 0 0, .slice none 0 0, .int .i64 0] 28 (w.heap.size + 1) (by simp))
  have BW := Lib.hid bw
  have sz0 : ((w.alloc (.cells #[.int .i64 0, .int .i64 0, .bool false, .bool false, .bool false, .bool false, .bool false, .int .i64 0, .int .i64 0] 31)).alloc (.cells #[.slice none 0 0, .slice none 0 0, .int .i64 0] 28)).heap.size = w.heap.size + 2 := by simp
  have SZ0 := Lib.hid sz0
  clear h bw sz0
  go_enter Try.func89, Try.ntmps89
  go_wp2_with fail
  refine (l09Ask_any A n0 c0 bs _ (by exact H.out) hn0).mono ?_
  rintro e w1 ⟨r, gA, j, n, cA, zs, A', n', c', ys, pl, q, rfl, hj, hn2, hn16, oA, oB, b1⟩
  rw [SZ0.out] at oA oB
  obtain ⟨p, s, st, sk, re, fe, ag, c, sl⟩ := r
  have KR1 := KR0.out.sub b1
  have KP1 := KP0.out.sub b1
  have B1 := Lib.hid (BW.out.trans (b1.mono BW.out.size))
  have OA := Lib.hid oA
  have OB := Lib.hid oB
  have x0 := KR1.1.at_ 0 rfl
  have f0 := KR1.2 0
  have x1 := KR1.1.at_ 1 rfl
  have f1 := KR1.2 1
  have x2 := KR1.1.at_ 2 rfl
  have f2 := KR1.2 2
  have x3 := KR1.1.at_ 3 rfl
  have f3 := KR1.2 3
  have x4 := KR1.1.at_ 4 rfl
  have f4 := KR1.2 4
  have x5 := KR1.1.at_ 5 rfl
  have f5 := KR1.2 5
  have x6 := KR1.1.at_ 6 rfl
  have f6 := KR1.2 6
  have x7 := KR1.1.at_ 7 rfl
  have f7 := KR1.2 7
  have x8 := KR1.1.at_ 8 rfl
  have f8 := KR1.2 8
  have y0 := KP1.1.at_ 0 rfl
  have g0 := KP1.2 0
  have y1 := KP1.1.at_ 1 rfl
  have g1 := KP1.2 1
  have y2 := KP1.1.at_ 2 rfl
  have g2 := KP1.2 2
  have HR := Lib.hid ((((((((((KR1.set 0 (.int .i64 p) (by simp)).set 1 (.int .i64 s) (by simp)).set 2 (.bool st) (by simp)).set 3 (.bool sk) (by simp)).set 4 (.bool re) (by simp)).set 5 (.bool fe) (by simp)).set 6 (.bool ag) (by simp)).set 7 (.int .i64 c) (by simp)).set 8 (.int .i64 sl) (by simp)).1)
  have KP2 := OutAt.other (OutAt.other (OutAt.other (OutAt.other (OutAt.other (OutAt.other (OutAt.other (OutAt.other (OutAt.other KP1 ⟨w.heap.size, 0, none⟩ (by show ¬ (w.heap.size = w.heap.size + 1); omega) (.int .i64 p)) ⟨w.heap.size, 1, none⟩ (by show ¬ (w.heap.size = w.heap.size + 1); omega) (.int .i64 s)) ⟨w.heap.size, 2, none⟩ (by show ¬ (w.heap.size = w.heap.size + 1); omega) (.bool st)) ⟨w.heap.size, 3, none⟩ (by show ¬ (w.heap.size = w.heap.size + 1); omega) (.bool sk)) ⟨w.heap.size, 4, none⟩ (by show ¬ (w.heap.size = w.heap.size + 1); omega) (.bool re)) ⟨w.heap.size, 5, none⟩ (by show ¬ (w.heap.size = w.heap.size + 1); omega) (.bool fe)) ⟨w.heap.size, 6, none⟩ (by show ¬ (w.heap.size = w.heap.size + 1); omega) (.bool ag)) ⟨w.heap.size, 7, none⟩ (by show ¬ (w.heap.size = w.heap.size + 1); omega) (.int .i64 c)) ⟨w.heap.size, 8, none⟩ (by show ¬ (w.heap.size = w.heap.size + 1); omega) (.int .i64 sl)
  have HP := Lib.hid (((KP2.set 0 (.slice (some ⟨gA, j, none⟩) (n - j) (cA - j)) (by simp)).set 1 (.slice A' n' c') (by simp)).set 2 (.int .i64 pl) (by simp)).1
  clear KR1 KP1 KP2 b1 oA oB
  rw [show (Value.agg (Ru.cells ⟨p, s, st, sk, re, fe, ag, c, sl⟩).toArray) = .agg #[.int .i64 p, .int .i64 s, .bool st, .bool sk, .bool re, .bool fe, .bool ag, .int .i64 c, .int .i64 sl] from rfl]
  go_wp2_with fail
  refine DrawGivePosition_ret (g := w.heap.size) (g2 := w.heap.size + 1) (p := p) (s := s) (st := st) (sk := sk) (re := re) (fe := fe) (ag := ag) (c := c) (sl := sl) (A := some ⟨gA, j, none⟩) (n := n - j) (u := cA - j) (A' := A') (n' := n') (u' := c') (pl := pl) (q := q) (by rfl) (by rfl) (by rfl) (by rfl) (RuAt.ofHas ?_) ?_ ⟨⟨p, s, st, sk, re, fe, ag, c, sl⟩, gA, j, n, cA, zs, A', n', c', ys, pl, q, rfl, hj, hn2, hn16, ?_, ?_, ?_⟩
  · repeat (with_reducible refine Has.other ?_ _ (by show ¬ (w.heap.size + 1 = w.heap.size); omega) _)
    exact HR.out
  · exact HP.out
  · refine Own.lower (base := w.heap.size + 2) ?_ (by omega)
    repeat (with_reducible refine Own.setBelow ?_ (by simp <;> omega) _)
    exact OA.out
  · refine Own.lower (base := w.heap.size + 2) ?_ (by omega)
    repeat (with_reducible refine Own.setBelow ?_ (by simp <;> omega) _)
    exact OB.out
  · repeat (with_reducible refine sub_setCell2 (by simp) ?_ _)
    exact B1.out
end Go.Proofs.Ytnanaldolnehiaa
