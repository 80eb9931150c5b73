/-
  Positions in which players have taken seeds: words on memory for them.
-/
import Derived.Test.YtnanaldolnehiaaStart
import Derived.Test.YtnanaldolnehiaaOwnKit
import Derived.Test.YtnanaldolnehiaaSide2
import Derived.Deep.CutRange
import Derived.Deep.Cut
import Derived.Deep.RegionWith
import Derived.IntWalk
set_option linter.unusedSimpArgs false
set_option linter.unusedVariables false
namespace Go.Proofs.Ytnanaldolnehiaa
open Go.ChangeShapes Go.WideShapes Go.RowKit Go.Deep

/-- A list of noughts that is made just now. -/
theorem own_made (w : World) (base g n : Nat) (hb : base ≤ w.heap.size) (hg : g = w.heap.size) (hn : n ≤ 4294967296) : Own (w.alloc (.cells (madeCells #[.int .i64 0] n) 2)) base (some ⟨g, 0, none⟩) n n (List.replicate n 0) := by
  subst hg
  refine ⟨by simp, Nat.le_refl _, by omega, ?_⟩
  have := World.ownsRow_lit (base := base) (e := 2) (size := 1) w (madeCells #[.int .i64 0] n) n hb (by unfold maxLen; omega) (by rw [size_madeCells]; simp)
  rw [toList_madeCells_one] at this
  simpa using this
/-- A store into another block. -/
theorem Own.setNe {w : World} {base n c : Nat} {A : Option Addr} {zs : List Int} (h : Own w base A n c zs) {p : Addr} (hp : A ≠ some ⟨p.block, 0, none⟩) (u : Value) : Own (w.setCell p u) base A n c zs :=
  h.kept (row := some p.block) ⟨rfl, rfl, rfl, by simp, fun k hk hne => Below.heap_setCell w p u k (fun e => hne (by rw [e]))⟩ (fun g e => by injection e with e; subst e; exact .inr hp)
theorem Own.drew' {w : World} {base n c : Nat} {A : Option Addr} {zs : List Int} (h : Own w base A n c zs) : Own w.drew base A n c zs := h
theorem undrewG {w w' : World} (h : Below w.drew.heap.size w.drew w') : Below w.heap.size w w' := ⟨h.os, h.tape, h.output, h.size, h.block⟩
/-- A position's variable whose cells have been written. -/
theorem BoxAt.keepAlloc {w : World} {b : Nat} (h : BoxAt w b) (o : Obj) : BoxAt (w.alloc o) b := h.keep ((Below.refl _ _).alloc (Nat.le_refl _) o)
theorem box_new (w : World) (t : TypeId) : BoxAt (w.alloc (.cells #[.slice none 0 0, .slice none 0 0, .int .i64 0] t)) w.heap.size := newbox (Below.refl _ _)
theorem box_new' (w : World) (t : TypeId) (g : Nat) (hg : g = w.heap.size) : BoxAt (w.alloc (.cells #[.slice none 0 0, .slice none 0 0, .int .i64 0] t)) g := by subst hg; exact box_new w t
theorem pos_lit (w : World) (t : TypeId) (C : Option Addr) (n c : Nat) (C' : Option Addr) (n' c' : Nat) (pl : Int) (g : Nat) (hg : g = w.heap.size) : PosAt (w.alloc (.cells #[.slice C n c, .slice C' n' c', .int .i64 pl] t)) g 0 C n c C' n' c' pl ∧ ∀ i, (w.alloc (.cells #[.slice C n c, .slice C' n' c', .int .i64 pl] t)).frozen? ⟨g, i, none⟩ = false := by
  subst hg
  exact ⟨PosAt.box w t C n c C' n' c' pl, fun i => frozen_new w _ t i⟩
theorem frozen_lit (w : World) (cs : Array Value) (t : TypeId) (o : Obj) : ∀ i, ((w.alloc (.cells cs t)).alloc o).frozen? ⟨w.heap.size, i, none⟩ = false := fun i =>
  (((Below.refl _ _).alloc (Nat.le_refl _) o).frozen (p := ⟨w.heap.size, i, none⟩) (by simp)).trans (frozen_new w cs t i)
theorem frozen_set3 {w : World} {b : Nat} (h : BoxAt w b) (x y z : Value) (o : Obj) : ∀ i, ((((w.setCell ⟨b, 0, none⟩ x).setCell ⟨b, 1, none⟩ y).setCell ⟨b, 2, none⟩ z).alloc o).frozen? ⟨b, i, none⟩ = false := fun i =>
  (((Below.refl _ _).alloc (Nat.le_refl _) o).frozen (p := ⟨b, i, none⟩) (by simpa using h.1.lt)).trans (by simp only [World.frozen?_setCell]; exact h.2 i)
theorem wp_namedG {P : Program} {Q : Exit → Act → World → Prop} {a : Act} {w : World} {c : Code} (K : World → Prop) (hK : K w) (h : ∀ W, K W → c.wp P Q a W) : c.wp P Q a w := h w hK
theorem BoxAt.drewN {w : World} {b : Nat} (h : BoxAt w b) (k : Nat) : BoxAt (w.drewN k) b := h
theorem PosAt.other {w : World} {b o n c n' c' : Nat} {A A' : Option Addr} {pl : Int} (h : PosAt w b o A n c A' n' c' pl) (p : Addr) (hp : ¬ (p.block = b)) (u : Value) : PosAt (w.setCell p u) b o A n c A' n' c' pl := by
  obtain ⟨h0, h1, h2⟩ := h
  refine ⟨?_, ?_, ?_⟩
  · rw [World.cell?_setCell_other w p _ u (fun e => hp (by rw [e]))]; exact h0
  · rw [World.cell?_setCell_other w p _ u (fun e => hp (by rw [e]))]; exact h1
  · rw [World.cell?_setCell_other w p _ u (fun e => hp (by rw [e]))]; exact h2
theorem BoxAt.other {w : World} {b : Nat} (h : BoxAt w b) (p : Addr) (hp : ¬ (p.block = b)) (u : Value) : BoxAt (w.setCell p u) b :=
  ⟨h.1.other p hp u, fun i => by rw [World.frozen?_setCell]; exact h.2 i⟩
theorem addL_zero {n : Nat} : (List.replicate n (0 : Int)).length = n := by simp
theorem l09Give_ret {Post : Ending → World → Prop} {a : Act} {W : World} {g n c n' c' : Nat} {A A' : Option Addr} {pl : Int} (ha : a.tmps.getD 4 undef = .pointer (some ⟨g, 0, none⟩)) (hd : a.defers = []) (hr : PosAt W g 0 A n c A' n' c' pl) (hP : Post (.returned (.agg #[.slice A n c, .slice A' n' c', .int .i64 pl])) W) : bodyPost Try.prog Try.f100 Post Exit.ret a W := by
  obtain ⟨c0, c1, c2⟩ := hr.flat
  refine bodyPost_ret (v := .agg #[.slice A n c, .slice A' n' c', .int .i64 pl]) ?_ hd hP
  obtain ⟨tmps, defers⟩ := a
  simp only [Array.getD_eq_getD_getElem?] at ha
  simp [results, Try.results100, go_sem, ha, c0, c1, c2]
set_option maxRecDepth 100000 in
set_option maxHeartbeats 16000000 in
theorem l09Give_any (b o : Nat) (A A' : Option Addr) (n u u' : Nat) (xs : List Int) (x0 x1 pl q : Int) (w : World) (hp : PosAt w b o A n u A' 2 u' pl) (h : Ints w w.heap.size A n u xs) (h' : Ints w w.heap.size A' 2 u' [x0, x1]) (hn : n ≤ 4294967296) (z : sumL xs = xs.sum) (z0 : 0 ≤ xs.sum) (z1 : xs.sum ≤ 96) (g0 : 0 ≤ x0) (g1 : x0 ≤ 96) (g2 : 0 ≤ x1) (g3 : x1 ≤ 96) (y0 y1 : Int) (hy : Hid ((q = 0 ∧ x0 + xs.sum = y0 ∧ x1 = y1) ∨ (q = 1 ∧ x0 = y0 ∧ x1 + xs.sum = y1))) :
    Calls Try.prog 100 #[.pointer (some ⟨b, o, none⟩), .int .i64 q] w (RetPos w n 2 (List.replicate n 0) [y0, y1] pl) := by
  have hmk := run_make_row' (P := Try.prog) 24 2 (.int .i64 0) 8 Try.underlying24 info64 rfl .i64 .i64 n (by omega) (by omega)
  generalize hsm : xs.sum = sm at *
  have ZH := Lib.hid z
  clear z hsm
  have hlt := hp.lt
  have R0 := box_new w 28
  have P1 := hp.alloc (.cells #[.slice none 0 0, .slice none 0 0, .int .i64 0] 28)
  have hbW : Below w.heap.size w (w.alloc (.cells #[.slice none 0 0, .slice none 0 0, .int .i64 0] 28)) := (by repeat (first | with_reducible exact Below.refl _ _ | with_reducible assumption | with_reducible refine sub_alloc ?_ _ | (with_reducible refine sub_setCell2 ?_ ?_ _; (focus (first | (simp; done) | (simp <;> omega)))) | with_reducible refine sub_drew ?_ | with_reducible refine below_drewN ?_ _ | with_reducible refine sub_step (by assumption) ?_ (by first | rfl | (simp; done)) | exact Below.refl _ _ | assumption | refine sub_alloc ?_ _ | refine sub_setCell ?_ (by simp <;> omega) _ | refine sub_drew ?_ | refine below_drewN ?_ _ | refine sub_step (by assumption) ?_ (by first | rfl | (simp; done))))
  obtain ⟨W, hW⟩ : ∃ W, W = (w.alloc (.cells #[.slice none 0 0, .slice none 0 0, .int .i64 0] 28)) := ⟨_, rfl⟩
  have HH := Lib.hid (h.sub hbW)
  have HH' := Lib.hid (h'.sub hbW)
  rw [← hW] at P1 HH HH' hbW R0
  have lW : b < W.heap.size := P1.lt
  clear h h' hp
  obtain ⟨d0, d1, d2⟩ := P1
  have P1 : PosAt W b o A n u A' 2 u' pl := ⟨d0, d1, d2⟩
  go_enter Try.func100, Try.ntmps100
  go_wp2_with fail
  rw [← hW]
  have HW := Lib.hid hW
  clear hW
  go_cut [5] from 6 to 21 (fun sa wr => ∃ v C c C' c', sa = .pointer (some ⟨v, 0, none⟩) ∧ W.heap.size ≤ v ∧ PosAt wr v 0 C n c C' 2 c' pl ∧ (∀ i, wr.frozen? ⟨v, i, none⟩ = false) ∧ Own wr W.heap.size C n c (List.replicate n 0) ∧ Own wr W.heap.size C' 2 c' [x0, x1] ∧ Apart C C' ∧ C ≠ some ⟨v, 0, none⟩ ∧ C' ≠ some ⟨v, 0, none⟩ ∧ Below W.heap.size W wr)
  case first =>
    have n1 : ¬ (W.heap.size = b) := by omega
    have n2 : ¬ (W.heap.size + 1 = b) := by omega
    go_region_held3 (fun w' => w'.cell? ⟨b, o, none⟩ = some (.slice A n u) ∧ w'.cell? ⟨b, o + 1, none⟩ = some (.slice A' 2 u') ∧ w'.cell? ⟨b, o + 2, none⟩ = some (.int .i64 pl)) (first | (refine ⟨?_, ?_, ?_⟩ <;> assumption) | go_keep) (first
      | (go_at_call 154; refine (l00Own_any _ _ _ _ [x0, x1] _ (by exact HH'.out.sub (by repeat (first | with_reducible exact Below.refl _ _ | with_reducible assumption | with_reducible refine sub_alloc ?_ _ | (with_reducible refine sub_setCell2 ?_ ?_ _; (focus (first | (simp; done) | (simp <;> omega)))) | with_reducible refine sub_drew ?_ | with_reducible refine below_drewN ?_ _ | with_reducible refine sub_step (by assumption) ?_ (by first | rfl | (simp; done)) | exact Below.refl _ _ | assumption | refine sub_alloc ?_ _ | refine sub_setCell ?_ (by simp <;> omega) _ | refine sub_drew ?_ | refine below_drewN ?_ _ | refine sub_step (by assumption) ?_ (by first | rfl | (simp; done))))) (by omega) (Nat.le_refl _)).mono ?_; rintro e w1 ⟨C1, u1, rfl, ho1, hb1⟩; have hb1 := undrewG hb1; have hoL : Own w1 W.heap.size C1 2 u1 [x0, x1] := ho1.lower (by first | exact Nat.le_refl _ | (simp; done) | (simp; omega)); have B1 : Below W.heap.size W w1 := (by repeat (first | with_reducible exact Below.refl _ _ | with_reducible assumption | with_reducible refine sub_alloc ?_ _ | (with_reducible refine sub_setCell2 ?_ ?_ _; (focus (first | (simp; done) | (simp <;> omega)))) | with_reducible refine sub_drew ?_ | with_reducible refine below_drewN ?_ _ | with_reducible refine sub_step (by assumption) ?_ (by first | rfl | (simp; done)) | exact Below.refl _ _ | assumption | refine sub_alloc ?_ _ | refine sub_setCell ?_ (by simp <;> omega) _ | refine sub_drew ?_ | refine below_drewN ?_ _ | refine sub_step (by assumption) ?_ (by first | rfl | (simp; done)))); have Y1 := P1.below B1 lW; obtain ⟨y0, y1, y2⟩ := Y1; have zx := B1.size; have n3 : ¬ (w1.heap.size = b) := (by omega); have n4 : ¬ (w1.heap.size + 1 = b) := (by omega); have zz := B1.size; have zy := hb1.size; (try simp only [World.heap_size_alloc', World.heap_size_drew] at zy); (try have ZM : Own w1 W.heap.size (some ⟨W.heap.size, 0, none⟩) n n (List.replicate n 0) := (by refine Own.below ?_ hb1 (Nat.le_refl _); (first | exact own_made _ _ _ _ (Nat.le_refl _) rfl hn | exact Own.alloc (own_made _ _ _ _ (Nat.le_refl _) rfl hn) _))); (try have ZM : Own w1 W.heap.size (some ⟨W.heap.size + 1, 0, none⟩) n n (List.replicate n 0) := Own.below (own_made (W.alloc (.cells #[.slice none 0 0, .slice none 0 0, .int .i64 0] 28)) W.heap.size (W.heap.size + 1) n (by simp) (by simp) hn) hb1 (Nat.le_refl _)); (try have NB : BoxAt w1 W.heap.size := (by refine BoxAt.keep ?_ hb1; (first | exact box_new _ _ | exact BoxAt.keepAlloc (box_new _ _) _))); (try have NB : BoxAt w1 (W.heap.size + 1) := BoxAt.keep (box_new' (W.alloc (.cells (madeCells #[.int .i64 0] n) 2)) _ (W.heap.size + 1) (by simp)) hb1); (try (have zn := NB.1.lt)); (try have n5 : ¬ (w1.heap.size = W.heap.size) := (by omega)); (try have n6 : ¬ (w1.heap.size = W.heap.size + 1) := (by omega)); (try (obtain ⟨f0, f1, f2, f3, f4, f5⟩ := NB.flat))))
    · go_wp2_with fail
      go_meet
      exact ⟨w1.heap.size, some ⟨W.heap.size, 0, none⟩, n, C1, u1, rfl, B1.size, PosAt.box _ _ _ _ _ _ _ _ _, (pos_lit _ _ _ _ _ _ _ _ _ _ rfl).2, ZM.alloc _, hoL.alloc _, (fun g' e' => by cases e'; exact own_ge ho1 (by simp <;> omega)), (by have := hb1.size; simp at this ⊢; omega), own_lt ho1 (Nat.le_refl _), (by repeat (first | with_reducible exact Below.refl _ _ | with_reducible assumption | with_reducible refine sub_alloc ?_ _ | (with_reducible refine sub_setCell2 ?_ ?_ _; (focus (first | (simp; done) | (simp <;> omega)))) | with_reducible refine sub_drew ?_ | with_reducible refine below_drewN ?_ _ | with_reducible refine sub_step (by assumption) ?_ (by first | rfl | (simp; done)) | exact Below.refl _ _ | assumption | refine sub_alloc ?_ _ | refine sub_setCell ?_ (by simp <;> omega) _ | refine sub_drew ?_ | refine below_drewN ?_ _ | refine sub_step (by assumption) ?_ (by first | rfl | (simp; done))))⟩
    · go_wp2_with fail
      go_meet
      exact ⟨W.heap.size + 1, some ⟨W.heap.size, 0, none⟩, n, C1, u1, rfl, Nat.le_succ _, BoxAt.set NB _ _ _ _ _ _ _, (fun i => by simp only [World.frozen?_setCell]; exact NB.2 i), ((ZM.setNe (by simp) _).setNe (by simp) _).setNe (by simp) _, ((hoL.setNe (own_ge ho1 (by simp <;> omega)) _).setNe (own_ge ho1 (by simp <;> omega)) _).setNe (own_ge ho1 (by simp <;> omega)) _, (fun g' e' => by cases e'; exact own_ge ho1 (by simp <;> omega)), (by simp), own_ge ho1 (by simp <;> omega), (by repeat (first | with_reducible exact Below.refl _ _ | with_reducible assumption | with_reducible refine sub_alloc ?_ _ | (with_reducible refine sub_setCell2 ?_ ?_ _; (focus (first | (simp; done) | (simp <;> omega)))) | with_reducible refine sub_drew ?_ | with_reducible refine below_drewN ?_ _ | with_reducible refine sub_step (by assumption) ?_ (by first | rfl | (simp; done)) | exact Below.refl _ _ | assumption | refine sub_alloc ?_ _ | refine sub_setCell ?_ (by simp <;> omega) _ | refine sub_drew ?_ | refine below_drewN ?_ _ | refine sub_step (by assumption) ?_ (by first | rfl | (simp; done))))⟩
    · go_wp2_with fail
      go_meet
      exact ⟨w1.heap.size + 1, some ⟨w1.heap.size, 0, none⟩, n, C1, u1, rfl, (by omega), (pos_lit _ _ _ _ _ _ _ _ _ _ (by simp)).1, (pos_lit _ _ _ _ _ _ _ _ _ _ (by simp)).2, (own_made w1 W.heap.size w1.heap.size n zx rfl hn).alloc _, (hoL.alloc _).alloc _, (fun g' e' => by cases e'; exact own_lt ho1 (Nat.le_refl _)), (by simp), own_lt ho1 (by omega), (by repeat (first | with_reducible exact Below.refl _ _ | with_reducible assumption | with_reducible refine sub_alloc ?_ _ | (with_reducible refine sub_setCell2 ?_ ?_ _; (focus (first | (simp; done) | (simp <;> omega)))) | with_reducible refine sub_drew ?_ | with_reducible refine below_drewN ?_ _ | with_reducible refine sub_step (by assumption) ?_ (by first | rfl | (simp; done)) | exact Below.refl _ _ | assumption | refine sub_alloc ?_ _ | refine sub_setCell ?_ (by simp <;> omega) _ | refine sub_drew ?_ | refine below_drewN ?_ _ | refine sub_step (by assumption) ?_ (by first | rfl | (simp; done))))⟩
    · go_wp2_with fail
      go_meet
      exact ⟨w1.heap.size, some ⟨w1.heap.size + 1, 0, none⟩, n, C1, u1, rfl, zx, (PosAt.box _ _ _ _ _ _ _ _ _).alloc _, frozen_lit _ _ _ _, own_made _ W.heap.size (w1.heap.size + 1) n (by simp; omega) (by simp) hn, (hoL.alloc _).alloc _, (fun g' e' => by cases e'; exact own_lt ho1 (by omega)), (by simp), own_lt ho1 (Nat.le_refl _), (by repeat (first | with_reducible exact Below.refl _ _ | with_reducible assumption | with_reducible refine sub_alloc ?_ _ | (with_reducible refine sub_setCell2 ?_ ?_ _; (focus (first | (simp; done) | (simp <;> omega)))) | with_reducible refine sub_drew ?_ | with_reducible refine below_drewN ?_ _ | with_reducible refine sub_step (by assumption) ?_ (by first | rfl | (simp; done)) | exact Below.refl _ _ | assumption | refine sub_alloc ?_ _ | refine sub_setCell ?_ (by simp <;> omega) _ | refine sub_drew ?_ | refine below_drewN ?_ _ | refine sub_step (by assumption) ?_ (by first | rfl | (simp; done))))⟩
    · go_wp2_with fail
      go_meet
      exact ⟨W.heap.size, some ⟨W.heap.size + 1, 0, none⟩, n, C1, u1, rfl, Nat.le_refl _, BoxAt.set NB _ _ _ _ _ _ _, (fun i => by simp only [World.frozen?_setCell]; exact NB.2 i), ((ZM.setNe (by simp) _).setNe (by simp) _).setNe (by simp) _, ((hoL.setNe (own_ge ho1 (by simp <;> omega)) _).setNe (own_ge ho1 (by simp <;> omega)) _).setNe (own_ge ho1 (by simp <;> omega)) _, (fun g' e' => by cases e'; exact own_ge ho1 (by simp <;> omega)), (by simp), own_ge ho1 (by simp <;> omega), (by repeat (first | with_reducible exact Below.refl _ _ | with_reducible assumption | with_reducible refine sub_alloc ?_ _ | (with_reducible refine sub_setCell2 ?_ ?_ _; (focus (first | (simp; done) | (simp <;> omega)))) | with_reducible refine sub_drew ?_ | with_reducible refine below_drewN ?_ _ | with_reducible refine sub_step (by assumption) ?_ (by first | rfl | (simp; done)) | exact Below.refl _ _ | assumption | refine sub_alloc ?_ _ | refine sub_setCell ?_ (by simp <;> omega) _ | refine sub_drew ?_ | refine below_drewN ?_ _ | refine sub_step (by assumption) ?_ (by first | rfl | (simp; done))))⟩
    · go_wp2_with fail
      go_meet
      exact ⟨W.heap.size, some ⟨w1.heap.size, 0, none⟩, n, C1, u1, rfl, Nat.le_refl _, (BoxAt.set NB _ _ _ _ _ _ _).alloc _, frozen_set3 NB _ _ _ _, own_made _ W.heap.size w1.heap.size n (by simp; omega) (by simp) hn, (((hoL.setNe (own_ge ho1 (by simp <;> omega)) _).setNe (own_ge ho1 (by simp <;> omega)) _).setNe (own_ge ho1 (by simp <;> omega)) _).alloc _, (fun g' e' => by cases e'; exact own_lt ho1 (Nat.le_refl _)), (by simp <;> omega), own_ge ho1 (by simp <;> omega), (by repeat (first | with_reducible exact Below.refl _ _ | with_reducible assumption | with_reducible refine sub_alloc ?_ _ | (with_reducible refine sub_setCell2 ?_ ?_ _; (focus (first | (simp; done) | (simp <;> omega)))) | with_reducible refine sub_drew ?_ | with_reducible refine below_drewN ?_ _ | with_reducible refine sub_step (by assumption) ?_ (by first | rfl | (simp; done)) | exact Below.refl _ _ | assumption | refine sub_alloc ?_ _ | refine sub_setCell ?_ (by simp <;> omega) _ | refine sub_drew ?_ | refine below_drewN ?_ _ | refine sub_step (by assumption) ?_ (by first | rfl | (simp; done))))⟩
  case rest =>
    obtain ⟨v, C, cc, C', cc', rfl, hv, PX, FX, OZ, OC, AP, NZ, NC, BX⟩ := hcut
    obtain ⟨wA, hnew⟩ : ∃ x, x = wc := ⟨_, rfl⟩
    subst hnew
    rcases OC.form with ⟨_, h9, _⟩ | ⟨gg, rfl, hg1, hg2⟩
    · omega
    have k0 := OC.cell (k := 0) rfl
    have k1 := OC.cell (k := 1) rfl
    have fr0 := OC.free 0
    have fr1 := OC.free 1
    have m1 : ¬ (gg = v) := fun e => NC (by rw [e])
    have m2 : ¬ (v = gg) := fun e => m1 e.symm
    have m3 : ¬ (gg = b) := by omega
    have m4 : ¬ (b = gg) := by omega
    have RX := Lib.hid (R0.keep BX)
    have lR := R0.1.lt
    have lV := PX.lt
    have m5 : ¬ (gg = w.heap.size) := by have := hbW.size; omega
    have m6 : ¬ (v = w.heap.size) := by omega
    obtain ⟨p0, p1, p2⟩ := PX.flat
    have Y1 := P1.below BX lW
    obtain ⟨y0', y1', y2'⟩ := Y1
    have HZ := Lib.hid OZ
    have HC := Lib.hid OC
    have HP := Lib.hid PX
    have HB := Lib.hid BX
    have HI := Lib.hid (HH.out.sub BX)
    have HF := Lib.hid FX
    clear OZ OC PX BX FX hmk d0 d1 d2 R0
    rcases hy.out with ⟨rfl, rfl, rfl⟩ | ⟨rfl, rfl, rfl⟩
    · have WR : IntKind.i64.wrap (x0 + sm) = x0 + sm := IntWalk.i64_in _ (by omega)
      go_wp2_with fail
      go_region_with ((go_at_call 138; refine (l04Sum_is _ _ _ _ xs _ ZH.out _ (by exact HI.out) hn).mono ?_; rintro e w2 ⟨rfl, m7, rfl⟩))
      all_goals
        go_upto_region 3 with fail
        refine wp_namedG (fun w' => BoxAt w' w.heap.size ∧ PosAt w' v 0 C n cc (some ⟨gg, 0, none⟩) 2 cc' pl ∧ Own w' W.heap.size C n cc (List.replicate n 0) ∧ Own w' W.heap.size (some ⟨gg, 0, none⟩) 2 cc' [x0 + sm, x1] ∧ Below W.heap.size W w') ?_ ?_
        · exact ⟨BoxAt.other (BoxAt.drewN RX.out _) _ m5 _, PosAt.other (PosAt.drewN HP.out _) _ m1 _, Own.setNe (HZ.out.drewN _) (fun e => AP gg e rfl) _, ((HC.out.drewN _).stored 0 _).1, (below_drewN HB.out _).setCell (by exact hg1) _⟩
        rintro W2 ⟨q1, q2, q3, q4, q5⟩
        obtain ⟨f0, f1, f2, f3, f4, f5⟩ := q1.flat
        obtain ⟨p0, p1, p2⟩ := q2.flat
        clear k0 k1 fr0 fr1
        go_wp2_with fail
        refine l09Give_ret (g := w.heap.size) (by rfl) (by rfl) (q1.set C n cc (some ⟨gg, 0, none⟩) 2 cc' pl) ⟨C, cc, some ⟨gg, 0, none⟩, cc', rfl, (((q3.setBelow lR _).setBelow lR _).setBelow lR _).lower hbW.size, (((q4.setBelow lR _).setBelow lR _).setBelow lR _).lower hbW.size, AP, ?_⟩
        have b9 := hbW.trans (q5.mono hbW.size)
        exact ((b9.setCell (Nat.le_refl _) _).setCell (Nat.le_refl _) _).setCell (Nat.le_refl _) _
    · have WR : IntKind.i64.wrap (x1 + sm) = x1 + sm := IntWalk.i64_in _ (by omega)
      go_wp2_with fail
      go_region_with ((go_at_call 138; refine (l04Sum_is _ _ _ _ xs _ ZH.out _ (by exact HI.out) hn).mono ?_; rintro e w2 ⟨rfl, m7, rfl⟩))
      all_goals
        go_upto_region 3 with fail
        refine wp_namedG (fun w' => BoxAt w' w.heap.size ∧ PosAt w' v 0 C n cc (some ⟨gg, 0, none⟩) 2 cc' pl ∧ Own w' W.heap.size C n cc (List.replicate n 0) ∧ Own w' W.heap.size (some ⟨gg, 0, none⟩) 2 cc' [x0, x1 + sm] ∧ Below W.heap.size W w') ?_ ?_
        · exact ⟨BoxAt.other (BoxAt.drewN RX.out _) _ m5 _, PosAt.other (PosAt.drewN HP.out _) _ m1 _, Own.setNe (HZ.out.drewN _) (fun e => AP gg e rfl) _, ((HC.out.drewN _).stored 1 _).1, (below_drewN HB.out _).setCell (by exact hg1) _⟩
        rintro W2 ⟨q1, q2, q3, q4, q5⟩
        obtain ⟨f0, f1, f2, f3, f4, f5⟩ := q1.flat
        obtain ⟨p0, p1, p2⟩ := q2.flat
        clear k0 k1 fr0 fr1
        go_wp2_with fail
        refine l09Give_ret (g := w.heap.size) (by rfl) (by rfl) (q1.set C n cc (some ⟨gg, 0, none⟩) 2 cc' pl) ⟨C, cc, some ⟨gg, 0, none⟩, cc', rfl, (((q3.setBelow lR _).setBelow lR _).setBelow lR _).lower hbW.size, (((q4.setBelow lR _).setBelow lR _).setBelow lR _).lower hbW.size, AP, ?_⟩
        have b9 := hbW.trans (q5.mono hbW.size)
        exact ((b9.setCell (Nat.le_refl _) _).setCell (Nat.le_refl _) _).setCell (Nat.le_refl _) _

end Go.Proofs.Ytnanaldolnehiaa
