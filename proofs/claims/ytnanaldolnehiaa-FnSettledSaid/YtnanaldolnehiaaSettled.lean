/-
  A position in which both players have taken their seeds: settled.
-/
import Derived.Test.YtnanaldolnehiaaSettle
import Derived.Deep.RegionHeld3
set_option linter.unusedSimpArgs false
set_option linter.unusedVariables false
namespace Go.Proofs.Ytnanaldolnehiaa
open Go.ChangeShapes Go.WideShapes Go.RowKit Go.Deep

theorem settled_ret {Post : Ending → World → Prop} {a : Act} {W : World} {g n c n' c' : Nat} {A A' : Option Addr} {pl : Int} (ha : a.tmps.getD 4 undef = .pointer (some ⟨g, 0, none⟩)) (hd : a.defers = []) (hr : PosAt W g 0 A n c A' n' c' pl) (hP : Post (.returned (.agg #[.slice A n c, .slice A' n' c', .int .i64 pl])) W) : bodyPost Try.prog Try.f105 Post Exit.ret a W := by
  obtain ⟨c0, c1, c2⟩ := hr.flat
  refine bodyPost_ret (v := .agg #[.slice A n c, .slice A' n' c', .int .i64 pl]) ?_ hd hP
  obtain ⟨tmps, defers⟩ := a
  simp only [Array.getD_eq_getD_getElem?] at ha
  simp [results, Try.results105, go_sem, ha, c0, c1, c2]
set_option maxRecDepth 100000 in
set_option maxHeartbeats 16000000 in
theorem settled_any (p s : Int) (st sk re fe ag : Bool) (c sl : Int) (A A' : Option Addr) (n u u' : Nat) (xs : List Int) (x0 x1 pl  s0 s1 : Int) (w : World) (h : Ints w w.heap.size A n u xs) (h' : Ints w w.heap.size A' 2 u' [x0, x1]) (hn : n ≤ 4294967296) (hq : (n : Int) = 2 * p) (q0 : 2 ≤ p) (q1 : p ≤ 8) (hk : okN xs = true) (hs0 : sideV p xs 0 = s0) (hs1 : sideV p xs 1 = s1) (b0 : 0 ≤ s0) (b1 : 0 ≤ s1) (b2 : s0 + s1 ≤ 96) (g0 : 0 ≤ x0) (g1 : x0 ≤ 96) (g2 : 0 ≤ x1) (g3 : x1 ≤ 96) :
    Calls Try.prog 105 #[.agg #[.int .i64 p, .int .i64 s, .bool st, .bool sk, .bool re, .bool fe, .bool ag, .int .i64 c, .int .i64 sl], .agg #[.slice A n u, .slice A' 2 u', .int .i64 pl]] w (RetPos w n 2 (List.replicate n 0) [x0 + s0, x1 + s1] pl) := by
  have hmk := run_make_row' (P := Try.prog) 24 2 (.int .i64 0) 8 Try.underlying24 info64 rfl .i64 .i64 n (by omega) (by omega)
  have HS0 := Lib.hid hs0
  have HS1 := Lib.hid hs1
  have HK := Lib.hid hk
  have HQ := Lib.hid hq
  clear hs0 hs1 hk hq
  have P0 := ((RuAt.box w 31 p s st sk re fe ag c sl).alloc (.cells #[.slice A n u, .slice A' 2 u', .int .i64 pl] 28)).alloc (.cells #[.slice none 0 0, .slice none 0 0, .int .i64 0] 28)
  have P1 := (PosAt.box (w.alloc (.cells #[.int .i64 p, .int .i64 s, .bool st, .bool sk, .bool re, .bool fe, .bool ag, .int .i64 c, .int .i64 sl] 31)) 28 A n u A' 2 u' pl).alloc (.cells #[.slice none 0 0, .slice none 0 0, .int .i64 0] 28)
  have R0 := box_new' ((w.alloc (.cells #[.int .i64 p, .int .i64 s, .bool st, .bool sk, .bool re, .bool fe, .bool ag, .int .i64 c, .int .i64 sl] 31)).alloc (.cells #[.slice A n u, .slice A' 2 u', .int .i64 pl] 28)) 28 (w.heap.size + 2) (by simp)
  have hs1' : (w.alloc (.cells #[.int .i64 p, .int .i64 s, .bool st, .bool sk, .bool re, .bool fe, .bool ag, .int .i64 c, .int .i64 sl] 31)).heap.size = w.heap.size + 1 := by simp
  rw [hs1'] at P1
  clear hs1'
  have hbW : Below w.heap.size w (((w.alloc (.cells #[.int .i64 p, .int .i64 s, .bool st, .bool sk, .bool re, .bool fe, .bool ag, .int .i64 c, .int .i64 sl] 31)).alloc (.cells #[.slice A n u, .slice A' 2 u', .int .i64 pl] 28)).alloc (.cells #[.slice none 0 0, .slice none 0 0, .int .i64 0] 28)) := (by repeat (first | with_reducible exact Below.refl _ _ | with_reducible assumption | with_reducible refine sub_alloc ?_ _ | (with_reducible refine sub_setCell2 ?_ ?_ _; (focus (first | (simp; done) | (simp <;> omega)))) | with_reducible refine sub_drew ?_ | with_reducible refine below_drewN ?_ _ | with_reducible refine sub_step (by assumption) ?_ (by first | rfl | (simp; done)) | exact Below.refl _ _ | assumption | refine sub_alloc ?_ _ | refine sub_setCell ?_ (by simp <;> omega) _ | refine sub_drew ?_ | refine below_drewN ?_ _ | refine sub_step (by assumption) ?_ (by first | rfl | (simp; done))))
  have hsz : (((w.alloc (.cells #[.int .i64 p, .int .i64 s, .bool st, .bool sk, .bool re, .bool fe, .bool ag, .int .i64 c, .int .i64 sl] 31)).alloc (.cells #[.slice A n u, .slice A' 2 u', .int .i64 pl] 28)).alloc (.cells #[.slice none 0 0, .slice none 0 0, .int .i64 0] 28)).heap.size = w.heap.size + 3 := by simp
  obtain ⟨W, hW⟩ : ∃ W, W = (((w.alloc (.cells #[.int .i64 p, .int .i64 s, .bool st, .bool sk, .bool re, .bool fe, .bool ag, .int .i64 c, .int .i64 sl] 31)).alloc (.cells #[.slice A n u, .slice A' 2 u', .int .i64 pl] 28)).alloc (.cells #[.slice none 0 0, .slice none 0 0, .int .i64 0] 28)) := ⟨_, rfl⟩
  have HH := Lib.hid (h.sub hbW)
  have HH' := Lib.hid (h'.sub hbW)
  rw [← hW] at P0 P1 HH HH' hbW R0 hsz
  have lW0 : w.heap.size < W.heap.size := by omega
  have lW : w.heap.size + 1 < W.heap.size := by omega
  have lW2 : w.heap.size + 3 ≤ W.heap.size := by omega
  clear h h' hsz
  have HP0 := Lib.hid P0
  have lW3 : w.heap.size + 2 < W.heap.size := by omega
  obtain ⟨d0, d1, d2⟩ := P1.flat
  go_enter Try.func105, Try.ntmps105
  go_wp2_with fail
  rw [← hW]
  have HW := Lib.hid hW
  clear hW
  go_cut [5] from 7 to 16 (fun sa wr => ∃ v C c C' c', sa = .pointer (some ⟨v, 0, none⟩) ∧ W.heap.size ≤ v ∧ PosAt wr v 0 C n c C' 2 c' pl ∧ (∀ i, wr.frozen? ⟨v, i, none⟩ = false) ∧ Own wr W.heap.size C n c (List.replicate n 0) ∧ Own wr W.heap.size C' 2 c' [x0, x1] ∧ Apart C C' ∧ C ≠ some ⟨v, 0, none⟩ ∧ C' ≠ some ⟨v, 0, none⟩ ∧ Below W.heap.size W wr)
  case first =>
    have n1 : ¬ (W.heap.size = w.heap.size + 1) := by omega
    have n2 : ¬ (W.heap.size = w.heap.size) := by omega
    go_region_held3 (fun w' => w'.cell? ⟨w.heap.size + 1, 0, none⟩ = some (.slice A n u) ∧ w'.cell? ⟨w.heap.size + 1, 1, none⟩ = some (.slice A' 2 u') ∧ w'.cell? ⟨w.heap.size + 1, 2, none⟩ = some (.int .i64 pl)) (first | (refine ⟨?_, ?_, ?_⟩ <;> assumption) | go_keep) (first
      | (go_at_call 155; refine (copyNumbers_any _ _ _ _ [x0, x1] _ (by exact HH'.out.sub (by repeat (first | with_reducible exact Below.refl _ _ | with_reducible assumption | with_reducible refine sub_alloc ?_ _ | (with_reducible refine sub_setCell2 ?_ ?_ _; (focus (first | (simp; done) | (simp <;> omega)))) | with_reducible refine sub_drew ?_ | with_reducible refine below_drewN ?_ _ | with_reducible refine sub_step (by assumption) ?_ (by first | rfl | (simp; done)) | exact Below.refl _ _ | assumption | refine sub_alloc ?_ _ | refine sub_setCell ?_ (by simp <;> omega) _ | refine sub_drew ?_ | refine below_drewN ?_ _ | refine sub_step (by assumption) ?_ (by first | rfl | (simp; done))))) (by omega) (Nat.le_refl _)).mono ?_; rintro e w1 ⟨C1, u1, rfl, ho1, hb1⟩; have hb1 := undrewG hb1; have hoL : Own w1 W.heap.size C1 2 u1 [x0, x1] := ho1.lower (by first | exact Nat.le_refl _ | (simp; done) | (simp; omega)); have B1 : Below W.heap.size W w1 := (by repeat (first | with_reducible exact Below.refl _ _ | with_reducible assumption | with_reducible refine sub_alloc ?_ _ | (with_reducible refine sub_setCell2 ?_ ?_ _; (focus (first | (simp; done) | (simp <;> omega)))) | with_reducible refine sub_drew ?_ | with_reducible refine below_drewN ?_ _ | with_reducible refine sub_step (by assumption) ?_ (by first | rfl | (simp; done)) | exact Below.refl _ _ | assumption | refine sub_alloc ?_ _ | refine sub_setCell ?_ (by simp <;> omega) _ | refine sub_drew ?_ | refine below_drewN ?_ _ | refine sub_step (by assumption) ?_ (by first | rfl | (simp; done)))); have Y1 := P1.below B1 lW; obtain ⟨y0, y1, y2⟩ := Y1.flat; have zx := B1.size; have n3 : ¬ (w1.heap.size = w.heap.size + 1) := (by omega); have n4 : ¬ (w1.heap.size = w.heap.size) := (by omega); have zz := B1.size; have zy := hb1.size; (try simp only [World.heap_size_alloc', World.heap_size_drew] at zy); (try have ZM : Own w1 W.heap.size (some ⟨W.heap.size, 0, none⟩) n n (List.replicate n 0) := (by refine Own.below ?_ hb1 (Nat.le_refl _); (first | exact own_made _ _ _ _ (Nat.le_refl _) rfl hn | exact Own.alloc (own_made _ _ _ _ (Nat.le_refl _) rfl hn) _))); (try have ZM : Own w1 W.heap.size (some ⟨W.heap.size + 1, 0, none⟩) n n (List.replicate n 0) := Own.below (own_made (W.alloc (.cells #[.slice none 0 0, .slice none 0 0, .int .i64 0] 28)) W.heap.size (W.heap.size + 1) n (by simp) (by simp) hn) hb1 (Nat.le_refl _)); (try have NB : BoxAt w1 W.heap.size := (by refine BoxAt.keep ?_ hb1; (first | exact box_new _ _ | exact BoxAt.keepAlloc (box_new _ _) _))); (try have NB : BoxAt w1 (W.heap.size + 1) := BoxAt.keep (box_new' (W.alloc (.cells (madeCells #[.int .i64 0] n) 2)) _ (W.heap.size + 1) (by simp)) hb1); (try (have zn := NB.1.lt)); (try have n5 : ¬ (w1.heap.size = W.heap.size) := (by omega)); (try have n6 : ¬ (w1.heap.size = W.heap.size + 1) := (by omega)); (try (obtain ⟨f0, f1, f2, f3, f4, f5⟩ := NB.flat))))
    · go_wp2_with fail
      go_meet
      exact ⟨w1.heap.size, some ⟨W.heap.size, 0, none⟩, n, C1, u1, rfl, B1.size, PosAt.box _ _ _ _ _ _ _ _ _, (pos_lit _ _ _ _ _ _ _ _ _ _ rfl).2, ZM.alloc _, hoL.alloc _, (fun g' e' => by cases e'; exact own_ge ho1 (by simp <;> omega)), (by have := hb1.size; simp at this ⊢; omega), own_lt ho1 (Nat.le_refl _), (by repeat (first | with_reducible exact Below.refl _ _ | with_reducible assumption | with_reducible refine sub_alloc ?_ _ | (with_reducible refine sub_setCell2 ?_ ?_ _; (focus (first | (simp; done) | (simp <;> omega)))) | with_reducible refine sub_drew ?_ | with_reducible refine below_drewN ?_ _ | with_reducible refine sub_step (by assumption) ?_ (by first | rfl | (simp; done)) | exact Below.refl _ _ | assumption | refine sub_alloc ?_ _ | refine sub_setCell ?_ (by simp <;> omega) _ | refine sub_drew ?_ | refine below_drewN ?_ _ | refine sub_step (by assumption) ?_ (by first | rfl | (simp; done))))⟩
    · go_wp2_with fail
      go_meet
      exact ⟨W.heap.size + 1, some ⟨W.heap.size, 0, none⟩, n, C1, u1, rfl, Nat.le_succ _, BoxAt.set NB _ _ _ _ _ _ _, (fun i => by simp only [World.frozen?_setCell]; exact NB.2 i), ((ZM.setNe (by simp) _).setNe (by simp) _).setNe (by simp) _, ((hoL.setNe (own_ge ho1 (by simp <;> omega)) _).setNe (own_ge ho1 (by simp <;> omega)) _).setNe (own_ge ho1 (by simp <;> omega)) _, (fun g' e' => by cases e'; exact own_ge ho1 (by simp <;> omega)), (by simp), own_ge ho1 (by simp <;> omega), (by repeat (first | with_reducible exact Below.refl _ _ | with_reducible assumption | with_reducible refine sub_alloc ?_ _ | (with_reducible refine sub_setCell2 ?_ ?_ _; (focus (first | (simp; done) | (simp <;> omega)))) | with_reducible refine sub_drew ?_ | with_reducible refine below_drewN ?_ _ | with_reducible refine sub_step (by assumption) ?_ (by first | rfl | (simp; done)) | exact Below.refl _ _ | assumption | refine sub_alloc ?_ _ | refine sub_setCell ?_ (by simp <;> omega) _ | refine sub_drew ?_ | refine below_drewN ?_ _ | refine sub_step (by assumption) ?_ (by first | rfl | (simp; done))))⟩
    · go_wp2_with fail
      go_meet
      exact ⟨w1.heap.size + 1, some ⟨w1.heap.size, 0, none⟩, n, C1, u1, rfl, (by omega), (pos_lit _ _ _ _ _ _ _ _ _ _ (by simp)).1, (pos_lit _ _ _ _ _ _ _ _ _ _ (by simp)).2, (own_made w1 W.heap.size w1.heap.size n zx rfl hn).alloc _, (hoL.alloc _).alloc _, (fun g' e' => by cases e'; exact own_lt ho1 (Nat.le_refl _)), (by simp), own_lt ho1 (by omega), (by repeat (first | with_reducible exact Below.refl _ _ | with_reducible assumption | with_reducible refine sub_alloc ?_ _ | (with_reducible refine sub_setCell2 ?_ ?_ _; (focus (first | (simp; done) | (simp <;> omega)))) | with_reducible refine sub_drew ?_ | with_reducible refine below_drewN ?_ _ | with_reducible refine sub_step (by assumption) ?_ (by first | rfl | (simp; done)) | exact Below.refl _ _ | assumption | refine sub_alloc ?_ _ | refine sub_setCell ?_ (by simp <;> omega) _ | refine sub_drew ?_ | refine below_drewN ?_ _ | refine sub_step (by assumption) ?_ (by first | rfl | (simp; done))))⟩
    · go_wp2_with fail
      go_meet
      exact ⟨w1.heap.size, some ⟨w1.heap.size + 1, 0, none⟩, n, C1, u1, rfl, zx, (PosAt.box _ _ _ _ _ _ _ _ _).alloc _, frozen_lit _ _ _ _, own_made _ W.heap.size (w1.heap.size + 1) n (by simp; omega) (by simp) hn, (hoL.alloc _).alloc _, (fun g' e' => by cases e'; exact own_lt ho1 (by omega)), (by simp), own_lt ho1 (Nat.le_refl _), (by repeat (first | with_reducible exact Below.refl _ _ | with_reducible assumption | with_reducible refine sub_alloc ?_ _ | (with_reducible refine sub_setCell2 ?_ ?_ _; (focus (first | (simp; done) | (simp <;> omega)))) | with_reducible refine sub_drew ?_ | with_reducible refine below_drewN ?_ _ | with_reducible refine sub_step (by assumption) ?_ (by first | rfl | (simp; done)) | exact Below.refl _ _ | assumption | refine sub_alloc ?_ _ | refine sub_setCell ?_ (by simp <;> omega) _ | refine sub_drew ?_ | refine below_drewN ?_ _ | refine sub_step (by assumption) ?_ (by first | rfl | (simp; done))))⟩
    · go_wp2_with fail
      go_meet
      exact ⟨W.heap.size, some ⟨W.heap.size + 1, 0, none⟩, n, C1, u1, rfl, Nat.le_refl _, BoxAt.set NB _ _ _ _ _ _ _, (fun i => by simp only [World.frozen?_setCell]; exact NB.2 i), ((ZM.setNe (by simp) _).setNe (by simp) _).setNe (by simp) _, ((hoL.setNe (own_ge ho1 (by simp <;> omega)) _).setNe (own_ge ho1 (by simp <;> omega)) _).setNe (own_ge ho1 (by simp <;> omega)) _, (fun g' e' => by cases e'; exact own_ge ho1 (by simp <;> omega)), (by simp), own_ge ho1 (by simp <;> omega), (by repeat (first | with_reducible exact Below.refl _ _ | with_reducible assumption | with_reducible refine sub_alloc ?_ _ | (with_reducible refine sub_setCell2 ?_ ?_ _; (focus (first | (simp; done) | (simp <;> omega)))) | with_reducible refine sub_drew ?_ | with_reducible refine below_drewN ?_ _ | with_reducible refine sub_step (by assumption) ?_ (by first | rfl | (simp; done)) | exact Below.refl _ _ | assumption | refine sub_alloc ?_ _ | refine sub_setCell ?_ (by simp <;> omega) _ | refine sub_drew ?_ | refine below_drewN ?_ _ | refine sub_step (by assumption) ?_ (by first | rfl | (simp; done))))⟩
    · go_wp2_with fail
      go_meet
      exact ⟨W.heap.size, some ⟨w1.heap.size, 0, none⟩, n, C1, u1, rfl, Nat.le_refl _, (BoxAt.set NB _ _ _ _ _ _ _).alloc _, frozen_set3 NB _ _ _ _, own_made _ W.heap.size w1.heap.size n (by simp; omega) (by simp) hn, (((hoL.setNe (own_ge ho1 (by simp <;> omega)) _).setNe (own_ge ho1 (by simp <;> omega)) _).setNe (own_ge ho1 (by simp <;> omega)) _).alloc _, (fun g' e' => by cases e'; exact own_lt ho1 (Nat.le_refl _)), (by simp <;> omega), own_ge ho1 (by simp <;> omega), (by repeat (first | with_reducible exact Below.refl _ _ | with_reducible assumption | with_reducible refine sub_alloc ?_ _ | (with_reducible refine sub_setCell2 ?_ ?_ _; (focus (first | (simp; done) | (simp <;> omega)))) | with_reducible refine sub_drew ?_ | with_reducible refine below_drewN ?_ _ | with_reducible refine sub_step (by assumption) ?_ (by first | rfl | (simp; done)) | exact Below.refl _ _ | assumption | refine sub_alloc ?_ _ | refine sub_setCell ?_ (by simp <;> omega) _ | refine sub_drew ?_ | refine below_drewN ?_ _ | refine sub_step (by assumption) ?_ (by first | rfl | (simp; done))))⟩
  case rest =>
    obtain ⟨v, C, cc, C', cc', rfl, hv, PX, FX, OZ, OC, AP, NZ, NC, BX⟩ := hcut
    obtain ⟨wA, hnew⟩ : ∃ x, x = wc := ⟨_, rfl⟩
    subst hnew
    rcases OC.form with ⟨_, h9, _⟩ | ⟨gg, rfl, hg1, hg2⟩
    · omega
    have m1 : ¬ (gg = v) := fun e => NC (by rw [e])
    have m2 : ¬ (v = gg) := fun e => m1 e.symm
    have m3 : ¬ (gg = w.heap.size + 1) := by omega
    have m4 : ¬ (w.heap.size + 1 = gg) := by omega
    have m5 : ¬ (gg = w.heap.size + 2) := by omega
    have m7 : ¬ (gg = w.heap.size) := by omega
    have m6 : ¬ (v = w.heap.size + 2) := by omega
    have RX := Lib.hid (R0.keep BX)
    have HZ := Lib.hid OZ
    have HC := Lib.hid OC
    have HP := Lib.hid PX
    have HB := Lib.hid BX
    clear OZ OC PX BX FX hmk d0 d1 d2 R0 hg2
    go_wp2_with fail
    refine wp_loop_rounds 3 ?_; rw [rounds_succ]
    have HR := Lib.hid (P0.below HB.out lW0)
    have HP1 := Lib.hid (P1.below HB.out lW)
    have HI := Lib.hid (HH.out.sub HB.out)
    have lr0 := HR.out.lt
    have lr1 := HP1.out.lt
    have lV := HP.out.lt
    have WR : IntKind.i64.wrap (x0 + s0) = x0 + s0 := IntWalk.i64_in _ (by omega)
    have WR := Lib.hid WR
    go_wp2_with fail
    have bt : Below wA.heap.size wA wA.drew := (Below.refl _ _).drew
    have X0 := HR.out.below bt lr0; have X1 := HP1.out.below bt lr1; have X2 := HP.out.below bt lV; have XC := HC.out.below bt (Nat.le_refl _); obtain ⟨r0, r1, r2, r3, r4, r5, r6, r7, r8⟩ := X0.flat; obtain ⟨y0', y1', y2'⟩ := X1.flat; obtain ⟨p0, p1, p2⟩ := X2.flat; have kq := XC.cell (k := 0) rfl; have fq := XC.free 0
    refine wp_region_held_drew (S := (fun w' => w'.cell? ⟨w.heap.size, 0, none⟩ = some (.int .i64 p) ∧ w'.cell? ⟨w.heap.size, 1, none⟩ = some (.int .i64 s) ∧ w'.cell? ⟨w.heap.size, 2, none⟩ = some (.bool st) ∧ w'.cell? ⟨w.heap.size, 3, none⟩ = some (.bool sk) ∧ w'.cell? ⟨w.heap.size, 4, none⟩ = some (.bool re) ∧ w'.cell? ⟨w.heap.size, 5, none⟩ = some (.bool fe) ∧ w'.cell? ⟨w.heap.size, 6, none⟩ = some (.bool ag) ∧ w'.cell? ⟨w.heap.size, 7, none⟩ = some (.int .i64 c) ∧ w'.cell? ⟨w.heap.size, 8, none⟩ = some (.int .i64 sl) ∧ w'.cell? ⟨v, 1, none⟩ = some (.slice (some ⟨gg, 0, none⟩) 2 cc') ∧ w'.cell? ⟨w.heap.size + 1, 0, none⟩ = some (.slice A n u))) (by kernel_rfl) (by (first | (refine ⟨?_, ?_, ?_, ?_, ?_, ?_, ?_, ?_, ?_, ?_, ?_⟩ <;> assumption) | go_keep)) (fun hHeld => ?_)
    refine wpAnyH_take (i := 0) (oi := ⟨some 20, _, _, _, _, _⟩) (v := .pointer (some ⟨v, 1, none⟩)) rfl (by kernel_rfl) (by kernel_rfl) (by kernel_rfl) (fun _ _ _ h => h) (Or.inl ⟨by rfl, by (intro w hSw; (try dsimp only at hSw); go_simp)⟩) hHeld ?_
    (try simp only [Act.put, List.setIfInBounds_toArray, List.set_cons_zero, List.set_cons_succ])
    refine wpAnyH_take (i := 1) (oi := ⟨some 21, _, _, _, _, _⟩) (v := .slice (some ⟨gg, 0, none⟩) 2 cc') rfl (by kernel_rfl) (by kernel_rfl) (by kernel_rfl) (fun _ _ _ h => h) (Or.inl ⟨by rfl, by (intro w hSw; (try dsimp only at hSw); go_simp)⟩) hHeld ?_
    (try simp only [Act.put, List.setIfInBounds_toArray, List.set_cons_zero, List.set_cons_succ])
    refine wpAnyH_take (i := 2) (oi := ⟨some 22, _, _, _, _, _⟩) (v := .int .i64 0) rfl (by kernel_rfl) (by kernel_rfl) (by kernel_rfl) (fun _ _ _ h => h) (Or.inl ⟨by rfl, by (intro w hSw; (try dsimp only at hSw); go_simp)⟩) hHeld ?_
    (try simp only [Act.put, List.setIfInBounds_toArray, List.set_cons_zero, List.set_cons_succ])
    refine wpAnyH_take (i := 3) (oi := ⟨some 23, _, _, _, _, _⟩) (v := .pointer (some ⟨gg, 0, none⟩)) rfl (by kernel_rfl) (by kernel_rfl) (by kernel_rfl) (fun _ _ _ h => h) (Or.inl ⟨by rfl, by (intro w hSw; (try dsimp only at hSw); go_simp)⟩) hHeld ?_
    (try simp only [Act.put, List.setIfInBounds_toArray, List.set_cons_zero, List.set_cons_succ])
    refine wpAnyH_take (i := 5) (oi := ⟨some 25, _, _, _, _, _⟩) (v := .agg #[.int .i64 p, .int .i64 s, .bool st, .bool sk, .bool re, .bool fe, .bool ag, .int .i64 c, .int .i64 sl]) rfl (by kernel_rfl) (by kernel_rfl) (by kernel_rfl) (fun _ _ _ h => h) (Or.inl ⟨by rfl, by (intro w hSw; (try dsimp only at hSw); go_simp)⟩) hHeld ?_
    (try simp only [Act.put, List.setIfInBounds_toArray, List.set_cons_zero, List.set_cons_succ])
    refine wpAnyH_take (i := 6) (oi := ⟨some 26, _, _, _, _, _⟩) (v := .pointer (some ⟨w.heap.size + 1, 0, none⟩)) rfl (by kernel_rfl) (by kernel_rfl) (by kernel_rfl) (fun _ _ _ h => h) (Or.inl ⟨by rfl, by (intro w hSw; (try dsimp only at hSw); go_simp)⟩) hHeld ?_
    (try simp only [Act.put, List.setIfInBounds_toArray, List.set_cons_zero, List.set_cons_succ])
    refine wpAnyH_take (i := 7) (oi := ⟨some 27, _, _, _, _, _⟩) (v := .slice A n u) rfl (by kernel_rfl) (by kernel_rfl) (by kernel_rfl) (fun _ _ _ h => h) (Or.inl ⟨by rfl, by (intro w hSw; (try dsimp only at hSw); go_simp)⟩) hHeld ?_
    (try simp only [Act.put, List.setIfInBounds_toArray, List.set_cons_zero, List.set_cons_succ])
    refine wpAnyH_take (i := 8) (oi := ⟨some 28, _, _, _, _, _⟩) (v := .int .i64 0) rfl (by kernel_rfl) (by kernel_rfl) (by kernel_rfl) (fun _ _ _ h => h) (Or.inl ⟨by rfl, by (intro w hSw; (try dsimp only at hSw); go_simp)⟩) hHeld ?_
    (try simp only [Act.put, List.setIfInBounds_toArray, List.set_cons_zero, List.set_cons_succ])
    refine wpAnyH_ready (rs := [4, 9]) (by kernel_rfl) (by simp) ?_
    refine AllReadyH.cons (o := ⟨some 24, _, _, _, _, _⟩) rfl (fun K hK => ?_) (AllReadyH.cons (o := ⟨some 29, _, _, _, _, _⟩) rfl (fun K hK => ?_) AllReadyH.nil)
    · go_simp
      refine hK.out _ _ (by (first | (refine ⟨?_, ?_, ?_, ?_, ?_, ?_, ?_, ?_, ?_, ?_, ?_⟩ <;> assumption) | go_keep)) (fun hHeld => ?_)
      clear hK K
      (try simp only [Act.put, List.setIfInBounds_toArray, List.set_cons_zero, List.set_cons_succ])
      refine wpAnyH_ready (rs := [9]) (by kernel_rfl) (by simp) ?_
      refine AllReadyH.cons (o := ⟨some 29, _, _, _, _, _⟩) rfl (fun K hK => ?_) AllReadyH.nil
      · go_simp
        (go_at_call 156; refine (side_is2 p s st sk re fe ag c sl 0 s0 _ _ _ xs HS0.out _ (by exact HI.out.sub bt) HQ.out q0 q1 HK.out (by omega) (by omega)).mono ?_; rintro e w5 ⟨rfl, hb⟩; have bt := bt.trans (hb.mono bt.size); have X0 := HR.out.below bt lr0; have X1 := HP1.out.below bt lr1; have X2 := HP.out.below bt lV; have XC := HC.out.below bt (Nat.le_refl _); obtain ⟨r0, r1, r2, r3, r4, r5, r6, r7, r8⟩ := X0.flat; obtain ⟨y0', y1', y2'⟩ := X1.flat; obtain ⟨p0, p1, p2⟩ := X2.flat; have kq := XC.cell (k := 0) rfl; have fq := XC.free 0)
        (try go_wp2_with fail)
        refine hK.out _ _ (by (first | (refine ⟨?_, ?_, ?_, ?_, ?_, ?_, ?_, ?_, ?_, ?_, ?_⟩ <;> assumption) | go_keep)) (fun hHeld => ?_)
        clear hK K
        (try simp only [Act.put, List.setIfInBounds_toArray, List.set_cons_zero, List.set_cons_succ])
        have WR := WR.out
        refine wpAnyH_take (i := 10) (oi := ⟨some 30, _, _, _, _, _⟩) (v := .int .i64 (x0 + s0)) rfl (by kernel_rfl) (by kernel_rfl) (by kernel_rfl) (fun _ _ _ h => h) (Or.inl ⟨by rfl, by (intro w hSw; (try dsimp only at hSw); go_simp)⟩) hHeld ?_
        (try simp only [Act.put, List.setIfInBounds_toArray, List.set_cons_zero, List.set_cons_succ])
        refine wpAnyH_take (i := 11) (oi := ⟨some 31, _, _, _, _, _⟩) (v := .pointer (some ⟨gg, 0, none⟩)) rfl (by kernel_rfl) (by kernel_rfl) (by kernel_rfl) (fun _ _ _ h => h) (Or.inl ⟨by rfl, by (intro w hSw; (try dsimp only at hSw); go_simp)⟩) hHeld ?_
        (try simp only [Act.put, List.setIfInBounds_toArray, List.set_cons_zero, List.set_cons_succ])
        refine wpAnyH_ready (rs := [12]) (by kernel_rfl) (by simp) ?_
        refine AllReadyH.cons (o := ⟨none, _, _, _, _, _⟩) rfl (fun K hK => ?_) AllReadyH.nil
        go_simp
        refine hK.out _ _ (by (first | (refine ⟨?_, ?_, ?_, ?_, ?_, ?_, ?_, ?_, ?_, ?_, ?_⟩ <;> assumption) | go_keep)) (fun hHeld => ?_)
        clear hK K
        (try simp only [Act.put, List.setIfInBounds_toArray, List.set_cons_zero, List.set_cons_succ])
        refine wpAnyH_done (by kernel_rfl) ?_ _
        go_upto_region 6 with fail
        refine wp_namedG (fun w' => BoxAt w' (w.heap.size + 2) ∧ PosAt w' v 0 C n cc (some ⟨gg, 0, none⟩) 2 cc' pl ∧ Own w' W.heap.size C n cc (List.replicate n 0) ∧ Own w' W.heap.size (some ⟨gg, 0, none⟩) 2 cc' [x0 + s0, x1] ∧ Below W.heap.size W w') ?_ ?_
        · exact ⟨BoxAt.other (RX.out.keep bt) _ m5 _, PosAt.other X2 _ m1 _, Own.setNe (HZ.out.below bt (Nat.le_refl _)) (fun e => AP gg e rfl) _, (XC.stored 0 _).1, (HB.out.trans (bt.mono HB.out.size)).setCell (by exact hg1) _⟩
        clear X0 X1 X2 XC y0' y1' y2' p0 p1 p2 kq fq bt WR hHeld r0 r1 r2 r3 r4 r5 r6 r7 r8
        clear HP HZ HC HB RX HR HP1 HI lr0 lr1 lV
        rintro W2 ⟨e1, e2, e3, e4, e5⟩
        have RX := Lib.hid e1
        have HP := Lib.hid e2
        have HZ := Lib.hid e3
        have HC := Lib.hid e4
        have HB := Lib.hid e5
        clear e1 e2 e3 e4 e5
        obtain ⟨wA, hnew⟩ : ∃ x, x = W2 := ⟨_, rfl⟩
        subst hnew
        go_wp2_with fail
        rw [rounds_succ]
        have HR := Lib.hid (P0.below HB.out lW0)
        have HP1 := Lib.hid (P1.below HB.out lW)
        have HI := Lib.hid (HH.out.sub HB.out)
        have lr0 := HR.out.lt
        have lr1 := HP1.out.lt
        have lV := HP.out.lt
        have WR : IntKind.i64.wrap (x1 + s1) = x1 + s1 := IntWalk.i64_in _ (by omega)
        have WR := Lib.hid WR
        go_wp2_with fail
        have bt : Below wA.heap.size wA wA.drew := (Below.refl _ _).drew
        have X0 := HR.out.below bt lr0; have X1 := HP1.out.below bt lr1; have X2 := HP.out.below bt lV; have XC := HC.out.below bt (Nat.le_refl _); obtain ⟨r0, r1, r2, r3, r4, r5, r6, r7, r8⟩ := X0.flat; obtain ⟨y0', y1', y2'⟩ := X1.flat; obtain ⟨p0, p1, p2⟩ := X2.flat; have kq := XC.cell (k := 1) rfl; have fq := XC.free 1
        refine wp_region_held_drew (S := (fun w' => w'.cell? ⟨w.heap.size, 0, none⟩ = some (.int .i64 p) ∧ w'.cell? ⟨w.heap.size, 1, none⟩ = some (.int .i64 s) ∧ w'.cell? ⟨w.heap.size, 2, none⟩ = some (.bool st) ∧ w'.cell? ⟨w.heap.size, 3, none⟩ = some (.bool sk) ∧ w'.cell? ⟨w.heap.size, 4, none⟩ = some (.bool re) ∧ w'.cell? ⟨w.heap.size, 5, none⟩ = some (.bool fe) ∧ w'.cell? ⟨w.heap.size, 6, none⟩ = some (.bool ag) ∧ w'.cell? ⟨w.heap.size, 7, none⟩ = some (.int .i64 c) ∧ w'.cell? ⟨w.heap.size, 8, none⟩ = some (.int .i64 sl) ∧ w'.cell? ⟨v, 1, none⟩ = some (.slice (some ⟨gg, 0, none⟩) 2 cc') ∧ w'.cell? ⟨w.heap.size + 1, 0, none⟩ = some (.slice A n u))) (by kernel_rfl) (by (first | (refine ⟨?_, ?_, ?_, ?_, ?_, ?_, ?_, ?_, ?_, ?_, ?_⟩ <;> assumption) | go_keep)) (fun hHeld => ?_)
        refine wpAnyH_take (i := 0) (oi := ⟨some 20, _, _, _, _, _⟩) (v := .pointer (some ⟨v, 1, none⟩)) rfl (by kernel_rfl) (by kernel_rfl) (by kernel_rfl) (fun _ _ _ h => h) (Or.inl ⟨by rfl, by (intro w hSw; (try dsimp only at hSw); go_simp)⟩) hHeld ?_
        (try simp only [Act.put, List.setIfInBounds_toArray, List.set_cons_zero, List.set_cons_succ])
        refine wpAnyH_take (i := 1) (oi := ⟨some 21, _, _, _, _, _⟩) (v := .slice (some ⟨gg, 0, none⟩) 2 cc') rfl (by kernel_rfl) (by kernel_rfl) (by kernel_rfl) (fun _ _ _ h => h) (Or.inl ⟨by rfl, by (intro w hSw; (try dsimp only at hSw); go_simp)⟩) hHeld ?_
        (try simp only [Act.put, List.setIfInBounds_toArray, List.set_cons_zero, List.set_cons_succ])
        refine wpAnyH_take (i := 2) (oi := ⟨some 22, _, _, _, _, _⟩) (v := .int .i64 1) rfl (by kernel_rfl) (by kernel_rfl) (by kernel_rfl) (fun _ _ _ h => h) (Or.inl ⟨by rfl, by (intro w hSw; (try dsimp only at hSw); go_simp)⟩) hHeld ?_
        (try simp only [Act.put, List.setIfInBounds_toArray, List.set_cons_zero, List.set_cons_succ])
        refine wpAnyH_take (i := 3) (oi := ⟨some 23, _, _, _, _, _⟩) (v := .pointer (some ⟨gg, 1, none⟩)) rfl (by kernel_rfl) (by kernel_rfl) (by kernel_rfl) (fun _ _ _ h => h) (Or.inl ⟨by rfl, by (intro w hSw; (try dsimp only at hSw); go_simp)⟩) hHeld ?_
        (try simp only [Act.put, List.setIfInBounds_toArray, List.set_cons_zero, List.set_cons_succ])
        refine wpAnyH_take (i := 5) (oi := ⟨some 25, _, _, _, _, _⟩) (v := .agg #[.int .i64 p, .int .i64 s, .bool st, .bool sk, .bool re, .bool fe, .bool ag, .int .i64 c, .int .i64 sl]) rfl (by kernel_rfl) (by kernel_rfl) (by kernel_rfl) (fun _ _ _ h => h) (Or.inl ⟨by rfl, by (intro w hSw; (try dsimp only at hSw); go_simp)⟩) hHeld ?_
        (try simp only [Act.put, List.setIfInBounds_toArray, List.set_cons_zero, List.set_cons_succ])
        refine wpAnyH_take (i := 6) (oi := ⟨some 26, _, _, _, _, _⟩) (v := .pointer (some ⟨w.heap.size + 1, 0, none⟩)) rfl (by kernel_rfl) (by kernel_rfl) (by kernel_rfl) (fun _ _ _ h => h) (Or.inl ⟨by rfl, by (intro w hSw; (try dsimp only at hSw); go_simp)⟩) hHeld ?_
        (try simp only [Act.put, List.setIfInBounds_toArray, List.set_cons_zero, List.set_cons_succ])
        refine wpAnyH_take (i := 7) (oi := ⟨some 27, _, _, _, _, _⟩) (v := .slice A n u) rfl (by kernel_rfl) (by kernel_rfl) (by kernel_rfl) (fun _ _ _ h => h) (Or.inl ⟨by rfl, by (intro w hSw; (try dsimp only at hSw); go_simp)⟩) hHeld ?_
        (try simp only [Act.put, List.setIfInBounds_toArray, List.set_cons_zero, List.set_cons_succ])
        refine wpAnyH_take (i := 8) (oi := ⟨some 28, _, _, _, _, _⟩) (v := .int .i64 1) rfl (by kernel_rfl) (by kernel_rfl) (by kernel_rfl) (fun _ _ _ h => h) (Or.inl ⟨by rfl, by (intro w hSw; (try dsimp only at hSw); go_simp)⟩) hHeld ?_
        (try simp only [Act.put, List.setIfInBounds_toArray, List.set_cons_zero, List.set_cons_succ])
        refine wpAnyH_ready (rs := [4, 9]) (by kernel_rfl) (by simp) ?_
        refine AllReadyH.cons (o := ⟨some 24, _, _, _, _, _⟩) rfl (fun K hK => ?_) (AllReadyH.cons (o := ⟨some 29, _, _, _, _, _⟩) rfl (fun K hK => ?_) AllReadyH.nil)
        · go_simp
          refine hK.out _ _ (by (first | (refine ⟨?_, ?_, ?_, ?_, ?_, ?_, ?_, ?_, ?_, ?_, ?_⟩ <;> assumption) | go_keep)) (fun hHeld => ?_)
          clear hK K
          (try simp only [Act.put, List.setIfInBounds_toArray, List.set_cons_zero, List.set_cons_succ])
          refine wpAnyH_ready (rs := [9]) (by kernel_rfl) (by simp) ?_
          refine AllReadyH.cons (o := ⟨some 29, _, _, _, _, _⟩) rfl (fun K hK => ?_) AllReadyH.nil
          · go_simp
            (go_at_call 156; refine (side_is2 p s st sk re fe ag c sl 1 s1 _ _ _ xs HS1.out _ (by exact HI.out.sub bt) HQ.out q0 q1 HK.out (by omega) (by omega)).mono ?_; rintro e w5 ⟨rfl, hb⟩; have bt := bt.trans (hb.mono bt.size); have X0 := HR.out.below bt lr0; have X1 := HP1.out.below bt lr1; have X2 := HP.out.below bt lV; have XC := HC.out.below bt (Nat.le_refl _); obtain ⟨r0, r1, r2, r3, r4, r5, r6, r7, r8⟩ := X0.flat; obtain ⟨y0', y1', y2'⟩ := X1.flat; obtain ⟨p0, p1, p2⟩ := X2.flat; have kq := XC.cell (k := 1) rfl; have fq := XC.free 1)
            (try go_wp2_with fail)
            refine hK.out _ _ (by (first | (refine ⟨?_, ?_, ?_, ?_, ?_, ?_, ?_, ?_, ?_, ?_, ?_⟩ <;> assumption) | go_keep)) (fun hHeld => ?_)
            clear hK K
            (try simp only [Act.put, List.setIfInBounds_toArray, List.set_cons_zero, List.set_cons_succ])
            have WR := WR.out
            refine wpAnyH_take (i := 10) (oi := ⟨some 30, _, _, _, _, _⟩) (v := .int .i64 (x1 + s1)) rfl (by kernel_rfl) (by kernel_rfl) (by kernel_rfl) (fun _ _ _ h => h) (Or.inl ⟨by rfl, by (intro w hSw; (try dsimp only at hSw); go_simp)⟩) hHeld ?_
            (try simp only [Act.put, List.setIfInBounds_toArray, List.set_cons_zero, List.set_cons_succ])
            refine wpAnyH_take (i := 11) (oi := ⟨some 31, _, _, _, _, _⟩) (v := .pointer (some ⟨gg, 1, none⟩)) rfl (by kernel_rfl) (by kernel_rfl) (by kernel_rfl) (fun _ _ _ h => h) (Or.inl ⟨by rfl, by (intro w hSw; (try dsimp only at hSw); go_simp)⟩) hHeld ?_
            (try simp only [Act.put, List.setIfInBounds_toArray, List.set_cons_zero, List.set_cons_succ])
            refine wpAnyH_ready (rs := [12]) (by kernel_rfl) (by simp) ?_
            refine AllReadyH.cons (o := ⟨none, _, _, _, _, _⟩) rfl (fun K hK => ?_) AllReadyH.nil
            go_simp
            refine hK.out _ _ (by (first | (refine ⟨?_, ?_, ?_, ?_, ?_, ?_, ?_, ?_, ?_, ?_, ?_⟩ <;> assumption) | go_keep)) (fun hHeld => ?_)
            clear hK K
            (try simp only [Act.put, List.setIfInBounds_toArray, List.set_cons_zero, List.set_cons_succ])
            refine wpAnyH_done (by kernel_rfl) ?_ _
            go_upto_region 6 with fail
            refine wp_namedG (fun w' => BoxAt w' (w.heap.size + 2) ∧ PosAt w' v 0 C n cc (some ⟨gg, 0, none⟩) 2 cc' pl ∧ Own w' W.heap.size C n cc (List.replicate n 0) ∧ Own w' W.heap.size (some ⟨gg, 0, none⟩) 2 cc' [x0 + s0, x1 + s1] ∧ Below W.heap.size W w') ?_ ?_
            · exact ⟨BoxAt.other (RX.out.keep bt) _ m5 _, PosAt.other X2 _ m1 _, Own.setNe (HZ.out.below bt (Nat.le_refl _)) (fun e => AP gg e rfl) _, (XC.stored 1 _).1, (HB.out.trans (bt.mono HB.out.size)).setCell (by exact hg1) _⟩
            clear X0 X1 X2 XC y0' y1' y2' p0 p1 p2 kq fq bt WR hHeld r0 r1 r2 r3 r4 r5 r6 r7 r8
            clear HP HZ HC HB RX HR HP1 HI lr0 lr1 lV
            rintro W3 ⟨e1, e2, e3, e4, e5⟩
            obtain ⟨f0, f1, f2, f3, f4, f5⟩ := e1.flat
            obtain ⟨p0, p1, p2⟩ := e2.flat
            go_wp2_with fail
            rw [rounds_succ]
            go_wp2_with fail
            refine settled_ret (g := w.heap.size + 2) (by rfl) (by rfl) (e1.set C n cc (some ⟨gg, 0, none⟩) 2 cc' pl) ⟨C, cc, some ⟨gg, 0, none⟩, cc', rfl, (((e3.setBelow lW3 _).setBelow lW3 _).setBelow lW3 _).lower hbW.size, (((e4.setBelow lW3 _).setBelow lW3 _).setBelow lW3 _).lower hbW.size, AP, ?_⟩
            have b9 := hbW.trans (e5.mono hbW.size)
            exact ((b9.setCell (by show _ ≤ w.heap.size + 2; omega) _).setCell (by show _ ≤ w.heap.size + 2; omega) _).setCell (by show _ ≤ w.heap.size + 2; omega) _
        · go_simp
          (go_at_call 156; refine (side_is2 p s st sk re fe ag c sl 1 s1 _ _ _ xs HS1.out _ (by exact HI.out.sub bt) HQ.out q0 q1 HK.out (by omega) (by omega)).mono ?_; rintro e w5 ⟨rfl, hb⟩; have bt := bt.trans (hb.mono bt.size); have X0 := HR.out.below bt lr0; have X1 := HP1.out.below bt lr1; have X2 := HP.out.below bt lV; have XC := HC.out.below bt (Nat.le_refl _); obtain ⟨r0, r1, r2, r3, r4, r5, r6, r7, r8⟩ := X0.flat; obtain ⟨y0', y1', y2'⟩ := X1.flat; obtain ⟨p0, p1, p2⟩ := X2.flat; have kq := XC.cell (k := 1) rfl; have fq := XC.free 1)
          (try go_wp2_with fail)
          refine hK.out _ _ (by (first | (refine ⟨?_, ?_, ?_, ?_, ?_, ?_, ?_, ?_, ?_, ?_, ?_⟩ <;> assumption) | go_keep)) (fun hHeld => ?_)
          clear hK K
          (try simp only [Act.put, List.setIfInBounds_toArray, List.set_cons_zero, List.set_cons_succ])
          refine wpAnyH_ready (rs := [4]) (by kernel_rfl) (by simp) ?_
          refine AllReadyH.cons (o := ⟨some 24, _, _, _, _, _⟩) rfl (fun K hK => ?_) AllReadyH.nil
          · go_simp
            refine hK.out _ _ (by (first | (refine ⟨?_, ?_, ?_, ?_, ?_, ?_, ?_, ?_, ?_, ?_, ?_⟩ <;> assumption) | go_keep)) (fun hHeld => ?_)
            clear hK K
            (try simp only [Act.put, List.setIfInBounds_toArray, List.set_cons_zero, List.set_cons_succ])
            have WR := WR.out
            refine wpAnyH_take (i := 10) (oi := ⟨some 30, _, _, _, _, _⟩) (v := .int .i64 (x1 + s1)) rfl (by kernel_rfl) (by kernel_rfl) (by kernel_rfl) (fun _ _ _ h => h) (Or.inl ⟨by rfl, by (intro w hSw; (try dsimp only at hSw); go_simp)⟩) hHeld ?_
            (try simp only [Act.put, List.setIfInBounds_toArray, List.set_cons_zero, List.set_cons_succ])
            refine wpAnyH_take (i := 11) (oi := ⟨some 31, _, _, _, _, _⟩) (v := .pointer (some ⟨gg, 1, none⟩)) rfl (by kernel_rfl) (by kernel_rfl) (by kernel_rfl) (fun _ _ _ h => h) (Or.inl ⟨by rfl, by (intro w hSw; (try dsimp only at hSw); go_simp)⟩) hHeld ?_
            (try simp only [Act.put, List.setIfInBounds_toArray, List.set_cons_zero, List.set_cons_succ])
            refine wpAnyH_ready (rs := [12]) (by kernel_rfl) (by simp) ?_
            refine AllReadyH.cons (o := ⟨none, _, _, _, _, _⟩) rfl (fun K hK => ?_) AllReadyH.nil
            go_simp
            refine hK.out _ _ (by (first | (refine ⟨?_, ?_, ?_, ?_, ?_, ?_, ?_, ?_, ?_, ?_, ?_⟩ <;> assumption) | go_keep)) (fun hHeld => ?_)
            clear hK K
            (try simp only [Act.put, List.setIfInBounds_toArray, List.set_cons_zero, List.set_cons_succ])
            refine wpAnyH_done (by kernel_rfl) ?_ _
            go_upto_region 6 with fail
            refine wp_namedG (fun w' => BoxAt w' (w.heap.size + 2) ∧ PosAt w' v 0 C n cc (some ⟨gg, 0, none⟩) 2 cc' pl ∧ Own w' W.heap.size C n cc (List.replicate n 0) ∧ Own w' W.heap.size (some ⟨gg, 0, none⟩) 2 cc' [x0 + s0, x1 + s1] ∧ Below W.heap.size W w') ?_ ?_
            · exact ⟨BoxAt.other (RX.out.keep bt) _ m5 _, PosAt.other X2 _ m1 _, Own.setNe (HZ.out.below bt (Nat.le_refl _)) (fun e => AP gg e rfl) _, (XC.stored 1 _).1, (HB.out.trans (bt.mono HB.out.size)).setCell (by exact hg1) _⟩
            clear X0 X1 X2 XC y0' y1' y2' p0 p1 p2 kq fq bt WR hHeld r0 r1 r2 r3 r4 r5 r6 r7 r8
            clear HP HZ HC HB RX HR HP1 HI lr0 lr1 lV
            rintro W3 ⟨e1, e2, e3, e4, e5⟩
            obtain ⟨f0, f1, f2, f3, f4, f5⟩ := e1.flat
            obtain ⟨p0, p1, p2⟩ := e2.flat
            go_wp2_with fail
            rw [rounds_succ]
            go_wp2_with fail
            refine settled_ret (g := w.heap.size + 2) (by rfl) (by rfl) (e1.set C n cc (some ⟨gg, 0, none⟩) 2 cc' pl) ⟨C, cc, some ⟨gg, 0, none⟩, cc', rfl, (((e3.setBelow lW3 _).setBelow lW3 _).setBelow lW3 _).lower hbW.size, (((e4.setBelow lW3 _).setBelow lW3 _).setBelow lW3 _).lower hbW.size, AP, ?_⟩
            have b9 := hbW.trans (e5.mono hbW.size)
            exact ((b9.setCell (by show _ ≤ w.heap.size + 2; omega) _).setCell (by show _ ≤ w.heap.size + 2; omega) _).setCell (by show _ ≤ w.heap.size + 2; omega) _
    · go_simp
      (go_at_call 156; refine (side_is2 p s st sk re fe ag c sl 0 s0 _ _ _ xs HS0.out _ (by exact HI.out.sub bt) HQ.out q0 q1 HK.out (by omega) (by omega)).mono ?_; rintro e w5 ⟨rfl, hb⟩; have bt := bt.trans (hb.mono bt.size); have X0 := HR.out.below bt lr0; have X1 := HP1.out.below bt lr1; have X2 := HP.out.below bt lV; have XC := HC.out.below bt (Nat.le_refl _); obtain ⟨r0, r1, r2, r3, r4, r5, r6, r7, r8⟩ := X0.flat; obtain ⟨y0', y1', y2'⟩ := X1.flat; obtain ⟨p0, p1, p2⟩ := X2.flat; have kq := XC.cell (k := 0) rfl; have fq := XC.free 0)
      (try go_wp2_with fail)
      refine hK.out _ _ (by (first | (refine ⟨?_, ?_, ?_, ?_, ?_, ?_, ?_, ?_, ?_, ?_, ?_⟩ <;> assumption) | go_keep)) (fun hHeld => ?_)
      clear hK K
      (try simp only [Act.put, List.setIfInBounds_toArray, List.set_cons_zero, List.set_cons_succ])
      refine wpAnyH_ready (rs := [4]) (by kernel_rfl) (by simp) ?_
      refine AllReadyH.cons (o := ⟨some 24, _, _, _, _, _⟩) rfl (fun K hK => ?_) AllReadyH.nil
      · go_simp
        refine hK.out _ _ (by (first | (refine ⟨?_, ?_, ?_, ?_, ?_, ?_, ?_, ?_, ?_, ?_, ?_⟩ <;> assumption) | go_keep)) (fun hHeld => ?_)
        clear hK K
        (try simp only [Act.put, List.setIfInBounds_toArray, List.set_cons_zero, List.set_cons_succ])
        have WR := WR.out
        refine wpAnyH_take (i := 10) (oi := ⟨some 30, _, _, _, _, _⟩) (v := .int .i64 (x0 + s0)) rfl (by kernel_rfl) (by kernel_rfl) (by kernel_rfl) (fun _ _ _ h => h) (Or.inl ⟨by rfl, by (intro w hSw; (try dsimp only at hSw); go_simp)⟩) hHeld ?_
        (try simp only [Act.put, List.setIfInBounds_toArray, List.set_cons_zero, List.set_cons_succ])
        refine wpAnyH_take (i := 11) (oi := ⟨some 31, _, _, _, _, _⟩) (v := .pointer (some ⟨gg, 0, none⟩)) rfl (by kernel_rfl) (by kernel_rfl) (by kernel_rfl) (fun _ _ _ h => h) (Or.inl ⟨by rfl, by (intro w hSw; (try dsimp only at hSw); go_simp)⟩) hHeld ?_
        (try simp only [Act.put, List.setIfInBounds_toArray, List.set_cons_zero, List.set_cons_succ])
        refine wpAnyH_ready (rs := [12]) (by kernel_rfl) (by simp) ?_
        refine AllReadyH.cons (o := ⟨none, _, _, _, _, _⟩) rfl (fun K hK => ?_) AllReadyH.nil
        go_simp
        refine hK.out _ _ (by (first | (refine ⟨?_, ?_, ?_, ?_, ?_, ?_, ?_, ?_, ?_, ?_, ?_⟩ <;> assumption) | go_keep)) (fun hHeld => ?_)
        clear hK K
        (try simp only [Act.put, List.setIfInBounds_toArray, List.set_cons_zero, List.set_cons_succ])
        refine wpAnyH_done (by kernel_rfl) ?_ _
        go_upto_region 6 with fail
        refine wp_namedG (fun w' => BoxAt w' (w.heap.size + 2) ∧ PosAt w' v 0 C n cc (some ⟨gg, 0, none⟩) 2 cc' pl ∧ Own w' W.heap.size C n cc (List.replicate n 0) ∧ Own w' W.heap.size (some ⟨gg, 0, none⟩) 2 cc' [x0 + s0, x1] ∧ Below W.heap.size W w') ?_ ?_
        · exact ⟨BoxAt.other (RX.out.keep bt) _ m5 _, PosAt.other X2 _ m1 _, Own.setNe (HZ.out.below bt (Nat.le_refl _)) (fun e => AP gg e rfl) _, (XC.stored 0 _).1, (HB.out.trans (bt.mono HB.out.size)).setCell (by exact hg1) _⟩
        clear X0 X1 X2 XC y0' y1' y2' p0 p1 p2 kq fq bt WR hHeld r0 r1 r2 r3 r4 r5 r6 r7 r8
        clear HP HZ HC HB RX HR HP1 HI lr0 lr1 lV
        rintro W2 ⟨e1, e2, e3, e4, e5⟩
        have RX := Lib.hid e1
        have HP := Lib.hid e2
        have HZ := Lib.hid e3
        have HC := Lib.hid e4
        have HB := Lib.hid e5
        clear e1 e2 e3 e4 e5
        obtain ⟨wA, hnew⟩ : ∃ x, x = W2 := ⟨_, rfl⟩
        subst hnew
        go_wp2_with fail
        rw [rounds_succ]
        have HR := Lib.hid (P0.below HB.out lW0)
        have HP1 := Lib.hid (P1.below HB.out lW)
        have HI := Lib.hid (HH.out.sub HB.out)
        have lr0 := HR.out.lt
        have lr1 := HP1.out.lt
        have lV := HP.out.lt
        have WR : IntKind.i64.wrap (x1 + s1) = x1 + s1 := IntWalk.i64_in _ (by omega)
        have WR := Lib.hid WR
        go_wp2_with fail
        have bt : Below wA.heap.size wA wA.drew := (Below.refl _ _).drew
        have X0 := HR.out.below bt lr0; have X1 := HP1.out.below bt lr1; have X2 := HP.out.below bt lV; have XC := HC.out.below bt (Nat.le_refl _); obtain ⟨r0, r1, r2, r3, r4, r5, r6, r7, r8⟩ := X0.flat; obtain ⟨y0', y1', y2'⟩ := X1.flat; obtain ⟨p0, p1, p2⟩ := X2.flat; have kq := XC.cell (k := 1) rfl; have fq := XC.free 1
        refine wp_region_held_drew (S := (fun w' => w'.cell? ⟨w.heap.size, 0, none⟩ = some (.int .i64 p) ∧ w'.cell? ⟨w.heap.size, 1, none⟩ = some (.int .i64 s) ∧ w'.cell? ⟨w.heap.size, 2, none⟩ = some (.bool st) ∧ w'.cell? ⟨w.heap.size, 3, none⟩ = some (.bool sk) ∧ w'.cell? ⟨w.heap.size, 4, none⟩ = some (.bool re) ∧ w'.cell? ⟨w.heap.size, 5, none⟩ = some (.bool fe) ∧ w'.cell? ⟨w.heap.size, 6, none⟩ = some (.bool ag) ∧ w'.cell? ⟨w.heap.size, 7, none⟩ = some (.int .i64 c) ∧ w'.cell? ⟨w.heap.size, 8, none⟩ = some (.int .i64 sl) ∧ w'.cell? ⟨v, 1, none⟩ = some (.slice (some ⟨gg, 0, none⟩) 2 cc') ∧ w'.cell? ⟨w.heap.size + 1, 0, none⟩ = some (.slice A n u))) (by kernel_rfl) (by (first | (refine ⟨?_, ?_, ?_, ?_, ?_, ?_, ?_, ?_, ?_, ?_, ?_⟩ <;> assumption) | go_keep)) (fun hHeld => ?_)
        refine wpAnyH_take (i := 0) (oi := ⟨some 20, _, _, _, _, _⟩) (v := .pointer (some ⟨v, 1, none⟩)) rfl (by kernel_rfl) (by kernel_rfl) (by kernel_rfl) (fun _ _ _ h => h) (Or.inl ⟨by rfl, by (intro w hSw; (try dsimp only at hSw); go_simp)⟩) hHeld ?_
        (try simp only [Act.put, List.setIfInBounds_toArray, List.set_cons_zero, List.set_cons_succ])
        refine wpAnyH_take (i := 1) (oi := ⟨some 21, _, _, _, _, _⟩) (v := .slice (some ⟨gg, 0, none⟩) 2 cc') rfl (by kernel_rfl) (by kernel_rfl) (by kernel_rfl) (fun _ _ _ h => h) (Or.inl ⟨by rfl, by (intro w hSw; (try dsimp only at hSw); go_simp)⟩) hHeld ?_
        (try simp only [Act.put, List.setIfInBounds_toArray, List.set_cons_zero, List.set_cons_succ])
        refine wpAnyH_take (i := 2) (oi := ⟨some 22, _, _, _, _, _⟩) (v := .int .i64 1) rfl (by kernel_rfl) (by kernel_rfl) (by kernel_rfl) (fun _ _ _ h => h) (Or.inl ⟨by rfl, by (intro w hSw; (try dsimp only at hSw); go_simp)⟩) hHeld ?_
        (try simp only [Act.put, List.setIfInBounds_toArray, List.set_cons_zero, List.set_cons_succ])
        refine wpAnyH_take (i := 3) (oi := ⟨some 23, _, _, _, _, _⟩) (v := .pointer (some ⟨gg, 1, none⟩)) rfl (by kernel_rfl) (by kernel_rfl) (by kernel_rfl) (fun _ _ _ h => h) (Or.inl ⟨by rfl, by (intro w hSw; (try dsimp only at hSw); go_simp)⟩) hHeld ?_
        (try simp only [Act.put, List.setIfInBounds_toArray, List.set_cons_zero, List.set_cons_succ])
        refine wpAnyH_take (i := 5) (oi := ⟨some 25, _, _, _, _, _⟩) (v := .agg #[.int .i64 p, .int .i64 s, .bool st, .bool sk, .bool re, .bool fe, .bool ag, .int .i64 c, .int .i64 sl]) rfl (by kernel_rfl) (by kernel_rfl) (by kernel_rfl) (fun _ _ _ h => h) (Or.inl ⟨by rfl, by (intro w hSw; (try dsimp only at hSw); go_simp)⟩) hHeld ?_
        (try simp only [Act.put, List.setIfInBounds_toArray, List.set_cons_zero, List.set_cons_succ])
        refine wpAnyH_take (i := 6) (oi := ⟨some 26, _, _, _, _, _⟩) (v := .pointer (some ⟨w.heap.size + 1, 0, none⟩)) rfl (by kernel_rfl) (by kernel_rfl) (by kernel_rfl) (fun _ _ _ h => h) (Or.inl ⟨by rfl, by (intro w hSw; (try dsimp only at hSw); go_simp)⟩) hHeld ?_
        (try simp only [Act.put, List.setIfInBounds_toArray, List.set_cons_zero, List.set_cons_succ])
        refine wpAnyH_take (i := 7) (oi := ⟨some 27, _, _, _, _, _⟩) (v := .slice A n u) rfl (by kernel_rfl) (by kernel_rfl) (by kernel_rfl) (fun _ _ _ h => h) (Or.inl ⟨by rfl, by (intro w hSw; (try dsimp only at hSw); go_simp)⟩) hHeld ?_
        (try simp only [Act.put, List.setIfInBounds_toArray, List.set_cons_zero, List.set_cons_succ])
        refine wpAnyH_take (i := 8) (oi := ⟨some 28, _, _, _, _, _⟩) (v := .int .i64 1) rfl (by kernel_rfl) (by kernel_rfl) (by kernel_rfl) (fun _ _ _ h => h) (Or.inl ⟨by rfl, by (intro w hSw; (try dsimp only at hSw); go_simp)⟩) hHeld ?_
        (try simp only [Act.put, List.setIfInBounds_toArray, List.set_cons_zero, List.set_cons_succ])
        refine wpAnyH_ready (rs := [4, 9]) (by kernel_rfl) (by simp) ?_
        refine AllReadyH.cons (o := ⟨some 24, _, _, _, _, _⟩) rfl (fun K hK => ?_) (AllReadyH.cons (o := ⟨some 29, _, _, _, _, _⟩) rfl (fun K hK => ?_) AllReadyH.nil)
        · go_simp
          refine hK.out _ _ (by (first | (refine ⟨?_, ?_, ?_, ?_, ?_, ?_, ?_, ?_, ?_, ?_, ?_⟩ <;> assumption) | go_keep)) (fun hHeld => ?_)
          clear hK K
          (try simp only [Act.put, List.setIfInBounds_toArray, List.set_cons_zero, List.set_cons_succ])
          refine wpAnyH_ready (rs := [9]) (by kernel_rfl) (by simp) ?_
          refine AllReadyH.cons (o := ⟨some 29, _, _, _, _, _⟩) rfl (fun K hK => ?_) AllReadyH.nil
          · go_simp
            (go_at_call 156; refine (side_is2 p s st sk re fe ag c sl 1 s1 _ _ _ xs HS1.out _ (by exact HI.out.sub bt) HQ.out q0 q1 HK.out (by omega) (by omega)).mono ?_; rintro e w5 ⟨rfl, hb⟩; have bt := bt.trans (hb.mono bt.size); have X0 := HR.out.below bt lr0; have X1 := HP1.out.below bt lr1; have X2 := HP.out.below bt lV; have XC := HC.out.below bt (Nat.le_refl _); obtain ⟨r0, r1, r2, r3, r4, r5, r6, r7, r8⟩ := X0.flat; obtain ⟨y0', y1', y2'⟩ := X1.flat; obtain ⟨p0, p1, p2⟩ := X2.flat; have kq := XC.cell (k := 1) rfl; have fq := XC.free 1)
            (try go_wp2_with fail)
            refine hK.out _ _ (by (first | (refine ⟨?_, ?_, ?_, ?_, ?_, ?_, ?_, ?_, ?_, ?_, ?_⟩ <;> assumption) | go_keep)) (fun hHeld => ?_)
            clear hK K
            (try simp only [Act.put, List.setIfInBounds_toArray, List.set_cons_zero, List.set_cons_succ])
            have WR := WR.out
            refine wpAnyH_take (i := 10) (oi := ⟨some 30, _, _, _, _, _⟩) (v := .int .i64 (x1 + s1)) rfl (by kernel_rfl) (by kernel_rfl) (by kernel_rfl) (fun _ _ _ h => h) (Or.inl ⟨by rfl, by (intro w hSw; (try dsimp only at hSw); go_simp)⟩) hHeld ?_
            (try simp only [Act.put, List.setIfInBounds_toArray, List.set_cons_zero, List.set_cons_succ])
            refine wpAnyH_take (i := 11) (oi := ⟨some 31, _, _, _, _, _⟩) (v := .pointer (some ⟨gg, 1, none⟩)) rfl (by kernel_rfl) (by kernel_rfl) (by kernel_rfl) (fun _ _ _ h => h) (Or.inl ⟨by rfl, by (intro w hSw; (try dsimp only at hSw); go_simp)⟩) hHeld ?_
            (try simp only [Act.put, List.setIfInBounds_toArray, List.set_cons_zero, List.set_cons_succ])
            refine wpAnyH_ready (rs := [12]) (by kernel_rfl) (by simp) ?_
            refine AllReadyH.cons (o := ⟨none, _, _, _, _, _⟩) rfl (fun K hK => ?_) AllReadyH.nil
            go_simp
            refine hK.out _ _ (by (first | (refine ⟨?_, ?_, ?_, ?_, ?_, ?_, ?_, ?_, ?_, ?_, ?_⟩ <;> assumption) | go_keep)) (fun hHeld => ?_)
            clear hK K
            (try simp only [Act.put, List.setIfInBounds_toArray, List.set_cons_zero, List.set_cons_succ])
            refine wpAnyH_done (by kernel_rfl) ?_ _
            go_upto_region 6 with fail
            refine wp_namedG (fun w' => BoxAt w' (w.heap.size + 2) ∧ PosAt w' v 0 C n cc (some ⟨gg, 0, none⟩) 2 cc' pl ∧ Own w' W.heap.size C n cc (List.replicate n 0) ∧ Own w' W.heap.size (some ⟨gg, 0, none⟩) 2 cc' [x0 + s0, x1 + s1] ∧ Below W.heap.size W w') ?_ ?_
            · exact ⟨BoxAt.other (RX.out.keep bt) _ m5 _, PosAt.other X2 _ m1 _, Own.setNe (HZ.out.below bt (Nat.le_refl _)) (fun e => AP gg e rfl) _, (XC.stored 1 _).1, (HB.out.trans (bt.mono HB.out.size)).setCell (by exact hg1) _⟩
            clear X0 X1 X2 XC y0' y1' y2' p0 p1 p2 kq fq bt WR hHeld r0 r1 r2 r3 r4 r5 r6 r7 r8
            clear HP HZ HC HB RX HR HP1 HI lr0 lr1 lV
            rintro W3 ⟨e1, e2, e3, e4, e5⟩
            obtain ⟨f0, f1, f2, f3, f4, f5⟩ := e1.flat
            obtain ⟨p0, p1, p2⟩ := e2.flat
            go_wp2_with fail
            rw [rounds_succ]
            go_wp2_with fail
            refine settled_ret (g := w.heap.size + 2) (by rfl) (by rfl) (e1.set C n cc (some ⟨gg, 0, none⟩) 2 cc' pl) ⟨C, cc, some ⟨gg, 0, none⟩, cc', rfl, (((e3.setBelow lW3 _).setBelow lW3 _).setBelow lW3 _).lower hbW.size, (((e4.setBelow lW3 _).setBelow lW3 _).setBelow lW3 _).lower hbW.size, AP, ?_⟩
            have b9 := hbW.trans (e5.mono hbW.size)
            exact ((b9.setCell (by show _ ≤ w.heap.size + 2; omega) _).setCell (by show _ ≤ w.heap.size + 2; omega) _).setCell (by show _ ≤ w.heap.size + 2; omega) _
        · go_simp
          (go_at_call 156; refine (side_is2 p s st sk re fe ag c sl 1 s1 _ _ _ xs HS1.out _ (by exact HI.out.sub bt) HQ.out q0 q1 HK.out (by omega) (by omega)).mono ?_; rintro e w5 ⟨rfl, hb⟩; have bt := bt.trans (hb.mono bt.size); have X0 := HR.out.below bt lr0; have X1 := HP1.out.below bt lr1; have X2 := HP.out.below bt lV; have XC := HC.out.below bt (Nat.le_refl _); obtain ⟨r0, r1, r2, r3, r4, r5, r6, r7, r8⟩ := X0.flat; obtain ⟨y0', y1', y2'⟩ := X1.flat; obtain ⟨p0, p1, p2⟩ := X2.flat; have kq := XC.cell (k := 1) rfl; have fq := XC.free 1)
          (try go_wp2_with fail)
          refine hK.out _ _ (by (first | (refine ⟨?_, ?_, ?_, ?_, ?_, ?_, ?_, ?_, ?_, ?_, ?_⟩ <;> assumption) | go_keep)) (fun hHeld => ?_)
          clear hK K
          (try simp only [Act.put, List.setIfInBounds_toArray, List.set_cons_zero, List.set_cons_succ])
          refine wpAnyH_ready (rs := [4]) (by kernel_rfl) (by simp) ?_
          refine AllReadyH.cons (o := ⟨some 24, _, _, _, _, _⟩) rfl (fun K hK => ?_) AllReadyH.nil
          · go_simp
            refine hK.out _ _ (by (first | (refine ⟨?_, ?_, ?_, ?_, ?_, ?_, ?_, ?_, ?_, ?_, ?_⟩ <;> assumption) | go_keep)) (fun hHeld => ?_)
            clear hK K
            (try simp only [Act.put, List.setIfInBounds_toArray, List.set_cons_zero, List.set_cons_succ])
            have WR := WR.out
            refine wpAnyH_take (i := 10) (oi := ⟨some 30, _, _, _, _, _⟩) (v := .int .i64 (x1 + s1)) rfl (by kernel_rfl) (by kernel_rfl) (by kernel_rfl) (fun _ _ _ h => h) (Or.inl ⟨by rfl, by (intro w hSw; (try dsimp only at hSw); go_simp)⟩) hHeld ?_
            (try simp only [Act.put, List.setIfInBounds_toArray, List.set_cons_zero, List.set_cons_succ])
            refine wpAnyH_take (i := 11) (oi := ⟨some 31, _, _, _, _, _⟩) (v := .pointer (some ⟨gg, 1, none⟩)) rfl (by kernel_rfl) (by kernel_rfl) (by kernel_rfl) (fun _ _ _ h => h) (Or.inl ⟨by rfl, by (intro w hSw; (try dsimp only at hSw); go_simp)⟩) hHeld ?_
            (try simp only [Act.put, List.setIfInBounds_toArray, List.set_cons_zero, List.set_cons_succ])
            refine wpAnyH_ready (rs := [12]) (by kernel_rfl) (by simp) ?_
            refine AllReadyH.cons (o := ⟨none, _, _, _, _, _⟩) rfl (fun K hK => ?_) AllReadyH.nil
            go_simp
            refine hK.out _ _ (by (first | (refine ⟨?_, ?_, ?_, ?_, ?_, ?_, ?_, ?_, ?_, ?_, ?_⟩ <;> assumption) | go_keep)) (fun hHeld => ?_)
            clear hK K
            (try simp only [Act.put, List.setIfInBounds_toArray, List.set_cons_zero, List.set_cons_succ])
            refine wpAnyH_done (by kernel_rfl) ?_ _
            go_upto_region 6 with fail
            refine wp_namedG (fun w' => BoxAt w' (w.heap.size + 2) ∧ PosAt w' v 0 C n cc (some ⟨gg, 0, none⟩) 2 cc' pl ∧ Own w' W.heap.size C n cc (List.replicate n 0) ∧ Own w' W.heap.size (some ⟨gg, 0, none⟩) 2 cc' [x0 + s0, x1 + s1] ∧ Below W.heap.size W w') ?_ ?_
            · exact ⟨BoxAt.other (RX.out.keep bt) _ m5 _, PosAt.other X2 _ m1 _, Own.setNe (HZ.out.below bt (Nat.le_refl _)) (fun e => AP gg e rfl) _, (XC.stored 1 _).1, (HB.out.trans (bt.mono HB.out.size)).setCell (by exact hg1) _⟩
            clear X0 X1 X2 XC y0' y1' y2' p0 p1 p2 kq fq bt WR hHeld r0 r1 r2 r3 r4 r5 r6 r7 r8
            clear HP HZ HC HB RX HR HP1 HI lr0 lr1 lV
            rintro W3 ⟨e1, e2, e3, e4, e5⟩
            obtain ⟨f0, f1, f2, f3, f4, f5⟩ := e1.flat
            obtain ⟨p0, p1, p2⟩ := e2.flat
            go_wp2_with fail
            rw [rounds_succ]
            go_wp2_with fail
            refine settled_ret (g := w.heap.size + 2) (by rfl) (by rfl) (e1.set C n cc (some ⟨gg, 0, none⟩) 2 cc' pl) ⟨C, cc, some ⟨gg, 0, none⟩, cc', rfl, (((e3.setBelow lW3 _).setBelow lW3 _).setBelow lW3 _).lower hbW.size, (((e4.setBelow lW3 _).setBelow lW3 _).setBelow lW3 _).lower hbW.size, AP, ?_⟩
            have b9 := hbW.trans (e5.mono hbW.size)
            exact ((b9.setCell (by show _ ≤ w.heap.size + 2; omega) _).setCell (by show _ ≤ w.heap.size + 2; omega) _).setCell (by show _ ≤ w.heap.size + 2; omega) _
end Go.Proofs.Ytnanaldolnehiaa
