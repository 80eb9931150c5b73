/-
  The position at the beginning: l04Start, start.
-/
import Derived.Test.YtnanaldolnehiaaTurn2
import Derived.Deep.RegionLaw
set_option linter.unusedSimpArgs false
set_option linter.unusedVariables false
namespace Go.Proofs.Ytnanaldolnehiaa
open Go.ChangeShapes Go.WideShapes Go.RowKit Go.Deep

/-- A list of one number that is made just now. -/
theorem one_new (w : World) (t : TypeId) (b : Nat) (x : Int) (hb : b = w.heap.size) : Ints (w.alloc (.cells #[.int .i64 x] t)) (b + 1) (some ⟨b, 0, none⟩) 1 1 [x] := by
  subst hb
  refine ⟨rfl, by omega, by omega, fun e => by (cases e), fun _ => ⟨_, 0, rfl, by omega, fun j y hy => ?_⟩⟩
  have hj : j = 0 := by
    have := (List.getElem?_eq_some_iff.1 hy).1
    simp at this
    omega
  subst hj
  simp at hy
  subst hy
  simp [World.cell?_alloc_new]
theorem PosAt.set0 {w : World} {b : Nat} {A A' : Option Addr} {n c n' c' : Nat} {pl : Int} (h : PosAt w b 0 A n c A' n' c' pl) (A2 : Option Addr) (n2 c2 : Nat) : PosAt (w.setCell ⟨b, 0, none⟩ (.slice A2 n2 c2)) b 0 A2 n2 c2 A' n' c' pl := by
  obtain ⟨h0, h1, h2⟩ := h.flat
  refine ⟨?_, ?_, ?_⟩ <;> simp [go_sem, h0, h1, h2]
theorem rep_snoc (k : Nat) (s : Int) : List.replicate k s ++ [s] = List.replicate (k + 1) s := by
  rw [List.replicate_succ']
/-- The state of the loop that fills the pits. -/
def StartL (W : World) (B : Nat) (S : Addr) (m : Nat) (s : Int) (k : Nat) (wr : World) : Prop :=
  k ≤ m ∧ ∃ A c, PosAt wr B 0 A k c (some S) 2 2 0 ∧ (∀ i, wr.frozen? ⟨B, i, none⟩ = false) ∧ Own wr (B + 1) A k c (List.replicate k s) ∧ Below B W wr

set_option maxRecDepth 100000 in
set_option maxHeartbeats 2000000 in
theorem start_any (p s : Int) (st sk re fe ag : Bool) (c sl : Int) (w : World) (m : Nat) (hm : p = (m : Int)) (q0 : 2 ≤ p) (q1 : p ≤ 8) :
    Calls Try.prog 135 #[.agg #[.int .i64 p, .int .i64 s, .bool st, .bool sk, .bool re, .bool fe, .bool ag, .int .i64 c, .int .i64 sl]] w (RetPos w (m + m) 2 (List.replicate (m + m) s) [0, 0] 0) := by
  subst hm
  have P0 := (RuAt.box w 31 (m : Int) s st sk re fe ag c sl).alloc (.cells #[.slice none 0 0, .slice none 0 0, .int .i64 0] 28)
  have P1 := (P0.alloc (.cells #[.int .i64 0, .int .i64 0] 2)).alloc (.cells #[.slice none 0 0, .slice (some ⟨w.heap.size + 1 + 1, 0, none⟩) 2 2, .int .i64 0] 28)
  have P2 := PosAt.box (((w.alloc (.cells #[.int .i64 (m : Int), .int .i64 s, .bool st, .bool sk, .bool re, .bool fe, .bool ag, .int .i64 c, .int .i64 sl] 31)).alloc (.cells #[.slice none 0 0, .slice none 0 0, .int .i64 0] 28)).alloc (.cells #[.int .i64 0, .int .i64 0] 2)) 28 none 0 0 (some ⟨w.heap.size + 1 + 1, 0, none⟩) 2 2 0
  have P3 := PosAt.box (w.alloc (.cells #[.int .i64 (m : Int), .int .i64 s, .bool st, .bool sk, .bool re, .bool fe, .bool ag, .int .i64 c, .int .i64 sl] 31)) 28 none 0 0 none 0 0 0
  have F3 := frozen_new (w.alloc (.cells #[.int .i64 (m : Int), .int .i64 s, .bool st, .bool sk, .bool re, .bool fe, .bool ag, .int .i64 c, .int .i64 sl] 31)) #[.slice none 0 0, .slice none 0 0, .int .i64 0] 28
  have F2 := frozen_new (((w.alloc (.cells #[.int .i64 (m : Int), .int .i64 s, .bool st, .bool sk, .bool re, .bool fe, .bool ag, .int .i64 c, .int .i64 sl] 31)).alloc (.cells #[.slice none 0 0, .slice none 0 0, .int .i64 0] 28)).alloc (.cells #[.int .i64 0, .int .i64 0] 2)) #[.slice none 0 0, .slice (some ⟨w.heap.size + 1 + 1, 0, none⟩) 2 2, .int .i64 0] 28
  have hW : ∃ W1, W1 = (((w.alloc (.cells #[.int .i64 (m : Int), .int .i64 s, .bool st, .bool sk, .bool re, .bool fe, .bool ag, .int .i64 c, .int .i64 sl] 31)).alloc (.cells #[.slice none 0 0, .slice none 0 0, .int .i64 0] 28)).alloc (.cells #[.int .i64 0, .int .i64 0] 2)).alloc (.cells #[.slice none 0 0, .slice (some ⟨w.heap.size + 1 + 1, 0, none⟩) 2 2, .int .i64 0] 28) := ⟨_, rfl⟩
  obtain ⟨W1, hW⟩ := hW
  have hs1 : W1.heap.size = w.heap.size + 4 := by rw [hW]; simp
  have HS0 : Hid (StartL W1 (w.heap.size + 1 + 1 + 1) ⟨w.heap.size + 1 + 1, 0, none⟩ (m + m) s 0 W1) := by
    refine ⟨by omega, none, 0, ?_, ?_, own_nil _ _, Below.refl _ _⟩
    · rw [hW]; simpa using P2
    · rw [hW]; simpa using F2
  have hs3 : (w.alloc (.cells #[.int .i64 (m : Int), .int .i64 s, .bool st, .bool sk, .bool re, .bool fe, .bool ag, .int .i64 c, .int .i64 sl] 31)).heap.size = w.heap.size + 1 := by simp
  have hs4 : ((w.alloc (.cells #[.int .i64 (m : Int), .int .i64 s, .bool st, .bool sk, .bool re, .bool fe, .bool ag, .int .i64 c, .int .i64 sl] 31)).alloc (.cells #[.slice none 0 0, .slice none 0 0, .int .i64 0] 28)).heap.size = w.heap.size + 1 + 1 := by simp
  have P3 := (P3.alloc (.cells #[.int .i64 0, .int .i64 0] 2)).alloc (.cells #[.slice none 0 0, .slice (some ⟨w.heap.size + 1 + 1, 0, none⟩) 2 2, .int .i64 0] 28)
  have F3 : ∀ i, W1.frozen? ⟨w.heap.size + 1, i, none⟩ = false := fun i => by
    rw [hW, frozen?_alloc_cells, frozen?_alloc_cells]
    have := F3 i
    rwa [hs3] at this
  have S0 := Lib.hid (own_two ((w.alloc (.cells #[.int .i64 (m : Int), .int .i64 s, .bool st, .bool sk, .bool re, .bool fe, .bool ag, .int .i64 c, .int .i64 sl] 31)).alloc (.cells #[.slice none 0 0, .slice none 0 0, .int .i64 0] 28)) (w.heap.size + 1 + 1) (w.heap.size + 1 + 1) 0 0 (by simp) (by simp))
  have hb0 : Hid (Below (w.heap.size + 1 + 1 + 1) (((w.alloc (.cells #[.int .i64 (m : Int), .int .i64 s, .bool st, .bool sk, .bool re, .bool fe, .bool ag, .int .i64 c, .int .i64 sl] 31)).alloc (.cells #[.slice none 0 0, .slice none 0 0, .int .i64 0] 28)).alloc (.cells #[.int .i64 0, .int .i64 0] 2)) W1) := by
    rw [hW]
    exact Below.alloc (Below.refl _ _) (by simp) _
  have bW : Below w.heap.size w W1 := by rw [hW]; exact (by repeat (first | with_reducible exact Below.refl _ _ | with_reducible assumption | with_reducible refine sub_alloc ?_ _ | (with_reducible refine sub_setCell2 ?_ ?_ _; (focus (first | (simp; done) | (simp <;> omega)))) | with_reducible refine sub_drew ?_ | with_reducible refine below_drewN ?_ _ | with_reducible refine sub_step (by assumption) ?_ (by first | rfl | (simp; done)) | exact Below.refl _ _ | assumption | refine sub_alloc ?_ _ | refine sub_setCell ?_ (by simp <;> omega) _ | refine sub_drew ?_ | refine below_drewN ?_ _ | refine sub_step (by assumption) ?_ (by first | rfl | (simp; done))))
  rw [← hW, hs3] at P3
  rw [← hW] at P1
  go_enter Try.func135, Try.ntmps135
  go_wp2
  rw [← hW]
  go_loopw [9] (fun i wr => ∃ k : Nat, i = .int .i64 k ∧ StartL W1 (w.heap.size + 1 + 1 + 1) ⟨w.heap.size + 1 + 1, 0, none⟩ (m + m) s k wr) (fun i _ => m + m - (intOf i).toNat)
  case atStart => exact ⟨0, rfl, HS0.out⟩
  case round =>
    obtain ⟨k, rfl, hk, A, cc, X, hfz, ho, hbl⟩ := hrel
    have lx := X.lt
    have hbs := hbl.size
    obtain ⟨d0, d1, d2⟩ := X.flat
    have YR := P1.below hbl (by omega)
    obtain ⟨c0, c1, c2, c3, c4, c5, c6, c7, c8⟩ := YR.flat
    by_cases hlt : k < m + m
    · have hor := Lib.hid (ho.alloc (.cells #[.int .i64 s] 2))
      have hx1 := Lib.hid (one_new wr 2 wr.heap.size s rfl)
      have HX := Lib.hid X
      have HF := Lib.hid hfz
      have HB := Lib.hid hbl
      have HO := Lib.hid ho
      have i0 : (0 : Int) ≤ (k : Int) := by omega
      have i1 : (k : Int) < (m : Int) + (m : Int) := by omega
      have f0 := hfz 0
      clear ho hbl X hfz YR
      go_wp2_with (at_builtin; refine list_append64 rfl (.tmp 12) (.tmp 15) rfl _ A k cc (List.replicate k s) (some ⟨wr.heap.size, 0, none⟩) 1 1 _ [s] (by simp [Act.eval, Act.put]) (by simp [Act.eval, Act.put]) (by exact hor.out) (by exact hx1.out) (by omega) (by omega) (by simp; omega) ?_; intro A2 u2 w2 ho2 hg2; have hx := Below.grown (B := w.heap.size + 1 + 1 + 1 + 1) ((Below.refl _ _).alloc (by omega) (.cells #[.int .i64 s] 2)) hg2 (by simp; omega) (fun g e => (own_block hor.out e).2.1); have X2 := HX.out.below hx (by omega); obtain ⟨d0, d1, d2⟩ := X2.flat; have F2 : ∀ i, w2.frozen? ⟨w.heap.size + 1 + 1 + 1, i, none⟩ = false := (fun i => (hx.frozen (p := ⟨w.heap.size + 1 + 1 + 1, i, none⟩) (by simp)).trans (HF.out i)); have f0 := F2 0)
      go_roundw
      case rel => exact ⟨k + 1, by go_num, by omega, A2, u2, X2.set0 _ _ _, fun i => by have := F2 i; simpa using this, Own.setBelow (by have := ho2; rwa [rep_snoc] at this) (by simp) _, (Below.trans HB.out (hx.mono (by omega))).setCell (by simp) _⟩
      case measure => simp [intOf]; omega
    · obtain rfl : k = m + m := by omega
      have Z3 := P3.below hbl (by omega)
      obtain ⟨g0, g1, g2⟩ := Z3.flat
      have r0 := (hbl.frozen (p := ⟨w.heap.size + 1, 0, none⟩) (by simp)).trans (F3 0)
      have r1 := (hbl.frozen (p := ⟨w.heap.size + 1, 1, none⟩) (by simp)).trans (F3 1)
      have r2 := (hbl.frozen (p := ⟨w.heap.size + 1, 2, none⟩) (by simp)).trans (F3 2)
      have os := Lib.hid (S0.out.below (hb0.out.trans hbl) (by simp))
      have HOA := Lib.hid ho
      have bw : Below w.heap.size w wr := Below.trans bW (hbl.mono (by omega))
      clear YR ho
      go_wp2
      refine bodyPost_ret (v := .agg #[.slice A (m + m) cc, .slice (some ⟨w.heap.size + 1 + 1, 0, none⟩) 2 2, .int .i64 0]) (by simp [results, Try.results135, go_sem, g0, g1, g2]) rfl ⟨A, cc, _, 2, rfl, ?_, ?_, ?_, (by repeat (first | with_reducible exact Below.refl _ _ | with_reducible assumption | with_reducible refine sub_alloc ?_ _ | (with_reducible refine sub_setCell2 ?_ ?_ _; (focus (first | (simp; done) | (simp <;> omega)))) | with_reducible refine sub_drew ?_ | with_reducible refine below_drewN ?_ _ | with_reducible refine sub_step (by assumption) ?_ (by first | rfl | (simp; done)) | exact Below.refl _ _ | assumption | refine sub_alloc ?_ _ | refine sub_setCell ?_ (by simp <;> omega) _ | refine sub_drew ?_ | refine below_drewN ?_ _ | refine sub_step (by assumption) ?_ (by first | rfl | (simp; done))))⟩
      · refine Own.lower (base := w.heap.size + 1 + 1 + 1 + 1) ?_ (by omega)
        repeat (refine Own.setBelow ?_ (by simp) _)
        exact HOA.out
      · refine Own.lower (base := w.heap.size + 1 + 1) ?_ (by omega)
        repeat (refine Own.setBelow ?_ (by simp) _)
        exact os.out
      · rintro g rfl e
        rcases HOA.out.form with ⟨e1, _⟩ | ⟨g1, e1, h1, _⟩
        · cases e1
        · injection e1 with e1
          injection e1 with e1
          injection e with e
          injection e with e
          omega
set_option maxRecDepth 100000 in
set_option maxHeartbeats 2000000 in
theorem l04Start_any (b o : Nat) (p s : Int) (st sk re fe ag : Bool) (c sl : Int) (w : World) (hr : RuAt w b o ⟨p, s, st, sk, re, fe, ag, c, sl⟩) (m : Nat) (hm : p = (m : Int)) (q0 : 2 ≤ p) (q1 : p ≤ 8) :
    Calls Try.prog 165 #[.pointer (some ⟨b, o, none⟩)] w (RetPos w (m + m) 2 (List.replicate (m + m) s) [0, 0] 0) := by
  subst hm
  have P0 := hr.alloc (.cells #[.slice none 0 0, .slice none 0 0, .int .i64 0] 28)
  have P1 := (P0.alloc (.cells #[.int .i64 0, .int .i64 0] 2)).alloc (.cells #[.slice none 0 0, .slice (some ⟨w.heap.size + 1, 0, none⟩) 2 2, .int .i64 0] 28)
  have P2 := PosAt.box ((w.alloc (.cells #[.slice none 0 0, .slice none 0 0, .int .i64 0] 28)).alloc (.cells #[.int .i64 0, .int .i64 0] 2)) 28 none 0 0 (some ⟨w.heap.size + 1, 0, none⟩) 2 2 0
  have P3 := PosAt.box w 28 none 0 0 none 0 0 0
  have F3 := frozen_new w #[.slice none 0 0, .slice none 0 0, .int .i64 0] 28
  have F2 := frozen_new ((w.alloc (.cells #[.slice none 0 0, .slice none 0 0, .int .i64 0] 28)).alloc (.cells #[.int .i64 0, .int .i64 0] 2)) #[.slice none 0 0, .slice (some ⟨w.heap.size + 1, 0, none⟩) 2 2, .int .i64 0] 28
  have hW : ∃ W1, W1 = ((w.alloc (.cells #[.slice none 0 0, .slice none 0 0, .int .i64 0] 28)).alloc (.cells #[.int .i64 0, .int .i64 0] 2)).alloc (.cells #[.slice none 0 0, .slice (some ⟨w.heap.size + 1, 0, none⟩) 2 2, .int .i64 0] 28) := ⟨_, rfl⟩
  obtain ⟨W1, hW⟩ := hW
  have hs1 : W1.heap.size = w.heap.size + 3 := by rw [hW]; simp
  have HS0 : Hid (StartL W1 (w.heap.size + 1 + 1) ⟨w.heap.size + 1, 0, none⟩ (m + m) s 0 W1) := by
    refine ⟨by omega, none, 0, ?_, ?_, own_nil _ _, Below.refl _ _⟩
    · rw [hW]; simpa using P2
    · rw [hW]; simpa using F2
  have hlb := hr.lt
  have P3 := (P3.alloc (.cells #[.int .i64 0, .int .i64 0] 2)).alloc (.cells #[.slice none 0 0, .slice (some ⟨w.heap.size + 1, 0, none⟩) 2 2, .int .i64 0] 28)
  have F3 : ∀ i, W1.frozen? ⟨w.heap.size, i, none⟩ = false := fun i => by
    rw [hW, frozen?_alloc_cells, frozen?_alloc_cells]
    have := F3 i
    exact this
  have S0 := Lib.hid (own_two (w.alloc (.cells #[.slice none 0 0, .slice none 0 0, .int .i64 0] 28)) (w.heap.size + 1) (w.heap.size + 1) 0 0 (by simp) (by simp))
  have hb0 : Hid (Below (w.heap.size + 1 + 1) ((w.alloc (.cells #[.slice none 0 0, .slice none 0 0, .int .i64 0] 28)).alloc (.cells #[.int .i64 0, .int .i64 0] 2)) W1) := by
    rw [hW]
    exact Below.alloc (Below.refl _ _) (by simp) _
  have bW : Below w.heap.size w W1 := by rw [hW]; exact (by repeat (first | with_reducible exact Below.refl _ _ | with_reducible assumption | with_reducible refine sub_alloc ?_ _ | (with_reducible refine sub_setCell2 ?_ ?_ _; (focus (first | (simp; done) | (simp <;> omega)))) | with_reducible refine sub_drew ?_ | with_reducible refine below_drewN ?_ _ | with_reducible refine sub_step (by assumption) ?_ (by first | rfl | (simp; done)) | exact Below.refl _ _ | assumption | refine sub_alloc ?_ _ | refine sub_setCell ?_ (by simp <;> omega) _ | refine sub_drew ?_ | refine below_drewN ?_ _ | refine sub_step (by assumption) ?_ (by first | rfl | (simp; done))))
  rw [← hW] at P3
  rw [← hW] at P1
  go_enter Try.func165, Try.ntmps165
  go_wp2
  rw [← hW]
  go_loopw [4] (fun i wr => ∃ k : Nat, i = .int .i64 k ∧ StartL W1 (w.heap.size + 1 + 1) ⟨w.heap.size + 1, 0, none⟩ (m + m) s k wr) (fun i _ => m + m - (intOf i).toNat)
  case atStart => exact ⟨0, rfl, HS0.out⟩
  case round =>
    obtain ⟨k, rfl, hk, A, cc, X, hfz, ho, hbl⟩ := hrel
    have lx := X.lt
    have hbs := hbl.size
    obtain ⟨d0, d1, d2⟩ := X.flat
    have YR := P1.below hbl (by omega)
    have c0 := YR.1
    have c1 := YR.2.1
    dsimp only at c0 c1
    by_cases hlt : k < m + m
    · have hor := Lib.hid (ho.alloc (.cells #[.int .i64 s] 2))
      have hx1 := Lib.hid (one_new wr 2 wr.heap.size s rfl)
      have HX := Lib.hid X
      have HF := Lib.hid hfz
      have HB := Lib.hid hbl
      have HO := Lib.hid ho
      have i0 : (0 : Int) ≤ (k : Int) := by omega
      have i1 : (k : Int) < (m : Int) + (m : Int) := by omega
      have f0 := hfz 0
      clear ho hbl X hfz YR
      go_wp2_with fail
      go_region_law (refine step_append64 rfl (.tmp 17) (.tmp 22) rfl _ A k cc (List.replicate k s) (some ⟨wr.heap.size, 0, none⟩) 1 1 _ [s] (by simp [Act.eval, Act.put]) (by simp [Act.eval, Act.put]) (by exact hor.out) (by exact hx1.out) (by omega) (by omega) (by simp; omega) ?_; intro A2 u2 w2 ho2 hg2; have hx : Below (w.heap.size + 1 + 1 + 1) wr w2 := Below.grown (by first | exact (Below.refl _ _).alloc (by omega) _ | exact ((Below.refl _ _).alloc (by omega) _).drew | exact (Below.refl _ _).drew.alloc (by simp; omega) _) hg2 (by simp; omega) (fun g e => (own_block hor.out e).2.1); have X2 := HX.out.below hx (by omega); obtain ⟨d0, d1, d2⟩ := X2.flat; have F2 : ∀ i, w2.frozen? ⟨w.heap.size + 1 + 1, i, none⟩ = false := (fun i => (hx.frozen (p := ⟨w.heap.size + 1 + 1, i, none⟩) (by simp <;> omega)).trans (HF.out i)); have f0 := F2 0)
      all_goals go_wp2_with fail
      all_goals
        go_roundw
        case rel => exact ⟨k + 1, by go_num, by omega, A2, u2, X2.set0 _ _ _, fun i => by have := F2 i; simpa using this, Own.setBelow (by have := ho2; rwa [rep_snoc] at this) (by simp) _, (Below.trans HB.out (hx.mono (by omega))).setCell (by simp) _⟩
        case measure => simp [intOf]; omega
    · obtain rfl : k = m + m := by omega
      have Z3 := P3.below hbl (by omega)
      obtain ⟨g0, g1, g2⟩ := Z3.flat
      have r0 := (hbl.frozen (p := ⟨w.heap.size, 0, none⟩) (by simp <;> omega)).trans (F3 0)
      have r1 := (hbl.frozen (p := ⟨w.heap.size, 1, none⟩) (by simp <;> omega)).trans (F3 1)
      have r2 := (hbl.frozen (p := ⟨w.heap.size, 2, none⟩) (by simp <;> omega)).trans (F3 2)
      have os := Lib.hid (S0.out.below (hb0.out.trans hbl) (by simp))
      have HOA := Lib.hid ho
      have bw : Below w.heap.size w wr := Below.trans bW (hbl.mono (by omega))
      clear YR ho
      go_wp2
      refine bodyPost_ret (v := .agg #[.slice A (m + m) cc, .slice (some ⟨w.heap.size + 1, 0, none⟩) 2 2, .int .i64 0]) (by simp [results, Try.results165, go_sem, g0, g1, g2]) rfl ⟨A, cc, _, 2, rfl, ?_, ?_, ?_, (by repeat (first | with_reducible exact Below.refl _ _ | with_reducible assumption | with_reducible refine sub_alloc ?_ _ | (with_reducible refine sub_setCell2 ?_ ?_ _; (focus (first | (simp; done) | (simp <;> omega)))) | with_reducible refine sub_drew ?_ | with_reducible refine below_drewN ?_ _ | with_reducible refine sub_step (by assumption) ?_ (by first | rfl | (simp; done)) | exact Below.refl _ _ | assumption | refine sub_alloc ?_ _ | refine sub_setCell ?_ (by simp <;> omega) _ | refine sub_drew ?_ | refine below_drewN ?_ _ | refine sub_step (by assumption) ?_ (by first | rfl | (simp; done))))⟩
      · refine Own.lower (base := w.heap.size + 1 + 1 + 1) ?_ (by omega)
        repeat (refine Own.setBelow ?_ (by simp <;> omega) _)
        exact HOA.out
      · refine Own.lower (base := w.heap.size + 1) ?_ (by omega)
        repeat (refine Own.setBelow ?_ (by simp <;> omega) _)
        exact os.out
      · rintro g rfl e
        rcases HOA.out.form with ⟨e1, _⟩ | ⟨g1, e1, h1, _⟩
        · cases e1
        · injection e1 with e1
          injection e1 with e1
          injection e with e
          injection e with e
          omega
end Go.Proofs.Ytnanaldolnehiaa
