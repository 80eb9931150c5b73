/-
  Who has more than half of all seeds: MajorityOf, NeededFor.
-/
import Derived.Test.YtnanaldolnehiaaWhole
import Derived.Test.YtnanaldolnehiaaSide2
set_option linter.unusedSimpArgs false
set_option linter.unusedVariables false
namespace Go.Proofs.Ytnanaldolnehiaa
open Go.ChangeShapes Go.WideShapes Go.RowKit Go.Deep

theorem Ints.two {w : World} {B bb oo u : Nat} {x0 x1 : Int} (h : Ints w B (some ⟨bb, oo, none⟩) 2 u [x0, x1]) : w.cell? ⟨bb, oo, none⟩ = some (.int .i64 x0) ∧ w.cell? ⟨bb, oo + 1, none⟩ = some (.int .i64 x1) := by
  obtain ⟨b', o', e, -, hc⟩ := h.at_ (by omega)
  injection e with e
  injection e with e1 e2
  subst e1
  subst e2
  exact ⟨hc 0 x0 rfl, hc 1 x1 rfl⟩
theorem quiet_of2 {P : Program} {f : FuncId} {args : Array Value} {w : World} {k n : Nat} {v : Value} (h : Calls P f args (w.drewN (k + n)) fun e w' => e = .returned v ∧ ∃ m, w' = (w.drewN (k + n)).drewN m) :
    Calls P f args (w.drewN (k + n)) fun e w'' => e = .returned v ∧ ∃ m, w'' = w.drewN (k + m) :=
  h.mono fun _ _ ⟨he, m, hm⟩ => ⟨he, n + m, by rw [hm, World.drewN_drewN, Nat.add_assoc]⟩
/-- The player with more than half of all seeds. -/
def majV (t x0 x1 : Int) : Int := if t < 2 * x0 then 0 else if t < 2 * x1 then 1 else -1
def majP (xs xs' : List Int) : Int := majV (xs.sum + xs'.sum) (xs'.getD 0 0) (xs'.getD 1 0)

set_option maxHeartbeats 400000 in
theorem l09All_any (b o : Nat) (A A' : Option Addr) (n u n' u' : Nat) (xs xs' : List Int) (pl v : Int) (hv : xs.sum + xs'.sum = v) (w : World) (hp : PosAt w b o A n u A' n' u' pl) (h : Ints w w.heap.size A n u xs) (h' : Ints w w.heap.size A' n' u' xs') (hn : n ≤ 4294967296) (hn' : n' ≤ 4294967296)
    (z0 : sumL xs = xs.sum) (z1 : sumL xs' = xs'.sum) (b0 : 0 ≤ xs.sum) (b1 : 0 ≤ xs'.sum) (b2 : xs.sum + xs'.sum ≤ 96) :
    Calls Try.prog 150 #[.pointer (some ⟨b, o, none⟩)] w fun e w' => e = .returned (.int .i64 v) ∧ ∃ m, w' = w.drewN m := by
  subst hv
  obtain ⟨p0, p1, p2⟩ := hp
  have HH := Lib.hid h
  have HH' := Lib.hid h'
  have Z0 := Lib.hid z0
  have Z1 := Lib.hid z1
  clear h h' z0 z1
  go_enter Try.func150, Try.ntmps150
  go_wp2_with fail
  go_quiet ((first | (go_at_call_of 138 (Value.slice A n u); exact Calls.quiet_of (l04Sum_is _ _ _ _ xs _ Z0.out _ (HH.out.drewN _) hn)) | (go_at_call_of 138 (Value.slice A' n' u'); exact Calls.quiet_of (l04Sum_is _ _ _ _ xs' _ Z1.out _ (HH'.out.drewN _) hn'))))
  go_wp2_with fail
  go_ret
  exact ⟨rfl, _, rfl⟩

set_option maxHeartbeats 1000000 in
theorem l09Majority_any (b o : Nat) (A A' : Option Addr) (n u u' : Nat) (xs : List Int) (x0 x1 pl : Int) (w : World) (hp : PosAt w b o A n u A' 2 u' pl) (h : Ints w w.heap.size A n u xs) (h' : Ints w w.heap.size A' 2 u' [x0, x1]) (hn : n ≤ 4294967296)
    (z0 : sumL xs = xs.sum) (z1 : sumL [x0, x1] = [x0, x1].sum) (b0 : 0 ≤ xs.sum) (b1 : 0 ≤ [x0, x1].sum) (b2 : xs.sum + [x0, x1].sum ≤ 96) (g0 : 0 ≤ x0) (g1 : x0 ≤ 96) (g2 : 0 ≤ x1) (g3 : x1 ≤ 96) :
    Calls Try.prog 152 #[.pointer (some ⟨b, o, none⟩)] w fun e w' => e = .returned (.int .i64 (majP xs [x0, x1])) ∧ ∃ m, w' = w.drewN m := by
  have HP := Lib.hid hp
  obtain ⟨p0, p1, p2⟩ := hp
  have HH := Lib.hid h
  have HH' := Lib.hid h'
  have Z0 := Lib.hid z0
  have Z1 := Lib.hid z1
  obtain ⟨t, ht⟩ : ∃ t, xs.sum + [x0, x1].sum = t := ⟨_, rfl⟩
  have HT := Lib.hid ht
  have B0 := Lib.hid b0
  have B1 := Lib.hid b1
  have B2 := Lib.hid b2
  have ht0 : 0 ≤ t := by omega
  have ht1 : t ≤ 96 := by omega
  obtain ⟨bb, oo, rfl, hbb, -⟩ := h'.at_ (by omega)
  obtain ⟨y0, y1⟩ := h'.two
  have hv : majP xs [x0, x1] = majV t x0 x1 := by rw [← HT.out]; rfl
  rw [hv]
  clear hv h h' z0 z1 ht b0 b1 b2
  by_cases e1 : t < 2 * x0
  · have hv : majV t x0 x1 = 0 := by simp [majV, e1]
    rw [hv]
    clear hv
    go_enter Try.func152, Try.ntmps152
    go_wp2_with fail
    refine wp_loop_rounds 1 ?_; rw [rounds_succ]
    go_wp2_with fail
    go_quiet ((go_at_call 150; exact Calls.quiet_of (l09All_any _ _ _ _ _ _ _ _ xs [x0, x1] pl t HT.out _ HP.out (HH.out.drewN _) (HH'.out.drewN _) hn (by omega) Z0.out Z1.out B0.out B1.out B2.out)))
    go_wp2_with fail
    go_ret
    exact ⟨rfl, _, rfl⟩
  replace e1 : 2 * x0 ≤ t := by omega
  by_cases e2 : t < 2 * x1
  · have hv : majV t x0 x1 = 1 := by
      have : ¬ (t < 2 * x0) := by omega
      simp [majV, this, e2]
    rw [hv]
    clear hv
    go_enter Try.func152, Try.ntmps152
    go_wp2_with fail
    refine wp_loop_rounds 3 ?_; rw [rounds_succ]
    go_wp2_with fail
    go_quiet ((go_at_call 150; exact Calls.quiet_of (l09All_any _ _ _ _ _ _ _ _ xs [x0, x1] pl t HT.out _ HP.out (HH.out.drewN _) (HH'.out.drewN _) hn (by omega) Z0.out Z1.out B0.out B1.out B2.out)))
    go_wp2_with fail
    rw [rounds_succ]
    go_wp2_with fail
    go_quiet ((go_at_call 150; exact quiet_of2 (l09All_any _ _ _ _ _ _ _ _ xs [x0, x1] pl t HT.out _ HP.out (HH.out.drewN _) (HH'.out.drewN _) hn (by omega) Z0.out Z1.out B0.out B1.out B2.out)))
    go_wp2_with fail
    (try rw [rounds_succ])
    (try go_wp2_with fail)
    go_ret
    first | exact ⟨rfl, _, rfl⟩ | exact ⟨rfl, _, World.drewN_drewN ..⟩
  replace e2 : 2 * x1 ≤ t := by omega
  · have hv : majV t x0 x1 = -1 := by
      have n1 : ¬ (t < 2 * x0) := by omega
      have n2 : ¬ (t < 2 * x1) := by omega
      simp [majV, n1, n2]
    rw [hv]
    clear hv
    go_enter Try.func152, Try.ntmps152
    go_wp2_with fail
    refine wp_loop_rounds 3 ?_; rw [rounds_succ]
    go_wp2_with fail
    go_quiet ((go_at_call 150; exact Calls.quiet_of (l09All_any _ _ _ _ _ _ _ _ xs [x0, x1] pl t HT.out _ HP.out (HH.out.drewN _) (HH'.out.drewN _) hn (by omega) Z0.out Z1.out B0.out B1.out B2.out)))
    go_wp2_with fail
    rw [rounds_succ]
    go_wp2_with fail
    go_quiet ((go_at_call 150; exact quiet_of2 (l09All_any _ _ _ _ _ _ _ _ xs [x0, x1] pl t HT.out _ HP.out (HH.out.drewN _) (HH'.out.drewN _) hn (by omega) Z0.out Z1.out B0.out B1.out B2.out)))
    go_wp2_with fail
    (try rw [rounds_succ])
    (try go_wp2_with fail)
    go_ret
    first | exact ⟨rfl, _, rfl⟩ | exact ⟨rfl, _, World.drewN_drewN ..⟩

set_option maxHeartbeats 1000000 in
theorem majority_any (A A' : Option Addr) (n u u' : Nat) (xs : List Int) (x0 x1 pl : Int) (w : World) (h : Ints w w.heap.size A n u xs) (h' : Ints w w.heap.size A' 2 u' [x0, x1]) (hn : n ≤ 4294967296)
    (z0 : sumV xs = xs.sum) (z1 : sumV [x0, x1] = [x0, x1].sum) (b0 : 0 ≤ xs.sum) (b1 : 0 ≤ [x0, x1].sum) (b2 : xs.sum + [x0, x1].sum ≤ 96) (g0 : 0 ≤ x0) (g1 : x0 ≤ 96) (g2 : 0 ≤ x1) (g3 : x1 ≤ 96) :
    Calls Try.prog 151 #[.agg #[.slice A n u, .slice A' 2 u', .int .i64 pl]] w fun e w' => e = .returned (.int .i64 (majP xs [x0, x1])) ∧ Below w.heap.size w w' := by
  have HH := Lib.hid h
  have HH' := Lib.hid h'
  have Z0 := Lib.hid z0
  have Z1 := Lib.hid z1
  obtain ⟨t, ht⟩ : ∃ t, xs.sum + [x0, x1].sum = t := ⟨_, rfl⟩
  have HT := Lib.hid (show sumV xs + sumV [x0, x1] = t by rw [z0, z1]; exact ht)
  have B0 := Lib.hid b0
  have B1 := Lib.hid b1
  have B2 := Lib.hid b2
  have ht0 : 0 ≤ t := by omega
  have ht1 : t ≤ 96 := by omega
  obtain ⟨bb, oo, rfl, hbb, -⟩ := h'.at_ (by omega)
  obtain ⟨y0, y1⟩ := h'.two
  have hv : majP xs [x0, x1] = majV t x0 x1 := by rw [← ht]; rfl
  rw [hv]
  clear hv h h' z0 z1 ht b0 b1 b2
  have P0 := PosAt.box w 28 A n u (some ⟨bb, oo, none⟩) 2 u' pl
  by_cases e1 : t < 2 * x0
  · have hv : majV t x0 x1 = 0 := by simp [majV, e1]
    rw [hv]
    clear hv
    go_enter Try.func151, Try.ntmps151
    go_wp2_with fail
    refine wp_loop_rounds 1 ?_; rw [rounds_succ]
    go_wp2_with fail
    refine (all_is _ _ _ _ _ _ xs [x0, x1] pl t HT.out _ (by exact HH.out.sub (by repeat (first | with_reducible exact Below.refl _ _ | with_reducible assumption | with_reducible refine sub_alloc ?_ _ | (with_reducible refine sub_setCell2 ?_ ?_ _; (focus (first | (simp; done) | (simp <;> omega)))) | with_reducible refine sub_drew ?_ | with_reducible refine below_drewN ?_ _ | with_reducible refine sub_step (by assumption) ?_ (by first | rfl | (simp; done)) | exact Below.refl _ _ | assumption | refine sub_alloc ?_ _ | refine sub_setCell ?_ (by simp <;> omega) _ | refine sub_drew ?_ | refine below_drewN ?_ _ | refine sub_step (by assumption) ?_ (by first | rfl | (simp; done))))) (by exact HH'.out.sub (by repeat (first | with_reducible exact Below.refl _ _ | with_reducible assumption | with_reducible refine sub_alloc ?_ _ | (with_reducible refine sub_setCell2 ?_ ?_ _; (focus (first | (simp; done) | (simp <;> omega)))) | with_reducible refine sub_drew ?_ | with_reducible refine below_drewN ?_ _ | with_reducible refine sub_step (by assumption) ?_ (by first | rfl | (simp; done)) | exact Below.refl _ _ | assumption | refine sub_alloc ?_ _ | refine sub_setCell ?_ (by simp <;> omega) _ | refine sub_drew ?_ | refine below_drewN ?_ _ | refine sub_step (by assumption) ?_ (by first | rfl | (simp; done))))) hn (by omega)).mono ?_
    rintro e w1 ⟨rfl, hb1⟩
    go_wp2_with fail
    go_ret
    exact ⟨rfl, (by repeat (first | with_reducible exact Below.refl _ _ | with_reducible assumption | with_reducible refine sub_alloc ?_ _ | (with_reducible refine sub_setCell2 ?_ ?_ _; (focus (first | (simp; done) | (simp <;> omega)))) | with_reducible refine sub_drew ?_ | with_reducible refine below_drewN ?_ _ | with_reducible refine sub_step (by assumption) ?_ (by first | rfl | (simp; done)) | exact Below.refl _ _ | assumption | refine sub_alloc ?_ _ | refine sub_setCell ?_ (by simp <;> omega) _ | refine sub_drew ?_ | refine below_drewN ?_ _ | refine sub_step (by assumption) ?_ (by first | rfl | (simp; done))))⟩
  replace e1 : 2 * x0 ≤ t := by omega
  by_cases e2 : t < 2 * x1
  · have hv : majV t x0 x1 = 1 := by
      have : ¬ (t < 2 * x0) := by omega
      simp [majV, this, e2]
    rw [hv]
    clear hv
    go_enter Try.func151, Try.ntmps151
    go_wp2_with fail
    refine wp_loop_rounds 3 ?_; rw [rounds_succ]
    go_wp2_with fail
    refine (all_is _ _ _ _ _ _ xs [x0, x1] pl t HT.out _ (by exact HH.out.sub (by repeat (first | with_reducible exact Below.refl _ _ | with_reducible assumption | with_reducible refine sub_alloc ?_ _ | (with_reducible refine sub_setCell2 ?_ ?_ _; (focus (first | (simp; done) | (simp <;> omega)))) | with_reducible refine sub_drew ?_ | with_reducible refine below_drewN ?_ _ | with_reducible refine sub_step (by assumption) ?_ (by first | rfl | (simp; done)) | exact Below.refl _ _ | assumption | refine sub_alloc ?_ _ | refine sub_setCell ?_ (by simp <;> omega) _ | refine sub_drew ?_ | refine below_drewN ?_ _ | refine sub_step (by assumption) ?_ (by first | rfl | (simp; done))))) (by exact HH'.out.sub (by repeat (first | with_reducible exact Below.refl _ _ | with_reducible assumption | with_reducible refine sub_alloc ?_ _ | (with_reducible refine sub_setCell2 ?_ ?_ _; (focus (first | (simp; done) | (simp <;> omega)))) | with_reducible refine sub_drew ?_ | with_reducible refine below_drewN ?_ _ | with_reducible refine sub_step (by assumption) ?_ (by first | rfl | (simp; done)) | exact Below.refl _ _ | assumption | refine sub_alloc ?_ _ | refine sub_setCell ?_ (by simp <;> omega) _ | refine sub_drew ?_ | refine below_drewN ?_ _ | refine sub_step (by assumption) ?_ (by first | rfl | (simp; done))))) hn (by omega)).mono ?_
    rintro e w1 ⟨rfl, hb1⟩
    have P1 := P0.below hb1 P0.lt
    obtain ⟨d0, d1, d2⟩ := P1.flat
    have hbel : Below w.heap.size w w1 := (by repeat (first | with_reducible exact Below.refl _ _ | with_reducible assumption | with_reducible refine sub_alloc ?_ _ | (with_reducible refine sub_setCell2 ?_ ?_ _; (focus (first | (simp; done) | (simp <;> omega)))) | with_reducible refine sub_drew ?_ | with_reducible refine below_drewN ?_ _ | with_reducible refine sub_step (by assumption) ?_ (by first | rfl | (simp; done)) | exact Below.refl _ _ | assumption | refine sub_alloc ?_ _ | refine sub_setCell ?_ (by simp <;> omega) _ | refine sub_drew ?_ | refine below_drewN ?_ _ | refine sub_step (by assumption) ?_ (by first | rfl | (simp; done))))
    obtain ⟨v0, v1⟩ := (HH'.out.sub hbel).two
    go_wp2_with fail
    rw [rounds_succ]
    go_wp2_with fail
    refine (all_is _ _ _ _ _ _ xs [x0, x1] pl t HT.out _ (by exact HH.out.sub (by repeat (first | with_reducible exact Below.refl _ _ | with_reducible assumption | with_reducible refine sub_alloc ?_ _ | (with_reducible refine sub_setCell2 ?_ ?_ _; (focus (first | (simp; done) | (simp <;> omega)))) | with_reducible refine sub_drew ?_ | with_reducible refine below_drewN ?_ _ | with_reducible refine sub_step (by assumption) ?_ (by first | rfl | (simp; done)) | exact Below.refl _ _ | assumption | refine sub_alloc ?_ _ | refine sub_setCell ?_ (by simp <;> omega) _ | refine sub_drew ?_ | refine below_drewN ?_ _ | refine sub_step (by assumption) ?_ (by first | rfl | (simp; done))))) (by exact HH'.out.sub (by repeat (first | with_reducible exact Below.refl _ _ | with_reducible assumption | with_reducible refine sub_alloc ?_ _ | (with_reducible refine sub_setCell2 ?_ ?_ _; (focus (first | (simp; done) | (simp <;> omega)))) | with_reducible refine sub_drew ?_ | with_reducible refine below_drewN ?_ _ | with_reducible refine sub_step (by assumption) ?_ (by first | rfl | (simp; done)) | exact Below.refl _ _ | assumption | refine sub_alloc ?_ _ | refine sub_setCell ?_ (by simp <;> omega) _ | refine sub_drew ?_ | refine below_drewN ?_ _ | refine sub_step (by assumption) ?_ (by first | rfl | (simp; done))))) hn (by omega)).mono ?_
    rintro e w2 ⟨rfl, hb2⟩
    go_wp2_with fail
    (try rw [rounds_succ])
    (try go_wp2_with fail)
    go_ret
    exact ⟨rfl, (by repeat (first | with_reducible exact Below.refl _ _ | with_reducible assumption | with_reducible refine sub_alloc ?_ _ | (with_reducible refine sub_setCell2 ?_ ?_ _; (focus (first | (simp; done) | (simp <;> omega)))) | with_reducible refine sub_drew ?_ | with_reducible refine below_drewN ?_ _ | with_reducible refine sub_step (by assumption) ?_ (by first | rfl | (simp; done)) | exact Below.refl _ _ | assumption | refine sub_alloc ?_ _ | refine sub_setCell ?_ (by simp <;> omega) _ | refine sub_drew ?_ | refine below_drewN ?_ _ | refine sub_step (by assumption) ?_ (by first | rfl | (simp; done))))⟩
  replace e2 : 2 * x1 ≤ t := by omega
  · have hv : majV t x0 x1 = -1 := by
      have n1 : ¬ (t < 2 * x0) := by omega
      have n2 : ¬ (t < 2 * x1) := by omega
      simp [majV, n1, n2]
    rw [hv]
    clear hv
    go_enter Try.func151, Try.ntmps151
    go_wp2_with fail
    refine wp_loop_rounds 3 ?_; rw [rounds_succ]
    go_wp2_with fail
    refine (all_is _ _ _ _ _ _ xs [x0, x1] pl t HT.out _ (by exact HH.out.sub (by repeat (first | with_reducible exact Below.refl _ _ | with_reducible assumption | with_reducible refine sub_alloc ?_ _ | (with_reducible refine sub_setCell2 ?_ ?_ _; (focus (first | (simp; done) | (simp <;> omega)))) | with_reducible refine sub_drew ?_ | with_reducible refine below_drewN ?_ _ | with_reducible refine sub_step (by assumption) ?_ (by first | rfl | (simp; done)) | exact Below.refl _ _ | assumption | refine sub_alloc ?_ _ | refine sub_setCell ?_ (by simp <;> omega) _ | refine sub_drew ?_ | refine below_drewN ?_ _ | refine sub_step (by assumption) ?_ (by first | rfl | (simp; done))))) (by exact HH'.out.sub (by repeat (first | with_reducible exact Below.refl _ _ | with_reducible assumption | with_reducible refine sub_alloc ?_ _ | (with_reducible refine sub_setCell2 ?_ ?_ _; (focus (first | (simp; done) | (simp <;> omega)))) | with_reducible refine sub_drew ?_ | with_reducible refine below_drewN ?_ _ | with_reducible refine sub_step (by assumption) ?_ (by first | rfl | (simp; done)) | exact Below.refl _ _ | assumption | refine sub_alloc ?_ _ | refine sub_setCell ?_ (by simp <;> omega) _ | refine sub_drew ?_ | refine below_drewN ?_ _ | refine sub_step (by assumption) ?_ (by first | rfl | (simp; done))))) hn (by omega)).mono ?_
    rintro e w1 ⟨rfl, hb1⟩
    have P1 := P0.below hb1 P0.lt
    obtain ⟨d0, d1, d2⟩ := P1.flat
    have hbel : Below w.heap.size w w1 := (by repeat (first | with_reducible exact Below.refl _ _ | with_reducible assumption | with_reducible refine sub_alloc ?_ _ | (with_reducible refine sub_setCell2 ?_ ?_ _; (focus (first | (simp; done) | (simp <;> omega)))) | with_reducible refine sub_drew ?_ | with_reducible refine below_drewN ?_ _ | with_reducible refine sub_step (by assumption) ?_ (by first | rfl | (simp; done)) | exact Below.refl _ _ | assumption | refine sub_alloc ?_ _ | refine sub_setCell ?_ (by simp <;> omega) _ | refine sub_drew ?_ | refine below_drewN ?_ _ | refine sub_step (by assumption) ?_ (by first | rfl | (simp; done))))
    obtain ⟨v0, v1⟩ := (HH'.out.sub hbel).two
    go_wp2_with fail
    rw [rounds_succ]
    go_wp2_with fail
    refine (all_is _ _ _ _ _ _ xs [x0, x1] pl t HT.out _ (by exact HH.out.sub (by repeat (first | with_reducible exact Below.refl _ _ | with_reducible assumption | with_reducible refine sub_alloc ?_ _ | (with_reducible refine sub_setCell2 ?_ ?_ _; (focus (first | (simp; done) | (simp <;> omega)))) | with_reducible refine sub_drew ?_ | with_reducible refine below_drewN ?_ _ | with_reducible refine sub_step (by assumption) ?_ (by first | rfl | (simp; done)) | exact Below.refl _ _ | assumption | refine sub_alloc ?_ _ | refine sub_setCell ?_ (by simp <;> omega) _ | refine sub_drew ?_ | refine below_drewN ?_ _ | refine sub_step (by assumption) ?_ (by first | rfl | (simp; done))))) (by exact HH'.out.sub (by repeat (first | with_reducible exact Below.refl _ _ | with_reducible assumption | with_reducible refine sub_alloc ?_ _ | (with_reducible refine sub_setCell2 ?_ ?_ _; (focus (first | (simp; done) | (simp <;> omega)))) | with_reducible refine sub_drew ?_ | with_reducible refine below_drewN ?_ _ | with_reducible refine sub_step (by assumption) ?_ (by first | rfl | (simp; done)) | exact Below.refl _ _ | assumption | refine sub_alloc ?_ _ | refine sub_setCell ?_ (by simp <;> omega) _ | refine sub_drew ?_ | refine below_drewN ?_ _ | refine sub_step (by assumption) ?_ (by first | rfl | (simp; done))))) hn (by omega)).mono ?_
    rintro e w2 ⟨rfl, hb2⟩
    go_wp2_with fail
    (try rw [rounds_succ])
    (try go_wp2_with fail)
    go_ret
    exact ⟨rfl, (by repeat (first | with_reducible exact Below.refl _ _ | with_reducible assumption | with_reducible refine sub_alloc ?_ _ | (with_reducible refine sub_setCell2 ?_ ?_ _; (focus (first | (simp; done) | (simp <;> omega)))) | with_reducible refine sub_drew ?_ | with_reducible refine below_drewN ?_ _ | with_reducible refine sub_step (by assumption) ?_ (by first | rfl | (simp; done)) | exact Below.refl _ _ | assumption | refine sub_alloc ?_ _ | refine sub_setCell ?_ (by simp <;> omega) _ | refine sub_drew ?_ | refine below_drewN ?_ _ | refine sub_step (by assumption) ?_ (by first | rfl | (simp; done))))⟩

set_option maxHeartbeats 1000000 in
theorem specMajorityOf_any (p s : Int) (st sk re fe ag : Bool) (c sl : Int) (A A' : Option Addr) (n u n' u' : Nat) (xs xs' : List Int) (pl : Int) (w : World) (h : Ints w w.heap.size A n u xs) (h' : Ints w w.heap.size A' n' u' xs') (hn : n ≤ 4294967296) :
    Calls Try.prog 93 #[.agg #[.int .i64 p, .int .i64 s, .bool st, .bool sk, .bool re, .bool fe, .bool ag, .int .i64 c, .int .i64 sl], .agg #[.slice A n u, .slice A' n' u', .int .i64 pl]] w fun e w' => e = .returned (.tuple #[.int .i64 (valP (okP ⟨p, s, st, sk, re, fe, ag, c, sl⟩ xs xs' pl) (majP xs xs')), .int .i64 (codP (okP ⟨p, s, st, sk, re, fe, ag, c, sl⟩ xs xs' pl))]) ∧ Below w.heap.size w w' := by
  have HL := Lib.hid h.len
  have HL' := Lib.hid h'.len
  have HH := Lib.hid h
  have HH' := Lib.hid h'
  have P0 := Lib.hid ((RuAt.box w 31 p s st sk re fe ag c sl).alloc (.cells #[.slice A n u, .slice A' n' u', .int .i64 pl] 28))
  have P1 := Lib.hid (PosAt.box (w.alloc (.cells #[.int .i64 p, .int .i64 s, .bool st, .bool sk, .bool re, .bool fe, .bool ag, .int .i64 c, .int .i64 sl] 31)) 28 A n u A' n' u' pl)
  clear h h'
  cases e0 : okP ⟨p, s, st, sk, re, fe, ag, c, sl⟩ xs xs' pl
  · go_enter Try.func93, Try.ntmps93
    go_wp2_with fail
    refine (l04Ok_any w.heap.size 0 (w.heap.size + 1) 0 ⟨p, s, st, sk, re, fe, ag, c, sl⟩ _ _ _ _ _ _ xs xs' pl _ (by exact P0.out) (by simpa using P1.out) (by exact HH.out.sub (by repeat (first | with_reducible exact Below.refl _ _ | with_reducible assumption | with_reducible refine sub_alloc ?_ _ | (with_reducible refine sub_setCell2 ?_ ?_ _; (focus (first | (simp; done) | (simp <;> omega)))) | with_reducible refine sub_drew ?_ | with_reducible refine below_drewN ?_ _ | with_reducible refine sub_step (by assumption) ?_ (by first | rfl | (simp; done)) | exact Below.refl _ _ | assumption | refine sub_alloc ?_ _ | refine sub_setCell ?_ (by simp <;> omega) _ | refine sub_drew ?_ | refine below_drewN ?_ _ | refine sub_step (by assumption) ?_ (by first | rfl | (simp; done))))) (by exact HH'.out.sub (by repeat (first | with_reducible exact Below.refl _ _ | with_reducible assumption | with_reducible refine sub_alloc ?_ _ | (with_reducible refine sub_setCell2 ?_ ?_ _; (focus (first | (simp; done) | (simp <;> omega)))) | with_reducible refine sub_drew ?_ | with_reducible refine below_drewN ?_ _ | with_reducible refine sub_step (by assumption) ?_ (by first | rfl | (simp; done)) | exact Below.refl _ _ | assumption | refine sub_alloc ?_ _ | refine sub_setCell ?_ (by simp <;> omega) _ | refine sub_drew ?_ | refine below_drewN ?_ _ | refine sub_step (by assumption) ?_ (by first | rfl | (simp; done))))) hn).mono ?_
    rintro e w1 ⟨rfl, m1, rfl⟩
    go_wp2_with fail
    go_ret2
    exact ⟨rfl, (by repeat (first | with_reducible exact Below.refl _ _ | with_reducible assumption | with_reducible refine sub_alloc ?_ _ | (with_reducible refine sub_setCell2 ?_ ?_ _; (focus (first | (simp; done) | (simp <;> omega)))) | with_reducible refine sub_drew ?_ | with_reducible refine below_drewN ?_ _ | with_reducible refine sub_step (by assumption) ?_ (by first | rfl | (simp; done)) | exact Below.refl _ _ | assumption | refine sub_alloc ?_ _ | refine sub_setCell ?_ (by simp <;> omega) _ | refine sub_drew ?_ | refine below_drewN ?_ _ | refine sub_step (by assumption) ?_ (by first | rfl | (simp; done))))⟩
  obtain ⟨-, -, z2, -, -, z5, z6, z7, z8, z9, z10, z11, z12⟩ := okP_parts e0
  obtain rfl : n' = 2 := by rw [← HL'.out, z2]
  obtain ⟨x0, x1, rfl⟩ := two_of z2
  have hx : (0 ≤ x0 ∧ x0 ≤ 96) ∧ (0 ≤ x1 ∧ x1 ≤ 96) := by simpa [okN, inB] using z5
  obtain ⟨⟨g0, g1⟩, ⟨g2, g3⟩⟩ := hx
  have Z6 := Lib.hid z6
  have Z7 := Lib.hid z7
  have Z8 := Lib.hid z8
  have Z9 := Lib.hid z9
  have Z10 := Lib.hid z10
  have Z11 := Lib.hid z11
  have Z12 := Lib.hid z12
  clear z2 z5 z6 z7 z8 z9 z10 z11 z12
  go_enter Try.func93, Try.ntmps93
  go_wp2_with fail
  refine (l04Ok_any w.heap.size 0 (w.heap.size + 1) 0 ⟨p, s, st, sk, re, fe, ag, c, sl⟩ _ _ _ _ _ _ xs [x0, x1] pl _ (by exact P0.out) (by simpa using P1.out) (by exact HH.out.sub (by repeat (first | with_reducible exact Below.refl _ _ | with_reducible assumption | with_reducible refine sub_alloc ?_ _ | (with_reducible refine sub_setCell2 ?_ ?_ _; (focus (first | (simp; done) | (simp <;> omega)))) | with_reducible refine sub_drew ?_ | with_reducible refine below_drewN ?_ _ | with_reducible refine sub_step (by assumption) ?_ (by first | rfl | (simp; done)) | exact Below.refl _ _ | assumption | refine sub_alloc ?_ _ | refine sub_setCell ?_ (by simp <;> omega) _ | refine sub_drew ?_ | refine below_drewN ?_ _ | refine sub_step (by assumption) ?_ (by first | rfl | (simp; done))))) (by exact HH'.out.sub (by repeat (first | with_reducible exact Below.refl _ _ | with_reducible assumption | with_reducible refine sub_alloc ?_ _ | (with_reducible refine sub_setCell2 ?_ ?_ _; (focus (first | (simp; done) | (simp <;> omega)))) | with_reducible refine sub_drew ?_ | with_reducible refine below_drewN ?_ _ | with_reducible refine sub_step (by assumption) ?_ (by first | rfl | (simp; done)) | exact Below.refl _ _ | assumption | refine sub_alloc ?_ _ | refine sub_setCell ?_ (by simp <;> omega) _ | refine sub_drew ?_ | refine below_drewN ?_ _ | refine sub_step (by assumption) ?_ (by first | rfl | (simp; done))))) hn).mono ?_
  rintro e w1 ⟨rfl, m1, rfl⟩
  have P2 := P0.out.drew1 m1
  have P3 := P1.out.drewN m1
  obtain ⟨c0, c1, c2, c3, c4, c5, c6, c7, c8⟩ := P2.flat
  obtain ⟨d0, d1, d2⟩ := P3.flat
  simp at d0 d1 d2
  go_wp2_with fail
  refine (l09Majority_any _ _ _ _ _ _ _ xs x0 x1 pl _ (by simpa using P3) (by exact HH.out.sub (by repeat (first | with_reducible exact Below.refl _ _ | with_reducible assumption | with_reducible refine sub_alloc ?_ _ | (with_reducible refine sub_setCell2 ?_ ?_ _; (focus (first | (simp; done) | (simp <;> omega)))) | with_reducible refine sub_drew ?_ | with_reducible refine below_drewN ?_ _ | with_reducible refine sub_step (by assumption) ?_ (by first | rfl | (simp; done)) | exact Below.refl _ _ | assumption | refine sub_alloc ?_ _ | refine sub_setCell ?_ (by simp <;> omega) _ | refine sub_drew ?_ | refine below_drewN ?_ _ | refine sub_step (by assumption) ?_ (by first | rfl | (simp; done))))) (by exact HH'.out.sub (by repeat (first | with_reducible exact Below.refl _ _ | with_reducible assumption | with_reducible refine sub_alloc ?_ _ | (with_reducible refine sub_setCell2 ?_ ?_ _; (focus (first | (simp; done) | (simp <;> omega)))) | with_reducible refine sub_drew ?_ | with_reducible refine below_drewN ?_ _ | with_reducible refine sub_step (by assumption) ?_ (by first | rfl | (simp; done)) | exact Below.refl _ _ | assumption | refine sub_alloc ?_ _ | refine sub_setCell ?_ (by simp <;> omega) _ | refine sub_drew ?_ | refine below_drewN ?_ _ | refine sub_step (by assumption) ?_ (by first | rfl | (simp; done))))) hn Z9.out Z10.out Z7.out Z8.out Z6.out g0 g1 g2 g3).mono ?_
  rintro e w2 ⟨rfl, m2, rfl⟩
  go_wp2_with fail
  go_ret2
  exact ⟨by simp [valP, codP], (by repeat (first | with_reducible exact Below.refl _ _ | with_reducible assumption | with_reducible refine sub_alloc ?_ _ | (with_reducible refine sub_setCell2 ?_ ?_ _; (focus (first | (simp; done) | (simp <;> omega)))) | with_reducible refine sub_drew ?_ | with_reducible refine below_drewN ?_ _ | with_reducible refine sub_step (by assumption) ?_ (by first | rfl | (simp; done)) | exact Below.refl _ _ | assumption | refine sub_alloc ?_ _ | refine sub_setCell ?_ (by simp <;> omega) _ | refine sub_drew ?_ | refine below_drewN ?_ _ | refine sub_step (by assumption) ?_ (by first | rfl | (simp; done))))⟩

set_option maxHeartbeats 1000000 in
theorem MajorityOf_any (p s : Int) (st sk re fe ag : Bool) (c sl : Int) (A A' : Option Addr) (n u n' u' : Nat) (xs xs' : List Int) (pl : Int) (w : World) (h : Ints w w.heap.size A n u xs) (h' : Ints w w.heap.size A' n' u' xs') (hn : n ≤ 4294967296) :
    Calls Try.prog 92 #[.agg #[.int .i64 p, .int .i64 s, .bool st, .bool sk, .bool re, .bool fe, .bool ag, .int .i64 c, .int .i64 sl], .agg #[.slice A n u, .slice A' n' u', .int .i64 pl]] w fun e w' => e = .returned (.tuple #[.int .i64 (valP (okP ⟨p, s, st, sk, re, fe, ag, c, sl⟩ xs xs' pl) (majP xs xs')), .int .i64 (codP (okP ⟨p, s, st, sk, re, fe, ag, c, sl⟩ xs xs' pl))]) ∧ Below w.heap.size w w' := by
  have HL := Lib.hid h.len
  have HL' := Lib.hid h'.len
  have HH := Lib.hid h
  have HH' := Lib.hid h'
  have P0 := Lib.hid ((RuAt.box w 31 p s st sk re fe ag c sl).alloc (.cells #[.slice A n u, .slice A' n' u', .int .i64 pl] 28))
  have P1 := Lib.hid (PosAt.box (w.alloc (.cells #[.int .i64 p, .int .i64 s, .bool st, .bool sk, .bool re, .bool fe, .bool ag, .int .i64 c, .int .i64 sl] 31)) 28 A n u A' n' u' pl)
  clear h h'
  cases e0 : okP ⟨p, s, st, sk, re, fe, ag, c, sl⟩ xs xs' pl
  · go_enter Try.func92, Try.ntmps92
    go_wp2_with fail
    refine (ValidPosition_any p s st sk re fe ag c sl _ _ _ _ _ _ xs xs' pl _ (by exact HH.out.sub (by repeat (first | with_reducible exact Below.refl _ _ | with_reducible assumption | with_reducible refine sub_alloc ?_ _ | (with_reducible refine sub_setCell2 ?_ ?_ _; (focus (first | (simp; done) | (simp <;> omega)))) | with_reducible refine sub_drew ?_ | with_reducible refine below_drewN ?_ _ | with_reducible refine sub_step (by assumption) ?_ (by first | rfl | (simp; done)) | exact Below.refl _ _ | assumption | refine sub_alloc ?_ _ | refine sub_setCell ?_ (by simp <;> omega) _ | refine sub_drew ?_ | refine below_drewN ?_ _ | refine sub_step (by assumption) ?_ (by first | rfl | (simp; done))))) (by exact HH'.out.sub (by repeat (first | with_reducible exact Below.refl _ _ | with_reducible assumption | with_reducible refine sub_alloc ?_ _ | (with_reducible refine sub_setCell2 ?_ ?_ _; (focus (first | (simp; done) | (simp <;> omega)))) | with_reducible refine sub_drew ?_ | with_reducible refine below_drewN ?_ _ | with_reducible refine sub_step (by assumption) ?_ (by first | rfl | (simp; done)) | exact Below.refl _ _ | assumption | refine sub_alloc ?_ _ | refine sub_setCell ?_ (by simp <;> omega) _ | refine sub_drew ?_ | refine below_drewN ?_ _ | refine sub_step (by assumption) ?_ (by first | rfl | (simp; done))))) hn).mono ?_
    rintro e w1 ⟨rfl, hb1⟩
    go_wp2_with fail
    go_ret2
    exact ⟨rfl, (by repeat (first | with_reducible exact Below.refl _ _ | with_reducible assumption | with_reducible refine sub_alloc ?_ _ | (with_reducible refine sub_setCell2 ?_ ?_ _; (focus (first | (simp; done) | (simp <;> omega)))) | with_reducible refine sub_drew ?_ | with_reducible refine below_drewN ?_ _ | with_reducible refine sub_step (by assumption) ?_ (by first | rfl | (simp; done)) | exact Below.refl _ _ | assumption | refine sub_alloc ?_ _ | refine sub_setCell ?_ (by simp <;> omega) _ | refine sub_drew ?_ | refine below_drewN ?_ _ | refine sub_step (by assumption) ?_ (by first | rfl | (simp; done))))⟩
  obtain ⟨-, -, z2, -, -, z5, z6, z7, z8, z9, z10, z11, z12⟩ := okP_parts e0
  obtain rfl : n' = 2 := by rw [← HL'.out, z2]
  obtain ⟨x0, x1, rfl⟩ := two_of z2
  have hx : (0 ≤ x0 ∧ x0 ≤ 96) ∧ (0 ≤ x1 ∧ x1 ≤ 96) := by simpa [okN, inB] using z5
  obtain ⟨⟨g0, g1⟩, ⟨g2, g3⟩⟩ := hx
  have Z6 := Lib.hid z6
  have Z7 := Lib.hid z7
  have Z8 := Lib.hid z8
  have Z9 := Lib.hid z9
  have Z10 := Lib.hid z10
  have Z11 := Lib.hid z11
  have Z12 := Lib.hid z12
  clear z2 z5 z6 z7 z8 z9 z10 z11 z12
  go_enter Try.func92, Try.ntmps92
  go_wp2_with fail
  refine (ValidPosition_any p s st sk re fe ag c sl _ _ _ _ _ _ xs [x0, x1] pl _ (by exact HH.out.sub (by repeat (first | with_reducible exact Below.refl _ _ | with_reducible assumption | with_reducible refine sub_alloc ?_ _ | (with_reducible refine sub_setCell2 ?_ ?_ _; (focus (first | (simp; done) | (simp <;> omega)))) | with_reducible refine sub_drew ?_ | with_reducible refine below_drewN ?_ _ | with_reducible refine sub_step (by assumption) ?_ (by first | rfl | (simp; done)) | exact Below.refl _ _ | assumption | refine sub_alloc ?_ _ | refine sub_setCell ?_ (by simp <;> omega) _ | refine sub_drew ?_ | refine below_drewN ?_ _ | refine sub_step (by assumption) ?_ (by first | rfl | (simp; done))))) (by exact HH'.out.sub (by repeat (first | with_reducible exact Below.refl _ _ | with_reducible assumption | with_reducible refine sub_alloc ?_ _ | (with_reducible refine sub_setCell2 ?_ ?_ _; (focus (first | (simp; done) | (simp <;> omega)))) | with_reducible refine sub_drew ?_ | with_reducible refine below_drewN ?_ _ | with_reducible refine sub_step (by assumption) ?_ (by first | rfl | (simp; done)) | exact Below.refl _ _ | assumption | refine sub_alloc ?_ _ | refine sub_setCell ?_ (by simp <;> omega) _ | refine sub_drew ?_ | refine below_drewN ?_ _ | refine sub_step (by assumption) ?_ (by first | rfl | (simp; done))))) hn).mono ?_
  rintro e w1 ⟨rfl, hb1⟩
  have P2 := P0.out.below hb1 (by simp <;> omega)
  have P3 := P1.out.below hb1 (by simp <;> omega)
  obtain ⟨c0, c1, c2, c3, c4, c5, c6, c7, c8⟩ := P2.flat
  obtain ⟨d0, d1, d2⟩ := P3.flat
  simp at d0 d1 d2
  go_wp2_with fail
  refine (majority_any _ _ _ _ _ xs x0 x1 pl _ (by exact HH.out.sub (by repeat (first | with_reducible exact Below.refl _ _ | with_reducible assumption | with_reducible refine sub_alloc ?_ _ | (with_reducible refine sub_setCell2 ?_ ?_ _; (focus (first | (simp; done) | (simp <;> omega)))) | with_reducible refine sub_drew ?_ | with_reducible refine below_drewN ?_ _ | with_reducible refine sub_step (by assumption) ?_ (by first | rfl | (simp; done)) | exact Below.refl _ _ | assumption | refine sub_alloc ?_ _ | refine sub_setCell ?_ (by simp <;> omega) _ | refine sub_drew ?_ | refine below_drewN ?_ _ | refine sub_step (by assumption) ?_ (by first | rfl | (simp; done))))) (by exact HH'.out.sub (by repeat (first | with_reducible exact Below.refl _ _ | with_reducible assumption | with_reducible refine sub_alloc ?_ _ | (with_reducible refine sub_setCell2 ?_ ?_ _; (focus (first | (simp; done) | (simp <;> omega)))) | with_reducible refine sub_drew ?_ | with_reducible refine below_drewN ?_ _ | with_reducible refine sub_step (by assumption) ?_ (by first | rfl | (simp; done)) | exact Below.refl _ _ | assumption | refine sub_alloc ?_ _ | refine sub_setCell ?_ (by simp <;> omega) _ | refine sub_drew ?_ | refine below_drewN ?_ _ | refine sub_step (by assumption) ?_ (by first | rfl | (simp; done))))) hn Z11.out Z12.out Z7.out Z8.out Z6.out g0 g1 g2 g3).mono ?_
  rintro e w2 ⟨rfl, hb2⟩
  go_wp2_with fail
  go_ret2
  exact ⟨by simp [valP, codP], (by repeat (first | with_reducible exact Below.refl _ _ | with_reducible assumption | with_reducible refine sub_alloc ?_ _ | (with_reducible refine sub_setCell2 ?_ ?_ _; (focus (first | (simp; done) | (simp <;> omega)))) | with_reducible refine sub_drew ?_ | with_reducible refine below_drewN ?_ _ | with_reducible refine sub_step (by assumption) ?_ (by first | rfl | (simp; done)) | exact Below.refl _ _ | assumption | refine sub_alloc ?_ _ | refine sub_setCell ?_ (by simp <;> omega) _ | refine sub_drew ?_ | refine below_drewN ?_ _ | refine sub_step (by assumption) ?_ (by first | rfl | (simp; done))))⟩

/-- The greater of two numbers. -/
def mx (a b : Int) : Int := if b < a then a else b
/-- What NeededFor returns. -/
def needR (r : Ru) (xs xs' : List Int) (pl q : Int) : Int × Int := if okP r xs xs' pl then (if inB q 0 1 then (mx 0 ((xs.sum + xs'.sum) / 2 + 1 - xs'.getD q.toNat 0), 0) else (0, 2)) else (0, 1)
theorem needR_0 {r : Ru} {xs : List Int} {x0 x1 pl t : Int} (e0 : okP r xs [x0, x1] pl = true) (ht : xs.sum + [x0, x1].sum = t) : needR r xs [x0, x1] pl 0 = (mx 0 (t / 2 + 1 - x0), 0) := by
  unfold needR
  rw [ht, if_pos e0]
  simp [inB]
theorem needR_1 {r : Ru} {xs : List Int} {x0 x1 pl t : Int} (e0 : okP r xs [x0, x1] pl = true) (ht : xs.sum + [x0, x1].sum = t) : needR r xs [x0, x1] pl 1 = (mx 0 (t / 2 + 1 - x1), 0) := by
  unfold needR
  rw [ht, if_pos e0]
  simp [inB]
theorem mx_p {a : Int} (h : 0 ≤ a) : mx 0 a = a := by
  unfold mx
  split <;> omega
theorem mx_n {a : Int} (h : a ≤ 0) : mx 0 a = 0 := by
  unfold mx
  split <;> omega
theorem l00Max_is (a b v : Int) (hv : mx a b = v) (w : World) : Calls Try.prog 149 #[.int .i64 a, .int .i64 b] w fun e w' => e = .returned (.int .i64 v) ∧ ∃ m, w' = w.drewN m := by
  subst hv
  by_cases h : b < a
  · go_enter Try.func149, Try.ntmps149
    go_wp2_with fail
    go_ret
    exact ⟨by simp [mx, h], 0, rfl⟩
  · replace h : a ≤ b := by omega
    go_enter Try.func149, Try.ntmps149
    go_wp2_with fail
    go_ret
    have h2 : ¬ (b < a) := by omega
    exact ⟨by simp [mx, h2], 0, rfl⟩

set_option maxHeartbeats 1000000 in
theorem specNeededFor_any (p s : Int) (st sk re fe ag : Bool) (c sl : Int) (A A' : Option Addr) (n u n' u' : Nat) (xs xs' : List Int) (pl : Int) (q : Int) (w : World) (h : Ints w w.heap.size A n u xs) (h' : Ints w w.heap.size A' n' u' xs') (hn : n ≤ 4294967296) :
    Calls Try.prog 91 #[.agg #[.int .i64 p, .int .i64 s, .bool st, .bool sk, .bool re, .bool fe, .bool ag, .int .i64 c, .int .i64 sl], .agg #[.slice A n u, .slice A' n' u', .int .i64 pl], .int .i64 q] w fun e w' => e = .returned (.tuple #[.int .i64 (needR ⟨p, s, st, sk, re, fe, ag, c, sl⟩ xs xs' pl q).1, .int .i64 (needR ⟨p, s, st, sk, re, fe, ag, c, sl⟩ xs xs' pl q).2]) ∧ Below w.heap.size w w' := by
  have HL := Lib.hid h.len
  have HL' := Lib.hid h'.len
  have HH := Lib.hid h
  have HH' := Lib.hid h'
  have P0 := Lib.hid ((RuAt.box w 31 p s st sk re fe ag c sl).alloc (.cells #[.slice A n u, .slice A' n' u', .int .i64 pl] 28))
  have P1 := Lib.hid (PosAt.box (w.alloc (.cells #[.int .i64 p, .int .i64 s, .bool st, .bool sk, .bool re, .bool fe, .bool ag, .int .i64 c, .int .i64 sl] 31)) 28 A n u A' n' u' pl)
  clear h h'
  cases e0 : okP ⟨p, s, st, sk, re, fe, ag, c, sl⟩ xs xs' pl
  · go_enter Try.func91, Try.ntmps91
    go_wp2_with fail
    refine (l04Ok_any w.heap.size 0 (w.heap.size + 1) 0 ⟨p, s, st, sk, re, fe, ag, c, sl⟩ _ _ _ _ _ _ xs xs' pl _ (by exact P0.out) (by simpa using P1.out) (by exact HH.out.sub (by repeat (first | with_reducible exact Below.refl _ _ | with_reducible assumption | with_reducible refine sub_alloc ?_ _ | (with_reducible refine sub_setCell2 ?_ ?_ _; (focus (first | (simp; done) | (simp <;> omega)))) | with_reducible refine sub_drew ?_ | with_reducible refine below_drewN ?_ _ | with_reducible refine sub_step (by assumption) ?_ (by first | rfl | (simp; done)) | exact Below.refl _ _ | assumption | refine sub_alloc ?_ _ | refine sub_setCell ?_ (by simp <;> omega) _ | refine sub_drew ?_ | refine below_drewN ?_ _ | refine sub_step (by assumption) ?_ (by first | rfl | (simp; done))))) (by exact HH'.out.sub (by repeat (first | with_reducible exact Below.refl _ _ | with_reducible assumption | with_reducible refine sub_alloc ?_ _ | (with_reducible refine sub_setCell2 ?_ ?_ _; (focus (first | (simp; done) | (simp <;> omega)))) | with_reducible refine sub_drew ?_ | with_reducible refine below_drewN ?_ _ | with_reducible refine sub_step (by assumption) ?_ (by first | rfl | (simp; done)) | exact Below.refl _ _ | assumption | refine sub_alloc ?_ _ | refine sub_setCell ?_ (by simp <;> omega) _ | refine sub_drew ?_ | refine below_drewN ?_ _ | refine sub_step (by assumption) ?_ (by first | rfl | (simp; done))))) hn).mono ?_
    rintro e w1 ⟨rfl, m1, rfl⟩
    go_wp2_with fail
    go_ret2
    exact ⟨by simp [needR, e0], (by repeat (first | with_reducible exact Below.refl _ _ | with_reducible assumption | with_reducible refine sub_alloc ?_ _ | (with_reducible refine sub_setCell2 ?_ ?_ _; (focus (first | (simp; done) | (simp <;> omega)))) | with_reducible refine sub_drew ?_ | with_reducible refine below_drewN ?_ _ | with_reducible refine sub_step (by assumption) ?_ (by first | rfl | (simp; done)) | exact Below.refl _ _ | assumption | refine sub_alloc ?_ _ | refine sub_setCell ?_ (by simp <;> omega) _ | refine sub_drew ?_ | refine below_drewN ?_ _ | refine sub_step (by assumption) ?_ (by first | rfl | (simp; done))))⟩
  obtain ⟨-, -, z2, -, -, z5, z6, z7, z8, z9, z10, z11, z12⟩ := okP_parts e0
  obtain rfl : n' = 2 := by rw [← HL'.out, z2]
  obtain ⟨x0, x1, rfl⟩ := two_of z2
  have hx : (0 ≤ x0 ∧ x0 ≤ 96) ∧ (0 ≤ x1 ∧ x1 ≤ 96) := by simpa [okN, inB] using z5
  obtain ⟨⟨g0, g1⟩, ⟨g2, g3⟩⟩ := hx
  have Z6 := Lib.hid z6
  have Z7 := Lib.hid z7
  have Z8 := Lib.hid z8
  have Z9 := Lib.hid z9
  have Z10 := Lib.hid z10
  have Z11 := Lib.hid z11
  have Z12 := Lib.hid z12
  clear z2 z5 z6 z7 z8 z9 z10 z11 z12
  cases e1 : inB q 0 1
  · go_enter Try.func91, Try.ntmps91
    go_wp2_with fail
    refine (l04Ok_any w.heap.size 0 (w.heap.size + 1) 0 ⟨p, s, st, sk, re, fe, ag, c, sl⟩ _ _ _ _ _ _ xs [x0, x1] pl _ (by exact P0.out) (by simpa using P1.out) (by exact HH.out.sub (by repeat (first | with_reducible exact Below.refl _ _ | with_reducible assumption | with_reducible refine sub_alloc ?_ _ | (with_reducible refine sub_setCell2 ?_ ?_ _; (focus (first | (simp; done) | (simp <;> omega)))) | with_reducible refine sub_drew ?_ | with_reducible refine below_drewN ?_ _ | with_reducible refine sub_step (by assumption) ?_ (by first | rfl | (simp; done)) | exact Below.refl _ _ | assumption | refine sub_alloc ?_ _ | refine sub_setCell ?_ (by simp <;> omega) _ | refine sub_drew ?_ | refine below_drewN ?_ _ | refine sub_step (by assumption) ?_ (by first | rfl | (simp; done))))) (by exact HH'.out.sub (by repeat (first | with_reducible exact Below.refl _ _ | with_reducible assumption | with_reducible refine sub_alloc ?_ _ | (with_reducible refine sub_setCell2 ?_ ?_ _; (focus (first | (simp; done) | (simp <;> omega)))) | with_reducible refine sub_drew ?_ | with_reducible refine below_drewN ?_ _ | with_reducible refine sub_step (by assumption) ?_ (by first | rfl | (simp; done)) | exact Below.refl _ _ | assumption | refine sub_alloc ?_ _ | refine sub_setCell ?_ (by simp <;> omega) _ | refine sub_drew ?_ | refine below_drewN ?_ _ | refine sub_step (by assumption) ?_ (by first | rfl | (simp; done))))) hn).mono ?_
    rintro e w1 ⟨rfl, m1, rfl⟩
    have P2 := P0.out.drew1 m1
    have P3 := P1.out.drewN m1
    obtain ⟨c0, c1, c2, c3, c4, c5, c6, c7, c8⟩ := P2.flat
    obtain ⟨d0, d1, d2⟩ := P3.flat
    simp at d0 d1 d2
    go_wp2_with fail
    refine (l00In_any _ _ _ _).mono ?_
    rintro e w2 ⟨rfl, rfl⟩
    go_wp2_with fail
    go_ret2
    exact ⟨by simp [needR, e0, e1], (by repeat (first | with_reducible exact Below.refl _ _ | with_reducible assumption | with_reducible refine sub_alloc ?_ _ | (with_reducible refine sub_setCell2 ?_ ?_ _; (focus (first | (simp; done) | (simp <;> omega)))) | with_reducible refine sub_drew ?_ | with_reducible refine below_drewN ?_ _ | with_reducible refine sub_step (by assumption) ?_ (by first | rfl | (simp; done)) | exact Below.refl _ _ | assumption | refine sub_alloc ?_ _ | refine sub_setCell ?_ (by simp <;> omega) _ | refine sub_drew ?_ | refine below_drewN ?_ _ | refine sub_step (by assumption) ?_ (by first | rfl | (simp; done))))⟩
  have hi := inB_t e1
  obtain ⟨t, ht⟩ : ∃ t, xs.sum + [x0, x1].sum = t := ⟨_, rfl⟩
  have HT := Lib.hid ht
  have HT2 := Lib.hid ht
  have ht0 : 0 ≤ t := by have := Z7.out; have := Z8.out; omega
  have ht1 : t ≤ 96 := by have := Z6.out; omega
  clear ht
  rcases (show q = 0 ∨ q = 1 by omega) with rfl | rfl
  · have NR := Lib.hid (needR_0 e0 HT2.out)
    clear hi
    go_enter Try.func91, Try.ntmps91
    go_wp2_with fail
    refine (l04Ok_any w.heap.size 0 (w.heap.size + 1) 0 ⟨p, s, st, sk, re, fe, ag, c, sl⟩ _ _ _ _ _ _ xs [x0, x1] pl _ (by exact P0.out) (by simpa using P1.out) (by exact HH.out.sub (by repeat (first | with_reducible exact Below.refl _ _ | with_reducible assumption | with_reducible refine sub_alloc ?_ _ | (with_reducible refine sub_setCell2 ?_ ?_ _; (focus (first | (simp; done) | (simp <;> omega)))) | with_reducible refine sub_drew ?_ | with_reducible refine below_drewN ?_ _ | with_reducible refine sub_step (by assumption) ?_ (by first | rfl | (simp; done)) | exact Below.refl _ _ | assumption | refine sub_alloc ?_ _ | refine sub_setCell ?_ (by simp <;> omega) _ | refine sub_drew ?_ | refine below_drewN ?_ _ | refine sub_step (by assumption) ?_ (by first | rfl | (simp; done))))) (by exact HH'.out.sub (by repeat (first | with_reducible exact Below.refl _ _ | with_reducible assumption | with_reducible refine sub_alloc ?_ _ | (with_reducible refine sub_setCell2 ?_ ?_ _; (focus (first | (simp; done) | (simp <;> omega)))) | with_reducible refine sub_drew ?_ | with_reducible refine below_drewN ?_ _ | with_reducible refine sub_step (by assumption) ?_ (by first | rfl | (simp; done)) | exact Below.refl _ _ | assumption | refine sub_alloc ?_ _ | refine sub_setCell ?_ (by simp <;> omega) _ | refine sub_drew ?_ | refine below_drewN ?_ _ | refine sub_step (by assumption) ?_ (by first | rfl | (simp; done))))) hn).mono ?_
    rintro e w1 ⟨rfl, m1, rfl⟩
    have P2 := P0.out.drew1 m1
    have P3 := P1.out.drewN m1
    obtain ⟨c0, c1, c2, c3, c4, c5, c6, c7, c8⟩ := P2.flat
    obtain ⟨d0, d1, d2⟩ := P3.flat
    simp at d0 d1 d2
    have hbel : Below w.heap.size w ((((w.alloc (.cells #[.int .i64 p, .int .i64 s, .bool st, .bool sk, .bool re, .bool fe, .bool ag, .int .i64 c, .int .i64 sl] 31)).alloc (.cells #[.slice A n u, .slice A' 2 u', .int .i64 pl] 28)))) := (by repeat (first | with_reducible exact Below.refl _ _ | with_reducible assumption | with_reducible refine sub_alloc ?_ _ | (with_reducible refine sub_setCell2 ?_ ?_ _; (focus (first | (simp; done) | (simp <;> omega)))) | with_reducible refine sub_drew ?_ | with_reducible refine below_drewN ?_ _ | with_reducible refine sub_step (by assumption) ?_ (by first | rfl | (simp; done)) | exact Below.refl _ _ | assumption | refine sub_alloc ?_ _ | refine sub_setCell ?_ (by simp <;> omega) _ | refine sub_drew ?_ | refine below_drewN ?_ _ | refine sub_step (by assumption) ?_ (by first | rfl | (simp; done))))
    have HK := Lib.hid (HH.out.sub hbel)
    have HK' := HH'.out.sub hbel
    clear hbel
    obtain ⟨bb, oo, rfl, hbb, -⟩ := HK'.at_ (by omega)
    obtain ⟨y0, y1⟩ := HK'.two
    have HK' := Lib.hid HK'
    go_wp2_with fail
    refine (l00In_any _ _ _ _).mono ?_
    rintro e w2 ⟨rfl, rfl⟩
    go_wp2_with fail
    have P4 : PosAt ((w.alloc (.cells #[.int .i64 p, .int .i64 s, .bool st, .bool sk, .bool re, .bool fe, .bool ag, .int .i64 c, .int .i64 sl] 31)).alloc (.cells #[.slice A n u, .slice (some ⟨bb, oo, none⟩) 2 u', .int .i64 pl] 28)) (w.heap.size + 1) 0 A n u (some ⟨bb, oo, none⟩) 2 u' pl := by simpa using P1.out
    go_quiet ((first | (go_at_call 150; exact quiet_of2 (l09All_any _ _ _ _ _ _ _ _ xs [x0, x1] pl t HT.out _ (P4.drewN _) (HK.out.drewN _) (HK'.out.drewN _) hn (by omega) Z9.out Z10.out Z7.out Z8.out Z6.out)) | (go_at_call 149; exact quiet_of2 (l00Max_is _ _ _ rfl _))))
    go_wp2_with fail
    go_ret2
    exact ⟨by simp [NR.out], (by repeat (first | with_reducible exact Below.refl _ _ | with_reducible assumption | with_reducible refine sub_alloc ?_ _ | (with_reducible refine sub_setCell2 ?_ ?_ _; (focus (first | (simp; done) | (simp <;> omega)))) | with_reducible refine sub_drew ?_ | with_reducible refine below_drewN ?_ _ | with_reducible refine sub_step (by assumption) ?_ (by first | rfl | (simp; done)) | exact Below.refl _ _ | assumption | refine sub_alloc ?_ _ | refine sub_setCell ?_ (by simp <;> omega) _ | refine sub_drew ?_ | refine below_drewN ?_ _ | refine sub_step (by assumption) ?_ (by first | rfl | (simp; done))))⟩
  · have NR := Lib.hid (needR_1 e0 HT2.out)
    clear hi
    go_enter Try.func91, Try.ntmps91
    go_wp2_with fail
    refine (l04Ok_any w.heap.size 0 (w.heap.size + 1) 0 ⟨p, s, st, sk, re, fe, ag, c, sl⟩ _ _ _ _ _ _ xs [x0, x1] pl _ (by exact P0.out) (by simpa using P1.out) (by exact HH.out.sub (by repeat (first | with_reducible exact Below.refl _ _ | with_reducible assumption | with_reducible refine sub_alloc ?_ _ | (with_reducible refine sub_setCell2 ?_ ?_ _; (focus (first | (simp; done) | (simp <;> omega)))) | with_reducible refine sub_drew ?_ | with_reducible refine below_drewN ?_ _ | with_reducible refine sub_step (by assumption) ?_ (by first | rfl | (simp; done)) | exact Below.refl _ _ | assumption | refine sub_alloc ?_ _ | refine sub_setCell ?_ (by simp <;> omega) _ | refine sub_drew ?_ | refine below_drewN ?_ _ | refine sub_step (by assumption) ?_ (by first | rfl | (simp; done))))) (by exact HH'.out.sub (by repeat (first | with_reducible exact Below.refl _ _ | with_reducible assumption | with_reducible refine sub_alloc ?_ _ | (with_reducible refine sub_setCell2 ?_ ?_ _; (focus (first | (simp; done) | (simp <;> omega)))) | with_reducible refine sub_drew ?_ | with_reducible refine below_drewN ?_ _ | with_reducible refine sub_step (by assumption) ?_ (by first | rfl | (simp; done)) | exact Below.refl _ _ | assumption | refine sub_alloc ?_ _ | refine sub_setCell ?_ (by simp <;> omega) _ | refine sub_drew ?_ | refine below_drewN ?_ _ | refine sub_step (by assumption) ?_ (by first | rfl | (simp; done))))) hn).mono ?_
    rintro e w1 ⟨rfl, m1, rfl⟩
    have P2 := P0.out.drew1 m1
    have P3 := P1.out.drewN m1
    obtain ⟨c0, c1, c2, c3, c4, c5, c6, c7, c8⟩ := P2.flat
    obtain ⟨d0, d1, d2⟩ := P3.flat
    simp at d0 d1 d2
    have hbel : Below w.heap.size w ((((w.alloc (.cells #[.int .i64 p, .int .i64 s, .bool st, .bool sk, .bool re, .bool fe, .bool ag, .int .i64 c, .int .i64 sl] 31)).alloc (.cells #[.slice A n u, .slice A' 2 u', .int .i64 pl] 28)))) := (by repeat (first | with_reducible exact Below.refl _ _ | with_reducible assumption | with_reducible refine sub_alloc ?_ _ | (with_reducible refine sub_setCell2 ?_ ?_ _; (focus (first | (simp; done) | (simp <;> omega)))) | with_reducible refine sub_drew ?_ | with_reducible refine below_drewN ?_ _ | with_reducible refine sub_step (by assumption) ?_ (by first | rfl | (simp; done)) | exact Below.refl _ _ | assumption | refine sub_alloc ?_ _ | refine sub_setCell ?_ (by simp <;> omega) _ | refine sub_drew ?_ | refine below_drewN ?_ _ | refine sub_step (by assumption) ?_ (by first | rfl | (simp; done))))
    have HK := Lib.hid (HH.out.sub hbel)
    have HK' := HH'.out.sub hbel
    clear hbel
    obtain ⟨bb, oo, rfl, hbb, -⟩ := HK'.at_ (by omega)
    obtain ⟨y0, y1⟩ := HK'.two
    have HK' := Lib.hid HK'
    go_wp2_with fail
    refine (l00In_any _ _ _ _).mono ?_
    rintro e w2 ⟨rfl, rfl⟩
    go_wp2_with fail
    have P4 : PosAt ((w.alloc (.cells #[.int .i64 p, .int .i64 s, .bool st, .bool sk, .bool re, .bool fe, .bool ag, .int .i64 c, .int .i64 sl] 31)).alloc (.cells #[.slice A n u, .slice (some ⟨bb, oo, none⟩) 2 u', .int .i64 pl] 28)) (w.heap.size + 1) 0 A n u (some ⟨bb, oo, none⟩) 2 u' pl := by simpa using P1.out
    go_quiet ((first | (go_at_call 150; exact quiet_of2 (l09All_any _ _ _ _ _ _ _ _ xs [x0, x1] pl t HT.out _ (P4.drewN _) (HK.out.drewN _) (HK'.out.drewN _) hn (by omega) Z9.out Z10.out Z7.out Z8.out Z6.out)) | (go_at_call 149; exact quiet_of2 (l00Max_is _ _ _ rfl _))))
    go_wp2_with fail
    go_ret2
    exact ⟨by simp [NR.out], (by repeat (first | with_reducible exact Below.refl _ _ | with_reducible assumption | with_reducible refine sub_alloc ?_ _ | (with_reducible refine sub_setCell2 ?_ ?_ _; (focus (first | (simp; done) | (simp <;> omega)))) | with_reducible refine sub_drew ?_ | with_reducible refine below_drewN ?_ _ | with_reducible refine sub_step (by assumption) ?_ (by first | rfl | (simp; done)) | exact Below.refl _ _ | assumption | refine sub_alloc ?_ _ | refine sub_setCell ?_ (by simp <;> omega) _ | refine sub_drew ?_ | refine below_drewN ?_ _ | refine sub_step (by assumption) ?_ (by first | rfl | (simp; done))))⟩

set_option maxHeartbeats 1000000 in
theorem NeededFor_any (p s : Int) (st sk re fe ag : Bool) (c sl : Int) (A A' : Option Addr) (n u n' u' : Nat) (xs xs' : List Int) (pl : Int) (q : Int) (w : World) (h : Ints w w.heap.size A n u xs) (h' : Ints w w.heap.size A' n' u' xs') (hn : n ≤ 4294967296) :
    Calls Try.prog 90 #[.agg #[.int .i64 p, .int .i64 s, .bool st, .bool sk, .bool re, .bool fe, .bool ag, .int .i64 c, .int .i64 sl], .agg #[.slice A n u, .slice A' n' u', .int .i64 pl], .int .i64 q] w fun e w' => e = .returned (.tuple #[.int .i64 (needR ⟨p, s, st, sk, re, fe, ag, c, sl⟩ xs xs' pl q).1, .int .i64 (needR ⟨p, s, st, sk, re, fe, ag, c, sl⟩ xs xs' pl q).2]) ∧ Below w.heap.size w w' := by
  have HL := Lib.hid h.len
  have HL' := Lib.hid h'.len
  have HH := Lib.hid h
  have HH' := Lib.hid h'
  have P0 := Lib.hid ((RuAt.box w 31 p s st sk re fe ag c sl).alloc (.cells #[.slice A n u, .slice A' n' u', .int .i64 pl] 28))
  have P1 := Lib.hid (PosAt.box (w.alloc (.cells #[.int .i64 p, .int .i64 s, .bool st, .bool sk, .bool re, .bool fe, .bool ag, .int .i64 c, .int .i64 sl] 31)) 28 A n u A' n' u' pl)
  clear h h'
  cases e0 : okP ⟨p, s, st, sk, re, fe, ag, c, sl⟩ xs xs' pl
  · go_enter Try.func90, Try.ntmps90
    go_wp2_with fail
    refine (ValidPosition_any p s st sk re fe ag c sl _ _ _ _ _ _ xs xs' pl _ (by exact HH.out.sub (by repeat (first | with_reducible exact Below.refl _ _ | with_reducible assumption | with_reducible refine sub_alloc ?_ _ | (with_reducible refine sub_setCell2 ?_ ?_ _; (focus (first | (simp; done) | (simp <;> omega)))) | with_reducible refine sub_drew ?_ | with_reducible refine below_drewN ?_ _ | with_reducible refine sub_step (by assumption) ?_ (by first | rfl | (simp; done)) | exact Below.refl _ _ | assumption | refine sub_alloc ?_ _ | refine sub_setCell ?_ (by simp <;> omega) _ | refine sub_drew ?_ | refine below_drewN ?_ _ | refine sub_step (by assumption) ?_ (by first | rfl | (simp; done))))) (by exact HH'.out.sub (by repeat (first | with_reducible exact Below.refl _ _ | with_reducible assumption | with_reducible refine sub_alloc ?_ _ | (with_reducible refine sub_setCell2 ?_ ?_ _; (focus (first | (simp; done) | (simp <;> omega)))) | with_reducible refine sub_drew ?_ | with_reducible refine below_drewN ?_ _ | with_reducible refine sub_step (by assumption) ?_ (by first | rfl | (simp; done)) | exact Below.refl _ _ | assumption | refine sub_alloc ?_ _ | refine sub_setCell ?_ (by simp <;> omega) _ | refine sub_drew ?_ | refine below_drewN ?_ _ | refine sub_step (by assumption) ?_ (by first | rfl | (simp; done))))) hn).mono ?_
    rintro e w1 ⟨rfl, hb1⟩
    go_wp2_with fail
    go_ret2
    exact ⟨by simp [needR, e0], (by repeat (first | with_reducible exact Below.refl _ _ | with_reducible assumption | with_reducible refine sub_alloc ?_ _ | (with_reducible refine sub_setCell2 ?_ ?_ _; (focus (first | (simp; done) | (simp <;> omega)))) | with_reducible refine sub_drew ?_ | with_reducible refine below_drewN ?_ _ | with_reducible refine sub_step (by assumption) ?_ (by first | rfl | (simp; done)) | exact Below.refl _ _ | assumption | refine sub_alloc ?_ _ | refine sub_setCell ?_ (by simp <;> omega) _ | refine sub_drew ?_ | refine below_drewN ?_ _ | refine sub_step (by assumption) ?_ (by first | rfl | (simp; done))))⟩
  obtain ⟨-, -, z2, -, -, z5, z6, z7, z8, z9, z10, z11, z12⟩ := okP_parts e0
  obtain rfl : n' = 2 := by rw [← HL'.out, z2]
  obtain ⟨x0, x1, rfl⟩ := two_of z2
  have hx : (0 ≤ x0 ∧ x0 ≤ 96) ∧ (0 ≤ x1 ∧ x1 ≤ 96) := by simpa [okN, inB] using z5
  obtain ⟨⟨g0, g1⟩, ⟨g2, g3⟩⟩ := hx
  have Z6 := Lib.hid z6
  have Z7 := Lib.hid z7
  have Z8 := Lib.hid z8
  have Z9 := Lib.hid z9
  have Z10 := Lib.hid z10
  have Z11 := Lib.hid z11
  have Z12 := Lib.hid z12
  clear z2 z5 z6 z7 z8 z9 z10 z11 z12
  cases e1 : inB q 0 1
  · go_enter Try.func90, Try.ntmps90
    go_wp2_with fail
    refine (ValidPosition_any p s st sk re fe ag c sl _ _ _ _ _ _ xs [x0, x1] pl _ (by exact HH.out.sub (by repeat (first | with_reducible exact Below.refl _ _ | with_reducible assumption | with_reducible refine sub_alloc ?_ _ | (with_reducible refine sub_setCell2 ?_ ?_ _; (focus (first | (simp; done) | (simp <;> omega)))) | with_reducible refine sub_drew ?_ | with_reducible refine below_drewN ?_ _ | with_reducible refine sub_step (by assumption) ?_ (by first | rfl | (simp; done)) | exact Below.refl _ _ | assumption | refine sub_alloc ?_ _ | refine sub_setCell ?_ (by simp <;> omega) _ | refine sub_drew ?_ | refine below_drewN ?_ _ | refine sub_step (by assumption) ?_ (by first | rfl | (simp; done))))) (by exact HH'.out.sub (by repeat (first | with_reducible exact Below.refl _ _ | with_reducible assumption | with_reducible refine sub_alloc ?_ _ | (with_reducible refine sub_setCell2 ?_ ?_ _; (focus (first | (simp; done) | (simp <;> omega)))) | with_reducible refine sub_drew ?_ | with_reducible refine below_drewN ?_ _ | with_reducible refine sub_step (by assumption) ?_ (by first | rfl | (simp; done)) | exact Below.refl _ _ | assumption | refine sub_alloc ?_ _ | refine sub_setCell ?_ (by simp <;> omega) _ | refine sub_drew ?_ | refine below_drewN ?_ _ | refine sub_step (by assumption) ?_ (by first | rfl | (simp; done))))) hn).mono ?_
    rintro e w1 ⟨rfl, hb1⟩
    have P2 := P0.out.below hb1 (by simp <;> omega)
    have P3 := P1.out.below hb1 (by simp <;> omega)
    obtain ⟨c0, c1, c2, c3, c4, c5, c6, c7, c8⟩ := P2.flat
    obtain ⟨d0, d1, d2⟩ := P3.flat
    simp at d0 d1 d2
    go_wp2_with fail
    refine (isPlayer_any _ _).mono ?_
    rintro e w2 ⟨rfl, rfl⟩
    go_wp2_with fail
    go_ret2
    exact ⟨by simp [needR, e0, e1], (by repeat (first | with_reducible exact Below.refl _ _ | with_reducible assumption | with_reducible refine sub_alloc ?_ _ | (with_reducible refine sub_setCell2 ?_ ?_ _; (focus (first | (simp; done) | (simp <;> omega)))) | with_reducible refine sub_drew ?_ | with_reducible refine below_drewN ?_ _ | with_reducible refine sub_step (by assumption) ?_ (by first | rfl | (simp; done)) | exact Below.refl _ _ | assumption | refine sub_alloc ?_ _ | refine sub_setCell ?_ (by simp <;> omega) _ | refine sub_drew ?_ | refine below_drewN ?_ _ | refine sub_step (by assumption) ?_ (by first | rfl | (simp; done))))⟩
  have hi := inB_t e1
  obtain ⟨t, ht⟩ : ∃ t, xs.sum + [x0, x1].sum = t := ⟨_, rfl⟩
  have HT := Lib.hid (show sumV xs + sumV [x0, x1] = t by rw [Z11.out, Z12.out]; exact ht)
  have HT2 := Lib.hid ht
  have ht0 : 0 ≤ t := by have := Z7.out; have := Z8.out; omega
  have ht1 : t ≤ 96 := by have := Z6.out; omega
  clear ht
  rcases (show q = 0 ∨ q = 1 by omega) with rfl | rfl
  · have NR := Lib.hid (needR_0 e0 HT2.out)
    clear hi
    go_enter Try.func90, Try.ntmps90
    go_wp2_with fail
    refine (ValidPosition_any p s st sk re fe ag c sl _ _ _ _ _ _ xs [x0, x1] pl _ (by exact HH.out.sub (by repeat (first | with_reducible exact Below.refl _ _ | with_reducible assumption | with_reducible refine sub_alloc ?_ _ | (with_reducible refine sub_setCell2 ?_ ?_ _; (focus (first | (simp; done) | (simp <;> omega)))) | with_reducible refine sub_drew ?_ | with_reducible refine below_drewN ?_ _ | with_reducible refine sub_step (by assumption) ?_ (by first | rfl | (simp; done)) | exact Below.refl _ _ | assumption | refine sub_alloc ?_ _ | refine sub_setCell ?_ (by simp <;> omega) _ | refine sub_drew ?_ | refine below_drewN ?_ _ | refine sub_step (by assumption) ?_ (by first | rfl | (simp; done))))) (by exact HH'.out.sub (by repeat (first | with_reducible exact Below.refl _ _ | with_reducible assumption | with_reducible refine sub_alloc ?_ _ | (with_reducible refine sub_setCell2 ?_ ?_ _; (focus (first | (simp; done) | (simp <;> omega)))) | with_reducible refine sub_drew ?_ | with_reducible refine below_drewN ?_ _ | with_reducible refine sub_step (by assumption) ?_ (by first | rfl | (simp; done)) | exact Below.refl _ _ | assumption | refine sub_alloc ?_ _ | refine sub_setCell ?_ (by simp <;> omega) _ | refine sub_drew ?_ | refine below_drewN ?_ _ | refine sub_step (by assumption) ?_ (by first | rfl | (simp; done))))) hn).mono ?_
    rintro e w1 ⟨rfl, hb1⟩
    have P2 := P0.out.below hb1 (by simp <;> omega)
    have P3 := P1.out.below hb1 (by simp <;> omega)
    obtain ⟨c0, c1, c2, c3, c4, c5, c6, c7, c8⟩ := P2.flat
    obtain ⟨d0, d1, d2⟩ := P3.flat
    simp at d0 d1 d2
    have hbel : Below w.heap.size w (w1) := (by repeat (first | with_reducible exact Below.refl _ _ | with_reducible assumption | with_reducible refine sub_alloc ?_ _ | (with_reducible refine sub_setCell2 ?_ ?_ _; (focus (first | (simp; done) | (simp <;> omega)))) | with_reducible refine sub_drew ?_ | with_reducible refine below_drewN ?_ _ | with_reducible refine sub_step (by assumption) ?_ (by first | rfl | (simp; done)) | exact Below.refl _ _ | assumption | refine sub_alloc ?_ _ | refine sub_setCell ?_ (by simp <;> omega) _ | refine sub_drew ?_ | refine below_drewN ?_ _ | refine sub_step (by assumption) ?_ (by first | rfl | (simp; done))))
    have HK := Lib.hid (HH.out.sub hbel)
    have HK' := HH'.out.sub hbel
    clear hbel
    obtain ⟨bb, oo, rfl, hbb, -⟩ := HK'.at_ (by omega)
    obtain ⟨y0, y1⟩ := HK'.two
    have HK' := Lib.hid HK'
    go_wp2_with fail
    refine (isPlayer_any _ _).mono ?_
    rintro e w2 ⟨rfl, rfl⟩
    go_wp2_with fail
    have P3 : PosAt w1 (w.heap.size + 1) 0 A n u (some ⟨bb, oo, none⟩) 2 u' pl := by simpa using P3
    have WR := Lib.hid (show IntKind.i64.wrap (IntKind.i64.wrap (IntKind.i64.wrap (t.tdiv 2) + 1) - x0) = t / 2 + 1 - x0 by rw [IntWalk.i64_quo t 2 (by omega), IntWalk.i64_in (t / 2 + 1) (by omega), IntWalk.i64_in (t / 2 + 1 - x0) (by omega)])
    go_region_held3 (fun w' => w'.cell? ⟨w.heap.size + 1, 0, none⟩ = some (.slice A n u) ∧ w'.cell? ⟨w.heap.size + 1, 1, none⟩ = some (.slice (some ⟨bb, oo, none⟩) 2 u') ∧ w'.cell? ⟨w.heap.size + 1, 2, none⟩ = some (.int .i64 pl) ∧ w'.cell? ⟨bb, oo, none⟩ = some (.int .i64 x0) ∧ w'.cell? ⟨bb, oo + 1, none⟩ = some (.int .i64 x1)) (first | (refine ⟨?_, ?_, ?_, ?_, ?_⟩ <;> assumption) | go_keep) (first | (go_at_call 148; refine (all_is _ _ _ _ _ _ xs [x0, x1] pl t HT.out _ (by exact HK.out) (by exact HK'.out) hn (by omega)).mono ?_; rintro e w2 ⟨rfl, hb2⟩; have hb2 := undrew hb2; have Y1 := P3.below hb2 P3.lt; obtain ⟨y2, y3, y4⟩ := Y1.flat; obtain ⟨v0, v1⟩ := (HK'.out.sub hb2).two))
    go_wp2_with fail
    all_goals
      rw [WR.out] at h
      go_ret2
      exact ⟨by first | simp [NR.out, WR.out, mx_p (a := t / 2 + 1 - x0) (by omega)] | simp [NR.out, mx_n (a := t / 2 + 1 - x0) (by omega)], (by repeat (first | with_reducible exact Below.refl _ _ | with_reducible assumption | with_reducible refine sub_alloc ?_ _ | (with_reducible refine sub_setCell2 ?_ ?_ _; (focus (first | (simp; done) | (simp <;> omega)))) | with_reducible refine sub_drew ?_ | with_reducible refine below_drewN ?_ _ | with_reducible refine sub_step (by assumption) ?_ (by first | rfl | (simp; done)) | exact Below.refl _ _ | assumption | refine sub_alloc ?_ _ | refine sub_setCell ?_ (by simp <;> omega) _ | refine sub_drew ?_ | refine below_drewN ?_ _ | refine sub_step (by assumption) ?_ (by first | rfl | (simp; done))))⟩
  · have NR := Lib.hid (needR_1 e0 HT2.out)
    clear hi
    go_enter Try.func90, Try.ntmps90
    go_wp2_with fail
    refine (ValidPosition_any p s st sk re fe ag c sl _ _ _ _ _ _ xs [x0, x1] pl _ (by exact HH.out.sub (by repeat (first | with_reducible exact Below.refl _ _ | with_reducible assumption | with_reducible refine sub_alloc ?_ _ | (with_reducible refine sub_setCell2 ?_ ?_ _; (focus (first | (simp; done) | (simp <;> omega)))) | with_reducible refine sub_drew ?_ | with_reducible refine below_drewN ?_ _ | with_reducible refine sub_step (by assumption) ?_ (by first | rfl | (simp; done)) | exact Below.refl _ _ | assumption | refine sub_alloc ?_ _ | refine sub_setCell ?_ (by simp <;> omega) _ | refine sub_drew ?_ | refine below_drewN ?_ _ | refine sub_step (by assumption) ?_ (by first | rfl | (simp; done))))) (by exact HH'.out.sub (by repeat (first | with_reducible exact Below.refl _ _ | with_reducible assumption | with_reducible refine sub_alloc ?_ _ | (with_reducible refine sub_setCell2 ?_ ?_ _; (focus (first | (simp; done) | (simp <;> omega)))) | with_reducible refine sub_drew ?_ | with_reducible refine below_drewN ?_ _ | with_reducible refine sub_step (by assumption) ?_ (by first | rfl | (simp; done)) | exact Below.refl _ _ | assumption | refine sub_alloc ?_ _ | refine sub_setCell ?_ (by simp <;> omega) _ | refine sub_drew ?_ | refine below_drewN ?_ _ | refine sub_step (by assumption) ?_ (by first | rfl | (simp; done))))) hn).mono ?_
    rintro e w1 ⟨rfl, hb1⟩
    have P2 := P0.out.below hb1 (by simp <;> omega)
    have P3 := P1.out.below hb1 (by simp <;> omega)
    obtain ⟨c0, c1, c2, c3, c4, c5, c6, c7, c8⟩ := P2.flat
    obtain ⟨d0, d1, d2⟩ := P3.flat
    simp at d0 d1 d2
    have hbel : Below w.heap.size w (w1) := (by repeat (first | with_reducible exact Below.refl _ _ | with_reducible assumption | with_reducible refine sub_alloc ?_ _ | (with_reducible refine sub_setCell2 ?_ ?_ _; (focus (first | (simp; done) | (simp <;> omega)))) | with_reducible refine sub_drew ?_ | with_reducible refine below_drewN ?_ _ | with_reducible refine sub_step (by assumption) ?_ (by first | rfl | (simp; done)) | exact Below.refl _ _ | assumption | refine sub_alloc ?_ _ | refine sub_setCell ?_ (by simp <;> omega) _ | refine sub_drew ?_ | refine below_drewN ?_ _ | refine sub_step (by assumption) ?_ (by first | rfl | (simp; done))))
    have HK := Lib.hid (HH.out.sub hbel)
    have HK' := HH'.out.sub hbel
    clear hbel
    obtain ⟨bb, oo, rfl, hbb, -⟩ := HK'.at_ (by omega)
    obtain ⟨y0, y1⟩ := HK'.two
    have HK' := Lib.hid HK'
    go_wp2_with fail
    refine (isPlayer_any _ _).mono ?_
    rintro e w2 ⟨rfl, rfl⟩
    go_wp2_with fail
    have P3 : PosAt w1 (w.heap.size + 1) 0 A n u (some ⟨bb, oo, none⟩) 2 u' pl := by simpa using P3
    have WR := Lib.hid (show IntKind.i64.wrap (IntKind.i64.wrap (IntKind.i64.wrap (t.tdiv 2) + 1) - x1) = t / 2 + 1 - x1 by rw [IntWalk.i64_quo t 2 (by omega), IntWalk.i64_in (t / 2 + 1) (by omega), IntWalk.i64_in (t / 2 + 1 - x1) (by omega)])
    go_region_held3 (fun w' => w'.cell? ⟨w.heap.size + 1, 0, none⟩ = some (.slice A n u) ∧ w'.cell? ⟨w.heap.size + 1, 1, none⟩ = some (.slice (some ⟨bb, oo, none⟩) 2 u') ∧ w'.cell? ⟨w.heap.size + 1, 2, none⟩ = some (.int .i64 pl) ∧ w'.cell? ⟨bb, oo, none⟩ = some (.int .i64 x0) ∧ w'.cell? ⟨bb, oo + 1, none⟩ = some (.int .i64 x1)) (first | (refine ⟨?_, ?_, ?_, ?_, ?_⟩ <;> assumption) | go_keep) (first | (go_at_call 148; refine (all_is _ _ _ _ _ _ xs [x0, x1] pl t HT.out _ (by exact HK.out) (by exact HK'.out) hn (by omega)).mono ?_; rintro e w2 ⟨rfl, hb2⟩; have hb2 := undrew hb2; have Y1 := P3.below hb2 P3.lt; obtain ⟨y2, y3, y4⟩ := Y1.flat; obtain ⟨v0, v1⟩ := (HK'.out.sub hb2).two))
    go_wp2_with fail
    all_goals
      rw [WR.out] at h
      go_ret2
      exact ⟨by first | simp [NR.out, WR.out, mx_p (a := t / 2 + 1 - x1) (by omega)] | simp [NR.out, mx_n (a := t / 2 + 1 - x1) (by omega)], (by repeat (first | with_reducible exact Below.refl _ _ | with_reducible assumption | with_reducible refine sub_alloc ?_ _ | (with_reducible refine sub_setCell2 ?_ ?_ _; (focus (first | (simp; done) | (simp <;> omega)))) | with_reducible refine sub_drew ?_ | with_reducible refine below_drewN ?_ _ | with_reducible refine sub_step (by assumption) ?_ (by first | rfl | (simp; done)) | exact Below.refl _ _ | assumption | refine sub_alloc ?_ _ | refine sub_setCell ?_ (by simp <;> omega) _ | refine sub_drew ?_ | refine below_drewN ?_ _ | refine sub_step (by assumption) ?_ (by first | rfl | (simp; done))))⟩
end Go.Proofs.Ytnanaldolnehiaa
