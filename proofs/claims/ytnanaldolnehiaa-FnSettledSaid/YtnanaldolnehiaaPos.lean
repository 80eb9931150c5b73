/-
  Positions: handed over from the laws' own type, sized, compared, marked and held; the program's and the reference's comparison.
-/
import Derived.Test.YtnanaldolnehiaaLists
import Derived.Deep.RegionHeld3
namespace Go.Proofs.Ytnanaldolnehiaa
open Go.ChangeShapes Go.WideShapes Go.RowKit Go.Deep

/-- Two slices of the call's own that do not lie in one block. -/
def Apart (A A' : Option Addr) : Prop := ∀ g, A = some ⟨g, 0, none⟩ → A' ≠ some ⟨g, 0, none⟩
/-- What a call hands back that makes a position of its own. -/
def RetPos (w : World) (n n' : Nat) (zs zs' : List Int) (pl : Int) (e : Ending) (w' : World) : Prop :=
  ∃ A c A' c', e = .returned (.agg #[.slice A n c, .slice A' n' c', .int .i64 pl]) ∧ Own w' w.heap.size A n c zs ∧ Own w' w.heap.size A' n' c' zs' ∧ Apart A A' ∧ Below w.heap.size w w'
theorem Own.lower {w : World} {base base' n c : Nat} {A : Option Addr} {zs : List Int} (h : Own w base A n c zs) (hb : base' ≤ base) : Own w base' A n c zs := by
  refine ⟨h.1, h.2.1, h.2.2.1, h.row.1, ?_⟩
  rcases h.row.2 with h2 | ⟨g, cap, cur, e, hg, rest⟩
  · exact .inl h2
  · exact .inr ⟨g, cap, cur, e, by omega, rest⟩
theorem apart_of {w w' : World} {base base' n c n' c' : Nat} {A A' : Option Addr} {zs zs' : List Int} (h : Own w base A n c zs) (h' : Own w' base' A' n' c' zs') (hb : w.heap.size ≤ base') : Apart A A' := by
  rintro g rfl e
  rcases h.form with ⟨e1, _⟩ | ⟨g1, e1, _, h1⟩
  · cases e1
  · injection e1 with e1
    injection e1 with e1
    subst e1
    rcases h'.form with ⟨e2, _⟩ | ⟨g2, e2, h2, _⟩
    · rw [e] at e2; cases e2
    · rw [e] at e2
      injection e2 with e2
      injection e2 with e2
      omega
theorem Own.setBelow {w : World} {base n c : Nat} {A : Option Addr} {zs : List Int} (h : Own w base A n c zs) {p : Addr} (hp : p.block < base) (u : Value) : Own (w.setCell p u) base A n c zs :=
  ⟨h.1, h.2.1, h.2.2.1, ownsRow_setCell_below h.row hp u⟩

set_option maxHeartbeats 1000000 in
theorem toPosition_any (A A' : Option Addr) (n c n' c' : Nat) (zs zs' : List Int) (pl : Int) (w : World) (h : Ints w w.heap.size A n c zs) (h' : Ints w w.heap.size A' n' c' zs') (hn : n ≤ 4294967296) (hn' : n' ≤ 4294967296) :
    Calls Try.prog 21 #[.agg #[.slice A n c, .slice A' n' c', .int .i64 pl]] w (RetPos w n n' zs zs' pl) := by
  have HH := Lib.hid h
  have HH' := Lib.hid h'
  clear h h'
  go_enter Try.func21, Try.ntmps21
  go_wp2_with fail
  refine (toInt64S_any _ A n c zs _ (by exact HH.out.sub (by repeat (first | with_reducible exact Below.refl _ _ | with_reducible assumption | with_reducible refine sub_alloc ?_ _ | (with_reducible refine sub_setCell2 ?_ ?_ _; (focus (first | (simp; done) | (simp <;> omega)))) | with_reducible refine sub_drew ?_ | with_reducible refine below_drewN ?_ _ | with_reducible refine sub_step (by assumption) ?_ (by first | rfl | (simp; done)) | exact Below.refl _ _ | assumption | refine sub_alloc ?_ _ | refine sub_setCell ?_ (by simp <;> omega) _ | refine sub_drew ?_ | refine below_drewN ?_ _ | refine sub_step (by assumption) ?_ (by first | rfl | (simp; done))))) hn (Nat.le_refl _)).mono ?_
  rintro e w1 ⟨A1, c1, rfl, ho1, hb1⟩
  obtain ⟨hc1, hf1⟩ := bcell hb1; have hz1 := hb1.size; (try simp at hz1); have l_w1_0 : w.heap.size < w1.heap.size := (by omega); have l_w1_1 : w.heap.size + 1 < w1.heap.size := (by omega); have l_w1_2 : w.heap.size + 1 + 1 < w1.heap.size := (by omega)
  go_wp2_with fail
  have ho1' := ho1.setBelow (p := ⟨w.heap.size + 1 + 1, 0, none⟩) (by simp) (.slice A1 n c1)
  refine (toInt64S_any _ A' n' c' zs' _ (by exact HH'.out.sub (by repeat (first | with_reducible exact Below.refl _ _ | with_reducible assumption | with_reducible refine sub_alloc ?_ _ | (with_reducible refine sub_setCell2 ?_ ?_ _; (focus (first | (simp; done) | (simp <;> omega)))) | with_reducible refine sub_drew ?_ | with_reducible refine below_drewN ?_ _ | with_reducible refine sub_step (by assumption) ?_ (by first | rfl | (simp; done)) | exact Below.refl _ _ | assumption | refine sub_alloc ?_ _ | refine sub_setCell ?_ (by simp <;> omega) _ | refine sub_drew ?_ | refine below_drewN ?_ _ | refine sub_step (by assumption) ?_ (by first | rfl | (simp; done))))) hn' (Nat.le_refl _)).mono ?_
  rintro e w2 ⟨A2, c2, rfl, ho2, hb2⟩
  have hap := apart_of ho1' ho2 (Nat.le_refl _)
  have ho1b := Lib.hid (ho1'.below hb2 (Nat.le_refl _))
  obtain ⟨hc2, hf2⟩ := bcell hb2; have hz2 := hb2.size; (try simp at hz2); have l_w2_0 : w.heap.size < w2.heap.size := (by omega); have l_w2_1 : w.heap.size + 1 < w2.heap.size := (by omega); have l_w2_2 : w.heap.size + 1 + 1 < w2.heap.size := (by omega)
  clear ho1 ho1'
  go_wp2_with fail
  have ho1c : Own w2 (w.heap.size + 1 + 1 + 1) A1 n c1 zs := ho1b.out.lower (by simp)
  have ho2c : Own w2 (w.heap.size + 1 + 1 + 1) A2 n' c2 zs' := ho2.lower (by simp; omega)
  refine bodyPost_ret (v := .agg #[.slice A1 n c1, .slice A2 n' c2, .int .i64 pl]) (by simp [results, Try.results21, go_sem, hc1, hc2, l_w1_1]) rfl ⟨A1, c1, A2, c2, rfl, ?_, ?_, hap, (by repeat (first | with_reducible exact Below.refl _ _ | with_reducible assumption | with_reducible refine sub_alloc ?_ _ | (with_reducible refine sub_setCell2 ?_ ?_ _; (focus (first | (simp; done) | (simp <;> omega)))) | with_reducible refine sub_drew ?_ | with_reducible refine below_drewN ?_ _ | with_reducible refine sub_step (by assumption) ?_ (by first | rfl | (simp; done)) | exact Below.refl _ _ | assumption | refine sub_alloc ?_ _ | refine sub_setCell ?_ (by simp <;> omega) _ | refine sub_drew ?_ | refine below_drewN ?_ _ | refine sub_step (by assumption) ?_ (by first | rfl | (simp; done))))⟩
  · refine Own.lower (base := w.heap.size + 1 + 1 + 1) ?_ (by omega)
    repeat (refine Own.setBelow ?_ (by simp) _)
    exact ho1c
  · refine Own.lower (base := w.heap.size + 1 + 1 + 1) ?_ (by omega)
    repeat (refine Own.setBelow ?_ (by simp) _)
    exact ho2c
/-- What is left of a size behind a position. -/
def szPF (left : Int) (n n' : Nat) : Int := if szF left n < 0 then -1 else szF (szF left n) n'
theorem szF_neg {left : Int} {n : Nat} (h : szF left n < 0) : szF left n = -1 := by
  unfold szF at h ⊢
  split
  · rfl
  · rename_i h1
    rw [if_neg h1] at h
    omega
theorem szPF_ok {left : Int} {n n' : Nat} (h : 0 ≤ szPF left n n') : (n : Int) + (n' : Int) ≤ left ∧ szPF left n n' = left - (n : Int) - (n' : Int) := by
  unfold szPF at h ⊢
  split at h
  · omega
  · rename_i h1
    rw [if_neg h1]
    have a := szF_ok (left := left) (n := n) (by omega)
    have b := szF_ok h
    omega
theorem ret_int {k : IntKind} {a b : Int} (h : a = b) : Ending.returned (.int k a) = .returned (.int k b) := by rw [h]
set_option maxHeartbeats 1000000 in
theorem szPosition_any (A A' : Option Addr) (n c n' c' : Nat) (pl left : Int) (w : World) (hn : n ≤ 9223372036854775807) (hn' : n' ≤ 9223372036854775807) (h0 : 0 ≤ left) (h1 : left ≤ 1048576) :
    Calls Try.prog 18 #[.agg #[.slice A n c, .slice A' n' c', .int .i64 pl], .int .i64 left] w fun e w' => e = .returned (.int .i64 (szPF left n n')) ∧ Below w.heap.size w w' := by
  obtain ⟨q1, q2⟩ := szF_bd (left := left) (n := n) (by omega)
  have q3 : szF left n ≤ 1048576 := by omega
  clear q2
  go_enter Try.func18, Try.ntmps18
  go_wp2_with fail
  refine (szInt64S_any _ _ _ _ _ hn h0 h1).mono ?_; rintro e w1 ⟨rfl, rfl⟩
  go_wp2_with fail
  · go_ret
    exact ⟨ret_int (by unfold szPF; rw [if_pos (by assumption)]), (by repeat (first | with_reducible exact Below.refl _ _ | with_reducible assumption | with_reducible refine sub_alloc ?_ _ | (with_reducible refine sub_setCell2 ?_ ?_ _; (focus (first | (simp; done) | (simp <;> omega)))) | with_reducible refine sub_drew ?_ | with_reducible refine below_drewN ?_ _ | with_reducible refine sub_step (by assumption) ?_ (by first | rfl | (simp; done)) | exact Below.refl _ _ | assumption | refine sub_alloc ?_ _ | refine sub_setCell ?_ (by simp <;> omega) _ | refine sub_drew ?_ | refine below_drewN ?_ _ | refine sub_step (by assumption) ?_ (by first | rfl | (simp; done))))⟩
  · have hg : 0 ≤ szF left n := by assumption
    refine (szInt64S_any _ _ _ _ _ hn' hg q3).mono ?_; rintro e w1 ⟨rfl, rfl⟩
    go_wp2_with fail
    · go_ret
      exact ⟨ret_int (by unfold szPF; rw [if_neg (by omega), szF_neg (by assumption)]), (by repeat (first | with_reducible exact Below.refl _ _ | with_reducible assumption | with_reducible refine sub_alloc ?_ _ | (with_reducible refine sub_setCell2 ?_ ?_ _; (focus (first | (simp; done) | (simp <;> omega)))) | with_reducible refine sub_drew ?_ | with_reducible refine below_drewN ?_ _ | with_reducible refine sub_step (by assumption) ?_ (by first | rfl | (simp; done)) | exact Below.refl _ _ | assumption | refine sub_alloc ?_ _ | refine sub_setCell ?_ (by simp <;> omega) _ | refine sub_drew ?_ | refine below_drewN ?_ _ | refine sub_step (by assumption) ?_ (by first | rfl | (simp; done))))⟩
    · go_ret
      exact ⟨ret_int (by unfold szPF; rw [if_neg (by omega)]), (by repeat (first | with_reducible exact Below.refl _ _ | with_reducible assumption | with_reducible refine sub_alloc ?_ _ | (with_reducible refine sub_setCell2 ?_ ?_ _; (focus (first | (simp; done) | (simp <;> omega)))) | with_reducible refine sub_drew ?_ | with_reducible refine below_drewN ?_ _ | with_reducible refine sub_step (by assumption) ?_ (by first | rfl | (simp; done)) | exact Below.refl _ _ | assumption | refine sub_alloc ?_ _ | refine sub_setCell ?_ (by simp <;> omega) _ | refine sub_drew ?_ | refine below_drewN ?_ _ | refine sub_step (by assumption) ?_ (by first | rfl | (simp; done))))⟩
set_option maxHeartbeats 1000000 in
theorem eqPosition_any (A A' C C' : Option Addr) (n c n' c' m d m' d' : Nat) (xs xs' ys ys' : List Int) (pl ql : Int) (w : World) (h : Ints w w.heap.size A n c xs) (h' : Ints w w.heap.size A' n' c' xs') (k : Ints w w.heap.size C m d ys) (k' : Ints w w.heap.size C' m' d' ys') :
    Calls Try.prog 23 #[.agg #[.slice A n c, .slice A' n' c', .int .i64 pl], .agg #[.slice C m d, .slice C' m' d', .int .i64 ql]] w fun e w' => e = .returned (.bool (decide (xs = ys) && decide (xs' = ys') && decide (pl = ql))) ∧ Below w.heap.size w w' := by
  have HH := Lib.hid h
  have HH' := Lib.hid h'
  have KK := Lib.hid k
  have KK' := Lib.hid k'
  clear h h' k k'
  cases e1 : decide (xs = ys)
  · go_enter Try.func23, Try.ntmps23
    go_wp2_with fail
    refine (eqInt64S_any _ _ _ _ _ _ _ _ xs ys _ (by exact HH.out.sub (by repeat (first | with_reducible exact Below.refl _ _ | with_reducible assumption | with_reducible refine sub_alloc ?_ _ | (with_reducible refine sub_setCell2 ?_ ?_ _; (focus (first | (simp; done) | (simp <;> omega)))) | with_reducible refine sub_drew ?_ | with_reducible refine below_drewN ?_ _ | with_reducible refine sub_step (by assumption) ?_ (by first | rfl | (simp; done)) | exact Below.refl _ _ | assumption | refine sub_alloc ?_ _ | refine sub_setCell ?_ (by simp <;> omega) _ | refine sub_drew ?_ | refine below_drewN ?_ _ | refine sub_step (by assumption) ?_ (by first | rfl | (simp; done))))) (by exact KK.out.sub (by repeat (first | with_reducible exact Below.refl _ _ | with_reducible assumption | with_reducible refine sub_alloc ?_ _ | (with_reducible refine sub_setCell2 ?_ ?_ _; (focus (first | (simp; done) | (simp <;> omega)))) | with_reducible refine sub_drew ?_ | with_reducible refine below_drewN ?_ _ | with_reducible refine sub_step (by assumption) ?_ (by first | rfl | (simp; done)) | exact Below.refl _ _ | assumption | refine sub_alloc ?_ _ | refine sub_setCell ?_ (by simp <;> omega) _ | refine sub_drew ?_ | refine below_drewN ?_ _ | refine sub_step (by assumption) ?_ (by first | rfl | (simp; done)))))).mono ?_
    rintro e w1 ⟨rfl, m1, rfl⟩
    go_wp2_with fail
    go_ret
    exact ⟨ret_b (by simp), (by repeat (first | with_reducible exact Below.refl _ _ | with_reducible assumption | with_reducible refine sub_alloc ?_ _ | (with_reducible refine sub_setCell2 ?_ ?_ _; (focus (first | (simp; done) | (simp <;> omega)))) | with_reducible refine sub_drew ?_ | with_reducible refine below_drewN ?_ _ | with_reducible refine sub_step (by assumption) ?_ (by first | rfl | (simp; done)) | exact Below.refl _ _ | assumption | refine sub_alloc ?_ _ | refine sub_setCell ?_ (by simp <;> omega) _ | refine sub_drew ?_ | refine below_drewN ?_ _ | refine sub_step (by assumption) ?_ (by first | rfl | (simp; done))))⟩
  cases e2 : decide (xs' = ys')
  · go_enter Try.func23, Try.ntmps23
    go_wp2_with fail
    refine (eqInt64S_any _ _ _ _ _ _ _ _ xs ys _ (by exact HH.out.sub (by repeat (first | with_reducible exact Below.refl _ _ | with_reducible assumption | with_reducible refine sub_alloc ?_ _ | (with_reducible refine sub_setCell2 ?_ ?_ _; (focus (first | (simp; done) | (simp <;> omega)))) | with_reducible refine sub_drew ?_ | with_reducible refine below_drewN ?_ _ | with_reducible refine sub_step (by assumption) ?_ (by first | rfl | (simp; done)) | exact Below.refl _ _ | assumption | refine sub_alloc ?_ _ | refine sub_setCell ?_ (by simp <;> omega) _ | refine sub_drew ?_ | refine below_drewN ?_ _ | refine sub_step (by assumption) ?_ (by first | rfl | (simp; done))))) (by exact KK.out.sub (by repeat (first | with_reducible exact Below.refl _ _ | with_reducible assumption | with_reducible refine sub_alloc ?_ _ | (with_reducible refine sub_setCell2 ?_ ?_ _; (focus (first | (simp; done) | (simp <;> omega)))) | with_reducible refine sub_drew ?_ | with_reducible refine below_drewN ?_ _ | with_reducible refine sub_step (by assumption) ?_ (by first | rfl | (simp; done)) | exact Below.refl _ _ | assumption | refine sub_alloc ?_ _ | refine sub_setCell ?_ (by simp <;> omega) _ | refine sub_drew ?_ | refine below_drewN ?_ _ | refine sub_step (by assumption) ?_ (by first | rfl | (simp; done)))))).mono ?_
    rintro e w1 ⟨rfl, m1, rfl⟩
    go_wp2_with fail
    refine (eqInt64S_any _ _ _ _ _ _ _ _ xs' ys' _ (by exact HH'.out.sub (by repeat (first | with_reducible exact Below.refl _ _ | with_reducible assumption | with_reducible refine sub_alloc ?_ _ | (with_reducible refine sub_setCell2 ?_ ?_ _; (focus (first | (simp; done) | (simp <;> omega)))) | with_reducible refine sub_drew ?_ | with_reducible refine below_drewN ?_ _ | with_reducible refine sub_step (by assumption) ?_ (by first | rfl | (simp; done)) | exact Below.refl _ _ | assumption | refine sub_alloc ?_ _ | refine sub_setCell ?_ (by simp <;> omega) _ | refine sub_drew ?_ | refine below_drewN ?_ _ | refine sub_step (by assumption) ?_ (by first | rfl | (simp; done))))) (by exact KK'.out.sub (by repeat (first | with_reducible exact Below.refl _ _ | with_reducible assumption | with_reducible refine sub_alloc ?_ _ | (with_reducible refine sub_setCell2 ?_ ?_ _; (focus (first | (simp; done) | (simp <;> omega)))) | with_reducible refine sub_drew ?_ | with_reducible refine below_drewN ?_ _ | with_reducible refine sub_step (by assumption) ?_ (by first | rfl | (simp; done)) | exact Below.refl _ _ | assumption | refine sub_alloc ?_ _ | refine sub_setCell ?_ (by simp <;> omega) _ | refine sub_drew ?_ | refine below_drewN ?_ _ | refine sub_step (by assumption) ?_ (by first | rfl | (simp; done)))))).mono ?_
    rintro e w2 ⟨rfl, m2, rfl⟩
    go_wp2_with fail
    go_ret
    exact ⟨ret_b (by simp), (by repeat (first | with_reducible exact Below.refl _ _ | with_reducible assumption | with_reducible refine sub_alloc ?_ _ | (with_reducible refine sub_setCell2 ?_ ?_ _; (focus (first | (simp; done) | (simp <;> omega)))) | with_reducible refine sub_drew ?_ | with_reducible refine below_drewN ?_ _ | with_reducible refine sub_step (by assumption) ?_ (by first | rfl | (simp; done)) | exact Below.refl _ _ | assumption | refine sub_alloc ?_ _ | refine sub_setCell ?_ (by simp <;> omega) _ | refine sub_drew ?_ | refine below_drewN ?_ _ | refine sub_step (by assumption) ?_ (by first | rfl | (simp; done))))⟩
  by_cases e3 : pl = ql
  · subst e3
    go_enter Try.func23, Try.ntmps23
    go_wp2_with fail
    refine (eqInt64S_any _ _ _ _ _ _ _ _ xs ys _ (by exact HH.out.sub (by repeat (first | with_reducible exact Below.refl _ _ | with_reducible assumption | with_reducible refine sub_alloc ?_ _ | (with_reducible refine sub_setCell2 ?_ ?_ _; (focus (first | (simp; done) | (simp <;> omega)))) | with_reducible refine sub_drew ?_ | with_reducible refine below_drewN ?_ _ | with_reducible refine sub_step (by assumption) ?_ (by first | rfl | (simp; done)) | exact Below.refl _ _ | assumption | refine sub_alloc ?_ _ | refine sub_setCell ?_ (by simp <;> omega) _ | refine sub_drew ?_ | refine below_drewN ?_ _ | refine sub_step (by assumption) ?_ (by first | rfl | (simp; done))))) (by exact KK.out.sub (by repeat (first | with_reducible exact Below.refl _ _ | with_reducible assumption | with_reducible refine sub_alloc ?_ _ | (with_reducible refine sub_setCell2 ?_ ?_ _; (focus (first | (simp; done) | (simp <;> omega)))) | with_reducible refine sub_drew ?_ | with_reducible refine below_drewN ?_ _ | with_reducible refine sub_step (by assumption) ?_ (by first | rfl | (simp; done)) | exact Below.refl _ _ | assumption | refine sub_alloc ?_ _ | refine sub_setCell ?_ (by simp <;> omega) _ | refine sub_drew ?_ | refine below_drewN ?_ _ | refine sub_step (by assumption) ?_ (by first | rfl | (simp; done)))))).mono ?_
    rintro e w1 ⟨rfl, m1, rfl⟩
    go_wp2_with fail
    refine (eqInt64S_any _ _ _ _ _ _ _ _ xs' ys' _ (by exact HH'.out.sub (by repeat (first | with_reducible exact Below.refl _ _ | with_reducible assumption | with_reducible refine sub_alloc ?_ _ | (with_reducible refine sub_setCell2 ?_ ?_ _; (focus (first | (simp; done) | (simp <;> omega)))) | with_reducible refine sub_drew ?_ | with_reducible refine below_drewN ?_ _ | with_reducible refine sub_step (by assumption) ?_ (by first | rfl | (simp; done)) | exact Below.refl _ _ | assumption | refine sub_alloc ?_ _ | refine sub_setCell ?_ (by simp <;> omega) _ | refine sub_drew ?_ | refine below_drewN ?_ _ | refine sub_step (by assumption) ?_ (by first | rfl | (simp; done))))) (by exact KK'.out.sub (by repeat (first | with_reducible exact Below.refl _ _ | with_reducible assumption | with_reducible refine sub_alloc ?_ _ | (with_reducible refine sub_setCell2 ?_ ?_ _; (focus (first | (simp; done) | (simp <;> omega)))) | with_reducible refine sub_drew ?_ | with_reducible refine below_drewN ?_ _ | with_reducible refine sub_step (by assumption) ?_ (by first | rfl | (simp; done)) | exact Below.refl _ _ | assumption | refine sub_alloc ?_ _ | refine sub_setCell ?_ (by simp <;> omega) _ | refine sub_drew ?_ | refine below_drewN ?_ _ | refine sub_step (by assumption) ?_ (by first | rfl | (simp; done)))))).mono ?_
    rintro e w2 ⟨rfl, m2, rfl⟩
    go_wp2_with fail
    go_ret
    exact ⟨ret_b (by simp), (by repeat (first | with_reducible exact Below.refl _ _ | with_reducible assumption | with_reducible refine sub_alloc ?_ _ | (with_reducible refine sub_setCell2 ?_ ?_ _; (focus (first | (simp; done) | (simp <;> omega)))) | with_reducible refine sub_drew ?_ | with_reducible refine below_drewN ?_ _ | with_reducible refine sub_step (by assumption) ?_ (by first | rfl | (simp; done)) | exact Below.refl _ _ | assumption | refine sub_alloc ?_ _ | refine sub_setCell ?_ (by simp <;> omega) _ | refine sub_drew ?_ | refine below_drewN ?_ _ | refine sub_step (by assumption) ?_ (by first | rfl | (simp; done))))⟩
  · have e4 : (pl != ql) = true := by simpa using e3
    have e5 := Lib.hid e3
    clear e3
    go_enter Try.func23, Try.ntmps23
    go_wp2_with fail
    refine (eqInt64S_any _ _ _ _ _ _ _ _ xs ys _ (by exact HH.out.sub (by repeat (first | with_reducible exact Below.refl _ _ | with_reducible assumption | with_reducible refine sub_alloc ?_ _ | (with_reducible refine sub_setCell2 ?_ ?_ _; (focus (first | (simp; done) | (simp <;> omega)))) | with_reducible refine sub_drew ?_ | with_reducible refine below_drewN ?_ _ | with_reducible refine sub_step (by assumption) ?_ (by first | rfl | (simp; done)) | exact Below.refl _ _ | assumption | refine sub_alloc ?_ _ | refine sub_setCell ?_ (by simp <;> omega) _ | refine sub_drew ?_ | refine below_drewN ?_ _ | refine sub_step (by assumption) ?_ (by first | rfl | (simp; done))))) (by exact KK.out.sub (by repeat (first | with_reducible exact Below.refl _ _ | with_reducible assumption | with_reducible refine sub_alloc ?_ _ | (with_reducible refine sub_setCell2 ?_ ?_ _; (focus (first | (simp; done) | (simp <;> omega)))) | with_reducible refine sub_drew ?_ | with_reducible refine below_drewN ?_ _ | with_reducible refine sub_step (by assumption) ?_ (by first | rfl | (simp; done)) | exact Below.refl _ _ | assumption | refine sub_alloc ?_ _ | refine sub_setCell ?_ (by simp <;> omega) _ | refine sub_drew ?_ | refine below_drewN ?_ _ | refine sub_step (by assumption) ?_ (by first | rfl | (simp; done)))))).mono ?_
    rintro e w1 ⟨rfl, m1, rfl⟩
    go_wp2_with fail
    refine (eqInt64S_any _ _ _ _ _ _ _ _ xs' ys' _ (by exact HH'.out.sub (by repeat (first | with_reducible exact Below.refl _ _ | with_reducible assumption | with_reducible refine sub_alloc ?_ _ | (with_reducible refine sub_setCell2 ?_ ?_ _; (focus (first | (simp; done) | (simp <;> omega)))) | with_reducible refine sub_drew ?_ | with_reducible refine below_drewN ?_ _ | with_reducible refine sub_step (by assumption) ?_ (by first | rfl | (simp; done)) | exact Below.refl _ _ | assumption | refine sub_alloc ?_ _ | refine sub_setCell ?_ (by simp <;> omega) _ | refine sub_drew ?_ | refine below_drewN ?_ _ | refine sub_step (by assumption) ?_ (by first | rfl | (simp; done))))) (by exact KK'.out.sub (by repeat (first | with_reducible exact Below.refl _ _ | with_reducible assumption | with_reducible refine sub_alloc ?_ _ | (with_reducible refine sub_setCell2 ?_ ?_ _; (focus (first | (simp; done) | (simp <;> omega)))) | with_reducible refine sub_drew ?_ | with_reducible refine below_drewN ?_ _ | with_reducible refine sub_step (by assumption) ?_ (by first | rfl | (simp; done)) | exact Below.refl _ _ | assumption | refine sub_alloc ?_ _ | refine sub_setCell ?_ (by simp <;> omega) _ | refine sub_drew ?_ | refine below_drewN ?_ _ | refine sub_step (by assumption) ?_ (by first | rfl | (simp; done)))))).mono ?_
    rintro e w2 ⟨rfl, m2, rfl⟩
    go_wp2_with fail
    go_ret
    exact ⟨ret_b (by simpa using e5.out), (by repeat (first | with_reducible exact Below.refl _ _ | with_reducible assumption | with_reducible refine sub_alloc ?_ _ | (with_reducible refine sub_setCell2 ?_ ?_ _; (focus (first | (simp; done) | (simp <;> omega)))) | with_reducible refine sub_drew ?_ | with_reducible refine below_drewN ?_ _ | with_reducible refine sub_step (by assumption) ?_ (by first | rfl | (simp; done)) | exact Below.refl _ _ | assumption | refine sub_alloc ?_ _ | refine sub_setCell ?_ (by simp <;> omega) _ | refine sub_drew ?_ | refine below_drewN ?_ _ | refine sub_step (by assumption) ?_ (by first | rfl | (simp; done))))⟩
theorem own_block {w : World} {base n c g : Nat} {A : Option Addr} {zs : List Int} (h : Own w base A n c zs) (e : (Value.slice A n c).ownBlock = some g) : A = some ⟨g, 0, none⟩ ∧ base ≤ g ∧ g < w.heap.size := by
  rcases h.form with ⟨rfl, _⟩ | ⟨g', rfl, h1, h2⟩
  · simp [Value.ownBlock] at e
  · simp [Value.ownBlock] at e
    subst e
    exact ⟨rfl, h1, h2⟩
theorem grown_cells {w w1 : World} {row : Option Nat} (hg : w.grownBy w1 row) {b : Nat} (hb : b < w.heap.size) (hne : some b ≠ row) (o : Nat) : w1.cell? ⟨b, o, none⟩ = w.cell? ⟨b, o, none⟩ :=
  World.cell?_of_block (hg.block b hb hne)
/-- Nothing that was there has turned but two blocks of the call's own. -/
def But (A A' : Option Addr) (w w' : World) : Prop :=
  (∀ b o, b < w.heap.size → A ≠ some ⟨b, 0, none⟩ → A' ≠ some ⟨b, 0, none⟩ → w'.cell? ⟨b, o, none⟩ = w.cell? ⟨b, o, none⟩) ∧ (∀ base C m d ys, Own w base C m d ys → Apart A C → Apart A' C → Own w' base C m d ys)
set_option maxHeartbeats 1000000 in
theorem markPosition_any (base : Nat) (A A' : Option Addr) (n c n' c' : Nat) (xs xs' : List Int) (pl : Int) (w : World) (h : Own w base A n c xs) (h' : Own w base A' n' c' xs') (hap : Apart A A') (hn : n ≤ 2097152) (hn' : n' ≤ 2097152) (hB : base ≤ w.heap.size) :
    Calls Try.prog 24 #[.agg #[.slice A n c, .slice A' n' c', .int .i64 pl], .int .i64 1] w fun e w' => e = .returned (.int .i64 (1 + (n : Int) + (n' : Int))) ∧ Own w' base A n c (marks 1 n) ∧ Own w' base A' n' c' (marks (1 + (n : Int)) n') ∧ Below base w w' ∧ But A A' w w' := by
  have HH := Lib.hid h
  have HH' := Lib.hid h'
  have hne : some w.heap.size ≠ (Value.slice A n c).ownBlock := fun e => by have := own_block h e.symm; omega
  clear h h'
  go_enter Try.func24, Try.ntmps24
  go_wp2_with fail
  refine (markInt64S_any base A n c xs _ _ (HH.out.alloc _) (by omega) (by omega) (by omega)).mono ?_
  rintro e w1 ⟨rfl, ho1, hg1⟩
  have k1 : w1.cell? ⟨w.heap.size, 1, none⟩ = some (.slice A' n' c') := by rw [grown_cells hg1 (by simp) hne]; simp [World.cell?_alloc_new]
  have h2 : Own w1 base A' n' c' xs' := (HH'.out.alloc _).kept hg1 (fun g e => .inr (hap g (own_block HH.out e).1))
  have hb1 : Below base w w1 := ((Below.refl _ _).alloc hB _).grown hg1 (by simp; omega) (fun g e => (own_block HH.out e).2.1)
  have HO1 := Lib.hid ho1
  have HG1 := Lib.hid hg1
  have HB1 := Lib.hid hb1
  have K1 : But A A w w1 := ⟨fun b o hb h1 _ => (grown_cells hg1 (by simp; omega) (fun e => h1 (own_block HH.out e.symm).1) o).trans (World.cell?_alloc_lt w _ ⟨b, o, none⟩ hb), fun base2 C m d ys h1 h2 _ => (h1.alloc _).kept hg1 (fun g e => .inr (h2 g (own_block HH.out e).1))⟩
  have HK1 := Lib.hid K1
  clear K1
  clear ho1 hg1 hb1 hne
  go_wp2_with fail
  refine (markInt64S_any base A' n' c' xs' _ _ h2 (by omega) (by omega) (by omega)).mono ?_
  rintro e w2 ⟨rfl, ho2, hg2⟩
  have h1 : Own w2 base A n c (marks 1 n) := HO1.out.kept hg2 (fun g e => .inr (fun e' => hap g e' (own_block h2 e).1))
  have hb2 : Below base w w2 := HB1.out.grown hg2 (by have := HB1.out.size; omega) (fun g e => (own_block h2 e).2.1)
  have K2 : But A A' w w2 := ⟨fun b o hb q1 q2 => (grown_cells hg2 (by have := HB1.out.size; omega) (fun e => q2 (own_block h2 e.symm).1) o).trans (HK1.out.1 b o hb q1 q1), fun base2 C m d ys q1 q2 q3 => (HK1.out.2 base2 C m d ys q1 q2 q2).kept hg2 (fun g e => .inr (q3 g (own_block h2 e).1))⟩
  clear hg2 h2
  go_wp2_with fail
  go_ret
  exact ⟨rfl, h1, ho2, hb2, K2⟩
set_option maxHeartbeats 1000000 in
theorem heldPosition_any (A A' : Option Addr) (n c n' c' : Nat) (pl : Int) (w : World) (h : Ints w w.heap.size A n c (marks 1 n)) (h' : Ints w w.heap.size A' n' c' (marks (1 + (n : Int)) n')) (hn : n ≤ 2097152) (hn' : n' ≤ 2097152) :
    Calls Try.prog 25 #[.agg #[.slice A n c, .slice A' n' c', .int .i64 pl], .int .i64 1] w fun e w' => e = .returned (.int .i64 (1 + (n : Int) + (n' : Int))) ∧ Below w.heap.size w w' := by
  have HH := Lib.hid h
  have HH' := Lib.hid h'
  clear h h'
  go_enter Try.func25, Try.ntmps25
  go_wp2_with fail
  refine (heldInt64S_any _ A n c _ _ (by exact HH.out.sub (by repeat (first | with_reducible exact Below.refl _ _ | with_reducible assumption | with_reducible refine sub_alloc ?_ _ | (with_reducible refine sub_setCell2 ?_ ?_ _; (focus (first | (simp; done) | (simp <;> omega)))) | with_reducible refine sub_drew ?_ | with_reducible refine below_drewN ?_ _ | with_reducible refine sub_step (by assumption) ?_ (by first | rfl | (simp; done)) | exact Below.refl _ _ | assumption | refine sub_alloc ?_ _ | refine sub_setCell ?_ (by simp <;> omega) _ | refine sub_drew ?_ | refine below_drewN ?_ _ | refine sub_step (by assumption) ?_ (by first | rfl | (simp; done))))) (by omega) (by omega) (by omega)).mono ?_
  rintro e w1 ⟨rfl, rfl⟩
  go_wp2_with fail
  refine (heldInt64S_any _ A' n' c' _ _ (by exact HH'.out.sub (by repeat (first | with_reducible exact Below.refl _ _ | with_reducible assumption | with_reducible refine sub_alloc ?_ _ | (with_reducible refine sub_setCell2 ?_ ?_ _; (focus (first | (simp; done) | (simp <;> omega)))) | with_reducible refine sub_drew ?_ | with_reducible refine below_drewN ?_ _ | with_reducible refine sub_step (by assumption) ?_ (by first | rfl | (simp; done)) | exact Below.refl _ _ | assumption | refine sub_alloc ?_ _ | refine sub_setCell ?_ (by simp <;> omega) _ | refine sub_drew ?_ | refine below_drewN ?_ _ | refine sub_step (by assumption) ?_ (by first | rfl | (simp; done))))) (by omega) (by omega) (by omega)).mono ?_
  rintro e w1 ⟨rfl, rfl⟩
  go_wp2_with fail
  go_ret
  exact ⟨rfl, (by repeat (first | with_reducible exact Below.refl _ _ | with_reducible assumption | with_reducible refine sub_alloc ?_ _ | (with_reducible refine sub_setCell2 ?_ ?_ _; (focus (first | (simp; done) | (simp <;> omega)))) | with_reducible refine sub_drew ?_ | with_reducible refine below_drewN ?_ _ | with_reducible refine sub_step (by assumption) ?_ (by first | rfl | (simp; done)) | exact Below.refl _ _ | assumption | refine sub_alloc ?_ _ | refine sub_setCell ?_ (by simp <;> omega) _ | refine sub_drew ?_ | refine below_drewN ?_ _ | refine sub_step (by assumption) ?_ (by first | rfl | (simp; done))))⟩
end Go.Proofs.Ytnanaldolnehiaa
