/-
  Results (structs that hold positions) in memory, alone and in lists; one result converted, compared, sized.
-/
import Derived.Test.YtnanaldolnehiaaGame2
import Derived.Test.YtnanaldolnehiaaGame3
set_option linter.unusedSimpArgs false
set_option linter.unusedVariables false
namespace Go.Proofs.Ytnanaldolnehiaa
open Go.ChangeShapes Go.WideShapes Go.RowKit Go.Deep

/-- A result: its cells and the numbers that its slices hold. -/
structure Rs where
  mv : Int
  ga : Int
  ag : Bool
  A : Option Addr
  n : Nat
  u : Nat
  A' : Option Addr
  n' : Nat
  u' : Nat
  pl : Int
  xs : List Int
  xs' : List Int
def Rs.cells (r : Rs) : List Value := [.int .i64 r.mv, .int .i64 r.ga, .bool r.ag, .slice r.A r.n r.u, .slice r.A' r.n' r.u', .int .i64 r.pl]
def Rs.val (r : Rs) : Int × Int × Bool × List Int × List Int × Int := (r.mv, r.ga, r.ag, r.xs, r.xs', r.pl)
def Rs.zero : Rs := ⟨0, 0, false, none, 0, 0, none, 0, 0, 0, [], []⟩
def Rs.good (r : Rs) (w : World) (B : Nat) : Prop := Ints w B r.A r.n r.u r.xs ∧ Ints w B r.A' r.n' r.u' r.xs'
def flatR : List Rs → List Value
  | [] => []
  | r :: l => r.cells ++ flatR l
theorem Rs.cells_len (r : Rs) : r.cells.length = 6 := rfl
theorem flatR_len : ∀ l : List Rs, (flatR l).length = l.length * 6
  | [] => rfl
  | r :: l => by rw [flatR, List.length_append, flatR_len l, r.cells_len, List.length_cons]; omega
theorem flatR_app : ∀ l m : List Rs, flatR (l ++ m) = flatR l ++ flatR m
  | [], m => rfl
  | r :: l, m => by rw [List.cons_append, flatR, flatR, flatR_app l m, List.append_assoc]
theorem flatR_at : ∀ (l : List Rs) (k i : Nat), i < 6 → (flatR l)[k * 6 + i]? = (l[k]?).bind fun r => r.cells[i]?
  | [], k, i, hi => by simp [flatR]
  | r :: l, 0, i, hi => by
    rw [flatR, Nat.zero_mul, Nat.zero_add, List.getElem?_append_left (by rw [r.cells_len]; exact hi)]
    rfl
  | r :: l, k + 1, i, hi => by
    rw [flatR, List.getElem?_append_right (by rw [r.cells_len]; omega), r.cells_len, show (k + 1) * 6 + i - 6 = k * 6 + i by omega, flatR_at l k i hi]
    rfl
theorem flatR_get {l : List Rs} {k : Nat} {r : Rs} (h : l[k]? = some r) (i : Nat) {v : Value} (hv : r.cells[i]? = some v) : (flatR l)[k * 6 + i]? = some v := by
  have hi : i < 6 := (List.getElem?_eq_some_iff.1 hv).1
  rw [flatR_at l k i hi, h]
  exact hv
/-- The slice value '.slice A n c' holds these results; its cells lie below block B, their numbers too. -/
def Rss (w : World) (B : Nat) (A : Option Addr) (n c : Nat) (rs : List Rs) : Prop :=
  rs.length = n ∧ n ≤ c ∧ c ≤ 9223372036854775807 ∧ (0 < n → ∃ b off, A = some ⟨b, off, none⟩ ∧ b < B ∧ ∀ k r, rs[k]? = some r → ∀ i v, r.cells[i]? = some v → w.cell? ⟨b, off + (k * 6 + i), none⟩ = some v) ∧ ∀ r ∈ rs, r.good w B
section
variable {w w' : World} {B B' n c : Nat} {A : Option Addr} {rs : List Rs}
theorem Rss.len (h : Rss w B A n c rs) : rs.length = n := h.1
theorem Rss.le (h : Rss w B A n c rs) : n ≤ 9223372036854775807 := Nat.le_trans h.2.1 h.2.2.1
theorem Rss.at_ (h : Rss w B A n c rs) (hn : 0 < n) : ∃ b off, A = some ⟨b, off, none⟩ ∧ b < B ∧ ∀ k r, rs[k]? = some r → ∀ i v, r.cells[i]? = some v → w.cell? ⟨b, off + (k * 6 + i), none⟩ = some v := h.2.2.2.1 hn
theorem Rss.good (h : Rss w B A n c rs) {k : Nat} {r : Rs} (hr : rs[k]? = some r) : r.good w B := h.2.2.2.2 r (List.mem_of_getElem? hr)
theorem Rss.sub (h : Rss w w.heap.size A n c rs) (hb : Below w.heap.size w w') : Rss w' w'.heap.size A n c rs :=
  ⟨h.1, h.2.1, h.2.2.1, fun hn => by
    obtain ⟨b, off, e, hB, hc⟩ := h.at_ hn
    exact ⟨b, off, e, Nat.lt_of_lt_of_le hB hb.size, fun k r hr i v hv => (hb.cell (p := ⟨b, off + (k * 6 + i), none⟩) hB).trans (hc k r hr i v hv)⟩, fun r hr => ⟨(h.2.2.2.2 r hr).1.sub hb, (h.2.2.2.2 r hr).2.sub hb⟩⟩
end
/-- A result whose slices are the call's own. -/
def RetRes (w : World) (mv ga : Int) (ag : Bool) (n n' : Nat) (pl : Int) (xs xs' : List Int) (e : Ending) (w' : World) : Prop :=
  ∃ X x X' x', e = .returned (.agg #[.int .i64 mv, .int .i64 ga, .bool ag, .slice X n x, .slice X' n' x', .int .i64 pl]) ∧ Own w' w.heap.size X n x xs ∧ Own w' w.heap.size X' n' x' xs' ∧ Below w.heap.size w w'
theorem toResult_ret {Post : Ending → World → Prop} {a : Act} {W : World} {g : Nat} (mv ga : Int) (ag : Bool) (A : Option Addr) (n u : Nat) (A' : Option Addr) (n' u' : Nat) (pl : Int) (ha : a.tmps.getD 2 undef = .pointer (some ⟨g, 0, none⟩)) (hd : a.defers = []) (hr : Has W g [.int .i64 mv, .int .i64 ga, .bool ag, .slice A n u, .slice A' n' u', .int .i64 pl]) (hP : Post (.returned (.agg #[.int .i64 mv, .int .i64 ga, .bool ag, .slice A n u, .slice A' n' u', .int .i64 pl])) W) : bodyPost Try.prog Try.f108 Post Exit.ret a W := by
  have q0 := hr.at_ 0 rfl
  have q1 := hr.at_ 1 rfl
  have q2 := hr.at_ 2 rfl
  have q3 := hr.at_ 3 rfl
  have q4 := hr.at_ 4 rfl
  have q5 := hr.at_ 5 rfl
  refine bodyPost_ret (v := .agg #[.int .i64 mv, .int .i64 ga, .bool ag, .slice A n u, .slice A' n' u', .int .i64 pl]) ?_ hd hP
  obtain ⟨tmps, defers⟩ := a
  simp only [Array.getD_eq_getD_getElem?] at ha
  simp [results, Try.results108, go_sem, ha, q0, q1, q2, q3, q4, q5]
set_option maxRecDepth 100000 in
set_option maxHeartbeats 8000000 in
theorem toResult_any (mv ga : Int) (ag : Bool) (A : Option Addr) (n u : Nat) (A' : Option Addr) (n' u' : Nat) (pl : Int) (xs xs' : List Int) (w : World) (h : Ints w w.heap.size A n u xs) (h' : Ints w w.heap.size A' n' u' xs') (hn : n ≤ 4294967296) (hn' : n' ≤ 4294967296) :
    Calls Try.prog 108 #[.agg #[.int .i64 mv, .int .i64 ga, .bool ag, .slice A n u, .slice A' n' u', .int .i64 pl]] w (RetRes w mv ga ag n n' pl xs xs') := by
  have G1 := ((Has.box w [.int .i64 mv, .int .i64 ga, .bool ag, .slice A n u, .slice A' n' u', .int .i64 pl] 122 w.heap.size rfl).alloc (.cells #[.int .i64 0, .int .i64 0, .bool false, .slice none 0 0, .slice none 0 0, .int .i64 0] 124)).alloc (.cells #[.int .i64 0, .int .i64 0, .bool false, .slice none 0 0, .slice none 0 0, .int .i64 0] 124)
  have R1 := (OutAt.box (w.alloc (.cells #[.int .i64 mv, .int .i64 ga, .bool ag, .slice A n u, .slice A' n' u', .int .i64 pl] 122)) [.int .i64 0, .int .i64 0, .bool false, .slice none 0 0, .slice none 0 0, .int .i64 0] 124 (w.heap.size + 1) (by simp)).alloc (.cells #[.int .i64 0, .int .i64 0, .bool false, .slice none 0 0, .slice none 0 0, .int .i64 0] 124)
  have U1 := OutAt.box ((w.alloc (.cells #[.int .i64 mv, .int .i64 ga, .bool ag, .slice A n u, .slice A' n' u', .int .i64 pl] 122)).alloc (.cells #[.int .i64 0, .int .i64 0, .bool false, .slice none 0 0, .slice none 0 0, .int .i64 0] 124)) [.int .i64 0, .int .i64 0, .bool false, .slice none 0 0, .slice none 0 0, .int .i64 0] 124 (w.heap.size + 1 + 1) (by simp)
  have bW : Below w.heap.size w (((w.alloc (.cells #[.int .i64 mv, .int .i64 ga, .bool ag, .slice A n u, .slice A' n' u', .int .i64 pl] 122)).alloc (.cells #[.int .i64 0, .int .i64 0, .bool false, .slice none 0 0, .slice none 0 0, .int .i64 0] 124)).alloc (.cells #[.int .i64 0, .int .i64 0, .bool false, .slice none 0 0, .slice none 0 0, .int .i64 0] 124)) := (by repeat (first | with_reducible exact Below.refl _ _ | with_reducible assumption | with_reducible refine sub_alloc ?_ _ | (with_reducible refine sub_setCell2 ?_ ?_ _; (focus (first | (simp; done) | (simp <;> omega)))) | with_reducible refine sub_drew ?_ | with_reducible refine below_drewN ?_ _ | with_reducible refine sub_step (by assumption) ?_ (by first | rfl | (simp; done)) | exact Below.refl _ _ | assumption | refine sub_alloc ?_ _ | refine sub_setCell ?_ (by simp <;> omega) _ | refine sub_drew ?_ | refine below_drewN ?_ _ | refine sub_step (by assumption) ?_ (by first | rfl | (simp; done))))
  obtain ⟨W, hW⟩ : ∃ W, W = ((w.alloc (.cells #[.int .i64 mv, .int .i64 ga, .bool ag, .slice A n u, .slice A' n' u', .int .i64 pl] 122)).alloc (.cells #[.int .i64 0, .int .i64 0, .bool false, .slice none 0 0, .slice none 0 0, .int .i64 0] 124)).alloc (.cells #[.int .i64 0, .int .i64 0, .bool false, .slice none 0 0, .slice none 0 0, .int .i64 0] 124) := ⟨_, rfl⟩
  have KA : Has W w.heap.size [.int .i64 mv, .int .i64 ga, .bool ag, .slice A n u, .slice A' n' u', .int .i64 pl] := by rw [hW]; exact G1
  have KR : OutAt W (w.heap.size + 1) [.int .i64 0, .int .i64 0, .bool false, .slice none 0 0, .slice none 0 0, .int .i64 0] := by rw [hW]; exact R1
  have KU : OutAt W (w.heap.size + 1 + 1) [.int .i64 0, .int .i64 0, .bool false, .slice none 0 0, .slice none 0 0, .int .i64 0] := by rw [hW]; exact U1
  have H1 := Lib.hid h
  have H2 := Lib.hid h'
  rw [← hW] at bW
  have BW := Lib.hid bW
  have HW := Lib.hid hW
  clear h h' hW bW G1 R1 U1
  have KB := BW.out
  have sW : w.heap.size + 1 + 1 < W.heap.size := KU.1.1
  have KS : W.heap.size ≤ W.heap.size := Nat.le_refl _
  have aa0 := KA.at_ 0 rfl
  have aa1 := KA.at_ 1 rfl
  have aa2 := KA.at_ 2 rfl
  have aa3 := KA.at_ 3 rfl
  have aa4 := KA.at_ 4 rfl
  have aa5 := KA.at_ 5 rfl
  have uu0 := KU.1.at_ 0 rfl
  have ff0 := KU.2 0
  have uu1 := KU.1.at_ 1 rfl
  have ff1 := KU.2 1
  have uu2 := KU.1.at_ 2 rfl
  have ff2 := KU.2 2
  go_enter Try.func108, Try.ntmps108
  go_upto_region 2 with fail
  rw [← HW.out]
  go_upto_region 5 with fail
  refine wp_namedH (fun w' => Has w' w.heap.size [.int .i64 mv, .int .i64 ga, .bool ag, .slice A n u, .slice A' n' u', .int .i64 pl] ∧ OutAt w' (w.heap.size + 1) [.int .i64 0, .int .i64 0, .bool false, .slice none 0 0, .slice none 0 0, .int .i64 0] ∧ OutAt w' (w.heap.size + 1 + 1) [.int .i64 mv, .int .i64 ga, .bool ag, .slice none 0 0, .slice none 0 0, .int .i64 0] ∧ Below w.heap.size w w' ∧ W.heap.size ≤ w'.heap.size) ?_ ?_
  · refine ⟨?_, ?_, ?_, ?_, ?_⟩
    · repeat (with_reducible refine Has.other ?_ _ (by simp <;> omega) _)
      exact KA
    · repeat (with_reducible refine OutAt.other ?_ _ (by simp) _)
      exact KR
    · exact (((KU.set 0 (.int .i64 mv) (by simp)).set 1 (.int .i64 ga) (by simp)).set 2 (.bool ag) (by simp))
    · exact (((KB.setCell (by show _ ≤ w.heap.size + 1 + 1; omega) _).setCell (by show _ ≤ w.heap.size + 1 + 1; omega) _).setCell (by show _ ≤ w.heap.size + 1 + 1; omega) _)
    · simp
  clear KA KR KU KB KS aa0 aa1 aa2 aa3 aa4 aa5 uu0 ff0 uu1 ff1 uu2 ff2
  rintro v1 ⟨KA, KR, KU, KB, KS⟩
  have aa0 := KA.at_ 0 rfl
  have aa1 := KA.at_ 1 rfl
  have aa2 := KA.at_ 2 rfl
  have aa3 := KA.at_ 3 rfl
  have aa4 := KA.at_ 4 rfl
  have aa5 := KA.at_ 5 rfl
  go_wp2_with fail
  refine (toPosition_any _ _ _ _ _ _ xs xs' _ _ (by exact H1.out.sub KB) (by exact H2.out.sub KB) hn hn').mono ?_
  rintro e v2_ ⟨X, x, X', x', rfl, o1, o2, ap, hb⟩
  have KO0 : Own v2_ W.heap.size X n x xs := o1.lower KS
  have KO1 : Own v2_ W.heap.size X' n' x' xs' := o2.lower KS
  have KA := KA.sub hb
  have KR := KR.sub hb
  have KU := KU.sub hb
  have KB := KB.trans (hb.mono KB.size)
  have KS := Nat.le_trans KS hb.size
  clear aa0 aa1 aa2 aa3 aa4 aa5
  have uu3 := KU.1.at_ 3 rfl
  have ff3 := KU.2 3
  have uu4 := KU.1.at_ 4 rfl
  have ff4 := KU.2 4
  have uu5 := KU.1.at_ 5 rfl
  have ff5 := KU.2 5
  go_upto_region 6 with fail
  refine wp_namedH (fun w' => OutAt w' (w.heap.size + 1) [.int .i64 0, .int .i64 0, .bool false, .slice none 0 0, .slice none 0 0, .int .i64 0] ∧ OutAt w' (w.heap.size + 1 + 1) [.int .i64 mv, .int .i64 ga, .bool ag, .slice X n x, .slice X' n' x', .int .i64 pl] ∧ Own w' W.heap.size X n x xs ∧ Own w' W.heap.size X' n' x' xs' ∧ Below w.heap.size w w' ∧ W.heap.size ≤ w'.heap.size) ?_ ?_
  · refine ⟨?_, ?_, ?_, ?_, ?_, ?_⟩
    · repeat (with_reducible refine OutAt.other ?_ _ (by simp) _)
      exact KR
    · exact (((KU.set 3 (.slice X n x) (by simp)).set 4 (.slice X' n' x') (by simp)).set 5 (.int .i64 pl) (by simp))
    · repeat (with_reducible refine Own.setBelow ?_ sW _)
      exact KO0
    · repeat (with_reducible refine Own.setBelow ?_ sW _)
      exact KO1
    · exact (((KB.setCell (by show _ ≤ w.heap.size + 1 + 1; omega) _).setCell (by show _ ≤ w.heap.size + 1 + 1; omega) _).setCell (by show _ ≤ w.heap.size + 1 + 1; omega) _)
    · simpa using KS
  clear KA KR KU KB KS KO0 KO1 hb o1 o2 uu3 ff3 uu4 ff4 uu5 ff5
  rintro v2 ⟨KR, KU, KO0, KO1, KB, KS⟩
  have aa0 := KU.1.at_ 0 rfl
  have aa1 := KU.1.at_ 1 rfl
  have aa2 := KU.1.at_ 2 rfl
  have aa3 := KU.1.at_ 3 rfl
  have aa4 := KU.1.at_ 4 rfl
  have aa5 := KU.1.at_ 5 rfl
  have uu0 := KR.1.at_ 0 rfl
  have ff0 := KR.2 0
  have uu1 := KR.1.at_ 1 rfl
  have ff1 := KR.2 1
  have uu2 := KR.1.at_ 2 rfl
  have ff2 := KR.2 2
  have uu3 := KR.1.at_ 3 rfl
  have ff3 := KR.2 3
  have uu4 := KR.1.at_ 4 rfl
  have ff4 := KR.2 4
  have uu5 := KR.1.at_ 5 rfl
  have ff5 := KR.2 5
  have HF := ((((((KR.set 0 (.int .i64 mv) (by simp)).set 1 (.int .i64 ga) (by simp)).set 2 (.bool ag) (by simp)).set 3 (.slice X n x) (by simp)).set 4 (.slice X' n' x') (by simp)).set 5 (.int .i64 pl) (by simp))
  have sW1 : w.heap.size + 1 < W.heap.size := by omega
  have lW : w.heap.size ≤ W.heap.size := by omega
  go_wp2_with fail
  refine toResult_ret (g := w.heap.size + 1) mv ga ag X n x X' n' x' pl (by rfl) (by rfl) HF.1 ⟨X, x, X', x', rfl, ?_, ?_, ?_⟩
  · refine Own.lower (base := W.heap.size) ?_ lW
    repeat (with_reducible refine Own.setBelow ?_ sW1 _)
    exact KO0
  · refine Own.lower (base := W.heap.size) ?_ lW
    repeat (with_reducible refine Own.setBelow ?_ sW1 _)
    exact KO1
  · exact ((((((KB.setCell (by show _ ≤ w.heap.size + 1; omega) _).setCell (by show _ ≤ w.heap.size + 1; omega) _).setCell (by show _ ≤ w.heap.size + 1; omega) _).setCell (by show _ ≤ w.heap.size + 1; omega) _).setCell (by show _ ≤ w.heap.size + 1; omega) _).setCell (by show _ ≤ w.heap.size + 1; omega) _)
/-- What is left behind a result. -/
def szR (left : Int) (n n' : Nat) : Int := if szPF left n n' < 0 then -1 else szPF left n n'
theorem szR_ok {left : Int} {n n' : Nat} (h : 0 ≤ szR left n n') : (n : Int) + n' ≤ left ∧ szR left n n' ≤ left := by
  unfold szR at h ⊢
  by_cases h1 : szPF left n n' < 0
  · rw [if_pos h1] at h; omega
  rw [if_neg h1] at h ⊢
  have := szPF_ok (left := left) (n := n) (n' := n') (by omega)
  omega
set_option maxRecDepth 100000 in
theorem szResult_any (mv ga : Int) (ag : Bool) (A : Option Addr) (n u : Nat) (A' : Option Addr) (n' u' : Nat) (pl : Int) (left : Int) (w : World) (b0 : n ≤ 9223372036854775807) (b1 : n' ≤ 9223372036854775807) (h0 : 0 ≤ left) (h1 : left ≤ 1048576) :
    Calls Try.prog 106 #[.agg #[.int .i64 mv, .int .i64 ga, .bool ag, .slice A n u, .slice A' n' u', .int .i64 pl], .int .i64 left] w fun e w' => e = .returned (.int .i64 (szR left n n')) ∧ Below w.heap.size w w' := by
  have bW : Below w.heap.size w (w.alloc (.cells #[.int .i64 mv, .int .i64 ga, .bool ag, .slice A n u, .slice A' n' u', .int .i64 pl] 122)) := (by repeat (first | with_reducible exact Below.refl _ _ | with_reducible assumption | with_reducible refine sub_alloc ?_ _ | (with_reducible refine sub_setCell2 ?_ ?_ _; (focus (first | (simp; done) | (simp <;> omega)))) | with_reducible refine sub_drew ?_ | with_reducible refine below_drewN ?_ _ | with_reducible refine sub_step (by assumption) ?_ (by first | rfl | (simp; done)) | exact Below.refl _ _ | assumption | refine sub_alloc ?_ _ | refine sub_setCell ?_ (by simp <;> omega) _ | refine sub_drew ?_ | refine below_drewN ?_ _ | refine sub_step (by assumption) ?_ (by first | rfl | (simp; done))))
  by_cases e1 : szPF left n n' < 0
  · have RS : Hid (szR left n n' = -1) := Lib.hid (by rw [szR, if_pos e1])
    obtain ⟨a, ha⟩ : ∃ a, szPF left n n' = a := ⟨_, rfl⟩
    have L1 := Lib.hid ha
    rw [ha] at e1
    clear ha
    rw [RS.out]
    go_enter Try.func106, Try.ntmps106
    go_wp2_with fail
    refine (szPosition_any _ _ _ _ _ _ _ _ _ b0 b1 h0 h1).mono ?_
    rintro e w1 ⟨rfl, q1⟩
    rw [L1.out]
    go_wp2_with fail
    go_ret
    exact ⟨rfl, bW.trans (q1.mono bW.size)⟩
  have RS : Hid (szR left n n' = szPF left n n') := Lib.hid (by rw [szR, if_neg e1])
  rw [RS.out]
  obtain ⟨a, ha⟩ : ∃ a, szPF left n n' = a := ⟨_, rfl⟩
  have L1 := Lib.hid ha
  rw [ha] at e1 ⊢
  have i1 : 0 ≤ a := by omega
  clear ha
  go_enter Try.func106, Try.ntmps106
  go_wp2_with fail
  refine (szPosition_any _ _ _ _ _ _ _ _ _ b0 b1 h0 h1).mono ?_
  rintro e w1 ⟨rfl, q1⟩
  rw [L1.out]
  go_wp2_with fail
  go_ret
  exact ⟨rfl, bW.trans (q1.mono bW.size)⟩
set_option maxRecDepth 100000 in
set_option maxHeartbeats 2000000 in
theorem eqResult_same (mv ga : Int) (ag : Bool) (A : Option Addr) (n u : Nat) (A' : Option Addr) (n' u' : Nat) (pl : Int) (xs xs' : List Int) (C : Option Addr) (m c : Nat) (C' : Option Addr) (m' c' : Nat) (w : World) (h : Ints w w.heap.size A n u xs) (h' : Ints w w.heap.size A' n' u' xs') (k : Ints w w.heap.size C m c xs) (k' : Ints w w.heap.size C' m' c' xs') :
    Calls Try.prog 110 #[.agg #[.int .i64 mv, .int .i64 ga, .bool ag, .slice A n u, .slice A' n' u', .int .i64 pl], .agg #[.int .i64 mv, .int .i64 ga, .bool ag, .slice C m c, .slice C' m' c', .int .i64 pl]] w fun e w' => e = .returned (.bool true) ∧ Below w.heap.size w w' := by
  have bW : Below w.heap.size w ((w.alloc (.cells #[.int .i64 mv, .int .i64 ga, .bool ag, .slice A n u, .slice A' n' u', .int .i64 pl] 124)).alloc (.cells #[.int .i64 mv, .int .i64 ga, .bool ag, .slice C m c, .slice C' m' c', .int .i64 pl] 124)) := (by repeat (first | with_reducible exact Below.refl _ _ | with_reducible assumption | with_reducible refine sub_alloc ?_ _ | (with_reducible refine sub_setCell2 ?_ ?_ _; (focus (first | (simp; done) | (simp <;> omega)))) | with_reducible refine sub_drew ?_ | with_reducible refine below_drewN ?_ _ | with_reducible refine sub_step (by assumption) ?_ (by first | rfl | (simp; done)) | exact Below.refl _ _ | assumption | refine sub_alloc ?_ _ | refine sub_setCell ?_ (by simp <;> omega) _ | refine sub_drew ?_ | refine below_drewN ?_ _ | refine sub_step (by assumption) ?_ (by first | rfl | (simp; done))))
  have H1 := Lib.hid (h.sub bW)
  have H2 := Lib.hid (h'.sub bW)
  have K1 := Lib.hid (k.sub bW)
  have K2 := Lib.hid (k'.sub bW)
  clear h h' k k'
  go_enter Try.func110, Try.ntmps110
  go_wp2_with fail
  refine (eqPosition_any _ _ _ _ _ _ _ _ _ _ _ _ xs xs' xs xs' _ _ _ (by exact H1.out) (by exact H2.out) (by exact K1.out) (by exact K2.out)).mono ?_
  rintro e w1 ⟨rfl, q1⟩
  rw [show (decide (xs = xs) && decide (xs' = xs') && decide (pl = pl)) = true by simp]
  go_wp2_with fail
  go_ret
  exact ⟨rfl, bW.trans (q1.mono bW.size)⟩
end Go.Proofs.Ytnanaldolnehiaa
