/-
  The text of a position: PositionText.
-/
import Derived.Test.YtnanaldolnehiabDoorJoin
import Derived.Test.YtnanaldolnehiabDoorWhole
set_option linter.unusedSimpArgs false
set_option linter.unusedVariables false
namespace Go.Proofs.YtnanaldolnehiabDoor
open Go.ChangeShapes Go.WideShapes Go.RowKit Go.Deep

/-- The text of a position of m pits a side. -/
def psX (m : Nat) (xs : List Int) (x0 x1 pl : Int) : ByteArray := dec pl ++ ⟨#[32]⟩ ++ jn 44 (xs.take m) m ++ ⟨#[47]⟩ ++ jn 44 ((xs.drop m).take m) m ++ ⟨#[32]⟩ ++ jn 44 [x0, x1] 2
def psT (r : Ru) (xs xs' : List Int) (pl : Int) : ByteArray := if okP r xs xs' pl = true then psX r.pits.toNat xs (xs'.getD 0 0) (xs'.getD 1 0) pl else ⟨#[]⟩
theorem front' {w : World} {B n c : Nat} {A : Option Addr} {zs : List Int} (h : Ints w B A n c zs) (j : Nat) (hj : j ≤ n) : Ints w B A j c (zs.take j) := by
  have hl := h.len
  refine ⟨by simp; omega, by have := h.2.1; omega, h.2.2.1, fun e => ?_, fun hp => ?_⟩
  · have := h.2.2.2.1 e
    omega
  · obtain ⟨b, off, e, hb, hc⟩ := h.at_ (by omega)
    refine ⟨b, off, e, hb, fun i x hx => hc i x ?_⟩
    have hi : i < j := by
      have := (List.getElem?_eq_some_iff.1 hx).1
      simp at this
      omega
    rwa [List.getElem?_take, if_pos hi] at hx
theorem cut' {w : World} {B b off n c : Nat} {zs : List Int} (h : Ints w B (some ⟨b, off, none⟩) n c zs) (l j : Nat) (hj : l + j ≤ n) : Ints w B (some ⟨b, off + l, none⟩) j (c - l) ((zs.drop l).take j) := by
  have hlen := h.len
  refine ⟨by simp; omega, by have := h.2.1; omega, by have := h.2.2.1; omega, fun e => by (cases e), fun hp => ?_⟩
  obtain ⟨b', off', e, hb, hc⟩ := h.at_ (by omega)
  injection e with e
  injection e with e1 e2
  subst e1 e2
  refine ⟨b, off + l, rfl, hb, fun i x hx => ?_⟩
  have hi : i < j := by
    have := (List.getElem?_eq_some_iff.1 hx).1
    simp at this
    omega
  rw [List.getElem?_take, if_pos hi, List.getElem?_drop] at hx
  rw [Nat.add_assoc]
  exact hc (l + i) x hx
theorem okN_in {l : List Int} (h : okN l = true) : ∀ z ∈ l, in64 z := by
  intro z hz
  simp only [okN, List.all_eq_true] at h
  have := h z hz
  simp [inB] at this
  unfold in64
  omega
theorem two_ofD {l : List Int} (h : l.length = 2) : ∃ a b, l = [a, b] := by
  match l, h with
  | [a, b], _ => exact ⟨a, b, rfl⟩
set_option maxRecDepth 100000 in
set_option maxHeartbeats 4000000 in
theorem PositionText_any (p s : Int) (st sk re fe ag : Bool) (c sl : Int) (A A' : Option Addr) (n u n' u' : Nat) (xs xs' : List Int) (pl : Int) (w : World) (h : Ints w w.heap.size A n u xs) (h' : Ints w w.heap.size A' n' u' xs') (hn : n ≤ 4294967296) (ht : Tab w) :
    Calls Tryd.prog 46 #[.agg #[.int .i64 p, .int .i64 s, .bool st, .bool sk, .bool re, .bool fe, .bool ag, .int .i64 c, .int .i64 sl], .agg #[.slice A n u, .slice A' n' u', .int .i64 pl]] w fun e w' => e = .returned (.string (psT ⟨p, s, st, sk, re, fe, ag, c, sl⟩ xs xs' pl)) ∧ Below w.heap.size w w' := by
  have HL := Lib.hid h.len
  have HL' := Lib.hid h'.len
  have HT := Lib.hid ht
  clear ht
  have hbW : Below w.heap.size w ((w.alloc (.cells #[.int .i64 p, .int .i64 s, .bool st, .bool sk, .bool re, .bool fe, .bool ag, .int .i64 c, .int .i64 sl] 39)).alloc (.cells #[.slice A n u, .slice A' n' u', .int .i64 pl] 36)) := (by repeat (first | with_reducible exact Below.refl _ _ | with_reducible assumption | with_reducible refine sub_alloc ?_ _ | (with_reducible refine sub_setCell2 ?_ ?_ _; (focus (first | (simp; done) | (simp <;> omega)))) | with_reducible refine sub_drew ?_ | with_reducible refine below_drewN ?_ _ | with_reducible refine sub_step (by assumption) ?_ (by first | rfl | (simp; done)) | exact Below.refl _ _ | assumption | refine sub_alloc ?_ _ | refine sub_setCell ?_ (by simp <;> omega) _ | refine sub_drew ?_ | refine below_drewN ?_ _ | refine sub_step (by assumption) ?_ (by first | rfl | (simp; done))))
  have BW := Lib.hid hbW
  have P0 := (RuAt.box w 39 p s st sk re fe ag c sl).alloc (.cells #[.slice A n u, .slice A' n' u', .int .i64 pl] 36)
  have P1 := PosAt.box (w.alloc (.cells #[.int .i64 p, .int .i64 s, .bool st, .bool sk, .bool re, .bool fe, .bool ag, .int .i64 c, .int .i64 sl] 39)) 36 A n u A' n' u' pl
  have hs1 : (w.alloc (.cells #[.int .i64 p, .int .i64 s, .bool st, .bool sk, .bool re, .bool fe, .bool ag, .int .i64 c, .int .i64 sl] 39)).heap.size = w.heap.size + 1 := by simp
  rw [hs1] at P1
  clear hs1
  have HP0 := Lib.hid P0
  have HP1 := Lib.hid P1
  have HH := Lib.hid (h.sub hbW)
  have HH' := Lib.hid (h'.sub hbW)
  clear h h' hbW P0 P1
  cases e0 : okP ⟨p, s, st, sk, re, fe, ag, c, sl⟩ xs xs' pl
  · have HE := Lib.hid e0
    clear e0
    go_enter Tryd.func46, Tryd.ntmps46
    go_wp2_with fail
    refine (ValidPosition_is _ _ _ _ _ _ _ _ _ _ _ _ _ _ _ xs xs' pl _ HE.out _ (by exact HH.out) (by exact HH'.out) hn).mono ?_
    rintro e w1 ⟨rfl, b1⟩
    have c1 := Lib.hid (sub_step b1 BW.out rfl)
    clear b1
    go_wp2_with fail
    go_ret
    exact ⟨ret_js (by rw [psT, if_neg (by rw [HE.out]; decide)]), c1.out⟩
  have HE := Lib.hid e0
  obtain ⟨z0, z1, z2, ⟨h0, h1⟩, N1, N2, -⟩ := okP_parts e0
  obtain ⟨hq0, hq1⟩ := okR_pits z0
  dsimp only at hq0 hq1 z1
  obtain rfl : n' = 2 := by rw [← HL'.out, z2]
  obtain ⟨x0, x1, rfl⟩ := two_ofD z2
  rw [HL.out] at z1
  obtain ⟨m, rfl⟩ : ∃ m : Nat, p = (m : Int) := ⟨p.toNat, by omega⟩
  obtain rfl : n = m + m := by omega
  have X1 := Lib.hid (okN_in N1)
  have X2 := Lib.hid (okN_in N2)
  clear e0 z0 z2 N1 N2
  obtain ⟨bb, oo, rfl, hbb, -⟩ := HH.out.at_ (by omega)
  have hu := HH.out.2.1
  have i0 : (0 : Int) ≤ (m : Int) := by omega
  have i1 : (m : Int) ≤ (m : Int) + (m : Int) := by omega
  have i2 : (m : Int) + (m : Int) ≤ (u : Int) := by omega
  have i3 : (m : Int) ≤ (u : Int) := by omega
  have i4 : m ≤ u := by omega
  have i5 : ¬ (u = m) := by omega
  have i9 : (m : Int) ≤ 2 * (m : Int) := by omega
  have i6 : ¬ (u = 0) := by omega
  have hd := dec_size (n := pl) (by omega) (by omega)
  have L1 : ((xs.take m).length) = m := by rw [List.length_take, HL.out]; omega
  have L2 : (((xs.drop m).take m).length) = m := by rw [List.length_take, List.length_drop, HL.out]; omega
  have Y1 : ∀ z ∈ xs.take m, in64 z := fun z hz => X1.out z (List.mem_of_mem_take hz)
  have Y2 : ∀ z ∈ (xs.drop m).take m, in64 z := fun z hz => X1.out z (List.mem_of_mem_drop (List.mem_of_mem_take hz))
  have d1 := jn_size 44 (xs.take m) Y1 m (by omega)
  have d2 := jn_size 44 ((xs.drop m).take m) Y2 m (by omega)
  have d3 := jn_size 44 [x0, x1] X2.out 2 (by simp)
  have n1 : ¬ 9223372036854775807 < (dec pl).size + 1 := by omega
  have n2 : ¬ 9223372036854775807 < (dec pl).size + 1 + (jn 44 (xs.take m) m).size := by omega
  have n3 : ¬ 9223372036854775807 < (dec pl).size + 1 + (jn 44 (xs.take m) m).size + 1 := by omega
  have n4 : ¬ 9223372036854775807 < (dec pl).size + 1 + (jn 44 (xs.take m) m).size + 1 + (jn 44 ((xs.drop m).take m) m).size := by omega
  have n5 : ¬ 9223372036854775807 < (dec pl).size + 1 + (jn 44 (xs.take m) m).size + 1 + (jn 44 ((xs.drop m).take m) m).size + 1 := by omega
  have n6 : ¬ 9223372036854775807 < (dec pl).size + 1 + (jn 44 (xs.take m) m).size + 1 + (jn 44 ((xs.drop m).take m) m).size + 1 + (jn 44 [x0, x1] 2).size := by omega
  have Z1 := Lib.hid Y1
  have Z2 := Lib.hid Y2
  clear Y1 Y2 L1 L2 d1 d2 d3
  go_enter Tryd.func46, Tryd.ntmps46
  go_wp2_with fail
  refine (ValidPosition_is _ _ _ _ _ _ _ _ _ _ _ _ _ _ _ xs [x0, x1] pl _ HE.out _ (by exact HH.out) (by exact HH'.out) hn).mono ?_
  rintro e w1 ⟨rfl, b1⟩
  have c1 := Lib.hid (sub_step b1 BW.out rfl)
  have Q0 := HP0.out.below b1 (by simp <;> omega)
  have Q1 := HP1.out.below b1 (by simp <;> omega)
  have J := Lib.hid (HH.out.sub b1)
  have J' := Lib.hid (HH'.out.sub b1)
  have TW := Lib.hid (HT.out.below c1.out (Nat.le_refl _))
  have KW := Lib.hid (Below.refl w1.heap.size w1)
  obtain ⟨g0, -⟩ := Q0.flat
  obtain ⟨f0, f1, f2⟩ := Q1.flat
  have k0 := cell_regrown g0
  have k1 := cell_regrown f0
  have k2 := cell_regrown f1
  have k3 := cell_regrown f2
  clear b1
  go_wp2_with fail
  have cD : ∀ d os, Calls Tryd.prog 28 #[.int .i64 pl] (Sort.grow (redrawn w1 d) os) fun e w'' => e = .returned (.string (dec pl)) ∧ ∃ p : Regrown, w'' = Sort.grow (redrawn w1 p.d) p.os := fun d os => Calls.regrown_of (implDecimal_any pl (by omega) (by omega) _ (TW.out.below (below_regrown w1 d os) (Nat.le_refl _)))
  have cJ1 : ∀ d os, Calls Tryd.prog 74 #[.slice (some ⟨bb, oo, none⟩) m u] (Sort.grow (redrawn w1 d) os) fun e w'' => e = .returned (.string (jn 44 (xs.take m) m)) ∧ ∃ p : Regrown, w'' = Sort.grow (redrawn w1 p.d) p.os := fun d os => Calls.regrown_of (joined_any _ _ _ _ (xs.take m) _ (front' (J.out.below (below_regrown w1 d os)) m (by omega)) Z1.out (by exact (below_regrown w1 d os).size) (by omega) (TW.out.below (below_regrown w1 d os) (Nat.le_refl _)))
  have cJ2 : ∀ d os, Calls Tryd.prog 74 #[.slice (some ⟨bb, oo + m, none⟩) m (u - m)] (Sort.grow (redrawn w1 d) os) fun e w'' => e = .returned (.string (jn 44 ((xs.drop m).take m) m)) ∧ ∃ p : Regrown, w'' = Sort.grow (redrawn w1 p.d) p.os := fun d os => Calls.regrown_of (joined_any _ _ _ _ ((xs.drop m).take m) _ (cut' (J.out.below (below_regrown w1 d os)) m m (by omega)) Z2.out (by exact (below_regrown w1 d os).size) (by omega) (TW.out.below (below_regrown w1 d os) (Nat.le_refl _)))
  have cJ3 : ∀ d os, Calls Tryd.prog 74 #[.slice A' 2 u'] (Sort.grow (redrawn w1 d) os) fun e w'' => e = .returned (.string (jn 44 [x0, x1] 2)) ∧ ∃ p : Regrown, w'' = Sort.grow (redrawn w1 p.d) p.os := fun d os => Calls.regrown_of (joined_any _ _ _ _ [x0, x1] _ (J'.out.below (below_regrown w1 d os)) X2.out (by exact (below_regrown w1 d os).size) (by omega) (TW.out.below (below_regrown w1 d os) (Nat.le_refl _)))
  refine wp_region_quiet_below (by kernel_rfl) (by kernel_rfl) ?_
  repeat (quiet_step (first | (go_at_call 28; exact cD _ _) | (go_at_call_of 74 (Value.slice (some ⟨bb, oo, none⟩) m u); exact cJ1 _ _) | (go_at_call_of 74 (Value.slice (some ⟨bb, oo + m, none⟩) m (u - m)); exact cJ2 _ _) | (go_at_call_of 74 (Value.slice A' 2 u'); exact cJ3 _ _)))
  refine wpQuiet_nil ?_
  intro _ hw'
  obtain ⟨⟨dq, osq⟩, hw''⟩ := hw'
  subst hw''
  go_wp2_with fail
  go_ret
  exact ⟨ret_js (by rw [psT, if_pos HE.out]; rfl), c1.out.trans ((below_regrown w1 dq osq).mono c1.out.size)⟩
set_option maxRecDepth 100000 in
set_option maxHeartbeats 4000000 in
theorem l04Text_any (b o m : Nat) (A A' : Option Addr) (u u' : Nat) (xs : List Int) (x0 x1 pl : Int) (w : World) (hp : PosAt w b o A (m + m) u A' 2 u' pl) (h : Ints w w.heap.size A (m + m) u xs) (h' : Ints w w.heap.size A' 2 u' [x0, x1]) (hx : ∀ z ∈ xs, in64 z) (hx' : ∀ z ∈ [x0, x1], in64 z) (hm0 : 2 ≤ m) (hm1 : m ≤ 8) (h0 : 0 ≤ pl) (h1 : pl ≤ 1) :
    Calls Tryd.prog 73 #[.pointer (some ⟨b, o, none⟩)] w fun e w' => e = .returned (.string (psX m xs x0 x1 pl)) ∧ Below w.heap.size w w' := by
  have HL := Lib.hid h.len
  obtain ⟨bb, oo, rfl, hbb, -⟩ := h.at_ (by omega)
  have hu := h.2.1
  have J := Lib.hid h
  have J' := Lib.hid h'
  have X1 := Lib.hid hx
  have X2 := Lib.hid hx'
  obtain ⟨f0, f1, f2⟩ := hp
  clear h h' hx hx'
  have i0 : (0 : Int) ≤ (m : Int) := by omega
  have i1 : (m : Int) ≤ (m : Int) + (m : Int) := by omega
  have i2 : (m : Int) + (m : Int) ≤ (u : Int) := by omega
  have i3 : (m : Int) ≤ (u : Int) := by omega
  have i4 : m ≤ u := by omega
  have i5 : ¬ (u = m) := by omega
  have i9 : (m : Int) ≤ 2 * (m : Int) := by omega
  have i6 : ¬ (u = 0) := by omega
  have i7 : ((m : Int) + (m : Int)) / 2 = (m : Int) := by omega
  have i8 : ((m : Int) + (m : Int)).tdiv 2 = (m : Int) := by rw [Int.tdiv_eq_ediv_of_nonneg (by omega)]; omega
  have hd := dec_size (n := pl) (by omega) (by omega)
  have L1 : ((xs.take m).length) = m := by rw [List.length_take, HL.out]; omega
  have L2 : (((xs.drop m).take m).length) = m := by rw [List.length_take, List.length_drop, HL.out]; omega
  have Y1 : ∀ z ∈ xs.take m, in64 z := fun z hz => X1.out z (List.mem_of_mem_take hz)
  have Y2 : ∀ z ∈ (xs.drop m).take m, in64 z := fun z hz => X1.out z (List.mem_of_mem_drop (List.mem_of_mem_take hz))
  have d1 := jn_size 44 (xs.take m) Y1 m (by omega)
  have d2 := jn_size 44 ((xs.drop m).take m) Y2 m (by omega)
  have d3 := jn_size 44 [x0, x1] X2.out 2 (by simp)
  have n1 : ¬ 9223372036854775807 < (dec pl).size + 1 := by omega
  have n2 : ¬ 9223372036854775807 < (dec pl).size + 1 + (jn 44 (xs.take m) m).size := by omega
  have n3 : ¬ 9223372036854775807 < (dec pl).size + 1 + (jn 44 (xs.take m) m).size + 1 := by omega
  have n4 : ¬ 9223372036854775807 < (dec pl).size + 1 + (jn 44 (xs.take m) m).size + 1 + (jn 44 ((xs.drop m).take m) m).size := by omega
  have n5 : ¬ 9223372036854775807 < (dec pl).size + 1 + (jn 44 (xs.take m) m).size + 1 + (jn 44 ((xs.drop m).take m) m).size + 1 := by omega
  have n6 : ¬ 9223372036854775807 < (dec pl).size + 1 + (jn 44 (xs.take m) m).size + 1 + (jn 44 ((xs.drop m).take m) m).size + 1 + (jn 44 [x0, x1] 2).size := by omega
  have Z1 := Lib.hid Y1
  have Z2 := Lib.hid Y2
  clear Y1 Y2 L1 L2 d1 d2 d3
  have k1 := cell_regrown f0
  have k2 := cell_regrown f1
  have k3 := cell_regrown f2
  have cD : ∀ d os, Calls Tryd.prog 58 #[.int .i64 pl] (Sort.grow (redrawn w d) os) fun e w'' => e = .returned (.string (dec pl)) ∧ ∃ p : Regrown, w'' = Sort.grow (redrawn w p.d) p.os := fun d os => Calls.regrown_of (l01Dec_any pl (by omega) (by omega) _)
  have cJ1 : ∀ d os, Calls Tryd.prog 86 #[.slice (some ⟨bb, oo, none⟩) m u] (Sort.grow (redrawn w d) os) fun e w'' => e = .returned (.string (jn 44 (xs.take m) m)) ∧ ∃ p : Regrown, w'' = Sort.grow (redrawn w p.d) p.os := fun d os => Calls.regrown_of (l04Join_any _ _ _ _ (xs.take m) _ (front' (J.out.below (below_regrown w d os)) m (by omega)) Z1.out (by exact (below_regrown w d os).size) (by omega))
  have cJ2 : ∀ d os, Calls Tryd.prog 86 #[.slice (some ⟨bb, oo + m, none⟩) m (u - m)] (Sort.grow (redrawn w d) os) fun e w'' => e = .returned (.string (jn 44 ((xs.drop m).take m) m)) ∧ ∃ p : Regrown, w'' = Sort.grow (redrawn w p.d) p.os := fun d os => Calls.regrown_of (l04Join_any _ _ _ _ ((xs.drop m).take m) _ (cut' (J.out.below (below_regrown w d os)) m m (by omega)) Z2.out (by exact (below_regrown w d os).size) (by omega))
  have cJ3 : ∀ d os, Calls Tryd.prog 86 #[.slice A' 2 u'] (Sort.grow (redrawn w d) os) fun e w'' => e = .returned (.string (jn 44 [x0, x1] 2)) ∧ ∃ p : Regrown, w'' = Sort.grow (redrawn w p.d) p.os := fun d os => Calls.regrown_of (l04Join_any _ _ _ _ [x0, x1] _ (J'.out.below (below_regrown w d os)) X2.out (by exact (below_regrown w d os).size) (by omega))
  go_enter Tryd.func73, Tryd.ntmps73
  go_wp2_with fail
  refine wp_region_quiet_below (by kernel_rfl) (by kernel_rfl) ?_
  repeat (quiet_step (first | (go_at_call 58; exact cD _ _) | (go_at_call_of 86 (Value.slice (some ⟨bb, oo, none⟩) m u); exact cJ1 _ _) | (go_at_call_of 86 (Value.slice (some ⟨bb, oo + m, none⟩) m (u - m)); exact cJ2 _ _) | (go_at_call_of 86 (Value.slice A' 2 u'); exact cJ3 _ _)))
  refine wpQuiet_nil ?_
  intro _ hw'
  obtain ⟨⟨dq, osq⟩, hw''⟩ := hw'
  subst hw''
  go_wp2_with fail
  go_ret
  exact ⟨rfl, below_regrown w dq osq⟩
set_option maxRecDepth 100000 in
set_option maxHeartbeats 4000000 in
theorem specPositionText_any (p s : Int) (st sk re fe ag : Bool) (c sl : Int) (A A' : Option Addr) (n u n' u' : Nat) (xs xs' : List Int) (pl : Int) (w : World) (h : Ints w w.heap.size A n u xs) (h' : Ints w w.heap.size A' n' u' xs') (hn : n ≤ 4294967296) :
    Calls Tryd.prog 44 #[.agg #[.int .i64 p, .int .i64 s, .bool st, .bool sk, .bool re, .bool fe, .bool ag, .int .i64 c, .int .i64 sl], .agg #[.slice A n u, .slice A' n' u', .int .i64 pl]] w fun e w' => e = .returned (.string (psT ⟨p, s, st, sk, re, fe, ag, c, sl⟩ xs xs' pl)) ∧ Below w.heap.size w w' := by
  have HL := Lib.hid h.len
  have HL' := Lib.hid h'.len
  have hbW : Below w.heap.size w ((w.alloc (.cells #[.int .i64 p, .int .i64 s, .bool st, .bool sk, .bool re, .bool fe, .bool ag, .int .i64 c, .int .i64 sl] 39)).alloc (.cells #[.slice A n u, .slice A' n' u', .int .i64 pl] 36)) := (by repeat (first | with_reducible exact Below.refl _ _ | with_reducible assumption | with_reducible refine sub_alloc ?_ _ | (with_reducible refine sub_setCell2 ?_ ?_ _; (focus (first | (simp; done) | (simp <;> omega)))) | with_reducible refine sub_drew ?_ | with_reducible refine below_drewN ?_ _ | with_reducible refine sub_step (by assumption) ?_ (by first | rfl | (simp; done)) | exact Below.refl _ _ | assumption | refine sub_alloc ?_ _ | refine sub_setCell ?_ (by simp <;> omega) _ | refine sub_drew ?_ | refine below_drewN ?_ _ | refine sub_step (by assumption) ?_ (by first | rfl | (simp; done))))
  have BW := Lib.hid hbW
  have P0 := (RuAt.box w 39 p s st sk re fe ag c sl).alloc (.cells #[.slice A n u, .slice A' n' u', .int .i64 pl] 36)
  have P1 := PosAt.box (w.alloc (.cells #[.int .i64 p, .int .i64 s, .bool st, .bool sk, .bool re, .bool fe, .bool ag, .int .i64 c, .int .i64 sl] 39)) 36 A n u A' n' u' pl
  have hs1 : (w.alloc (.cells #[.int .i64 p, .int .i64 s, .bool st, .bool sk, .bool re, .bool fe, .bool ag, .int .i64 c, .int .i64 sl] 39)).heap.size = w.heap.size + 1 := by simp
  rw [hs1] at P1
  clear hs1
  have HP0 := Lib.hid P0
  have HP1 := Lib.hid P1
  have HH := Lib.hid (h.sub hbW)
  have HH' := Lib.hid (h'.sub hbW)
  clear h h' hbW P0 P1
  cases e0 : okP ⟨p, s, st, sk, re, fe, ag, c, sl⟩ xs xs' pl
  · have HE := Lib.hid e0
    clear e0
    go_enter Tryd.func44, Tryd.ntmps44
    go_wp2_with fail
    refine (l04Ok_is w.heap.size 0 (w.heap.size + 1) 0 ⟨p, s, st, sk, re, fe, ag, c, sl⟩ _ _ _ _ _ _ xs xs' pl _ HE.out _ (by exact HP0.out) (by exact HP1.out) (by exact HH.out) (by exact HH'.out) hn).mono ?_
    rintro e w1 ⟨rfl, m1, rfl⟩
    have c1 := Lib.hid (below_drewN BW.out m1)
    skip
    go_wp2_with fail
    go_ret
    exact ⟨ret_js (by rw [psT, if_neg (by rw [HE.out]; decide)]), c1.out⟩
  have HE := Lib.hid e0
  obtain ⟨z0, z1, z2, ⟨h0, h1⟩, N1, N2, -⟩ := okP_parts e0
  obtain ⟨hq0, hq1⟩ := okR_pits z0
  dsimp only at hq0 hq1 z1
  obtain rfl : n' = 2 := by rw [← HL'.out, z2]
  obtain ⟨x0, x1, rfl⟩ := two_ofD z2
  rw [HL.out] at z1
  obtain ⟨m, rfl⟩ : ∃ m : Nat, p = (m : Int) := ⟨p.toNat, by omega⟩
  obtain rfl : n = m + m := by omega
  have X1 := Lib.hid (okN_in N1)
  have X2 := Lib.hid (okN_in N2)
  clear e0 z0 z2 N1 N2
  obtain ⟨bb, oo, rfl, hbb, -⟩ := HH.out.at_ (by omega)
  have hu := HH.out.2.1
  have i0 : (0 : Int) ≤ (m : Int) := by omega
  have i1 : (m : Int) ≤ (m : Int) + (m : Int) := by omega
  have i2 : (m : Int) + (m : Int) ≤ (u : Int) := by omega
  have i3 : (m : Int) ≤ (u : Int) := by omega
  have i4 : m ≤ u := by omega
  have i5 : ¬ (u = m) := by omega
  have i9 : (m : Int) ≤ 2 * (m : Int) := by omega
  have i6 : ¬ (u = 0) := by omega
  have hd := dec_size (n := pl) (by omega) (by omega)
  have L1 : ((xs.take m).length) = m := by rw [List.length_take, HL.out]; omega
  have L2 : (((xs.drop m).take m).length) = m := by rw [List.length_take, List.length_drop, HL.out]; omega
  have Y1 : ∀ z ∈ xs.take m, in64 z := fun z hz => X1.out z (List.mem_of_mem_take hz)
  have Y2 : ∀ z ∈ (xs.drop m).take m, in64 z := fun z hz => X1.out z (List.mem_of_mem_drop (List.mem_of_mem_take hz))
  have d1 := jn_size 44 (xs.take m) Y1 m (by omega)
  have d2 := jn_size 44 ((xs.drop m).take m) Y2 m (by omega)
  have d3 := jn_size 44 [x0, x1] X2.out 2 (by simp)
  have n1 : ¬ 9223372036854775807 < (dec pl).size + 1 := by omega
  have n2 : ¬ 9223372036854775807 < (dec pl).size + 1 + (jn 44 (xs.take m) m).size := by omega
  have n3 : ¬ 9223372036854775807 < (dec pl).size + 1 + (jn 44 (xs.take m) m).size + 1 := by omega
  have n4 : ¬ 9223372036854775807 < (dec pl).size + 1 + (jn 44 (xs.take m) m).size + 1 + (jn 44 ((xs.drop m).take m) m).size := by omega
  have n5 : ¬ 9223372036854775807 < (dec pl).size + 1 + (jn 44 (xs.take m) m).size + 1 + (jn 44 ((xs.drop m).take m) m).size + 1 := by omega
  have n6 : ¬ 9223372036854775807 < (dec pl).size + 1 + (jn 44 (xs.take m) m).size + 1 + (jn 44 ((xs.drop m).take m) m).size + 1 + (jn 44 [x0, x1] 2).size := by omega
  have Z1 := Lib.hid Y1
  have Z2 := Lib.hid Y2
  clear Y1 Y2 L1 L2 d1 d2 d3
  go_enter Tryd.func44, Tryd.ntmps44
  go_wp2_with fail
  refine (l04Ok_is w.heap.size 0 (w.heap.size + 1) 0 ⟨(m : Int), s, st, sk, re, fe, ag, c, sl⟩ _ _ _ _ _ _ xs [x0, x1] pl _ HE.out _ (by exact HP0.out) (by exact HP1.out) (by exact HH.out) (by exact HH'.out) hn).mono ?_
  rintro e w1 ⟨rfl, m1, rfl⟩
  have c1 := Lib.hid (below_drewN BW.out m1)
  go_wp2_with fail
  refine (l04Text_any (w.heap.size + 1) 0 m (some ⟨bb, oo, none⟩) A' u u' xs x0 x1 pl _ (by exact HP1.out) (by exact HH.out) (by exact HH'.out) X1.out X2.out (by omega) (by omega) h0 h1).mono ?_
  rintro e w2 ⟨rfl, b2⟩
  have c2 := Lib.hid (sub_step b2 c1.out rfl)
  clear b2
  go_wp2_with fail
  go_ret
  exact ⟨ret_js (by rw [psT, if_pos HE.out]; rfl), c2.out⟩
end Go.Proofs.YtnanaldolnehiabDoor
