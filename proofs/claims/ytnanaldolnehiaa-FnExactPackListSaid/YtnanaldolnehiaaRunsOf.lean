/-
  The runs of a list: l14Ok, l14Runs, RunsOf; the law FnExactRunsOf, walked.
-/
import Derived.Test.YtnanaldolnehiaaRunMarks
import Derived.Test.YtnanaldolnehiaaBytes
import Derived.Deep.Cut
import Derived.BigQuiet
set_option linter.unusedSimpArgs false
set_option linter.unusedVariables false
namespace Go.Proofs.Ytnanaldolnehiaa
open Go.ChangeShapes Go.WideShapes Go.RowKit Go.Deep

theorem inB_itm (x : Int) : inB x (-1000000) 1000000 = itm x := by simp [inB, itm]
set_option maxHeartbeats 2000000 in
theorem l14Ok_any (B : Nat) (A : Option Addr) (n c : Nat) (xs : List Int) (w : World) (h : Ints w B A n c xs) (hn : n ≤ 1048576) : Calls Try.prog 120 #[.slice A n c] w fun e w' => e = .returned (.bool (okL xs)) ∧ w = w' := by
  have HL := Lib.hid h.len
  have HH := Lib.hid h
  clear h
  go_enter Try.func120, Try.ntmps120
  go_wp2_with fail
  go_loop [3] (fun i => ∃ k : Nat, k ≤ n ∧ i = .int .i64 k ∧ Hid ((xs.take k).all itm = true)) (fun i => n - (intOf i).toNat)
  case atStart => exact ⟨0, Nat.zero_le _, rfl, Lib.hid rfl⟩
  case round =>
    obtain ⟨k, hk, rfl, ht⟩ := hrel
    by_cases hlt : k < n
    · obtain ⟨x, hx⟩ := get_some (zs := xs) (k := k) (by rw [HL.out]; exact hlt)
      obtain ⟨b, off, hA, hbB, hc⟩ := HH.out.at_ (by omega)
      have cx := hc k x hx
      have X := Lib.hid hx
      rw [hA]
      clear hc hx
      have i0 : (0 : Int) ≤ (k : Int) := by omega
      have i1 : (k : Int) < (n : Int) := by omega
      cases hi : itm x
      · have R := Lib.hid (okL_bad X.out hi)
        have HI := Lib.hid hi
        clear hi
        go_wp2_with fail
        refine (l14Item_any _ _).mono ?_
        rintro e w' ⟨rfl, rfl⟩
        rw [inB_itm, HI.out]
        go_wp2_with fail
        go_ret
        exact ⟨by rw [R.out]; rfl, rfl⟩
      · have HI := Lib.hid hi
        clear hi
        go_wp2_with fail
        refine (l14Item_any _ _).mono ?_
        rintro e w' ⟨rfl, rfl⟩
        rw [inB_itm, HI.out]
        go_wp2_with fail
        go_round
        case rel => exact ⟨k + 1, by omega, by go_num, Lib.hid (all_step X.out ht.out HI.out)⟩
        case measure => simp [intOf]; omega
    · have hkn : k = n := by omega
      have HK := Lib.hid (show xs.all itm = true by have := ht.out; rwa [List.take_of_length_le (by rw [HL.out]; omega)] at this)
      clear hkn ht
      by_cases h4 : n ≤ 4000
      · have R := Lib.hid (okL_yes HK.out (by rw [HL.out]; exact h4))
        have i2 : (n : Int) ≤ 4000 := by omega
        have i3 : ¬ ((k : Int) < (n : Int)) := by omega
        go_wp2_with fail
        go_ret
        exact ⟨by rw [R.out]; rfl, rfl⟩
      · have R := Lib.hid (okL_long (l := xs) (by rw [HL.out]; exact h4))
        have i2 : ¬ ((n : Int) ≤ 4000) := by omega
        have i3 : ¬ ((k : Int) < (n : Int)) := by omega
        go_wp2_with fail
        go_ret
        exact ⟨by rw [R.out]; rfl, rfl⟩
def RetRN (w : World) (rs : List (Int × Int)) (code : Int) (e : Ending) (w' : World) : Prop := ∃ A c, e = .returned (.tuple #[.slice A rs.length c, .int .i64 code]) ∧ OwnRun w' w.heap.size A rs.length c (flR rs) ∧ Below w.heap.size w w'
theorem wp_namedR {P : Program} {Q : Exit → Act → World → Prop} {a : Act} {w : World} {c : Code} (K : World → Prop) (hK : K w) (h : ∀ W, K W → c.wp P Q a W) : c.wp P Q a w := h w hK
theorem own_nilR (w : World) (b : Nat) : OwnRun w b none 0 0 [] := ⟨rfl, by omega, by omega, World.ownsRow_nil w b _ _⟩
theorem rn_ok {l : List Int} (h : okL l = true) : rnR l = rnOf l ∧ rnC l = 0 := ⟨by rw [rnR, if_pos h], by rw [rnC, if_pos h]⟩
theorem rn_bad {l : List Int} (h : okL l = false) : rnR l = [] ∧ rnC l = 2 := ⟨by rw [rnR, if_neg (by rw [h]; exact Bool.false_ne_true)], by rw [rnC, if_neg (by rw [h]; exact Bool.false_ne_true)]⟩
theorem nil_of_len {α : Type} {l : List α} (h : ¬ (0 < l.length)) : l = [] := List.eq_nil_of_length_eq_zero (by omega)
/-- An own list of runs that is not empty has a block. -/
theorem OwnRun.some {w : World} {base n c : Nat} {A : Option Addr} {zs : List Int} (h : OwnRun w base A n c zs) (hn : 0 < n) : ∃ g, A = Option.some ⟨g, 0, none⟩ ∧ base ≤ g ∧ g < w.heap.size := by
  rcases h.form with ⟨_, h1, _⟩ | h1
  · omega
  · exact h1
set_option maxRecDepth 100000 in
set_option maxHeartbeats 4000000 in
theorem l14Runs_any (B : Nat) (A : Option Addr) (n c : Nat) (xs : List Int) (w : World) (h : Ints w B A n c xs) (hn : n ≤ 1048576) (hB : B ≤ w.heap.size) : Calls Try.prog 128 #[.slice A n c] w fun e w' => ∃ A2 c2, e = .returned (.slice A2 (rnOf xs).length c2) ∧ OwnRun w' w.heap.size A2 (rnOf xs).length c2 (flR (rnOf xs)) ∧ Below w.heap.size w w' := by
  have HL := Lib.hid h.len
  have HH := Lib.hid h
  clear h
  have H0 := Lib.hid (show OwnRun (w.alloc (.cells #[] 136)) w.heap.size (some ⟨w.heap.size, 0, none⟩) 0 0 [] from ⟨rfl, by simp, by simp, World.ownsRow_made w #[] 0 (Nat.le_refl _) (by unfold maxLen; omega) rfl⟩)
  have bw := Lib.hid (show Below w.heap.size w (w.alloc (.cells #[] 136)) from (by repeat (first | with_reducible exact Below.refl _ _ | with_reducible assumption | with_reducible refine sub_alloc ?_ _ | (with_reducible refine sub_setCell2 ?_ ?_ _; (focus (first | (simp; done) | (simp <;> omega)))) | with_reducible refine sub_drew ?_ | with_reducible refine below_drewN ?_ _ | with_reducible refine sub_step (by assumption) ?_ (by first | rfl | (simp; done)) | exact Below.refl _ _ | assumption | refine sub_alloc ?_ _ | refine sub_setCell ?_ (by simp <;> omega) _ | refine sub_drew ?_ | refine below_drewN ?_ _ | refine sub_step (by assumption) ?_ (by first | rfl | (simp; done)))))
  go_enter Try.func128, Try.ntmps128
  go_wp2_with fail
  go_loopw [3, 4] (fun o i wr => ∃ (k : Nat) (A2 : Option Addr) (c2 : Nat), k ≤ n ∧ i = .int .i64 k ∧ o = .slice A2 (rnOf (xs.take k)).length c2 ∧ OwnRun wr w.heap.size A2 (rnOf (xs.take k)).length c2 (flR (rnOf (xs.take k))) ∧ Below w.heap.size w wr) (fun _ i _ => n - (intOf i).toNat)
  case atStart => exact ⟨0, _, 0, Nat.zero_le _, rfl, rfl, H0.out, bw.out⟩
  case round =>
    obtain ⟨k, A2, c2, hk, rfl, rfl, ho, hb⟩ := hrel
    have hbd := rn_bound (xs.take k)
    have hkl : (xs.take k).length ≤ k := List.length_take_le _ _
    by_cases hlt : k < n
    · obtain ⟨x, hx⟩ := get_some (zs := xs) (k := k) (by rw [HL.out]; exact hlt)
      obtain ⟨b, off, hA, hbB, hc⟩ := HH.out.at_ (by omega)
      have cx : wr.cell? ⟨b, off + k, none⟩ = some (.int .i64 x) := (hb.cell (p := ⟨b, off + k, none⟩) (by show b < _; omega)).trans (hc k x hx)
      have X := Lib.hid hx
      have ST := Lib.hid (rnOf_take hx)
      have HO := Lib.hid ho
      have HB := Lib.hid hb
      rw [hA]
      clear hc hx ho hb hA
      have i0 : (0 : Int) ≤ (k : Int) := by omega
      have i1 : (k : Int) < (n : Int) := by omega
      generalize hrs : rnOf (xs.take k) = rs at *
      by_cases hm : 0 < rs.length
      rotate_left
      · obtain rfl := nil_of_len hm
        have HRS := Lib.hid hrs
        clear hrs hm hbd hkl
        go_wp2_with fail
        go_quiet (fail)
        go_upto_region 8 with fail
        refine wp_namedR (fun w' => OwnRun w' w.heap.size A2 0 c2 [] ∧ Below w.heap.size w w' ∧ w'.cell? ⟨b, off + k, none⟩ = some (.int .i64 x)) ?_ ?_
        · first | exact ⟨HO.out.drewN _, below_drewN HB.out _, cx⟩ | exact ⟨HO.out, HB.out, cx⟩
        clear cx
        rintro W1 ⟨q1, q2, q3⟩
        have HO := Lib.hid q1
        have HB := Lib.hid q2
        clear q1 q2
        go_wp2_with (at_builtin; refine list_appendRun rfl (.tmp 39) (.tmp 45) rfl w.heap.size A2 0 c2 [] x 1 W1.heap.size rfl (by simp [Act.eval, Act.put]) (by simp [Act.eval, Act.put]) (by exact HO.out) (by omega) (by exact HB.out.size) ?_; intro A3 c3 w3 ho3 hb3)
        go_roundw
        case rel => exact ⟨k + 1, A3, c3, by omega, by go_num, by rw [ST.out, rn_nil]; rfl, by rw [ST.out, rn_nil]; exact ho3, HB.out.trans hb3⟩
        case measure => simp [intOf]; omega
      · obtain ⟨ini, v, t, hini⟩ := rn_last hm
        subst hini
        have HRS := Lib.hid hrs
        obtain ⟨ht1, ht2⟩ := hbd.2 (v, t) (by simp)
        have hle : (ini ++ [(v, t)]).length = ini.length + 1 := by simp
        have hmx : ini.length + 1 ≤ 1048576 := by have := hbd.1; omega
        have ht3 : t ≤ 1048576 := by simp at ht2; omega
        simp only at ht1
        generalize hj : ini.length = j at *
        have HJ := Lib.hid hj
        rw [hle]
        have HO2 : Hid (OwnRun wr w.heap.size A2 (j + 1) c2 (flR (ini ++ [(v, t)]))) := Lib.hid (by have := HO.out; rwa [hle] at this)
        obtain ⟨g, rfl, hg1, hg2⟩ := HO2.out.some (by omega)
        obtain ⟨f1, f2, f3⟩ := flR_last ini v t
        rw [HJ.out] at f1 f2 f3
        have c1 := HO2.out.cell f1
        have c3 := HO2.out.cell f2
        have fz := HO2.out.free (j * 2 + 1)
        have F3 := Lib.hid f3
        clear f1 f2 f3 hrs hm hbd hkl hj hle ht2 HO
        have i4 : ((j : Int) + 1 - 1) = (j : Int) := by omega
        have i5 : (0 : Int) < (j : Int) + 1 := by omega
        have i6 : (j : Int) < (j : Int) + 1 := by omega
        by_cases hv : v = x
        · subst hv
          go_wp2_with fail
          go_quiet (fail)
          go_upto_region 7 with fail
          refine wp_namedR (fun w' => OwnRun w' w.heap.size (some ⟨g, 0, none⟩) (j + 1) c2 (flR (ini ++ [(v, t)])) ∧ Below w.heap.size w w' ∧ w'.cell? ⟨b, off + k, none⟩ = some (.int .i64 v) ∧ w'.cell? ⟨g, j * 2, none⟩ = some (.int .i64 v) ∧ w'.cell? ⟨g, j * 2 + 1, none⟩ = some (.int .i64 t) ∧ w'.frozen? ⟨g, j * 2 + 1, none⟩ = false) ?_ ?_
          · first | exact ⟨HO2.out.drewN _, below_drewN HB.out _, cx, c1, c3, fz⟩ | exact ⟨HO2.out, HB.out, cx, c1, c3, fz⟩
          clear cx c1 c3 fz
          rintro W1 ⟨q1, q2, q3, q4, q5, q6⟩
          have HO2 := Lib.hid q1
          have HB := Lib.hid q2
          clear q1 q2
          have s1 := HO2.out.stored2 (j * 2 + 1) (t + 1)
          rw [F3.out] at s1
          have S1 := Lib.hid s1
          clear s1
          go_wp2_with fail
          go_roundw
          case rel => exact ⟨k + 1, some ⟨g, 0, none⟩, c2, by omega, by go_num, by rw [ST.out, rn_same]; simp [HJ.out], by rw [ST.out, rn_same, show (ini ++ [(v, t + 1)]).length = j + 1 by simp [HJ.out]]; exact S1.out.1, Below.grown HB.out S1.out.2 (by exact HB.out.size) (fun g' e => by cases e; exact hg1)⟩
          case measure => simp [intOf]; omega
        · have HV := Lib.hid hv
          have hv2 : (v == x) = false := by simpa using hv
          go_wp2_with fail
          go_quiet (fail)
          go_upto_region 8 with fail
          refine wp_namedR (fun w' => OwnRun w' w.heap.size (some ⟨g, 0, none⟩) (j + 1) c2 (flR (ini ++ [(v, t)])) ∧ Below w.heap.size w w' ∧ w'.cell? ⟨b, off + k, none⟩ = some (.int .i64 x) ∧ w'.cell? ⟨g, j * 2, none⟩ = some (.int .i64 v) ∧ w'.cell? ⟨g, j * 2 + 1, none⟩ = some (.int .i64 t) ∧ w'.frozen? ⟨g, j * 2 + 1, none⟩ = false) ?_ ?_
          · first | exact ⟨HO2.out.drewN _, below_drewN HB.out _, cx, c1, c3, fz⟩ | exact ⟨HO2.out, HB.out, cx, c1, c3, fz⟩
          clear cx c1 c3 fz
          rintro W1 ⟨q1, q2, q3, q4, q5, q6⟩
          have HO2 := Lib.hid q1
          have HB := Lib.hid q2
          clear q1 q2
          go_wp2_with (at_builtin; refine list_appendRun rfl (.tmp 39) (.tmp 45) rfl w.heap.size (some ⟨g, 0, none⟩) (j + 1) c2 (flR (ini ++ [(v, t)])) x 1 W1.heap.size rfl (by simp [Act.eval, Act.put]) (by simp [Act.eval, Act.put]) (by exact HO2.out) (by omega) (by exact HB.out.size) ?_; intro A3 c3 w3 ho3 hb3)
          go_roundw
          case rel => exact ⟨k + 1, A3, c3, by omega, by go_num, by rw [ST.out, rn_new _ _ _ _ HV.out]; simp [HJ.out], by rw [ST.out, rn_new _ _ _ _ HV.out, flR_append, show (ini ++ [(v, t)] ++ [(x, (1 : Int))]).length = j + 1 + 1 by simp [HJ.out]]; exact ho3, HB.out.trans hb3⟩
          case measure => simp [intOf]; omega
    · have hkn : k = n := by omega
      have HT := Lib.hid (show xs.take k = xs from List.take_of_length_le (by rw [HL.out]; omega))
      have HO := Lib.hid ho
      have HB := Lib.hid hb
      have i3 : ¬ ((k : Int) < (n : Int)) := by omega
      clear ho hb hbd hkl
      clear hkn
      go_wp2_with fail
      go_ret
      have e := HO.out
      rw [HT.out] at e ⊢
      exact ⟨A2, c2, rfl, e, HB.out⟩
set_option maxRecDepth 100000 in
set_option maxHeartbeats 4000000 in
theorem implRunsOf_any (B : Nat) (A : Option Addr) (n c : Nat) (xs : List Int) (w : World) (h : Ints w B A n c xs) (hn : n ≤ 1048576) (hB : B ≤ w.heap.size) : Calls Try.prog 63 #[.slice A n c] w (RetRN w (rnR xs) (rnC xs)) := by
  have HL := Lib.hid h.len
  have HH := Lib.hid h
  clear h
  have H0 := Lib.hid (show OwnRun (w.alloc (.cells #[] 136)) w.heap.size (some ⟨w.heap.size, 0, none⟩) 0 0 [] from ⟨rfl, by simp, by simp, World.ownsRow_made w #[] 0 (Nat.le_refl _) (by unfold maxLen; omega) rfl⟩)
  have bw := Lib.hid (show Below w.heap.size w (w.alloc (.cells #[] 136)) from (by repeat (first | with_reducible exact Below.refl _ _ | with_reducible assumption | with_reducible refine sub_alloc ?_ _ | (with_reducible refine sub_setCell2 ?_ ?_ _; (focus (first | (simp; done) | (simp <;> omega)))) | with_reducible refine sub_drew ?_ | with_reducible refine below_drewN ?_ _ | with_reducible refine sub_step (by assumption) ?_ (by first | rfl | (simp; done)) | exact Below.refl _ _ | assumption | refine sub_alloc ?_ _ | refine sub_setCell ?_ (by simp <;> omega) _ | refine sub_drew ?_ | refine below_drewN ?_ _ | refine sub_step (by assumption) ?_ (by first | rfl | (simp; done)))))
  go_enter Try.func63, Try.ntmps63
  go_wp2_with fail
  go_loopw [4, 11] (fun o i wr => ∃ (k : Nat) (A2 : Option Addr) (c2 : Nat), k ≤ n ∧ i = .int .i64 k ∧ o = .slice A2 (rnOf (xs.take k)).length c2 ∧ OwnRun wr w.heap.size A2 (rnOf (xs.take k)).length c2 (flR (rnOf (xs.take k))) ∧ Below w.heap.size w wr ∧ Hid ((xs.take k).all itm = true)) (fun _ i _ => n - (intOf i).toNat)
  case atStart => exact ⟨0, _, 0, Nat.zero_le _, rfl, rfl, H0.out, bw.out, Lib.hid rfl⟩
  case round =>
    obtain ⟨k, A2, c2, hk, rfl, rfl, ho, hb, hall⟩ := hrel
    have hbd := rn_bound (xs.take k)
    have hkl : (xs.take k).length ≤ k := List.length_take_le _ _
    by_cases hlt : k < n
    · obtain ⟨x, hx⟩ := get_some (zs := xs) (k := k) (by rw [HL.out]; exact hlt)
      obtain ⟨b, off, hA, hbB, hc⟩ := HH.out.at_ (by omega)
      have cx : wr.cell? ⟨b, off + k, none⟩ = some (.int .i64 x) := (hb.cell (p := ⟨b, off + k, none⟩) (by show b < _; omega)).trans (hc k x hx)
      have X := Lib.hid hx
      have ST := Lib.hid (rnOf_take hx)
      have HO := Lib.hid ho
      have HB := Lib.hid hb
      rw [hA]
      clear hc hx ho hb hA
      have i0 : (0 : Int) ≤ (k : Int) := by omega
      have i1 : (k : Int) < (n : Int) := by omega
      cases hi : itm x
      · have R := Lib.hid (rn_bad (okL_bad X.out hi))
        have HI := Lib.hid hi
        clear hi hbd hkl
        go_wp2_with fail
        refine (isItem_any _ _).mono ?_
        rintro e w' ⟨rfl, rfl⟩
        rw [inB_itm, HI.out]
        go_wp2_with fail
        go_ret2
        rw [R.out.1, R.out.2]
        exact ⟨none, 0, rfl, own_nilR _ _, HB.out⟩
      have HI := Lib.hid hi
      clear hi
      generalize hrs : rnOf (xs.take k) = rs at *
      by_cases hm : 0 < rs.length
      rotate_left
      · obtain rfl := nil_of_len hm
        have HRS := Lib.hid hrs
        clear hrs hm hbd hkl
        go_wp2_with fail
        refine (isItem_any _ _).mono ?_
        rintro e w' ⟨rfl, rfl⟩
        rw [inB_itm, HI.out]
        go_wp2_with (at_builtin; refine list_appendRun rfl (.tmp 41) (.tmp 44) rfl w.heap.size A2 0 c2 [] x 1 wr.heap.size rfl (by simp [Act.eval, Act.put]) (by simp [Act.eval, Act.put]) (by exact HO.out) (by omega) (by exact HB.out.size) ?_; intro A3 c3 w3 ho3 hb3)
        go_roundw
        case rel => exact ⟨k + 1, A3, c3, by omega, by go_num, by rw [ST.out, rn_nil]; rfl, by rw [ST.out, rn_nil]; exact ho3, HB.out.trans hb3, Lib.hid (all_step X.out hall.out HI.out)⟩
        case measure => simp [intOf]; omega
      · obtain ⟨ini, v, t, hini⟩ := rn_last hm
        subst hini
        have HRS := Lib.hid hrs
        obtain ⟨ht1, ht2⟩ := hbd.2 (v, t) (by simp)
        have hle : (ini ++ [(v, t)]).length = ini.length + 1 := by simp
        have hmx : ini.length + 1 ≤ 1048576 := by have := hbd.1; omega
        have ht3 : t ≤ 1048576 := by simp at ht2; omega
        simp only at ht1
        generalize hj : ini.length = j at *
        have HJ := Lib.hid hj
        rw [hle]
        have HO2 : Hid (OwnRun wr w.heap.size A2 (j + 1) c2 (flR (ini ++ [(v, t)]))) := Lib.hid (by have := HO.out; rwa [hle] at this)
        obtain ⟨g, rfl, hg1, hg2⟩ := HO2.out.some (by omega)
        obtain ⟨f1, f2, f3⟩ := flR_last ini v t
        rw [HJ.out] at f1 f2 f3
        have c1 := HO2.out.cell f1
        have c3 := HO2.out.cell f2
        have fz := HO2.out.free (j * 2 + 1)
        have F3 := Lib.hid f3
        clear f1 f2 f3 hrs hm hbd hkl hj hle ht2 HO
        have i4 : ((j : Int) + 1 - 1) = (j : Int) := by omega
        have i5 : (0 : Int) < (j : Int) + 1 := by omega
        have i6 : (j : Int) < (j : Int) + 1 := by omega
        by_cases hv : v = x
        · subst hv
          have s1 := HO2.out.stored2 (j * 2 + 1) (t + 1)
          rw [F3.out] at s1
          have S1 := Lib.hid s1
          clear s1
          go_wp2_with fail
          refine (isItem_any _ _).mono ?_
          rintro e w' ⟨rfl, rfl⟩
          rw [inB_itm, HI.out]
          go_wp2_with fail
          go_roundw
          case rel => exact ⟨k + 1, some ⟨g, 0, none⟩, c2, by omega, by go_num, by rw [ST.out, rn_same]; simp [HJ.out], by rw [ST.out, rn_same, show (ini ++ [(v, t + 1)]).length = j + 1 by simp [HJ.out]]; exact S1.out.1, Below.grown HB.out S1.out.2 (by exact HB.out.size) (fun g' e => by cases e; exact hg1), Lib.hid (all_step X.out hall.out HI.out)⟩
          case measure => simp [intOf]; omega
        · have HV := Lib.hid hv
          have hv2 : (v == x) = false := by simpa using hv
          go_wp2_with fail
          refine (isItem_any _ _).mono ?_
          rintro e w' ⟨rfl, rfl⟩
          rw [inB_itm, HI.out]
          go_wp2_with (at_builtin; refine list_appendRun rfl (.tmp 41) (.tmp 44) rfl w.heap.size (some ⟨g, 0, none⟩) (j + 1) c2 (flR (ini ++ [(v, t)])) x 1 wr.heap.size rfl (by simp [Act.eval, Act.put]) (by simp [Act.eval, Act.put]) (by exact HO2.out) (by omega) (by exact HB.out.size) ?_; intro A3 c3 w3 ho3 hb3)
          go_roundw
          case rel => exact ⟨k + 1, A3, c3, by omega, by go_num, by rw [ST.out, rn_new _ _ _ _ HV.out]; simp [HJ.out], by rw [ST.out, rn_new _ _ _ _ HV.out, flR_append, show (ini ++ [(v, t)] ++ [(x, (1 : Int))]).length = j + 1 + 1 by simp [HJ.out]]; exact ho3, HB.out.trans hb3, Lib.hid (all_step X.out hall.out HI.out)⟩
          case measure => simp [intOf]; omega
    · have hkn : k = n := by omega
      have HT := Lib.hid (show xs.take k = xs from List.take_of_length_le (by rw [HL.out]; omega))
      have HO := Lib.hid ho
      have HB := Lib.hid hb
      have i3 : ¬ ((k : Int) < (n : Int)) := by omega
      clear ho hb hbd hkl
      have HA := Lib.hid (show xs.all itm = true by have := hall.out; rwa [HT.out] at this)
      clear hkn
      by_cases h4 : n ≤ 4000
      · have R := Lib.hid (rn_ok (okL_yes HA.out (by rw [HL.out]; exact h4)))
        have i2 : ¬ (4000 < (n : Int)) := by omega
        go_wp2_with fail
        go_ret2
        have e := HO.out
        rw [R.out.1, R.out.2]
        rw [HT.out] at e ⊢
        exact ⟨A2, c2, rfl, e, HB.out⟩
      · have R := Lib.hid (rn_bad (okL_long (l := xs) (by rw [HL.out]; exact h4)))
        have i2 : 4000 < (n : Int) := by omega
        go_wp2_with fail
        go_ret2
        rw [R.out.1, R.out.2]
        exact ⟨none, 0, rfl, own_nilR _ _, HB.out⟩
set_option maxHeartbeats 2000000 in
theorem specRunsOf_any (B : Nat) (A : Option Addr) (n c : Nat) (xs : List Int) (w : World) (h : Ints w B A n c xs) (hn : n ≤ 1048576) (hB : B ≤ w.heap.size) : Calls Try.prog 62 #[.slice A n c] w (RetRN w (rnR xs) (rnC xs)) := by
  have HH := Lib.hid h
  clear h
  cases hok : okL xs
  · have R := Lib.hid (rn_bad hok)
    have HK := Lib.hid hok
    clear hok
    go_enter Try.func62, Try.ntmps62
    go_wp2_with fail
    refine (l14Ok_any B A n c xs _ HH.out hn).mono ?_
    rintro e w' ⟨rfl, rfl⟩
    rw [HK.out]
    go_wp2_with fail
    go_ret2
    rw [R.out.1, R.out.2]
    exact ⟨none, 0, rfl, own_nilR _ _, Below.refl _ _⟩
  · have R := Lib.hid (rn_ok hok)
    have HK := Lib.hid hok
    clear hok
    go_enter Try.func62, Try.ntmps62
    go_wp2_with fail
    refine (l14Ok_any B A n c xs _ HH.out hn).mono ?_
    rintro e w' ⟨rfl, rfl⟩
    rw [HK.out]
    go_wp2_with fail
    refine (l14Runs_any B A n c xs _ HH.out hn hB).mono ?_
    rintro e w2 ⟨A2, c2, rfl, o2, b2⟩
    have O2 := Lib.hid o2
    have B2 := Lib.hid b2
    clear o2 b2
    go_wp2_with fail
    go_ret2
    rw [R.out.1, R.out.2]
    exact ⟨A2, c2, rfl, O2.out, B2.out⟩
end Go.Proofs.Ytnanaldolnehiaa
