/-
  impl.SameResults.
-/
import Derived.Test.YtnanaldolnehiaaRes3
set_option linter.unusedSimpArgs false
set_option linter.unusedVariables false
namespace Go.Proofs.Ytnanaldolnehiaa
open Go.ChangeShapes Go.WideShapes Go.RowKit Go.Deep

set_option maxRecDepth 100000 in
set_option maxHeartbeats 8000000 in
theorem implSameResults_any (A A' : Option Addr) (n n' c c' : Nat) (rs ss : List Rs) (w : World) (h : Rss w w.heap.size A n c rs) (h' : Rss w w.heap.size A' n' c' ss) :
    Calls Try.prog 31 #[.slice A n c, .slice A' n' c'] w fun e w' => e = .returned (.bool (decide (rs.map Rs.val = ss.map Rs.val))) ∧ Below w.heap.size w w' := by
  have hm := h.le
  have hm' := h'.le
  have hl := h.len
  have hl' := h'.len
  by_cases hn : n = n'
  · obtain rfl : n = n' := hn
    have HL := Lib.hid hl
    have HL' := Lib.hid hl'
    have HH := Lib.hid h
    have HH' := Lib.hid h'
    clear h h' hl hl'
    go_enter Try.func31, Try.ntmps31
    go_wp2_with fail
    go_loopw [15] (fun i wr => ∃ k : Nat, k ≤ n ∧ i = .int .i64 k ∧ Hid ((rs.map Rs.val).take k = (ss.map Rs.val).take k) ∧ Below w.heap.size w wr) (fun i _ => n - (intOf i).toNat)
    case atStart => exact ⟨0, Nat.zero_le _, rfl, Lib.hid (by simp), Below.refl _ _⟩
    case round =>
      obtain ⟨k, hk, rfl, ht, hb⟩ := hrel
      have HB := Lib.hid hb
      have hsz := hb.size
      by_cases hlt : k < n
      · obtain ⟨r, hr⟩ := someR (l := rs) (k := k) (by rw [HL.out]; exact hlt)
        obtain ⟨s, hs⟩ := someR (l := ss) (k := k) (by rw [HL'.out]; exact hlt)
        obtain ⟨b, off, hA, hbB, x0, x1, x2, x3, x4, x5⟩ := HH.out.row hb hr
        obtain ⟨b2, off2, hA2, hbB2, y0, y1, y2, y3, y4, y5⟩ := HH'.out.row hb hs
        subst hA hA2
        have G1 := Lib.hid (HH.out.good hr)
        have G2 := Lib.hid (HH'.out.good hs)
        have HR := Lib.hid hr
        have HS := Lib.hid hs
        clear hr hs hb
        obtain ⟨mv, ga, ag, A1, n1, u1, A1', n1', u1', pl, xs, xs'⟩ := r
        obtain ⟨mv2, ga2, ag2, A2, n2, u2, A2', n2', u2', pl2, ys, ys'⟩ := s
        dsimp only at x0 y0 x1 y1 x2 y2 x3 y3 x4 y4 x5 y5
        have G1 : Hid (Ints w w.heap.size A1 n1 u1 xs ∧ Ints w w.heap.size A1' n1' u1' xs') := G1
        have G2 : Hid (Ints w w.heap.size A2 n2 u2 ys ∧ Ints w w.heap.size A2' n2' u2' ys') := G2
        have i0 : (0 : Int) ≤ (k : Int) := by omega
        have i1 : (k : Int) < (n : Int) := by omega
        by_cases hmv : mv = mv2
        · subst hmv
          by_cases hga : ga = ga2
          · subst hga
            by_cases hag : ag = ag2
            · subst hag
              cases hsp : sameP xs xs' pl ys ys' pl2
              · have HV := Lib.hid hsp
                have NE := Lib.hid (valNe HR.out HS.out (by simp only [Rs.val, Prod.mk.injEq]; rintro ⟨_, _, _, _, _, _⟩; subst_vars; simp [sameP] at hsp))
                clear hsp
                go_upto_region 6 with fail
                refine wp_namedH (fun w' => Has w' wr.heap.size [.int .i64 mv, .int .i64 ga, .bool ag, .slice A1 n1 u1, .slice A1' n1' u1', .int .i64 pl] ∧ Below wr.heap.size wr w') ?_ ?_
                · exact ⟨Has.box _ _ _ _ rfl, (Below.refl _ _).alloc (Nat.le_refl _) _⟩
                rintro v1 ⟨KX, q1⟩
                have y0 := (q1.cell (p := ⟨b2, off2 + k * 6, none⟩) (by show b2 < wr.heap.size; omega)).trans y0
                have y1 := (q1.cell (p := ⟨b2, off2 + k * 6 + 1, none⟩) (by show b2 < wr.heap.size; omega)).trans y1
                have y2 := (q1.cell (p := ⟨b2, off2 + k * 6 + 2, none⟩) (by show b2 < wr.heap.size; omega)).trans y2
                have y3 := (q1.cell (p := ⟨b2, off2 + k * 6 + 3, none⟩) (by show b2 < wr.heap.size; omega)).trans y3
                have y4 := (q1.cell (p := ⟨b2, off2 + k * 6 + 4, none⟩) (by show b2 < wr.heap.size; omega)).trans y4
                have y5 := (q1.cell (p := ⟨b2, off2 + k * 6 + 5, none⟩) (by show b2 < wr.heap.size; omega)).trans y5
                go_upto_region 7 with fail
                refine wp_namedH (fun w' => Has w' wr.heap.size [.int .i64 mv, .int .i64 ga, .bool ag, .slice A1 n1 u1, .slice A1' n1' u1', .int .i64 pl] ∧ Has w' v1.heap.size [.int .i64 mv, .int .i64 ga, .bool ag, .slice A2 n2 u2, .slice A2' n2' u2', .int .i64 pl2] ∧ Below wr.heap.size wr w') ?_ ?_
                · exact ⟨KX.alloc _, Has.box _ _ _ _ rfl, q1.alloc q1.size _⟩
                clear KX q1
                clear x0 y0 x1 y1 x2 y2 x3 y3 x4 y4 x5 y5
                rintro v2 ⟨KX, KY, q2⟩
                have aa0 := KX.at_ 0 rfl
                have bb0 := KY.at_ 0 rfl
                have aa1 := KX.at_ 1 rfl
                have bb1 := KY.at_ 1 rfl
                have aa2 := KX.at_ 2 rfl
                have bb2 := KY.at_ 2 rfl
                have aa3 := KX.at_ 3 rfl
                have bb3 := KY.at_ 3 rfl
                have aa4 := KX.at_ 4 rfl
                have bb4 := KY.at_ 4 rfl
                have aa5 := KX.at_ 5 rfl
                have bb5 := KY.at_ 5 rfl
                have hb2 := HB.out.trans (q2.mono HB.out.size)
                go_wp2_with fail
                refine (SamePosition_any _ _ _ _ _ _ _ _ _ _ _ _ xs xs' ys ys' _ _ _ (by exact G1.out.1.sub hb2) (by exact G1.out.2.sub hb2) (by exact G2.out.1.sub hb2) (by exact G2.out.2.sub hb2)).mono ?_
                rintro e v3 ⟨rfl, q3⟩
                rw [HV.out]
                have hb3 := hb2.trans (q3.mono hb2.size)
                go_wp2_with fail
                go_ret
                exact ⟨ret_b (decide_eq_false NE.out).symm, hb3⟩
              · have HV := Lib.hid hsp
                have EV : Hid (xs = ys ∧ xs' = ys' ∧ pl = pl2) := Lib.hid (by simpa [sameP, and_assoc] using hsp)
                clear hsp
                go_upto_region 6 with fail
                refine wp_namedH (fun w' => Has w' wr.heap.size [.int .i64 mv, .int .i64 ga, .bool ag, .slice A1 n1 u1, .slice A1' n1' u1', .int .i64 pl] ∧ Below wr.heap.size wr w') ?_ ?_
                · exact ⟨Has.box _ _ _ _ rfl, (Below.refl _ _).alloc (Nat.le_refl _) _⟩
                rintro v1 ⟨KX, q1⟩
                have y0 := (q1.cell (p := ⟨b2, off2 + k * 6, none⟩) (by show b2 < wr.heap.size; omega)).trans y0
                have y1 := (q1.cell (p := ⟨b2, off2 + k * 6 + 1, none⟩) (by show b2 < wr.heap.size; omega)).trans y1
                have y2 := (q1.cell (p := ⟨b2, off2 + k * 6 + 2, none⟩) (by show b2 < wr.heap.size; omega)).trans y2
                have y3 := (q1.cell (p := ⟨b2, off2 + k * 6 + 3, none⟩) (by show b2 < wr.heap.size; omega)).trans y3
                have y4 := (q1.cell (p := ⟨b2, off2 + k * 6 + 4, none⟩) (by show b2 < wr.heap.size; omega)).trans y4
                have y5 := (q1.cell (p := ⟨b2, off2 + k * 6 + 5, none⟩) (by show b2 < wr.heap.size; omega)).trans y5
                go_upto_region 7 with fail
                refine wp_namedH (fun w' => Has w' wr.heap.size [.int .i64 mv, .int .i64 ga, .bool ag, .slice A1 n1 u1, .slice A1' n1' u1', .int .i64 pl] ∧ Has w' v1.heap.size [.int .i64 mv, .int .i64 ga, .bool ag, .slice A2 n2 u2, .slice A2' n2' u2', .int .i64 pl2] ∧ Below wr.heap.size wr w') ?_ ?_
                · exact ⟨KX.alloc _, Has.box _ _ _ _ rfl, q1.alloc q1.size _⟩
                clear KX q1
                clear x0 y0 x1 y1 x2 y2 x3 y3 x4 y4 x5 y5
                rintro v2 ⟨KX, KY, q2⟩
                have aa0 := KX.at_ 0 rfl
                have bb0 := KY.at_ 0 rfl
                have aa1 := KX.at_ 1 rfl
                have bb1 := KY.at_ 1 rfl
                have aa2 := KX.at_ 2 rfl
                have bb2 := KY.at_ 2 rfl
                have aa3 := KX.at_ 3 rfl
                have bb3 := KY.at_ 3 rfl
                have aa4 := KX.at_ 4 rfl
                have bb4 := KY.at_ 4 rfl
                have aa5 := KX.at_ 5 rfl
                have bb5 := KY.at_ 5 rfl
                have hb2 := HB.out.trans (q2.mono HB.out.size)
                go_wp2_with fail
                refine (SamePosition_any _ _ _ _ _ _ _ _ _ _ _ _ xs xs' ys ys' _ _ _ (by exact G1.out.1.sub hb2) (by exact G1.out.2.sub hb2) (by exact G2.out.1.sub hb2) (by exact G2.out.2.sub hb2)).mono ?_
                rintro e v3 ⟨rfl, q3⟩
                rw [HV.out]
                have hb3 := hb2.trans (q3.mono hb2.size)
                go_wp2_with fail
                go_roundw
                case rel => exact ⟨k + 1, by omega, by go_num, Lib.hid (takeV ht.out (valAt HR.out) (by rw [valAt HS.out]; simp only [Rs.val]; rw [EV.out.1, EV.out.2.1, EV.out.2.2])), hb3⟩
                case measure => simp [intOf]; omega
            · have NE := Lib.hid (valNe HR.out HS.out (by simp only [Rs.val, Prod.mk.injEq]; rintro ⟨_, _, _, _, _, _⟩; exact hag ‹ag = ag2›))
              have e2 : (ag == ag2) = false := by simpa using hag
              have e3 : (ag != ag2) = true := by simpa using hag
              go_upto_region 6 with fail
              refine wp_namedH (fun w' => Has w' wr.heap.size [.int .i64 mv, .int .i64 ga, .bool ag, .slice A1 n1 u1, .slice A1' n1' u1', .int .i64 pl] ∧ Below wr.heap.size wr w') ?_ ?_
              · exact ⟨Has.box _ _ _ _ rfl, (Below.refl _ _).alloc (Nat.le_refl _) _⟩
              rintro v1 ⟨KX, q1⟩
              have y0 := (q1.cell (p := ⟨b2, off2 + k * 6, none⟩) (by show b2 < wr.heap.size; omega)).trans y0
              have y1 := (q1.cell (p := ⟨b2, off2 + k * 6 + 1, none⟩) (by show b2 < wr.heap.size; omega)).trans y1
              have y2 := (q1.cell (p := ⟨b2, off2 + k * 6 + 2, none⟩) (by show b2 < wr.heap.size; omega)).trans y2
              have y3 := (q1.cell (p := ⟨b2, off2 + k * 6 + 3, none⟩) (by show b2 < wr.heap.size; omega)).trans y3
              have y4 := (q1.cell (p := ⟨b2, off2 + k * 6 + 4, none⟩) (by show b2 < wr.heap.size; omega)).trans y4
              have y5 := (q1.cell (p := ⟨b2, off2 + k * 6 + 5, none⟩) (by show b2 < wr.heap.size; omega)).trans y5
              go_upto_region 7 with fail
              refine wp_namedH (fun w' => Has w' wr.heap.size [.int .i64 mv, .int .i64 ga, .bool ag, .slice A1 n1 u1, .slice A1' n1' u1', .int .i64 pl] ∧ Has w' v1.heap.size [.int .i64 mv, .int .i64 ga, .bool ag2, .slice A2 n2 u2, .slice A2' n2' u2', .int .i64 pl2] ∧ Below wr.heap.size wr w') ?_ ?_
              · exact ⟨KX.alloc _, Has.box _ _ _ _ rfl, q1.alloc q1.size _⟩
              clear KX q1
              clear x0 y0 x1 y1 x2 y2 x3 y3 x4 y4 x5 y5
              rintro v2 ⟨KX, KY, q2⟩
              have aa0 := KX.at_ 0 rfl
              have bb0 := KY.at_ 0 rfl
              have aa1 := KX.at_ 1 rfl
              have bb1 := KY.at_ 1 rfl
              have aa2 := KX.at_ 2 rfl
              have bb2 := KY.at_ 2 rfl
              have aa3 := KX.at_ 3 rfl
              have bb3 := KY.at_ 3 rfl
              have aa4 := KX.at_ 4 rfl
              have bb4 := KY.at_ 4 rfl
              have aa5 := KX.at_ 5 rfl
              have bb5 := KY.at_ 5 rfl
              have hb2 := HB.out.trans (q2.mono HB.out.size)
              go_wp2_with fail
              go_ret
              exact ⟨ret_b (decide_eq_false NE.out).symm, hb2⟩
          · have NE := Lib.hid (valNe HR.out HS.out (by simp only [Rs.val, Prod.mk.injEq]; rintro ⟨_, _, _, _, _, _⟩; exact hga ‹ga = ga2›))
            have e2 : (ga == ga2) = false := by simpa using hga
            have e3 : (ga != ga2) = true := by simpa using hga
            go_upto_region 6 with fail
            refine wp_namedH (fun w' => Has w' wr.heap.size [.int .i64 mv, .int .i64 ga, .bool ag, .slice A1 n1 u1, .slice A1' n1' u1', .int .i64 pl] ∧ Below wr.heap.size wr w') ?_ ?_
            · exact ⟨Has.box _ _ _ _ rfl, (Below.refl _ _).alloc (Nat.le_refl _) _⟩
            rintro v1 ⟨KX, q1⟩
            have y0 := (q1.cell (p := ⟨b2, off2 + k * 6, none⟩) (by show b2 < wr.heap.size; omega)).trans y0
            have y1 := (q1.cell (p := ⟨b2, off2 + k * 6 + 1, none⟩) (by show b2 < wr.heap.size; omega)).trans y1
            have y2 := (q1.cell (p := ⟨b2, off2 + k * 6 + 2, none⟩) (by show b2 < wr.heap.size; omega)).trans y2
            have y3 := (q1.cell (p := ⟨b2, off2 + k * 6 + 3, none⟩) (by show b2 < wr.heap.size; omega)).trans y3
            have y4 := (q1.cell (p := ⟨b2, off2 + k * 6 + 4, none⟩) (by show b2 < wr.heap.size; omega)).trans y4
            have y5 := (q1.cell (p := ⟨b2, off2 + k * 6 + 5, none⟩) (by show b2 < wr.heap.size; omega)).trans y5
            go_upto_region 7 with fail
            refine wp_namedH (fun w' => Has w' wr.heap.size [.int .i64 mv, .int .i64 ga, .bool ag, .slice A1 n1 u1, .slice A1' n1' u1', .int .i64 pl] ∧ Has w' v1.heap.size [.int .i64 mv, .int .i64 ga2, .bool ag2, .slice A2 n2 u2, .slice A2' n2' u2', .int .i64 pl2] ∧ Below wr.heap.size wr w') ?_ ?_
            · exact ⟨KX.alloc _, Has.box _ _ _ _ rfl, q1.alloc q1.size _⟩
            clear KX q1
            clear x0 y0 x1 y1 x2 y2 x3 y3 x4 y4 x5 y5
            rintro v2 ⟨KX, KY, q2⟩
            have aa0 := KX.at_ 0 rfl
            have bb0 := KY.at_ 0 rfl
            have aa1 := KX.at_ 1 rfl
            have bb1 := KY.at_ 1 rfl
            have aa2 := KX.at_ 2 rfl
            have bb2 := KY.at_ 2 rfl
            have aa3 := KX.at_ 3 rfl
            have bb3 := KY.at_ 3 rfl
            have aa4 := KX.at_ 4 rfl
            have bb4 := KY.at_ 4 rfl
            have aa5 := KX.at_ 5 rfl
            have bb5 := KY.at_ 5 rfl
            have hb2 := HB.out.trans (q2.mono HB.out.size)
            go_wp2_with fail
            go_ret
            exact ⟨ret_b (decide_eq_false NE.out).symm, hb2⟩
        · have NE := Lib.hid (valNe HR.out HS.out (by simp only [Rs.val, Prod.mk.injEq]; rintro ⟨_, _, _, _, _, _⟩; exact hmv ‹mv = mv2›))
          have e2 : (mv == mv2) = false := by simpa using hmv
          have e3 : (mv != mv2) = true := by simpa using hmv
          go_upto_region 6 with fail
          refine wp_namedH (fun w' => Has w' wr.heap.size [.int .i64 mv, .int .i64 ga, .bool ag, .slice A1 n1 u1, .slice A1' n1' u1', .int .i64 pl] ∧ Below wr.heap.size wr w') ?_ ?_
          · exact ⟨Has.box _ _ _ _ rfl, (Below.refl _ _).alloc (Nat.le_refl _) _⟩
          rintro v1 ⟨KX, q1⟩
          have y0 := (q1.cell (p := ⟨b2, off2 + k * 6, none⟩) (by show b2 < wr.heap.size; omega)).trans y0
          have y1 := (q1.cell (p := ⟨b2, off2 + k * 6 + 1, none⟩) (by show b2 < wr.heap.size; omega)).trans y1
          have y2 := (q1.cell (p := ⟨b2, off2 + k * 6 + 2, none⟩) (by show b2 < wr.heap.size; omega)).trans y2
          have y3 := (q1.cell (p := ⟨b2, off2 + k * 6 + 3, none⟩) (by show b2 < wr.heap.size; omega)).trans y3
          have y4 := (q1.cell (p := ⟨b2, off2 + k * 6 + 4, none⟩) (by show b2 < wr.heap.size; omega)).trans y4
          have y5 := (q1.cell (p := ⟨b2, off2 + k * 6 + 5, none⟩) (by show b2 < wr.heap.size; omega)).trans y5
          go_upto_region 7 with fail
          refine wp_namedH (fun w' => Has w' wr.heap.size [.int .i64 mv, .int .i64 ga, .bool ag, .slice A1 n1 u1, .slice A1' n1' u1', .int .i64 pl] ∧ Has w' v1.heap.size [.int .i64 mv2, .int .i64 ga2, .bool ag2, .slice A2 n2 u2, .slice A2' n2' u2', .int .i64 pl2] ∧ Below wr.heap.size wr w') ?_ ?_
          · exact ⟨KX.alloc _, Has.box _ _ _ _ rfl, q1.alloc q1.size _⟩
          clear KX q1
          clear x0 y0 x1 y1 x2 y2 x3 y3 x4 y4 x5 y5
          rintro v2 ⟨KX, KY, q2⟩
          have aa0 := KX.at_ 0 rfl
          have bb0 := KY.at_ 0 rfl
          have aa1 := KX.at_ 1 rfl
          have bb1 := KY.at_ 1 rfl
          have aa2 := KX.at_ 2 rfl
          have bb2 := KY.at_ 2 rfl
          have aa3 := KX.at_ 3 rfl
          have bb3 := KY.at_ 3 rfl
          have aa4 := KX.at_ 4 rfl
          have bb4 := KY.at_ 4 rfl
          have aa5 := KX.at_ 5 rfl
          have bb5 := KY.at_ 5 rfl
          have hb2 := HB.out.trans (q2.mono HB.out.size)
          go_wp2_with fail
          go_ret
          exact ⟨ret_b (decide_eq_false NE.out).symm, hb2⟩
      · have hkn : k = n := by omega
        have HK := Lib.hid hkn
        clear hkn
        go_wp2_with fail
        go_ret
        exact ⟨ret_b (decide_eq_true (valAll (by rw [← HK.out]; exact ht.out) HL.out HL'.out)).symm, hb⟩
  · have hd : ((n : Int) != (n' : Int)) = true := by simp; omega
    have hne : ¬ rs.map Rs.val = ss.map Rs.val := fun e => hn (by rw [← hl, ← hl']; exact valLen e)
    clear hl hl' hn h h'
    go_enter Try.func31, Try.ntmps31
    go_wp2_with fail
    go_ret
    exact ⟨ret_b (decide_eq_false hne).symm, Below.refl _ _⟩
end Go.Proofs.Ytnanaldolnehiaa
