/-
  Lists of results compared.
-/
import Derived.Test.YtnanaldolnehiaaRes2
import Derived.Deep.RegionHeld3
set_option linter.unusedSimpArgs false
set_option linter.unusedVariables false
namespace Go.Proofs.Ytnanaldolnehiaa
open Go.ChangeShapes Go.WideShapes Go.RowKit Go.Deep

theorem undrewR {w w' : World} (h : Below w.drew.heap.size w.drew w') : Below w.heap.size w w' := ⟨h.os, h.tape, h.output, h.size, h.block⟩
theorem quietR {P : Program} {f : FuncId} {args : Array Value} {w : World} {k n : Nat} {v : Value} (h : Calls P f args (w.drewN (k + n)) fun e w' => e = .returned v ∧ ∃ m, w' = (w.drewN (k + n)).drewN m) :
    Calls P f args (w.drewN (k + n)) fun e w'' => e = .returned v ∧ ∃ m, w'' = w.drewN (k + m) :=
  h.mono fun _ _ ⟨he, m, hm⟩ => ⟨he, n + m, by rw [hm, World.drewN_drewN, Nat.add_assoc]⟩
theorem valNe {rs ss : List Rs} {k : Nat} {r s : Rs} (hr : rs[k]? = some r) (hs : ss[k]? = some s) (h : ¬ r.val = s.val) : ¬ rs.map Rs.val = ss.map Rs.val := by
  intro e
  have a := valAt hr
  rw [e, valAt hs] at a
  exact h (Option.some.inj a).symm
theorem valLen {rs ss : List Rs} (h : rs.map Rs.val = ss.map Rs.val) : rs.length = ss.length := by simpa using congrArg List.length h
theorem valAll {rs ss : List Rs} {n : Nat} (h : (rs.map Rs.val).take n = (ss.map Rs.val).take n) (hr : rs.length = n) (hs : ss.length = n) : rs.map Rs.val = ss.map Rs.val := by
  rwa [List.take_of_length_le (by simp; omega), List.take_of_length_le (by simp; omega)] at h
theorem l04Same_v (v : Bool) (b o b2 o2 : Nat) (A A' C C' : Option Addr) (n c n' c' m d m' d' : Nat) (xs xs' ys ys' : List Int) (pl ql : Int) (hv : sameP xs xs' pl ys ys' ql = v) (w : World) (hp : PosAt w b o A n c A' n' c' pl) (hq : PosAt w b2 o2 C m d C' m' d' ql)
    (h : Ints w w.heap.size A n c xs) (h' : Ints w w.heap.size A' n' c' xs') (k : Ints w w.heap.size C m d ys) (k' : Ints w w.heap.size C' m' d' ys') :
    Calls Try.prog 107 #[.pointer (some ⟨b, o, none⟩), .pointer (some ⟨b2, o2, none⟩)] w fun e w' => e = .returned (.bool v) ∧ ∃ m, w' = w.drewN m := by
  rw [← hv]
  exact l04Same_any b o b2 o2 A A' C C' n c n' c' m d m' d' xs xs' ys ys' pl ql w hp hq h h' k k'
set_option maxRecDepth 100000 in
set_option maxHeartbeats 4000000 in
theorem eqResultS_same (A A' : Option Addr) (n n' c c' : Nat) (rs ss : List Rs) (w : World) (h : Rss w w.heap.size A n c rs) (h' : Rss w w.heap.size A' n' c' ss) (hv : rs.map Rs.val = ss.map Rs.val) :
    Calls Try.prog 32 #[.slice A n c, .slice A' n' c'] w fun e w' => e = .returned (.bool true) ∧ Below w.heap.size w w' := by
  have hm := h.le
  obtain rfl : n = n' := by rw [← h.len, ← h'.len]; exact valLen hv
  have HL := Lib.hid h.len
  have HL' := Lib.hid h'.len
  have HH := Lib.hid h
  have HH' := Lib.hid h'
  have HV := Lib.hid hv
  clear h h' hv
  go_enter Try.func32, Try.ntmps32
  go_wp2_with fail
  go_loopw [5] (fun i wr => ∃ k : Nat, k ≤ n ∧ i = .int .i64 k ∧ Below w.heap.size w wr) (fun i _ => n - (intOf i).toNat)
  case atStart => exact ⟨0, Nat.zero_le _, rfl, Below.refl _ _⟩
  case round =>
    obtain ⟨k, hk, rfl, hb⟩ := hrel
    by_cases hlt : k < n
    · have hsz := hb.size
      obtain ⟨r, hr⟩ := someR (l := rs) (k := k) (by rw [HL.out]; exact hlt)
      obtain ⟨s, hs⟩ := someR (l := ss) (k := k) (by rw [HL'.out]; exact hlt)
      obtain ⟨b, off, hA, hbB, x0, x1, x2, x3, x4, x5⟩ := HH.out.row hb hr
      obtain ⟨b2, off2, hA2, hbB2, y0, y1, y2, y3, y4, y5⟩ := HH'.out.row hb hs
      subst hA hA2
      have ev : r.val = s.val := by
        have a := valAt hr
        rw [HV.out, valAt hs] at a
        exact (Option.some.inj a).symm
      have G1 := Lib.hid (HH.out.good hr)
      have G2 := Lib.hid (HH'.out.good hs)
      obtain ⟨mv, ga, ag, A1, n1, u1, A1', n1', u1', pl, xs, xs'⟩ := r
      obtain ⟨mv2, ga2, ag2, A2, n2, u2, A2', n2', u2', pl2, ys, ys'⟩ := s
      simp only [Rs.val, Prod.mk.injEq] at ev
      obtain ⟨rfl, rfl, rfl, rfl, rfl, rfl⟩ := ev
      dsimp only at x0 y0 x1 y1 x2 y2 x3 y3 x4 y4 x5 y5
      have G1 : Hid (Ints w w.heap.size A1 n1 u1 xs ∧ Ints w w.heap.size A1' n1' u1' xs') := G1
      have G2 : Hid (Ints w w.heap.size A2 n2 u2 xs ∧ Ints w w.heap.size A2' n2' u2' xs') := G2
      clear hr hs
      have i0 : (0 : Int) ≤ (k : Int) := by omega
      have i1 : (k : Int) < (n : Int) := by omega
      have HB := Lib.hid hb
      go_wp2_with fail
      go_region_held3 (fun w' => w'.cell? ⟨b, off + k * 6, none⟩ = some (.int .i64 mv) ∧ w'.cell? ⟨b, off + k * 6 + 1, none⟩ = some (.int .i64 ga) ∧ w'.cell? ⟨b, off + k * 6 + 2, none⟩ = some (.bool ag) ∧ w'.cell? ⟨b, off + k * 6 + 3, none⟩ = some (.slice A1 n1 u1) ∧ w'.cell? ⟨b, off + k * 6 + 4, none⟩ = some (.slice A1' n1' u1') ∧ w'.cell? ⟨b, off + k * 6 + 5, none⟩ = some (.int .i64 pl) ∧ w'.cell? ⟨b2, off2 + k * 6, none⟩ = some (.int .i64 mv) ∧ w'.cell? ⟨b2, off2 + k * 6 + 1, none⟩ = some (.int .i64 ga) ∧ w'.cell? ⟨b2, off2 + k * 6 + 2, none⟩ = some (.bool ag) ∧ w'.cell? ⟨b2, off2 + k * 6 + 3, none⟩ = some (.slice A2 n2 u2) ∧ w'.cell? ⟨b2, off2 + k * 6 + 4, none⟩ = some (.slice A2' n2' u2') ∧ w'.cell? ⟨b2, off2 + k * 6 + 5, none⟩ = some (.int .i64 pl)) (first | (refine ⟨?_, ?_, ?_, ?_, ?_, ?_, ?_, ?_, ?_, ?_, ?_, ?_⟩ <;> with_reducible assumption) | go_keep) (first | (go_at_call 110; refine (eqResult_same mv ga ag A1 n1 u1 A1' n1' u1' pl xs xs' A2 n2 u2 A2' n2' u2' _ (by exact G1.out.1.sub HB.out.drew) (by exact G1.out.2.sub HB.out.drew) (by exact G2.out.1.sub HB.out.drew) (by exact G2.out.2.sub HB.out.drew)).mono ?_; rintro e w1 ⟨rfl, hb1⟩; have hb1 := undrewR hb1; have hb2 := hb.trans (hb1.mono hsz); have x0 := (hb1.cell (p := ⟨b, off + k * 6, none⟩) (by show b < wr.heap.size; omega)).trans x0; have y0 := (hb1.cell (p := ⟨b2, off2 + k * 6, none⟩) (by show b2 < wr.heap.size; omega)).trans y0; have x1 := (hb1.cell (p := ⟨b, off + k * 6 + 1, none⟩) (by show b < wr.heap.size; omega)).trans x1; have y1 := (hb1.cell (p := ⟨b2, off2 + k * 6 + 1, none⟩) (by show b2 < wr.heap.size; omega)).trans y1; have x2 := (hb1.cell (p := ⟨b, off + k * 6 + 2, none⟩) (by show b < wr.heap.size; omega)).trans x2; have y2 := (hb1.cell (p := ⟨b2, off2 + k * 6 + 2, none⟩) (by show b2 < wr.heap.size; omega)).trans y2; have x3 := (hb1.cell (p := ⟨b, off + k * 6 + 3, none⟩) (by show b < wr.heap.size; omega)).trans x3; have y3 := (hb1.cell (p := ⟨b2, off2 + k * 6 + 3, none⟩) (by show b2 < wr.heap.size; omega)).trans y3; have x4 := (hb1.cell (p := ⟨b, off + k * 6 + 4, none⟩) (by show b < wr.heap.size; omega)).trans x4; have y4 := (hb1.cell (p := ⟨b2, off2 + k * 6 + 4, none⟩) (by show b2 < wr.heap.size; omega)).trans y4; have x5 := (hb1.cell (p := ⟨b, off + k * 6 + 5, none⟩) (by show b < wr.heap.size; omega)).trans x5; have y5 := (hb1.cell (p := ⟨b2, off2 + k * 6 + 5, none⟩) (by show b2 < wr.heap.size; omega)).trans y5))
      go_wp2_with fail
      go_roundw
      case rel => exact ⟨k + 1, by omega, by go_num, hb2⟩
      case measure => simp [intOf]; omega
    · have hkn : k = n := by omega
      have HK := Lib.hid hkn
      clear hkn
      go_wp2_with fail
      go_ret
      exact ⟨rfl, hb⟩
set_option maxRecDepth 100000 in
set_option maxHeartbeats 8000000 in
theorem specSameResults_any (A A' : Option Addr) (n n' c c' : Nat) (rs ss : List Rs) (w : World) (h : Rss w w.heap.size A n c rs) (h' : Rss w w.heap.size A' n' c' ss) :
    Calls Try.prog 29 #[.slice A n c, .slice A' n' c'] w fun e w' => e = .returned (.bool (decide (rs.map Rs.val = ss.map Rs.val))) ∧ ∃ m, w' = w.drewN m := by
  have hm := h.le
  have hm' := h'.le
  have hl := h.len
  have hl' := h'.len
  by_cases hn : n = n'
  · obtain rfl : n = n' := hn
    have HL := Lib.hid hl
    have HL' := Lib.hid hl'
    have HH := Lib.hid h
    have HH' := Lib.hid h'
    clear h h' hl hl'
    go_enter Try.func29, Try.ntmps29
    go_wp2_with fail
    go_loopw [5] (fun i wr => ∃ k : Nat, k ≤ n ∧ i = .int .i64 k ∧ Hid ((rs.map Rs.val).take k = (ss.map Rs.val).take k) ∧ ∃ m, wr = w.drewN m) (fun i _ => n - (intOf i).toNat)
    case atStart => exact ⟨0, Nat.zero_le _, rfl, Lib.hid (by simp), 0, rfl⟩
    case round =>
      obtain ⟨k, hk, rfl, ht, m, rfl⟩ := hrel
      by_cases hlt : k < n
      · have hb := Below.refl w.heap.size w
        obtain ⟨r, hr⟩ := someR (l := rs) (k := k) (by rw [HL.out]; exact hlt)
        obtain ⟨s, hs⟩ := someR (l := ss) (k := k) (by rw [HL'.out]; exact hlt)
        obtain ⟨b, off, hA, hbB, x0, x1, x2, x3, x4, x5⟩ := HH.out.row hb hr
        obtain ⟨b2, off2, hA2, hbB2, y0, y1, y2, y3, y4, y5⟩ := HH'.out.row hb hs
        subst hA hA2
        have G1 := Lib.hid (HH.out.good hr)
        have G2 := Lib.hid (HH'.out.good hs)
        have HR := Lib.hid hr
        have HS := Lib.hid hs
        clear hr hs hb
        obtain ⟨mv, ga, ag, A1, n1, u1, A1', n1', u1', pl, xs, xs'⟩ := r
        obtain ⟨mv2, ga2, ag2, A2, n2, u2, A2', n2', u2', pl2, ys, ys'⟩ := s
        dsimp only at x0 y0 x1 y1 x2 y2 x3 y3 x4 y4 x5 y5
        have G1 : Hid (Ints w w.heap.size A1 n1 u1 xs ∧ Ints w w.heap.size A1' n1' u1' xs') := G1
        have G2 : Hid (Ints w w.heap.size A2 n2 u2 ys ∧ Ints w w.heap.size A2' n2' u2' ys') := G2
        have i0 : (0 : Int) ≤ (k : Int) := by omega
        have i1 : (k : Int) < (n : Int) := by omega
        by_cases hmv : mv = mv2
        · subst hmv
          by_cases hga : ga = ga2
          · subst hga
            by_cases hag : ag = ag2
            · subst hag
              cases hsp : sameP xs xs' pl ys ys' pl2
              · have HV := Lib.hid hsp
                have NE := Lib.hid (valNe HR.out HS.out (by simp only [Rs.val, Prod.mk.injEq]; rintro ⟨_, _, _, _, _, _⟩; subst_vars; simp [sameP] at hsp))
                clear hsp
                go_wp2_with fail
                go_quiet ((go_at_call 107; exact quietR (l04Same_v false b _ b2 _ A1 A1' A2 A2' n1 u1 n1' u1' n2 u2 n2' u2' xs xs' ys ys' pl pl2 HV.out _ (by exact ⟨x3, x4, x5⟩) (by exact ⟨y3, y4, y5⟩) (by exact G1.out.1) (by exact G1.out.2) (by exact G2.out.1) (by exact G2.out.2))))
                go_wp2_with fail
                go_ret
                exact ⟨ret_b (decide_eq_false NE.out).symm, _, World.drewN_drewN _ _ _⟩
              · have HV := Lib.hid hsp
                have EV : Hid (xs = ys ∧ xs' = ys' ∧ pl = pl2) := Lib.hid (by simpa [sameP, and_assoc] using hsp)
                clear hsp
                go_wp2_with fail
                go_quiet ((go_at_call 107; exact quietR (l04Same_v true b _ b2 _ A1 A1' A2 A2' n1 u1 n1' u1' n2 u2 n2' u2' xs xs' ys ys' pl pl2 HV.out _ (by exact ⟨x3, x4, x5⟩) (by exact ⟨y3, y4, y5⟩) (by exact G1.out.1) (by exact G1.out.2) (by exact G2.out.1) (by exact G2.out.2))))
                go_wp2_with fail
                go_roundw
                case rel => exact ⟨k + 1, by omega, by go_num, Lib.hid (takeV ht.out (valAt HR.out) (by rw [valAt HS.out]; simp only [Rs.val]; rw [EV.out.1, EV.out.2.1, EV.out.2.2])), _, rfl⟩
                case measure => simp [intOf]; omega
            · have NE := Lib.hid (valNe HR.out HS.out (by simp only [Rs.val, Prod.mk.injEq]; rintro ⟨_, _, _, _, _, _⟩; exact hag ‹ag = ag2›))
              have e2 : (ag == ag2) = false := by simpa using hag
              have e3 : (ag != ag2) = true := by simpa using hag
              go_wp2_with fail
              go_quiet (fail)
              go_wp2_with fail
              go_ret
              exact ⟨ret_b (decide_eq_false NE.out).symm, _, World.drewN_drewN _ _ _⟩
          · have NE := Lib.hid (valNe HR.out HS.out (by simp only [Rs.val, Prod.mk.injEq]; rintro ⟨_, _, _, _, _, _⟩; exact hga ‹ga = ga2›))
            have e2 : (ga == ga2) = false := by simpa using hga
            have e3 : (ga != ga2) = true := by simpa using hga
            go_wp2_with fail
            go_quiet (fail)
            go_wp2_with fail
            go_ret
            exact ⟨ret_b (decide_eq_false NE.out).symm, _, World.drewN_drewN _ _ _⟩
        · have NE := Lib.hid (valNe HR.out HS.out (by simp only [Rs.val, Prod.mk.injEq]; rintro ⟨_, _, _, _, _, _⟩; exact hmv ‹mv = mv2›))
          have e2 : (mv == mv2) = false := by simpa using hmv
          have e3 : (mv != mv2) = true := by simpa using hmv
          go_wp2_with fail
          go_quiet (fail)
          go_wp2_with fail
          go_ret
          exact ⟨ret_b (decide_eq_false NE.out).symm, _, World.drewN_drewN _ _ _⟩
      · have hkn : k = n := by omega
        have HK := Lib.hid hkn
        clear hkn
        go_wp2_with fail
        go_ret
        exact ⟨ret_b (decide_eq_true (valAll (by rw [← HK.out]; exact ht.out) HL.out HL'.out)).symm, _, rfl⟩
  · have hd : ((n : Int) != (n' : Int)) = true := by simp; omega
    have hne : ¬ rs.map Rs.val = ss.map Rs.val := fun e => hn (by rw [← hl, ← hl']; exact valLen e)
    clear hl hl' hn h h'
    go_enter Try.func29, Try.ntmps29
    go_wp2_with fail
    go_ret
    exact ⟨ret_b (decide_eq_false hne).symm, 0, rfl⟩
end Go.Proofs.Ytnanaldolnehiaa
