/-
  Lists of results sized, converted, compared.
-/
import Derived.Test.YtnanaldolnehiaaRes
import Derived.Deep.RegionHeld3
set_option linter.unusedSimpArgs false
set_option linter.unusedVariables false
namespace Go.Proofs.Ytnanaldolnehiaa
open Go.ChangeShapes Go.WideShapes Go.RowKit Go.Deep

theorem takeV {α : Type} {xs ys : List α} {k : Nat} {x : α} (h : xs.take k = ys.take k) (a : xs[k]? = some x) (b : ys[k]? = some x) : xs.take (k + 1) = ys.take (k + 1) := by rw [List.take_add_one, List.take_add_one, h, a, b]
theorem someR {α : Type} {l : List α} {k : Nat} (h : k < l.length) : ∃ r, l[k]? = some r := ⟨_, List.getElem?_eq_getElem h⟩
theorem valAt {l : List Rs} {k : Nat} {r : Rs} (h : l[k]? = some r) : (l.map Rs.val)[k]? = some r.val := by rw [List.getElem?_map, h]; rfl
theorem Rss.row {w w' : World} {n c : Nat} {A : Option Addr} {rs : List Rs} (h : Rss w w.heap.size A n c rs) (hb : Below w.heap.size w w') {k : Nat} {r : Rs} (hr : rs[k]? = some r) :
    ∃ b off, A = some ⟨b, off, none⟩ ∧ b < w.heap.size ∧ w'.cell? ⟨b, off + k * 6, none⟩ = some (.int .i64 r.mv) ∧ w'.cell? ⟨b, off + k * 6 + 1, none⟩ = some (.int .i64 r.ga) ∧ w'.cell? ⟨b, off + k * 6 + 2, none⟩ = some (.bool r.ag) ∧ w'.cell? ⟨b, off + k * 6 + 3, none⟩ = some (.slice r.A r.n r.u) ∧ w'.cell? ⟨b, off + k * 6 + 4, none⟩ = some (.slice r.A' r.n' r.u') ∧ w'.cell? ⟨b, off + k * 6 + 5, none⟩ = some (.int .i64 r.pl) := by
  have hn : 0 < n := by have := (List.getElem?_eq_some_iff.1 hr).1; have := h.len; omega
  obtain ⟨b, off, e, hB, hc⟩ := h.at_ hn
  have q := fun i v hv => (hb.cell (p := ⟨b, off + (k * 6 + i), none⟩) hB).trans (hc k r hr i v hv)
  exact ⟨b, off, e, hB, q 0 _ rfl, q 1 _ rfl, q 2 _ rfl, q 3 _ rfl, q 4 _ rfl, q 5 _ rfl⟩
set_option maxRecDepth 100000 in
set_option maxHeartbeats 2000000 in
theorem szResultS_any (A : Option Addr) (n c : Nat) (rs : List Rs) (left : Int) (w : World) (h : Rss w w.heap.size A n c rs) (h0 : 0 ≤ left) (h1 : left ≤ 1048576) :
    Calls Try.prog 28 #[.slice A n c, .int .i64 left] w fun e w' => ∃ z : Int, e = .returned (.int .i64 z) ∧ z ≤ left ∧ (0 ≤ z → n ≤ 1048576 ∧ ∀ r ∈ rs, r.n ≤ 1048576 ∧ r.n' ≤ 1048576) ∧ Below w.heap.size w w' := by
  have hm := h.le
  have hl := h.len
  by_cases e1 : left - (n : Int) < 0
  · clear h hl
    go_enter Try.func28, Try.ntmps28
    go_wp2_with fail
    go_ret
    exact ⟨-1, rfl, by omega, by omega, Below.refl _ _⟩
  have HH := Lib.hid h
  have HL := Lib.hid hl
  have HN := Lib.hid (show n ≤ 1048576 by omega)
  clear h hl
  go_enter Try.func28, Try.ntmps28
  go_wp2_with fail
  go_loopw [1, 5] (fun l i wr => ∃ (k : Nat) (z : Int), k ≤ n ∧ i = .int .i64 k ∧ l = .int .i64 z ∧ 0 ≤ z ∧ z ≤ left ∧ Hid (∀ r ∈ rs.take k, r.n ≤ 1048576 ∧ r.n' ≤ 1048576) ∧ Below w.heap.size w wr) (fun _ i _ => n - (intOf i).toNat)
  case atStart => exact ⟨0, left - n, Nat.zero_le _, rfl, rfl, by omega, by omega, Lib.hid (by simp), Below.refl _ _⟩
  case round =>
    obtain ⟨k, z, hk, rfl, rfl, z0, z1, hq, hb⟩ := hrel
    by_cases hlt : k < n
    · obtain ⟨r, hr⟩ := someR (l := rs) (k := k) (by rw [HL.out]; exact hlt)
      obtain ⟨b, off, hA, hbB, x0, x1, x2, x3, x4, x5⟩ := HH.out.row hb hr
      subst hA
      have y1 := (HH.out.good hr).1.le
      have y2 := (HH.out.good hr).2.le
      have HB := Lib.hid hb
      have HR := Lib.hid hr
      have i0 : (0 : Int) ≤ (k : Int) := by omega
      have i1 : (k : Int) < (n : Int) := by omega
      clear hr hb
      go_wp2_with fail
      refine (szResult_any _ _ _ _ _ _ _ _ _ _ z _ y1 y2 z0 (by omega)).mono ?_
      rintro e w1 ⟨rfl, q1⟩
      have hb2 := HB.out.trans (q1.mono HB.out.size)
      by_cases e2 : szR z r.n r.n' < 0
      · obtain ⟨a, ha⟩ : ∃ a, szR z r.n r.n' = a := ⟨_, rfl⟩
        rw [ha] at e2 ⊢
        clear ha
        go_wp2_with fail
        go_ret
        exact ⟨-1, rfl, by omega, by omega, hb2⟩
      obtain ⟨s1, s2⟩ := szR_ok (left := z) (n := r.n) (n' := r.n') (by omega)
      obtain ⟨a, ha⟩ : ∃ a, szR z r.n r.n' = a := ⟨_, rfl⟩
      rw [ha] at e2 s2 ⊢
      have i2 : 0 ≤ a := by omega
      have HS : Hid (r.n ≤ 1048576 ∧ r.n' ≤ 1048576) := Lib.hid (by omega)
      clear ha s1
      go_wp2_with fail
      go_roundw
      case rel => exact ⟨k + 1, a, by omega, by go_num, rfl, by omega, by omega, Lib.hid (by
        intro q hq'
        rw [List.take_add_one, HR.out] at hq'
        rcases List.mem_append.1 hq' with h | h
        · exact hq.out q h
        · simp at h; subst h; exact HS.out), hb2⟩
      case measure => simp [intOf]; omega
    · have hkn : k = n := by omega
      have HK := Lib.hid hkn
      clear hkn
      go_wp2_with fail
      go_ret
      exact ⟨z, rfl, z1, fun _ => ⟨HN.out, fun q hq' => hq.out q (by rw [HK.out, List.take_of_length_le (by rw [HL.out]; exact Nat.le_refl _)]; exact hq')⟩, hb⟩
theorem infoResult : (Try.prog.info? 124).map (fun i => (i.zero, i.size, i.bytes)) = some (some (.agg #[.int .i64 0, .int .i64 0, .bool false, .slice none 0 0, .slice none 0 0, .int .i64 0]), 6, 80) := by kernel_rfl
/-- 'make([]Result, n)'. -/
theorem run_makeResult (n : Nat) (hn : n ≤ 4294967296) (w : World) : (Instr.makeSlice 42 (.int .i64 (n : Int)) (.int .i64 (n : Int))).run Try.prog w = .ok (.slice (some ⟨w.heap.size, 0, none⟩) n n) (w.alloc (.cells (madeCells #[.int .i64 0, .int .i64 0, .bool false, .slice none 0 0, .slice none 0 0, .int .i64 0] (n * 6)) 124)) := by
  obtain ⟨i, hi, hzz⟩ := Option.map_eq_some_iff.1 infoResult
  simp only [Prod.mk.injEq] at hzz
  obtain ⟨hz, hs, hb⟩ := hzz
  have hr := run_make (P := Try.prog) w 42 124 i _ Try.underlying42 hi hz .i64 .i64 n n (by omega) (Int.le_refl _) (by rw [hb]; omega) (by omega)
  simp only [Int.toNat_natCast, hs] at hr
  exact hr
theorem madeResult (n : Nat) : (madeCells #[.int .i64 0, .int .i64 0, .bool false, .slice none 0 0, .slice none 0 0, .int .i64 0] (n * 6)).toList = flatR (List.replicate n Rs.zero) := by
  apply List.ext_getElem?
  intro i
  by_cases hi : i < n * 6
  · have e := flatR_at (List.replicate n Rs.zero) (i / 6) (i % 6) (Nat.mod_lt _ (by omega))
    rw [show i / 6 * 6 + i % 6 = i by omega, List.getElem?_replicate, if_pos (by omega)] at e
    rw [e, List.getElem?_eq_getElem (by simp [size_madeCells]; exact hi)]
    simp [madeCells, Rs.zero, Rs.cells]
    have : i % 6 < 6 := Nat.mod_lt _ (by omega)
    rcases (by omega : i % 6 = 0 ∨ i % 6 = 1 ∨ i % 6 = 2 ∨ i % 6 = 3 ∨ i % 6 = 4 ∨ i % 6 = 5) with h | h | h | h | h | h <;> simp [h]
  · rw [List.getElem?_eq_none (by simp [size_madeCells]; omega), List.getElem?_eq_none (by rw [flatR_len]; simp; omega)]
theorem outNewResult (w : World) (n : Nat) : OutAt (w.alloc (.cells (madeCells #[.int .i64 0, .int .i64 0, .bool false, .slice none 0 0, .slice none 0 0, .int .i64 0] (n * 6)) 124)) w.heap.size (flatR (List.replicate n Rs.zero)) := by
  have := OutAt.box w (flatR (List.replicate n Rs.zero)) 124 w.heap.size rfl
  rw [← madeResult] at this ⊢
  simpa using this
theorem flatR_set (l m : List Rs) (r : Rs) (k : Nat) (hk : l.length = k) : ((((((flatR l ++ flatR (Rs.zero :: m)).set (k * 6) (.int .i64 r.mv)).set (k * 6 + 1) (.int .i64 r.ga)).set (k * 6 + 2) (.bool r.ag)).set (k * 6 + 3) (.slice r.A r.n r.u)).set (k * 6 + 4) (.slice r.A' r.n' r.u')).set (k * 6 + 5) (.int .i64 r.pl) = flatR (l ++ [r]) ++ flatR m := by
  subst hk
  have e := flatR_len l
  have e2 : ∀ (c : List Value) (i : Nat) (v : Value), (flatR l ++ c).set (l.length * 6 + i) v = flatR l ++ c.set i v := fun c i v => by rw [List.set_append_right _ _ (by omega), e]; congr 2; omega
  have e3 := e2 (flatR (Rs.zero :: m)) 0
  rw [Nat.add_zero] at e3
  rw [e3, e2, e2, e2, e2, e2, flatR_app, List.append_assoc]
  rfl
theorem OutAt.setAt {w : World} {b : Nat} {cs : List Value} (h : OutAt w b cs) (i : Nat) (u : Value) (hi : i < cs.length) : OutAt (w.setCell ⟨b, i, none⟩ u) b (cs.set i u) := h.set i u hi
theorem OutAt.six {w : World} {g : Nat} {l m : List Rs} (h : OutAt w g (flatR l ++ flatR (Rs.zero :: m))) {k : Nat} (hk : l.length = k) (r : Rs) :
    OutAt ((((((w.setCell ⟨g, k * 6, none⟩ (.int .i64 r.mv)).setCell ⟨g, k * 6 + 1, none⟩ (.int .i64 r.ga)).setCell ⟨g, k * 6 + 2, none⟩ (.bool r.ag)).setCell ⟨g, k * 6 + 3, none⟩ (.slice r.A r.n r.u)).setCell ⟨g, k * 6 + 4, none⟩ (.slice r.A' r.n' r.u')).setCell ⟨g, k * 6 + 5, none⟩ (.int .i64 r.pl)) g (flatR (l ++ [r]) ++ flatR m) := by
  rw [← flatR_set l m r k hk]
  have e : (flatR l ++ flatR (Rs.zero :: m)).length = k * 6 + (m.length + 1) * 6 := by rw [List.length_append, flatR_len, flatR_len, hk, List.length_cons]
  exact ((((((h.set (k * 6) _ (by omega)).set (k * 6 + 1) _ (by rw [List.length_set]; omega)).set (k * 6 + 2) _ (by rw [List.length_set, List.length_set]; omega)).set (k * 6 + 3) _ (by simp only [List.length_set]; omega)).set (k * 6 + 4) _ (by simp only [List.length_set]; omega)).set (k * 6 + 5) _ (by simp only [List.length_set]; omega))
theorem OutAt.zeroAt {w : World} {g : Nat} {l m : List Rs} (h : OutAt w g (flatR l ++ flatR (Rs.zero :: m))) {k : Nat} (hk : l.length = k) (i : Nat) {v : Value} (hv : Rs.zero.cells[i]? = some v) : w.cell? ⟨g, k * 6 + i, none⟩ = some v := by
  refine h.1.at_ _ ?_
  rw [← flatR_app]
  exact flatR_get (r := Rs.zero) (by subst hk; simp) i hv
/-- A list of results of the call's own. -/
def RetRss (w : World) (n : Nat) (rs : List Rs) (e : Ending) (w' : World) : Prop :=
  ∃ X x rs2, e = .returned (.slice X n x) ∧ Rss w' w'.heap.size X n x rs2 ∧ rs2.map Rs.val = rs.map Rs.val ∧ Below w.heap.size w w'
def Rs.own (r : Rs) (w : World) (base : Nat) : Prop := Own w base r.A r.n r.u r.xs ∧ Own w base r.A' r.n' r.u' r.xs'
theorem Rs.own.set {r : Rs} {w : World} {base : Nat} (h : r.own w base) {p : Addr} (hp : p.block < base) (u : Value) : r.own (w.setCell p u) base := ⟨h.1.setBelow hp u, h.2.setBelow hp u⟩
theorem Rs.own.below {r : Rs} {w w' : World} {base : Nat} (h : r.own w base) (hb : Below w.heap.size w w') : r.own w' base := ⟨h.1.below hb (Nat.le_refl _), h.2.below hb (Nat.le_refl _)⟩
set_option maxRecDepth 100000 in
set_option maxHeartbeats 4000000 in
theorem toResultS_any (A : Option Addr) (n c : Nat) (rs : List Rs) (w : World) (h : Rss w w.heap.size A n c rs) (hn : n ≤ 4294967296) (hg : ∀ r ∈ rs, r.n ≤ 4294967296 ∧ r.n' ≤ 4294967296) :
    Calls Try.prog 30 #[.slice A n c] w (RetRss w n rs) := by
  have hmk := run_makeResult n hn
  have HL := Lib.hid h.len
  have H0 := Lib.hid (outNewResult w n)
  have HH := Lib.hid h
  have HG := Lib.hid hg
  have HN := Lib.hid hn
  clear h hg
  go_enter Try.func30, Try.ntmps30
  go_wp2
  go_loopw [4] (fun i wr => ∃ (k : Nat) (rs2 : List Rs), k ≤ n ∧ i = .int .i64 k ∧ rs2.length = k ∧ Hid (rs2.map Rs.val = (rs.take k).map Rs.val) ∧ (∀ r ∈ rs2, r.own wr (w.heap.size + 1)) ∧ OutAt wr w.heap.size (flatR rs2 ++ flatR (List.replicate (n - k) Rs.zero)) ∧ Below w.heap.size w wr ∧ w.heap.size + 1 ≤ wr.heap.size) (fun i _ => n - (intOf i).toNat)
  case atStart => exact ⟨0, [], Nat.zero_le _, rfl, rfl, Lib.hid rfl, (fun r hr => by cases hr), by simpa [flatR] using H0.out, (by repeat (first | with_reducible exact Below.refl _ _ | with_reducible assumption | with_reducible refine sub_alloc ?_ _ | (with_reducible refine sub_setCell2 ?_ ?_ _; (focus (first | (simp; done) | (simp <;> omega)))) | with_reducible refine sub_drew ?_ | with_reducible refine below_drewN ?_ _ | with_reducible refine sub_step (by assumption) ?_ (by first | rfl | (simp; done)) | exact Below.refl _ _ | assumption | refine sub_alloc ?_ _ | refine sub_setCell ?_ (by simp <;> omega) _ | refine sub_drew ?_ | refine below_drewN ?_ _ | refine sub_step (by assumption) ?_ (by first | rfl | (simp; done)))), by simp⟩
  case round =>
    clear hmk
    obtain ⟨k, rs2, hk, rfl, hlen, hv, hown, hout, hb, hs⟩ := hrel
    by_cases hlt : k < n
    · obtain ⟨r, hr⟩ := someR (l := rs) (k := k) (by rw [HL.out]; exact hlt)
      obtain ⟨b, off, hA, hbB, x0, x1, x2, x3, x4, x5⟩ := HH.out.row hb hr
      subst hA
      have y1 := (HH.out.good hr).1.sub hb
      have y2 := (HH.out.good hr).2.sub hb
      obtain ⟨n1, n2⟩ := HG.out r (List.mem_of_getElem? hr)
      have HR := Lib.hid hr
      have HB := Lib.hid hb
      have HO := Lib.hid hout
      have HW := Lib.hid hown
      have HE := Lib.hid hlen
      have HS := Lib.hid hs
      have Y1 := Lib.hid y1
      have Y2 := Lib.hid y2
      have i0 : (0 : Int) ≤ (k : Int) := by omega
      have i1 : (k : Int) < (n : Int) := by omega
      clear hr hb hout hown hlen hs y1 y2
      go_wp2_with fail
      refine (toResult_any r.mv r.ga r.ag r.A r.n r.u r.A' r.n' r.u' r.pl r.xs r.xs' _ (by exact Y1.out) (by exact Y2.out) n1 n2).mono ?_
      rintro e w1 ⟨X, x, X', x', rfl, o1, o2, hb1⟩
      have p1 : Own w1 (w.heap.size + 1) X r.n x r.xs := o1.lower HS.out
      have p2 : Own w1 (w.heap.size + 1) X' r.n' x' r.xs' := o2.lower HS.out
      have ho : OutAt w1 w.heap.size (flatR rs2 ++ flatR (Rs.zero :: List.replicate (n - (k + 1)) Rs.zero)) := by
        have e := HO.out
        rw [show n - k = n - (k + 1) + 1 by omega, List.replicate_succ] at e
        exact e.sub hb1
      have u0 := ho.zeroAt HE.out 0 rfl
      have u1 := ho.zeroAt HE.out 1 rfl
      have u2 := ho.zeroAt HE.out 2 rfl
      have u3 := ho.zeroAt HE.out 3 rfl
      have u4 := ho.zeroAt HE.out 4 rfl
      have u5 := ho.zeroAt HE.out 5 rfl
      rw [Nat.add_zero] at u0
      have f0 := ho.2 (k * 6)
      have f1 := ho.2 (k * 6 + 1)
      have f2 := ho.2 (k * 6 + 2)
      have f3 := ho.2 (k * 6 + 3)
      have f4 := ho.2 (k * 6 + 4)
      have f5 := ho.2 (k * 6 + 5)
      have hb2 := HB.out.trans (hb1.mono HB.out.size)
      have HO2 := Lib.hid ho
      have HS2 := Lib.hid (show w.heap.size + 1 ≤ w1.heap.size from Nat.le_trans HS.out hb1.size)
      have P1 := Lib.hid p1
      have P2 := Lib.hid p2
      have B2 := Lib.hid hb2
      have B1 := Lib.hid hb1
      clear ho o1 o2 p1 p2 hb1 hb2
      go_wp2_with fail
      go_roundw
      case rel =>
        refine ⟨k + 1, rs2 ++ [⟨r.mv, r.ga, r.ag, X, r.n, x, X', r.n', x', r.pl, r.xs, r.xs'⟩], by omega, by go_num, by simp [HE.out], Lib.hid ?_, ?_, ?_, ?_, ?_⟩
        · rw [List.take_add_one, HR.out, List.map_append, List.map_append, hv.out]
          rfl
        · have lt : w.heap.size < w.heap.size + 1 := Nat.lt_succ_self _
          intro q hq
          refine (((((Rs.own.set ?_ lt _).set lt _).set lt _).set lt _).set lt _).set lt _
          rcases List.mem_append.1 hq with h | h
          · exact (HW.out q h).below B1.out
          · simp at h
            subst h
            exact ⟨P1.out, P2.out⟩
        · exact HO2.out.six HE.out ⟨r.mv, r.ga, r.ag, X, r.n, x, X', r.n', x', r.pl, r.xs, r.xs'⟩
        · exact (((((B2.out.setCell (Nat.le_refl _) _).setCell (Nat.le_refl _) _).setCell (Nat.le_refl _) _).setCell (Nat.le_refl _) _).setCell (Nat.le_refl _) _).setCell (Nat.le_refl _) _
        · simpa using HS2.out
      case measure => simp [intOf]; omega
    · have hkn : k = n := by omega
      have HK := Lib.hid hkn
      have HB := Lib.hid hb
      have HO := Lib.hid hout
      have HW := Lib.hid hown
      have HE := Lib.hid hlen
      have HS := Lib.hid hs
      clear hkn hb hout hown hlen hs
      go_wp2_with fail
      go_ret
      have e := HK.out
      subst e
      have ho := HO.out
      rw [Nat.sub_self, List.replicate_zero, flatR, List.append_nil] at ho
      refine ⟨_, _, rs2, rfl, ⟨HE.out, Nat.le_refl _, by have := HN.out; omega, fun _ => ⟨w.heap.size, 0, rfl, ho.1.1, fun j q hq i v hv => ?_⟩, fun q hq => ⟨(HW.out q hq).1.ints, (HW.out q hq).2.ints⟩⟩, ?_, HB.out⟩
      · rw [Nat.zero_add]
        exact ho.1.at_ _ (flatR_get hq i hv)
      · rw [hv.out, List.take_of_length_le (by rw [HL.out]; exact Nat.le_refl _)]
end Go.Proofs.Ytnanaldolnehiaa
