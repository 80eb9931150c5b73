/-
  A slice of results that came in, opened; the law FnExactSameResults, walked.
-/
import Derived.Test.YtnanaldolnehiaaGameOpen
import Derived.Test.YtnanaldolnehiaaRes4
set_option linter.unusedSimpArgs false
set_option linter.unusedVariables false
namespace Go.Proofs.Ytnanaldolnehiaa
open Go.ChangeShapes Go.WideShapes Go.RowKit Go.Deep

instance : Inhabited Rs := ⟨Rs.zero⟩
theorem list6 {α : Type} (l : List α) (h : l.length = 6) : ∃ a b c d e f, l = [a, b, c, d, e, f] := by
  match l, h with
  | [a, b, c, d, e, f], _ => exact ⟨a, b, c, d, e, f, rfl⟩
section
variable {H : Type} {enc : TypeId × Value → H} {w : World} {base : Nat} {spare : Nat → Bool} {held : Bool} {r : Reach} {B00 : Nat} {v : Value} {dd : DataW H} {pp : List MemPlace}
set_option maxRecDepth 100000 in
theorem open_result {fuel : Nat} {cs : List Value} {x : DataW H × List MemPlace} (hlen : cs.length = 6) (h : DataW.trod enc Try.prog w base spare held fuel 122 cs = some x) : ∃ r : Rs, cs = r.cells ∧ r.good w w.heap.size := by
  obtain ⟨c0, c1, c2, c3, c4, c5, rfl⟩ := list6 cs hlen
  obtain ⟨_, _, g0⟩ := sub_agg Try.underlying122 h 0 _ rfl
  replace g0 : DataW.trod enc Try.prog w base spare held _ 2 ((([c0, c1, c2, c3, c4, c5] : List Value).drop 0).take (Try.prog.cellsOf 2)) = some _ := g0
  rw [show Try.prog.cellsOf 2 = 1 by kernel_rfl] at g0
  replace g0 : DataW.trod enc Try.prog w base spare held _ 2 [c0] = some _ := g0
  obtain ⟨_, _, g1⟩ := sub_agg Try.underlying122 h 1 _ rfl
  replace g1 : DataW.trod enc Try.prog w base spare held _ 2 ((([c0, c1, c2, c3, c4, c5] : List Value).drop 1).take (Try.prog.cellsOf 2)) = some _ := g1
  rw [show Try.prog.cellsOf 2 = 1 by kernel_rfl] at g1
  replace g1 : DataW.trod enc Try.prog w base spare held _ 2 [c1] = some _ := g1
  obtain ⟨_, _, g2⟩ := sub_agg Try.underlying122 h 2 _ rfl
  replace g2 : DataW.trod enc Try.prog w base spare held _ 4 ((([c0, c1, c2, c3, c4, c5] : List Value).drop 2).take (Try.prog.cellsOf 4)) = some _ := g2
  rw [show Try.prog.cellsOf 4 = 1 by kernel_rfl] at g2
  replace g2 : DataW.trod enc Try.prog w base spare held _ 4 [c2] = some _ := g2
  obtain ⟨_, _, g3⟩ := sub_agg Try.underlying122 h 3 _ rfl
  replace g3 : DataW.trod enc Try.prog w base spare held _ 26 ((([c0, c1, c2, c3, c4, c5] : List Value).drop 3).take (Try.prog.cellsOf 26)) = some _ := g3
  rw [show Try.prog.cellsOf 26 = 3 by kernel_rfl] at g3
  replace g3 : DataW.trod enc Try.prog w base spare held _ 26 [c3, c4, c5] = some _ := g3
  obtain ⟨_, _, t3⟩ := sub_agg1 Try.underlying26 (by kernel_rfl) g3 0 _ rfl (by simp)
  obtain ⟨_, _, t4⟩ := sub_agg1 Try.underlying26 (by kernel_rfl) g3 1 _ rfl (by simp)
  obtain ⟨_, _, t5⟩ := sub_agg1 Try.underlying26 (by kernel_rfl) g3 2 _ rfl (by simp)
  obtain ⟨x0, e0, _, _⟩ := DataW.trod_int Try.underlying2 g0
  obtain ⟨x1, e1, _, _⟩ := DataW.trod_int Try.underlying2 g1
  obtain ⟨x5, e5, _, _⟩ := DataW.trod_int Try.underlying2 t5
  obtain ⟨x2, e2, _⟩ := DataW.trod_bool Try.underlying4 g2
  obtain ⟨A3, n3, u3, zs3, e3, i3, _⟩ := open_ints64 Try.underlying24 Try.underlying2 (by kernel_rfl) t3
  obtain ⟨A4, n4, u4, zs4, e4, i4, _⟩ := open_ints64 Try.underlying24 Try.underlying2 (by kernel_rfl) t4
  simp at e0 e1 e2 e3 e4 e5
  subst e0 e1 e2 e3 e4 e5
  exact ⟨⟨x0, x1, x2, A3, n3, u3, A4, n4, u4, x5, zs3, zs4⟩, rfl, i3, i4⟩
set_option maxRecDepth 100000 in
theorem open_results (hv : Value.okWide Try.prog w r B00 39 v) (h : DataW.Trod enc Try.prog w base spare held 39 v dd pp) :
    ∃ A n c rs, v = .slice A n c ∧ Rss w w.heap.size A n c rs := by
  obtain ⟨a0, len0, cap0, rfl⟩ := okWide_slice Try.underlying39 hv
  obtain ⟨fuel, hf⟩ := h
  have hK : Try.prog.cellsOf 122 = 6 := by kernel_rfl
  rcases open_slice Try.underlying39 hf with ⟨hcs, _⟩ | ⟨a, len, cap, m, nn, D, Pl, hcs, hb, hl, hm, hmm, _, hx⟩
  · injection hcs with e _
    injection e with ea el ec
    subst ea el ec
    exact ⟨none, 0, 0, [], rfl, rfl, Nat.le_refl _, by omega, fun h => by omega, fun r hr => by cases hr⟩
  · injection hcs with e _
    injection e with ea el ec
    subst ea el ec
    unfold maxLen at hm
    have hlm : len0 ≤ m := by rw [hmm]; split <;> omega
    have hrow : ∀ i, i < len0 → ∃ r : Rs, (∀ j v, r.cells[j]? = some v → w.cell? (a.add (i * 6 + j)) = some v) ∧ r.good w w.heap.size := by
      intro i hi
      obtain ⟨cs', h1, h2⟩ := hx i (by omega)
      obtain ⟨_, hlen, hc⟩ := World.cells?_some h1
      obtain ⟨r, e, hg⟩ := open_result (hlen.trans hK) h2
      refine ⟨r, fun j v hj => ?_, hg⟩
      have hj6 : j < 6 := (List.getElem?_eq_some_iff.1 hj).1
      have h4 := hc j (by rw [hK]; exact hj6)
      rw [hK] at h4
      have e2 : (a.add (i * 6)).add j = a.add (i * 6 + j) := by by_cases q1 : i * 6 = 0 <;> by_cases q2 : j = 0 <;> simp [Addr.add, q1, q2, Nat.add_assoc]
      rw [← e2, h4, e]
      exact hj
    obtain ⟨R, hR⟩ := choose_lt (α := Rs) hrow
    have hget : ∀ k r, ((List.range len0).map R)[k]? = some r → k < len0 ∧ R k = r := by
      intro k r hk
      have hk0 : k < len0 := by have := (List.getElem?_eq_some_iff.1 hk).1; simpa using this
      rw [List.getElem?_map, List.getElem?_range hk0] at hk
      exact ⟨hk0, by simpa using hk⟩
    refine ⟨some a, len0, cap0, (List.range len0).map R, rfl, by simp, hl, by omega, fun hn => ?_, fun r hr => ?_⟩
    · obtain ⟨b, off, spot⟩ := a
      have h0 := (hR 0 hn).1 0 _ rfl
      have hspot : spot = none := by simpa [Addr.add] using World.cell?_spot h0
      subst hspot
      have hb : b < w.heap.size := by
        have := lt_of_cell h0
        simpa [Addr.add] using this
      refine ⟨b, off, rfl, hb, fun k r hk i v hv => ?_⟩
      obtain ⟨hk0, rfl⟩ := hget k r hk
      have h5 := (hR k hk0).1 i v hv
      rwa [add_plain] at h5
    · obtain ⟨k, hk, rfl⟩ := List.mem_map.1 hr
      exact (hR k (by simpa using hk)).2
end
set_option maxRecDepth 100000 in
set_option maxHeartbeats 4000000 in
theorem FnExactSameResults_walk (A : Option Addr) (n c : Nat) (rs : List Rs) (A' : Option Addr) (n' c' : Nat) (ss : List Rs) (w : World) (h : Rss w w.heap.size A n c rs) (h' : Rss w w.heap.size A' n' c' ss) :
    Calls Try.prog 5 #[.slice A n c, .slice A' n' c'] w fun e w' => e = .returned (.bool true) ∧ Below w.heap.size w w' := by
  have H := Lib.hid h
  have H' := Lib.hid h'
  clear h h'
  go_enter Try.func5, Try.ntmps5
  go_wp2_with fail
  refine (szResultS_any A n c rs 1048576 w (by exact H.out) (by omega) (by omega)).mono ?_
  rintro e w1 ⟨z, rfl, z1, hz, c1⟩
  by_cases e1 : z < 0
  · clear hz
    go_wp2_with fail
    go_ret
    exact ⟨rfl, c1⟩
  have HZ := Lib.hid (hz (by omega))
  have i1 : 0 ≤ z := by omega
  clear hz
  go_wp2_with fail
  refine (szResultS_any A' n' c' ss z _ (by exact H'.out.sub c1) (by omega) (by omega)).mono ?_
  rintro e w2 ⟨z2, rfl, z3, hz, c2⟩
  replace c2 := c1.trans (c2.mono c1.size)
  by_cases e2 : z2 < 0
  · clear hz
    go_wp2_with fail
    go_ret
    exact ⟨rfl, c2⟩
  have HZ' := Lib.hid (hz (by omega))
  have i2 : 0 ≤ z2 := by omega
  clear hz c1
  go_wp2_with fail
  refine (toResultS_any A n c rs _ (by exact H.out.sub c2) (by have := HZ.out.1; omega) (fun r hr => by have := HZ.out.2 r hr; omega)).mono ?_
  rintro e w3 ⟨X1, x1, r1, rfl, o, v, b⟩
  have O1 := Lib.hid o
  have V1 := Lib.hid v
  have c3 := c2.trans (b.mono c2.size)
  clear o v b c2
  go_wp2_with fail
  refine (toResultS_any A' n' c' ss _ (by exact H'.out.sub c3) (by have := HZ'.out.1; omega) (fun r hr => by have := HZ'.out.2 r hr; omega)).mono ?_
  rintro e w4 ⟨X2, x2, r2, rfl, o, v, b⟩
  have O2 := Lib.hid o
  have V2 := Lib.hid v
  have c4 := c3.trans (b.mono c3.size)
  have O1 := Lib.hid (O1.out.sub b)
  clear o v b c3
  go_wp2_with fail
  refine (specSameResults_any X1 X2 n n' x1 x2 r1 r2 _ (by exact O1.out) (by exact O2.out)).mono ?_
  rintro e w5 ⟨rfl, m5, rfl⟩
  have c5 : Below w.heap.size w (w4.drewN m5) := below_drewN c4 m5
  rw [V1.out, V2.out]
  generalize hq : decide (rs.map Rs.val = ss.map Rs.val) = q
  have HQ := Lib.hid hq
  clear hq O1 O2 V1 V2 c4
  go_wp2_with fail
  refine (toResultS_any A n c rs _ (by exact H.out.sub c5) (by have := HZ.out.1; omega) (fun r hr => by have := HZ.out.2 r hr; omega)).mono ?_
  rintro e w6 ⟨X4, x4, r4, rfl, o, v, b⟩
  have O4 := Lib.hid o
  have V4 := Lib.hid v
  have c6 := c5.trans (b.mono c5.size)
  clear o v b c5
  go_wp2_with fail
  refine (toResultS_any A' n' c' ss _ (by exact H'.out.sub c6) (by have := HZ'.out.1; omega) (fun r hr => by have := HZ'.out.2 r hr; omega)).mono ?_
  rintro e w7 ⟨X5, x5, r5, rfl, o, v, b⟩
  have O5 := Lib.hid o
  have V5 := Lib.hid v
  have c7 := c6.trans (b.mono c6.size)
  have O4 := Lib.hid (O4.out.sub b)
  clear o v b c6
  go_wp2_with fail
  refine (implSameResults_any X4 X5 n n' x4 x5 r4 r5 _ (by exact O4.out) (by exact O5.out)).mono ?_
  rintro e w8 ⟨rfl, b⟩
  have c8 := c7.trans (b.mono c7.size)
  have O4 := Lib.hid (O4.out.sub b)
  have O5 := Lib.hid (O5.out.sub b)
  rw [V4.out, V5.out, HQ.out]
  clear b c7
  go_wp2_with fail
  refine (toResultS_any A n c rs _ (by exact H.out.sub c8) (by have := HZ.out.1; omega) (fun r hr => by have := HZ.out.2 r hr; omega)).mono ?_
  rintro e w9 ⟨X7, x7, r7, rfl, o, v, b⟩
  have O7 := Lib.hid o
  have V7 := Lib.hid v
  have c9 := c8.trans (b.mono c8.size)
  have O4 := Lib.hid (O4.out.sub b)
  have O5 := Lib.hid (O5.out.sub b)
  clear o v b c8
  go_wp2_with fail
  refine (eqResultS_same X4 X7 n n x4 x7 r4 r7 _ (by exact O4.out) (by exact O7.out) (by rw [V4.out, V7.out])).mono ?_
  rintro e w10 ⟨rfl, b⟩
  have c10 := c9.trans (b.mono c9.size)
  have O5 := Lib.hid (O5.out.sub b)
  clear b c9 O4 O7 V4 V7
  go_wp2_with fail
  refine (toResultS_any A' n' c' ss _ (by exact H'.out.sub c10) (by have := HZ'.out.1; omega) (fun r hr => by have := HZ'.out.2 r hr; omega)).mono ?_
  rintro e w11 ⟨X9, x9, r9, rfl, o, v, b⟩
  have O9 := Lib.hid o
  have V9 := Lib.hid v
  have c11 := c10.trans (b.mono c10.size)
  have O5 := Lib.hid (O5.out.sub b)
  clear o v b c10
  go_wp2_with fail
  refine (eqResultS_same X5 X9 n' n' x5 x9 r5 r9 _ (by exact O5.out) (by exact O9.out) (by rw [V5.out, V9.out])).mono ?_
  rintro e w12 ⟨rfl, b⟩
  have c12 := c11.trans (b.mono c11.size)
  clear b c11
  go_wp2_with fail
  go_ret
  exact ⟨rfl, c12⟩
end Go.Proofs.Ytnanaldolnehiaa
