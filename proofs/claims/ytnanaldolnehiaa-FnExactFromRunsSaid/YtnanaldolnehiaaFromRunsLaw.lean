/-
  A slice of runs that came in, opened as a flat list; the law FnExactFromRuns, walked.
-/
import Derived.Test.YtnanaldolnehiaaArgs
import Derived.Test.YtnanaldolnehiaaFromRuns
import Derived.Test.YtnanaldolnehiaaRunsOfLaw
set_option linter.unusedSimpArgs false
set_option linter.unusedVariables false
namespace Go.Proofs.Ytnanaldolnehiaa
open Go.ChangeShapes Go.WideShapes Go.RowKit Go.Deep

theorem open_flat {H : Type} {enc : TypeId × Value → H} {P : Program} {w : World} {base : Nat} {spare : Nat → Bool} {held : Bool} {t e : TypeId} {K fuel : Nat} {fs : Array Field} {v : Value} {x : DataW H × List MemPlace} (hKp : 0 < K) (ht : P.underlying t = some (.slice e)) (he : P.underlying e = some (.struct fs))
    (hK : P.cellsOf e = K) (hfs : fs.size = K) (hone : oneCellFields P fs = true) (hint : ∀ (i : Nat) (f : Field), fs[i]? = some f → P.underlying f.type = some (.int .i64))
    (h : DataW.trod enc P w base spare held fuel t [v] = some x) : ∃ A n c zs, v = .slice A n c ∧ Flat K w w.heap.size A n c zs ∧ ∀ z ∈ zs, in64 z := by
  rcases open_slice ht h with ⟨hcs, _⟩ | ⟨a, len, cap, m, nn, D, Pl, hcs, hb, hl, hm, hmm, _, hx⟩
  · simp at hcs
    exact ⟨none, 0, 0, [], hcs, Flat.nil _ _, fun z hz => by cases hz⟩
  · simp at hcs
    unfold maxLen at hm
    have hlm : len ≤ m := by rw [hmm]; split <;> omega
    have hrow : ∀ i, i < len → ∃ R : Nat → Int, ∀ r, r < K → w.cell? (a.add (i * K + r)) = some (.int .i64 (R r)) ∧ in64 (R r) := by
      intro i hi
      obtain ⟨cs', h1, h2⟩ := hx i (by omega)
      obtain ⟨_, hlen, hc⟩ := World.cells?_some h1
      obtain ⟨xs, n1, _, _, _, hxl, hg⟩ := DataW.trod_struct he h2
      refine choose_lt (α := Int) (p := fun r z => w.cell? (a.add (i * K + r)) = some (.int .i64 z) ∧ in64 z) fun r hr => ?_
      have hrf : r < fs.size := by omega
      have hfr : fs[r]? = some fs[r] := Array.getElem?_eq_getElem hrf
      obtain ⟨ho, hk⟩ := hone_of hone r _ hfr
      have h3 := hg r _ hfr
      rw [ho, hk, take1_drop cs' r undef (by omega), List.getElem?_eq_getElem (show r < xs.length by omega)] at h3
      obtain ⟨z, e1, _, b1⟩ := DataW.trod_int (hint r _ hfr) h3
      refine ⟨z, ?_, wf64 b1⟩
      have h4 := hc r (by omega)
      rw [hK] at h4
      have e2 : (a.add (i * K)).add r = a.add (i * K + r) := by by_cases q1 : i * K = 0 <;> by_cases q2 : r = 0 <;> simp [Addr.add, q1, q2, Nat.add_assoc]
      rw [← e2, h4, List.getElem?_eq_getElem (show r < cs'.length by omega)]
      have e3 : cs'.getD r undef = cs'[r]'(by omega) := by simp [List.getD, List.getElem?_eq_getElem (show r < cs'.length by omega)]
      simp only [List.cons.injEq, and_true] at e1
      rw [← e3, e1]
    obtain ⟨R, hR⟩ := choose_lt (α := Nat → Int) hrow
    have hdm : ∀ j, j < len * K → j / K < len ∧ j % K < K ∧ j / K * K + j % K = j := fun j hj => ⟨Nat.div_lt_of_lt_mul (by rwa [Nat.mul_comm]), Nat.mod_lt _ hKp, by rw [Nat.mul_comm]; exact Nat.div_add_mod j K⟩
    refine ⟨some a, len, cap, (List.range (len * K)).map (fun j => R (j / K) (j % K)), hcs, ⟨by simp, hl, by omega, (fun h => by cases h), fun hn => ?_⟩, fun z hz => ?_⟩
    · obtain ⟨b, off, spot⟩ := a
      have h0 := (hR 0 hn 0 hKp).1
      have hspot : spot = none := by simpa [Addr.add] using World.cell?_spot h0
      subst hspot
      have hb : b < w.heap.size := by
        have := lt_of_cell h0
        simpa [Addr.add] using this
      refine ⟨b, off, rfl, hb, fun j y hy => ?_⟩
      have hj : j < len * K := by have := (List.getElem?_eq_some_iff.1 hy).1; simpa using this
      obtain ⟨d1, d2, d3⟩ := hdm j hj
      have h5 := (hR (j / K) d1 (j % K) d2).1
      rw [d3, add_plain] at h5
      rw [h5]
      rw [List.getElem?_map, List.getElem?_range hj] at hy
      simpa using hy
    · obtain ⟨j, hj, rfl⟩ := List.mem_map.1 hz
      obtain ⟨d1, d2, d3⟩ := hdm j (by simpa using hj)
      exact (hR _ d1 _ d2).2
set_option maxRecDepth 100000 in
theorem open_runs {H : Type} {enc : TypeId × Value → H} {w : World} {base : Nat} {spare : Nat → Bool} {held : Bool} {r : Reach} {b0 : Nat} {v : Value} {d : DataW H} {p : List MemPlace} (hv : Value.okWide Try.prog w r b0 72 v) (h : DataW.Trod enc Try.prog w base spare held 72 v d p) :
    ∃ A n c zs, v = .slice A n c ∧ Flat 2 w w.heap.size A n c zs ∧ ∀ z ∈ zs, in64 z := by
  obtain ⟨a0, len0, cap0, rfl⟩ := okWide_slice Try.underlying72 hv
  obtain ⟨fuel, hf⟩ := h
  exact open_flat (by decide) Try.underlying72 Try.underlying144 (by kernel_rfl) (by rfl) (by kernel_rfl) (fun i f hi => by
    have hlt : i < 2 := (Array.getElem?_eq_some_iff.1 hi).1
    rcases (by omega : i = 0 ∨ i = 1) with rfl | rfl <;> (cases hi; exact Try.underlying2)) hf
theorem frL_len (rs : List (Int × Int)) : (frL rs).length ≤ 4000 := by
  unfold frL
  split
  · rename_i h; exact h.2
  · simp
set_option maxRecDepth 100000 in
set_option maxHeartbeats 4000000 in
theorem FnExactFromRuns_walk (A : Option Addr) (n c : Nat) (zs : List Int) (w : World) (h : Flat 2 w w.heap.size A n c zs ∧ ∀ z ∈ zs, in64 z) :
    Calls Try.prog 11 #[.slice A n c] w fun e w' => e = .returned (.bool true) ∧ Below w.heap.size w w' := by
  replace h := h.1
  have hm := h.le
  obtain ⟨rs, hrs, hrl⟩ := un_flR n zs h.len
  have H := Lib.hid h
  clear h
  by_cases e1 : (1048576 : Int) - (n : Int) < 0
  · have z1 : szF 1048576 n = -1 := by unfold szF; rw [if_pos e1]
    clear e1 hrl hrs
    go_enter Try.func11, Try.ntmps11
    go_wp2_with fail
    refine (szRunS_any A n c 1048576 w hm (by omega) (by omega)).mono ?_
    rintro e w' ⟨rfl, rfl⟩
    rw [z1]
    go_wp2_with fail
    go_ret
    exact ⟨rfl, Below.refl _ _⟩
  have z1 : szF 1048576 n = 1048576 - (n : Int) := by unfold szF; rw [if_neg e1]
  have e1' : 0 ≤ (1048576 : Int) - (n : Int) := by omega
  clear e1
  have hs' : n ≤ 1048576 := by omega
  have hs2 : n ≤ 4294967296 := by omega
  obtain ⟨L, hL⟩ : ∃ L, frL rs = L := ⟨_, rfl⟩
  obtain ⟨R, hR⟩ : ∃ R, frC rs = R := ⟨_, rfl⟩
  have hln := frL_len rs
  rw [hL] at hln
  have HL := Lib.hid hL
  have HR := Lib.hid hR
  have HZ := Lib.hid hrs
  have HN := Lib.hid hrl
  clear hL hR hrs hrl
  have SPEC : ∀ (B : Nat) (A : Option Addr) (c : Nat) (w : World) (h : Flat 2 w B A n c zs) (hB : B ≤ w.heap.size), Calls Try.prog 55 #[.slice A n c] w (RetFR w L R) := by
    intro B A c w h hB
    have e := HN.out
    have f := HZ.out
    subst e f
    have := specFromRuns_any B A c rs w h hs' hB
    rwa [HL.out, HR.out] at this
  have IMPL : ∀ (B : Nat) (A : Option Addr) (c : Nat) (w : World) (h : Flat 2 w B A n c zs) (hB : B ≤ w.heap.size), Calls Try.prog 57 #[.slice A n c] w (RetFR w L R) := by
    intro B A c w h hB
    have e := HN.out
    have f := HZ.out
    subst e f
    have := implFromRuns_any B A c rs w h hs' hB
    rwa [HL.out, HR.out] at this
  have SP := Lib.hid SPEC
  have IM := Lib.hid IMPL
  clear SPEC IMPL
  go_enter Try.func11, Try.ntmps11
  go_wp2_with fail
  refine (szRunS_any A n c 1048576 w hm (by omega) (by omega)).mono ?_
  rintro e w' ⟨rfl, rfl⟩
  rw [z1]
  go_wp2_with fail
  refine (toRunS_any w.heap.size A n c zs _ (by exact H.out) hs2 (by exact Nat.le_refl _)).mono ?_
  rintro e w1 ⟨A1, c1, rfl, o1, b1⟩
  have O1 := Lib.hid o1
  have B1 := Lib.hid b1
  clear o1 b1
  go_wp2_with fail
  refine (SP.out w1.heap.size A1 c1 _ (by exact O1.out.flat) (by exact Nat.le_refl _)).mono ?_
  rintro e w2 ⟨A2, c2, rfl, o2, b2⟩
  have O2 := Lib.hid o2
  have B2 := Lib.hid (sub_step b2 B1.out rfl)
  clear o2 b2 O1 B1
  go_wp2_with fail
  refine (toRunS_any w.heap.size A n c zs _ (by exact H.out.below B2.out) hs2 (by exact B2.out.size)).mono ?_
  rintro e w3 ⟨A3, c3, rfl, o3, b3⟩
  have O3 := Lib.hid o3
  have B3 := Lib.hid b3
  have S3 := b3.size
  clear o3 b3
  go_wp2_with fail
  refine (IM.out w3.heap.size A3 c3 _ (by exact O3.out.flat) (by exact Nat.le_refl _)).mono ?_
  rintro e w4 ⟨A4, c4, rfl, o4, b4⟩
  have O4 := Lib.hid o4
  have O34 := Lib.hid (O3.out.below b4 (Nat.le_refl _))
  have C4 := Lib.hid (B3.out.trans (b4.mono S3))
  have S4 := b4.size
  clear o4 b4
  have J2 := Lib.hid O2.out.ints
  go_wp2_with fail
  refine (eqInt64S_is _ _ _ _ _ _ _ _ L L true (decide_eq_true rfl) _ (by exact O4.out.ints) (by exact J2.out.sub C4.out)).mono ?_
  rintro e w5 ⟨rfl, m5, rfl⟩
  have O5 := Lib.hid (O4.out.drewN m5)
  have O35 := Lib.hid (O34.out.drewN m5)
  have C5 := Lib.hid (below_drewN C4.out m5)
  clear O34
  go_wp2_with fail
  refine (toRunS_any w.heap.size A n c zs _ (by exact H.out.below (B2.out.trans (C5.out.mono B2.out.size))) hs2 (by exact (B2.out.trans (C5.out.mono B2.out.size)).size)).mono ?_
  rintro e w6 ⟨A6, c6, rfl, o6, b6⟩
  have O6 := Lib.hid o6.flat
  have O46 := Lib.hid (O5.out.below b6 (Nat.le_refl _))
  have O36 := Lib.hid (O35.out.below b6 (Nat.le_refl _))
  have C6 := Lib.hid (C5.out.trans (b6.mono C5.out.size))
  have S6 := b6.size
  clear o6 b6 O5 O35
  go_wp2_with fail
  refine (eqRunS_any w6.heap.size w6.heap.size A3 A6 n n c3 c6 zs zs _ (by exact Nat.le_refl _) (by exact Nat.le_refl _) (by exact O36.out.flat) (by exact O6.out)).mono ?_
  rintro e w7 ⟨rfl, b7⟩
  rw [show decide (zs = zs) = true from decide_eq_true rfl]
  have O37 := Lib.hid (O36.out.below b7 (Nat.le_refl _))
  have O47 := Lib.hid (O46.out.below b7 (Nat.le_refl _))
  have C7 := Lib.hid (C6.out.trans (b7.mono C6.out.size))
  clear b7 O36 O46 O6
  go_wp2_with fail
  refine (markRunS_any w2.heap.size A3 n c3 zs 1 _ (by exact O37.out) (by omega) (by omega) (by omega)).mono ?_
  rintro e w8 ⟨rfl, o8, g8⟩
  have C8 : Hid (Below w2.heap.size w2 w8) := Lib.hid (Below.grown C7.out g8 (by exact C7.out.size) (fun g e => (run_block O37.out e).2.1))
  have O48 := Lib.hid (O47.out.kept g8 (fun g e => .inl (by have := (run_block O3.out e).2.2; omega)))
  clear o8 g8 O47 O37
  go_wp2_with fail
  refine (eqInt64S_is _ _ _ _ _ _ _ _ L L true (decide_eq_true rfl) _ (by exact O48.out.ints) (by exact J2.out.sub C8.out)).mono ?_
  rintro e w9 ⟨rfl, m9, rfl⟩
  have O49 := Lib.hid (O48.out.drewN m9)
  have C9 := Lib.hid (below_drewN C8.out m9)
  clear O48
  go_wp2_with fail
  refine (markInt64S_any w3.heap.size A4 L.length c4 L 1 _ (by exact O49.out) (by omega) (by omega) (by omega)).mono ?_
  rintro e w10 ⟨rfl, o10, g10⟩
  have C10 : Hid (Below w2.heap.size w2 w10) := Lib.hid (Below.grown C9.out g10 (by exact C9.out.size) (fun g e => by
    have := (own_block O49.out e).2.1; omega))
  have F10 := Lib.hid o10.ints
  clear o10 g10 O49 C9
  go_wp2_with fail
  refine (heldInt64S_any _ A4 L.length c4 1 _ (by exact F10.out) (by omega) (by omega) (by omega)).mono ?_
  rintro e w' ⟨rfl, rfl⟩
  go_wp2_with fail
  refine (toRunS_any w.heap.size A n c zs _ (by exact H.out.below (B2.out.trans (C10.out.mono B2.out.size))) hs2 (by exact (B2.out.trans (C10.out.mono B2.out.size)).size)).mono ?_
  rintro e w11 ⟨A11, c11, rfl, o11, b11⟩
  have O11 := Lib.hid o11
  have F11 := Lib.hid (F10.out.sub b11)
  have C11 := Lib.hid (C10.out.trans (b11.mono C10.out.size))
  clear o11 b11 F10
  go_wp2_with fail
  refine (IM.out w11.heap.size A11 c11 _ (by exact O11.out.flat) (by exact Nat.le_refl _)).mono ?_
  rintro e w12 ⟨A12, c12, rfl, o12, b12⟩
  have O12 := Lib.hid o12
  have F12 := Lib.hid (F11.out.sub b12)
  have C12 := Lib.hid (C11.out.trans (b12.mono C11.out.size))
  clear o12 b12 F11 O11
  go_wp2_with fail
  refine (eqInt64S_is _ _ _ _ _ _ _ _ L L true (decide_eq_true rfl) _ (by exact O12.out.ints) (by exact J2.out.sub C12.out)).mono ?_
  rintro e w13 ⟨rfl, m13, rfl⟩
  have F13 := Lib.hid (F12.out.drewN m13)
  have C13 := Lib.hid (below_drewN C12.out m13)
  clear O12 F12
  go_wp2_with fail
  refine (heldInt64S_any _ A4 L.length c4 1 _ (by exact F13.out) (by omega) (by omega) (by omega)).mono ?_
  rintro e w' ⟨rfl, rfl⟩
  go_wp2_with fail
  go_ret
  exact ⟨rfl, B2.out.trans (C13.out.mono B2.out.size)⟩
end Go.Proofs.Ytnanaldolnehiaa
