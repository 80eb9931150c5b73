/-
  The packed list: l14Pack, PackList of the reference.
-/
import Derived.Test.YtnanaldolnehiaaPackKit
import Derived.Deep.RegionHeld3
import Derived.Outline
set_option linter.unusedSimpArgs false
set_option linter.unusedVariables false
namespace Go.Proofs.Ytnanaldolnehiaa
open Go.ChangeShapes Go.WideShapes Go.RowKit Go.Deep

/-- The packed bytes. -/
def pkS (l : List Int) : List UInt8 := pkB l ++ [UInt8.ofNat (cks (pkB l) / 256).toNat, UInt8.ofNat (cks (pkB l) % 256).toNat]
def plS (l : List Int) : ByteArray := if okL l = true then ⟨(pkS l).toArray⟩ else ⟨#[]⟩
theorem okL_parts {l : List Int} (h : okL l = true) : l.all itm = true ∧ l.length ≤ 4000 := by simpa [okL] using h
/-- Runs as they are packed. -/
theorem rn_good {l : List Int} (h : okL l = true) : (rnOf l).length ≤ 4000 ∧ ∀ p ∈ rnOf l, (-1000000 ≤ p.1 ∧ p.1 ≤ 1000000) ∧ -1000000 ≤ p.2 ∧ p.2 ≤ 1000000 := by
  obtain ⟨h1, h2⟩ := okL_parts h
  obtain ⟨b1, b2⟩ := rn_bound l
  refine ⟨by omega, fun p hp => ?_⟩
  have h3 := itm_iff.1 (rn_items l h1 p hp)
  have h4 := b2 p hp
  omega
theorem flR_get2 {rs : List (Int × Int)} {k : Nat} {p : Int × Int} (h : rs[k]? = some p) : (flR rs)[k * 2]? = some p.1 ∧ (flR rs)[k * 2 + 1]? = some p.2 := by
  obtain ⟨hk, e⟩ := List.getElem?_eq_some_iff.1 h
  have h1 : rs = rs.take k ++ p :: rs.drop (k + 1) := by
    rw [← e, ← List.drop_eq_getElem_cons hk, List.take_append_drop]
  have hl : (flR (rs.take k)).length = k * 2 := by rw [flR_len, List.length_take]; omega
  rw [h1, flR_append]
  constructor
  · rw [List.getElem?_append_right (by omega), hl, Nat.sub_self]; rfl
  · rw [List.getElem?_append_right (by omega), hl, show k * 2 + 1 - k * 2 = 1 by omega]; rfl
theorem pbs_pos (u : Nat) : 0 < (pbs u).length := by
  by_cases h : u < 128
  · rw [pbs_last h]; simp
  · rw [pbs_step h]; simp
/-- How many bytes there can be, midway. -/
theorem pk_len (rs : List (Int × Int)) (h0 : rs.length ≤ 4000) (h : ∀ p ∈ rs, (-1000000 ≤ p.1 ∧ p.1 ≤ 1000000) ∧ -1000000 ≤ p.2 ∧ p.2 ≤ 1000000) (k : Nat) : 0 < (pbs (zz (rs.length : Int)) ++ pkR (rs.take k)).length ∧ (pbs (zz (rs.length : Int)) ++ pkR (rs.take k)).length ≤ 30000 := by
  have h1 := pbs_pos (zz (rs.length : Int))
  have h2 := pbs_len (u := zz (rs.length : Int)) (zz_le (by omega) (by omega))
  have h3 := pkR_len (rs.take k) (fun p hp => h p (List.mem_of_mem_take hp))
  have h4 : (rs.take k).length ≤ 4000 := by rw [List.length_take]; omega
  rw [List.length_append]
  omega
theorem two_news (w : World) (x y : Int) (hx0 : 0 ≤ x) (hx1 : x ≤ 255) (hy0 : 0 ≤ y) (hy1 : y ≤ 255) : ∀ j u, (byC [UInt8.ofNat x.toNat, UInt8.ofNat y.toNat])[j]? = some u → (w.alloc (.cells #[.int .u8 x, .int .u8 y] 5)).cell? ((⟨w.heap.size, 0, none⟩ : Addr).add j) = some u := by
  intro j u hu
  have hj : j < 2 := by
    have := (List.getElem?_eq_some_iff.1 hu).1
    simpa [byC] using this
  rw [add_plain]
  rcases (by omega : j = 0 ∨ j = 1) with rfl | rfl
  · simp [byC] at hu
    subst hu
    simp [World.cell?_alloc_new]
    omega
  · simp [byC] at hu
    subst hu
    simp [World.cell?_alloc_new]
    omega
set_option maxRecDepth 100000 in
set_option maxHeartbeats 4000000 in
theorem l14Pack_any (B : Nat) (A : Option Addr) (n c : Nat) (xs : List Int) (hok : okL xs = true) (w : World) (h : Ints w B A n c xs) (hn : n ≤ 1048576) (hB : B ≤ w.heap.size) : Calls Try.prog 121 #[.slice A n c] w fun e w' => e = .returned (.string ⟨(pkS xs).toArray⟩) ∧ Below w.heap.size w w' := by
  obtain ⟨r0, r1⟩ := rn_good hok
  have HH := Lib.hid h
  have R1 := Lib.hid r1
  clear h hok r1
  go_enter Try.func121, Try.ntmps121
  go_wp2_with fail
  refine (l14Runs_any B A n c xs _ HH.out hn hB).mono ?_
  rintro e w1 ⟨A2, c2, rfl, o2, b2⟩
  have O2 := Lib.hid o2.flat
  have B2 := Lib.hid b2
  clear o2 b2
  have hS : pkS xs = pkB xs ++ [UInt8.ofNat (cks (pkB xs) / 256).toNat, UInt8.ofNat (cks (pkB xs) % 256).toNat] := rfl
  obtain ⟨P, hP⟩ : ∃ P, pkB xs = P := ⟨_, rfl⟩
  rw [hP] at hS
  have PS := Lib.hid hS
  have PP : Hid (P = pbs (zz ((rnOf xs).length : Int)) ++ pkR (rnOf xs)) := Lib.hid hP.symm
  clear hS hP
  generalize rnOf xs = rs at *
  have KL := Lib.hid (pk_len rs r0 R1.out)
  go_wp2_with fail
  refine (l14Put_any (rs.length : Int) _ (by omega) (by omega)).mono ?_
  rintro e w3 ⟨rfl, b3⟩
  have B3 := Lib.hid b3
  clear b3
  have hp1 := pbs_len (u := zz (rs.length : Int)) (zz_le (by omega) (by omega))
  obtain ⟨c3, ob, k3, e3⟩ := conv_str (pbs (zz (rs.length : Int))) w3 (by omega)
  have E3 := Lib.hid e3
  have D3 : Hid (Below w1.heap.size w1 (w3.drew.alloc ob)) := Lib.hid (B3.out.drew.alloc (by exact B3.out.size) _)
  have S3 := B3.out.size
  clear e3
  go_wp2_with fail
  go_loopw [4, 5] (fun o i wr => ∃ (k : Nat) (A3 : Option Addr) (m c3 : Nat), k ≤ rs.length ∧ i = .int .i64 k ∧ o = .slice A3 m c3 ∧ OwnE wr w1.heap.size A3 m c3 (pbs (zz (rs.length : Int)) ++ pkR (rs.take k)) ∧ Below w1.heap.size w1 wr) (fun _ i _ => rs.length - (intOf i).toNat)
  case atStart => exact ⟨0, _, _, _, Nat.zero_le _, rfl, rfl, by have e := E3.out.lower S3; simp only [pkR, List.take_zero, List.flatMap_nil, List.append_nil]; exact e, D3.out⟩
  case round =>
    clear k3 S3
    obtain ⟨k, A3, m, c3, hk, rfl, rfl, ho, hb⟩ := hrel
    have hkl := KL.out k
    rw [ho.len] at hkl
    obtain ⟨hk0, hk1⟩ := hkl
    have HO := Lib.hid ho
    by_cases hlt : k < rs.length
    · obtain ⟨⟨v, t⟩, hp⟩ : ∃ p, rs[k]? = some p := ⟨_, List.getElem?_eq_getElem hlt⟩
      obtain ⟨b, off, hA, hbB, hc⟩ := O2.out.at_ (by omega)
      obtain ⟨g0, g1⟩ := flR_get2 hp
      have c0 : wr.cell? ⟨b, off + k * 2, none⟩ = some (.int .i64 v) := (hb.cell (p := ⟨b, off + k * 2, none⟩) (by show b < _; omega)).trans (hc (k * 2) v g0)
      have c1 : wr.cell? ⟨b, off + k * 2 + 1, none⟩ = some (.int .i64 t) := (hb.cell (p := ⟨b, off + k * 2 + 1, none⟩) (by show b < _; omega)).trans (hc (k * 2 + 1) t g1)
      have C1 := Lib.hid (hc (k * 2 + 1) t g1)
      obtain ⟨⟨v0, v1⟩, t0, t1⟩ := R1.out (v, t) (List.mem_of_getElem? hp)
      simp only at v0 v1 t0 t1
      have lv := pbs_len (u := zz v) (zz_le v0 v1)
      have lt := pbs_len (u := zz t) (zz_le t0 t1)
      have ST := Lib.hid (pkR_take hp)
      have HB := Lib.hid hb
      rw [hA]
      clear hc hp g0 g1 ho hb hA
      have i0 : (0 : Int) ≤ (k : Int) := by omega
      have i1 : (k : Int) < (rs.length : Int) := by omega
      go_wp2_with fail
      refine (l14Put_any v _ v0 v1).mono ?_
      rintro e w4 ⟨rfl, b4⟩
      have H4 := Lib.hid (HO.out.below b4 (Nat.le_refl _))
      have B4 := Lib.hid (HB.out.trans (b4.mono HB.out.size))
      clear b4
      go_wp2_with (at_builtin; refine list_appendES rfl (.tmp 19) (.tmp 25) rfl w1.heap.size A3 m c3 _ (pbs (zz v)) (by simp [Act.eval, Act.put]) (by simp [Act.eval, Act.put]) (by exact H4.out) (by omega) (by omega) (by exact B4.out.size) ?_; intro A5 c5 w5 o5 b5; have c2 : w5.cell? ⟨b, off + k * 2 + 1, none⟩ = some (.int .i64 t) := ((B4.out.trans b5).cell (p := ⟨b, off + k * 2 + 1, none⟩) (by show b < _; omega)).trans C1.out)
      have H5 := Lib.hid o5
      have B5 := Lib.hid (B4.out.trans b5)
      clear o5 b5
      go_wp2_with fail
      refine (l14Put_any t _ t0 t1).mono ?_
      rintro e w6 ⟨rfl, b6⟩
      have H6 := Lib.hid (H5.out.below b6 (Nat.le_refl _))
      have B6 := Lib.hid (B5.out.trans (b6.mono B5.out.size))
      clear b6
      go_wp2_with (at_builtin; refine list_appendES rfl (.tmp 27) (.tmp 33) rfl w1.heap.size A5 (m + (pbs (zz v)).length) c5 _ (pbs (zz t)) (by simp [Act.eval, Act.put]) (by simp [Act.eval, Act.put]) (by exact H6.out) (by omega) (by omega) (by exact B6.out.size) ?_; intro A7 c7 w7 o7 b7)
      go_roundw
      case rel => exact ⟨k + 1, A7, _, c7, by omega, by go_num, rfl, by rw [ST.out]; simpa [List.append_assoc] using o7, B6.out.trans b7⟩
      case measure => simp [intOf]; omega
    · have hkn : k = rs.length := by omega
      have e9 : OwnE wr w1.heap.size A3 m c3 P := by
        have := HO.out
        rwa [List.take_of_length_le (by omega), ← PP.out] at this
      have HE := Lib.hid e9
      have HB := Lib.hid hb
      have kc := conv_ownE e9 hk0
      have LP := e9.len
      clear hkn ho hb e9 HO
      have i3 : ¬ ((k : Int) < (rs.length : Int)) := by omega
      have LP2 := Lib.hid LP
      go_wp2_with fail
      refine (l14Sum_any _ _ (by show P.length ≤ _; omega)).mono ?_
      rintro e w' ⟨rfl, rfl⟩
      rw [show cks ((⟨P.toArray⟩ : ByteArray).data.toList) = cks P from rfl]
      obtain ⟨d0, d1⟩ := cks_bd P
      generalize cks P = sm at *
      clear LP kc
      go_wp2_with (at_builtin; refine list_appendEB rfl (.tmp 38) (.tmp 44) rfl w1.heap.size A3 m c3 P [UInt8.ofNat (sm / 256).toNat, UInt8.ofNat (sm % 256).toNat] ⟨wr.heap.size, 0, none⟩ 2 2 (by simp [Act.eval, Act.put]) (by simp [Act.eval, Act.put]) rfl (two_news wr (sm / 256) (sm % 256) (by omega) (by omega) (by omega) (by omega)) (by exact HE.out.alloc _) (by omega) (by omega) (by simp; exact Nat.le_succ_of_le HB.out.size) ?_; intro A5 c5 w5 o5 b5; have kc2 := conv_ownE o5 (by omega); have B5 := Lib.hid b5; clear b5 o5)
      go_ret
      exact ⟨by rw [PS.out]; rfl, B2.out.trans ((HB.out.alloc (by exact HB.out.size) _).trans B5.out |>.mono B2.out.size)⟩
set_option maxHeartbeats 2000000 in
theorem specPackList_any (B : Nat) (A : Option Addr) (n c : Nat) (xs : List Int) (w : World) (h : Ints w B A n c xs) (hn : n ≤ 1048576) (hB : B ≤ w.heap.size) : Calls Try.prog 45 #[.slice A n c] w fun e w' => e = .returned (.tuple #[.string (plS xs), .int .i64 (rnC xs)]) ∧ Below w.heap.size w w' := by
  have HH := Lib.hid h
  clear h
  cases hok : okL xs
  · have R := Lib.hid (rn_bad hok)
    have HK := Lib.hid hok
    have PL := Lib.hid (show plS xs = ⟨#[]⟩ by rw [plS, if_neg (by rw [hok]; exact Bool.false_ne_true)])
    clear hok
    go_enter Try.func45, Try.ntmps45
    go_wp2_with fail
    refine (l14Ok_any B A n c xs _ HH.out hn).mono ?_
    rintro e w' ⟨rfl, rfl⟩
    rw [HK.out]
    go_wp2_with fail
    go_ret2
    exact ⟨by rw [R.out.2, PL.out]; rfl, Below.refl _ _⟩
  · have R := Lib.hid (rn_ok hok)
    have HK := Lib.hid hok
    have PL := Lib.hid (show plS xs = ⟨(pkS xs).toArray⟩ by rw [plS, if_pos hok])
    clear hok
    go_enter Try.func45, Try.ntmps45
    go_wp2_with fail
    refine (l14Ok_any B A n c xs _ HH.out hn).mono ?_
    rintro e w' ⟨rfl, rfl⟩
    rw [HK.out]
    go_wp2_with fail
    refine (l14Pack_any B A n c xs HK.out _ HH.out hn hB).mono ?_
    rintro e w2 ⟨rfl, b2⟩
    have B2 := Lib.hid b2
    clear b2
    go_wp2_with fail
    go_ret2
    exact ⟨by rw [R.out.2, PL.out]; rfl, B2.out⟩
end Go.Proofs.Ytnanaldolnehiaa
