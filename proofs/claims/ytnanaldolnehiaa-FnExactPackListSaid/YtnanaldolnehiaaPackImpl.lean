/-
  The packed list: PackList of the program; the law FnExactPackList, walked.
-/
import Derived.Test.YtnanaldolnehiaaPack
import Derived.Test.YtnanaldolnehiaaFromRuns
import Derived.Test.YtnanaldolnehiaaSame
set_option linter.unusedSimpArgs false
set_option linter.unusedVariables false
namespace Go.Proofs.Ytnanaldolnehiaa
open Go.ChangeShapes Go.WideShapes Go.RowKit Go.Deep

theorem box_apartE {w : World} {base n c bx : Nat} {A : Option Addr} {zs : List UInt8} {cur : Array Value} (ho : OwnE w base A n c zs) (hbx : w.heap[bx]? = some (.cells cur 136)) : ¬ (some bx = (Value.slice A n c).ownBlock) := by
  intro e
  rcases ho with ho | ⟨_, _, _, g, cur', fz, rfl, _, hg, _⟩
  · rcases ho.row.2 with ⟨h1, _⟩ | ⟨g, cap, cur', h1, _, hg, _⟩
    · rw [h1] at e; cases e
    · rw [h1] at e
      simp only [Value.ownBlock, Option.some.injEq] at e
      subst e
      rw [hbx] at hg
      injection hg with hg
      injection hg with _ h2
      exact absurd h2 (by decide)
  · simp only [Value.ownBlock, Option.some.injEq] at e
    subst e
    rw [hbx] at hg
    injection hg with hg
    injection hg with _ h2
    exact absurd h2 (by decide)
theorem box_grownE {w w' : World} {base n c bx : Nat} {A : Option Addr} {zs : List UInt8} {cur : Array Value} (ho : OwnE w base A n c zs) (hbx : w.heap[bx]? = some (.cells cur 136)) (hg : w.grownBy w' (Value.slice A n c).ownBlock) : w'.heap[bx]? = some (.cells cur 136) := by
  rw [hg.block bx (box_lt hbx) (box_apartE ho hbx)]
  exact hbx
theorem OwnB.lower {w : World} {base n c b : Nat} {A : Option Addr} {zs : List UInt8} (h : OwnB w base A n c zs) (hb : b ≤ base) : OwnB w b A n c zs := by
  refine ⟨h.1, h.2.1, h.2.2.1, h.row.1, ?_⟩
  rcases h.row.2 with h5 | ⟨g, cap, cur, e, h5, h6⟩
  · exact .inl h5
  · exact .inr ⟨g, cap, cur, e, by omega, h6⟩
set_option maxRecDepth 100000 in
set_option maxHeartbeats 8000000 in
theorem implPackList_any (B : Nat) (A : Option Addr) (n c : Nat) (xs : List Int) (w : World) (h : Ints w B A n c xs) (hn : n ≤ 1048576) (hB : B ≤ w.heap.size) : Calls Try.prog 47 #[.slice A n c] w fun e w' => e = .returned (.tuple #[.string (plS xs), .int .i64 (rnC xs)]) ∧ Below w.heap.size w w' := by
  have HH := Lib.hid h
  clear h
  cases hok : okL xs
  · have R := Lib.hid (rn_bad hok)
    have PL := Lib.hid (show plS xs = ⟨#[]⟩ by rw [plS, if_neg (by rw [hok]; exact Bool.false_ne_true)])
    clear hok
    go_enter Try.func47, Try.ntmps47
    go_wp2_with fail
    refine (implRunsOf_any B A n c xs _ HH.out hn hB).mono ?_
    rintro e w1 ⟨A2, c2, rfl, o2, b2⟩
    rw [R.out.1, R.out.2]
    have B2 := Lib.hid b2
    clear o2 b2
    go_wp2_with fail
    go_ret2
    exact ⟨by rw [R.out.2, PL.out]; rfl, B2.out⟩
  have R := Lib.hid (rn_ok hok)
  have PL := Lib.hid (show plS xs = ⟨(pkS xs).toArray⟩ by rw [plS, if_pos hok])
  obtain ⟨r0, r1⟩ := rn_good hok
  have R1 := Lib.hid r1
  clear hok r1
  have hS : pkS xs = pkB xs ++ [UInt8.ofNat (cks (pkB xs) / 256).toNat, UInt8.ofNat (cks (pkB xs) % 256).toNat] := rfl
  obtain ⟨P, hP⟩ : ∃ P, pkB xs = P := ⟨_, rfl⟩
  rw [hP] at hS
  have PS := Lib.hid hS
  have PP : Hid (P = pbs (zz ((rnOf xs).length : Int)) ++ pkR (rnOf xs)) := Lib.hid hP.symm
  clear hS hP
  have RN : ∀ w, Ints w B A n c xs → B ≤ w.heap.size → Calls Try.prog 63 #[.slice A n c] w (RetRN w (rnOf xs) 0) := by
    intro w h hB
    have := implRunsOf_any B A n c xs w h hn hB
    rwa [R.out.1, R.out.2] at this
  have RNH := Lib.hid RN
  clear RN
  generalize rnOf xs = rs at *
  have KL := Lib.hid (pk_len rs r0 R1.out)
  go_enter Try.func47, Try.ntmps47
  go_wp2_with fail
  refine (RNH.out _ HH.out hB).mono ?_
  rintro e w1 ⟨A2, c2, rfl, o2, b2⟩
  have O2 := Lib.hid o2.flat
  have B2 := Lib.hid b2
  clear o2 b2
  go_wp2_with fail
  refine (put_any (rs.length : Int) _ (by omega) (by omega)).mono ?_
  rintro e w3 ⟨A3, m3, c3, rfl, hm3, o3, b3⟩
  have B3 := Lib.hid b3
  have E3 : Hid (OwnE w3 w1.heap.size A3 m3 c3 (pbs (zz (rs.length : Int)))) := Lib.hid (.inl o3)
  clear b3 o3
  go_wp2_with fail
  go_loopw [6, 23] (fun o i wr => ∃ (k : Nat) (A3 : Option Addr) (m c3 : Nat), k ≤ rs.length ∧ i = .int .i64 k ∧ o = .slice A3 m c3 ∧ OwnE wr w1.heap.size A3 m c3 (pbs (zz (rs.length : Int)) ++ pkR (rs.take k)) ∧ Below w1.heap.size w1 wr) (fun _ i _ => rs.length - (intOf i).toNat)
  case atStart => exact ⟨0, _, _, _, Nat.zero_le _, rfl, rfl, by simpa [pkR] using E3.out, B3.out⟩
  case round =>
    clear hm3
    obtain ⟨k, A3, m, c3, hk, rfl, rfl, ho, hb⟩ := hrel
    have hkl := KL.out k
    rw [ho.len] at hkl
    obtain ⟨hk0, hk1⟩ := hkl
    have HO := Lib.hid ho
    by_cases hlt : k < rs.length
    · obtain ⟨⟨v, t⟩, hp⟩ : ∃ p, rs[k]? = some p := ⟨_, List.getElem?_eq_getElem hlt⟩
      obtain ⟨b, off, hA, hbB, hc⟩ := O2.out.at_ (by omega)
      obtain ⟨g0, g1⟩ := flR_get2 hp
      have c0 : wr.cell? ⟨b, off + k * 2, none⟩ = some (.int .i64 v) := (hb.cell (p := ⟨b, off + k * 2, none⟩) (by show b < _; omega)).trans (hc (k * 2) v g0)
      have c1 : wr.cell? ⟨b, off + k * 2 + 1, none⟩ = some (.int .i64 t) := (hb.cell (p := ⟨b, off + k * 2 + 1, none⟩) (by show b < _; omega)).trans (hc (k * 2 + 1) t g1)
      obtain ⟨⟨v0, v1⟩, t0, t1⟩ := R1.out (v, t) (List.mem_of_getElem? hp)
      simp only at v0 v1 t0 t1
      have lv := pbs_len (u := zz v) (zz_le v0 v1)
      have lt := pbs_len (u := zz t) (zz_le t0 t1)
      have ST := Lib.hid (pkR_take hp)
      have HB := Lib.hid hb
      rw [hA]
      clear hc hp g0 g1 ho hb hA
      have i0 : (0 : Int) ≤ (k : Int) := by omega
      have i1 : (k : Int) < (rs.length : Int) := by omega
      have HG : Hid (∀ g, (Value.slice A3 m c3).ownBlock = some g → g < wr.heap.size + 1) := Lib.hid (fun g e => by have := (HO.out.block e).2; omega)
      have Z0 := Lib.hid (HO.out.alloc (.cells #[.int .i64 v, .int .i64 t] 136))
      have Z1 := Lib.hid (heap_alloc_new wr (.cells #[.int .i64 v, .int .i64 t] 136))
      have Z2 := Lib.hid (HB.out.alloc (by exact HB.out.size) (.cells #[.int .i64 v, .int .i64 t] 136))
      have zs0 : (wr.alloc (.cells #[.int .i64 v, .int .i64 t] 136)).heap.size = wr.heap.size + 1 := by simp
      go_wp2_with fail
      obtain ⟨W, hW⟩ : ∃ W, W = wr.alloc (.cells #[.int .i64 v, .int .i64 t] 136) := ⟨_, rfl⟩
      rw [← hW] at Z0 Z1 Z2 zs0 ⊢
      have h0 : OwnE W.drew w1.heap.size A3 m c3 (pbs (zz (rs.length : Int)) ++ pkR (rs.take k)) := Z0.out
      have hx : W.drew.heap[wr.heap.size]? = some (.cells #[.int .i64 v, .int .i64 t] 136) := Z1.out
      have bz : Below w1.heap.size w1 W.drew := Z2.out.drew
      have sz : wr.heap.size + 1 ≤ W.drew.heap.size := by show _ ≤ W.heap.size; omega
      have hs2 : w1.heap.size ≤ W.drew.heap.size := bz.size
      clear hW zs0 c0 c1 Z0 Z1 Z2
      go_region_held3 (fun w' => w'.cell? ⟨wr.heap.size, 0, none⟩ = some (.int .i64 v) ∧ w'.cell? ⟨wr.heap.size, 1, none⟩ = some (.int .i64 t)) (exact box_cells hx) (first
        | (go_at_call_of 119 (Value.int .i64 v); refine (put_any v _ v0 v1).mono ?_; rintro e w5 ⟨A5, m5, c5, rfl, hm5, p5, q5⟩; have p5 := p5.lower sz; have hx := (q5.block _ (box_lt hx)).trans hx; (try have h0 := h0.below q5 (Nat.le_refl _)); (try have p6 := p6.below q5 (Nat.le_refl _)); (try have h1 := h1.below q5 (Nat.le_refl _)); have bz := bz.trans (q5.mono bz.size); have sz := Nat.le_trans sz q5.size; have hs2 := bz.size; obtain ⟨g5, rfl, _, _⟩ := p5.some hm5)
        | (go_at_call_of 119 (Value.int .i64 t); refine (put_any t _ t0 t1).mono ?_; rintro e w6 ⟨A6, m6, c6, rfl, hm6, p6, q6⟩; have p6 := p6.lower sz; have hx := (q6.block _ (box_lt hx)).trans hx; (try have h0 := h0.below q6 (Nat.le_refl _)); (try have p5 := p5.below q6 (Nat.le_refl _)); (try have h1 := h1.below q6 (Nat.le_refl _)); have bz := bz.trans (q6.mono bz.size); have sz := Nat.le_trans sz q6.size; have hs2 := bz.size; obtain ⟨g6, rfl, _, _⟩ := p6.some hm6)
        | (refine step_appendEB rfl (.tmp 27) (.tmp 30) rfl w1.heap.size A3 m c3 (pbs (zz (rs.length : Int)) ++ pkR (rs.take k)) (pbs (zz v)) ⟨g5, 0, none⟩ m5 c5 (by simp [Act.eval, Act.put]) (by simp [Act.eval, Act.put]) p5.len p5.news h0 (by omega) (by have := p5.len; omega) hs2 ?_; intro A7 c7 w7 h1 g7; have hx := box_grownE h0 hx g7; (try have p6 := p6.kept g7 (fun g e => .inl (HG.out g e))); have bz := Below.grown bz g7 bz.size (fun g e => (h0.block e).1); have sz := Nat.le_trans sz g7.size; have hs2 := bz.size)
        | (refine step_appendEB rfl (.tmp 31) (.tmp 34) rfl w1.heap.size A7 (m + m5) c7 (pbs (zz (rs.length : Int)) ++ pkR (rs.take k) ++ pbs (zz v)) (pbs (zz t)) ⟨g6, 0, none⟩ m6 c6 (by simp [Act.eval, Act.put]) (by simp [Act.eval, Act.put]) p6.len p6.news h1 (by have := p5.len; omega) (by have := p6.len; omega) hs2 ?_; intro A8 c8 w8 h8 g8; have hx := box_grownE h1 hx g8; have bz := Below.grown bz g8 bz.size (fun g e => (h1.block e).1); have hs2 := bz.size))
      all_goals
        go_wp2_with fail
        go_roundw
        case rel => exact ⟨k + 1, A8, _, c8, by omega, by go_num, rfl, by rw [ST.out]; simpa [List.append_assoc] using h8, bz⟩
        case measure => simp [intOf]; omega
    · have hkn : k = rs.length := by omega
      have e9 : OwnE wr w1.heap.size A3 m c3 P := by
        have := HO.out
        rwa [List.take_of_length_le (by omega), ← PP.out] at this
      have HE := Lib.hid e9
      have HB := Lib.hid hb
      have kc := conv_ownE e9 hk0
      have LP := e9.len
      clear hkn ho hb e9 HO
      have i3 : ¬ ((k : Int) < (rs.length : Int)) := by omega
      go_wp2_with fail
      refine (ChecksumOf_any _ _ (by show P.length ≤ _; omega)).mono ?_
      rintro e w' ⟨rfl, rfl⟩
      rw [show cks ((⟨P.toArray⟩ : ByteArray).data.toList) = cks P from rfl]
      obtain ⟨d0, d1⟩ := cks_bd P
      generalize cks P = sm at *
      clear LP kc
      go_wp2_with (at_builtin; refine list_appendEB rfl (.tmp 40) (.tmp 47) rfl w1.heap.size A3 m c3 P [UInt8.ofNat (sm / 256).toNat, UInt8.ofNat (sm % 256).toNat] ⟨wr.heap.size, 0, none⟩ 2 2 (by simp [Act.eval, Act.put]) (by simp [Act.eval, Act.put]) rfl (two_news wr (sm / 256) (sm % 256) (by omega) (by omega) (by omega) (by omega)) (by exact HE.out.alloc _) (by omega) (by omega) (by simp; exact Nat.le_succ_of_le HB.out.size) ?_; intro A5 c5 w5 o5 b5; have kc2 := conv_ownE o5 (by omega); have B5 := Lib.hid b5; clear b5 o5)
      go_ret2
      exact ⟨by rw [R.out.2, PL.out, PS.out]; rfl, B2.out.trans ((HB.out.alloc (by exact HB.out.size) _).trans B5.out |>.mono B2.out.size)⟩
set_option maxRecDepth 100000 in
set_option maxHeartbeats 4000000 in
theorem FnExactPackList_walk (A : Option Addr) (n c : Nat) (xs : List Int) (w : World) (h : Ints w w.heap.size A n c xs ∧ ∀ z ∈ xs, in64 z) :
    Calls Try.prog 9 #[.slice A n c] w fun e w' => e = .returned (.bool true) ∧ Below w.heap.size w w' := by
  replace h := h.1
  have hm := h.le
  have H := Lib.hid h
  clear h
  by_cases hs : 1048576 < n
  · have j0 : (1048576 : Int) < (n : Int) := by omega
    go_enter Try.func9, Try.ntmps9
    go_wp2_with fail
    go_ret
    exact ⟨rfl, Below.refl _ _⟩
  have hs' : n ≤ 1048576 := by omega
  have hs2 : n ≤ 4294967296 := by omega
  have j0 : ¬ ((1048576 : Int) < (n : Int)) := by omega
  go_enter Try.func9, Try.ntmps9
  go_wp2_with fail
  refine (toInt64S_any w.heap.size A n c xs _ (by exact H.out) hs2 (by exact Nat.le_refl _)).mono ?_
  rintro e w1 ⟨A1, c1, rfl, o1, b1⟩
  have O1 := Lib.hid o1
  have B1 := Lib.hid b1
  clear o1 b1
  go_wp2_with fail
  refine (specPackList_any w1.heap.size A1 n c1 xs _ (by exact O1.out.ints) hs' (by exact Nat.le_refl _)).mono ?_
  rintro e w2 ⟨rfl, b2⟩
  have B2 := Lib.hid (sub_step b2 B1.out rfl)
  clear b2 O1 B1
  generalize hL : plS xs = L at *
  generalize hR : rnC xs = R at *
  have HL := Lib.hid hL
  have HR := Lib.hid hR
  clear hL hR
  go_wp2_with fail
  refine (toInt64S_any w.heap.size A n c xs _ (by exact H.out.below B2.out) hs2 (by exact B2.out.size)).mono ?_
  rintro e w3 ⟨A3, c3, rfl, o3, b3⟩
  have O3 := Lib.hid o3
  have B3 := Lib.hid (sub_step b3 B2.out rfl)
  clear o3 b3
  go_wp2_with fail
  refine (implPackList_any w3.heap.size A3 n c3 xs _ (by exact O3.out.ints) hs' (by exact Nat.le_refl _)).mono ?_
  rintro e w4 ⟨rfl, b4⟩
  rw [HL.out, HR.out]
  have O34 := Lib.hid (O3.out.below b4 (Nat.le_refl _))
  have B4 := Lib.hid (sub_step b4 B3.out rfl)
  clear b4
  go_wp2_with fail
  refine (toInt64S_any w.heap.size A n c xs _ (by exact H.out.below B4.out) hs2 (by exact B4.out.size)).mono ?_
  rintro e w6 ⟨A6, c6, rfl, o6, b6⟩
  have O6 := Lib.hid o6.ints
  have O36 := Lib.hid (O34.out.below b6 (Nat.le_refl _))
  have B6 := Lib.hid (sub_step b6 B4.out rfl)
  clear o6 b6
  go_wp2_with fail
  refine (eqInt64S_is _ _ _ _ _ _ _ _ xs xs true (decide_eq_true rfl) _ (by exact O36.out.ints) (by exact O6.out)).mono ?_
  rintro e w7 ⟨rfl, m7, rfl⟩
  go_wp2_with fail
  go_ret
  exact ⟨rfl, below_drewN B6.out m7⟩
end Go.Proofs.Ytnanaldolnehiaa
