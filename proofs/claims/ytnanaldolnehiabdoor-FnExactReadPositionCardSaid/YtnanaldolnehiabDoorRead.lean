/-
  The number with a decimal form: l01Number, ReadDecimal; the law FnExactReadDecimal, walked.
-/
import Derived.Test.YtnanaldolnehiabDoorProblem
set_option linter.unusedSimpArgs false
set_option linter.unusedVariables false
namespace Go.Proofs.YtnanaldolnehiabDoor
open Go.ChangeShapes Go.WideShapes Go.RowKit Go.Deep

theorem ret_bb {a b : Bool} (h : a = b) : Ending.returned (.bool a) = .returned (.bool b) := by rw [h]
theorem digit_any (c : Int) (w : World) : Calls Tryd.prog 75 #[.int .u8 c] w fun e w' => e = .returned (.bool (inB c 48 57)) ∧ w = w' := by
  by_cases h0 : c < 48
  · go_enter Tryd.func75, Tryd.ntmps75
    go_wp2
    go_ret
    exact ⟨ret_bb (by simp [inB]; omega), rfl⟩
  by_cases h1 : 57 < c
  · go_enter Tryd.func75, Tryd.ntmps75
    go_wp2
    go_ret
    exact ⟨ret_bb (by simp [inB]; omega), rfl⟩
  · go_enter Tryd.func75, Tryd.ntmps75
    go_wp2
    go_ret
    exact ⟨ret_bb (by simp [inB]; omega), rfl⟩
theorem isDigit_any (c : Int) (w : World) : Calls Tryd.prog 62 #[.int .u8 c] w fun e w' => e = .returned (.bool (inB c 48 57)) ∧ w = w' := by
  by_cases h0 : c < 48
  · go_enter Tryd.func62, Tryd.ntmps62
    go_wp2
    go_ret
    exact ⟨ret_bb (by simp [inB]; omega), rfl⟩
  by_cases h1 : 57 < c
  · go_enter Tryd.func62, Tryd.ntmps62
    go_wp2
    go_ret
    exact ⟨ret_bb (by simp [inB]; omega), rfl⟩
  · go_enter Tryd.func62, Tryd.ntmps62
    go_wp2
    go_ret
    exact ⟨ret_bb (by simp [inB]; omega), rfl⟩

/-- A decimal digit. -/
def isDg (c : UInt8) : Bool := inB (c.toNat : Int) 48 57
/-- The number of some digits. -/
def valL (l : List UInt8) : Nat := l.foldl (fun a b => 10 * a + (b.toNat - 48)) 0
theorem valL_snoc (l : List UInt8) (b : UInt8) : valL (l ++ [b]) = 10 * valL l + (b.toNat - 48) := by simp [valL, List.foldl_append]
theorem valL_lt (l : List UInt8) (h : l.all isDg = true) : valL l < 10 ^ l.length := by
  suffices H : ∀ (n : Nat) (l : List UInt8), l.length = n → l.all isDg = true → valL l < 10 ^ n from H _ l rfl h
  intro n
  induction n with
  | zero => intro l hl _; obtain rfl : l = [] := List.eq_nil_of_length_eq_zero hl; decide
  | succ n ih =>
    intro l hl ha
    obtain ⟨m, c, rfl⟩ : ∃ m c, l = m ++ [c] := ⟨l.dropLast, l.getLast (by rintro rfl; cases hl), (List.dropLast_concat_getLast _).symm⟩
    have hm : m.length = n := by simpa using hl
    rw [List.all_append, Bool.and_eq_true] at ha
    have h1 := ih m hm ha.1
    have h2 : 48 ≤ c.toNat ∧ c.toNat ≤ 57 := by have := ha.2; simp [isDg, inB] at this; omega
    rw [valL_snoc, Nat.pow_succ]
    omega
theorem pow18 {n : Nat} (h : n ≤ 18) : 10 ^ n ≤ 1000000000000000000 := Nat.le_trans (Nat.pow_le_pow_right (by decide) h) (by decide)
theorem pow17 {n : Nat} (h : n ≤ 17) : 10 ^ n ≤ 100000000000000000 := Nat.le_trans (Nat.pow_le_pow_right (by decide) h) (by decide)
theorem take_snocD (s : ByteArray) (k : Nat) (h : k < s.size) : s.data.toList.take (k + 1) = s.data.toList.take k ++ [s[k]] := by
  rw [List.take_succ_eq_append_getElem (by simpa using h)]; rfl
/-- The digits of a text: without a sign. -/
def sgn (s : ByteArray) : Bool := s.data.toList.head? == some 45
def dgs (s : ByteArray) : List UInt8 := if sgn s = true then s.data.toList.drop 1 else s.data.toList
/-- What ReadDecimal returns. -/
def rdV (s : ByteArray) : Int := if sgn s = true then -(valL (dgs s) : Int) else (valL (dgs s) : Int)
def rdB (s : ByteArray) : Bool := decide (1 ≤ (dgs s).length) && decide ((dgs s).length ≤ 18) && (dgs s).all isDg && decide (dec (rdV s) = s)
def rdN (s : ByteArray) : Int := if rdB s = true then rdV s else 0
theorem head_some {s : ByteArray} (h : 0 < s.size) : s.data.toList.head? = some s[0] := by
  have h2 : 0 < s.data.toList.length := by simpa using h
  rw [List.head?_eq_getElem?, List.getElem?_eq_getElem h2]
  rfl
theorem sgn_yes {s : ByteArray} (h : 0 < s.size) (hc : (s[0].toNat : Int) = 45) : sgn s = true := by
  have : s[0] = 45 := by
    apply UInt8.toNat_inj.1
    have : (45 : UInt8).toNat = 45 := rfl
    omega
  simp [sgn, head_some h, this]
theorem sgn_no {s : ByteArray} (h : 0 < s.size) (hc : ¬ ((s[0].toNat : Int) = 45)) : sgn s = false := by
  have : ¬ (s[0] = 45) := by
    intro e
    rw [e] at hc
    exact hc rfl
  simp [sgn, head_some h, this]
theorem sgn_nil {s : ByteArray} (h : s.size = 0) : sgn s = false := by
  have : s.data.toList = [] := List.eq_nil_of_length_eq_zero (by simpa using h)
  simp [sgn, this]
theorem tail_toList {s : ByteArray} {m : Nat} (h : s.size = m + 1) : (s.extract 1 (m + 1)).data.toList = s.data.toList.drop 1 := by
  rw [ByteArray.data_extract, Array.toList_extract, List.extract_eq_take_drop]
  rw [List.take_of_length_le]
  simp; omega
theorem rd_of_len {s : ByteArray} (h : ¬ (1 ≤ (dgs s).length ∧ (dgs s).length ≤ 18)) : rdB s = false := by
  unfold rdB
  rcases Nat.lt_or_ge (dgs s).length 1 with h1 | h1
  · simp [show ¬ (1 ≤ (dgs s).length) by omega]
  · simp [show ¬ ((dgs s).length ≤ 18) by omega]
theorem rd_of_all {s : ByteArray} (h : (dgs s).all isDg = false) : rdB s = false := by simp [rdB, h]
theorem rd_of_ne {s : ByteArray} (h : ¬ (dec (rdV s) = s)) : rdB s = false := by simp [rdB, h]
theorem rd_yes {s : ByteArray} (h0 : 1 ≤ (dgs s).length) (h1 : (dgs s).length ≤ 18) (h2 : (dgs s).all isDg = true) (h3 : dec (rdV s) = s) : rdB s = true := by simp [rdB, h0, h1, h2, h3]
theorem ret_rd_no {s : ByteArray} (h : rdB s = false) : Ending.returned (.tuple #[.int .i64 0, .bool false]) = .returned (.tuple #[.int .i64 (rdN s), .bool (rdB s)]) := by simp [rdN, h]
theorem ret_rd_yes {s : ByteArray} {v : Int} (h : rdB s = true) (hv : rdV s = v) : Ending.returned (.tuple #[.int .i64 v, .bool true]) = .returned (.tuple #[.int .i64 (rdN s), .bool (rdB s)]) := by simp [rdN, h, hv]
theorem rdV_range {s : ByteArray} (h1 : (dgs s).length ≤ 18) (h2 : (dgs s).all isDg = true) : -1000000000000000000 ≤ rdV s ∧ rdV s ≤ 1000000000000000000 := by
  have h3 := valL_lt _ h2
  have h4 := pow18 h1
  unfold rdV
  split <;> omega
theorem rdN_range (s : ByteArray) : -1000000000000000000 ≤ rdN s ∧ rdN s ≤ 1000000000000000000 := by
  unfold rdN
  split
  · rename_i h
    simp only [rdB, Bool.and_eq_true, decide_eq_true_eq] at h
    exact rdV_range h.1.1.2 h.1.2
  · omega
theorem nilD {s : ByteArray} (h : 0 < s.size) : (s.toList == []) = false ∧ ([] == s.toList) = false := by
  have h2 : ¬ (s.toList = []) := by
    rw [ByteArray.toList_eq]
    intro e
    have h3 : s.data.toList.length = 0 := by rw [e]; rfl
    rw [Array.length_toList] at h3
    exact absurd h3 (by show ¬ s.size = 0; omega)
  exact ⟨beq_eq_false_iff_ne.2 h2, beq_eq_false_iff_ne.2 (fun e => h2 e.symm)⟩
theorem neD {x y : ByteArray} (h : ¬ (x = y)) : (x.toList == y.toList) = false := toList_ne h
set_option maxRecDepth 100000 in
set_option maxHeartbeats 4000000 in
theorem implRead_any (s : ByteArray) (hs : s.size ≤ 1048576) (w : World) (ht : Tab w) : Calls Tryd.prog 34 #[.string s] w fun e w' => e = .returned (.tuple #[.int .i64 (rdN s), .bool (rdB s)]) ∧ Below w.heap.size w w' := by
  have HT := Lib.hid ht
  clear ht
  rcases Nat.eq_zero_or_pos s.size with hz | hz
  · have hsg := sgn_nil hz
    obtain rfl : s = ⟨#[]⟩ := by
      apply ByteArray.ext
      exact Array.eq_empty_of_size_eq_zero hz
    have hb := Lib.hid (rd_of_len (s := ⟨#[]⟩) (by decide))
    clear hsg hz
    go_enter Tryd.func34, Tryd.ntmps34
    go_wp2_with fail
    go_ret2
    exact ⟨ret_rd_no hb.out, Below.refl _ _⟩
  have z0 : (0 : Int) < (s.size : Int) := by omega
  obtain ⟨z1, z2⟩ := nilD hz
  by_cases hc : (s[0].toNat : Int) = 45
  · obtain ⟨m, hm⟩ : ∃ m, s.size = m + 1 := ⟨s.size - 1, by omega⟩
    have hsg := sgn_yes hz hc
    have hq : ((s[0].toNat : Int) == 45) = true := by simpa using hc
    clear hc
    have hdl : (s.extract 1 (m + 1)).data.toList = dgs s := by rw [tail_toList hm, dgs, if_pos hsg]
    have hsz : (s.extract 1 (m + 1)).size = m := by rw [ByteArray.size_extract]; omega
    have HD := Lib.hid hdl
    have HSZ := Lib.hid hsz
    have hdn : (dgs s).length = m := by rw [← hdl, Array.length_toList]; exact hsz
    have HDN := Lib.hid hdn
    have HSG := Lib.hid hsg
    have HM := Lib.hid hm
    clear hdl hsz hdn hsg
    by_cases h01 : 1 ≤ m ∧ m ≤ 18
    rotate_left
    · have hb := Lib.hid (rd_of_len (s := s) (by rw [HDN.out]; exact h01))
      rcases (by omega : m = 0 ∨ 18 < m) with h0 | h0
      · subst h0
        go_enter Tryd.func34, Tryd.ntmps34
        go_wp2_with fail
        go_ret2
        exact ⟨ret_rd_no hb.out, Below.refl _ _⟩
      · have k1 : (18 : Int) < (m : Int) := by omega
        have k2 : ((m : Int) == 0) = false := by simp; omega
        have k3 : ¬ ((m : Int) < 1) := by omega
        have k4 : (0 : Int) < (m : Int) := by omega
        go_enter Tryd.func34, Tryd.ntmps34
        go_wp2_with fail
        go_ret2
        exact ⟨ret_rd_no hb.out, Below.refl _ _⟩
    obtain ⟨h0, h1⟩ := h01
    have k1 : ¬ ((18 : Int) < (m : Int)) := by omega
    have k2 : ((m : Int) == 0) = false := by simp; omega
    have k3 : ¬ ((m : Int) < 1) := by omega
    have k4 : (0 : Int) < (m : Int) := by omega
    go_enter Tryd.func34, Tryd.ntmps34
    go_wp2_with fail
    go_loopw [5, 28] (fun n i wr => ∃ k v : Nat, i = .int .i64 k ∧ k ≤ m ∧ n = .int .i64 (v : Int) ∧ Hid (v = valL ((s.extract 1 (m + 1)).data.toList.take k) ∧ ((s.extract 1 (m + 1)).data.toList.take k).all isDg = true) ∧ wr = w) (fun _ i _ => m - (intOf i).toNat)
    case atStart => exact ⟨0, 0, rfl, by omega, rfl, Lib.hid ⟨rfl, rfl⟩, rfl⟩
    case round =>
      obtain ⟨k, v, rfl, hk, rfl, hv, rfl⟩ := hrel
      have hlen : ((s.extract 1 (m + 1)).data.toList.take k).length ≤ k := List.length_take_le _ _
      have hvl := valL_lt _ hv.out.2
      rw [← hv.out.1] at hvl
      by_cases hlt : k < m
      · have j0 : (k : Int) < (m : Int) := by omega
        have hvb : v < 100000000000000000 := Nat.lt_of_lt_of_le hvl (Nat.le_trans (Nat.pow_le_pow_right (by decide) (by omega : _ ≤ 17)) (by decide))
        clear hvl hlen
        have hkT : k < (s.extract 1 (m + 1)).size := by rw [HSZ.out]; exact hlt
        by_cases hd : inB ((s.extract 1 (m + 1))[k].toNat : Int) 48 57 = true
        · have hc : 48 ≤ ((s.extract 1 (m + 1))[k].toNat : Int) ∧ ((s.extract 1 (m + 1))[k].toNat : Int) ≤ 57 := by simpa [inB] using hd
          obtain ⟨hc0, hc1⟩ := hc
          have HN := Lib.hid (show valL ((s.extract 1 (m + 1)).data.toList.take (k + 1)) = 10 * v + ((s.extract 1 (m + 1))[k].toNat - 48) ∧ ((s.extract 1 (m + 1)).data.toList.take (k + 1)).all isDg = true by
            rw [take_snocD _ k hkT, valL_snoc, ← hv.out.1, List.all_append, hv.out.2]
            exact ⟨rfl, by simp [isDg, hd]⟩)
          have HDD := Lib.hid hd
          clear hd
          go_wp2_with fail
          refine (isDigit_any _ _).mono ?_
          rintro e w' ⟨rfl, rfl⟩
          rw [HDD.out]
          go_wp2_with fail
          go_roundw
          case rel => exact ⟨k + 1, 10 * v + ((s.extract 1 (m + 1))[k].toNat - 48), by go_num, by omega, by go_num, Lib.hid ⟨HN.out.1.symm, HN.out.2⟩, by simp⟩
          case measure => simp [intOf]; omega
        · have hd' : inB ((s.extract 1 (m + 1))[k].toNat : Int) 48 57 = false := by simpa using hd
          have HDD := Lib.hid hd'
          have hb := Lib.hid (rd_of_all (s := s) (by
            rw [← HD.out, List.all_eq_false]
            exact ⟨(s.extract 1 (m + 1))[k], List.getElem_mem (by rw [Array.length_toList]; exact hkT), by simp [isDg, hd']⟩))
          clear hd hd'
          go_wp2_with fail
          refine (isDigit_any _ _).mono ?_
          rintro e w' ⟨rfl, rfl⟩
          rw [HDD.out]
          go_wp2_with fail
          go_ret2
          exact ⟨ret_rd_no hb.out, Below.refl _ _⟩
      · have hkm : k = m := by omega
        have hvb : v < 1000000000000000000 := Nat.lt_of_lt_of_le hvl (Nat.le_trans (Nat.pow_le_pow_right (by decide) (by omega : _ ≤ 18)) (by decide))
        clear hvl hlen
        have hfull : (s.extract 1 (m + 1)).data.toList.take k = dgs s := by rw [List.take_of_length_le (by rw [Array.length_toList]; show (s.extract 1 (m + 1)).size ≤ k; rw [HSZ.out]; omega), HD.out]
        have hv1 : v = valL (dgs s) := by rw [← hfull]; exact hv.out.1
        have HA := Lib.hid (show (dgs s).all isDg = true by rw [← hfull]; exact hv.out.2)
        have HV := Lib.hid (show rdV s = -(v : Int) by unfold rdV; rw [if_pos HSG.out, ← hv1])
        have j0 : ¬ ((k : Int) < (m : Int)) := by omega
        clear hfull hv1
        have HKM := Lib.hid hkm
        subst hkm
        by_cases hE : dec (-(v : Int)) = s
        · have HE := Lib.hid hE
          have hb := Lib.hid (rd_yes (s := s) (by rw [HDN.out]; exact h0) (by rw [HDN.out]; exact h1) HA.out (by rw [HV.out]; exact hE))
          clear hE
          go_wp2_with fail
          refine (implDecimal_any _ (by omega) (by omega) _ (by exact HT.out)).mono ?_
          rintro e w1 ⟨rfl, b1⟩
          rw [HE.out]
          go_wp2_with fail
          go_ret2
          exact ⟨ret_rd_yes hb.out HV.out, b1⟩
        · have HE := Lib.hid (neD hE)
          have hb := Lib.hid (rd_of_ne (s := s) (by rw [HV.out]; exact hE))
          clear hE
          go_wp2_with fail
          refine (implDecimal_any _ (by omega) (by omega) _ (by exact HT.out)).mono ?_
          rintro e w1 ⟨rfl, b1⟩
          have hE := HE.out
          go_wp2_with fail
          go_ret2
          exact ⟨ret_rd_no hb.out, b1⟩
  · obtain ⟨m, hm⟩ : ∃ m, s.size = m := ⟨_, rfl⟩
    have hsg := sgn_no hz hc
    have hq : ((s[0].toNat : Int) == 45) = false := by simpa using hc
    clear hc
    have hdl : s.data.toList = dgs s := by rw [dgs, if_neg (by rw [hsg]; decide)]
    have hsz : s.size = m := by exact hm
    have HD := Lib.hid hdl
    have HSZ := Lib.hid hsz
    have hdn : (dgs s).length = m := by rw [← hdl, Array.length_toList]; exact hsz
    have HDN := Lib.hid hdn
    have HSG := Lib.hid hsg
    have HM := Lib.hid hm
    clear hdl hsz hdn hsg
    by_cases h01 : 1 ≤ m ∧ m ≤ 18
    rotate_left
    · have hb := Lib.hid (rd_of_len (s := s) (by rw [HDN.out]; exact h01))
      rcases (by omega : m = 0 ∨ 18 < m) with h0 | h0
      · exact absurd HM.out (by omega)
      · have k1 : (18 : Int) < (m : Int) := by omega
        have k2 : ((m : Int) == 0) = false := by simp; omega
        have k3 : ¬ ((m : Int) < 1) := by omega
        have k4 : (0 : Int) < (m : Int) := by omega
        go_enter Tryd.func34, Tryd.ntmps34
        go_wp2_with fail
        go_ret2
        exact ⟨ret_rd_no hb.out, Below.refl _ _⟩
    obtain ⟨h0, h1⟩ := h01
    have k1 : ¬ ((18 : Int) < (m : Int)) := by omega
    have k2 : ((m : Int) == 0) = false := by simp; omega
    have k3 : ¬ ((m : Int) < 1) := by omega
    have k4 : (0 : Int) < (m : Int) := by omega
    go_enter Tryd.func34, Tryd.ntmps34
    go_wp2_with fail
    go_loopw [5, 28] (fun n i wr => ∃ k v : Nat, i = .int .i64 k ∧ k ≤ m ∧ n = .int .i64 (v : Int) ∧ Hid (v = valL (s.data.toList.take k) ∧ (s.data.toList.take k).all isDg = true) ∧ wr = w) (fun _ i _ => m - (intOf i).toNat)
    case atStart => exact ⟨0, 0, rfl, by omega, rfl, Lib.hid ⟨rfl, rfl⟩, rfl⟩
    case round =>
      obtain ⟨k, v, rfl, hk, rfl, hv, rfl⟩ := hrel
      have hlen : (s.data.toList.take k).length ≤ k := List.length_take_le _ _
      have hvl := valL_lt _ hv.out.2
      rw [← hv.out.1] at hvl
      by_cases hlt : k < m
      · have j0 : (k : Int) < (m : Int) := by omega
        have hvb : v < 100000000000000000 := Nat.lt_of_lt_of_le hvl (Nat.le_trans (Nat.pow_le_pow_right (by decide) (by omega : _ ≤ 17)) (by decide))
        clear hvl hlen
        have hkT : k < s.size := by rw [HSZ.out]; exact hlt
        by_cases hd : inB (s[k].toNat : Int) 48 57 = true
        · have hc : 48 ≤ (s[k].toNat : Int) ∧ (s[k].toNat : Int) ≤ 57 := by simpa [inB] using hd
          obtain ⟨hc0, hc1⟩ := hc
          have HN := Lib.hid (show valL (s.data.toList.take (k + 1)) = 10 * v + (s[k].toNat - 48) ∧ (s.data.toList.take (k + 1)).all isDg = true by
            rw [take_snocD _ k hkT, valL_snoc, ← hv.out.1, List.all_append, hv.out.2]
            exact ⟨rfl, by simp [isDg, hd]⟩)
          have HDD := Lib.hid hd
          clear hd
          go_wp2_with fail
          refine (isDigit_any _ _).mono ?_
          rintro e w' ⟨rfl, rfl⟩
          rw [HDD.out]
          go_wp2_with fail
          go_roundw
          case rel => exact ⟨k + 1, 10 * v + (s[k].toNat - 48), by go_num, by omega, by go_num, Lib.hid ⟨HN.out.1.symm, HN.out.2⟩, by simp⟩
          case measure => simp [intOf]; omega
        · have hd' : inB (s[k].toNat : Int) 48 57 = false := by simpa using hd
          have HDD := Lib.hid hd'
          have hb := Lib.hid (rd_of_all (s := s) (by
            rw [← HD.out, List.all_eq_false]
            exact ⟨s[k], List.getElem_mem (by rw [Array.length_toList]; exact hkT), by simp [isDg, hd']⟩))
          clear hd hd'
          go_wp2_with fail
          refine (isDigit_any _ _).mono ?_
          rintro e w' ⟨rfl, rfl⟩
          rw [HDD.out]
          go_wp2_with fail
          go_ret2
          exact ⟨ret_rd_no hb.out, Below.refl _ _⟩
      · have hkm : k = m := by omega
        have hvb : v < 1000000000000000000 := Nat.lt_of_lt_of_le hvl (Nat.le_trans (Nat.pow_le_pow_right (by decide) (by omega : _ ≤ 18)) (by decide))
        clear hvl hlen
        have hfull : s.data.toList.take k = dgs s := by rw [List.take_of_length_le (by rw [Array.length_toList]; show s.size ≤ k; rw [HSZ.out]; omega), HD.out]
        have hv1 : v = valL (dgs s) := by rw [← hfull]; exact hv.out.1
        have HA := Lib.hid (show (dgs s).all isDg = true by rw [← hfull]; exact hv.out.2)
        have HV := Lib.hid (show rdV s = (v : Int) by unfold rdV; rw [if_neg (by rw [HSG.out]; decide), ← hv1])
        have j0 : ¬ ((k : Int) < (m : Int)) := by omega
        clear hfull hv1
        have HKM := Lib.hid hkm
        subst hkm
        by_cases hE : dec ((v : Int)) = s
        · have HE := Lib.hid hE
          have hb := Lib.hid (rd_yes (s := s) (by rw [HDN.out]; exact h0) (by rw [HDN.out]; exact h1) HA.out (by rw [HV.out]; exact hE))
          clear hE
          go_wp2_with fail
          refine (implDecimal_any _ (by omega) (by omega) _ (by exact HT.out)).mono ?_
          rintro e w1 ⟨rfl, b1⟩
          rw [HE.out]
          go_wp2_with fail
          go_ret2
          exact ⟨ret_rd_yes hb.out HV.out, b1⟩
        · have HE := Lib.hid (neD hE)
          have hb := Lib.hid (rd_of_ne (s := s) (by rw [HV.out]; exact hE))
          clear hE
          go_wp2_with fail
          refine (implDecimal_any _ (by omega) (by omega) _ (by exact HT.out)).mono ?_
          rintro e w1 ⟨rfl, b1⟩
          have hE := HE.out
          go_wp2_with fail
          go_ret2
          exact ⟨ret_rd_no hb.out, b1⟩
set_option maxRecDepth 100000 in
set_option maxHeartbeats 4000000 in
theorem l01Number_any (s : ByteArray) (hs : s.size ≤ 1048576) (w : World) : Calls Tryd.prog 48 #[.string s] w fun e w' => e = .returned (.tuple #[.int .i64 (rdN s), .bool (rdB s)]) ∧ Below w.heap.size w w' := by
  rcases Nat.eq_zero_or_pos s.size with hz | hz
  · have hsg := sgn_nil hz
    obtain rfl : s = ⟨#[]⟩ := by
      apply ByteArray.ext
      exact Array.eq_empty_of_size_eq_zero hz
    have hb := Lib.hid (rd_of_len (s := ⟨#[]⟩) (by decide))
    clear hsg hz
    go_enter Tryd.func48, Tryd.ntmps48
    go_wp2_with fail
    go_ret2
    exact ⟨ret_rd_no hb.out, Below.refl _ _⟩
  have z0 : (0 : Int) < (s.size : Int) := by omega
  obtain ⟨z1, z2⟩ := nilD hz
  by_cases hc : (s[0].toNat : Int) = 45
  · obtain ⟨m, hm⟩ : ∃ m, s.size = m + 1 := ⟨s.size - 1, by omega⟩
    have hsg := sgn_yes hz hc
    have hq : ((s[0].toNat : Int) == 45) = true := by simpa using hc
    clear hc
    have hdl : (s.extract 1 (m + 1)).data.toList = dgs s := by rw [tail_toList hm, dgs, if_pos hsg]
    have hsz : (s.extract 1 (m + 1)).size = m := by rw [ByteArray.size_extract]; omega
    have HD := Lib.hid hdl
    have HSZ := Lib.hid hsz
    have hdn : (dgs s).length = m := by rw [← hdl, Array.length_toList]; exact hsz
    have HDN := Lib.hid hdn
    have HSG := Lib.hid hsg
    have HM := Lib.hid hm
    clear hdl hsz hdn hsg
    by_cases h01 : 1 ≤ m ∧ m ≤ 18
    rotate_left
    · have hb := Lib.hid (rd_of_len (s := s) (by rw [HDN.out]; exact h01))
      rcases (by omega : m = 0 ∨ 18 < m) with h0 | h0
      · subst h0
        go_enter Tryd.func48, Tryd.ntmps48
        go_wp2_with fail
        go_ret2
        exact ⟨ret_rd_no hb.out, Below.refl _ _⟩
      · have k1 : (18 : Int) < (m : Int) := by omega
        have k2 : ((m : Int) == 0) = false := by simp; omega
        have k3 : ¬ ((m : Int) < 1) := by omega
        have k4 : (0 : Int) < (m : Int) := by omega
        go_enter Tryd.func48, Tryd.ntmps48
        go_wp2_with fail
        go_ret2
        exact ⟨ret_rd_no hb.out, Below.refl _ _⟩
    obtain ⟨h0, h1⟩ := h01
    have k1 : ¬ ((18 : Int) < (m : Int)) := by omega
    have k2 : ((m : Int) == 0) = false := by simp; omega
    have k3 : ¬ ((m : Int) < 1) := by omega
    have k4 : (0 : Int) < (m : Int) := by omega
    go_enter Tryd.func48, Tryd.ntmps48
    go_wp2_with fail
    go_loopw [5, 6] (fun n i wr => ∃ k v : Nat, i = .int .i64 k ∧ k ≤ m ∧ n = .int .i64 (v : Int) ∧ Hid (v = valL ((s.extract 1 (m + 1)).data.toList.take k) ∧ ((s.extract 1 (m + 1)).data.toList.take k).all isDg = true) ∧ wr = w) (fun _ i _ => m - (intOf i).toNat)
    case atStart => exact ⟨0, 0, rfl, by omega, rfl, Lib.hid ⟨rfl, rfl⟩, rfl⟩
    case round =>
      obtain ⟨k, v, rfl, hk, rfl, hv, rfl⟩ := hrel
      have hlen : ((s.extract 1 (m + 1)).data.toList.take k).length ≤ k := List.length_take_le _ _
      have hvl := valL_lt _ hv.out.2
      rw [← hv.out.1] at hvl
      by_cases hlt : k < m
      · have j0 : (k : Int) < (m : Int) := by omega
        have hvb : v < 100000000000000000 := Nat.lt_of_lt_of_le hvl (Nat.le_trans (Nat.pow_le_pow_right (by decide) (by omega : _ ≤ 17)) (by decide))
        clear hvl hlen
        have hkT : k < (s.extract 1 (m + 1)).size := by rw [HSZ.out]; exact hlt
        by_cases hd : inB ((s.extract 1 (m + 1))[k].toNat : Int) 48 57 = true
        · have hc : 48 ≤ ((s.extract 1 (m + 1))[k].toNat : Int) ∧ ((s.extract 1 (m + 1))[k].toNat : Int) ≤ 57 := by simpa [inB] using hd
          obtain ⟨hc0, hc1⟩ := hc
          have HN := Lib.hid (show valL ((s.extract 1 (m + 1)).data.toList.take (k + 1)) = 10 * v + ((s.extract 1 (m + 1))[k].toNat - 48) ∧ ((s.extract 1 (m + 1)).data.toList.take (k + 1)).all isDg = true by
            rw [take_snocD _ k hkT, valL_snoc, ← hv.out.1, List.all_append, hv.out.2]
            exact ⟨rfl, by simp [isDg, hd]⟩)
          have HDD := Lib.hid hd
          clear hd
          go_wp2_with fail
          refine (digit_any _ _).mono ?_
          rintro e w' ⟨rfl, rfl⟩
          rw [HDD.out]
          go_wp2_with fail
          go_roundw
          case rel => exact ⟨k + 1, 10 * v + ((s.extract 1 (m + 1))[k].toNat - 48), by go_num, by omega, by go_num, Lib.hid ⟨HN.out.1.symm, HN.out.2⟩, by simp⟩
          case measure => simp [intOf]; omega
        · have hd' : inB ((s.extract 1 (m + 1))[k].toNat : Int) 48 57 = false := by simpa using hd
          have HDD := Lib.hid hd'
          have hb := Lib.hid (rd_of_all (s := s) (by
            rw [← HD.out, List.all_eq_false]
            exact ⟨(s.extract 1 (m + 1))[k], List.getElem_mem (by rw [Array.length_toList]; exact hkT), by simp [isDg, hd']⟩))
          clear hd hd'
          go_wp2_with fail
          refine (digit_any _ _).mono ?_
          rintro e w' ⟨rfl, rfl⟩
          rw [HDD.out]
          go_wp2_with fail
          go_ret2
          exact ⟨ret_rd_no hb.out, Below.refl _ _⟩
      · have hkm : k = m := by omega
        have hvb : v < 1000000000000000000 := Nat.lt_of_lt_of_le hvl (Nat.le_trans (Nat.pow_le_pow_right (by decide) (by omega : _ ≤ 18)) (by decide))
        clear hvl hlen
        have hfull : (s.extract 1 (m + 1)).data.toList.take k = dgs s := by rw [List.take_of_length_le (by rw [Array.length_toList]; show (s.extract 1 (m + 1)).size ≤ k; rw [HSZ.out]; omega), HD.out]
        have hv1 : v = valL (dgs s) := by rw [← hfull]; exact hv.out.1
        have HA := Lib.hid (show (dgs s).all isDg = true by rw [← hfull]; exact hv.out.2)
        have HV := Lib.hid (show rdV s = -(v : Int) by unfold rdV; rw [if_pos HSG.out, ← hv1])
        have j0 : ¬ ((k : Int) < (m : Int)) := by omega
        clear hfull hv1
        have HKM := Lib.hid hkm
        subst hkm
        by_cases hE : dec (-(v : Int)) = s
        · have HE := Lib.hid hE
          have hb := Lib.hid (rd_yes (s := s) (by rw [HDN.out]; exact h0) (by rw [HDN.out]; exact h1) HA.out (by rw [HV.out]; exact hE))
          clear hE
          go_wp2_with fail
          refine (l01Dec_any _ (by omega) (by omega) _).mono ?_
          rintro e w1 ⟨rfl, b1⟩
          rw [HE.out]
          go_wp2_with fail
          go_ret2
          exact ⟨ret_rd_yes hb.out HV.out, b1⟩
        · have HE := Lib.hid (neD hE)
          have hb := Lib.hid (rd_of_ne (s := s) (by rw [HV.out]; exact hE))
          clear hE
          go_wp2_with fail
          refine (l01Dec_any _ (by omega) (by omega) _).mono ?_
          rintro e w1 ⟨rfl, b1⟩
          have hE := HE.out
          go_wp2_with fail
          go_ret2
          exact ⟨ret_rd_no hb.out, b1⟩
  · obtain ⟨m, hm⟩ : ∃ m, s.size = m := ⟨_, rfl⟩
    have hsg := sgn_no hz hc
    have hq : ((s[0].toNat : Int) == 45) = false := by simpa using hc
    clear hc
    have hdl : s.data.toList = dgs s := by rw [dgs, if_neg (by rw [hsg]; decide)]
    have hsz : s.size = m := by exact hm
    have HD := Lib.hid hdl
    have HSZ := Lib.hid hsz
    have hdn : (dgs s).length = m := by rw [← hdl, Array.length_toList]; exact hsz
    have HDN := Lib.hid hdn
    have HSG := Lib.hid hsg
    have HM := Lib.hid hm
    clear hdl hsz hdn hsg
    by_cases h01 : 1 ≤ m ∧ m ≤ 18
    rotate_left
    · have hb := Lib.hid (rd_of_len (s := s) (by rw [HDN.out]; exact h01))
      rcases (by omega : m = 0 ∨ 18 < m) with h0 | h0
      · exact absurd HM.out (by omega)
      · have k1 : (18 : Int) < (m : Int) := by omega
        have k2 : ((m : Int) == 0) = false := by simp; omega
        have k3 : ¬ ((m : Int) < 1) := by omega
        have k4 : (0 : Int) < (m : Int) := by omega
        go_enter Tryd.func48, Tryd.ntmps48
        go_wp2_with fail
        go_ret2
        exact ⟨ret_rd_no hb.out, Below.refl _ _⟩
    obtain ⟨h0, h1⟩ := h01
    have k1 : ¬ ((18 : Int) < (m : Int)) := by omega
    have k2 : ((m : Int) == 0) = false := by simp; omega
    have k3 : ¬ ((m : Int) < 1) := by omega
    have k4 : (0 : Int) < (m : Int) := by omega
    go_enter Tryd.func48, Tryd.ntmps48
    go_wp2_with fail
    go_loopw [5, 6] (fun n i wr => ∃ k v : Nat, i = .int .i64 k ∧ k ≤ m ∧ n = .int .i64 (v : Int) ∧ Hid (v = valL (s.data.toList.take k) ∧ (s.data.toList.take k).all isDg = true) ∧ wr = w) (fun _ i _ => m - (intOf i).toNat)
    case atStart => exact ⟨0, 0, rfl, by omega, rfl, Lib.hid ⟨rfl, rfl⟩, rfl⟩
    case round =>
      obtain ⟨k, v, rfl, hk, rfl, hv, rfl⟩ := hrel
      have hlen : (s.data.toList.take k).length ≤ k := List.length_take_le _ _
      have hvl := valL_lt _ hv.out.2
      rw [← hv.out.1] at hvl
      by_cases hlt : k < m
      · have j0 : (k : Int) < (m : Int) := by omega
        have hvb : v < 100000000000000000 := Nat.lt_of_lt_of_le hvl (Nat.le_trans (Nat.pow_le_pow_right (by decide) (by omega : _ ≤ 17)) (by decide))
        clear hvl hlen
        have hkT : k < s.size := by rw [HSZ.out]; exact hlt
        by_cases hd : inB (s[k].toNat : Int) 48 57 = true
        · have hc : 48 ≤ (s[k].toNat : Int) ∧ (s[k].toNat : Int) ≤ 57 := by simpa [inB] using hd
          obtain ⟨hc0, hc1⟩ := hc
          have HN := Lib.hid (show valL (s.data.toList.take (k + 1)) = 10 * v + (s[k].toNat - 48) ∧ (s.data.toList.take (k + 1)).all isDg = true by
            rw [take_snocD _ k hkT, valL_snoc, ← hv.out.1, List.all_append, hv.out.2]
            exact ⟨rfl, by simp [isDg, hd]⟩)
          have HDD := Lib.hid hd
          clear hd
          go_wp2_with fail
          refine (digit_any _ _).mono ?_
          rintro e w' ⟨rfl, rfl⟩
          rw [HDD.out]
          go_wp2_with fail
          go_roundw
          case rel => exact ⟨k + 1, 10 * v + (s[k].toNat - 48), by go_num, by omega, by go_num, Lib.hid ⟨HN.out.1.symm, HN.out.2⟩, by simp⟩
          case measure => simp [intOf]; omega
        · have hd' : inB (s[k].toNat : Int) 48 57 = false := by simpa using hd
          have HDD := Lib.hid hd'
          have hb := Lib.hid (rd_of_all (s := s) (by
            rw [← HD.out, List.all_eq_false]
            exact ⟨s[k], List.getElem_mem (by rw [Array.length_toList]; exact hkT), by simp [isDg, hd']⟩))
          clear hd hd'
          go_wp2_with fail
          refine (digit_any _ _).mono ?_
          rintro e w' ⟨rfl, rfl⟩
          rw [HDD.out]
          go_wp2_with fail
          go_ret2
          exact ⟨ret_rd_no hb.out, Below.refl _ _⟩
      · have hkm : k = m := by omega
        have hvb : v < 1000000000000000000 := Nat.lt_of_lt_of_le hvl (Nat.le_trans (Nat.pow_le_pow_right (by decide) (by omega : _ ≤ 18)) (by decide))
        clear hvl hlen
        have hfull : s.data.toList.take k = dgs s := by rw [List.take_of_length_le (by rw [Array.length_toList]; show s.size ≤ k; rw [HSZ.out]; omega), HD.out]
        have hv1 : v = valL (dgs s) := by rw [← hfull]; exact hv.out.1
        have HA := Lib.hid (show (dgs s).all isDg = true by rw [← hfull]; exact hv.out.2)
        have HV := Lib.hid (show rdV s = (v : Int) by unfold rdV; rw [if_neg (by rw [HSG.out]; decide), ← hv1])
        have j0 : ¬ ((k : Int) < (m : Int)) := by omega
        clear hfull hv1
        have HKM := Lib.hid hkm
        subst hkm
        by_cases hE : dec ((v : Int)) = s
        · have HE := Lib.hid hE
          have hb := Lib.hid (rd_yes (s := s) (by rw [HDN.out]; exact h0) (by rw [HDN.out]; exact h1) HA.out (by rw [HV.out]; exact hE))
          clear hE
          go_wp2_with fail
          refine (l01Dec_any _ (by omega) (by omega) _).mono ?_
          rintro e w1 ⟨rfl, b1⟩
          rw [HE.out]
          go_wp2_with fail
          go_ret2
          exact ⟨ret_rd_yes hb.out HV.out, b1⟩
        · have HE := Lib.hid (neD hE)
          have hb := Lib.hid (rd_of_ne (s := s) (by rw [HV.out]; exact hE))
          clear hE
          go_wp2_with fail
          refine (l01Dec_any _ (by omega) (by omega) _).mono ?_
          rintro e w1 ⟨rfl, b1⟩
          have hE := HE.out
          go_wp2_with fail
          go_ret2
          exact ⟨ret_rd_no hb.out, b1⟩
theorem specReadDecimal_any (s : ByteArray) (hs : s.size ≤ 1048576) (w : World) : Calls Tryd.prog 33 #[.string s] w fun e w' => e = .returned (.tuple #[.int .i64 (rdN s), .bool (rdB s)]) ∧ Below w.heap.size w w' := by
  go_enter Tryd.func33, Tryd.ntmps33
  go_wp2_with fail
  refine (l01Number_any s hs _).mono ?_
  rintro e w1 ⟨rfl, b1⟩
  go_wp2_with fail
  go_ret2
  exact ⟨rfl, b1⟩
set_option maxHeartbeats 1000000 in
theorem FnExactReadDecimal_walk (s : ByteArray) (w : World) (h : s.size ≤ maxLen) (ht : Tab w) : Calls Tryd.prog 8 #[.string s] w fun e w' => e = .returned (.bool true) ∧ Below w.heap.size w w' := by
  unfold maxLen at h
  have HT := Lib.hid ht
  clear ht
  by_cases hs : 1048576 < s.size
  · have j0 : (1048576 : Int) < (s.size : Int) := by omega
    go_enter Tryd.func8, Tryd.ntmps8
    go_wp2_with fail
    go_ret
    exact ⟨rfl, Below.refl _ _⟩
  · have hs' : s.size ≤ 1048576 := by omega
    have j0 : ¬ ((1048576 : Int) < (s.size : Int)) := by omega
    go_enter Tryd.func8, Tryd.ntmps8
    go_wp2_with fail
    refine (specReadDecimal_any s hs' _).mono ?_
    rintro e w1 ⟨rfl, b1⟩
    have B1 := Lib.hid b1
    clear b1
    go_wp2_with fail
    refine (implRead_any s hs' _ (by exact HT.out.below B1.out (Nat.le_refl _))).mono ?_
    rintro e w2 ⟨rfl, b2⟩
    have c2 := Lib.hid (sub_step b2 B1.out rfl)
    clear b2
    go_wp2_with fail
    go_ret
    exact ⟨rfl, c2.out⟩
end Go.Proofs.YtnanaldolnehiabDoor
