/-
  Whether a text is a name: IsName; the law FnExactIsName, walked.
-/
import Derived.Test.YtgeckphkifpbmaaStd
set_option linter.unusedSimpArgs false
set_option linter.unusedVariables false
namespace Go.Proofs.Ytgeckphkifpbmaa
open Go.ChangeShapes Go.WideShapes Go.RowKit Go.Deep

/-- A byte that may stand in a name. -/
def okC (c : UInt8) : Bool := inB (c.toNat : Int) 97 122 || inB (c.toNat : Int) 48 57 || decide ((c.toNat : Int) = 45)
/-- Whether a text is a name. -/
def nameV (s : ByteArray) : Bool := decide (0 < s.size) && decide (s.size ≤ 12) && s.data.toList.all okC && (match s.data.toList with | [] => false | c :: _ => inB (c.toNat : Int) 97 122)
theorem take_snoc (s : ByteArray) (k : Nat) (h : k < s.size) : s.data.toList.take (k + 1) = s.data.toList.take k ++ [s[k]] := by
  rw [List.take_succ_eq_append_getElem (by simpa using h)]; rfl
theorem all_snoc (s : ByteArray) (k : Nat) (h : k < s.size) (ha : (s.data.toList.take k).all okC = true) (hc : okC s[k] = true) : (s.data.toList.take (k + 1)).all okC = true := by
  rw [take_snoc s k h, List.all_append, ha]
  simp [hc]
theorem name_bad (s : ByteArray) (k : Nat) (h : k < s.size) (hc : okC s[k] = false) : nameV s = false := by
  have hm : s[k] ∈ s.data.toList := by
    have : s[k] = s.data.toList[k]'(by simpa using h) := rfl
    rw [this]
    exact List.getElem_mem _
  have : s.data.toList.all okC = false := by
    rw [List.all_eq_false]
    exact ⟨_, hm, by simp [hc]⟩
  simp [nameV, this]
theorem first_eq (s : ByteArray) (h : 0 < s.size) : (match s.data.toList with | [] => false | c :: _ => inB (c.toNat : Int) 97 122) = inB (s[0].toNat : Int) 97 122 := by
  have e : s.data.toList = s[0] :: s.data.toList.drop 1 := by
    have := take_snoc s 0 h
    have h2 := List.take_append_drop 1 s.data.toList
    rw [this] at h2
    simpa using h2.symm
  rw [e]
theorem name_first (s : ByteArray) (h : 0 < s.size) (hc : inB (s[0].toNat : Int) 97 122 = false) : nameV s = false := by
  have := first_eq s h
  simp only [nameV, this, hc, Bool.and_false]
theorem name_ok (s : ByteArray) (h : 0 < s.size) (h2 : s.size ≤ 12) (ha : s.data.toList.all okC = true) (hc : inB (s[0].toNat : Int) 97 122 = true) : nameV s = true := by
  have := first_eq s h
  simp only [nameV, this, hc, ha, Bool.and_true, decide_eq_true h, decide_eq_true h2]
theorem ret_b {a b : Bool} (h : a = b) : Ending.returned (.bool a) = .returned (.bool b) := by rw [h]

theorem small_any (c : Int) (w : World) : Calls Try.prog 68 #[.int .u8 c] w fun e w' => e = .returned (.bool (inB c 97 122)) ∧ w = w' := by
  by_cases h0 : c < 97
  · go_enter Try.func68, Try.ntmps68
    go_wp2
    go_ret
    exact ⟨ret_b (by simp [inB]; omega), rfl⟩
  by_cases h1 : 122 < c
  · go_enter Try.func68, Try.ntmps68
    go_wp2
    go_ret
    exact ⟨ret_b (by simp [inB]; omega), rfl⟩
  · go_enter Try.func68, Try.ntmps68
    go_wp2
    go_ret
    exact ⟨ret_b (by simp [inB]; omega), rfl⟩

theorem digit_any (c : Int) (w : World) : Calls Try.prog 69 #[.int .u8 c] w fun e w' => e = .returned (.bool (inB c 48 57)) ∧ w = w' := by
  by_cases h0 : c < 48
  · go_enter Try.func69, Try.ntmps69
    go_wp2
    go_ret
    exact ⟨ret_b (by simp [inB]; omega), rfl⟩
  by_cases h1 : 57 < c
  · go_enter Try.func69, Try.ntmps69
    go_wp2
    go_ret
    exact ⟨ret_b (by simp [inB]; omega), rfl⟩
  · go_enter Try.func69, Try.ntmps69
    go_wp2
    go_ret
    exact ⟨ret_b (by simp [inB]; omega), rfl⟩

theorem isDigit_any (c : Int) (w : World) : Calls Try.prog 70 #[.int .u8 c] w fun e w' => e = .returned (.bool (inB c 48 57)) ∧ w = w' := by
  by_cases h0 : c < 48
  · go_enter Try.func70, Try.ntmps70
    go_wp2
    go_ret
    exact ⟨ret_b (by simp [inB]; omega), rfl⟩
  by_cases h1 : 57 < c
  · go_enter Try.func70, Try.ntmps70
    go_wp2
    go_ret
    exact ⟨ret_b (by simp [inB]; omega), rfl⟩
  · go_enter Try.func70, Try.ntmps70
    go_wp2
    go_ret
    exact ⟨ret_b (by simp [inB]; omega), rfl⟩

set_option maxHeartbeats 2000000 in
theorem specIsName_any (s : ByteArray) (w : World) (hs : s.size ≤ 9223372036854775807) :
    Calls Try.prog 23 #[.string s] w fun e w' => e = .returned (.bool (nameV s)) ∧ w = w' := by
  rcases Nat.eq_zero_or_pos s.size with h0 | h0
  · obtain rfl : s = ⟨#[]⟩ := by
      apply ByteArray.ext
      exact Array.eq_empty_of_size_eq_zero h0
    have hv : nameV ⟨#[]⟩ = false := by rfl
    rw [hv]
    clear hv h0
    go_enter Try.func23, Try.ntmps23
    go_wp2
    go_ret
    exact ⟨rfl, rfl⟩
  have q0 : (s.toList == []) = false := ne_lit (l := []) (by rintro rfl; exact absurd h0 (by decide))
  have q1 : ([] == s.toList) = false := lit_ne (l := []) (by rintro rfl; exact absurd h0 (by decide))
  by_cases h1 : 12 < s.size
  · have hv : nameV s = false := by
      have : ¬ (s.size ≤ 12) := by omega
      simp [nameV, this]
    rw [hv]
    clear hv
    go_enter Try.func23, Try.ntmps23
    go_wp2
    go_ret
    exact ⟨rfl, rfl⟩
  cases e0 : inB (s[0].toNat : Int) 97 122
  · rw [name_first s h0 e0]
    go_enter Try.func23, Try.ntmps23
    go_wp2_with (go_at_call 68; refine (small_any _ _).mono ?_; rintro e w' ⟨rfl, rfl⟩)
    go_ret
    exact ⟨rfl, rfl⟩
  go_enter Try.func23, Try.ntmps23
  go_wp2_with (go_at_call 68; refine (small_any _ _).mono ?_; rintro e w' ⟨rfl, rfl⟩)
  go_loopw [3] (fun i wr => ∃ k : Nat, k ≤ s.size ∧ i = .int .i64 k ∧ Hid ((s.data.toList.take k).all okC = true) ∧ wr = w) (fun i _ => s.size - (intOf i).toNat)
  case atStart => exact ⟨0, Nat.zero_le _, rfl, rfl, rfl⟩
  case round =>
    obtain ⟨k, hk, rfl, ht, rfl⟩ := hrel
    by_cases hlt : k < s.size
    · cases e1 : inB (s[k].toNat : Int) 97 122
      · cases e2 : inB (s[k].toNat : Int) 48 57
        · by_cases e3 : (s[k].toNat : Int) = 45
          · have hc : okC s[k] = true := by simp [okC, e3]
            have HC := Lib.hid (all_snoc s k hlt ht.out hc)
            clear hc
            have e4 : ((s[k].toNat : Int) != 45) = false := by simpa using e3
            go_wp2_with (first | (go_at_call 68; refine (small_any _ _).mono ?_; rintro e w' ⟨rfl, rfl⟩) | (go_at_call 69; refine (digit_any _ _).mono ?_; rintro e w' ⟨rfl, rfl⟩))
            go_roundw
            case rel => exact ⟨k + 1, by omega, by go_num, HC.out, by simp⟩
            case measure => simp [intOf]; omega
          · have hc : okC s[k] = false := by simp [okC, e1, e2, e3]
            have HV := Lib.hid (name_bad s k hlt hc)
            clear hc
            have e4 : ((s[k].toNat : Int) != 45) = true := by simpa using e3
            go_wp2_with (first | (go_at_call 68; refine (small_any _ _).mono ?_; rintro e w' ⟨rfl, rfl⟩) | (go_at_call 69; refine (digit_any _ _).mono ?_; rintro e w' ⟨rfl, rfl⟩))
            go_ret
            exact ⟨ret_b (by rw [HV.out]), by simp⟩
        · have hc : okC s[k] = true := by simp [okC, e2]
          have HC := Lib.hid (all_snoc s k hlt ht.out hc)
          clear hc
          go_wp2_with (first | (go_at_call 68; refine (small_any _ _).mono ?_; rintro e w' ⟨rfl, rfl⟩) | (go_at_call 69; refine (digit_any _ _).mono ?_; rintro e w' ⟨rfl, rfl⟩))
          go_roundw
          case rel => exact ⟨k + 1, by omega, by go_num, HC.out, by simp⟩
          case measure => simp [intOf]; omega
      · have hc : okC s[k] = true := by simp [okC, e1]
        have HC := Lib.hid (all_snoc s k hlt ht.out hc)
        clear hc
        go_wp2_with (first | (go_at_call 68; refine (small_any _ _).mono ?_; rintro e w' ⟨rfl, rfl⟩) | (go_at_call 69; refine (digit_any _ _).mono ?_; rintro e w' ⟨rfl, rfl⟩))
        go_roundw
        case rel => exact ⟨k + 1, by omega, by go_num, HC.out, by simp⟩
        case measure => simp [intOf]; omega
    · have hv : nameV s = true := name_ok s h0 (by omega) (by have := ht.out; rwa [List.take_of_length_le (by simp; omega)] at this) e0
      have HV := Lib.hid hv
      clear hv
      go_wp2
      go_ret
      exact ⟨ret_b (by rw [HV.out]), by simp⟩

set_option maxHeartbeats 2000000 in
theorem IsName_any (s : ByteArray) (w : World) (hs : s.size ≤ 9223372036854775807) :
    Calls Try.prog 24 #[.string s] w fun e w' => e = .returned (.bool (nameV s)) ∧ w = w' := by
  rcases Nat.eq_zero_or_pos s.size with h0 | h0
  · have hv : nameV s = false := by simp [nameV, h0]
    rw [hv]
    clear hv
    go_enter Try.func24, Try.ntmps24
    go_wp2
    go_ret
    exact ⟨rfl, rfl⟩
  have z0 : ¬ ((s.size : Int) = 0) := by omega
  have z1 : ((s.size : Int) == 0) = false := by simpa using z0
  by_cases h1 : 12 < s.size
  · have hv : nameV s = false := by
      have : ¬ (s.size ≤ 12) := by omega
      simp [nameV, this]
    rw [hv]
    clear hv
    go_enter Try.func24, Try.ntmps24
    go_wp2
    go_ret
    exact ⟨rfl, rfl⟩
  go_enter Try.func24, Try.ntmps24
  go_wp2
  go_loopw [15] (fun i wr => ∃ k : Nat, k ≤ s.size ∧ i = .int .i64 k ∧ Hid ((s.data.toList.take k).all okC = true ∧ (0 < k → inB (s[0].toNat : Int) 97 122 = true)) ∧ wr = w) (fun i _ => s.size - (intOf i).toNat)
  case atStart => exact ⟨0, Nat.zero_le _, rfl, ⟨rfl, fun h => absurd h (by omega)⟩, rfl⟩
  case round =>
    obtain ⟨k, hk, rfl, ht, rfl⟩ := hrel
    by_cases hlt : k < s.size
    · by_cases s0 : 97 ≤ (s[k].toNat : Int) ∧ (s[k].toNat : Int) ≤ 122
      · obtain ⟨s1, s2⟩ := s0
        have HC := Lib.hid (all_snoc s k hlt ht.out.1 (by simp [okC, inB, s1, s2]))
        have HF := Lib.hid (show 0 < k + 1 → inB (s[0].toNat : Int) 97 122 = true from fun _ => by
          rcases Nat.eq_zero_or_pos k with hz | hz
          · subst hz
            simp [inB, s1, s2]
          · exact ht.out.2 hz)
        go_wp2
        go_roundw
        case rel => exact ⟨k + 1, by omega, by go_num, ⟨HC.out, HF.out⟩, by simp⟩
        case measure => simp [intOf]; omega
      have s3 : (s[k].toNat : Int) < 97 ∨ 122 < (s[k].toNat : Int) := by omega
      have s4 : inB (s[k].toNat : Int) 97 122 = false := by simp [inB]; omega
      have S4 := Lib.hid s4
      clear s0 s4
      rcases Nat.eq_zero_or_pos k with hz | hz
      · subst hz
        have HV := Lib.hid (name_first s h0 S4.out)
        rcases s3 with s3 | s3
        all_goals
          (try have d1 : decide ((s[0].toNat : Int) ≤ 122) = false := (by simp; omega))
          go_wp2
          go_ret
          exact ⟨ret_b (by rw [HV.out]), by simp⟩
      have HF := Lib.hid (show 0 < k + 1 → inB (s[0].toNat : Int) 97 122 = true from fun _ => ht.out.2 hz)
      have kz : ¬ ((k : Int) = 0) := by omega
      have kz2 : ((k : Int) == 0) = false := by simpa using kz
      by_cases e3 : (s[k].toNat : Int) = 45
      · have HC := Lib.hid (all_snoc s k hlt ht.out.1 (by simp [okC, e3]))
        go_wp2_with (go_at_call 70; refine (isDigit_any _ _).mono ?_; rintro e w' ⟨rfl, rfl⟩)
        go_roundw
        case rel => exact ⟨k + 1, by omega, by go_num, ⟨HC.out, HF.out⟩, by simp⟩
        case measure => simp [intOf]; omega
      have e4 : ((s[k].toNat : Int) != 45) = true := by simpa using e3
      cases e2 : inB (s[k].toNat : Int) 48 57
      · have hv := name_bad s k hlt (by simp [okC, S4.out, e2, e3])
        have HV := Lib.hid hv
        clear hv
        rcases s3 with s3 | s3
        all_goals
          (try have d1 : decide ((s[k].toNat : Int) ≤ 122) = false := (by simp; omega))
          go_wp2_with (go_at_call 70; refine (isDigit_any _ _).mono ?_; rintro e w' ⟨rfl, rfl⟩)
          go_ret
          exact ⟨ret_b (by rw [HV.out]), by simp⟩
      · have HC := Lib.hid (all_snoc s k hlt ht.out.1 (by simp [okC, e2]))
        rcases s3 with s3 | s3
        all_goals
          (try have d1 : decide ((s[k].toNat : Int) ≤ 122) = false := (by simp; omega))
          go_wp2_with (go_at_call 70; refine (isDigit_any _ _).mono ?_; rintro e w' ⟨rfl, rfl⟩)
          go_roundw
          case rel => exact ⟨k + 1, by omega, by go_num, ⟨HC.out, HF.out⟩, by simp⟩
          case measure => simp [intOf]; omega
    · have hv : nameV s = true := name_ok s h0 (by omega) (by have := ht.out.1; rwa [List.take_of_length_le (by simp; omega)] at this) (ht.out.2 (by omega))
      have HV := Lib.hid hv
      clear hv
      go_wp2
      go_ret
      exact ⟨ret_b (by rw [HV.out]), by simp⟩

set_option maxHeartbeats 1000000 in
theorem FnExactIsName_walk (a0 : ByteArray) (w : World) (hs0 : a0.size ≤ maxLen) :
    Calls Try.prog 4 #[.string a0] w fun e w' => e = .returned (.bool true) ∧ Below w.heap.size w w' := by
  have hs : a0.size ≤ 9223372036854775807 := by unfold maxLen at hs0; omega
  clear hs0
  by_cases hl : 1048576 < a0.size
  · go_enter Try.func4, Try.ntmps4
    go_wp2
    go_ret
    exact ⟨rfl, (by repeat (first | with_reducible exact Below.refl _ _ | with_reducible assumption | with_reducible refine sub_alloc ?_ _ | (with_reducible refine sub_setCell2 ?_ ?_ _; (focus (first | (simp; done) | (simp <;> omega)))) | with_reducible refine sub_drew ?_ | with_reducible refine below_drewN ?_ _ | with_reducible refine sub_step (by assumption) ?_ (by first | rfl | (simp; done)) | exact Below.refl _ _ | assumption | refine sub_alloc ?_ _ | refine sub_setCell ?_ (by simp <;> omega) _ | refine sub_drew ?_ | refine below_drewN ?_ _ | refine sub_step (by assumption) ?_ (by first | rfl | (simp; done))))⟩
  · go_enter Try.func4, Try.ntmps4
    go_wp2_with fail
    refine (specIsName_any _ _ hs).mono ?_
    rintro e w1 ⟨rfl, rfl⟩
    go_wp2_with fail
    refine (IsName_any _ _ hs).mono ?_
    rintro e w2 ⟨rfl, rfl⟩
    go_wp2_with fail
    go_ret
    exact ⟨rfl, (by repeat (first | with_reducible exact Below.refl _ _ | with_reducible assumption | with_reducible refine sub_alloc ?_ _ | (with_reducible refine sub_setCell2 ?_ ?_ _; (focus (first | (simp; done) | (simp <;> omega)))) | with_reducible refine sub_drew ?_ | with_reducible refine below_drewN ?_ _ | with_reducible refine sub_step (by assumption) ?_ (by first | rfl | (simp; done)) | exact Below.refl _ _ | assumption | refine sub_alloc ?_ _ | refine sub_setCell ?_ (by simp <;> omega) _ | refine sub_drew ?_ | refine below_drewN ?_ _ | refine sub_step (by assumption) ?_ (by first | rfl | (simp; done))))⟩
end Go.Proofs.Ytgeckphkifpbmaa
