/-
  Sums of lists of numbers from 0 to 96: sumOf, l04Sum.
-/
import Derived.Test.YtnanaldolnehiaaRules
import Derived.Test.YtnanaldolnehiaaLists
namespace Go.Proofs.Ytnanaldolnehiaa
open Go.ChangeShapes Go.WideShapes Go.RowKit Go.Deep

def okN (zs : List Int) : Bool := zs.all (fun z => inB z 0 96)
theorem okN_bd (zs : List Int) (h : okN zs = true) : 0 ≤ zs.sum ∧ zs.sum ≤ 96 * zs.length := by
  induction zs with
  | nil => simp
  | cons z r ih =>
    simp [okN, inB] at h
    have := ih (by simpa [okN, inB] using h.2)
    simp only [List.sum_cons, List.length_cons]
    push_cast
    omega
theorem okN_snoc {zs : List Int} {k : Nat} {x : Int} (hx : zs[k]? = some x) : okN (zs.take (k + 1)) = (okN (zs.take k) && inB x 0 96) := by
  rw [List.take_add_one, hx]; simp [okN]
theorem sum_snoc {zs : List Int} {k : Nat} {x : Int} (hx : zs[k]? = some x) : (zs.take (k + 1)).sum = (zs.take k).sum + x := by
  rw [List.take_add_one, hx]; simp
theorem okN_not {zs : List Int} {k : Nat} {x : Int} (hx : zs[k]? = some x) (h : inB x 0 96 = false) : okN zs = false := by
  have : x ∈ zs := List.mem_of_getElem? hx
  simp only [okN, List.all_eq_false]
  exact ⟨x, this, by simp [h]⟩

/-- What sumOf returns. -/
def sumV (zs : List Int) : Int := if okN zs then zs.sum else 0
/-- What l04Sum returns. -/
def sumL (zs : List Int) : Int := if okN zs && decide (zs.sum ≤ 96) then zs.sum else -1

set_option maxHeartbeats 400000 in
theorem sumOf_any (B : Nat) (A : Option Addr) (n c : Nat) (zs : List Int) (w : World) (h : Ints w B A n c zs) (hn : n ≤ 4294967296) :
    Calls Try.prog 153 #[.slice A n c] w fun e w' => e = .returned (.tuple #[.int .i64 (sumV zs), .bool (okN zs)]) ∧ ∃ m, w' = w.drewN m := by
  have hm := h.le
  have hl := h.len
  have HL := Lib.hid hl
  rcases Nat.eq_zero_or_pos n with h0 | h0
  · obtain rfl : zs = [] := List.eq_nil_of_length_eq_zero (by omega)
    subst h0
    clear hl h
    go_enter Try.func153, Try.ntmps153
    go_wp2
    refine wp_loop_rounds 1 ?_; rw [rounds_succ]
    go_wp2
    go_ret2
    exact ⟨by simp [sumV, okN], 0, rfl⟩
  obtain ⟨b, off, rfl, -, hc⟩ := h.at_ h0
  clear hl h
  go_enter Try.func153, Try.ntmps153
  go_wp2
  go_loopw [4, 9] (fun s i wr => ∃ k : Nat, k ≤ n ∧ i = .int .i64 k ∧ s = .int .i64 (zs.take k).sum ∧ Hid (okN (zs.take k) = true) ∧ ∃ m, wr = w.drewN m) (fun _ i _ => n - (intOf i).toNat)
  case atStart => exact ⟨0, Nat.zero_le _, rfl, by simp, rfl, 0, rfl⟩
  case round =>
    obtain ⟨k, hk, rfl, rfl, ht, m, rfl⟩ := hrel
    have hbd := okN_bd _ ht.out
    have hbl : (zs.take k).length ≤ 4294967296 := by rw [List.length_take]; omega
    by_cases hlt : k < n
    · obtain ⟨x, hx⟩ := get_some (zs := zs) (k := k) (by rw [HL.out]; exact hlt)
      have cx := hc k x hx
      have HX := Lib.hid hx
      clear hx hc
      have i0 : (0 : Int) ≤ (k : Int) := by omega
      have i1 : (k : Int) < (n : Int) := by omega
      cases hi : inB x 0 96
      · go_wp2_with (go_at_call 117; refine (between_any _ _ _ _).mono ?_; rintro e w' ⟨rfl, rfl⟩)
        go_ret2
        exact ⟨by simp [sumV, okN_not HX.out hi], _, rfl⟩
      · obtain ⟨hx0, hx1⟩ : 0 ≤ x ∧ x ≤ 96 := by simpa [inB] using hi
        go_wp2_with (go_at_call 117; refine (between_any _ _ _ _).mono ?_; rintro e w' ⟨rfl, rfl⟩)
        go_roundw
        case rel => exact ⟨k + 1, by omega, by go_num, by rw [sum_snoc HX.out], by rw [okN_snoc HX.out, ht.out, hi]; rfl, _, rfl⟩
        case measure => simp [intOf]; omega
    · have hkn : k = n := by omega
      have HK := Lib.hid hkn
      clear hkn hc
      have e1 : zs.take k = zs := by rw [HK.out, ← HL.out, List.take_length]
      rw [e1] at ht ⊢
      go_wp2
      go_ret2
      exact ⟨by simp [sumV, ht.out], _, rfl⟩
set_option maxHeartbeats 400000 in
theorem l04Sum_any (B : Nat) (A : Option Addr) (n c : Nat) (zs : List Int) (w : World) (h : Ints w B A n c zs) (hn : n ≤ 4294967296) :
    Calls Try.prog 138 #[.slice A n c] w fun e w' => e = .returned (.int .i64 (sumL zs)) ∧ ∃ m, w' = w.drewN m := by
  have hm := h.le
  have hl := h.len
  have HL := Lib.hid hl
  rcases Nat.eq_zero_or_pos n with h0 | h0
  · obtain rfl : zs = [] := List.eq_nil_of_length_eq_zero (by omega)
    subst h0
    clear hl h
    go_enter Try.func138, Try.ntmps138
    go_wp2
    refine wp_loop_rounds 1 ?_; rw [rounds_succ]
    go_wp2
    go_ret
    exact ⟨by simp [sumL, okN], 0, rfl⟩
  obtain ⟨b, off, rfl, -, hc⟩ := h.at_ h0
  clear hl h
  go_enter Try.func138, Try.ntmps138
  go_wp2
  go_loopw [3, 4] (fun s i wr => ∃ k : Nat, k ≤ n ∧ i = .int .i64 k ∧ s = .int .i64 (zs.take k).sum ∧ Hid (okN (zs.take k) = true) ∧ ∃ m, wr = w.drewN m) (fun _ i _ => n - (intOf i).toNat)
  case atStart => exact ⟨0, Nat.zero_le _, rfl, by simp, rfl, 0, rfl⟩
  case round =>
    obtain ⟨k, hk, rfl, rfl, ht, m, rfl⟩ := hrel
    have hbd := okN_bd _ ht.out
    have hbl : (zs.take k).length ≤ 4294967296 := by rw [List.length_take]; omega
    by_cases hlt : k < n
    · obtain ⟨x, hx⟩ := get_some (zs := zs) (k := k) (by rw [HL.out]; exact hlt)
      have cx := hc k x hx
      have HX := Lib.hid hx
      clear hx hc
      have i0 : (0 : Int) ≤ (k : Int) := by omega
      have i1 : (k : Int) < (n : Int) := by omega
      cases hi : inB x 0 96
      · go_wp2_with (go_at_call 99; refine (l00In_any _ _ _ _).mono ?_; rintro e w' ⟨rfl, rfl⟩)
        go_ret
        exact ⟨by simp [sumL, okN_not HX.out hi], _, rfl⟩
      · obtain ⟨hx0, hx1⟩ : 0 ≤ x ∧ x ≤ 96 := by simpa [inB] using hi
        go_wp2_with (go_at_call 99; refine (l00In_any _ _ _ _).mono ?_; rintro e w' ⟨rfl, rfl⟩)
        go_roundw
        case rel => exact ⟨k + 1, by omega, by go_num, by rw [sum_snoc HX.out], by rw [okN_snoc HX.out, ht.out, hi]; rfl, _, rfl⟩
        case measure => simp [intOf]; omega
    · have hkn : k = n := by omega
      have HK := Lib.hid hkn
      clear hkn hc
      have e1 : zs.take k = zs := by rw [HK.out, ← HL.out, List.take_length]
      rw [e1] at ht ⊢
      by_cases h96 : zs.sum ≤ 96
      · go_wp2
        go_ret
        exact ⟨by simp [sumL, ht.out, h96], _, rfl⟩
      · replace h96 : 96 < zs.sum := by omega
        go_wp2
        go_ret
        exact ⟨by have hs : sumL zs = -1 := (by simp only [sumL, ht.out, Bool.true_and, decide_eq_true_eq, if_neg (Int.not_le.mpr h96)]); simp [hs], _, rfl⟩
end Go.Proofs.Ytnanaldolnehiaa
