/-
  Numbers joined to a text: l10Moves, l04Join, joined; MovesText; the law FnExactMovesText, walked.
-/
import Derived.Test.YtnanaldolnehiabDoorRead
import Derived.Test.YtnanaldolnehiabDoorLists
set_option linter.unusedSimpArgs false
set_option linter.unusedVariables false
namespace Go.Proofs.YtnanaldolnehiabDoor
open Go.ChangeShapes Go.WideShapes Go.RowKit Go.Deep

/-- The first k numbers of a list, with a byte between them. -/
def jn (c : UInt8) (xs : List Int) : Nat → ByteArray
  | 0 => ⟨#[]⟩
  | k + 1 => (if 0 < k then jn c xs k ++ ⟨#[c]⟩ else jn c xs k) ++ dec (xs.getD k 0)
theorem getD_of {xs : List Int} {k : Nat} {x : Int} (h : xs[k]? = some x) : xs.getD k 0 = x := by simp [List.getD, h]
theorem jn_first {c : UInt8} {xs : List Int} {k : Nat} {x : Int} (h : xs[k]? = some x) (hk : k = 0) : jn c xs (k + 1) = jn c xs k ++ dec x := by
  rw [jn, if_neg (by omega), getD_of h]
theorem jn_next {c : UInt8} {xs : List Int} {k : Nat} {x : Int} (h : xs[k]? = some x) (hk : 0 < k) : jn c xs (k + 1) = jn c xs k ++ ⟨#[c]⟩ ++ dec x := by
  rw [jn, if_pos hk, getD_of h]
theorem jn_size (c : UInt8) (xs : List Int) (hx : ∀ z ∈ xs, in64 z) : ∀ k, k ≤ xs.length → (jn c xs k).size ≤ 22 * k
  | 0, _ => by rw [jn]; decide
  | k + 1, hk => by
    have ih := jn_size c xs hx k (by omega)
    obtain ⟨x, h⟩ := get_some (zs := xs) (k := k) (by omega)
    have hxx := hx x (List.mem_of_getElem? h)
    have hd := dec_size hxx.1 hxx.2
    rcases Nat.eq_zero_or_pos k with h0 | h0
    · rw [jn_first h h0, ByteArray.size_append]; omega
    · rw [jn_next h h0, ByteArray.size_append, ByteArray.size_append]
      have : (⟨#[c]⟩ : ByteArray).size = 1 := rfl
      omega
/-- Whether moves can be written. -/
def okM (xs : List Int) : Bool := xs.all (fun z => inB z 0 7) && decide (xs.length ≤ 120)
theorem ret_js {a b : ByteArray} (h : a = b) : Ending.returned (.string a) = .returned (.string b) := by rw [h]
def mvT (xs : List Int) : ByteArray := if okM xs = true then jn 32 xs xs.length else ⟨#[]⟩
theorem all_snocM {xs : List Int} {k : Nat} {x : Int} (h : xs[k]? = some x) (ha : (xs.take k).all (fun z => inB z 0 7) = true) (hx : inB x 0 7 = true) : (xs.take (k + 1)).all (fun z => inB z 0 7) = true := by
  rw [List.take_add_one, h, List.all_append, ha]
  simp [hx]
theorem okM_bad {xs : List Int} {k : Nat} {x : Int} (h : xs[k]? = some x) (hx : inB x 0 7 = false) : okM xs = false := by
  have : xs.all (fun z => inB z 0 7) = false := by
    rw [List.all_eq_false]
    exact ⟨x, List.mem_of_getElem? h, by simp [hx]⟩
  simp [okM, this]
theorem okM_long {xs : List Int} (h : 120 < xs.length) : okM xs = false := by simp [okM]; intro _; omega
theorem okM_yes {xs : List Int} (h : xs.length ≤ 120) (ha : (xs.take xs.length).all (fun z => inB z 0 7) = true) : okM xs = true := by
  rw [List.take_of_length_le (Nat.le_refl _)] at ha
  simp only [okM, ha, Bool.true_and, decide_eq_true_eq]
  exact h
theorem okM_in {xs : List Int} (h : okM xs = true) : xs.length ≤ 120 ∧ ∀ z ∈ xs, in64 z := by
  simp only [okM, Bool.and_eq_true, decide_eq_true_eq, List.all_eq_true] at h
  refine ⟨h.2, fun z hz => ?_⟩
  have := h.1 z hz
  simp only [inB, decide_eq_true_eq] at this
  unfold in64
  omega
set_option maxRecDepth 100000 in
set_option maxHeartbeats 2000000 in
theorem l10Moves_any (B : Nat) (A : Option Addr) (n c : Nat) (xs : List Int) (w : World) (h : Ints w B A n c xs) (hx : ∀ z ∈ xs, in64 z) (hB : B ≤ w.heap.size) (hn : n ≤ 4096) : Calls Tryd.prog 63 #[.slice A n c] w fun e w' => e = .returned (.string (jn 32 xs n)) ∧ Below w.heap.size w w' := by
  have HH := Lib.hid h
  have hle := h.le
  have HL := Lib.hid h.len
  clear h
  have HX := Lib.hid hx
  clear hx
  go_enter Tryd.func63, Tryd.ntmps63
  go_wp2_with fail
  go_loopw [3, 4] (fun q i wr => ∃ (k : Nat) (J : ByteArray), i = .int .i64 k ∧ k ≤ n ∧ q = .string J ∧ J.size ≤ 22 * k ∧ Hid (J = jn 32 xs k) ∧ Below w.heap.size w wr) (fun _ i _ => n - (intOf i).toNat)
  case atStart => exact ⟨0, ⟨#[]⟩, rfl, Nat.zero_le _, rfl, by decide, Lib.hid rfl, Below.refl _ _⟩
  case round =>
    obtain ⟨k, J, rfl, hk, rfl, hJ, hJe, hb⟩ := hrel
    have HB := Lib.hid hb
    have hsz := hb.size
    clear hb
    by_cases hlt : k < n
    · obtain ⟨x, hx⟩ := get_some (zs := xs) (k := k) (by rw [HL.out]; exact hlt)
      obtain ⟨b, off, hA, hbB, hc⟩ := HH.out.at_ (by omega)
      subst hA
      have cx : wr.cell? ⟨b, off + k, none⟩ = some (.int .i64 x) := (HB.out.cell (p := ⟨b, off + k, none⟩) (by show b < _; omega)).trans (hc k x hx)
      have X := Lib.hid hx
      have i0 : (0 : Int) ≤ (k : Int) := by omega
      have i1 : (k : Int) < (n : Int) := by omega
      clear hx hc
      obtain ⟨hx0, hx1⟩ := HX.out x (List.mem_of_getElem? X.out)
      have hd := dec_size hx0 hx1
      rcases Nat.eq_zero_or_pos k with h0 | h0
      · have k0 : ¬ ((0 : Int) < (k : Int)) := by omega
        have n1 : ¬ 9223372036854775807 < J.size + (dec x).size := by omega
        have H0 := Lib.hid h0
        clear h0
        go_wp2_with fail
        refine (l01Dec_any x hx0 hx1 _).mono ?_
        rintro e w1 ⟨rfl, b1⟩
        have B1 := Lib.hid (HB.out.trans (b1.mono hsz))
        clear b1
        go_wp2_with fail
        go_roundw
        case rel => exact ⟨k + 1, J ++ dec x, by go_num, by omega, rfl, by rw [ByteArray.size_append]; omega, Lib.hid (by rw [jn_first X.out H0.out, ← hJe.out]), B1.out⟩
        case measure => simp [intOf]; omega
      · have k0 : (0 : Int) < (k : Int) := by omega
        have n1 : ¬ 9223372036854775807 < J.size + 1 := by omega
        have n2 : ¬ 9223372036854775807 < J.size + 1 + (dec x).size := by omega
        have H0 := Lib.hid h0
        clear h0
        go_wp2_with fail
        refine (l01Dec_any x hx0 hx1 _).mono ?_
        rintro e w1 ⟨rfl, b1⟩
        have B1 := Lib.hid (HB.out.trans (b1.mono hsz))
        clear b1
        go_wp2_with fail
        go_roundw
        case rel => exact ⟨k + 1, J ++ ⟨#[32]⟩ ++ dec x, by go_num, by omega, rfl, by rw [ByteArray.size_append, ByteArray.size_append]; have : (⟨#[32]⟩ : ByteArray).size = 1 := rfl; omega, Lib.hid (by rw [jn_next X.out H0.out, ← hJe.out]), B1.out⟩
        case measure => simp [intOf]; omega
    · have hkn : k = n := by omega
      have HK := Lib.hid hkn
      have j1 : ¬ ((k : Int) < (n : Int)) := by omega
      clear hkn
      go_wp2_with fail
      go_ret
      exact ⟨ret_js (by have e := HK.out; subst e; exact hJe.out), HB.out⟩
set_option maxRecDepth 100000 in
set_option maxHeartbeats 2000000 in
theorem l04Join_any (B : Nat) (A : Option Addr) (n c : Nat) (xs : List Int) (w : World) (h : Ints w B A n c xs) (hx : ∀ z ∈ xs, in64 z) (hB : B ≤ w.heap.size) (hn : n ≤ 4096) : Calls Tryd.prog 86 #[.slice A n c] w fun e w' => e = .returned (.string (jn 44 xs n)) ∧ Below w.heap.size w w' := by
  have HH := Lib.hid h
  have hle := h.le
  have HL := Lib.hid h.len
  clear h
  have HX := Lib.hid hx
  clear hx
  go_enter Tryd.func86, Tryd.ntmps86
  go_wp2_with fail
  go_loopw [3, 4] (fun q i wr => ∃ (k : Nat) (J : ByteArray), i = .int .i64 k ∧ k ≤ n ∧ q = .string J ∧ J.size ≤ 22 * k ∧ Hid (J = jn 44 xs k) ∧ Below w.heap.size w wr) (fun _ i _ => n - (intOf i).toNat)
  case atStart => exact ⟨0, ⟨#[]⟩, rfl, Nat.zero_le _, rfl, by decide, Lib.hid rfl, Below.refl _ _⟩
  case round =>
    obtain ⟨k, J, rfl, hk, rfl, hJ, hJe, hb⟩ := hrel
    have HB := Lib.hid hb
    have hsz := hb.size
    clear hb
    by_cases hlt : k < n
    · obtain ⟨x, hx⟩ := get_some (zs := xs) (k := k) (by rw [HL.out]; exact hlt)
      obtain ⟨b, off, hA, hbB, hc⟩ := HH.out.at_ (by omega)
      subst hA
      have cx : wr.cell? ⟨b, off + k, none⟩ = some (.int .i64 x) := (HB.out.cell (p := ⟨b, off + k, none⟩) (by show b < _; omega)).trans (hc k x hx)
      have X := Lib.hid hx
      have i0 : (0 : Int) ≤ (k : Int) := by omega
      have i1 : (k : Int) < (n : Int) := by omega
      clear hx hc
      obtain ⟨hx0, hx1⟩ := HX.out x (List.mem_of_getElem? X.out)
      have hd := dec_size hx0 hx1
      rcases Nat.eq_zero_or_pos k with h0 | h0
      · have k0 : ¬ ((0 : Int) < (k : Int)) := by omega
        have n1 : ¬ 9223372036854775807 < J.size + (dec x).size := by omega
        have H0 := Lib.hid h0
        clear h0
        go_wp2_with fail
        refine (l01Dec_any x hx0 hx1 _).mono ?_
        rintro e w1 ⟨rfl, b1⟩
        have B1 := Lib.hid (HB.out.trans (b1.mono hsz))
        clear b1
        go_wp2_with fail
        go_roundw
        case rel => exact ⟨k + 1, J ++ dec x, by go_num, by omega, rfl, by rw [ByteArray.size_append]; omega, Lib.hid (by rw [jn_first X.out H0.out, ← hJe.out]), B1.out⟩
        case measure => simp [intOf]; omega
      · have k0 : (0 : Int) < (k : Int) := by omega
        have n1 : ¬ 9223372036854775807 < J.size + 1 := by omega
        have n2 : ¬ 9223372036854775807 < J.size + 1 + (dec x).size := by omega
        have H0 := Lib.hid h0
        clear h0
        go_wp2_with fail
        refine (l01Dec_any x hx0 hx1 _).mono ?_
        rintro e w1 ⟨rfl, b1⟩
        have B1 := Lib.hid (HB.out.trans (b1.mono hsz))
        clear b1
        go_wp2_with fail
        go_roundw
        case rel => exact ⟨k + 1, J ++ ⟨#[44]⟩ ++ dec x, by go_num, by omega, rfl, by rw [ByteArray.size_append, ByteArray.size_append]; have : (⟨#[44]⟩ : ByteArray).size = 1 := rfl; omega, Lib.hid (by rw [jn_next X.out H0.out, ← hJe.out]), B1.out⟩
        case measure => simp [intOf]; omega
    · have hkn : k = n := by omega
      have HK := Lib.hid hkn
      have j1 : ¬ ((k : Int) < (n : Int)) := by omega
      clear hkn
      go_wp2_with fail
      go_ret
      exact ⟨ret_js (by have e := HK.out; subst e; exact hJe.out), HB.out⟩
set_option maxRecDepth 100000 in
set_option maxHeartbeats 2000000 in
theorem joined_any (B : Nat) (A : Option Addr) (n c : Nat) (xs : List Int) (w : World) (h : Ints w B A n c xs) (hx : ∀ z ∈ xs, in64 z) (hB : B ≤ w.heap.size) (hn : n ≤ 4096) (ht : Tab w) : Calls Tryd.prog 74 #[.slice A n c] w fun e w' => e = .returned (.string (jn 44 xs n)) ∧ Below w.heap.size w w' := by
  have HH := Lib.hid h
  have hle := h.le
  have HL := Lib.hid h.len
  clear h
  have HT := Lib.hid ht
  clear ht
  have HX := Lib.hid hx
  clear hx
  go_enter Tryd.func74, Tryd.ntmps74
  go_wp2_with fail
  go_loopw [3, 8] (fun q i wr => ∃ (k : Nat) (J : ByteArray), i = .int .i64 k ∧ k ≤ n ∧ q = .string J ∧ J.size ≤ 22 * k ∧ Hid (J = jn 44 xs k) ∧ Below w.heap.size w wr) (fun _ i _ => n - (intOf i).toNat)
  case atStart => exact ⟨0, ⟨#[]⟩, rfl, Nat.zero_le _, rfl, by decide, Lib.hid rfl, Below.refl _ _⟩
  case round =>
    obtain ⟨k, J, rfl, hk, rfl, hJ, hJe, hb⟩ := hrel
    have HB := Lib.hid hb
    have hsz := hb.size
    clear hb
    by_cases hlt : k < n
    · obtain ⟨x, hx⟩ := get_some (zs := xs) (k := k) (by rw [HL.out]; exact hlt)
      obtain ⟨b, off, hA, hbB, hc⟩ := HH.out.at_ (by omega)
      subst hA
      have cx : wr.cell? ⟨b, off + k, none⟩ = some (.int .i64 x) := (HB.out.cell (p := ⟨b, off + k, none⟩) (by show b < _; omega)).trans (hc k x hx)
      have X := Lib.hid hx
      have i0 : (0 : Int) ≤ (k : Int) := by omega
      have i1 : (k : Int) < (n : Int) := by omega
      clear hx hc
      obtain ⟨hx0, hx1⟩ := HX.out x (List.mem_of_getElem? X.out)
      have hd := dec_size hx0 hx1
      rcases Nat.eq_zero_or_pos k with h0 | h0
      · have k0 : ¬ ((0 : Int) < (k : Int)) := by omega
        have n1 : ¬ 9223372036854775807 < J.size + (dec x).size := by omega
        have H0 := Lib.hid h0
        clear h0
        go_wp2_with fail
        refine (implDecimal_any x hx0 hx1 _ (by exact HT.out.below HB.out (Nat.le_refl _))).mono ?_
        rintro e w1 ⟨rfl, b1⟩
        have B1 := Lib.hid (HB.out.trans (b1.mono hsz))
        clear b1
        go_wp2_with fail
        go_roundw
        case rel => exact ⟨k + 1, J ++ dec x, by go_num, by omega, rfl, by rw [ByteArray.size_append]; omega, Lib.hid (by rw [jn_first X.out H0.out, ← hJe.out]), B1.out⟩
        case measure => simp [intOf]; omega
      · have k0 : (0 : Int) < (k : Int) := by omega
        have n1 : ¬ 9223372036854775807 < J.size + 1 := by omega
        have n2 : ¬ 9223372036854775807 < J.size + 1 + (dec x).size := by omega
        have H0 := Lib.hid h0
        clear h0
        go_wp2_with fail
        refine (implDecimal_any x hx0 hx1 _ (by exact HT.out.below HB.out (Nat.le_refl _))).mono ?_
        rintro e w1 ⟨rfl, b1⟩
        have B1 := Lib.hid (HB.out.trans (b1.mono hsz))
        clear b1
        go_wp2_with fail
        go_roundw
        case rel => exact ⟨k + 1, J ++ ⟨#[44]⟩ ++ dec x, by go_num, by omega, rfl, by rw [ByteArray.size_append, ByteArray.size_append]; have : (⟨#[44]⟩ : ByteArray).size = 1 := rfl; omega, Lib.hid (by rw [jn_next X.out H0.out, ← hJe.out]), B1.out⟩
        case measure => simp [intOf]; omega
    · have hkn : k = n := by omega
      have HK := Lib.hid hkn
      have j1 : ¬ ((k : Int) < (n : Int)) := by omega
      clear hkn
      go_wp2_with fail
      go_ret
      exact ⟨ret_js (by have e := HK.out; subst e; exact hJe.out), HB.out⟩
set_option maxRecDepth 100000 in
set_option maxHeartbeats 2000000 in
theorem implMovesText_any (B : Nat) (A : Option Addr) (n c : Nat) (xs : List Int) (w : World) (h : Ints w B A n c xs) (hB : B ≤ w.heap.size) (ht : Tab w) : Calls Tryd.prog 37 #[.slice A n c] w fun e w' => e = .returned (.string (mvT xs)) ∧ Below w.heap.size w w' := by
  have HH := Lib.hid h
  have hle := h.le
  have HL := Lib.hid h.len
  clear h
  have HT := Lib.hid ht
  clear ht
  by_cases hn : 120 < n
  · have j0 : (120 : Int) < (n : Int) := by omega
    have hb := Lib.hid (okM_long (xs := xs) (by rw [HL.out]; exact hn))
    go_enter Tryd.func37, Tryd.ntmps37
    go_wp2_with fail
    go_ret
    exact ⟨ret_js (by simp [mvT, hb.out]), Below.refl _ _⟩
  have j0 : ¬ ((120 : Int) < (n : Int)) := by omega
  go_enter Tryd.func37, Tryd.ntmps37
  go_wp2_with fail
  go_loopw [3, 11] (fun q i wr => ∃ (k : Nat) (J : ByteArray), i = .int .i64 k ∧ k ≤ n ∧ q = .string J ∧ J.size ≤ 22 * k ∧ Hid (J = jn 32 xs k) ∧ Below w.heap.size w wr ∧ Hid ((xs.take k).all (fun z => inB z 0 7) = true)) (fun _ i _ => n - (intOf i).toNat)
  case atStart => exact ⟨0, ⟨#[]⟩, rfl, Nat.zero_le _, rfl, by decide, Lib.hid rfl, Below.refl _ _, Lib.hid rfl⟩
  case round =>
    obtain ⟨k, J, rfl, hk, rfl, hJ, hJe, hb, hok⟩ := hrel
    have HB := Lib.hid hb
    have hsz := hb.size
    clear hb
    by_cases hlt : k < n
    · obtain ⟨x, hx⟩ := get_some (zs := xs) (k := k) (by rw [HL.out]; exact hlt)
      obtain ⟨b, off, hA, hbB, hc⟩ := HH.out.at_ (by omega)
      subst hA
      have cx : wr.cell? ⟨b, off + k, none⟩ = some (.int .i64 x) := (HB.out.cell (p := ⟨b, off + k, none⟩) (by show b < _; omega)).trans (hc k x hx)
      have X := Lib.hid hx
      have i0 : (0 : Int) ≤ (k : Int) := by omega
      have i1 : (k : Int) < (n : Int) := by omega
      clear hx hc
      by_cases hxi : inB x 0 7 = true
      rotate_left
      · have hxi' : inB x 0 7 = false := by simpa using hxi
        have XI := Lib.hid hxi'
        have hb := Lib.hid (okM_bad (xs := xs) X.out hxi')
        clear hxi hxi'
        go_wp2_with fail
        refine (between_any _ _ _ _).mono ?_
        rintro e w' ⟨rfl, rfl⟩
        rw [XI.out]
        go_wp2_with fail
        go_ret
        exact ⟨ret_js (by simp [mvT, hb.out]), HB.out⟩
      have hx0 : -9223372036854775808 ≤ x := by simp only [inB, decide_eq_true_eq] at hxi; omega
      have hx1 : x ≤ 9223372036854775807 := by simp only [inB, decide_eq_true_eq] at hxi; omega
      have XI := Lib.hid hxi
      clear hxi
      have hd := dec_size hx0 hx1
      rcases Nat.eq_zero_or_pos k with h0 | h0
      · have k0 : ¬ ((0 : Int) < (k : Int)) := by omega
        have n1 : ¬ 9223372036854775807 < J.size + (dec x).size := by omega
        have H0 := Lib.hid h0
        clear h0
        go_wp2_with fail
        refine (between_any _ _ _ _).mono ?_
        rintro e w' ⟨rfl, rfl⟩
        rw [XI.out]
        go_wp2_with fail
        refine (implDecimal_any x hx0 hx1 _ (by exact HT.out.below HB.out (Nat.le_refl _))).mono ?_
        rintro e w1 ⟨rfl, b1⟩
        have B1 := Lib.hid (HB.out.trans (b1.mono hsz))
        clear b1
        go_wp2_with fail
        go_roundw
        case rel => exact ⟨k + 1, J ++ dec x, by go_num, by omega, rfl, by rw [ByteArray.size_append]; omega, Lib.hid (by rw [jn_first X.out H0.out, ← hJe.out]), B1.out, Lib.hid (all_snocM X.out hok.out XI.out)⟩
        case measure => simp [intOf]; omega
      · have k0 : (0 : Int) < (k : Int) := by omega
        have n1 : ¬ 9223372036854775807 < J.size + 1 := by omega
        have n2 : ¬ 9223372036854775807 < J.size + 1 + (dec x).size := by omega
        have H0 := Lib.hid h0
        clear h0
        go_wp2_with fail
        refine (between_any _ _ _ _).mono ?_
        rintro e w' ⟨rfl, rfl⟩
        rw [XI.out]
        go_wp2_with fail
        refine (implDecimal_any x hx0 hx1 _ (by exact HT.out.below HB.out (Nat.le_refl _))).mono ?_
        rintro e w1 ⟨rfl, b1⟩
        have B1 := Lib.hid (HB.out.trans (b1.mono hsz))
        clear b1
        go_wp2_with fail
        go_roundw
        case rel => exact ⟨k + 1, J ++ ⟨#[32]⟩ ++ dec x, by go_num, by omega, rfl, by rw [ByteArray.size_append, ByteArray.size_append]; have : (⟨#[32]⟩ : ByteArray).size = 1 := rfl; omega, Lib.hid (by rw [jn_next X.out H0.out, ← hJe.out]), B1.out, Lib.hid (all_snocM X.out hok.out XI.out)⟩
        case measure => simp [intOf]; omega
    · have hkn : k = n := by omega
      have HK := Lib.hid hkn
      have j1 : ¬ ((k : Int) < (n : Int)) := by omega
      clear hkn
      go_wp2_with fail
      go_ret
      exact ⟨ret_js (by have e := HK.out; subst e; rw [mvT, if_pos (okM_yes (by rw [HL.out]; omega) (by rw [HL.out]; exact hok.out)), HL.out]; exact hJe.out), HB.out⟩
set_option maxRecDepth 100000 in
set_option maxHeartbeats 1000000 in
theorem l10Ok_any (B : Nat) (A : Option Addr) (n c : Nat) (xs : List Int) (w : World) (h : Ints w B A n c xs) : Calls Tryd.prog 49 #[.slice A n c] w fun e w' => e = .returned (.bool (okM xs)) ∧ w = w' := by
  have HH := Lib.hid h
  have hle := h.le
  have HL := Lib.hid h.len
  clear h
  go_enter Tryd.func49, Tryd.ntmps49
  go_wp2_with fail
  go_loopw [3] (fun i wr => ∃ (k : Nat), i = .int .i64 k ∧ k ≤ n ∧ Hid ((xs.take k).all (fun z => inB z 0 7) = true) ∧ wr = w) (fun i _ => n - (intOf i).toNat)
  case atStart => exact ⟨0, rfl, Nat.zero_le _, Lib.hid rfl, rfl⟩
  case round =>
    obtain ⟨k, rfl, hk, hok, rfl⟩ := hrel
    by_cases hlt : k < n
    · obtain ⟨x, hx⟩ := get_some (zs := xs) (k := k) (by rw [HL.out]; exact hlt)
      obtain ⟨b, off, hA, hbB, hc⟩ := HH.out.at_ (by omega)
      subst hA
      have cx := hc k x hx
      have X := Lib.hid hx
      have i0 : (0 : Int) ≤ (k : Int) := by omega
      have i1 : (k : Int) < (n : Int) := by omega
      clear hx hc
      by_cases hxi : inB x 0 7 = true
      · have XI := Lib.hid hxi
        clear hxi
        go_wp2_with fail
        refine (l00In_any _ _ _ _).mono ?_
        rintro e w' ⟨rfl, rfl⟩
        rw [XI.out]
        go_wp2_with fail
        go_roundw
        case rel => exact ⟨k + 1, by go_num, by omega, Lib.hid (all_snocM X.out hok.out XI.out), by simp⟩
        case measure => simp [intOf]; omega
      · have hxi' : inB x 0 7 = false := by simpa using hxi
        have XI := Lib.hid hxi'
        have hb := Lib.hid (okM_bad (xs := xs) X.out hxi')
        clear hxi hxi'
        go_wp2_with fail
        refine (l00In_any _ _ _ _).mono ?_
        rintro e w' ⟨rfl, rfl⟩
        rw [XI.out]
        go_wp2_with fail
        go_ret
        exact ⟨ret_bb hb.out.symm, by simp⟩
    · have hkn : k = n := by omega
      have HK := Lib.hid hkn
      have j1 : ¬ ((k : Int) < (n : Int)) := by omega
      clear hkn
      go_wp2_with fail
      go_ret
      exact ⟨ret_bb (by
        have e := HK.out; subst e
        by_cases h120 : k ≤ 120
        · rw [okM_yes (by rw [HL.out]; exact h120) (by rw [HL.out]; exact hok.out)]; simp; omega
        · rw [okM_long (by rw [HL.out]; omega)]; simp; omega), by simp⟩
theorem specMovesText_any (B : Nat) (A : Option Addr) (n c : Nat) (xs : List Int) (w : World) (h : Ints w B A n c xs) (hB : B ≤ w.heap.size) : Calls Tryd.prog 35 #[.slice A n c] w fun e w' => e = .returned (.string (mvT xs)) ∧ Below w.heap.size w w' := by
  have HH := Lib.hid h
  have HL := Lib.hid h.len
  clear h
  cases e0 : okM xs
  · have HE := Lib.hid e0
    clear e0
    go_enter Tryd.func35, Tryd.ntmps35
    go_wp2_with fail
    refine (l10Ok_any B A n c xs _ (by exact HH.out)).mono ?_
    rintro e w' ⟨rfl, rfl⟩
    rw [HE.out]
    go_wp2_with fail
    go_ret
    exact ⟨ret_js (by simp [mvT, HE.out]), Below.refl _ _⟩
  · have HE := Lib.hid e0
    obtain ⟨hn, hx⟩ := okM_in e0
    have HX := Lib.hid hx
    rw [HL.out] at hn
    clear e0 hx
    go_enter Tryd.func35, Tryd.ntmps35
    go_wp2_with fail
    refine (l10Ok_any B A n c xs _ (by exact HH.out)).mono ?_
    rintro e w' ⟨rfl, rfl⟩
    rw [HE.out]
    go_wp2_with fail
    refine (l10Moves_any B A n c xs _ (by exact HH.out) HX.out (by exact hB) (by omega)).mono ?_
    rintro e w1 ⟨rfl, b1⟩
    go_wp2_with fail
    go_ret
    exact ⟨ret_js (by rw [mvT, if_pos HE.out, HL.out]), b1⟩
set_option maxRecDepth 100000 in
set_option maxHeartbeats 2000000 in
theorem FnExactMovesText_walk (A : Option Addr) (n c : Nat) (xs : List Int) (w : World) (h : Ints w w.heap.size A n c xs ∧ ∀ z ∈ xs, in64 z) (ht : Tab w) : Calls Tryd.prog 9 #[.slice A n c] w fun e w' => e = .returned (.bool true) ∧ Below w.heap.size w w' := by
  obtain ⟨h, -⟩ := h
  have HT := Lib.hid ht
  have H := Lib.hid h
  have hle := h.le
  clear ht h
  by_cases hn : 1048576 < n
  · have j0 : (1048576 : Int) < (n : Int) := by omega
    go_enter Tryd.func9, Tryd.ntmps9
    go_wp2_with fail
    go_ret
    exact ⟨rfl, Below.refl _ _⟩
  have j0 : ¬ ((1048576 : Int) < (n : Int)) := by omega
  have hN : n ≤ 4294967296 := by omega
  go_enter Tryd.func9, Tryd.ntmps9
  go_wp2_with fail
  refine (toInt64S_any w.heap.size A n c xs _ (by exact H.out) hN (Nat.le_refl _)).mono ?_
  rintro e w1 ⟨B1, k1, rfl, o1, b1⟩
  have I1 := Lib.hid o1.ints
  have c1 := Lib.hid b1
  clear o1 b1
  go_wp2_with fail
  refine (specMovesText_any w1.heap.size B1 n k1 xs _ (by exact I1.out) (by exact Nat.le_refl _)).mono ?_
  rintro e w2 ⟨rfl, b2⟩
  have c2 := Lib.hid (sub_step b2 c1.out rfl)
  clear b2 c1 I1
  go_wp2_with fail
  refine (toInt64S_any w.heap.size A n c xs _ (by exact H.out.below c2.out) hN (by exact c2.out.size)).mono ?_
  rintro e w3 ⟨B3, k3, rfl, o3, b3⟩
  have I3 := Lib.hid o3.ints
  have c3 := Lib.hid (sub_step b3 c2.out rfl)
  clear o3 b3 c2
  go_wp2_with fail
  refine (implMovesText_any w3.heap.size B3 n k3 xs _ (by exact I3.out) (by exact Nat.le_refl _) (by exact HT.out.below c3.out (Nat.le_refl _))).mono ?_
  rintro e w4 ⟨rfl, b4⟩
  have c4 := Lib.hid (sub_step b4 c3.out rfl)
  have I4 := Lib.hid (I3.out.sub b4)
  clear b4 c3 I3
  go_wp2_with fail
  refine (toInt64S_any w.heap.size A n c xs _ (by exact H.out.below c4.out) hN (by exact c4.out.size)).mono ?_
  rintro e w5 ⟨B5, k5, rfl, o5, b5⟩
  have I5 := Lib.hid o5.ints
  have J5 := Lib.hid (I4.out.sub b5)
  have c5 := Lib.hid (sub_step b5 c4.out rfl)
  clear o5 b5 c4 I4
  go_wp2_with fail
  refine (eqInt64S_is _ _ _ _ _ _ _ _ xs xs true (decide_eq_true rfl) _ (by exact J5.out) (by exact I5.out)).mono ?_
  rintro e w6 ⟨rfl, m6, rfl⟩
  go_wp2_with fail
  go_ret
  exact ⟨rfl, below_drewN c5.out m6⟩
end Go.Proofs.YtnanaldolnehiabDoor
