/-
  Lists of numbers in memory: equal or not, copied, sized, marked and held.
-/
import Derived.Test.YtnanaldolnehiaaArgs
import Derived.Deep.QuietTactic
import Derived.BigQuiet
import Derived.Deep.OwnRows
import Derived.Outline
namespace Go.Proofs.Ytnanaldolnehiaa
open Go.ChangeShapes Go.WideShapes Go.RowKit Go.Deep

theorem ret_b {a b : Bool} (h : a = b) : Ending.returned (.bool a) = .returned (.bool b) := by rw [h]

/-- A list's element in front of its end. -/
theorem get_some {zs : List Int} {k : Nat} (h : k < zs.length) : ∃ x, zs[k]? = some x := ⟨_, List.getElem?_eq_getElem h⟩
theorem take_step {xs ys : List Int} {k : Nat} {x : Int} (h : xs.take k = ys.take k) (hx : xs[k]? = some x) (hy : ys[k]? = some x) : xs.take (k + 1) = ys.take (k + 1) := by
  rw [List.take_add_one, List.take_add_one, h, hx, hy]
theorem take_ne {xs ys : List Int} {k : Nat} {x y : Int} (hx : xs[k]? = some x) (hy : ys[k]? = some y) (h : x ≠ y) : xs ≠ ys := by
  rintro rfl
  rw [hx] at hy
  exact h (by injection hy)
theorem take_all {xs ys : List Int} {n : Nat} (h : xs.take n = ys.take n) (hx : xs.length = n) (hy : ys.length = n) : xs = ys := by
  rw [List.take_of_length_le (by omega), List.take_of_length_le (by omega)] at h
  exact h

/-! ### a slice of int64 of the call's own -/
/-- The slice value is the call's own (its block is 'base' or above), and holds the numbers zs. -/
def Own (w : World) (base : Nat) (A : Option Addr) (n c : Nat) (zs : List Int) : Prop :=
  zs.length = n ∧ n ≤ c ∧ c ≤ 9223372036854775807 ∧ w.ownsRow base 2 1 (.slice A n c) n (zs.map (Value.int .i64))
section
variable {w w' : World} {base base' n c : Nat} {A : Option Addr} {zs : List Int}
theorem Own.len (h : Own w base A n c zs) : zs.length = n := h.1
theorem Own.row (h : Own w base A n c zs) : w.ownsRow base 2 1 (.slice A n c) n (zs.map (Value.int .i64)) := h.2.2.2
theorem Own.of_row {v : Value} (h : w.ownsRow base 2 1 v n (zs.map (Value.int .i64))) : ∃ A c, v = .slice A n c ∧ Own w base A n c zs := by
  have hl : zs.length = n := by simpa using h.1
  rcases h.2 with ⟨rfl, rfl⟩ | ⟨g, cap, cur, rfl, hb, hg, hnc, hcm, rest⟩
  · exact ⟨none, 0, rfl, hl, by omega, by omega, h⟩
  · refine ⟨_, cap, rfl, hl, hnc, ?_, h⟩
    unfold maxLen at hcm
    omega
theorem Own.form (h : Own w base A n c zs) : (A = none ∧ n = 0 ∧ c = 0) ∨ ∃ g, A = some ⟨g, 0, none⟩ ∧ base ≤ g ∧ g < w.heap.size := by
  rcases h.row.2 with ⟨e, rfl⟩ | ⟨g, cap, cur, e, hb, hg, _⟩
  · injection e with e1 e2 e3
    exact .inl ⟨e1, rfl, e3⟩
  · injection e with e1 e2 e3
    exact .inr ⟨g, e1, hb, (Array.getElem?_eq_some_iff.1 hg).1⟩
theorem Own.ints (h : Own w base A n c zs) : Ints w w.heap.size A n c zs := by
  refine ⟨h.1, h.2.1, h.2.2.1, ?_, fun hn => ?_⟩
  · rcases h.form with ⟨_, h1, h2⟩ | ⟨g, rfl, _⟩
    · exact fun _ => ⟨h1, h2⟩
    · intro e; cases e
  · rcases h.form with ⟨_, h1, _⟩ | ⟨g, rfl, hb, hg⟩
    · omega
    · refine ⟨g, 0, rfl, hg, fun j x hx => ?_⟩
      have hj : j < n := by have := (List.getElem?_eq_some_iff.1 hx).1; have := h.1; omega
      rw [Nat.zero_add, h.row.cellAt j (by omega), List.getElem?_map, hx]
      rfl
theorem Own.kept (h : Own w base A n c zs) {row : Option Nat} (hg : w.grownBy w' row) (hne : ∀ g, row = some g → g < base ∨ A ≠ some ⟨g, 0, none⟩) : Own w' base A n c zs := by
  refine ⟨h.1, h.2.1, h.2.2.1, h.row.kept hg ?_⟩
  rcases h.form with ⟨rfl, _⟩ | ⟨g, rfl, hb, _⟩
  · exact .inl rfl
  · refine .inr fun e => ?_
    rcases hne g (by rw [← e]; rfl) with h1 | h1
    · omega
    · exact h1 rfl
theorem grown_of_below {B : Nat} (hb : Below B w w') (hB : w.heap.size ≤ B) : w.grownBy w' none := ⟨hb.os, hb.tape, hb.output, hb.size, fun k hk _ => hb.block k (by omega)⟩
theorem Own.below {B : Nat} (h : Own w base A n c zs) (hb : Below B w w') (hB : w.heap.size ≤ B) : Own w' base A n c zs := h.kept (grown_of_below hb hB) (fun g e => by cases e)
theorem Own.alloc (h : Own w base A n c zs) (o : Obj) : Own (w.alloc o) base A n c zs := ⟨h.1, h.2.1, h.2.2.1, h.row.alloc o⟩
theorem Own.drewN (h : Own w base A n c zs) (k : Nat) : Own (w.drewN k) base A n c zs := h
end
/-- What a call hands back that makes a list of its own. -/
def RetOwn (w : World) (n : Nat) (zs : List Int) (e : Ending) (w' : World) : Prop := ∃ A c, e = .returned (.slice A n c) ∧ Own w' w.heap.size A n c zs ∧ Below w.heap.size w w'
theorem info64 : (Try.prog.info? 2).map (fun i => (i.zero, i.size, i.bytes)) = some (some (.int .i64 0), 1, 8) := by kernel_rfl

set_option maxHeartbeats 1000000 in
theorem eqInt64S_any (B B' : Nat) (A A' : Option Addr) (n n' c c' : Nat) (xs ys : List Int) (w : World) (h : Ints w B A n c xs) (h' : Ints w B' A' n' c' ys) :
    Calls Try.prog 48 #[.slice A n c, .slice A' n' c'] w fun e w' => e = .returned (.bool (decide (xs = ys))) ∧ ∃ m, w' = w.drewN m := by
  have hm := h.le
  have hm' := h'.le
  have hl := h.len
  have hl' := h'.len
  by_cases hn : n = n'
  · obtain rfl : n = n' := hn
    have HL := Lib.hid hl
    have HL' := Lib.hid hl'
    rcases Nat.eq_zero_or_pos n with h0 | h0
    · obtain rfl : xs = [] := List.eq_nil_of_length_eq_zero (by omega)
      obtain rfl : ys = [] := List.eq_nil_of_length_eq_zero (by omega)
      subst h0
      clear hl hl' h h'
      go_enter Try.func48, Try.ntmps48
      go_wp2
      refine wp_loop_rounds 1 ?_; rw [rounds_succ]
      go_wp2
      go_ret
      exact ⟨ret_b (by simp), 0, rfl⟩
    obtain ⟨b, off, rfl, -, hc⟩ := h.at_ h0
    obtain ⟨b', off', rfl, -, hc'⟩ := h'.at_ h0
    clear hl hl' h h'
    go_enter Try.func48, Try.ntmps48
    go_wp2
    go_loopw [5] (fun i wr => ∃ k : Nat, k ≤ n ∧ i = .int .i64 k ∧ Hid (xs.take k = ys.take k) ∧ ∃ m, wr = w.drewN m) (fun i _ => n - (intOf i).toNat)
    case atStart => exact ⟨0, Nat.zero_le _, rfl, rfl, 0, rfl⟩
    case round =>
      obtain ⟨k, hk, rfl, ht, m, rfl⟩ := hrel
      by_cases hlt : k < n
      · obtain ⟨x, hx⟩ := get_some (zs := xs) (k := k) (by rw [HL.out]; exact hlt)
        obtain ⟨y, hy⟩ := get_some (zs := ys) (k := k) (by rw [HL'.out]; exact hlt)
        have cx := hc k x hx
        have cy := hc' k y hy
        have HX := Lib.hid hx
        have HY := Lib.hid hy
        clear hx hy hc hc'
        have i0 : (0 : Int) ≤ (k : Int) := by omega
        have i1 : (k : Int) < (n : Int) := by omega
        by_cases hxy : x = y
        · subst hxy
          go_wp2
          go_quiet (fail)
          go_wp2
          go_roundw
          case rel => exact ⟨k + 1, by omega, by go_num, take_step ht.out HX.out HY.out, _, rfl⟩
          case measure => simp [intOf]; omega
        · have hb : (x != y) = true := by simpa using hxy
          go_wp2
          go_quiet (fail)
          go_wp2
          go_ret
          exact ⟨ret_b (by simpa using take_ne HX.out HY.out hxy), _, World.drewN_drewN _ _ _⟩
      · have hkn : k = n := by omega
        have HK := Lib.hid hkn
        clear hkn hc hc'
        go_wp2
        go_ret
        exact ⟨ret_b (by have := HK.out; subst this; simpa using take_all ht.out HL.out HL'.out), _, rfl⟩
  · have hd : ((n : Int) != (n' : Int)) = true := by simp; omega
    have hne : xs ≠ ys := by rintro rfl; omega
    clear hl hl' hn h h'
    go_enter Try.func48, Try.ntmps48
    go_wp2
    go_ret
    exact ⟨ret_b (by simpa using hne), 0, rfl⟩
theorem eqInt64S_is (B B' : Nat) (A A' : Option Addr) (n n' c c' : Nat) (xs ys : List Int) (r : Bool) (hr : decide (xs = ys) = r) (w : World) (h : Ints w B A n c xs) (h' : Ints w B' A' n' c' ys) :
    Calls Try.prog 48 #[.slice A n c, .slice A' n' c'] w fun e w' => e = .returned (.bool r) ∧ ∃ m, w' = w.drewN m := by
  subst hr
  exact eqInt64S_any B B' A A' n n' c c' xs ys w h h'
set_option maxHeartbeats 1000000 in
theorem sameNumbers_any (B B' : Nat) (A A' : Option Addr) (n n' c c' : Nat) (xs ys : List Int) (w : World) (h : Ints w B A n c xs) (h' : Ints w B' A' n' c' ys) :
    Calls Try.prog 112 #[.slice A n c, .slice A' n' c'] w fun e w' => e = .returned (.bool (decide (xs = ys))) ∧ ∃ m, w' = w.drewN m := by
  have hm := h.le
  have hm' := h'.le
  have hl := h.len
  have hl' := h'.len
  by_cases hn : n = n'
  · obtain rfl : n = n' := hn
    have HL := Lib.hid hl
    have HL' := Lib.hid hl'
    rcases Nat.eq_zero_or_pos n with h0 | h0
    · obtain rfl : xs = [] := List.eq_nil_of_length_eq_zero (by omega)
      obtain rfl : ys = [] := List.eq_nil_of_length_eq_zero (by omega)
      subst h0
      clear hl hl' h h'
      go_enter Try.func112, Try.ntmps112
      go_wp2
      refine wp_loop_rounds 1 ?_; rw [rounds_succ]
      go_wp2
      go_ret
      exact ⟨ret_b (by simp), 0, rfl⟩
    obtain ⟨b, off, rfl, -, hc⟩ := h.at_ h0
    obtain ⟨b', off', rfl, -, hc'⟩ := h'.at_ h0
    clear hl hl' h h'
    go_enter Try.func112, Try.ntmps112
    go_wp2
    go_loopw [13] (fun i wr => ∃ k : Nat, k ≤ n ∧ i = .int .i64 k ∧ Hid (xs.take k = ys.take k) ∧ ∃ m, wr = w.drewN m) (fun i _ => n - (intOf i).toNat)
    case atStart => exact ⟨0, Nat.zero_le _, rfl, rfl, 0, rfl⟩
    case round =>
      obtain ⟨k, hk, rfl, ht, m, rfl⟩ := hrel
      by_cases hlt : k < n
      · obtain ⟨x, hx⟩ := get_some (zs := xs) (k := k) (by rw [HL.out]; exact hlt)
        obtain ⟨y, hy⟩ := get_some (zs := ys) (k := k) (by rw [HL'.out]; exact hlt)
        have cx := hc k x hx
        have cy := hc' k y hy
        have HX := Lib.hid hx
        have HY := Lib.hid hy
        clear hx hy hc hc'
        have i0 : (0 : Int) ≤ (k : Int) := by omega
        have i1 : (k : Int) < (n : Int) := by omega
        by_cases hxy : x = y
        · subst hxy
          go_wp2
          go_quiet (fail)
          go_wp2
          go_roundw
          case rel => exact ⟨k + 1, by omega, by go_num, take_step ht.out HX.out HY.out, _, rfl⟩
          case measure => simp [intOf]; omega
        · have hb : (x != y) = true := by simpa using hxy
          go_wp2
          go_quiet (fail)
          go_wp2
          go_ret
          exact ⟨ret_b (by simpa using take_ne HX.out HY.out hxy), _, World.drewN_drewN _ _ _⟩
      · have hkn : k = n := by omega
        have HK := Lib.hid hkn
        clear hkn hc hc'
        go_wp2
        go_ret
        exact ⟨ret_b (by have := HK.out; subst this; simpa using take_all ht.out HL.out HL'.out), _, rfl⟩
  · have hd : ((n : Int) != (n' : Int)) = true := by simp; omega
    have hne : xs ≠ ys := by rintro rfl; omega
    clear hl hl' hn h h'
    go_enter Try.func112, Try.ntmps112
    go_wp2
    go_ret
    exact ⟨ret_b (by simpa using hne), 0, rfl⟩
theorem sameNumbers_is (B B' : Nat) (A A' : Option Addr) (n n' c c' : Nat) (xs ys : List Int) (r : Bool) (hr : decide (xs = ys) = r) (w : World) (h : Ints w B A n c xs) (h' : Ints w B' A' n' c' ys) :
    Calls Try.prog 112 #[.slice A n c, .slice A' n' c'] w fun e w' => e = .returned (.bool r) ∧ ∃ m, w' = w.drewN m := by
  subst hr
  exact sameNumbers_any B B' A A' n n' c c' xs ys w h h'
set_option maxHeartbeats 1000000 in
theorem l00Same_any (B B' : Nat) (A A' : Option Addr) (n n' c c' : Nat) (xs ys : List Int) (w : World) (h : Ints w B A n c xs) (h' : Ints w B' A' n' c' ys) :
    Calls Try.prog 111 #[.slice A n c, .slice A' n' c'] w fun e w' => e = .returned (.bool (decide (xs = ys))) ∧ ∃ m, w' = w.drewN m := by
  have hm := h.le
  have hm' := h'.le
  have hl := h.len
  have hl' := h'.len
  by_cases hn : n = n'
  · obtain rfl : n = n' := hn
    have HL := Lib.hid hl
    have HL' := Lib.hid hl'
    rcases Nat.eq_zero_or_pos n with h0 | h0
    · obtain rfl : xs = [] := List.eq_nil_of_length_eq_zero (by omega)
      obtain rfl : ys = [] := List.eq_nil_of_length_eq_zero (by omega)
      subst h0
      clear hl hl' h h'
      go_enter Try.func111, Try.ntmps111
      go_wp2
      refine wp_loop_rounds 1 ?_; rw [rounds_succ]
      go_wp2
      go_ret
      exact ⟨ret_b (by simp), 0, rfl⟩
    obtain ⟨b, off, rfl, -, hc⟩ := h.at_ h0
    obtain ⟨b', off', rfl, -, hc'⟩ := h'.at_ h0
    clear hl hl' h h'
    go_enter Try.func111, Try.ntmps111
    go_wp2
    go_loopw [5] (fun i wr => ∃ k : Nat, k ≤ n ∧ i = .int .i64 k ∧ Hid (xs.take k = ys.take k) ∧ ∃ m, wr = w.drewN m) (fun i _ => n - (intOf i).toNat)
    case atStart => exact ⟨0, Nat.zero_le _, rfl, rfl, 0, rfl⟩
    case round =>
      obtain ⟨k, hk, rfl, ht, m, rfl⟩ := hrel
      by_cases hlt : k < n
      · obtain ⟨x, hx⟩ := get_some (zs := xs) (k := k) (by rw [HL.out]; exact hlt)
        obtain ⟨y, hy⟩ := get_some (zs := ys) (k := k) (by rw [HL'.out]; exact hlt)
        have cx := hc k x hx
        have cy := hc' k y hy
        have HX := Lib.hid hx
        have HY := Lib.hid hy
        clear hx hy hc hc'
        have i0 : (0 : Int) ≤ (k : Int) := by omega
        have i1 : (k : Int) < (n : Int) := by omega
        by_cases hxy : x = y
        · subst hxy
          go_wp2
          go_quiet (fail)
          go_wp2
          go_roundw
          case rel => exact ⟨k + 1, by omega, by go_num, take_step ht.out HX.out HY.out, _, rfl⟩
          case measure => simp [intOf]; omega
        · have hb : (x != y) = true := by simpa using hxy
          go_wp2
          go_quiet (fail)
          go_wp2
          go_ret
          exact ⟨ret_b (by simpa using take_ne HX.out HY.out hxy), _, World.drewN_drewN _ _ _⟩
      · have hkn : k = n := by omega
        have HK := Lib.hid hkn
        clear hkn hc hc'
        go_wp2
        go_ret
        exact ⟨ret_b (by have := HK.out; subst this; simpa using take_all ht.out HL.out HL'.out), _, rfl⟩
  · have hd : ((n : Int) != (n' : Int)) = true := by simp; omega
    have hne : xs ≠ ys := by rintro rfl; omega
    clear hl hl' hn h h'
    go_enter Try.func111, Try.ntmps111
    go_wp2
    go_ret
    exact ⟨ret_b (by simpa using hne), 0, rfl⟩
theorem l00Same_is (B B' : Nat) (A A' : Option Addr) (n n' c c' : Nat) (xs ys : List Int) (r : Bool) (hr : decide (xs = ys) = r) (w : World) (h : Ints w B A n c xs) (h' : Ints w B' A' n' c' ys) :
    Calls Try.prog 111 #[.slice A n c, .slice A' n' c'] w fun e w' => e = .returned (.bool r) ∧ ∃ m, w' = w.drewN m := by
  subst hr
  exact l00Same_any B B' A A' n n' c c' xs ys w h h'
set_option maxHeartbeats 1000000 in
theorem copyNumbers_any (B : Nat) (A : Option Addr) (n c : Nat) (xs : List Int) (w : World) (h : Ints w B A n c xs) (hn : n ≤ 4294967296) (hB : B ≤ w.heap.size) :
    Calls Try.prog 155 #[.slice A n c] w (RetOwn w n xs) := by
  obtain ⟨i0, hi, hz0, hz1, hz2⟩ := info_parts info64
  have hl := h.len
  have hown := World.ownsRow_made (e := 2) (size := 1) w #[] 0 (Nat.le_refl _) (by unfold maxLen; omega) rfl
  rcases A with _ | a
  · obtain ⟨rfl, rfl⟩ := h.2.2.2.1 rfl
    obtain rfl : xs = [] := List.eq_nil_of_length_eq_zero hl
    clear hl h
    go_enter Try.func155, Try.ntmps155
    go_wp2_with (at_builtin; refine wpList_append_own_none rfl _ _ _ rfl w.heap.size 2 i0 1 Try.underlying24 hi _ 0 [] rfl hown rfl ?_)
    go_ret
    exact ⟨_, 0, rfl, ⟨rfl, by simp, by simp, hown⟩, (by repeat (first | with_reducible exact Below.refl _ _ | with_reducible assumption | with_reducible refine sub_alloc ?_ _ | (with_reducible refine sub_setCell2 ?_ ?_ _; (focus (first | (simp; done) | (simp <;> omega)))) | with_reducible refine sub_drew ?_ | with_reducible refine below_drewN ?_ _ | with_reducible refine sub_step (by assumption) ?_ (by first | rfl | (simp; done)) | exact Below.refl _ _ | assumption | refine sub_alloc ?_ _ | refine sub_setCell ?_ (by simp <;> omega) _ | refine sub_drew ?_ | refine below_drewN ?_ _ | refine sub_step (by assumption) ?_ (by first | rfl | (simp; done))))⟩
  · have hnews := (h.alloc hB (.cells #[] 2)).news
    have HL := Lib.hid hl
    clear hl h
    go_enter Try.func155, Try.ntmps155
    go_wp2_with (at_builtin; refine wpList_append_own _ rfl _ _ _ rfl w.heap.size 2 i0 _ 1 8 Try.underlying24 hi hz0 hz1 hz2 rfl (by decide) _ 0 [] rfl hown a n c (xs.map (Value.int .i64)) rfl ?c1 hnews (ints_oneCell _ _) ?c3 ?c4 ?c5 ?_)
    case c1 => simp [HL.out]
    case c3 => unfold maxLen; omega
    case c4 => omega
    case c5 => simp
    intro v' w1 hown1 hg1 hnil
    obtain ⟨A', c', rfl, ho⟩ := Own.of_row hown1
    have hbel : Below w.heap.size w w1 := (Below.alloc (Below.refl _ _) (Nat.le_refl _) _).grown hg1 (by simp) (by intro k hk; simp [Value.ownBlock] at hk; omega)
    clear hnil hg1 hown1 hown
    go_wp2
    go_ret
    exact ⟨_, _, rfl, ho, hbel⟩
set_option maxHeartbeats 1000000 in
theorem l00Own_any (B : Nat) (A : Option Addr) (n c : Nat) (xs : List Int) (w : World) (h : Ints w B A n c xs) (hn : n ≤ 4294967296) (hB : B ≤ w.heap.size) :
    Calls Try.prog 154 #[.slice A n c] w (RetOwn w n xs) := by
  obtain ⟨i0, hi, hz0, hz1, hz2⟩ := info_parts info64
  have hl := h.len
  have hown := World.ownsRow_made (e := 2) (size := 1) w #[] 0 (Nat.le_refl _) (by unfold maxLen; omega) rfl
  rcases A with _ | a
  · obtain ⟨rfl, rfl⟩ := h.2.2.2.1 rfl
    obtain rfl : xs = [] := List.eq_nil_of_length_eq_zero hl
    clear hl h
    go_enter Try.func154, Try.ntmps154
    go_wp2_with (at_builtin; refine wpList_append_own_none rfl _ _ _ rfl w.heap.size 2 i0 1 Try.underlying24 hi _ 0 [] rfl hown rfl ?_)
    go_ret
    exact ⟨_, 0, rfl, ⟨rfl, by simp, by simp, hown⟩, (by repeat (first | with_reducible exact Below.refl _ _ | with_reducible assumption | with_reducible refine sub_alloc ?_ _ | (with_reducible refine sub_setCell2 ?_ ?_ _; (focus (first | (simp; done) | (simp <;> omega)))) | with_reducible refine sub_drew ?_ | with_reducible refine below_drewN ?_ _ | with_reducible refine sub_step (by assumption) ?_ (by first | rfl | (simp; done)) | exact Below.refl _ _ | assumption | refine sub_alloc ?_ _ | refine sub_setCell ?_ (by simp <;> omega) _ | refine sub_drew ?_ | refine below_drewN ?_ _ | refine sub_step (by assumption) ?_ (by first | rfl | (simp; done))))⟩
  · have hnews := (h.alloc hB (.cells #[] 2)).news
    have HL := Lib.hid hl
    clear hl h
    go_enter Try.func154, Try.ntmps154
    go_wp2_with (at_builtin; refine wpList_append_own _ rfl _ _ _ rfl w.heap.size 2 i0 _ 1 8 Try.underlying24 hi hz0 hz1 hz2 rfl (by decide) _ 0 [] rfl hown a n c (xs.map (Value.int .i64)) rfl ?c1 hnews (ints_oneCell _ _) ?c3 ?c4 ?c5 ?_)
    case c1 => simp [HL.out]
    case c3 => unfold maxLen; omega
    case c4 => omega
    case c5 => simp
    intro v' w1 hown1 hg1 hnil
    obtain ⟨A', c', rfl, ho⟩ := Own.of_row hown1
    have hbel : Below w.heap.size w w1 := (Below.alloc (Below.refl _ _) (Nat.le_refl _) _).grown hg1 (by simp) (by intro k hk; simp [Value.ownBlock] at hk; omega)
    clear hnil hg1 hown1 hown
    go_wp2
    go_ret
    exact ⟨_, _, rfl, ho, hbel⟩
/-! ### sized, copied, marked, held -/
theorem Own.stored {w : World} {base g n c : Nat} {zs : List Int} (h : Own w base (some ⟨g, 0, none⟩) n c zs) (k : Nat) (x : Int) :
    Own (w.setCell ⟨g, k, none⟩ (.int .i64 x)) base (some ⟨g, 0, none⟩) n c (zs.set k x) ∧ w.grownBy (w.setCell ⟨g, k, none⟩ (.int .i64 x)) (some g) := by
  obtain ⟨h1, h2⟩ := h.row.stored k (.int .i64 x)
  refine ⟨⟨by simpa using h.1, h.2.1, h.2.2.1, ?_⟩, h2⟩
  rw [List.map_set]
  exact h1
theorem Own.cell {w : World} {base g n c : Nat} {zs : List Int} (h : Own w base (some ⟨g, 0, none⟩) n c zs) {k : Nat} {x : Int} (hx : zs[k]? = some x) : w.cell? ⟨g, k, none⟩ = some (.int .i64 x) := by
  have hk : k < n := by have := (List.getElem?_eq_some_iff.1 hx).1; have := h.1; omega
  rw [h.row.cellAt k (by omega), List.getElem?_map, hx]
  rfl
theorem Own.free {w : World} {base g n c : Nat} {zs : List Int} (h : Own w base (some ⟨g, 0, none⟩) n c zs) (k : Nat) : w.frozen? ⟨g, k, none⟩ = false := h.row.frozenAt k
/-- The marks k0, k0 + 1, .. -/
def marks (k0 : Int) (m : Nat) : List Int := (List.range m).map (fun (j : Nat) => k0 + (j : Int))
theorem marks_len (k0 : Int) (m : Nat) : (marks k0 m).length = m := by simp [marks]
theorem marks_get {k0 : Int} {m k : Nat} (h : k < m) : (marks k0 m)[k]? = some (k0 + (k : Int)) := by simp [marks, h]
theorem marks_step {k0 : Int} {k : Nat} {zs : List Int} (h : k < zs.length) : (marks k0 k ++ zs.drop k).set k (k0 + (k : Int)) = marks k0 (k + 1) ++ zs.drop (k + 1) := by
  rw [List.set_append, if_neg (by simp [marks_len])]
  rw [marks_len, Nat.sub_self, List.drop_eq_getElem_cons h, List.set_cons_zero]
  simp [marks, List.range_succ]
theorem copy_step {k n : Nat} {xs : List Int} {x : Int} (hl : xs.length = n) (hx : xs[k]? = some x) : (xs.take k ++ List.replicate (n - k) 0).set k x = xs.take (k + 1) ++ List.replicate (n - (k + 1)) 0 := by
  have hk : k < xs.length := (List.getElem?_eq_some_iff.1 hx).1
  have e1 : (xs.take k).length = k := by simp; omega
  rw [List.set_append, if_neg (by omega), e1, Nat.sub_self, show n - k = (n - (k + 1)) + 1 by omega, List.replicate_succ, List.set_cons_zero, List.take_add_one, hx]
  simp
theorem grown_trans {a b c : World} {row : Option Nat} (h : a.grownBy b row) (k : b.grownBy c row) : a.grownBy c row :=
  ⟨k.os.trans h.os, k.tape.trans h.tape, k.output.trans h.output, Nat.le_trans h.size k.size, fun i hi hn => (k.block i (Nat.lt_of_lt_of_le hi h.size) hn).trans (h.block i hi hn)⟩
/-- What is left of a size. -/
def szF (left : Int) (n : Nat) : Int := if left - (n : Int) < 0 then -1 else left - (n : Int)
theorem szF_bd {left : Int} {n : Nat} (h : -1 ≤ left) : -1 ≤ szF left n ∧ (szF left n ≤ left ∨ szF left n = -1) := by unfold szF; split <;> omega
theorem szF_ok {left : Int} {n : Nat} (h : 0 ≤ szF left n) : (n : Int) ≤ left ∧ szF left n = left - (n : Int) := by unfold szF at h ⊢; split at h <;> simp_all <;> omega

set_option maxHeartbeats 1000000 in
theorem szInt64S_any (A : Option Addr) (n c : Nat) (left : Int) (w : World) (hn : n ≤ 9223372036854775807) (h0 : 0 ≤ left) (h1 : left ≤ 1048576) :
    Calls Try.prog 97 #[.slice A n c, .int .i64 left] w fun e w' => e = .returned (.int .i64 (szF left n)) ∧ w = w' := by
  by_cases hl : left - (n : Int) < 0
  · have e : szF left n = -1 := by unfold szF; rw [if_pos hl]
    rw [e]
    clear e
    go_enter Try.func97, Try.ntmps97
    go_wp2
    go_ret
    exact ⟨rfl, rfl⟩
  · have e : szF left n = left - (n : Int) := by unfold szF; rw [if_neg hl]
    rw [e]
    clear e
    have hl' : 0 ≤ left - (n : Int) := by omega
    clear hl
    go_enter Try.func97, Try.ntmps97
    go_wp2
    go_ret
    exact ⟨rfl, rfl⟩
set_option maxHeartbeats 1000000 in
theorem markInt64S_any (base : Nat) (A : Option Addr) (n c : Nat) (zs : List Int) (k0 : Int) (w : World) (h : Own w base A n c zs) (hk0 : 0 ≤ k0) (hk1 : k0 ≤ 4294967296) (hn : n ≤ 4294967296) :
    Calls Try.prog 60 #[.slice A n c, .int .i64 k0] w fun e w' => e = .returned (.int .i64 (k0 + (n : Int))) ∧ Own w' base A n c (marks k0 n) ∧ w.grownBy w' (Value.slice A n c).ownBlock := by
  have hl := h.len
  have HL := Lib.hid hl
  rcases h.form with ⟨rfl, rfl, rfl⟩ | ⟨g, rfl, hb, hg⟩
  · obtain rfl : zs = [] := List.eq_nil_of_length_eq_zero hl
    clear hl
    go_enter Try.func60, Try.ntmps60
    go_wp2
    refine wp_loop_rounds 1 ?_; rw [rounds_succ]
    go_wp2
    go_ret
    exact ⟨by simp, by simpa [marks] using h, World.grownBy.refl _ _⟩
  · clear hl
    go_enter Try.func60, Try.ntmps60
    go_wp2
    go_loopw [1, 5] (fun q i wr => ∃ k : Nat, k ≤ n ∧ i = .int .i64 k ∧ q = .int .i64 (k0 + (k : Int)) ∧ Own wr base (some ⟨g, 0, none⟩) n c (marks k0 k ++ zs.drop k) ∧ w.grownBy wr (some g)) (fun _ i _ => n - (intOf i).toNat)
    case atStart => exact ⟨0, Nat.zero_le _, rfl, by simp, by simpa [marks] using h, World.grownBy.refl _ _⟩
    case round =>
      obtain ⟨k, hk, rfl, rfl, ho, hgr⟩ := hrel
      by_cases hlt : k < n
      · have hx : (marks k0 k ++ zs.drop k)[k]? = some (zs[k]'(by rw [HL.out]; exact hlt)) := by
          rw [List.getElem?_append_right (by simp [marks_len]), marks_len, Nat.sub_self, List.getElem?_drop]
          simp
        have hcell := ho.cell hx
        have hfree := ho.free k
        obtain ⟨s1, s2⟩ := ho.stored k (k0 + (k : Int))
        rw [marks_step (by rw [HL.out]; exact hlt)] at s1
        have S1 := Lib.hid s1
        have S2 := Lib.hid (grown_trans hgr s2)
        have i0 : (0 : Int) ≤ (k : Int) := by omega
        have i1 : (k : Int) < (n : Int) := by omega
        clear hx s1 s2 ho hgr h
        go_wp2
        go_roundw
        case rel => exact ⟨k + 1, by omega, by go_num, by go_num, S1.out, S2.out⟩
        case measure => simp [intOf]; omega
      · have hkn : k = n := by omega
        have HK := Lib.hid hkn
        have HO := Lib.hid ho
        have HG := Lib.hid hgr
        clear hkn ho hgr h
        go_wp2
        go_ret
        have e := HK.out
        subst e
        have e2 := HO.out
        rw [List.drop_of_length_le (by rw [HL.out]; exact Nat.le_refl _), List.append_nil] at e2
        exact ⟨rfl, e2, HG.out⟩
set_option maxHeartbeats 1000000 in
theorem heldInt64S_any (B : Nat) (A : Option Addr) (n c : Nat) (k0 : Int) (w : World) (h : Ints w B A n c (marks k0 n)) (hk0 : 0 ≤ k0) (hk1 : k0 ≤ 4294967296) (hn : n ≤ 4294967296) :
    Calls Try.prog 61 #[.slice A n c, .int .i64 k0] w fun e w' => e = .returned (.int .i64 (k0 + (n : Int))) ∧ w = w' := by
  rcases Nat.eq_zero_or_pos n with h0 | h0
  · subst h0
    clear h
    go_enter Try.func61, Try.ntmps61
    go_wp2
    refine wp_loop_rounds 1 ?_; rw [rounds_succ]
    go_wp2
    go_ret
    simp
  obtain ⟨b, off, rfl, -, hc⟩ := h.at_ h0
  clear h
  go_enter Try.func61, Try.ntmps61
  go_wp2
  go_loop [1, 5] (fun q i => ∃ k : Nat, k ≤ n ∧ i = .int .i64 k ∧ q = .int .i64 (k0 + (k : Int))) (fun _ i => n - (intOf i).toNat)
  case atStart => exact ⟨0, Nat.zero_le _, rfl, by simp⟩
  case round =>
    obtain ⟨k, hk, rfl, rfl⟩ := hrel
    by_cases hlt : k < n
    · have hcell := hc k _ (marks_get hlt)
      have i0 : (0 : Int) ≤ (k : Int) := by omega
      have i1 : (k : Int) < (n : Int) := by omega
      clear hc
      go_wp2
      go_round
      case rel => exact ⟨k + 1, by omega, by go_num, by go_num⟩
      case measure => simp [intOf]; omega
    · obtain rfl : k = n := by omega
      clear hc
      go_wp2
      go_ret
      exact ⟨rfl, rfl⟩
set_option maxHeartbeats 1000000 in
theorem toInt64S_any (B : Nat) (A : Option Addr) (n c : Nat) (xs : List Int) (w : World) (h : Ints w B A n c xs) (hn : n ≤ 4294967296) (hB : B ≤ w.heap.size) :
    Calls Try.prog 46 #[.slice A n c] w (RetOwn w n xs) := by
  have hmk := run_make_row' (P := Try.prog) 24 2 (.int .i64 0) 8 Try.underlying24 info64 rfl .i64 .i64 n (by omega) (by omega)
  have hl := h.len
  have HL := Lib.hid hl
  have hown0 : Own (w.alloc (.cells (madeCells #[.int .i64 0] n) 2)) w.heap.size (some ⟨w.heap.size, 0, none⟩) n n (List.replicate n 0) := by
    refine ⟨by simp, Nat.le_refl _, by omega, ?_⟩
    have := World.ownsRow_lit (base := w.heap.size) (e := 2) (size := 1) w (madeCells #[.int .i64 0] n) n (Nat.le_refl _) (by unfold maxLen; omega) (by rw [size_madeCells]; simp)
    rw [toList_madeCells_one] at this
    simpa using this
  have H0 := Lib.hid hown0
  have HH := Lib.hid h
  clear hl hown0 h
  go_enter Try.func46, Try.ntmps46
  go_wp2
  go_loopw [4] (fun i wr => ∃ k : Nat, k ≤ n ∧ i = .int .i64 k ∧ Own wr w.heap.size (some ⟨w.heap.size, 0, none⟩) n n (xs.take k ++ List.replicate (n - k) 0) ∧ Below w.heap.size w wr) (fun i _ => n - (intOf i).toNat)
  case atStart => exact ⟨0, Nat.zero_le _, rfl, by simpa using H0.out, (by repeat (first | with_reducible exact Below.refl _ _ | with_reducible assumption | with_reducible refine sub_alloc ?_ _ | (with_reducible refine sub_setCell2 ?_ ?_ _; (focus (first | (simp; done) | (simp <;> omega)))) | with_reducible refine sub_drew ?_ | with_reducible refine below_drewN ?_ _ | with_reducible refine sub_step (by assumption) ?_ (by first | rfl | (simp; done)) | exact Below.refl _ _ | assumption | refine sub_alloc ?_ _ | refine sub_setCell ?_ (by simp <;> omega) _ | refine sub_drew ?_ | refine below_drewN ?_ _ | refine sub_step (by assumption) ?_ (by first | rfl | (simp; done))))⟩
  case round =>
    clear hmk
    obtain ⟨k, hk, rfl, ho, hbel⟩ := hrel
    by_cases hlt : k < n
    · obtain ⟨x, hx⟩ := get_some (zs := xs) (k := k) (by rw [HL.out]; exact hlt)
      obtain ⟨b, off, hA, hbB, hc⟩ := HH.out.at_ (by omega)
      subst hA
      have hsrc : wr.cell? ⟨b, off + k, none⟩ = some (.int .i64 x) := (hbel.cell (p := ⟨b, off + k, none⟩) (by show b < _; omega)).trans (hc k x hx)
      have hx0 : (xs.take k ++ List.replicate (n - k) 0)[k]? = some 0 := by
        rw [List.getElem?_append_right (by simp; omega)]
        have e1 : (xs.take k).length = k := by have := HL.out; simp; omega
        rw [e1, Nat.sub_self, List.getElem?_replicate]
        simp; omega
      have hcell := ho.cell hx0
      have hfree := ho.free k
      obtain ⟨s1, s2⟩ := ho.stored k x
      rw [copy_step HL.out hx] at s1
      have S1 := Lib.hid s1
      have S2 := Lib.hid (hbel.grown s2 hbel.size (by intro q hq; injection hq with hq; omega))
      have i0 : (0 : Int) ≤ (k : Int) := by omega
      have i1 : (k : Int) < (n : Int) := by omega
      clear hx hx0 s1 s2 ho hbel hc
      go_wp2
      go_roundw
      case rel => exact ⟨k + 1, by omega, by go_num, S1.out, S2.out⟩
      case measure => simp [intOf]; omega
    · have hkn : k = n := by omega
      have HK := Lib.hid hkn
      have HO := Lib.hid ho
      have HB := Lib.hid hbel
      clear hkn ho hbel
      go_wp2
      go_ret
      have e := HK.out
      subst e
      have e2 := HO.out
      rw [List.take_of_length_le (by rw [HL.out]; exact Nat.le_refl _), Nat.sub_self, List.replicate_zero, List.append_nil] at e2
      exact ⟨_, _, rfl, e2, HB.out⟩
end Go.Proofs.Ytnanaldolnehiaa
