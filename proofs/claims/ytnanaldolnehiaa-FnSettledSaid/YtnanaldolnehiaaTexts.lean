/-
  Lists of texts in memory: equal or not, marked and held; the marks as texts.
-/
import Derived.Test.YtnanaldolnehiaaLists
import Derived.Laws.IdiomStrings
import Derived.Deep.RegionHeld3
set_option linter.unusedSimpArgs false
set_option linter.unusedVariables false
namespace Go.Proofs.Ytnanaldolnehiaa
open Go.ChangeShapes Go.WideShapes Go.RowKit Go.Deep

/-! ### lists of texts -/
/-- The slice value '.slice A n c' holds the numbers zs; their cells lie below block B. -/
def Strs (w : World) (B : Nat) (A : Option Addr) (n c : Nat) (zs : List ByteArray) : Prop :=
  zs.length = n ∧ n ≤ c ∧ c ≤ 9223372036854775807 ∧ (A = none → n = 0 ∧ c = 0) ∧ (0 < n → ∃ b off, A = some ⟨b, off, none⟩ ∧ b < B ∧ ∀ j x, zs[j]? = some x → w.cell? ⟨b, off + j, none⟩ = some (.string x))

section
variable {w w' : World} {B B' n c : Nat} {A : Option Addr} {zs : List ByteArray}
theorem Strs.len (h : Strs w B A n c zs) : zs.length = n := h.1
theorem Strs.le (h : Strs w B A n c zs) : n ≤ 9223372036854775807 := Nat.le_trans h.2.1 h.2.2.1
theorem Strs.at_ (h : Strs w B A n c zs) (hn : 0 < n) : ∃ b off, A = some ⟨b, off, none⟩ ∧ b < B ∧ ∀ j x, zs[j]? = some x → w.cell? ⟨b, off + j, none⟩ = some (.string x) := h.2.2.2.2 hn
theorem Strs.keep (h : Strs w B A n c zs) (hk : ∀ p : Addr, p.block < B → w'.cell? p = w.cell? p) : Strs w' B A n c zs :=
  ⟨h.1, h.2.1, h.2.2.1, h.2.2.2.1, fun hn => by
    obtain ⟨b, off, e, hb, hc⟩ := h.at_ hn
    exact ⟨b, off, e, hb, fun j x hx => (hk _ hb).trans (hc j x hx)⟩⟩
theorem Strs.more (h : Strs w B A n c zs) (hB : B ≤ B') : Strs w B' A n c zs :=
  ⟨h.1, h.2.1, h.2.2.1, h.2.2.2.1, fun hn => by
    obtain ⟨b, off, e, hb, hc⟩ := h.at_ hn
    exact ⟨b, off, e, by omega, hc⟩⟩
theorem Strs.below (h : Strs w B A n c zs) (hb : Below B w w') : Strs w' B A n c zs := h.keep fun _ hp => hb.cell hp
theorem Strs.drew (h : Strs w B A n c zs) : Strs w.drew B A n c zs := h
theorem Strs.drewN (h : Strs w B A n c zs) (k : Nat) : Strs (w.drewN k) B A n c zs := h
theorem Strs.alloc (h : Strs w B A n c zs) (hB : B ≤ w.heap.size) (o : Obj) : Strs (w.alloc o) B A n c zs := h.keep fun p hp => World.cell?_alloc_lt w o p (by omega)
theorem Strs.setCell (h : Strs w B A n c zs) {p : Addr} (hB : B ≤ p.block) (u : Value) : Strs (w.setCell p u) B A n c zs :=
  h.keep fun q hq => World.cell?_setCell_other w p q u (fun e => by subst e; omega)
theorem Strs.grown (h : Strs w B A n c zs) {row : Option Nat} (hg : w.grownBy w' row) (hB : B ≤ w.heap.size) (hr : ∀ g, row = some g → B ≤ g) : Strs w' B A n c zs :=
  h.keep fun p hp => World.cell?_of_block (hg.block p.block (by omega) (fun e => by have := hr _ e.symm; omega))
theorem Strs.sub (h : Strs w w.heap.size A n c zs) (hs : Below w.heap.size w w') : Strs w' w'.heap.size A n c zs := (h.below hs).more hs.size
theorem Strs.nil (w : World) (B : Nat) : Strs w B none 0 0 [] := ⟨rfl, by omega, by omega, fun _ => ⟨rfl, rfl⟩, fun h => by omega⟩
end
/-- A list's element in front of its end. -/
theorem t_get_some {zs : List ByteArray} {k : Nat} (h : k < zs.length) : ∃ x, zs[k]? = some x := ⟨_, List.getElem?_eq_getElem h⟩
theorem t_take_step {xs ys : List ByteArray} {k : Nat} {x : ByteArray} (h : xs.take k = ys.take k) (hx : xs[k]? = some x) (hy : ys[k]? = some x) : xs.take (k + 1) = ys.take (k + 1) := by
  rw [List.take_add_one, List.take_add_one, h, hx, hy]
theorem t_take_ne {xs ys : List ByteArray} {k : Nat} {x y : ByteArray} (hx : xs[k]? = some x) (hy : ys[k]? = some y) (h : x ≠ y) : xs ≠ ys := by
  rintro rfl
  rw [hx] at hy
  exact h (by injection hy)
theorem t_take_all {xs ys : List ByteArray} {n : Nat} (h : xs.take n = ys.take n) (hx : xs.length = n) (hy : ys.length = n) : xs = ys := by
  rw [List.take_of_length_le (by omega), List.take_of_length_le (by omega)] at h
  exact h

/-- The slice value is the call's own (its block is 'base' or above), and holds the numbers zs. -/
def OwnT (w : World) (base : Nat) (A : Option Addr) (n c : Nat) (zs : List ByteArray) : Prop :=
  zs.length = n ∧ n ≤ c ∧ c ≤ 9223372036854775807 ∧ w.ownsRow base 9 1 (.slice A n c) n (zs.map (Value.string))
section
variable {w w' : World} {base base' n c : Nat} {A : Option Addr} {zs : List ByteArray}
theorem OwnT.len (h : OwnT w base A n c zs) : zs.length = n := h.1
theorem OwnT.row (h : OwnT w base A n c zs) : w.ownsRow base 9 1 (.slice A n c) n (zs.map (Value.string)) := h.2.2.2
theorem OwnT.of_row {v : Value} (h : w.ownsRow base 9 1 v n (zs.map (Value.string))) : ∃ A c, v = .slice A n c ∧ OwnT w base A n c zs := by
  have hl : zs.length = n := by simpa using h.1
  rcases h.2 with ⟨rfl, rfl⟩ | ⟨g, cap, cur, rfl, hb, hg, hnc, hcm, rest⟩
  · exact ⟨none, 0, rfl, hl, by omega, by omega, h⟩
  · refine ⟨_, cap, rfl, hl, hnc, ?_, h⟩
    unfold maxLen at hcm
    omega
theorem OwnT.form (h : OwnT w base A n c zs) : (A = none ∧ n = 0 ∧ c = 0) ∨ ∃ g, A = some ⟨g, 0, none⟩ ∧ base ≤ g ∧ g < w.heap.size := by
  rcases h.row.2 with ⟨e, rfl⟩ | ⟨g, cap, cur, e, hb, hg, _⟩
  · injection e with e1 e2 e3
    exact .inl ⟨e1, rfl, e3⟩
  · injection e with e1 e2 e3
    exact .inr ⟨g, e1, hb, (Array.getElem?_eq_some_iff.1 hg).1⟩
theorem OwnT.ints (h : OwnT w base A n c zs) : Strs w w.heap.size A n c zs := by
  refine ⟨h.1, h.2.1, h.2.2.1, ?_, fun hn => ?_⟩
  · rcases h.form with ⟨_, h1, h2⟩ | ⟨g, rfl, _⟩
    · exact fun _ => ⟨h1, h2⟩
    · intro e; cases e
  · rcases h.form with ⟨_, h1, _⟩ | ⟨g, rfl, hb, hg⟩
    · omega
    · refine ⟨g, 0, rfl, hg, fun j x hx => ?_⟩
      have hj : j < n := by have := (List.getElem?_eq_some_iff.1 hx).1; have := h.1; omega
      rw [Nat.zero_add, h.row.cellAt j (by omega), List.getElem?_map, hx]
      rfl
theorem OwnT.kept (h : OwnT w base A n c zs) {row : Option Nat} (hg : w.grownBy w' row) (hne : ∀ g, row = some g → g < base ∨ A ≠ some ⟨g, 0, none⟩) : OwnT w' base A n c zs := by
  refine ⟨h.1, h.2.1, h.2.2.1, h.row.kept hg ?_⟩
  rcases h.form with ⟨rfl, _⟩ | ⟨g, rfl, hb, _⟩
  · exact .inl rfl
  · refine .inr fun e => ?_
    rcases hne g (by rw [← e]; rfl) with h1 | h1
    · omega
    · exact h1 rfl
theorem OwnT.below {B : Nat} (h : OwnT w base A n c zs) (hb : Below B w w') (hB : w.heap.size ≤ B) : OwnT w' base A n c zs := h.kept (grown_of_below hb hB) (fun g e => by cases e)
theorem OwnT.alloc (h : OwnT w base A n c zs) (o : Obj) : OwnT (w.alloc o) base A n c zs := ⟨h.1, h.2.1, h.2.2.1, h.row.alloc o⟩
theorem OwnT.drewN (h : OwnT w base A n c zs) (k : Nat) : OwnT (w.drewN k) base A n c zs := h
end
theorem OwnT.stored {w : World} {base g n c : Nat} {zs : List ByteArray} (h : OwnT w base (some ⟨g, 0, none⟩) n c zs) (k : Nat) (x : ByteArray) :
    OwnT (w.setCell ⟨g, k, none⟩ (.string x)) base (some ⟨g, 0, none⟩) n c (zs.set k x) ∧ w.grownBy (w.setCell ⟨g, k, none⟩ (.string x)) (some g) := by
  obtain ⟨h1, h2⟩ := h.row.stored k (.string x)
  refine ⟨⟨by simpa using h.1, h.2.1, h.2.2.1, ?_⟩, h2⟩
  rw [List.map_set]
  exact h1
theorem OwnT.cell {w : World} {base g n c : Nat} {zs : List ByteArray} (h : OwnT w base (some ⟨g, 0, none⟩) n c zs) {k : Nat} {x : ByteArray} (hx : zs[k]? = some x) : w.cell? ⟨g, k, none⟩ = some (.string x) := by
  have hk : k < n := by have := (List.getElem?_eq_some_iff.1 hx).1; have := h.1; omega
  rw [h.row.cellAt k (by omega), List.getElem?_map, hx]
  rfl
theorem OwnT.free {w : World} {base g n c : Nat} {zs : List ByteArray} (h : OwnT w base (some ⟨g, 0, none⟩) n c zs) (k : Nat) : w.frozen? ⟨g, k, none⟩ = false := h.row.frozenAt k

/-- The digits of a number, in front of what stands. -/
def digs (k : Nat) (l : List UInt8) : List UInt8 := if h : k = 0 then l else digs (k / 10) (UInt8.ofNat (48 + k % 10) :: l)
termination_by k
decreasing_by omega
theorem digs_zero (l : List UInt8) : digs 0 l = l := by rw [digs]; simp
theorem digs_step (k : Nat) (l : List UInt8) (h : 0 < k) : digs k l = digs (k / 10) (UInt8.ofNat (48 + k % 10) :: l) := by rw [digs, dif_neg (by omega)]
/-- The text of a mark. -/
def mt (k : Nat) : ByteArray := ⟨(109 :: digs k []).toArray⟩
theorem undrewT {B : Nat} {w w' : World} (h : Below B w.drew w') : Below B w w' := ⟨h.os, h.tape, h.output, h.size, h.block⟩
theorem cat_cons (d : UInt8) (l : List UInt8) : ((⟨#[d]⟩ : ByteArray) ++ (⟨l.toArray⟩ : ByteArray)) = ⟨(d :: l).toArray⟩ := by
  apply ByteArray.ext
  simp
theorem toList_ne {x y : ByteArray} (h : ¬ (x = y)) : (x.toList == y.toList) = false := by
  rw [beq_eq_false_iff_ne]
  intro e
  rw [ByteArray.toList_eq, ByteArray.toList_eq] at e
  exact h (ByteArray.ext (Array.toList_inj.mp e))
/-- 'string([]byte{b})'. -/
theorem conv_one (w : World) (x : Int) (h0 : 0 ≤ x) (h1 : x ≤ 255) : (convert 84 9 (.slice (some ⟨w.heap.size, 0, none⟩) 1 1)).run Try.prog (w.alloc (.cells #[.int .u8 x] 5)) = .ok (.string ⟨#[UInt8.ofNat x.toNat]⟩) (w.alloc (.cells #[.int .u8 x] 5)) := by
  have := run_convert_bytes_back (P := Try.prog) (w.alloc (.cells #[.int .u8 x] 5)) 84 9 5 ⟨w.heap.size, 0, none⟩ 1 [UInt8.ofNat x.toNat] Try.underlying84 Try.underlying5 Try.underlying9 (fun j hj => by
    simp at hj
    subst hj
    simp [World.cell?_alloc_new, Addr.add]
    omega)
  simpa using this
set_option maxRecDepth 100000 in
set_option maxHeartbeats 1000000 in
theorem markText_any (k : Nat) (w : World) (h0 : 0 < k) (h1 : k ≤ 4294967296) :
    Calls Try.prog 115 #[.int .i64 (k : Int)] w fun e w' => e = .returned (.string (mt k)) ∧ Below w.heap.size w w' := by
  have i0 : ¬ ((k : Int) ≤ 0) := by omega
  go_enter Try.func115, Try.ntmps115
  go_wp2_with fail
  go_loopw [0, 3] (fun q s wr => ∃ (m : Nat) (l : List UInt8), q = .int .i64 m ∧ s = .string ⟨l.toArray⟩ ∧ l.length + m ≤ k ∧ digs m l = digs k [] ∧ Below w.heap.size w wr) (fun q _ _ => (intOf q).toNat)
  case atStart => exact ⟨k, [], rfl, rfl, by simp, rfl, Below.refl _ _⟩
  case round =>
    obtain ⟨m, l, rfl, rfl, hm, hd, hb⟩ := hrel
    by_cases hlt : 0 < m
    · have kc := conv_one wr (48 + (m : Int) % 10) (by omega) (by omega)
      have j0 : ¬ ((m : Int) ≤ 0) := by omega
      have j1 : (0 : Int) < (m : Int) := by omega
      have HB := Lib.hid hb
      have HD := Lib.hid (digs_step m l hlt)
      have HE := Lib.hid hd
      have j2 : ¬ (9223372036854775807 < 1 + l.length) := by omega
      have j3 : ¬ (9223372036854775807 < l.length + 1) := by omega
      clear hb hd
      go_wp2_with fail
      go_roundw
      case rel => exact ⟨m / 10, UInt8.ofNat (48 + m % 10) :: l, by go_num, by rw [cat_cons]; simp [UInt8.ofNat_add], by simp; omega, by rw [← HD.out]; exact HE.out, (by repeat (first | with_reducible exact Below.refl _ _ | with_reducible assumption | with_reducible refine sub_alloc ?_ _ | (with_reducible refine sub_setCell2 ?_ ?_ _; (focus (first | (simp; done) | (simp <;> omega)))) | with_reducible refine sub_drew ?_ | with_reducible refine below_drewN ?_ _ | with_reducible refine sub_step (by assumption) ?_ (by first | rfl | (simp; done)) | exact Below.refl _ _ | assumption | refine sub_alloc ?_ _ | refine sub_setCell ?_ (by simp <;> omega) _ | refine sub_drew ?_ | refine below_drewN ?_ _ | refine sub_step (by assumption) ?_ (by first | rfl | (simp; done))))⟩
      case measure => simp [intOf]; omega
    · obtain rfl : m = 0 := by omega
      have HD := Lib.hid hd
      have j2 : ¬ (9223372036854775807 < 1 + l.length) := by omega
      have j3 : ¬ (9223372036854775807 < l.length + 1) := by omega
      clear hd
      go_wp2_with fail
      go_ret
      exact ⟨by have e := HD.out; rw [digs_zero] at e; simp only [mt, ← e]; rw [cat_cons]; rfl, hb⟩
set_option maxHeartbeats 1000000 in
theorem eqStringS_any (B B' : Nat) (A A' : Option Addr) (n n' c c' : Nat) (xs ys : List ByteArray) (w : World) (h : Strs w B A n c xs) (h' : Strs w B' A' n' c' ys) :
    Calls Try.prog 40 #[.slice A n c, .slice A' n' c'] w fun e w' => e = .returned (.bool (decide (xs = ys))) ∧ ∃ m, w' = w.drewN m := by
  have hm := h.le
  have hm' := h'.le
  have hl := h.len
  have hl' := h'.len
  by_cases hn : n = n'
  · obtain rfl : n = n' := hn
    have HL := Lib.hid hl
    have HL' := Lib.hid hl'
    rcases Nat.eq_zero_or_pos n with h0 | h0
    · obtain rfl : xs = [] := List.eq_nil_of_length_eq_zero (by omega)
      obtain rfl : ys = [] := List.eq_nil_of_length_eq_zero (by omega)
      subst h0
      clear hl hl' h h'
      go_enter Try.func40, Try.ntmps40
      go_wp2
      refine wp_loop_rounds 1 ?_; rw [rounds_succ]
      go_wp2
      go_ret
      exact ⟨ret_b (by simp), 0, rfl⟩
    obtain ⟨b, off, rfl, -, hc⟩ := h.at_ h0
    obtain ⟨b', off', rfl, -, hc'⟩ := h'.at_ h0
    clear hl hl' h h'
    go_enter Try.func40, Try.ntmps40
    go_wp2
    go_loopw [5] (fun i wr => ∃ k : Nat, k ≤ n ∧ i = .int .i64 k ∧ Hid (xs.take k = ys.take k) ∧ ∃ m, wr = w.drewN m) (fun i _ => n - (intOf i).toNat)
    case atStart => exact ⟨0, Nat.zero_le _, rfl, rfl, 0, rfl⟩
    case round =>
      obtain ⟨k, hk, rfl, ht, m, rfl⟩ := hrel
      by_cases hlt : k < n
      · obtain ⟨x, hx⟩ := t_get_some (zs := xs) (k := k) (by rw [HL.out]; exact hlt)
        obtain ⟨y, hy⟩ := t_get_some (zs := ys) (k := k) (by rw [HL'.out]; exact hlt)
        have cx := hc k x hx
        have cy := hc' k y hy
        have HX := Lib.hid hx
        have HY := Lib.hid hy
        clear hx hy hc hc'
        have i0 : (0 : Int) ≤ (k : Int) := by omega
        have i1 : (k : Int) < (n : Int) := by omega
        by_cases hxy : x = y
        · subst hxy
          go_wp2
          go_quiet (fail)
          go_wp2
          go_roundw
          case rel => exact ⟨k + 1, by omega, by go_num, t_take_step ht.out HX.out HY.out, _, rfl⟩
          case measure => simp [intOf]; omega
        · have hb := toList_ne hxy
          go_wp2
          go_quiet (fail)
          go_wp2
          go_ret
          exact ⟨ret_b (by simpa using t_take_ne HX.out HY.out hxy), _, World.drewN_drewN _ _ _⟩
      · have hkn : k = n := by omega
        have HK := Lib.hid hkn
        clear hkn hc hc'
        go_wp2
        go_ret
        exact ⟨ret_b (by have := HK.out; subst this; simpa using t_take_all ht.out HL.out HL'.out), _, rfl⟩
  · have hd : ((n : Int) != (n' : Int)) = true := by simp; omega
    have hne : xs ≠ ys := by rintro rfl; omega
    clear hl hl' hn h h'
    go_enter Try.func40, Try.ntmps40
    go_wp2
    go_ret
    exact ⟨ret_b (by simpa using hne), 0, rfl⟩
theorem eqStringS_is (B B' : Nat) (A A' : Option Addr) (n n' c c' : Nat) (xs ys : List ByteArray) (r : Bool) (hr : decide (xs = ys) = r) (w : World) (h : Strs w B A n c xs) (h' : Strs w B' A' n' c' ys) :
    Calls Try.prog 40 #[.slice A n c, .slice A' n' c'] w fun e w' => e = .returned (.bool r) ∧ ∃ m, w' = w.drewN m := by
  subst hr
  exact eqStringS_any B B' A A' n n' c c' xs ys w h h'
/-- The marks k0, k0 + 1, .. as texts. -/
def tmarks (k0 : Nat) (m : Nat) : List ByteArray := (List.range m).map (fun (j : Nat) => mt (k0 + j))
theorem tmarks_len (k0 : Nat) (m : Nat) : (tmarks k0 m).length = m := by simp [tmarks]
theorem tmarks_get {k0 : Nat} {m k : Nat} (h : k < m) : (tmarks k0 m)[k]? = some (mt (k0 + k)) := by simp [tmarks, h]
theorem tmarks_step {k0 : Nat} {k : Nat} {zs : List ByteArray} (h : k < zs.length) : (tmarks k0 k ++ zs.drop k).set k (mt (k0 + k)) = tmarks k0 (k + 1) ++ zs.drop (k + 1) := by
  rw [List.set_append, if_neg (by simp [tmarks_len])]
  rw [tmarks_len, Nat.sub_self, List.drop_eq_getElem_cons h, List.set_cons_zero]
  simp [tmarks, List.range_succ]
set_option maxRecDepth 100000 in
set_option maxHeartbeats 1000000 in
theorem markStringS_any (base : Nat) (A : Option Addr) (n c : Nat) (zs : List ByteArray) (k0 : Nat) (w : World) (h : OwnT w base A n c zs) (hB : base ≤ w.heap.size) (hk0 : 0 < k0) (hk1 : k0 ≤ 2147483648) (hn : n ≤ 2147483648) :
    Calls Try.prog 41 #[.slice A n c, .int .i64 (k0 : Int)] w fun e w' => e = .returned (.int .i64 ((k0 : Int) + (n : Int))) ∧ OwnT w' base A n c (tmarks k0 n) ∧ Below base w w' := by
  have hl := h.len
  have HL := Lib.hid hl
  rcases h.form with ⟨rfl, rfl, rfl⟩ | ⟨g, rfl, hb, hg⟩
  · obtain rfl : zs = [] := List.eq_nil_of_length_eq_zero hl
    clear hl
    go_enter Try.func41, Try.ntmps41
    go_wp2
    refine wp_loop_rounds 1 ?_; rw [rounds_succ]
    go_wp2
    go_ret
    exact ⟨by simp, by simpa [tmarks] using h, Below.refl _ _⟩
  · clear hl
    go_enter Try.func41, Try.ntmps41
    go_wp2
    go_loopw [1, 5] (fun q i wr => ∃ k : Nat, k ≤ n ∧ i = .int .i64 k ∧ q = .int .i64 ((k0 : Int) + (k : Int)) ∧ OwnT wr base (some ⟨g, 0, none⟩) n c (tmarks k0 k ++ zs.drop k) ∧ Below base w wr) (fun _ i _ => n - (intOf i).toNat)
    case atStart => exact ⟨0, Nat.zero_le _, rfl, by simp, by simpa [tmarks] using h, Below.refl _ _⟩
    case round =>
      obtain ⟨k, hk, rfl, rfl, ho, hgr⟩ := hrel
      by_cases hlt : k < n
      · have HO := Lib.hid ho
        have HG := Lib.hid hgr
        have i0 : (0 : Int) ≤ (k : Int) := by omega
        have i1 : (k : Int) < (n : Int) := by omega
        clear ho hgr h
        go_wp2_with fail
        rw [show (k0 : Int) + (k : Int) = ((k0 + k : Nat) : Int) by omega]
        refine (markText_any (k0 + k) wr (by omega) (by omega)).mono ?_
        rintro e w1 ⟨rfl, hb1⟩
        have ho := HO.out.below hb1 (Nat.le_refl _)
        have hgr := HG.out.trans (hb1.mono (Nat.le_trans hB HG.out.size))
        have hx : (tmarks k0 k ++ zs.drop k)[k]? = some (zs[k]'(by rw [HL.out]; exact hlt)) := by
          rw [List.getElem?_append_right (by simp [tmarks_len]), tmarks_len, Nat.sub_self, List.getElem?_drop]
          simp
        have hcell := ho.cell hx
        have hfree := ho.free k
        obtain ⟨s1, s2⟩ := ho.stored k (mt (k0 + k))
        rw [tmarks_step (by rw [HL.out]; exact hlt)] at s1
        have S1 := Lib.hid s1
        have S2 := Lib.hid (hgr.setCell (p := ⟨g, k, none⟩) hb (.string (mt (k0 + k))))
        rw [show ((k0 + k : Nat) : Int) = (k0 : Int) + (k : Int) by omega]
        clear hx s1 s2 ho hgr hb1
        go_wp2
        go_roundw
        case rel => exact ⟨k + 1, by omega, by go_num, by go_num, S1.out, S2.out⟩
        case measure => simp [intOf]; omega
      · have hkn : k = n := by omega
        have HK := Lib.hid hkn
        have HO := Lib.hid ho
        have HG := Lib.hid hgr
        clear hkn ho hgr h
        go_wp2
        go_ret
        have e := HK.out
        subst e
        have e2 := HO.out
        rw [List.drop_of_length_le (by rw [HL.out]; exact Nat.le_refl _), List.append_nil] at e2
        exact ⟨rfl, e2, HG.out⟩
set_option maxRecDepth 100000 in
set_option maxHeartbeats 1000000 in
theorem heldStringS_any (A : Option Addr) (n c : Nat) (k0 : Nat) (w : World) (h : Strs w w.heap.size A n c (tmarks k0 n)) (hk0 : 0 < k0) (hk1 : k0 ≤ 2147483648) (hn : n ≤ 2147483648) :
    Calls Try.prog 42 #[.slice A n c, .int .i64 (k0 : Int)] w fun e w' => e = .returned (.int .i64 ((k0 : Int) + (n : Int))) ∧ Below w.heap.size w w' := by
  rcases Nat.eq_zero_or_pos n with h0 | h0
  · subst h0
    clear h
    go_enter Try.func42, Try.ntmps42
    go_wp2
    refine wp_loop_rounds 1 ?_; rw [rounds_succ]
    go_wp2
    go_ret
    exact ⟨by simp, Below.refl _ _⟩
  obtain ⟨b, off, rfl, hbB, hc⟩ := h.at_ h0
  clear h
  go_enter Try.func42, Try.ntmps42
  go_wp2
  go_loopw [1, 5] (fun q i wr => ∃ k : Nat, k ≤ n ∧ i = .int .i64 k ∧ q = .int .i64 ((k0 : Int) + (k : Int)) ∧ Below w.heap.size w wr) (fun _ i _ => n - (intOf i).toNat)
  case atStart => exact ⟨0, Nat.zero_le _, rfl, by simp, Below.refl _ _⟩
  case round =>
    obtain ⟨k, hk, rfl, rfl, hb⟩ := hrel
    by_cases hlt : k < n
    · have hcell := (hb.cell (p := ⟨b, off + k, none⟩) hbB).trans (hc k _ (tmarks_get hlt))
      have hsz := hb.size
      have i0 : (0 : Int) ≤ (k : Int) := by omega
      have i1 : (k : Int) < (n : Int) := by omega
      have HB := Lib.hid hb
      clear hc hb
      go_wp2_with fail
      go_region_held3 (fun w' => w'.cell? ⟨b, off + k, none⟩ = some (.string (mt (k0 + k)))) (first | exact hcell | assumption | go_keep) (first | (go_at_call 115; rw [show (k0 : Int) + (k : Int) = ((k0 + k : Nat) : Int) by omega]; refine (markText_any (k0 + k) _ (by omega) (by omega)).mono ?_; rintro e w1 ⟨rfl, hb1⟩; have hcell := (hb1.cell (p := ⟨b, off + k, none⟩) (by simp <;> omega)).trans hcell))
      go_wp2_with fail
      go_roundw
      case rel => exact ⟨k + 1, by omega, by go_num, by go_num, HB.out.trans ((undrewT hb1).mono hsz)⟩
      case measure => simp [intOf]; omega
    · obtain rfl : k = n := by omega
      clear hc
      go_wp2
      go_ret
      exact ⟨rfl, hb⟩
end Go.Proofs.Ytnanaldolnehiaa
