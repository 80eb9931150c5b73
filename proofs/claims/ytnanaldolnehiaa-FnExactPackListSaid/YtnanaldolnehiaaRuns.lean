/-
  Lists of structs of numbers in memory, each read as one list of numbers.
-/
import Derived.Test.YtnanaldolnehiaaLists
import Derived.Deep.Slices
import Derived.Deep.RegionHeld3
set_option linter.unusedSimpArgs false
set_option linter.unusedVariables false
namespace Go.Proofs.Ytnanaldolnehiaa
open Go.ChangeShapes Go.WideShapes Go.RowKit Go.Deep

/-- The slice value '.slice A n c' of structs of K numbers each holds the numbers zs; their cells lie below block B. -/
def Flat (K : Nat) (w : World) (B : Nat) (A : Option Addr) (n c : Nat) (zs : List Int) : Prop :=
  zs.length = n * K ∧ n ≤ c ∧ c ≤ 9223372036854775807 ∧ (A = none → n = 0 ∧ c = 0) ∧ (0 < n → ∃ b off, A = some ⟨b, off, none⟩ ∧ b < B ∧ ∀ j x, zs[j]? = some x → w.cell? ⟨b, off + j, none⟩ = some (.int .i64 x))
section
variable {K : Nat} {w w' : World} {B B' n c : Nat} {A : Option Addr} {zs : List Int}
theorem Flat.len (h : Flat K w B A n c zs) : zs.length = n * K := h.1
theorem Flat.le (h : Flat K w B A n c zs) : n ≤ 9223372036854775807 := Nat.le_trans h.2.1 h.2.2.1
theorem Flat.at_ (h : Flat K w B A n c zs) (hn : 0 < n) : ∃ b off, A = some ⟨b, off, none⟩ ∧ b < B ∧ ∀ j x, zs[j]? = some x → w.cell? ⟨b, off + j, none⟩ = some (.int .i64 x) := h.2.2.2.2 hn
theorem Flat.keep (h : Flat K w B A n c zs) (hk : ∀ p : Addr, p.block < B → w'.cell? p = w.cell? p) : Flat K w' B A n c zs :=
  ⟨h.1, h.2.1, h.2.2.1, h.2.2.2.1, fun hn => by
    obtain ⟨b, off, e, hb, hc⟩ := h.at_ hn
    exact ⟨b, off, e, hb, fun j x hx => (hk _ hb).trans (hc j x hx)⟩⟩
theorem Flat.more (h : Flat K w B A n c zs) (hB : B ≤ B') : Flat K w B' A n c zs :=
  ⟨h.1, h.2.1, h.2.2.1, h.2.2.2.1, fun hn => by
    obtain ⟨b, off, e, hb, hc⟩ := h.at_ hn
    exact ⟨b, off, e, by omega, hc⟩⟩
theorem Flat.below (h : Flat K w B A n c zs) (hb : Below B w w') : Flat K w' B A n c zs := h.keep fun _ hp => hb.cell hp
theorem Flat.drewN (h : Flat K w B A n c zs) (k : Nat) : Flat K (w.drewN k) B A n c zs := h
theorem Flat.sub (h : Flat K w w.heap.size A n c zs) (hs : Below w.heap.size w w') : Flat K w' w'.heap.size A n c zs := (h.below hs).more hs.size
theorem Flat.nil (w : World) (B : Nat) : Flat K w B none 0 0 [] := ⟨by simp, by omega, by omega, fun _ => ⟨rfl, rfl⟩, fun h => by omega⟩
end
theorem undrewF {B : Nat} {w w' : World} (h : Below B w.drew w') : Below B w w' := ⟨h.os, h.tape, h.output, h.size, h.block⟩
theorem flat_take {xs ys : List Int} {n : Nat} (h : xs.take n = ys.take n) (hx : xs.length = n) (hy : ys.length = n) : xs = ys := take_all h hx hy

theorem step2 {xs ys : List Int} {k : Nat} {x0 x1 : Int} (h : xs.take (k * 2) = ys.take (k * 2)) (a0 : xs[k * 2 + 0]? = some x0) (b0 : ys[k * 2 + 0]? = some x0) (a1 : xs[k * 2 + 1]? = some x1) (b1 : ys[k * 2 + 1]? = some x1) : xs.take ((k + 1) * 2) = ys.take ((k + 1) * 2) := by
  rw [show (k + 1) * 2 = k * 2 + 2 by omega]
  
  have e := h
  have e0 := take_step (xs := xs) (ys := ys) (k := k * 2 + 0) h a0 b0
  have e1 := take_step (xs := xs) (ys := ys) (k := k * 2 + 1) e0 a1 b1
  exact e1
set_option maxHeartbeats 4000000 in
theorem neq_run (x0 x1 y0 y1 : Int) (v : Bool) (hv : decide (¬ (x0 = y0 ∧ x1 = y1)) = v) (w : World) : (binOp .neq 136 (.agg #[.int .i64 x0, .int .i64 x1]) (.agg #[.int .i64 y0, .int .i64 y1])).run Try.prog w = .ok (.bool v) w := by
  subst hv
  go_simp
  (repeat' split) <;> simp_all
set_option maxHeartbeats 2000000 in
theorem eqRun_any (x0 x1 y0 y1 : Int) (w : World) : Calls Try.prog 127 #[.agg #[.int .i64 x0, .int .i64 x1], .agg #[.int .i64 y0, .int .i64 y1]] w fun e w' => e = .returned (.bool (decide (x0 = y0 ∧ x1 = y1))) ∧ Below w.heap.size w w' := by
  by_cases h0 : x0 = y0
  rotate_left
  · have n0 : (x0 != y0) = true := by simpa using h0
    have H0 := Lib.hid h0
    clear h0
    go_enter Try.func127, Try.ntmps127
    go_wp2_with fail
    go_ret
    exact ⟨ret_b (by simp [H0.out]), (by repeat (first | with_reducible exact Below.refl _ _ | with_reducible assumption | with_reducible refine sub_alloc ?_ _ | (with_reducible refine sub_setCell2 ?_ ?_ _; (focus (first | (simp; done) | (simp <;> omega)))) | with_reducible refine sub_drew ?_ | with_reducible refine below_drewN ?_ _ | with_reducible refine sub_step (by assumption) ?_ (by first | rfl | (simp; done)) | exact Below.refl _ _ | assumption | refine sub_alloc ?_ _ | refine sub_setCell ?_ (by simp <;> omega) _ | refine sub_drew ?_ | refine below_drewN ?_ _ | refine sub_step (by assumption) ?_ (by first | rfl | (simp; done))))⟩
  subst h0
  by_cases h1 : x1 = y1
  rotate_left
  · have n1 : (x1 != y1) = true := by simpa using h1
    have H1 := Lib.hid h1
    clear h1
    go_enter Try.func127, Try.ntmps127
    go_wp2_with fail
    go_ret
    exact ⟨ret_b (by simp [H1.out]), (by repeat (first | with_reducible exact Below.refl _ _ | with_reducible assumption | with_reducible refine sub_alloc ?_ _ | (with_reducible refine sub_setCell2 ?_ ?_ _; (focus (first | (simp; done) | (simp <;> omega)))) | with_reducible refine sub_drew ?_ | with_reducible refine below_drewN ?_ _ | with_reducible refine sub_step (by assumption) ?_ (by first | rfl | (simp; done)) | exact Below.refl _ _ | assumption | refine sub_alloc ?_ _ | refine sub_setCell ?_ (by simp <;> omega) _ | refine sub_drew ?_ | refine below_drewN ?_ _ | refine sub_step (by assumption) ?_ (by first | rfl | (simp; done))))⟩
  subst h1
  go_enter Try.func127, Try.ntmps127
  go_wp2_with fail
  go_ret
  exact ⟨ret_b (by simp), (by repeat (first | with_reducible exact Below.refl _ _ | with_reducible assumption | with_reducible refine sub_alloc ?_ _ | (with_reducible refine sub_setCell2 ?_ ?_ _; (focus (first | (simp; done) | (simp <;> omega)))) | with_reducible refine sub_drew ?_ | with_reducible refine below_drewN ?_ _ | with_reducible refine sub_step (by assumption) ?_ (by first | rfl | (simp; done)) | exact Below.refl _ _ | assumption | refine sub_alloc ?_ _ | refine sub_setCell ?_ (by simp <;> omega) _ | refine sub_drew ?_ | refine below_drewN ?_ _ | refine sub_step (by assumption) ?_ (by first | rfl | (simp; done))))⟩
set_option maxRecDepth 100000 in
set_option maxHeartbeats 2000000 in
theorem eqRunS_any (B B' : Nat) (A A' : Option Addr) (n n' c c' : Nat) (xs ys : List Int) (w : World) (hB : B ≤ w.heap.size) (hB' : B' ≤ w.heap.size) (h : Flat 2 w B A n c xs) (h' : Flat 2 w B' A' n' c' ys) :
    Calls Try.prog 58 #[.slice A n c, .slice A' n' c'] w fun e w' => e = .returned (.bool (decide (xs = ys))) ∧ Below w.heap.size w w' := by
  have hm := h.le
  have hm' := h'.le
  have hl := h.len
  have hl' := h'.len
  by_cases hn : n = n'
  · obtain rfl : n = n' := hn
    have HL := Lib.hid hl
    have HL' := Lib.hid hl'
    rcases Nat.eq_zero_or_pos n with h0 | h0
    · obtain rfl : xs = [] := List.eq_nil_of_length_eq_zero (by omega)
      obtain rfl : ys = [] := List.eq_nil_of_length_eq_zero (by omega)
      subst h0
      clear hl hl' h h'
      go_enter Try.func58, Try.ntmps58
      go_wp2
      refine wp_loop_rounds 1 ?_; rw [rounds_succ]
      go_wp2
      go_ret
      exact ⟨ret_b (by simp), Below.refl _ _⟩
    obtain ⟨b, off, rfl, hbB, hc⟩ := h.at_ h0
    obtain ⟨b', off', rfl, hbB', hc'⟩ := h'.at_ h0
    clear hl hl' h h'
    go_enter Try.func58, Try.ntmps58
    go_wp2
    go_loopw [5] (fun i wr => ∃ k : Nat, k ≤ n ∧ i = .int .i64 k ∧ Hid (xs.take (k * 2) = ys.take (k * 2)) ∧ Below w.heap.size w wr) (fun i _ => n - (intOf i).toNat)
    case atStart => exact ⟨0, Nat.zero_le _, rfl, Lib.hid (by simp), Below.refl _ _⟩
    case round =>
      obtain ⟨k, hk, rfl, ht, hb⟩ := hrel
      have hsz := hb.size
      by_cases hlt : k < n
      · have hk3 : k * 2 + 2 ≤ n * 2 := by omega
        obtain ⟨x0, hx0⟩ := get_some (zs := xs) (k := k * 2 + 0) (by rw [HL.out]; omega)
        obtain ⟨y0, hy0⟩ := get_some (zs := ys) (k := k * 2 + 0) (by rw [HL'.out]; omega)
        have cx0 : wr.cell? ⟨b, off + k * 2, none⟩ = some (.int .i64 x0) := (hb.cell (p := ⟨b, off + k * 2, none⟩) (by show b < _; omega)).trans (hc (k * 2 + 0) x0 hx0)
        have cy0 : wr.cell? ⟨b', off' + k * 2, none⟩ = some (.int .i64 y0) := (hb.cell (p := ⟨b', off' + k * 2, none⟩) (by show b' < _; omega)).trans (hc' (k * 2 + 0) y0 hy0)
        have X0 := Lib.hid hx0
        have Y0 := Lib.hid hy0
        obtain ⟨x1, hx1⟩ := get_some (zs := xs) (k := k * 2 + 1) (by rw [HL.out]; omega)
        obtain ⟨y1, hy1⟩ := get_some (zs := ys) (k := k * 2 + 1) (by rw [HL'.out]; omega)
        have cx1 : wr.cell? ⟨b, off + k * 2 + 1, none⟩ = some (.int .i64 x1) := (hb.cell (p := ⟨b, off + k * 2 + 1, none⟩) (by show b < _; omega)).trans (hc (k * 2 + 1) x1 hx1)
        have cy1 : wr.cell? ⟨b', off' + k * 2 + 1, none⟩ = some (.int .i64 y1) := (hb.cell (p := ⟨b', off' + k * 2 + 1, none⟩) (by show b' < _; omega)).trans (hc' (k * 2 + 1) y1 hy1)
        have X1 := Lib.hid hx1
        have Y1 := Lib.hid hy1
        clear hx0 hy0 hx1 hy1 hc hc' hk3
        have i0 : (0 : Int) ≤ (k : Int) := by omega
        have i1 : (k : Int) < (n : Int) := by omega
        by_cases hxy : x0 = y0 ∧ x1 = y1
        · have HXY := Lib.hid hxy
          clear hxy
          go_wp2
          go_region_held3 (fun w' => w'.cell? ⟨b, off + k * 2, none⟩ = some (.int .i64 x0) ∧ w'.cell? ⟨b, off + k * 2 + 1, none⟩ = some (.int .i64 x1) ∧ w'.cell? ⟨b', off' + k * 2, none⟩ = some (.int .i64 y0) ∧ w'.cell? ⟨b', off' + k * 2 + 1, none⟩ = some (.int .i64 y1)) (first | (refine ⟨?_, ?_, ?_, ?_⟩ <;> assumption) | go_keep) (first | (go_at_call 127; refine (eqRun_any x0 x1 y0 y1 _).mono ?_; rintro e w1 ⟨rfl, hb1⟩; rw [decide_eq_true HXY.out]; have hb1 := undrewF hb1; have hb2 := hb.trans (hb1.mono hsz); have cx0 := (hb1.cell (p := ⟨b, off + k * 2, none⟩) (by show b < wr.heap.size; omega)).trans cx0; have cy0 := (hb1.cell (p := ⟨b', off' + k * 2, none⟩) (by show b' < wr.heap.size; omega)).trans cy0; have cx1 := (hb1.cell (p := ⟨b, off + k * 2 + 1, none⟩) (by show b < wr.heap.size; omega)).trans cx1; have cy1 := (hb1.cell (p := ⟨b', off' + k * 2 + 1, none⟩) (by show b' < wr.heap.size; omega)).trans cy1))
          go_wp2
          go_roundw
          case rel => exact ⟨k + 1, by omega, by go_num, Lib.hid (step2 ht.out X0.out (by rw [HXY.out.1]; exact Y0.out) X1.out (by rw [HXY.out.2]; exact Y1.out)), hb2⟩
          case measure => simp [intOf]; omega
        · have HXY := Lib.hid hxy
          clear hxy
          go_wp2
          go_region_held3 (fun w' => w'.cell? ⟨b, off + k * 2, none⟩ = some (.int .i64 x0) ∧ w'.cell? ⟨b, off + k * 2 + 1, none⟩ = some (.int .i64 x1) ∧ w'.cell? ⟨b', off' + k * 2, none⟩ = some (.int .i64 y0) ∧ w'.cell? ⟨b', off' + k * 2 + 1, none⟩ = some (.int .i64 y1)) (first | (refine ⟨?_, ?_, ?_, ?_⟩ <;> assumption) | go_keep) (first | (go_at_call 127; refine (eqRun_any x0 x1 y0 y1 _).mono ?_; rintro e w1 ⟨rfl, hb1⟩; rw [decide_eq_false HXY.out]; have hb1 := undrewF hb1; have hb2 := hb.trans (hb1.mono hsz); have cx0 := (hb1.cell (p := ⟨b, off + k * 2, none⟩) (by show b < wr.heap.size; omega)).trans cx0; have cy0 := (hb1.cell (p := ⟨b', off' + k * 2, none⟩) (by show b' < wr.heap.size; omega)).trans cy0; have cx1 := (hb1.cell (p := ⟨b, off + k * 2 + 1, none⟩) (by show b < wr.heap.size; omega)).trans cx1; have cy1 := (hb1.cell (p := ⟨b', off' + k * 2 + 1, none⟩) (by show b' < wr.heap.size; omega)).trans cy1))
          go_wp2
          go_ret
          exact ⟨ret_b (by
            rw [eq_comm, decide_eq_false_iff_not]
            rintro rfl
            exact HXY.out ⟨Option.some.inj (X0.out.symm.trans Y0.out), Option.some.inj (X1.out.symm.trans Y1.out)⟩), hb2⟩
      · have hkn : k = n := by omega
        have HK := Lib.hid hkn
        clear hkn hc hc'
        go_wp2
        go_ret
        exact ⟨ret_b (by have := HK.out; subst this; simpa using take_all ht.out HL.out HL'.out), hb⟩
  · have hd : ((n : Int) != (n' : Int)) = true := by simp; omega
    have hne : xs ≠ ys := by rintro rfl; omega
    clear hl hl' hn h h'
    go_enter Try.func58, Try.ntmps58
    go_wp2
    go_ret
    exact ⟨ret_b (by simpa using hne), Below.refl _ _⟩
set_option maxHeartbeats 1000000 in
theorem szRunS_any (A : Option Addr) (n c : Nat) (left : Int) (w : World) (hn : n ≤ 9223372036854775807) (h0 : 0 ≤ left) (h1 : left ≤ 1048576) :
    Calls Try.prog 54 #[.slice A n c, .int .i64 left] w fun e w' => e = .returned (.int .i64 (szF left n)) ∧ w = w' := by
  by_cases hl : left - (n : Int) < 0
  · have e : szF left n = -1 := by unfold szF; rw [if_pos hl]
    rw [e]
    clear e
    go_enter Try.func54, Try.ntmps54
    go_wp2
    go_ret
    exact ⟨rfl, rfl⟩
  · have e : szF left n = left - (n : Int) := by unfold szF; rw [if_neg hl]
    rw [e]
    clear e
    have hl' : 0 ≤ left - (n : Int) := by omega
    clear hl
    go_enter Try.func54, Try.ntmps54
    go_wp2
    go_ret
    exact ⟨rfl, rfl⟩

/-- The slice value of structs is the call's own, and holds the numbers zs. -/
def OwnRun (w : World) (base : Nat) (A : Option Addr) (n c : Nat) (zs : List Int) : Prop :=
  zs.length = n * 2 ∧ n ≤ c ∧ c ≤ 9223372036854775807 ∧ w.ownsRow base 136 2 (.slice A n c) n (zs.map (Value.int .i64))
section
variable {w w' : World} {base n c : Nat} {A : Option Addr} {zs : List Int}
theorem OwnRun.len (h : OwnRun w base A n c zs) : zs.length = n * 2 := h.1
theorem OwnRun.row (h : OwnRun w base A n c zs) : w.ownsRow base 136 2 (.slice A n c) n (zs.map (Value.int .i64)) := h.2.2.2
theorem OwnRun.of_row {v : Value} (h : w.ownsRow base 136 2 v n (zs.map (Value.int .i64))) : ∃ A c, v = .slice A n c ∧ OwnRun w base A n c zs := by
  have hl : zs.length = n * 2 := by simpa using h.1
  rcases h.2 with ⟨rfl, rfl⟩ | ⟨g, cap, cur, rfl, hb, hg, hnc, hcm, rest⟩
  · exact ⟨none, 0, rfl, hl, by omega, by omega, h⟩
  · refine ⟨_, cap, rfl, hl, hnc, ?_, h⟩
    unfold maxLen at hcm
    omega
theorem OwnRun.form (h : OwnRun w base A n c zs) : (A = none ∧ n = 0 ∧ c = 0) ∨ ∃ g, A = some ⟨g, 0, none⟩ ∧ base ≤ g ∧ g < w.heap.size := by
  rcases h.row.2 with ⟨e, rfl⟩ | ⟨g, cap, cur, e, hb, hg, _⟩
  · injection e with e1 e2 e3
    exact .inl ⟨e1, rfl, e3⟩
  · injection e with e1 e2 e3
    exact .inr ⟨g, e1, hb, (Array.getElem?_eq_some_iff.1 hg).1⟩
theorem OwnRun.flat (h : OwnRun w base A n c zs) : Flat 2 w w.heap.size A n c zs := by
  refine ⟨h.1, h.2.1, h.2.2.1, ?_, fun hn => ?_⟩
  · rcases h.form with ⟨_, h1, h2⟩ | ⟨g, rfl, _⟩
    · exact fun _ => ⟨h1, h2⟩
    · intro e; cases e
  · rcases h.form with ⟨_, h1, _⟩ | ⟨g, rfl, hb, hg⟩
    · omega
    · refine ⟨g, 0, rfl, hg, fun j x hx => ?_⟩
      have hj : j < n * 2 := by have := (List.getElem?_eq_some_iff.1 hx).1; have := h.1; omega
      rw [Nat.zero_add, h.row.cellAt j hj, List.getElem?_map, hx]
      rfl
theorem OwnRun.kept (h : OwnRun w base A n c zs) {row : Option Nat} (hg : w.grownBy w' row) (hne : ∀ g, row = some g → g < base ∨ A ≠ some ⟨g, 0, none⟩) : OwnRun w' base A n c zs := by
  refine ⟨h.1, h.2.1, h.2.2.1, h.row.kept hg ?_⟩
  rcases h.form with ⟨rfl, _⟩ | ⟨g, rfl, hb, _⟩
  · exact .inl rfl
  · refine .inr fun e => ?_
    rcases hne g (by rw [← e]; rfl) with h1 | h1
    · omega
    · exact h1 rfl
theorem OwnRun.below {B : Nat} (h : OwnRun w base A n c zs) (hb : Below B w w') (hB : w.heap.size ≤ B) : OwnRun w' base A n c zs := h.kept (grown_of_below hb hB) (fun g e => by cases e)
theorem OwnRun.alloc (h : OwnRun w base A n c zs) (o : Obj) : OwnRun (w.alloc o) base A n c zs := ⟨h.1, h.2.1, h.2.2.1, h.row.alloc o⟩
theorem OwnRun.drewN (h : OwnRun w base A n c zs) (k : Nat) : OwnRun (w.drewN k) base A n c zs := h
end
theorem OwnRun.stored {w : World} {base g n c : Nat} {zs : List Int} (h : OwnRun w base (some ⟨g, 0, none⟩) n c zs) (k : Nat) (x : Int) :
    OwnRun (w.setCell ⟨g, k, none⟩ (.int .i64 x)) base (some ⟨g, 0, none⟩) n c (zs.set k x) := by
  obtain ⟨h1, h2⟩ := h.row.stored k (.int .i64 x)
  refine ⟨by simpa using h.1, h.2.1, h.2.2.1, ?_⟩
  rw [List.map_set]
  exact h1
theorem OwnRun.cell {w : World} {base g n c : Nat} {zs : List Int} (h : OwnRun w base (some ⟨g, 0, none⟩) n c zs) {k : Nat} {x : Int} (hx : zs[k]? = some x) : w.cell? ⟨g, k, none⟩ = some (.int .i64 x) := by
  have hk : k < n * 2 := by have := (List.getElem?_eq_some_iff.1 hx).1; have := h.1; omega
  rw [h.row.cellAt k hk, List.getElem?_map, hx]
  rfl
theorem OwnRun.free {w : World} {base g n c : Nat} {zs : List Int} (h : OwnRun w base (some ⟨g, 0, none⟩) n c zs) (k : Nat) : w.frozen? ⟨g, k, none⟩ = false := h.row.frozenAt k
def RetOwnRun (w : World) (n : Nat) (zs : List Int) (e : Ending) (w' : World) : Prop := ∃ A c, e = .returned (.slice A n c) ∧ OwnRun w' w.heap.size A n c zs ∧ Below w.heap.size w w'
theorem infoRun : (Try.prog.info? 136).map (fun i => (i.zero, i.size, i.bytes)) = some (some (.agg #[.int .i64 0, .int .i64 0]), 2, 16) := by kernel_rfl
theorem madeRun (m : Nat) : (madeCells #[.int .i64 0, .int .i64 0] m).toList = List.replicate m (.int .i64 0) := by
  apply List.ext_getElem
  · simp [size_madeCells]
  · intro i h1 h2
    simp [madeCells]
    have : i % 2 < 2 := Nat.mod_lt _ (by omega)
    rcases (by omega : i % 2 = 0 ∨ i % 2 = 1) with h | h <;> simp [h]
/-- 'make([]Run, n)'. -/
theorem run_makeRun (n : Nat) (hn : n ≤ 4294967296) (w : World) : (Instr.makeSlice 76 (.int .i64 (n : Int)) (.int .i64 (n : Int))).run Try.prog w = .ok (.slice (some ⟨w.heap.size, 0, none⟩) n n) (w.alloc (.cells (madeCells #[.int .i64 0, .int .i64 0] (n * 2)) 136)) := by
  obtain ⟨i, hi, hzz⟩ := Option.map_eq_some_iff.1 infoRun
  simp only [Prod.mk.injEq] at hzz
  obtain ⟨hz, hs, hb⟩ := hzz
  have hr := run_make (P := Try.prog) w 76 136 i _ Try.underlying76 hi hz .i64 .i64 n n (by omega) (Int.le_refl _) (by rw [hb]; omega) (by omega)
  simp only [Int.toNat_natCast, hs] at hr
  exact hr
theorem ownNewRun (w : World) (n : Nat) (hn : n ≤ 4294967296) : OwnRun (w.alloc (.cells (madeCells #[.int .i64 0, .int .i64 0] (n * 2)) 136)) w.heap.size (some ⟨w.heap.size, 0, none⟩) n n (List.replicate (n * 2) 0) := by
  refine ⟨by simp, Nat.le_refl _, by omega, ?_⟩
  have := World.ownsRow_lit (base := w.heap.size) (e := 136) (size := 2) w (madeCells #[.int .i64 0, .int .i64 0] (n * 2)) n (Nat.le_refl _) (by unfold maxLen; omega) (by rw [size_madeCells])
  rw [madeRun] at this
  simpa using this
theorem rep_get2 {xs : List Int} {n k : Nat} (hl : xs.length = n * 2) (hk : k < n) (i : Nat) (hi : i < 2) : (xs.take (k * 2) ++ List.replicate ((n - k) * 2) (0 : Int))[k * 2 + i]? = some 0 := by
  have e1 : (xs.take (k * 2)).length = k * 2 := by simp; omega
  rw [List.getElem?_append_right (by omega), e1, List.getElem?_replicate]
  simp; omega
theorem set_grow {xs : List Int} {m r : Nat} {x : Int} (h : xs[m]? = some x) : (xs.take m ++ List.replicate (r + 1) 0).set m x = xs.take (m + 1) ++ List.replicate r 0 := by
  have hl : (xs.take m).length = m := by have := (List.getElem?_eq_some_iff.1 h).1; simp; omega
  rw [List.set_append_right _ _ (by omega), hl, Nat.sub_self, List.replicate_succ, List.set_cons_zero, List.take_add_one, h]
  simp
theorem set_step2 {xs : List Int} {n k : Nat} {x0 x1 : Int} (hk : k < n) (h0 : xs[k * 2 + 0]? = some x0) (h1 : xs[k * 2 + 1]? = some x1) :
    ((xs.take (k * 2) ++ List.replicate ((n - k) * 2) 0).set (k * 2) x0).set (k * 2 + 1) x1 = xs.take ((k + 1) * 2) ++ List.replicate ((n - (k + 1)) * 2) 0 := by
  rw [show (n - k) * 2 = (n - (k + 1)) * 2 + 2 by omega, show (k + 1) * 2 = k * 2 + 2 by omega]
  rw [set_grow (m := k * 2) (r := (n - (k + 1)) * 2 + 1) h0]
  rw [set_grow (m := k * 2 + 1) (r := (n - (k + 1)) * 2 + 0) h1]
  rfl
set_option maxHeartbeats 1000000 in
theorem toRun_any (x0 x1 : Int) (w : World) : Calls Try.prog 126 #[.agg #[.int .i64 x0, .int .i64 x1]] w fun e w' => e = .returned (.agg #[.int .i64 x0, .int .i64 x1]) ∧ Below w.heap.size w w' := by
  go_enter Try.func126, Try.ntmps126
  go_wp2
  refine bodyPost_ret (v := .agg #[.int .i64 x0, .int .i64 x1]) (by simp [results, Try.results126, go_sem]) rfl ⟨rfl, (by repeat (first | with_reducible exact Below.refl _ _ | with_reducible assumption | with_reducible refine sub_alloc ?_ _ | (with_reducible refine sub_setCell2 ?_ ?_ _; (focus (first | (simp; done) | (simp <;> omega)))) | with_reducible refine sub_drew ?_ | with_reducible refine below_drewN ?_ _ | with_reducible refine sub_step (by assumption) ?_ (by first | rfl | (simp; done)) | exact Below.refl _ _ | assumption | refine sub_alloc ?_ _ | refine sub_setCell ?_ (by simp <;> omega) _ | refine sub_drew ?_ | refine below_drewN ?_ _ | refine sub_step (by assumption) ?_ (by first | rfl | (simp; done))))⟩
set_option maxRecDepth 100000 in
set_option maxHeartbeats 4000000 in
theorem toRunS_any (B : Nat) (A : Option Addr) (n c : Nat) (xs : List Int) (w : World) (h : Flat 2 w B A n c xs) (hn : n ≤ 4294967296) (hB : B ≤ w.heap.size) :
    Calls Try.prog 56 #[.slice A n c] w (RetOwnRun w n xs) := by
  have hmk := run_makeRun n hn
  have HL := Lib.hid h.len
  have H0 := Lib.hid (ownNewRun w n hn)
  have HH := Lib.hid h
  clear h
  go_enter Try.func56, Try.ntmps56
  go_wp2
  go_loopw [4] (fun i wr => ∃ k : Nat, k ≤ n ∧ i = .int .i64 k ∧ OwnRun wr w.heap.size (some ⟨w.heap.size, 0, none⟩) n n (xs.take (k * 2) ++ List.replicate ((n - k) * 2) 0) ∧ Below w.heap.size w wr) (fun i _ => n - (intOf i).toNat)
  case atStart => exact ⟨0, Nat.zero_le _, rfl, by simpa using H0.out, (by repeat (first | with_reducible exact Below.refl _ _ | with_reducible assumption | with_reducible refine sub_alloc ?_ _ | (with_reducible refine sub_setCell2 ?_ ?_ _; (focus (first | (simp; done) | (simp <;> omega)))) | with_reducible refine sub_drew ?_ | with_reducible refine below_drewN ?_ _ | with_reducible refine sub_step (by assumption) ?_ (by first | rfl | (simp; done)) | exact Below.refl _ _ | assumption | refine sub_alloc ?_ _ | refine sub_setCell ?_ (by simp <;> omega) _ | refine sub_drew ?_ | refine below_drewN ?_ _ | refine sub_step (by assumption) ?_ (by first | rfl | (simp; done))))⟩
  case round =>
    clear hmk
    obtain ⟨k, hk, rfl, ho, hbel⟩ := hrel
    by_cases hlt : k < n
    · have hk3 : k * 2 + 2 ≤ n * 2 := by omega
      obtain ⟨x0, hx0⟩ := get_some (zs := xs) (k := k * 2 + 0) (by rw [HL.out]; omega)
      obtain ⟨x1, hx1⟩ := get_some (zs := xs) (k := k * 2 + 1) (by rw [HL.out]; omega)
      obtain ⟨b, off, hA, hbB, hc⟩ := HH.out.at_ (by omega)
      subst hA
      have hsz := hbel.size
      have sx0 : wr.cell? ⟨b, off + k * 2, none⟩ = some (.int .i64 x0) := (hbel.cell (p := ⟨b, off + k * 2, none⟩) (by show b < _; omega)).trans (hc (k * 2 + 0) x0 hx0)
      have sx1 : wr.cell? ⟨b, off + k * 2 + 1, none⟩ = some (.int .i64 x1) := (hbel.cell (p := ⟨b, off + k * 2 + 1, none⟩) (by show b < _; omega)).trans (hc (k * 2 + 1) x1 hx1)
      have HO := Lib.hid ho
      have HB := Lib.hid hbel
      have X0 := Lib.hid hx0
      have X1 := Lib.hid hx1
      have i0 : (0 : Int) ≤ (k : Int) := by omega
      have i1 : (k : Int) < (n : Int) := by omega
      clear hx0 hx1 ho hbel hc hk3
      go_wp2_with fail
      refine (toRun_any x0 x1 _).mono ?_
      rintro e w1 ⟨rfl, hb1⟩
      have ho := HO.out.below hb1 (Nat.le_refl _)
      have f0 := ho.free (k * 2)
      have hz0 : (xs.take (k * 2) ++ List.replicate ((n - k) * 2) 0)[k * 2]? = some 0 := rep_get2 HL.out hlt 0 (by omega)
      have q0 := ho.cell hz0
      have f1 := ho.free (k * 2 + 1)
      have hz1 : (xs.take (k * 2) ++ List.replicate ((n - k) * 2) 0)[k * 2 + 1]? = some 0 := rep_get2 HL.out hlt 1 (by omega)
      have q1 := ho.cell hz1
      have hb2 := HB.out.trans (hb1.mono hsz)
      clear hz0 hz1
      go_wp2_with fail
      go_roundw
      case rel => exact ⟨k + 1, by omega, by go_num, set_step2 hlt X0.out X1.out ▸ ((ho.stored (k * 2) x0).stored (k * 2 + 1) x1), (by repeat (first | with_reducible exact Below.refl _ _ | with_reducible assumption | with_reducible refine sub_alloc ?_ _ | (with_reducible refine sub_setCell2 ?_ ?_ _; (focus (first | (simp; done) | (simp <;> omega)))) | with_reducible refine sub_drew ?_ | with_reducible refine below_drewN ?_ _ | with_reducible refine sub_step (by assumption) ?_ (by first | rfl | (simp; done)) | exact Below.refl _ _ | assumption | refine sub_alloc ?_ _ | refine sub_setCell ?_ (by simp <;> omega) _ | refine sub_drew ?_ | refine below_drewN ?_ _ | refine sub_step (by assumption) ?_ (by first | rfl | (simp; done))))⟩
      case measure => simp [intOf]; omega
    · have hkn : k = n := by omega
      have HK := Lib.hid hkn
      have HO := Lib.hid ho
      have HB := Lib.hid hbel
      clear hkn ho hbel
      go_wp2
      go_ret
      have e := HK.out
      subst e
      have e2 := HO.out
      rw [List.take_of_length_le (by rw [HL.out]; exact Nat.le_refl _), Nat.sub_self, Nat.zero_mul, List.replicate_zero, List.append_nil] at e2
      exact ⟨_, _, rfl, e2, HB.out⟩
end Go.Proofs.Ytnanaldolnehiaa
