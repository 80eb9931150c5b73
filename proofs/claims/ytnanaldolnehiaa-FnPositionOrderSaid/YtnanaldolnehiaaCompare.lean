/-
  The order of lists of numbers and of positions: l04Lists, compareNumbers, ComparePositions.
-/
import Derived.Test.YtnanaldolnehiaaSame
set_option linter.unusedSimpArgs false
set_option linter.unusedVariables false
namespace Go.Proofs.Ytnanaldolnehiaa
open Go.ChangeShapes Go.WideShapes Go.RowKit Go.Deep

/-- The order of two lists: number by number, a beginning ahead of the whole. -/
def cmpL : List Int → List Int → Int
  | [], [] => 0
  | [], _ :: _ => -1
  | _ :: _, [] => 1
  | x :: xs, y :: ys => if x < y then -1 else if y < x then 1 else cmpL xs ys
theorem drop_at {xs : List Int} {k : Nat} {x : Int} (h : xs[k]? = some x) : xs.drop k = x :: xs.drop (k + 1) := by
  obtain ⟨hk, rfl⟩ := List.getElem?_eq_some_iff.1 h
  exact List.drop_eq_getElem_cons hk
theorem cmp_step {xs ys : List Int} {k : Nat} {x : Int} (h : cmpL xs ys = cmpL (xs.drop k) (ys.drop k)) (hx : xs[k]? = some x) (hy : ys[k]? = some x) : cmpL xs ys = cmpL (xs.drop (k + 1)) (ys.drop (k + 1)) := by
  rw [h, drop_at hx, drop_at hy]
  simp [cmpL]
theorem cmp_lt {xs ys : List Int} {k : Nat} {x y : Int} (h : cmpL xs ys = cmpL (xs.drop k) (ys.drop k)) (hx : xs[k]? = some x) (hy : ys[k]? = some y) (hlt : x < y) : cmpL xs ys = -1 := by
  rw [h, drop_at hx, drop_at hy]
  simp [cmpL, hlt]
theorem cmp_gt {xs ys : List Int} {k : Nat} {x y : Int} (h : cmpL xs ys = cmpL (xs.drop k) (ys.drop k)) (hx : xs[k]? = some x) (hy : ys[k]? = some y) (hlt : y < x) : cmpL xs ys = 1 := by
  rw [h, drop_at hx, drop_at hy]
  have : ¬ (x < y) := by omega
  simp [cmpL, hlt, this]
theorem cmp_nil (zs : List Int) : cmpL [] zs = if zs.length = 0 then 0 else -1 := by
  cases zs <;> simp [cmpL]
theorem cmp_nil2 (zs : List Int) : cmpL zs [] = if zs.length = 0 then 0 else 1 := by
  cases zs <;> simp [cmpL]
theorem cmp_exit {xs ys : List Int} {k : Nat} (h : cmpL xs ys = cmpL (xs.drop k) (ys.drop k)) (h1 : k ≤ xs.length) (h2 : k ≤ ys.length) (h3 : k = xs.length ∨ k = ys.length) :
    cmpL xs ys = if xs.length < ys.length then -1 else if ys.length < xs.length then 1 else 0 := by
  rw [h]
  rcases h3 with h3 | h3
  · have e : xs.drop k = [] := List.drop_eq_nil_of_le (by omega)
    rw [e, cmp_nil, List.length_drop]
    split <;> (try split) <;> (try split) <;> omega
  · have e : ys.drop k = [] := List.drop_eq_nil_of_le (by omega)
    rw [e, cmp_nil2, List.length_drop]
    split <;> (try split) <;> (try split) <;> omega
theorem dd3 (w : World) (a b c : Nat) : ∃ k, ((w.drewN a).drewN b).drewN c = w.drewN k := ⟨a + b + c, by simp [World.drewN_drewN]⟩
/-- A list of one number that is made just now. -/
theorem one_new (w : World) (t : TypeId) (b : Nat) (x : Int) (hb : b = w.heap.size) : Ints (w.alloc (.cells #[.int .i64 x] t)) (b + 1) (some ⟨b, 0, none⟩) 1 1 [x] := by
  subst hb
  refine ⟨rfl, by omega, by omega, fun e => by (cases e), fun _ => ⟨_, 0, rfl, by omega, fun j y hy => ?_⟩⟩
  have hj : j = 0 := by
    have := (List.getElem?_eq_some_iff.1 hy).1
    simp at this
    omega
  subst hj
  simp at hy
  subst hy
  simp [World.cell?_alloc_new]
/-- The order of two positions. -/
def cmpP (xs xs' : List Int) (pl : Int) (ys ys' : List Int) (ql : Int) : Int := if cmpL xs ys ≠ 0 then cmpL xs ys else if cmpL xs' ys' ≠ 0 then cmpL xs' ys' else cmpL [pl] [ql]
theorem cmpL_cases (xs ys : List Int) : cmpL xs ys = -1 ∨ cmpL xs ys = 0 ∨ cmpL xs ys = 1 := by
  induction xs generalizing ys with
  | nil => cases ys <;> simp [cmpL]
  | cons x xs ih =>
    cases ys with
    | nil => simp [cmpL]
    | cons y ys =>
      simp only [cmpL]
      split
      · exact .inl rfl
      · split
        · exact .inr (.inr rfl)
        · exact ih ys


set_option maxHeartbeats 1000000 in
theorem compareNumbers_any (B B' : Nat) (A A' : Option Addr) (n n' c c' : Nat) (xs ys : List Int) (w : World) (h : Ints w B A n c xs) (h' : Ints w B' A' n' c' ys) (hn : n ≤ 4294967296) (hn' : n' ≤ 4294967296) :
    Calls Try.prog 146 #[.slice A n c, .slice A' n' c'] w fun e w' => e = .returned (.int .i64 (cmpL xs ys)) ∧ ∃ m, w' = w.drewN m := by
  have hl := h.len
  have hl' := h'.len
  have HL := Lib.hid hl
  have HL' := Lib.hid hl'
  rcases Nat.eq_zero_or_pos n with h0 | h0
  · have EX := Lib.hid (cmp_exit (xs := xs) (ys := ys) (k := 0) rfl (Nat.zero_le _) (Nat.zero_le _) (by omega))
    clear hl hl' h h'
    subst h0
    rcases Nat.eq_zero_or_pos n' with h0' | h0'
    all_goals
      go_enter Try.func146, Try.ntmps146
      go_wp2
      refine wp_loop_rounds 1 ?_; rw [rounds_succ]
      go_wp2
      go_ret
      exact ⟨ret_int (by rw [EX.out, HL.out, HL'.out]; (repeat' split) <;> omega), 0, rfl⟩
  rcases Nat.eq_zero_or_pos n' with h0' | h0'
  · have EX := Lib.hid (cmp_exit (xs := xs) (ys := ys) (k := 0) rfl (Nat.zero_le _) (Nat.zero_le _) (by omega))
    clear hl hl' h h'
    subst h0'
    go_enter Try.func146, Try.ntmps146
    go_wp2
    refine wp_loop_rounds 1 ?_; rw [rounds_succ]
    go_wp2
    go_ret
    exact ⟨ret_int (by rw [EX.out, HL.out, HL'.out]; (repeat' split) <;> omega), 0, rfl⟩
  obtain ⟨b, off, rfl, -, hc⟩ := h.at_ h0
  obtain ⟨b', off', rfl, -, hc'⟩ := h'.at_ h0'
  clear hl hl' h h'
  rcases Nat.lt_trichotomy n n' with hnn | hnn | hnn
  · have hzz : (n : Int) < (n' : Int) := (by omega)
    go_enter Try.func146, Try.ntmps146
    go_wp2
    go_loopw [11] (fun i wr => ∃ k : Nat, k ≤ n ∧ k ≤ n' ∧ i = .int .i64 k ∧ Hid (cmpL xs ys = cmpL (xs.drop k) (ys.drop k)) ∧ ∃ m, wr = w.drewN m) (fun i _ => n - (intOf i).toNat)
    case atStart => exact ⟨0, Nat.zero_le _, Nat.zero_le _, rfl, rfl, 0, rfl⟩
    case round =>
      obtain ⟨k, hk, hk', rfl, ht, m, rfl⟩ := hrel
      by_cases hlt : k < n ∧ k < n'
      · obtain ⟨hlt, hlt'⟩ := hlt
        obtain ⟨x, hx⟩ := get_some (zs := xs) (k := k) (by rw [HL.out]; exact hlt)
        obtain ⟨y, hy⟩ := get_some (zs := ys) (k := k) (by rw [HL'.out]; exact hlt')
        have cx := hc k x hx
        have cy := hc' k y hy
        have HX := Lib.hid hx
        have HY := Lib.hid hy
        clear hx hy hc hc'
        have i0 : (0 : Int) ≤ (k : Int) := by omega
        have i1 : (k : Int) < (n : Int) := by omega
        have i2 : (k : Int) < (n' : Int) := by omega
        rcases Int.lt_trichotomy x y with hxy | hxy | hxy
        · go_wp2
          go_quiet (fail)
          go_wp2
          go_ret
          first | exact ⟨ret_int (cmp_lt ht.out HX.out HY.out hxy).symm, _, World.drewN_drewN ..⟩ | exact ⟨ret_int (cmp_lt ht.out HX.out HY.out hxy).symm, dd3 ..⟩
        · subst hxy
          go_wp2
          go_quiet (fail)
          go_wp2
          go_quiet (fail)
          go_wp2
          go_roundw
          case rel => exact ⟨k + 1, by omega, by omega, by go_num, cmp_step ht.out HX.out HY.out, _, rfl⟩
          case measure => simp [intOf]; omega
        · go_wp2
          go_quiet (fail)
          go_wp2
          go_quiet (fail)
          go_wp2
          go_ret
          first | exact ⟨ret_int (cmp_gt ht.out HX.out HY.out hxy).symm, _, rfl⟩ | exact ⟨ret_int (cmp_gt ht.out HX.out HY.out hxy).symm, _, World.drewN_drewN ..⟩ | exact ⟨ret_int (cmp_gt ht.out HX.out HY.out hxy).symm, dd3 ..⟩
      · have EX := Lib.hid (cmp_exit ht.out (by rw [HL.out]; exact hk) (by rw [HL'.out]; exact hk') (by rw [HL.out, HL'.out]; omega))
        clear hc hc'
        · have hkk : k = n := by omega
          skip
          subst hkk
          clear hlt
          go_wp2
          go_ret
          exact ⟨ret_int (by rw [EX.out, HL.out, HL'.out]; (repeat' split) <;> omega), _, rfl⟩
  · subst hnn
    go_enter Try.func146, Try.ntmps146
    go_wp2
    go_loopw [11] (fun i wr => ∃ k : Nat, k ≤ n ∧ k ≤ n ∧ i = .int .i64 k ∧ Hid (cmpL xs ys = cmpL (xs.drop k) (ys.drop k)) ∧ ∃ m, wr = w.drewN m) (fun i _ => n - (intOf i).toNat)
    case atStart => exact ⟨0, Nat.zero_le _, Nat.zero_le _, rfl, rfl, 0, rfl⟩
    case round =>
      obtain ⟨k, hk, hk', rfl, ht, m, rfl⟩ := hrel
      by_cases hlt : k < n ∧ k < n
      · obtain ⟨hlt, hlt'⟩ := hlt
        obtain ⟨x, hx⟩ := get_some (zs := xs) (k := k) (by rw [HL.out]; exact hlt)
        obtain ⟨y, hy⟩ := get_some (zs := ys) (k := k) (by rw [HL'.out]; exact hlt')
        have cx := hc k x hx
        have cy := hc' k y hy
        have HX := Lib.hid hx
        have HY := Lib.hid hy
        clear hx hy hc hc'
        have i0 : (0 : Int) ≤ (k : Int) := by omega
        have i1 : (k : Int) < (n : Int) := by omega
        have i2 : (k : Int) < (n : Int) := by omega
        rcases Int.lt_trichotomy x y with hxy | hxy | hxy
        · go_wp2
          go_quiet (fail)
          go_wp2
          go_ret
          first | exact ⟨ret_int (cmp_lt ht.out HX.out HY.out hxy).symm, _, World.drewN_drewN ..⟩ | exact ⟨ret_int (cmp_lt ht.out HX.out HY.out hxy).symm, dd3 ..⟩
        · subst hxy
          go_wp2
          go_quiet (fail)
          go_wp2
          go_quiet (fail)
          go_wp2
          go_roundw
          case rel => exact ⟨k + 1, by omega, by omega, by go_num, cmp_step ht.out HX.out HY.out, _, rfl⟩
          case measure => simp [intOf]; omega
        · go_wp2
          go_quiet (fail)
          go_wp2
          go_quiet (fail)
          go_wp2
          go_ret
          first | exact ⟨ret_int (cmp_gt ht.out HX.out HY.out hxy).symm, _, rfl⟩ | exact ⟨ret_int (cmp_gt ht.out HX.out HY.out hxy).symm, _, World.drewN_drewN ..⟩ | exact ⟨ret_int (cmp_gt ht.out HX.out HY.out hxy).symm, dd3 ..⟩
      · have EX := Lib.hid (cmp_exit ht.out (by rw [HL.out]; exact hk) (by rw [HL'.out]; exact hk') (by rw [HL.out, HL'.out]; omega))
        clear hc hc'
        · have hkk : k = n := by omega
          skip
          subst hkk
          clear hlt
          go_wp2
          go_ret
          exact ⟨ret_int (by rw [EX.out, HL.out, HL'.out]; (repeat' split) <;> omega), _, rfl⟩
  · have hzz : (n' : Int) < (n : Int) := (by omega)
    go_enter Try.func146, Try.ntmps146
    go_wp2
    go_loopw [11] (fun i wr => ∃ k : Nat, k ≤ n ∧ k ≤ n' ∧ i = .int .i64 k ∧ Hid (cmpL xs ys = cmpL (xs.drop k) (ys.drop k)) ∧ ∃ m, wr = w.drewN m) (fun i _ => n - (intOf i).toNat)
    case atStart => exact ⟨0, Nat.zero_le _, Nat.zero_le _, rfl, rfl, 0, rfl⟩
    case round =>
      obtain ⟨k, hk, hk', rfl, ht, m, rfl⟩ := hrel
      by_cases hlt : k < n ∧ k < n'
      · obtain ⟨hlt, hlt'⟩ := hlt
        obtain ⟨x, hx⟩ := get_some (zs := xs) (k := k) (by rw [HL.out]; exact hlt)
        obtain ⟨y, hy⟩ := get_some (zs := ys) (k := k) (by rw [HL'.out]; exact hlt')
        have cx := hc k x hx
        have cy := hc' k y hy
        have HX := Lib.hid hx
        have HY := Lib.hid hy
        clear hx hy hc hc'
        have i0 : (0 : Int) ≤ (k : Int) := by omega
        have i1 : (k : Int) < (n : Int) := by omega
        have i2 : (k : Int) < (n' : Int) := by omega
        rcases Int.lt_trichotomy x y with hxy | hxy | hxy
        · go_wp2
          go_quiet (fail)
          go_wp2
          go_ret
          first | exact ⟨ret_int (cmp_lt ht.out HX.out HY.out hxy).symm, _, World.drewN_drewN ..⟩ | exact ⟨ret_int (cmp_lt ht.out HX.out HY.out hxy).symm, dd3 ..⟩
        · subst hxy
          go_wp2
          go_quiet (fail)
          go_wp2
          go_quiet (fail)
          go_wp2
          go_roundw
          case rel => exact ⟨k + 1, by omega, by omega, by go_num, cmp_step ht.out HX.out HY.out, _, rfl⟩
          case measure => simp [intOf]; omega
        · go_wp2
          go_quiet (fail)
          go_wp2
          go_quiet (fail)
          go_wp2
          go_ret
          first | exact ⟨ret_int (cmp_gt ht.out HX.out HY.out hxy).symm, _, rfl⟩ | exact ⟨ret_int (cmp_gt ht.out HX.out HY.out hxy).symm, _, World.drewN_drewN ..⟩ | exact ⟨ret_int (cmp_gt ht.out HX.out HY.out hxy).symm, dd3 ..⟩
      · have EX := Lib.hid (cmp_exit ht.out (by rw [HL.out]; exact hk) (by rw [HL'.out]; exact hk') (by rw [HL.out, HL'.out]; omega))
        clear hc hc'
        · have hkk : k = n' := by omega
          skip
          subst hkk
          clear hlt
          go_wp2
          go_ret
          exact ⟨ret_int (by rw [EX.out, HL.out, HL'.out]; (repeat' split) <;> omega), _, rfl⟩


set_option maxHeartbeats 1000000 in
theorem ComparePositions_any (A A' C C' : Option Addr) (n c n' c' m d m' d' : Nat) (xs xs' ys ys' : List Int) (pl ql : Int) (w : World) (h : Ints w w.heap.size A n c xs) (h' : Ints w w.heap.size A' n' c' xs') (k : Ints w w.heap.size C m d ys) (k' : Ints w w.heap.size C' m' d' ys')
    (b0 : n ≤ 4294967296) (b1 : n' ≤ 4294967296) (b2 : m ≤ 4294967296) (b3 : m' ≤ 4294967296) :
    Calls Try.prog 86 #[.agg #[.slice A n c, .slice A' n' c', .int .i64 pl], .agg #[.slice C m d, .slice C' m' d', .int .i64 ql]] w fun e w' => e = .returned (.int .i64 (cmpP xs xs' pl ys ys' ql)) ∧ Below w.heap.size w w' := by
  have HH := Lib.hid h
  have HH' := Lib.hid h'
  have KK := Lib.hid k
  have KK' := Lib.hid k'
  clear h h' k k'
  by_cases f1 : cmpL xs ys = 0
  rotate_left
  · have v1 : (cmpL xs ys == 0) = false := by simpa using f1
    have v2 : (cmpL xs ys != 0) = true := by simpa using f1
    have F1 := Lib.hid f1
    clear f1
    go_enter Try.func86, Try.ntmps86
    go_wp2_with fail
    refine (compareNumbers_any _ _ _ _ _ _ _ _ xs ys _ (by exact HH.out.sub (by repeat (first | with_reducible exact Below.refl _ _ | with_reducible assumption | with_reducible refine sub_alloc ?_ _ | (with_reducible refine sub_setCell2 ?_ ?_ _; (focus (first | (simp; done) | (simp <;> omega)))) | with_reducible refine sub_drew ?_ | with_reducible refine below_drewN ?_ _ | with_reducible refine sub_step (by assumption) ?_ (by first | rfl | (simp; done)) | exact Below.refl _ _ | assumption | refine sub_alloc ?_ _ | refine sub_setCell ?_ (by simp <;> omega) _ | refine sub_drew ?_ | refine below_drewN ?_ _ | refine sub_step (by assumption) ?_ (by first | rfl | (simp; done))))) (by exact KK.out.sub (by repeat (first | with_reducible exact Below.refl _ _ | with_reducible assumption | with_reducible refine sub_alloc ?_ _ | (with_reducible refine sub_setCell2 ?_ ?_ _; (focus (first | (simp; done) | (simp <;> omega)))) | with_reducible refine sub_drew ?_ | with_reducible refine below_drewN ?_ _ | with_reducible refine sub_step (by assumption) ?_ (by first | rfl | (simp; done)) | exact Below.refl _ _ | assumption | refine sub_alloc ?_ _ | refine sub_setCell ?_ (by simp <;> omega) _ | refine sub_drew ?_ | refine below_drewN ?_ _ | refine sub_step (by assumption) ?_ (by first | rfl | (simp; done))))) (by omega) (by omega)).mono ?_
    rintro e w1 ⟨rfl, m1, rfl⟩
    go_wp2_with fail
    go_ret
    exact ⟨ret_int (by have := F1.out; simp [cmpP, this]), (by repeat (first | with_reducible exact Below.refl _ _ | with_reducible assumption | with_reducible refine sub_alloc ?_ _ | (with_reducible refine sub_setCell2 ?_ ?_ _; (focus (first | (simp; done) | (simp <;> omega)))) | with_reducible refine sub_drew ?_ | with_reducible refine below_drewN ?_ _ | with_reducible refine sub_step (by assumption) ?_ (by first | rfl | (simp; done)) | exact Below.refl _ _ | assumption | refine sub_alloc ?_ _ | refine sub_setCell ?_ (by simp <;> omega) _ | refine sub_drew ?_ | refine below_drewN ?_ _ | refine sub_step (by assumption) ?_ (by first | rfl | (simp; done))))⟩
  have v1 : (cmpL xs ys == 0) = true := by simpa using f1
  have v2 : (cmpL xs ys != 0) = false := by simpa using f1
  have F1 := Lib.hid f1
  clear f1
  by_cases f1 : cmpL xs' ys' = 0
  rotate_left
  · have v3 : (cmpL xs' ys' == 0) = false := by simpa using f1
    have v4 : (cmpL xs' ys' != 0) = true := by simpa using f1
    have F2 := Lib.hid f1
    clear f1
    go_enter Try.func86, Try.ntmps86
    go_wp2_with fail
    refine (compareNumbers_any _ _ _ _ _ _ _ _ xs ys _ (by exact HH.out.sub (by repeat (first | with_reducible exact Below.refl _ _ | with_reducible assumption | with_reducible refine sub_alloc ?_ _ | (with_reducible refine sub_setCell2 ?_ ?_ _; (focus (first | (simp; done) | (simp <;> omega)))) | with_reducible refine sub_drew ?_ | with_reducible refine below_drewN ?_ _ | with_reducible refine sub_step (by assumption) ?_ (by first | rfl | (simp; done)) | exact Below.refl _ _ | assumption | refine sub_alloc ?_ _ | refine sub_setCell ?_ (by simp <;> omega) _ | refine sub_drew ?_ | refine below_drewN ?_ _ | refine sub_step (by assumption) ?_ (by first | rfl | (simp; done))))) (by exact KK.out.sub (by repeat (first | with_reducible exact Below.refl _ _ | with_reducible assumption | with_reducible refine sub_alloc ?_ _ | (with_reducible refine sub_setCell2 ?_ ?_ _; (focus (first | (simp; done) | (simp <;> omega)))) | with_reducible refine sub_drew ?_ | with_reducible refine below_drewN ?_ _ | with_reducible refine sub_step (by assumption) ?_ (by first | rfl | (simp; done)) | exact Below.refl _ _ | assumption | refine sub_alloc ?_ _ | refine sub_setCell ?_ (by simp <;> omega) _ | refine sub_drew ?_ | refine below_drewN ?_ _ | refine sub_step (by assumption) ?_ (by first | rfl | (simp; done))))) (by omega) (by omega)).mono ?_
    rintro e w1 ⟨rfl, m1, rfl⟩
    go_wp2_with fail
    refine (compareNumbers_any _ _ _ _ _ _ _ _ xs' ys' _ (by exact HH'.out.sub (by repeat (first | with_reducible exact Below.refl _ _ | with_reducible assumption | with_reducible refine sub_alloc ?_ _ | (with_reducible refine sub_setCell2 ?_ ?_ _; (focus (first | (simp; done) | (simp <;> omega)))) | with_reducible refine sub_drew ?_ | with_reducible refine below_drewN ?_ _ | with_reducible refine sub_step (by assumption) ?_ (by first | rfl | (simp; done)) | exact Below.refl _ _ | assumption | refine sub_alloc ?_ _ | refine sub_setCell ?_ (by simp <;> omega) _ | refine sub_drew ?_ | refine below_drewN ?_ _ | refine sub_step (by assumption) ?_ (by first | rfl | (simp; done))))) (by exact KK'.out.sub (by repeat (first | with_reducible exact Below.refl _ _ | with_reducible assumption | with_reducible refine sub_alloc ?_ _ | (with_reducible refine sub_setCell2 ?_ ?_ _; (focus (first | (simp; done) | (simp <;> omega)))) | with_reducible refine sub_drew ?_ | with_reducible refine below_drewN ?_ _ | with_reducible refine sub_step (by assumption) ?_ (by first | rfl | (simp; done)) | exact Below.refl _ _ | assumption | refine sub_alloc ?_ _ | refine sub_setCell ?_ (by simp <;> omega) _ | refine sub_drew ?_ | refine below_drewN ?_ _ | refine sub_step (by assumption) ?_ (by first | rfl | (simp; done))))) (by omega) (by omega)).mono ?_
    rintro e w2 ⟨rfl, m2, rfl⟩
    go_wp2_with fail
    go_ret
    exact ⟨ret_int (by have := F2.out; simp [cmpP, F1.out, this]), (by repeat (first | with_reducible exact Below.refl _ _ | with_reducible assumption | with_reducible refine sub_alloc ?_ _ | (with_reducible refine sub_setCell2 ?_ ?_ _; (focus (first | (simp; done) | (simp <;> omega)))) | with_reducible refine sub_drew ?_ | with_reducible refine below_drewN ?_ _ | with_reducible refine sub_step (by assumption) ?_ (by first | rfl | (simp; done)) | exact Below.refl _ _ | assumption | refine sub_alloc ?_ _ | refine sub_setCell ?_ (by simp <;> omega) _ | refine sub_drew ?_ | refine below_drewN ?_ _ | refine sub_step (by assumption) ?_ (by first | rfl | (simp; done))))⟩
  have v3 : (cmpL xs' ys' == 0) = true := by simpa using f1
  have v4 : (cmpL xs' ys' != 0) = false := by simpa using f1
  have F2 := Lib.hid f1
  clear f1
  go_enter Try.func86, Try.ntmps86
  go_wp2_with fail
  refine (compareNumbers_any _ _ _ _ _ _ _ _ xs ys _ (by exact HH.out.sub (by repeat (first | with_reducible exact Below.refl _ _ | with_reducible assumption | with_reducible refine sub_alloc ?_ _ | (with_reducible refine sub_setCell2 ?_ ?_ _; (focus (first | (simp; done) | (simp <;> omega)))) | with_reducible refine sub_drew ?_ | with_reducible refine below_drewN ?_ _ | with_reducible refine sub_step (by assumption) ?_ (by first | rfl | (simp; done)) | exact Below.refl _ _ | assumption | refine sub_alloc ?_ _ | refine sub_setCell ?_ (by simp <;> omega) _ | refine sub_drew ?_ | refine below_drewN ?_ _ | refine sub_step (by assumption) ?_ (by first | rfl | (simp; done))))) (by exact KK.out.sub (by repeat (first | with_reducible exact Below.refl _ _ | with_reducible assumption | with_reducible refine sub_alloc ?_ _ | (with_reducible refine sub_setCell2 ?_ ?_ _; (focus (first | (simp; done) | (simp <;> omega)))) | with_reducible refine sub_drew ?_ | with_reducible refine below_drewN ?_ _ | with_reducible refine sub_step (by assumption) ?_ (by first | rfl | (simp; done)) | exact Below.refl _ _ | assumption | refine sub_alloc ?_ _ | refine sub_setCell ?_ (by simp <;> omega) _ | refine sub_drew ?_ | refine below_drewN ?_ _ | refine sub_step (by assumption) ?_ (by first | rfl | (simp; done))))) (by omega) (by omega)).mono ?_
  rintro e w1 ⟨rfl, m1, rfl⟩
  go_wp2_with fail
  refine (compareNumbers_any _ _ _ _ _ _ _ _ xs' ys' _ (by exact HH'.out.sub (by repeat (first | with_reducible exact Below.refl _ _ | with_reducible assumption | with_reducible refine sub_alloc ?_ _ | (with_reducible refine sub_setCell2 ?_ ?_ _; (focus (first | (simp; done) | (simp <;> omega)))) | with_reducible refine sub_drew ?_ | with_reducible refine below_drewN ?_ _ | with_reducible refine sub_step (by assumption) ?_ (by first | rfl | (simp; done)) | exact Below.refl _ _ | assumption | refine sub_alloc ?_ _ | refine sub_setCell ?_ (by simp <;> omega) _ | refine sub_drew ?_ | refine below_drewN ?_ _ | refine sub_step (by assumption) ?_ (by first | rfl | (simp; done))))) (by exact KK'.out.sub (by repeat (first | with_reducible exact Below.refl _ _ | with_reducible assumption | with_reducible refine sub_alloc ?_ _ | (with_reducible refine sub_setCell2 ?_ ?_ _; (focus (first | (simp; done) | (simp <;> omega)))) | with_reducible refine sub_drew ?_ | with_reducible refine below_drewN ?_ _ | with_reducible refine sub_step (by assumption) ?_ (by first | rfl | (simp; done)) | exact Below.refl _ _ | assumption | refine sub_alloc ?_ _ | refine sub_setCell ?_ (by simp <;> omega) _ | refine sub_drew ?_ | refine below_drewN ?_ _ | refine sub_step (by assumption) ?_ (by first | rfl | (simp; done))))) (by omega) (by omega)).mono ?_
  rintro e w2 ⟨rfl, m2, rfl⟩
  go_wp2_with fail
  refine (compareNumbers_any _ _ _ _ _ _ _ _ [pl] [ql] _ ((one_new _ _ _ pl (by simp)).alloc (by simp) _) (one_new _ _ _ ql (by simp)) (by omega) (by omega)).mono ?_
  rintro e w3 ⟨rfl, m3, rfl⟩
  go_wp2_with fail
  go_ret
  exact ⟨ret_int (by simp [cmpP, F1.out, F2.out]), (by repeat (first | with_reducible exact Below.refl _ _ | with_reducible assumption | with_reducible refine sub_alloc ?_ _ | (with_reducible refine sub_setCell2 ?_ ?_ _; (focus (first | (simp; done) | (simp <;> omega)))) | with_reducible refine sub_drew ?_ | with_reducible refine below_drewN ?_ _ | with_reducible refine sub_step (by assumption) ?_ (by first | rfl | (simp; done)) | exact Below.refl _ _ | assumption | refine sub_alloc ?_ _ | refine sub_setCell ?_ (by simp <;> omega) _ | refine sub_drew ?_ | refine below_drewN ?_ _ | refine sub_step (by assumption) ?_ (by first | rfl | (simp; done))))⟩
end Go.Proofs.Ytnanaldolnehiaa
