/-
  Lists of bytes of the call's own; the bytes of an item: put, l14Put; PutNumber; the law FnExactPutNumber, walked.
-/
import Derived.Test.YtnanaldolnehiaaTexts
import Derived.Test.YtnanaldolnehiaaRules
set_option linter.unusedSimpArgs false
set_option linter.unusedVariables false
namespace Go.Proofs.Ytnanaldolnehiaa
open Go.ChangeShapes Go.WideShapes Go.RowKit Go.Deep

theorem info8 : (Try.prog.info? 5).map (fun i => (i.zero, i.size, i.bytes)) = some (some (.int .u8 0), 1, 1) := by kernel_rfl
/-- The slice value is the call's own (its block is 'base' or above), and holds the numbers zs. -/
def OwnB (w : World) (base : Nat) (A : Option Addr) (n c : Nat) (zs : List UInt8) : Prop :=
  zs.length = n ∧ n ≤ c ∧ c ≤ 9223372036854775807 ∧ w.ownsRow base 5 1 (.slice A n c) n (zs.map (fun b : UInt8 => Value.int .u8 (b.toNat : Int)))
section
variable {w w' : World} {base base' n c : Nat} {A : Option Addr} {zs : List UInt8}
theorem OwnB.len (h : OwnB w base A n c zs) : zs.length = n := h.1
theorem OwnB.row (h : OwnB w base A n c zs) : w.ownsRow base 5 1 (.slice A n c) n (zs.map (fun b : UInt8 => Value.int .u8 (b.toNat : Int))) := h.2.2.2
theorem OwnB.of_row {v : Value} (h : w.ownsRow base 5 1 v n (zs.map (fun b : UInt8 => Value.int .u8 (b.toNat : Int)))) : ∃ A c, v = .slice A n c ∧ OwnB w base A n c zs := by
  have hl : zs.length = n := by simpa using h.1
  rcases h.2 with ⟨rfl, rfl⟩ | ⟨g, cap, cur, rfl, hb, hg, hnc, hcm, rest⟩
  · exact ⟨none, 0, rfl, hl, by omega, by omega, h⟩
  · refine ⟨_, cap, rfl, hl, hnc, ?_, h⟩
    unfold maxLen at hcm
    omega
theorem OwnB.form (h : OwnB w base A n c zs) : (A = none ∧ n = 0 ∧ c = 0) ∨ ∃ g, A = some ⟨g, 0, none⟩ ∧ base ≤ g ∧ g < w.heap.size := by
  rcases h.row.2 with ⟨e, rfl⟩ | ⟨g, cap, cur, e, hb, hg, _⟩
  · injection e with e1 e2 e3
    exact .inl ⟨e1, rfl, e3⟩
  · injection e with e1 e2 e3
    exact .inr ⟨g, e1, hb, (Array.getElem?_eq_some_iff.1 hg).1⟩
theorem OwnB.kept (h : OwnB w base A n c zs) {row : Option Nat} (hg : w.grownBy w' row) (hne : ∀ g, row = some g → g < base ∨ A ≠ some ⟨g, 0, none⟩) : OwnB w' base A n c zs := by
  refine ⟨h.1, h.2.1, h.2.2.1, h.row.kept hg ?_⟩
  rcases h.form with ⟨rfl, _⟩ | ⟨g, rfl, hb, _⟩
  · exact .inl rfl
  · refine .inr fun e => ?_
    rcases hne g (by rw [← e]; rfl) with h1 | h1
    · omega
    · exact h1 rfl
theorem OwnB.below {B : Nat} (h : OwnB w base A n c zs) (hb : Below B w w') (hB : w.heap.size ≤ B) : OwnB w' base A n c zs := h.kept (grown_of_below hb hB) (fun g e => by cases e)
theorem OwnB.alloc (h : OwnB w base A n c zs) (o : Obj) : OwnB (w.alloc o) base A n c zs := ⟨h.1, h.2.1, h.2.2.1, h.row.alloc o⟩
theorem OwnB.drewN (h : OwnB w base A n c zs) (k : Nat) : OwnB (w.drewN k) base A n c zs := h
end
theorem OwnB.byte {w : World} {base g n c : Nat} {zs : List UInt8} (h : OwnB w base (some ⟨g, 0, none⟩) n c zs) (j : Nat) (hj : j < zs.length) : w.cell? ((⟨g, 0, none⟩ : Addr).add j) = some (.int .u8 ((zs[j]).toNat : Int)) := by
  have h1 : j < n * 1 := by have := h.1; omega
  rw [add_plain, Nat.zero_add, h.row.cellAt j h1, List.getElem?_map, List.getElem?_eq_getElem hj]
  rfl
/-- 'string(b)' of bytes of the call's own. -/
theorem conv_own {w : World} {base n c : Nat} {A : Option Addr} {zs : List UInt8} (h : OwnB w base A n c zs) (hn : 0 < n) : (convert 84 9 (.slice A n c)).run Try.prog w = .ok (.string ⟨zs.toArray⟩) w := by
  rcases h.form with ⟨_, h1, _⟩ | ⟨g, rfl, _, _⟩
  · omega
  · have hl := h.len
    have := run_convert_bytes_back (P := Try.prog) w 84 9 5 ⟨g, 0, none⟩ c zs Try.underlying84 Try.underlying5 Try.underlying9 (fun j hj => h.byte j hj)
    rw [hl] at this
    exact this
theorem appendB_one (base : Nat) (ty : TypeId) (A0 : Option Addr) (n c0 : Nat) (xs : List UInt8) (x : Int) (hx0 : 0 ≤ x) (hx1 : x ≤ 255) (w : World) (b : Nat) (hb : b = w.heap.size) (ho : OwnB w base A0 n c0 xs) (hn : n ≤ 4294967296) (hbase : base ≤ w.heap.size) :
    ∃ A' c' w', (Builtin.append_ #[84, 84] ty #[.slice A0 n c0, .slice (some ⟨b, 0, none⟩) 1 1]).run Try.prog (w.alloc (.cells #[.int .u8 x] 5)) = .ok (.slice A' (n + 1) c') w' ∧ OwnB w' base A' (n + 1) c' (xs ++ [UInt8.ofNat x.toNat]) ∧ (w.alloc (.cells #[.int .u8 x] 5)).grownBy w' (Value.slice A0 n c0).ownBlock := by
  subst hb
  obtain ⟨i0, hi, hz0, hz1, hz2⟩ := info_parts info8
  obtain ⟨v', w', hr, hown, hg, -⟩ := run_append_own (P := Try.prog) (w.alloc (.cells #[.int .u8 x] 5)) base 84 ty 5 i0 _ 1 1 Try.underlying84 hi hz0 hz1 hz2 rfl (by decide) _ n _ (ho.alloc _).row ⟨w.heap.size, 0, none⟩ 1 1 [.int .u8 x] (by simp) (fun j u hu => by
      have hj : j = 0 := by
        have := (List.getElem?_eq_some_iff.1 hu).1
        simp at this
        omega
      subst hj
      simp at hu
      subst hu
      simp [World.cell?_alloc_new, Addr.add]) (by intro v hv; simp at hv; subst hv; rfl) (by unfold maxLen; omega) (by omega) (by simp; omega)
  have e : xs.map (fun b : UInt8 => Value.int .u8 (b.toNat : Int)) ++ [Value.int .u8 x] = (xs ++ [UInt8.ofNat x.toNat]).map (fun b : UInt8 => Value.int .u8 (b.toNat : Int)) := by
    simp
    omega
  rw [e] at hown
  obtain ⟨A', c', rfl, ho'⟩ := OwnB.of_row hown
  exact ⟨A', c', w', hr, ho', hg⟩
/-- 'append(s, b)' in a plain region. -/
theorem list_appendB {ops : Array Oper} {rest : List Oper} {o : Oper} {a : Act} {Q : Exit → Act → World → Prop} {w : World} (hgd : o.guard = none) (s x : Operand)
    (hop : o.op = .call { callee := .builtin .append, args := #[s, x], argTypes := #[84, 84] })
    (base : Nat) (A0 : Option Addr) (n c0 : Nat) (xs : List UInt8) (y : Int) (hx0 : 0 ≤ y) (hx1 : y ≤ 255) (b : Nat) (hb : b = w.heap.size) (hs : a.eval s = .slice A0 n c0) (hx : a.eval x = .slice (some ⟨b, 0, none⟩) 1 1) (ho : OwnB w base A0 n c0 xs) (hn : n ≤ 4294967296) (hbase : base ≤ w.heap.size)
    (h : ∀ A' c' w', OwnB w' base A' (n + 1) c' (xs ++ [UInt8.ofNat y.toNat]) → Below base w w' → wpList Try.prog ops Q rest (a.put o.dst (.slice A' (n + 1) c')) w') : wpList Try.prog ops Q (o :: rest) a (w.alloc (.cells #[.int .u8 y] 5)) := by
  refine wpList_plain hgd fun K hK => ?_
  obtain ⟨A', c', w', hrun, ho', hg⟩ := appendB_one base o.type A0 n c0 xs y hx0 hx1 w b hb ho hn hbase
  unfold Oper.wp
  simp only [execOp, hop, resolve, invoke, builtin, Sem.run_bind, Sem.run_pure, Result.andThen_ok, List.map_toArray, List.map_cons, List.map_nil, hs, hx, hrun]
  refine hK _ _ (h A' c' w' ho' (((Below.refl _ _).alloc hbase _).grown hg (by simp; omega) (fun g e => ?_)))
  rcases ho.form with ⟨rfl, _⟩ | ⟨g', rfl, hb', _⟩
  · cases e
  · simp [Value.ownBlock] at e
    omega

/-- The bytes of a number. -/
def pbs (u : Nat) : List UInt8 := if u < 128 then [UInt8.ofNat u] else UInt8.ofNat (u % 128 + 128) :: pbs (u / 128)
termination_by u
decreasing_by omega
theorem pbs_last {u : Nat} (h : u < 128) : pbs u = [UInt8.ofNat u] := by rw [pbs, if_pos h]
theorem pbs_step {u : Nat} (h : ¬ (u < 128)) : pbs u = UInt8.ofNat (u % 128 + 128) :: pbs (u / 128) := by rw [pbs, if_neg h]
/-- A number without its sign. -/
def zz (n : Int) : Nat := if n < 0 then (-2 * n - 1).toNat else (2 * n).toNat
set_option maxRecDepth 100000 in
set_option maxHeartbeats 1000000 in
theorem put_any (n : Int) (w : World) (h0 : -1000000 ≤ n) (h1 : n ≤ 1000000) :
    Calls Try.prog 119 #[.int .i64 n] w fun e w' => ∃ A m c, e = .returned (.slice A m c) ∧ 0 < m ∧ OwnB w' w.heap.size A m c (pbs (zz n)) ∧ Below w.heap.size w w' := by
  have hz : zz n ≤ 2000000 := by unfold zz; split <;> omega
  have H0 := Lib.hid (show OwnB (w.alloc (.cells #[] 5)) w.heap.size (some ⟨w.heap.size, 0, none⟩) 0 0 [] from ⟨rfl, by simp, by simp, World.ownsRow_made w #[] 0 (Nat.le_refl _) (by unfold maxLen; omega) rfl⟩)
  have bw : Below w.heap.size w (w.alloc (.cells #[] 5)) := (by repeat (first | with_reducible exact Below.refl _ _ | with_reducible assumption | with_reducible refine sub_alloc ?_ _ | (with_reducible refine sub_setCell2 ?_ ?_ _; (focus (first | (simp; done) | (simp <;> omega)))) | with_reducible refine sub_drew ?_ | with_reducible refine below_drewN ?_ _ | with_reducible refine sub_step (by assumption) ?_ (by first | rfl | (simp; done)) | exact Below.refl _ _ | assumption | refine sub_alloc ?_ _ | refine sub_setCell ?_ (by simp <;> omega) _ | refine sub_drew ?_ | refine below_drewN ?_ _ | refine sub_step (by assumption) ?_ (by first | rfl | (simp; done))))
  by_cases hs : n < 0
  · have e0 : (-2 : Int) * n - 1 = ((zz n : Nat) : Int) := by unfold zz; rw [if_pos hs]; omega
    have E0 := Lib.hid e0
    clear e0
    go_enter Try.func119, Try.ntmps119
    go_wp2_with fail
    rw [E0.out]
    go_loopw [3, 4] (fun q s wr => ∃ (u : Nat) (A : Option Addr) (m c : Nat) (l : List UInt8), q = .int .i64 u ∧ s = .slice A m c ∧ m + u ≤ 4000000 ∧ OwnB wr w.heap.size A m c l ∧ l ++ pbs u = pbs (zz n) ∧ Below w.heap.size w wr) (fun q _ _ => (intOf q).toNat)
    case atStart => exact ⟨zz n, _, 0, 0, [], rfl, rfl, by omega, H0.out, by simp, bw⟩
    case round =>
      obtain ⟨u, A, m, c, l, rfl, rfl, hu, ho, hl, hb⟩ := hrel
      have HO := Lib.hid ho
      have HB := Lib.hid hb
      have HL := Lib.hid hl
      clear ho hb hl bw
      by_cases hlt : 127 < u
      · have j0 : (127 : Int) < (u : Int) := by omega
        have j1 : (128 : Int) ≤ (u : Int) := by omega
        go_wp2_with (at_builtin; refine list_appendB rfl (.tmp 15) (.tmp 20) rfl w.heap.size A m c l ((u : Int) % 128 + 128) (by omega) (by omega) wr.heap.size rfl (by simp [Act.eval, Act.put]) (by simp [Act.eval, Act.put]) (by exact HO.out) (by omega) (by exact HB.out.size) ?_; intro A2 c2 w2 ho2 hb2)
        go_roundw
        case rel => exact ⟨u / 128, A2, m + 1, c2, l ++ [UInt8.ofNat ((u : Int) % 128 + 128).toNat], by go_num, rfl, by omega, ho2, by rw [← HL.out, pbs_step (u := u) (by omega), List.append_assoc, show ((u : Int) % 128 + 128).toNat = u % 128 + 128 by omega]; rfl, HB.out.trans hb2⟩
        case measure => simp [intOf]; omega
      · have j0 : ¬ ((127 : Int) < (u : Int)) := by omega
        have j1 : ¬ ((128 : Int) ≤ (u : Int)) := by omega
        go_wp2_with (at_builtin; refine list_appendB rfl (.tmp 24) (.tmp 27) rfl w.heap.size A m c l ((u : Int)) (by omega) (by omega) wr.heap.size rfl (by simp [Act.eval, Act.put]) (by simp [Act.eval, Act.put]) (by exact HO.out) (by omega) (by exact HB.out.size) ?_; intro A2 c2 w2 ho2 hb2)
        go_ret
        have e9 := HL.out; rw [pbs_last (by omega)] at e9; rw [show ((u : Int)).toNat = u by omega] at ho2; exact ⟨A2, m + 1, c2, rfl, by omega, by rw [← e9]; exact ho2, HB.out.trans hb2⟩
  · have e0 : (2 : Int) * n = ((zz n : Nat) : Int) := by unfold zz; rw [if_neg hs]; omega
    have E0 := Lib.hid e0
    clear e0
    go_enter Try.func119, Try.ntmps119
    go_wp2_with fail
    rw [E0.out]
    go_loopw [3, 4] (fun q s wr => ∃ (u : Nat) (A : Option Addr) (m c : Nat) (l : List UInt8), q = .int .i64 u ∧ s = .slice A m c ∧ m + u ≤ 4000000 ∧ OwnB wr w.heap.size A m c l ∧ l ++ pbs u = pbs (zz n) ∧ Below w.heap.size w wr) (fun q _ _ => (intOf q).toNat)
    case atStart => exact ⟨zz n, _, 0, 0, [], rfl, rfl, by omega, H0.out, by simp, bw⟩
    case round =>
      obtain ⟨u, A, m, c, l, rfl, rfl, hu, ho, hl, hb⟩ := hrel
      have HO := Lib.hid ho
      have HB := Lib.hid hb
      have HL := Lib.hid hl
      clear ho hb hl bw
      by_cases hlt : 127 < u
      · have j0 : (127 : Int) < (u : Int) := by omega
        have j1 : (128 : Int) ≤ (u : Int) := by omega
        go_wp2_with (at_builtin; refine list_appendB rfl (.tmp 15) (.tmp 20) rfl w.heap.size A m c l ((u : Int) % 128 + 128) (by omega) (by omega) wr.heap.size rfl (by simp [Act.eval, Act.put]) (by simp [Act.eval, Act.put]) (by exact HO.out) (by omega) (by exact HB.out.size) ?_; intro A2 c2 w2 ho2 hb2)
        go_roundw
        case rel => exact ⟨u / 128, A2, m + 1, c2, l ++ [UInt8.ofNat ((u : Int) % 128 + 128).toNat], by go_num, rfl, by omega, ho2, by rw [← HL.out, pbs_step (u := u) (by omega), List.append_assoc, show ((u : Int) % 128 + 128).toNat = u % 128 + 128 by omega]; rfl, HB.out.trans hb2⟩
        case measure => simp [intOf]; omega
      · have j0 : ¬ ((127 : Int) < (u : Int)) := by omega
        have j1 : ¬ ((128 : Int) ≤ (u : Int)) := by omega
        go_wp2_with (at_builtin; refine list_appendB rfl (.tmp 24) (.tmp 27) rfl w.heap.size A m c l ((u : Int)) (by omega) (by omega) wr.heap.size rfl (by simp [Act.eval, Act.put]) (by simp [Act.eval, Act.put]) (by exact HO.out) (by omega) (by exact HB.out.size) ?_; intro A2 c2 w2 ho2 hb2)
        go_ret
        have e9 := HL.out; rw [pbs_last (by omega)] at e9; rw [show ((u : Int)).toNat = u by omega] at ho2; exact ⟨A2, m + 1, c2, rfl, by omega, by rw [← e9]; exact ho2, HB.out.trans hb2⟩
set_option maxRecDepth 100000 in
set_option maxHeartbeats 1000000 in
theorem l14Put_any (n : Int) (w : World) (h0 : -1000000 ≤ n) (h1 : n ≤ 1000000) :
    Calls Try.prog 158 #[.int .i64 n] w fun e w' => e = .returned (.string ⟨(pbs (zz n)).toArray⟩) ∧ Below w.heap.size w w' := by
  have hz : zz n ≤ 2000000 := by unfold zz; split <;> omega
  have H0 := Lib.hid (show OwnB (w.alloc (.cells #[] 5)) w.heap.size (some ⟨w.heap.size, 0, none⟩) 0 0 [] from ⟨rfl, by simp, by simp, World.ownsRow_made w #[] 0 (Nat.le_refl _) (by unfold maxLen; omega) rfl⟩)
  have bw : Below w.heap.size w (w.alloc (.cells #[] 5)) := (by repeat (first | with_reducible exact Below.refl _ _ | with_reducible assumption | with_reducible refine sub_alloc ?_ _ | (with_reducible refine sub_setCell2 ?_ ?_ _; (focus (first | (simp; done) | (simp <;> omega)))) | with_reducible refine sub_drew ?_ | with_reducible refine below_drewN ?_ _ | with_reducible refine sub_step (by assumption) ?_ (by first | rfl | (simp; done)) | exact Below.refl _ _ | assumption | refine sub_alloc ?_ _ | refine sub_setCell ?_ (by simp <;> omega) _ | refine sub_drew ?_ | refine below_drewN ?_ _ | refine sub_step (by assumption) ?_ (by first | rfl | (simp; done))))
  by_cases hs : n < 0
  · have e0 : (-2 : Int) * n - 1 = ((zz n : Nat) : Int) := by unfold zz; rw [if_pos hs]; omega
    have E0 := Lib.hid e0
    clear e0
    go_enter Try.func158, Try.ntmps158
    go_wp2_with fail
    rw [E0.out]
    go_loopw [3, 4] (fun q s wr => ∃ (u : Nat) (A : Option Addr) (m c : Nat) (l : List UInt8), q = .int .i64 u ∧ s = .slice A m c ∧ m + u ≤ 4000000 ∧ OwnB wr w.heap.size A m c l ∧ l ++ pbs u = pbs (zz n) ∧ Below w.heap.size w wr) (fun q _ _ => (intOf q).toNat)
    case atStart => exact ⟨zz n, _, 0, 0, [], rfl, rfl, by omega, H0.out, by simp, bw⟩
    case round =>
      obtain ⟨u, A, m, c, l, rfl, rfl, hu, ho, hl, hb⟩ := hrel
      have HO := Lib.hid ho
      have HB := Lib.hid hb
      have HL := Lib.hid hl
      clear ho hb hl bw
      by_cases hlt : 127 < u
      · have j0 : (127 : Int) < (u : Int) := by omega
        have j1 : (128 : Int) ≤ (u : Int) := by omega
        go_wp2_with (at_builtin; refine list_appendB rfl (.tmp 15) (.tmp 20) rfl w.heap.size A m c l ((u : Int) % 128 + 128) (by omega) (by omega) wr.heap.size rfl (by simp [Act.eval, Act.put]) (by simp [Act.eval, Act.put]) (by exact HO.out) (by omega) (by exact HB.out.size) ?_; intro A2 c2 w2 ho2 hb2)
        go_roundw
        case rel => exact ⟨u / 128, A2, m + 1, c2, l ++ [UInt8.ofNat ((u : Int) % 128 + 128).toNat], by go_num, rfl, by omega, ho2, by rw [← HL.out, pbs_step (u := u) (by omega), List.append_assoc, show ((u : Int) % 128 + 128).toNat = u % 128 + 128 by omega]; rfl, HB.out.trans hb2⟩
        case measure => simp [intOf]; omega
      · have j0 : ¬ ((127 : Int) < (u : Int)) := by omega
        have j1 : ¬ ((128 : Int) ≤ (u : Int)) := by omega
        go_wp2_with (at_builtin; refine list_appendB rfl (.tmp 24) (.tmp 27) rfl w.heap.size A m c l ((u : Int)) (by omega) (by omega) wr.heap.size rfl (by simp [Act.eval, Act.put]) (by simp [Act.eval, Act.put]) (by exact HO.out) (by omega) (by exact HB.out.size) ?_; intro A2 c2 w2 ho2 hb2; have kc := conv_own ho2 (by omega))
        go_ret
        have e9 := HL.out; rw [pbs_last (by omega)] at e9; rw [show ((u : Int)).toNat = u by omega] at ho2; exact ⟨by rw [← e9]; rfl, HB.out.trans hb2⟩
  · have e0 : (2 : Int) * n = ((zz n : Nat) : Int) := by unfold zz; rw [if_neg hs]; omega
    have E0 := Lib.hid e0
    clear e0
    go_enter Try.func158, Try.ntmps158
    go_wp2_with fail
    rw [E0.out]
    go_loopw [3, 4] (fun q s wr => ∃ (u : Nat) (A : Option Addr) (m c : Nat) (l : List UInt8), q = .int .i64 u ∧ s = .slice A m c ∧ m + u ≤ 4000000 ∧ OwnB wr w.heap.size A m c l ∧ l ++ pbs u = pbs (zz n) ∧ Below w.heap.size w wr) (fun q _ _ => (intOf q).toNat)
    case atStart => exact ⟨zz n, _, 0, 0, [], rfl, rfl, by omega, H0.out, by simp, bw⟩
    case round =>
      obtain ⟨u, A, m, c, l, rfl, rfl, hu, ho, hl, hb⟩ := hrel
      have HO := Lib.hid ho
      have HB := Lib.hid hb
      have HL := Lib.hid hl
      clear ho hb hl bw
      by_cases hlt : 127 < u
      · have j0 : (127 : Int) < (u : Int) := by omega
        have j1 : (128 : Int) ≤ (u : Int) := by omega
        go_wp2_with (at_builtin; refine list_appendB rfl (.tmp 15) (.tmp 20) rfl w.heap.size A m c l ((u : Int) % 128 + 128) (by omega) (by omega) wr.heap.size rfl (by simp [Act.eval, Act.put]) (by simp [Act.eval, Act.put]) (by exact HO.out) (by omega) (by exact HB.out.size) ?_; intro A2 c2 w2 ho2 hb2)
        go_roundw
        case rel => exact ⟨u / 128, A2, m + 1, c2, l ++ [UInt8.ofNat ((u : Int) % 128 + 128).toNat], by go_num, rfl, by omega, ho2, by rw [← HL.out, pbs_step (u := u) (by omega), List.append_assoc, show ((u : Int) % 128 + 128).toNat = u % 128 + 128 by omega]; rfl, HB.out.trans hb2⟩
        case measure => simp [intOf]; omega
      · have j0 : ¬ ((127 : Int) < (u : Int)) := by omega
        have j1 : ¬ ((128 : Int) ≤ (u : Int)) := by omega
        go_wp2_with (at_builtin; refine list_appendB rfl (.tmp 24) (.tmp 27) rfl w.heap.size A m c l ((u : Int)) (by omega) (by omega) wr.heap.size rfl (by simp [Act.eval, Act.put]) (by simp [Act.eval, Act.put]) (by exact HO.out) (by omega) (by exact HB.out.size) ?_; intro A2 c2 w2 ho2 hb2; have kc := conv_own ho2 (by omega))
        go_ret
        have e9 := HL.out; rw [pbs_last (by omega)] at e9; rw [show ((u : Int)).toNat = u by omega] at ho2; exact ⟨by rw [← e9]; rfl, HB.out.trans hb2⟩
/-- What PutNumber returns. -/
def pnS (n : Int) : ByteArray := if inB n (-1000000) 1000000 = true then ⟨(pbs (zz n)).toArray⟩ else ⟨#[]⟩
def pnC (n : Int) : Int := if inB n (-1000000) 1000000 = true then 0 else 2
theorem isItem_any (n : Int) (w : World) : Calls Try.prog 118 #[.int .i64 n] w fun e w' => e = .returned (.bool (inB n (-1000000) 1000000)) ∧ w = w' := by
  go_enter Try.func118, Try.ntmps118
  go_wp2_with fail
  refine (between_any _ _ _ _).mono ?_
  rintro e w' ⟨rfl, rfl⟩
  go_wp2
  go_ret
  exact ⟨rfl, rfl⟩
theorem l14Item_any (n : Int) (w : World) : Calls Try.prog 125 #[.int .i64 n] w fun e w' => e = .returned (.bool (inB n (-1000000) 1000000)) ∧ w = w' := by
  go_enter Try.func125, Try.ntmps125
  go_wp2_with fail
  refine (l00In_any _ _ _ _).mono ?_
  rintro e w' ⟨rfl, rfl⟩
  go_wp2
  go_ret
  exact ⟨rfl, rfl⟩
end Go.Proofs.Ytnanaldolnehiaa
