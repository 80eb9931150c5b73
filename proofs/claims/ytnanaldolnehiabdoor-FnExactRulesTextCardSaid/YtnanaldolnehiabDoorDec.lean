/-
  Decimal numerals: impl.Decimal (strconv.FormatInt off the shelf), spec.l01Dec, spec.Decimal; the law FnExactDecimal, walked.
-/
import Derived.Test.YtnanaldolnehiabDoorBytes
import Derived.Test.YtnanaldolnehiabDoorShelf
import Derived.Test.YtnanaldolnehiabDoorRows
import Derived.Lib.SmallJoins
import Derived.Lib.AppendIntMem
import Derived.Stop.LaidErr
import Derived.LaidMore
import Derived.MakeChecks
set_option linter.unusedSimpArgs false
set_option linter.unusedVariables false
namespace Go.Proofs.YtnanaldolnehiabDoor
open Go.ChangeShapes Go.WideShapes Go.RowKit Go.Deep

/-! ### the numeral -/
def ddg (u : Nat) : List UInt8 := if u = 0 then [] else ddg (u / 10) ++ [UInt8.ofNat (48 + u % 10)]
termination_by u
decreasing_by omega
theorem ddg_zero : ddg 0 = [] := by rw [ddg, if_pos rfl]
theorem ddg_pos {u : Nat} (h : u ≠ 0) : ddg u = ddg (u / 10) ++ [UInt8.ofNat (48 + u % 10)] := by rw [ddg, if_neg h]
theorem dec_ddg (u : Nat) (h : u ≠ 0) : Lib.decDigits u = ddg u := by
  induction u using Nat.strongRecOn with
  | _ u ih =>
    rw [Lib.decDigits, ddg_pos h]
    by_cases h10 : u < 10
    · rw [dif_pos h10, show u / 10 = 0 by omega, ddg_zero, Nat.mod_eq_of_lt h10]; rfl
    · rw [dif_neg h10, ih (u / 10) (by omega) (by omega)]
/-- The decimal form of a number. -/
def dec (n : Int) : ByteArray := ⟨(Lib.itoa n).toArray⟩
theorem dec_zero : dec 0 = ⟨#[48]⟩ := by
  unfold dec Lib.itoa
  rw [if_neg (by omega), Lib.decDigits, dif_pos (by decide)]
  rfl
theorem dec_pos {n : Int} (h : 0 < n) : dec n = ⟨(ddg n.natAbs).toArray⟩ := by
  unfold dec Lib.itoa
  rw [if_neg (by omega), dec_ddg _ (by omega), show n.toNat = n.natAbs by omega]
theorem dec_neg {n : Int} (h : n < 0) : dec n = ⟨(45 :: ddg n.natAbs).toArray⟩ := by
  unfold dec Lib.itoa
  rw [if_pos h, dec_ddg _ (by omega)]

theorem ret_s {a b : ByteArray} (h : a = b) : Ending.returned (.string a) = .returned (.string b) := by rw [h]
/-! ### the table of the library's -/
def Tab (w : World) : Prop := Lib.TabIs Tryd.prog w "internal/strconv.uint64pow10" .u64 Lib.pow10Tab
theorem gTab : ∃ g, Tryd.prog.globalNamed "internal/strconv.uint64pow10" = some g := Option.isSome_iff_exists.1 (by kernel_rfl)
theorem Tab.below {w w' : World} {B : Nat} (h : Tab w) (hb : Below B w w') (hB : w.heap.size ≤ B) : Tab w' := by
  obtain ⟨g, hg⟩ := gTab
  exact Joins.tab_stays hg h hb hB
theorem Tab.drewN {w : World} (h : Tab w) (k : Nat) : Tab (w.drewN k) := h
theorem tab_of_laid {W : World} {d1 d2 : DataW Unit} {n1 n2 : String} (h1 : d1.handleName?.isNone = true) (h2 : d2.handleName?.isNone = true) (h : laidMetH Tryd.prog [(n1, d1), (n2, d2), ("internal/strconv.uint64pow10", Rows.laid_internal_strconv_uint64pow10)] W) : Tab W := by
  rw [MakeChecks.laidMetH_plain _ _ _ (by simp [h1, h2]; kernel_rfl)] at h
  have e : (Rows.laid_internal_strconv_uint64pow10 : DataW Unit) = Lib.tabData .u64 Lib.pow10Tab := by kernel_rfl
  rw [e] at h
  exact Lib.tabIs_of_head (g := 0) (by kernel_rfl) (by kernel_rfl) Tryd.underlying106 Tryd.underlying98 (by kernel_rfl) (by kernel_rfl) h.tail.tail
theorem implDecimal_any (n : Int) (h0 : -9223372036854775808 ≤ n) (h1 : n ≤ 9223372036854775807) (w : World) (ht : Tab w) : Calls Tryd.prog 28 #[.int .i64 n] w fun e w' => e = .returned (.string (dec n)) ∧ Below w.heap.size w w' := by
  have HT := Lib.hid ht
  clear ht
  go_enter Tryd.func28, Tryd.ntmps28
  go_wp2_with fail
  refine (Tryd.strconv_FormatInt_10 n h0 h1 _ (by exact HT.out)).mono ?_
  rintro e w1 ⟨rfl, k, os, hw⟩
  have hb : Below w.heap.size w w1 := by rw [hw]; exact Lib.below_grow w.heap.size w (Nat.le_refl w.heap.size) k os
  clear hw
  go_wp2_with fail
  go_ret
  exact ⟨rfl, hb⟩
theorem appendB_run (base base2 : Nat) (ty : TypeId) (A0 : Option Addr) (n c0 : Nat) (xs : List UInt8) (A : Option Addr) (m c : Nat) (ys : List UInt8) (w : World) (ho : OwnB w base A0 n c0 xs) (hy : OwnB w base2 A m c ys) (hn : n ≤ 4294967296) (hm : m ≤ 4294967296) (hbase : base ≤ w.heap.size) :
    ∃ A' c' w', (Builtin.append_ #[94, 94] ty #[.slice A0 n c0, .slice A m c]).run Tryd.prog w = .ok (.slice A' (n + m) c') w' ∧ OwnB w' base A' (n + m) c' (xs ++ ys) ∧ w.grownBy w' (Value.slice A0 n c0).ownBlock := by
  obtain ⟨i0, hi, hz0, hz1, hz2⟩ := info_parts info8
  have hl := hy.len
  rcases hy.form with ⟨rfl, rfl, rfl⟩ | ⟨g, rfl, _, _⟩
  · obtain rfl : ys = [] := List.eq_nil_of_length_eq_zero hl
    refine ⟨A0, c0, w, ?_, ?_, World.grownBy.refl _ _⟩
    · simpa using run_append_owned_none (P := Tryd.prog) (w := w) base 94 ty 5 i0 1 Tryd.underlying94 hi _ n _ ho.row
    · simpa using ho
  · obtain ⟨v', w', hr, hown, hg, -⟩ := run_append_own (P := Tryd.prog) w base 94 ty 5 i0 _ 1 1 Tryd.underlying94 hi hz0 hz1 hz2 rfl (by decide) _ n _ ho.row ⟨g, 0, none⟩ m c (ys.map (fun b : UInt8 => Value.int .u8 (b.toNat : Int))) (by simp [hl]) (fun j u hu => by
        rw [List.getElem?_map, Option.map_eq_some_iff] at hu
        obtain ⟨x, hx, rfl⟩ := hu
        obtain ⟨hj, rfl⟩ := List.getElem?_eq_some_iff.1 hx
        exact hy.byte j hj) (by intro v hv; obtain ⟨x, _, rfl⟩ := List.mem_map.1 hv; rfl) (by unfold maxLen; omega) (by omega) hbase
    rw [← List.map_append] at hown
    obtain ⟨A', c', rfl, ho'⟩ := OwnB.of_row hown
    exact ⟨A', c', w', hr, ho', hg⟩
/-- 'append(s, x...)' in a plain region. -/
theorem list_appendBs {ops : Array Oper} {rest : List Oper} {o : Oper} {a : Act} {Q : Exit → Act → World → Prop} {w : World} (hgd : o.guard = none) (s x : Operand)
    (hop : o.op = .call { callee := .builtin .append, args := #[s, x], argTypes := #[94, 94] })
    (base base2 : Nat) (A0 : Option Addr) (n c0 : Nat) (xs : List UInt8) (A : Option Addr) (m c : Nat) (ys : List UInt8) (hs : a.eval s = .slice A0 n c0) (hx : a.eval x = .slice A m c) (ho : OwnB w base A0 n c0 xs) (hy : OwnB w base2 A m c ys) (hn : n ≤ 4294967296) (hm : m ≤ 4294967296) (hbase : base ≤ w.heap.size)
    (h : ∀ A' c' w', OwnB w' base A' (n + m) c' (xs ++ ys) → Below base w w' → wpList Tryd.prog ops Q rest (a.put o.dst (.slice A' (n + m) c')) w') : wpList Tryd.prog ops Q (o :: rest) a w := by
  refine wpList_plain hgd fun K hK => ?_
  obtain ⟨A', c', w', hrun, ho', hg⟩ := appendB_run base base2 o.type A0 n c0 xs A m c ys w ho hy hn hm hbase
  unfold Oper.wp
  simp only [execOp, hop, resolve, invoke, builtin, Sem.run_bind, Sem.run_pure, Result.andThen_ok, List.map_toArray, List.map_cons, List.map_nil, hs, hx, hrun]
  refine hK _ _ (h A' c' w' ho' ((Below.refl _ _).grown hg hbase (fun g e => ?_)))
  rcases ho.form with ⟨rfl, _⟩ | ⟨g', rfl, hb', _⟩
  · cases e
  · simp [Value.ownBlock] at e
    omega
theorem ownB_one (w : World) (base : Nat) (hb : base ≤ w.heap.size) (y : Int) (h0 : 0 ≤ y) (h1 : y ≤ 255) : OwnB (w.alloc (.cells #[.int .u8 y] 5)) base (some ⟨w.heap.size, 0, none⟩) 1 1 [UInt8.ofNat y.toNat] := by
  refine ⟨rfl, Nat.le_refl _, by omega, ?_⟩
  have := World.ownsRow_lit (base := base) (e := 5) (size := 1) w #[.int .u8 y] 1 hb (by unfold maxLen; omega) (by simp)
  have e : ((UInt8.ofNat y.toNat).toNat : Int) = y := by simp; omega
  show World.ownsRow _ _ _ _ _ _ [Value.int .u8 ((UInt8.ofNat y.toNat).toNat : Int)]
  rw [e]
  exact this
theorem pow_step {u m : Nat} (h : u < 10 ^ (20 - m)) (hm : m ≤ 20) (hu : u ≠ 0) : m < 20 ∧ u / 10 < 10 ^ (20 - (m + 1)) := by
  have hlt : m < 20 := by
    rcases Nat.lt_or_ge m 20 with h1 | h1
    · exact h1
    · rw [show 20 - m = 0 by omega] at h
      omega
  refine ⟨hlt, Nat.div_lt_of_lt_mul ?_⟩
  rw [show 20 - m = (20 - (m + 1)) + 1 by omega, Nat.pow_succ, Nat.mul_comm] at h
  exact h
set_option maxRecDepth 100000 in
set_option maxHeartbeats 2000000 in
theorem l01Dec_any (n : Int) (h0 : -9223372036854775808 ≤ n) (h1 : n ≤ 9223372036854775807) (w : World) : Calls Tryd.prog 58 #[.int .i64 n] w fun e w' => e = .returned (.string (dec n)) ∧ Below w.heap.size w w' := by
  have H0 := Lib.hid (show OwnB (w.alloc (.cells #[] 5)) w.heap.size (some ⟨w.heap.size, 0, none⟩) 0 0 [] from ⟨rfl, by simp, by simp, World.ownsRow_made w #[] 0 (Nat.le_refl _) (by unfold maxLen; omega) rfl⟩)
  have bw := Lib.hid (show Below w.heap.size w (w.alloc (.cells #[] 5)) from (by repeat (first | with_reducible exact Below.refl _ _ | with_reducible assumption | with_reducible refine sub_alloc ?_ _ | (with_reducible refine sub_setCell2 ?_ ?_ _; (focus (first | (simp; done) | (simp <;> omega)))) | with_reducible refine sub_drew ?_ | with_reducible refine below_drewN ?_ _ | with_reducible refine sub_step (by assumption) ?_ (by first | rfl | (simp; done)) | exact Below.refl _ _ | assumption | refine sub_alloc ?_ _ | refine sub_setCell ?_ (by simp <;> omega) _ | refine sub_drew ?_ | refine below_drewN ?_ _ | refine sub_step (by assumption) ?_ (by first | rfl | (simp; done)))))
  have hp : n.natAbs < 10 ^ (20 - 0) := Nat.lt_of_le_of_lt (show n.natAbs ≤ 9223372036854775808 by omega) (by decide)
  have HP := Lib.hid hp
  clear hp
  rcases (by omega : n = 0 ∨ 0 < n ∨ n < 0) with hz | hs | hs
  · subst hz
    go_enter Tryd.func58, Tryd.ntmps58
    go_wp2_with fail
    refine wp_loop_rounds 1 ?_; rw [rounds_succ]
    go_wp2_with fail
    go_ret
    exact ⟨by rw [dec_zero]; rfl, bw.out⟩
  · obtain ⟨v, hv⟩ : ∃ v : Nat, n = (v : Int) := ⟨n.natAbs, by omega⟩
    have HV := Lib.hid (show n.natAbs = v by omega)
    subst hv
    go_enter Tryd.func58, Tryd.ntmps58
    go_wp2_with fail
    go_loopw [3, 4] (fun q s wr => ∃ (u : Nat) (A : Option Addr) (m c : Nat) (l : List UInt8), s = .int .i64 ((u : Int)) ∧ q = .slice A m c ∧ u ≤ v ∧ m ≤ 20 ∧ Hid (u < 10 ^ (20 - m)) ∧ OwnB wr w.heap.size A m c l ∧ Hid (ddg u ++ l = ddg v) ∧ Below w.heap.size w wr) (fun _ s _ => (intOf s).natAbs)
    case atStart => exact ⟨v, _, 0, 0, [], rfl, rfl, Nat.le_refl _, by omega, by have := HP.out; rw [HV.out] at this; exact this, H0.out, Lib.hid (by simp), bw.out⟩
    case round =>
      obtain ⟨u, A, m, c, l, rfl, rfl, huv, hm, hpw, ho, hl, hb⟩ := hrel
      have HO := Lib.hid ho
      have HB := Lib.hid hb
      clear ho hb bw H0 HP
      by_cases hu : u = 0
      · subst hu
        have hm0 : ¬ (m = 0) := by
          rintro rfl
          have e1 := hl.out
          have e2 := HO.out.len
          obtain rfl : l = [] := List.eq_nil_of_length_eq_zero e2
          rw [ddg_zero] at e1
          rw [ddg_pos (by omega)] at e1
          simp at e1
        have hm1 : ((m : Int) == 0) = false := by simpa using hm0
        have kc := conv_own HO.out (by omega)
        have hll := HO.out.len
        have j2 : ¬ (9223372036854775807 < 1 + l.length) := by omega
        have j3 : ¬ (9223372036854775807 < l.length + 1) := by omega
        clear hll
        go_wp2_with fail
        go_ret
        exact ⟨by rw [dec_pos (by omega)]; rw [show ((v : Int)).natAbs = v by omega, ← hl.out, ddg_zero, List.nil_append]; rfl, HB.out⟩
      · have hs1 := HB.out.size
        have ho1 := Lib.hid (ownB_one wr w.heap.size hs1 (48 + (u : Int) % 10) (by omega) (by omega))
        have HO2 := Lib.hid (HO.out.alloc (.cells #[.int .u8 (48 + (u : Int) % 10)] 5))
        have sz := Lib.hid (show w.heap.size ≤ (wr.alloc (.cells #[.int .u8 (48 + (u : Int) % 10)] 5)).heap.size by simp; omega)
        have pw := Lib.hid (pow_step hpw.out hm hu)
        have hm20 := pw.out.1
        go_wp2_with (at_builtin; refine list_appendBs rfl (.tmp 21) (.tmp 22) rfl w.heap.size w.heap.size (some ⟨wr.heap.size, 0, none⟩) 1 1 _ A m c l (by simp [Act.eval, Act.put]) (by simp [Act.eval, Act.put]) (by exact ho1.out) (by exact HO2.out) (by omega) (by omega) (by exact sz.out) ?_; intro A2 c2 w2 ho2 hb2)
        go_roundw
        case rel => exact ⟨u / 10, A2, 1 + m, c2, _, by go_num, rfl, by omega, by omega, by rw [Nat.add_comm 1 m]; exact Lib.hid pw.out.2, ho2, Lib.hid (by rw [← hl.out, ddg_pos hu, List.append_assoc, show (48 + (u : Int) % 10).toNat = 48 + u % 10 by omega]), (HB.out.alloc hs1 _).trans hb2⟩
        case measure => simp [intOf]; omega
  · obtain ⟨v, hv⟩ : ∃ v : Nat, n = -(v : Int) := ⟨n.natAbs, by omega⟩
    have HV := Lib.hid (show n.natAbs = v by omega)
    subst hv
    go_enter Tryd.func58, Tryd.ntmps58
    go_wp2_with fail
    go_loopw [3, 4] (fun q s wr => ∃ (u : Nat) (A : Option Addr) (m c : Nat) (l : List UInt8), s = .int .i64 (-(u : Int)) ∧ q = .slice A m c ∧ u ≤ v ∧ m ≤ 20 ∧ Hid (u < 10 ^ (20 - m)) ∧ OwnB wr w.heap.size A m c l ∧ Hid (ddg u ++ l = ddg v) ∧ Below w.heap.size w wr) (fun _ s _ => (intOf s).natAbs)
    case atStart => exact ⟨v, _, 0, 0, [], rfl, rfl, Nat.le_refl _, by omega, by have := HP.out; rw [HV.out] at this; exact this, H0.out, Lib.hid (by simp), bw.out⟩
    case round =>
      obtain ⟨u, A, m, c, l, rfl, rfl, huv, hm, hpw, ho, hl, hb⟩ := hrel
      have HO := Lib.hid ho
      have HB := Lib.hid hb
      clear ho hb bw H0 HP
      by_cases hu : u = 0
      · subst hu
        have hm0 : ¬ (m = 0) := by
          rintro rfl
          have e1 := hl.out
          have e2 := HO.out.len
          obtain rfl : l = [] := List.eq_nil_of_length_eq_zero e2
          rw [ddg_zero] at e1
          rw [ddg_pos (by omega)] at e1
          simp at e1
        have hm1 : ((m : Int) == 0) = false := by simpa using hm0
        have kc := conv_own HO.out (by omega)
        have hll := HO.out.len
        have j2 : ¬ (9223372036854775807 < 1 + l.length) := by omega
        have j3 : ¬ (9223372036854775807 < l.length + 1) := by omega
        clear hll
        go_wp2_with fail
        go_ret
        exact ⟨by rw [dec_neg (by omega)]; rw [show (-(v : Int)).natAbs = v by omega, ← hl.out, ddg_zero, List.nil_append]; exact ret_s (cat_cons 45 l), HB.out⟩
      · by_cases hd : 0 < (u : Int) % 10
        · have hs1 := HB.out.size
          have ho1 := Lib.hid (ownB_one wr w.heap.size hs1 (48 + (u : Int) % 10) (by omega) (by omega))
          have HO2 := Lib.hid (HO.out.alloc (.cells #[.int .u8 (48 + (u : Int) % 10)] 5))
          have sz := Lib.hid (show w.heap.size ≤ (wr.alloc (.cells #[.int .u8 (48 + (u : Int) % 10)] 5)).heap.size by simp; omega)
          have pw := Lib.hid (pow_step hpw.out hm hu)
          have hm20 := pw.out.1
          go_wp2_with (at_builtin; refine list_appendBs rfl (.tmp 21) (.tmp 22) rfl w.heap.size w.heap.size (some ⟨wr.heap.size, 0, none⟩) 1 1 _ A m c l (by simp [Act.eval, Act.put]) (by simp [Act.eval, Act.put]) (by exact ho1.out) (by exact HO2.out) (by omega) (by omega) (by exact sz.out) ?_; intro A2 c2 w2 ho2 hb2)
          go_roundw
          case rel => exact ⟨u / 10, A2, 1 + m, c2, _, by go_num, rfl, by omega, by omega, by rw [Nat.add_comm 1 m]; exact Lib.hid pw.out.2, ho2, Lib.hid (by rw [← hl.out, ddg_pos hu, List.append_assoc, show (48 + (u : Int) % 10).toNat = 48 + u % 10 by omega]), (HB.out.alloc hs1 _).trans hb2⟩
          case measure => simp [intOf]; omega
        · have hs1 := HB.out.size
          have ho1 := Lib.hid (ownB_one wr w.heap.size hs1 (48 + -((u : Int) % 10)) (by omega) (by omega))
          have HO2 := Lib.hid (HO.out.alloc (.cells #[.int .u8 (48 + -((u : Int) % 10))] 5))
          have sz := Lib.hid (show w.heap.size ≤ (wr.alloc (.cells #[.int .u8 (48 + -((u : Int) % 10))] 5)).heap.size by simp; omega)
          have pw := Lib.hid (pow_step hpw.out hm hu)
          have hm20 := pw.out.1
          go_wp2_with (at_builtin; refine list_appendBs rfl (.tmp 21) (.tmp 22) rfl w.heap.size w.heap.size (some ⟨wr.heap.size, 0, none⟩) 1 1 _ A m c l (by simp [Act.eval, Act.put]) (by simp [Act.eval, Act.put]) (by exact ho1.out) (by exact HO2.out) (by omega) (by omega) (by exact sz.out) ?_; intro A2 c2 w2 ho2 hb2)
          go_roundw
          case rel => exact ⟨u / 10, A2, 1 + m, c2, _, by go_num, rfl, by omega, by omega, by rw [Nat.add_comm 1 m]; exact Lib.hid pw.out.2, ho2, Lib.hid (by rw [← hl.out, ddg_pos hu, List.append_assoc, show (48 + -((u : Int) % 10)).toNat = 48 + u % 10 by omega]), (HB.out.alloc hs1 _).trans hb2⟩
          case measure => simp [intOf]; omega
theorem specDecimal_any (n : Int) (h0 : -9223372036854775808 ≤ n) (h1 : n ≤ 9223372036854775807) (w : World) : Calls Tryd.prog 27 #[.int .i64 n] w fun e w' => e = .returned (.string (dec n)) ∧ Below w.heap.size w w' := by
  go_enter Tryd.func27, Tryd.ntmps27
  go_wp2_with fail
  refine (l01Dec_any n h0 h1 _).mono ?_
  rintro e w1 ⟨rfl, hb⟩
  go_wp2_with fail
  go_ret
  exact ⟨rfl, hb⟩
theorem FnExactDecimal_walk (n : Int) (w : World) (h : in64 n) (ht : Tab w) : Calls Tryd.prog 6 #[.int .i64 n] w fun e w' => e = .returned (.bool true) ∧ Below w.heap.size w w' := by
  obtain ⟨h0, h1⟩ := h
  have HT := Lib.hid ht
  clear ht
  go_enter Tryd.func6, Tryd.ntmps6
  go_wp2_with fail
  refine (specDecimal_any n h0 h1 _).mono ?_
  rintro e w1 ⟨rfl, b1⟩
  have T1 := Lib.hid (HT.out.below b1 (Nat.le_refl _))
  go_wp2_with fail
  refine (implDecimal_any n h0 h1 _ (by exact T1.out)).mono ?_
  rintro e w2 ⟨rfl, b2⟩
  have c2 := sub_step b2 b1 rfl
  clear b1 b2
  go_wp2_with fail
  go_ret
  exact ⟨rfl, c2⟩
end Go.Proofs.YtnanaldolnehiabDoor
