/-
  The moves with a text form: ReadMoves; the law FnExactReadMoves, walked.
-/
import Derived.Test.YtnanaldolnehiabDoorParts
import Derived.Test.YtnanaldolnehiabDoorAppend
set_option linter.unusedSimpArgs false
set_option linter.unusedVariables false
namespace Go.Proofs.YtnanaldolnehiabDoor
open Go.ChangeShapes Go.WideShapes Go.RowKit Go.Deep

/-- The numbers of words. -/
def nums (l : List ByteArray) : List Int := l.map rdN
def allR (l : List ByteArray) : Bool := l.all rdB
theorem rd_dec {t : ByteArray} (h : rdB t = true) : dec (rdN t) = t := by
  have h2 := h
  simp only [rdB, Bool.and_eq_true, decide_eq_true_eq] at h2
  rw [rdN, if_pos h]
  exact h2.2
theorem jn_nums {c : UInt8} {l : List ByteArray} (h : allR l = true) : ∀ k, k ≤ l.length → jn c (nums l) k = jnL c l k
  | 0, _ => rfl
  | k + 1, hk => by
    obtain ⟨t, ht⟩ := t_get_some (zs := l) (k := k) (by omega)
    have h1 : rdB t = true := by
      simp only [allR, List.all_eq_true] at h
      exact h t (List.mem_of_getElem? ht)
    have h2 : (nums l).getD k 0 = rdN t := by simp [List.getD, nums, ht]
    have h3 : l.getD k ⟨#[]⟩ = t := by simp [List.getD, ht]
    rw [jn, jnL, jn_nums h k (by omega), h2, h3, rd_dec h1]
/-- What ReadMoves returns. -/
def rmB (s : ByteArray) : Bool := decide (s.size = 0) || (allR (spAll 32 s) && okM (nums (spAll 32 s)))
def rmL (s : ByteArray) : List Int := if rmB s = true then (if s.size = 0 then [] else nums (spAll 32 s)) else []
def RetRM (w : World) (zs : List Int) (b : Bool) (e : Ending) (w' : World) : Prop := ∃ A c, e = .returned (.tuple #[.slice A zs.length c, .bool b]) ∧ Own w' w.heap.size A zs.length c zs ∧ Below w.heap.size w w'
theorem rm_nil {s : ByteArray} (h : s.size = 0) : rmB s = true ∧ rmL s = [] := by
  have : rmB s = true := by simp [rmB, h]
  exact ⟨this, by rw [rmL, if_pos this, if_pos h]⟩
theorem rm_bad {s : ByteArray} (h0 : ¬ (s.size = 0)) (h : allR (spAll 32 s) = false ∨ okM (nums (spAll 32 s)) = false) : rmB s = false ∧ rmL s = [] := by
  have : rmB s = false := by
    rcases h with h | h <;> simp [rmB, h0, h]
  exact ⟨this, by rw [rmL, if_neg (by rw [this]; decide)]⟩
theorem rm_ok {s : ByteArray} (h0 : ¬ (s.size = 0)) (h : allR (spAll 32 s) = true) (h2 : okM (nums (spAll 32 s)) = true) : rmB s = true ∧ rmL s = nums (spAll 32 s) := by
  have : rmB s = true := by simp [rmB, h, h2]
  exact ⟨this, by rw [rmL, if_pos this, if_neg h0]⟩
theorem mv_back {s : ByteArray} (h : allR (spAll 32 s) = true) (h2 : okM (nums (spAll 32 s)) = true) : mvT (nums (spAll 32 s)) = s := by
  rw [mvT, if_pos h2, jn_nums h _ (by simp [nums])]
  have := spAll_join 32 s
  rw [show (nums (spAll 32 s)).length = (spAll 32 s).length by simp [nums]]
  exact this
theorem mv_not {s : ByteArray} (h0 : 0 < s.size) (h2 : okM (nums (spAll 32 s)) = false) : ¬ (mvT (nums (spAll 32 s)) = s) := by
  rw [mvT, if_neg (by rw [h2]; decide)]
  rintro rfl
  exact absurd h0 (by decide)
theorem allR_step {l : List ByteArray} {k : Nat} {x : ByteArray} (h : l[k]? = some x) (ha : allR (l.take k) = true) (hx : rdB x = true) : allR (l.take (k + 1)) = true := by
  rw [allR, List.take_add_one, h, List.all_append]
  simp only [allR] at ha
  rw [ha]
  simp [hx]
theorem allR_bad {l : List ByteArray} {k : Nat} {x : ByteArray} (h : l[k]? = some x) (hx : rdB x = false) : allR l = false := by
  rw [allR, List.all_eq_false]
  exact ⟨x, List.mem_of_getElem? h, by simp [hx]⟩
theorem nums_step {l : List ByteArray} {k : Nat} {x : ByteArray} (h : l[k]? = some x) : nums (l.take (k + 1)) = nums (l.take k) ++ [rdN x] := by
  rw [nums, List.take_add_one, h, List.map_append]
  rfl
theorem own_ne {w : World} {b1 b2 n c m d : Nat} {A B : Option Addr} {xs : List Int} {ys : List ByteArray} (h : Own w b1 A n c xs) (h' : OwnT w b2 B m d ys) (g : Nat) (e : A = some ⟨g, 0, none⟩) : B ≠ some ⟨g, 0, none⟩ := by
  rintro rfl
  subst e
  rcases h.row.2 with ⟨e1, _⟩ | ⟨g1, cap, cur, e1, _, hg, _⟩
  · cases e1
  rcases h'.row.2 with ⟨e2, _⟩ | ⟨g2, cap2, cur2, e2, _, hg2, _⟩
  · cases e2
  simp at e1 e2
  obtain ⟨rfl, rfl⟩ := e1
  obtain ⟨rfl, rfl⟩ := e2
  rw [hg] at hg2
  simp at hg2
/-- 'append(l, n)' in a plain region. -/
theorem list_append1 {ops : Array Oper} {rest : List Oper} {o : Oper} {a : Act} {Q : Exit → Act → World → Prop} {w : World} (hgd : o.guard = none) (s x : Operand)
    (hop : o.op = .call { callee := .builtin .append, args := #[s, x], argTypes := #[22, 22] })
    (base : Nat) (A0 : Option Addr) (n c0 : Nat) (xs : List Int) (y : Int) (hs : a.eval s = .slice A0 n c0) (hx : a.eval x = .slice (some ⟨w.heap.size, 0, none⟩) 1 1) (ho : Own w base A0 n c0 xs) (hn : n ≤ 4294967296) (hbase : base ≤ w.heap.size)
    (h : ∀ A' c' w', Own w' base A' (n + 1) c' (xs ++ [y]) → Below base w w' → (w.alloc (.cells #[.int .i64 y] 2)).grownBy w' (Value.slice A0 n c0).ownBlock → wpList Tryd.prog ops Q rest (a.put o.dst (.slice A' (n + 1) c')) w') : wpList Tryd.prog ops Q (o :: rest) a (w.alloc (.cells #[.int .i64 y] 2)) := by
  have hy : Ints (w.alloc (.cells #[.int .i64 y] 2)) (w.heap.size + 1) (some ⟨w.heap.size, 0, none⟩) 1 1 [y] := by
    refine ⟨rfl, Nat.le_refl _, by omega, fun e => (by cases e), fun _ => ⟨w.heap.size, 0, rfl, by omega, fun j x hj => ?_⟩⟩
    have : j = 0 := by have := (List.getElem?_eq_some_iff.1 hj).1; simp at this; omega
    subst this
    simp at hj
    subst hj
    simp [World.cell?_alloc_new]
  refine list_append64 hgd s x hop base A0 n c0 xs _ 1 1 _ [y] hs hx (ho.alloc _) hy hn (by omega) (by simp; omega) ?_
  intro A' c' w' ho' hg
  refine h A' c' w' ho' (((Below.refl _ _).alloc hbase _).grown hg (by simp; omega) (fun g e => ?_)) hg
  exact (own_block ho e).2.1
theorem own_nilM (w : World) (b : Nat) : Own w b none 0 0 [] := ⟨rfl, by omega, by omega, World.ownsRow_nil w b _ _⟩
set_option maxRecDepth 100000 in
set_option maxHeartbeats 4000000 in
theorem implReadMoves_any (s : ByteArray) (hs : s.size ≤ 1048576) (w : World) (ht : Tab w) : Calls Tryd.prog 14 #[.string s] w (RetRM w (rmL s) (rmB s)) := by
  have E0 := Lib.hid (show Own (w.alloc (.cells #[] 2)) w.heap.size (some ⟨w.heap.size, 0, none⟩) 0 0 [] from ⟨rfl, by simp, by simp, World.ownsRow_made w #[] 0 (Nat.le_refl _) (by unfold maxLen; omega) rfl⟩)
  have bw := Lib.hid (show Below w.heap.size w (w.alloc (.cells #[] 2)) from (by repeat (first | with_reducible exact Below.refl _ _ | with_reducible assumption | with_reducible refine sub_alloc ?_ _ | (with_reducible refine sub_setCell2 ?_ ?_ _; (focus (first | (simp; done) | (simp <;> omega)))) | with_reducible refine sub_drew ?_ | with_reducible refine below_drewN ?_ _ | with_reducible refine sub_step (by assumption) ?_ (by first | rfl | (simp; done)) | exact Below.refl _ _ | assumption | refine sub_alloc ?_ _ | refine sub_setCell ?_ (by simp <;> omega) _ | refine sub_drew ?_ | refine below_drewN ?_ _ | refine sub_step (by assumption) ?_ (by first | rfl | (simp; done)))))
  have HT := Lib.hid ht
  clear ht
  by_cases h0 : 0 < s.size
  rotate_left
  · obtain ⟨r1, r2⟩ := rm_nil (s := s) (by omega)
    have R1 := Lib.hid r1
    have R2 := Lib.hid r2
    obtain rfl := emptyS h0
    clear r1 r2
    go_enter Tryd.func14, Tryd.ntmps14
    go_wp2_with fail
    go_ret2
    rw [R1.out, R2.out]
    exact ⟨_, _, rfl, E0.out, bw.out⟩
  obtain ⟨q1, q2⟩ := nilD h0
  have hal := spAll_len 32 s
  have hsz := spAll_size 32 s
  go_enter Tryd.func14, Tryd.ntmps14
  go_wp2_with fail
  refine (parts_any s _ hs).mono ?_
  rintro e w1 ⟨B, cb, rfl, o1, b1⟩
  have O1 := Lib.hid o1
  have B0 := Lib.hid (bw.out.trans (b1.mono bw.out.size))
  have E1 := Lib.hid (E0.out.below b1 (Nat.le_refl _))
  generalize hl : spAll 32 s = l at *
  have HL := Lib.hid hl
  have HSZ := Lib.hid hsz
  clear o1 b1 hl bw E0 hsz
  go_wp2_with fail
  go_loopw [4, 16] (fun o i wr => ∃ (k : Nat) (A : Option Addr) (c : Nat), i = .int .i64 k ∧ k ≤ l.length ∧ o = .slice A k c ∧ Own wr w.heap.size A k c (nums (l.take k)) ∧ OwnT wr w.heap.size B l.length cb l ∧ Hid (allR (l.take k) = true) ∧ Below w.heap.size w wr) (fun _ i _ => l.length - (intOf i).toNat)
  case atStart => exact ⟨0, _, 0, rfl, Nat.zero_le _, rfl, E1.out, O1.out.lower (by simp), Lib.hid rfl, B0.out⟩
  case round =>
    obtain ⟨k, A, c, rfl, hk, rfl, ho, hot, hall, hb⟩ := hrel
    have HO := Lib.hid ho
    have HOT := Lib.hid hot
    have HB := Lib.hid hb
    clear ho hot hb E1 O1 B0
    by_cases hlt : k < l.length
    · obtain ⟨x, hx⟩ := t_get_some (zs := l) (k := k) hlt
      obtain ⟨b, off, hA, hbB, hc⟩ := HOT.out.ints.at_ (by omega)
      have cx : wr.cell? ⟨b, off + k, none⟩ = some (.string x) := hc k x hx
      have xs0 : x.size ≤ 1048576 := Nat.le_trans (HSZ.out x (List.mem_of_getElem? hx)) hs
      have X := Lib.hid hx
      have i0 : (0 : Int) ≤ (k : Int) := by omega
      have i1 : (k : Int) < (l.length : Int) := by omega
      have HAA := Lib.hid hA
      rw [hA]
      clear hx hc
      cases hr : rdB x
      · have hb := rm_bad (s := s) (by omega) (.inl (by rw [HL.out]; exact allR_bad X.out hr))
        have R := Lib.hid hb
        have HR := Lib.hid hr
        clear hb hr
        go_wp2_with fail
        refine (implRead_any x xs0 _ (by exact HT.out.below HB.out (Nat.le_refl _))).mono ?_
        rintro e w2 ⟨rfl, b2⟩
        rw [HR.out]
        have c2 := Lib.hid (HB.out.trans (b2.mono HB.out.size))
        clear b2
        go_wp2_with fail
        go_ret2
        rw [R.out.1, R.out.2]
        exact ⟨none, 0, rfl, own_nilM _ _, c2.out⟩
      · have HR := Lib.hid hr
        clear hr
        go_wp2_with fail
        refine (implRead_any x xs0 _ (by exact HT.out.below HB.out (Nat.le_refl _))).mono ?_
        rintro e w2 ⟨rfl, b2⟩
        rw [HR.out]
        have c2 := Lib.hid (HB.out.trans (b2.mono HB.out.size))
        have HO2 := Lib.hid (HO.out.below b2 (Nat.le_refl _))
        have HOT2 := Lib.hid (HOT.out.below b2 (Nat.le_refl _))
        clear b2
        go_wp2_with (at_builtin; refine list_append1 rfl (.tmp 27) (.tmp 29) rfl w.heap.size A k c (nums (l.take k)) (rdN x) (by simp [Act.eval, Act.put]) (by simp [Act.eval, Act.put]) (by exact HO2.out) (by omega) (by exact c2.out.size) ?_; intro A3 c3 w3 ho3 hb3 hg3)
        go_roundw
        case rel => exact ⟨k + 1, A3, c3, by go_num, by omega, rfl, by rw [nums_step X.out]; exact ho3, by rw [← HAA.out]; exact (HOT2.out.alloc _).kept hg3 (fun g e => .inr (own_ne HO2.out HOT2.out g (own_block HO2.out e).1)), Lib.hid (allR_step X.out hall.out HR.out), c2.out.trans hb3⟩
        case measure => simp [intOf]; omega
    · have hke : k = l.length := by omega
      have HK := Lib.hid (show l.take k = l by rw [hke]; exact List.take_of_length_le (Nat.le_refl _))
      have HA := Lib.hid (show allR l = true by have := hall.out; rw [HK.out] at this; exact this)
      have j0 : ¬ ((k : Int) < (l.length : Int)) := by omega
      clear hke
      by_cases hok : okM (nums l) = true
      · have hb := rm_ok (s := s) (by omega) (by rw [HL.out]; exact HA.out) (by rw [HL.out]; exact hok)
        rw [HL.out] at hb
        have R := Lib.hid hb
        have MB := Lib.hid (show mvT (nums l) = s by have := mv_back (s := s) (by rw [HL.out]; exact HA.out) (by rw [HL.out]; exact hok); rw [HL.out] at this; exact this)
        have HOK := Lib.hid hok
        clear hb hok
        go_wp2_with fail
        refine (implMovesText_any _ A _ c (nums l) _ (by have := HO.out.ints; rw [HK.out] at this; exact this) (by exact Nat.le_refl _) (by exact HT.out.below HB.out (Nat.le_refl _))).mono ?_
        rintro e w3 ⟨rfl, b3⟩
        have HZ := Lib.hid (HB.out.trans (b3.mono HB.out.size))
        rw [MB.out]
        go_wp2_with fail
        go_ret2
        rw [R.out.1, R.out.2]
        have e4 := HO.out
        rw [HK.out] at e4
        have e4 := e4.below b3 (Nat.le_refl _)
        have e5 := e4.len
        exact ⟨A, c, by rw [e5]; rfl, by rw [e5]; exact e4, HZ.out⟩
      · have hok' : okM (nums l) = false := by simpa using hok
        have hb := rm_bad (s := s) (by omega) (.inr (by rw [HL.out]; exact hok'))
        have R := Lib.hid hb
        have MN := Lib.hid (show ¬ (mvT (nums l) = s) by have := mv_not (s := s) h0 (by rw [HL.out]; exact hok'); rw [HL.out] at this; exact this)
        have HOK := Lib.hid hok'
        clear hb hok hok'
        go_wp2_with fail
        refine (implMovesText_any _ A _ c (nums l) _ (by have := HO.out.ints; rw [HK.out] at this; exact this) (by exact Nat.le_refl _) (by exact HT.out.below HB.out (Nat.le_refl _))).mono ?_
        rintro e w3 ⟨rfl, b3⟩
        have HZ := Lib.hid (HB.out.trans (b3.mono HB.out.size))
        have qn := toList_ne MN.out
        go_wp2_with fail
        go_ret2
        rw [R.out.1, R.out.2]
        exact ⟨none, 0, rfl, own_nilM _ _, HZ.out⟩
set_option maxRecDepth 100000 in
set_option maxHeartbeats 4000000 in
theorem specReadMoves_any (s : ByteArray) (hs : s.size ≤ 1048576) (w : World) : Calls Tryd.prog 13 #[.string s] w (RetRM w (rmL s) (rmB s)) := by
  have E0 := Lib.hid (show Own (w.alloc (.cells #[] 2)) w.heap.size (some ⟨w.heap.size, 0, none⟩) 0 0 [] from ⟨rfl, by simp, by simp, World.ownsRow_made w #[] 0 (Nat.le_refl _) (by unfold maxLen; omega) rfl⟩)
  have bw := Lib.hid (show Below w.heap.size w (w.alloc (.cells #[] 2)) from (by repeat (first | with_reducible exact Below.refl _ _ | with_reducible assumption | with_reducible refine sub_alloc ?_ _ | (with_reducible refine sub_setCell2 ?_ ?_ _; (focus (first | (simp; done) | (simp <;> omega)))) | with_reducible refine sub_drew ?_ | with_reducible refine below_drewN ?_ _ | with_reducible refine sub_step (by assumption) ?_ (by first | rfl | (simp; done)) | exact Below.refl _ _ | assumption | refine sub_alloc ?_ _ | refine sub_setCell ?_ (by simp <;> omega) _ | refine sub_drew ?_ | refine below_drewN ?_ _ | refine sub_step (by assumption) ?_ (by first | rfl | (simp; done)))))
  by_cases h0 : 0 < s.size
  rotate_left
  · obtain ⟨r1, r2⟩ := rm_nil (s := s) (by omega)
    have R1 := Lib.hid r1
    have R2 := Lib.hid r2
    obtain rfl := emptyS h0
    clear r1 r2
    go_enter Tryd.func13, Tryd.ntmps13
    go_wp2_with fail
    go_ret2
    rw [R1.out, R2.out]
    exact ⟨_, _, rfl, E0.out, bw.out⟩
  obtain ⟨q1, q2⟩ := nilD h0
  have hal := spAll_len 32 s
  have hsz := spAll_size 32 s
  go_enter Tryd.func13, Tryd.ntmps13
  go_wp2_with fail
  refine (l01Split_any s 32 _ hs).mono ?_
  rintro e w1 ⟨B, cb, rfl, o1, b1⟩
  have O1 := Lib.hid o1
  have B0 := Lib.hid (bw.out.trans (b1.mono bw.out.size))
  have E1 := Lib.hid (E0.out.below b1 (Nat.le_refl _))
  generalize hl : spAll 32 s = l at *
  have HL := Lib.hid hl
  have HSZ := Lib.hid hsz
  clear o1 b1 hl bw E0 hsz
  go_wp2_with fail
  go_loopw [4, 6] (fun o i wr => ∃ (k : Nat) (A : Option Addr) (c : Nat), i = .int .i64 k ∧ k ≤ l.length ∧ o = .slice A k c ∧ Own wr w.heap.size A k c (nums (l.take k)) ∧ OwnT wr w.heap.size B l.length cb l ∧ Hid (allR (l.take k) = true) ∧ Below w.heap.size w wr) (fun _ i _ => l.length - (intOf i).toNat)
  case atStart => exact ⟨0, _, 0, rfl, Nat.zero_le _, rfl, E1.out, O1.out.lower (by simp), Lib.hid rfl, B0.out⟩
  case round =>
    obtain ⟨k, A, c, rfl, hk, rfl, ho, hot, hall, hb⟩ := hrel
    have HO := Lib.hid ho
    have HOT := Lib.hid hot
    have HB := Lib.hid hb
    clear ho hot hb E1 O1 B0
    by_cases hlt : k < l.length
    · obtain ⟨x, hx⟩ := t_get_some (zs := l) (k := k) hlt
      obtain ⟨b, off, hA, hbB, hc⟩ := HOT.out.ints.at_ (by omega)
      have cx : wr.cell? ⟨b, off + k, none⟩ = some (.string x) := hc k x hx
      have xs0 : x.size ≤ 1048576 := Nat.le_trans (HSZ.out x (List.mem_of_getElem? hx)) hs
      have X := Lib.hid hx
      have i0 : (0 : Int) ≤ (k : Int) := by omega
      have i1 : (k : Int) < (l.length : Int) := by omega
      have HAA := Lib.hid hA
      rw [hA]
      clear hx hc
      cases hr : rdB x
      · have hb := rm_bad (s := s) (by omega) (.inl (by rw [HL.out]; exact allR_bad X.out hr))
        have R := Lib.hid hb
        have HR := Lib.hid hr
        clear hb hr
        go_wp2_with fail
        refine (l01Number_any x xs0 _).mono ?_
        rintro e w2 ⟨rfl, b2⟩
        rw [HR.out]
        have c2 := Lib.hid (HB.out.trans (b2.mono HB.out.size))
        clear b2
        go_wp2_with fail
        go_ret2
        rw [R.out.1, R.out.2]
        exact ⟨none, 0, rfl, own_nilM _ _, c2.out⟩
      · have HR := Lib.hid hr
        clear hr
        go_wp2_with fail
        refine (l01Number_any x xs0 _).mono ?_
        rintro e w2 ⟨rfl, b2⟩
        rw [HR.out]
        have c2 := Lib.hid (HB.out.trans (b2.mono HB.out.size))
        have HO2 := Lib.hid (HO.out.below b2 (Nat.le_refl _))
        have HOT2 := Lib.hid (HOT.out.below b2 (Nat.le_refl _))
        clear b2
        go_wp2_with (at_builtin; refine list_append1 rfl (.tmp 31) (.tmp 33) rfl w.heap.size A k c (nums (l.take k)) (rdN x) (by simp [Act.eval, Act.put]) (by simp [Act.eval, Act.put]) (by exact HO2.out) (by omega) (by exact c2.out.size) ?_; intro A3 c3 w3 ho3 hb3 hg3)
        go_roundw
        case rel => exact ⟨k + 1, A3, c3, by go_num, by omega, rfl, by rw [nums_step X.out]; exact ho3, by rw [← HAA.out]; exact (HOT2.out.alloc _).kept hg3 (fun g e => .inr (own_ne HO2.out HOT2.out g (own_block HO2.out e).1)), Lib.hid (allR_step X.out hall.out HR.out), c2.out.trans hb3⟩
        case measure => simp [intOf]; omega
    · have hke : k = l.length := by omega
      have HK := Lib.hid (show l.take k = l by rw [hke]; exact List.take_of_length_le (Nat.le_refl _))
      have HA := Lib.hid (show allR l = true by have := hall.out; rw [HK.out] at this; exact this)
      have j0 : ¬ ((k : Int) < (l.length : Int)) := by omega
      clear hke
      by_cases hok : okM (nums l) = true
      · have hb := rm_ok (s := s) (by omega) (by rw [HL.out]; exact HA.out) (by rw [HL.out]; exact hok)
        rw [HL.out] at hb
        have R := Lib.hid hb
        have MB := Lib.hid (show mvT (nums l) = s by have := mv_back (s := s) (by rw [HL.out]; exact HA.out) (by rw [HL.out]; exact hok); rw [HL.out] at this; exact this)
        have HOK := Lib.hid hok
        clear hb hok
        go_wp2_with fail
        refine (l10Ok_any _ A _ c (nums l) _ (by have := HO.out.ints; rw [HK.out] at this; exact this)).mono ?_
        rintro e w' ⟨rfl, rfl⟩
        have HZ := HB
        rw [HOK.out]
        skip
        go_wp2_with fail
        go_ret2
        rw [R.out.1, R.out.2]
        have e4 := HO.out
        rw [HK.out] at e4
        skip
        have e5 := e4.len
        exact ⟨A, c, by rw [e5]; rfl, by rw [e5]; exact e4, HZ.out⟩
      · have hok' : okM (nums l) = false := by simpa using hok
        have hb := rm_bad (s := s) (by omega) (.inr (by rw [HL.out]; exact hok'))
        have R := Lib.hid hb
        have MN := Lib.hid (show ¬ (mvT (nums l) = s) by have := mv_not (s := s) h0 (by rw [HL.out]; exact hok'); rw [HL.out] at this; exact this)
        have HOK := Lib.hid hok'
        clear hb hok hok'
        go_wp2_with fail
        refine (l10Ok_any _ A _ c (nums l) _ (by have := HO.out.ints; rw [HK.out] at this; exact this)).mono ?_
        rintro e w' ⟨rfl, rfl⟩
        have HZ := HB
        rw [HOK.out]
        skip
        go_wp2_with fail
        go_ret2
        rw [R.out.1, R.out.2]
        exact ⟨none, 0, rfl, own_nilM _ _, HZ.out⟩
theorem rmL_len (s : ByteArray) : (rmL s).length ≤ s.size + 1 := by
  unfold rmL
  split
  · split
    · simp
    · simp only [nums, List.length_map]; exact spAll_len 32 s
  · simp
set_option maxRecDepth 100000 in
set_option maxHeartbeats 4000000 in
theorem FnExactReadMoves_walk (s : ByteArray) (w : World) (h : s.size ≤ maxLen) (ht : Tab w) : Calls Tryd.prog 3 #[.string s] w fun e w' => e = .returned (.bool true) ∧ Below w.heap.size w w' := by
  unfold maxLen at h
  have HT := Lib.hid ht
  clear ht
  by_cases hs : 1048576 < s.size
  · have j0 : (1048576 : Int) < (s.size : Int) := by omega
    go_enter Tryd.func3, Tryd.ntmps3
    go_wp2_with fail
    go_ret
    exact ⟨rfl, Below.refl _ _⟩
  have hs' : s.size ≤ 1048576 := by omega
  have j0 : ¬ ((1048576 : Int) < (s.size : Int)) := by omega
  have hln := rmL_len s
  go_enter Tryd.func3, Tryd.ntmps3
  go_wp2_with fail
  refine (specReadMoves_any s hs' _).mono ?_
  rintro e w1 ⟨A0, c0, rfl, o0, b1⟩
  have O0 := Lib.hid o0
  have B1 := Lib.hid b1
  clear o0 b1
  generalize hL : rmL s = L at *
  generalize hR : rmB s = R at *
  have HL := Lib.hid hL
  have HR := Lib.hid hR
  clear hL hR
  go_wp2_with fail
  refine (implReadMoves_any s hs' _ (by exact HT.out.below B1.out (Nat.le_refl _))).mono ?_
  rintro e w2 ⟨A1, c1, rfl, o1, b2⟩
  rw [HL.out] at o1
  rw [HL.out, HR.out]
  have J0 := Lib.hid O0.out.ints
  have I1 := Lib.hid o1.ints
  have O1 := Lib.hid o1
  have C2 := Lib.hid b2
  have D2 := Lib.hid (sub_step b2 B1.out rfl)
  have S2 := b2.size
  clear o1 b2
  go_wp2_with fail
  refine (eqInt64S_is _ _ _ _ _ _ _ _ L L true (decide_eq_true rfl) _ I1.out (J0.out.sub C2.out)).mono ?_
  rintro e w3 ⟨rfl, m3, rfl⟩
  have O3 := Lib.hid (O1.out.drewN m3)
  go_wp2_with fail
  refine (markInt64S_any w1.heap.size A1 L.length c1 L 1 _ (by exact O3.out) (by omega) (by omega) (by omega)).mono ?_
  rintro e w4 ⟨rfl, o4, g4⟩
  have b4 : Below w1.heap.size w1 w4 := Below.grown (below_drewN C2.out m3) g4 (by simpa using S2) (fun g e => (own_block O3.out e).2.1)
  have I4 := Lib.hid o4.ints
  have C4 := Lib.hid b4
  clear o4 g4 b4
  go_wp2_with fail
  refine (heldInt64S_any _ A1 L.length c1 1 _ I4.out (by omega) (by omega) (by omega)).mono ?_
  rintro e w' ⟨rfl, rfl⟩
  go_wp2_with fail
  refine (implReadMoves_any s hs' _ (by exact (HT.out.below B1.out (Nat.le_refl _)).below C4.out (Nat.le_refl _))).mono ?_
  rintro e w6 ⟨A6, c6, rfl, o6, b6⟩
  rw [HL.out] at o6
  rw [HL.out, HR.out]
  have I6 := Lib.hid o6.ints
  have C6 := Lib.hid (C4.out.trans (b6.mono C4.out.size))
  have D6 := Lib.hid b6
  clear b6 o6
  go_wp2_with fail
  refine (eqInt64S_is _ _ _ _ _ _ _ _ L L true (decide_eq_true rfl) _ I6.out (J0.out.sub C6.out)).mono ?_
  rintro e w7 ⟨rfl, m7, rfl⟩
  go_wp2_with fail
  refine (heldInt64S_any _ A1 L.length c1 1 _ ((I4.out.sub D6.out).drewN m7) (by omega) (by omega) (by omega)).mono ?_
  rintro e w' ⟨rfl, rfl⟩
  go_wp2_with fail
  go_ret
  exact ⟨rfl, B1.out.trans ((below_drewN C6.out m7).mono B1.out.size)⟩
end Go.Proofs.YtnanaldolnehiabDoor
