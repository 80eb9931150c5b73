/-
  A text's words: append to a list of texts; l01Split, SplitWords; the law FnExactSplitWords, walked.
-/
import Derived.Test.YtnanaldolnehiaaTexts
import Derived.Test.YtnanaldolnehiaaNameLists
set_option linter.unusedSimpArgs false
set_option linter.unusedVariables false
namespace Go.Proofs.Ytnanaldolnehiaa
open Go.ChangeShapes Go.WideShapes Go.RowKit Go.Deep

theorem infoT : (Try.prog.info? 9).map (fun i => (i.zero, i.size, i.bytes)) = some (some (.string ByteArray.empty), 1, 16) := by kernel_rfl
theorem appendT_one (base : Nat) (ty : TypeId) (A0 : Option Addr) (n c0 : Nat) (xs : List ByteArray) (x : ByteArray) (w : World) (b : Nat) (hb : b = w.heap.size) (ho : OwnT w base A0 n c0 xs) (hn : n ≤ 4294967296) (hbase : base ≤ w.heap.size) :
    ∃ A' c' w', (Builtin.append_ #[53, 53] ty #[.slice A0 n c0, .slice (some ⟨b, 0, none⟩) 1 1]).run Try.prog (w.alloc (.cells #[.string x] 9)) = .ok (.slice A' (n + 1) c') w' ∧ OwnT w' base A' (n + 1) c' (xs ++ [x]) ∧ (w.alloc (.cells #[.string x] 9)).grownBy w' (Value.slice A0 n c0).ownBlock := by
  subst hb
  obtain ⟨i0, hi, hz0, hz1, hz2⟩ := info_parts infoT
  obtain ⟨v', w', hr, hown, hg, -⟩ := run_append_own (P := Try.prog) (w.alloc (.cells #[.string x] 9)) base 53 ty 9 i0 _ 1 16 Try.underlying53 hi hz0 hz1 hz2 rfl (by decide) _ n _ (ho.alloc _).row ⟨w.heap.size, 0, none⟩ 1 1 [.string x] (by simp) (fun j u hu => by
      have hj : j = 0 := by
        have := (List.getElem?_eq_some_iff.1 hu).1
        simp at this
        omega
      subst hj
      simp at hu
      subst hu
      simp [World.cell?_alloc_new, Addr.add]) (by intro v hv; simp at hv; subst hv; rfl) (by unfold maxLen; omega) (by omega) (by simp; omega)
  have e : xs.map Value.string ++ [Value.string x] = (xs ++ [x]).map Value.string := by simp
  rw [e] at hown
  obtain ⟨A', c', rfl, ho'⟩ := OwnT.of_row hown
  exact ⟨A', c', w', hr, ho', hg⟩
/-- 'append(l, s)' in a plain region. -/
theorem list_appendT {ops : Array Oper} {rest : List Oper} {o : Oper} {a : Act} {Q : Exit → Act → World → Prop} {w : World} (hgd : o.guard = none) (s x : Operand)
    (hop : o.op = .call { callee := .builtin .append, args := #[s, x], argTypes := #[53, 53] })
    (base : Nat) (A0 : Option Addr) (n c0 : Nat) (xs : List ByteArray) (y : ByteArray) (b : Nat) (hb : b = w.heap.size) (hs : a.eval s = .slice A0 n c0) (hx : a.eval x = .slice (some ⟨b, 0, none⟩) 1 1) (ho : OwnT w base A0 n c0 xs) (hn : n ≤ 4294967296) (hbase : base ≤ w.heap.size)
    (h : ∀ A' c' w', OwnT w' base A' (n + 1) c' (xs ++ [y]) → Below base w w' → wpList Try.prog ops Q rest (a.put o.dst (.slice A' (n + 1) c')) w') : wpList Try.prog ops Q (o :: rest) a (w.alloc (.cells #[.string y] 9)) := by
  refine wpList_plain hgd fun K hK => ?_
  obtain ⟨A', c', w', hrun, ho', hg⟩ := appendT_one base o.type A0 n c0 xs y w b hb ho hn hbase
  unfold Oper.wp
  simp only [execOp, hop, resolve, invoke, builtin, Sem.run_bind, Sem.run_pure, Result.andThen_ok, List.map_toArray, List.map_cons, List.map_nil, hs, hx, hrun]
  refine hK _ _ (h A' c' w' ho' (((Below.refl _ _).alloc hbase _).grown hg (by simp; omega) (fun g e => ?_)))
  rcases ho.form with ⟨rfl, _⟩ | ⟨g', rfl, hb', _⟩
  · cases e
  · simp [Value.ownBlock] at e
    omega

/-- The parts that end in front of byte i, and where the next begins. -/
def spS (c : Int) (s : ByteArray) : Nat → List ByteArray × Nat
  | 0 => ([], 0)
  | i + 1 => if h : i < s.size then (if (s[i].toNat : Int) = c then ((spS c s i).1 ++ [s.extract (spS c s i).2 i], i + 1) else spS c s i) else spS c s i
section
variable {c : Int} {s : ByteArray} {k : Nat}
theorem spS_yes (h : k < s.size) (hc : (s[k].toNat : Int) = c) : spS c s (k + 1) = ((spS c s k).1 ++ [s.extract (spS c s k).2 k], k + 1) := by rw [spS, dif_pos h, if_pos hc]
theorem spS_no (h : k < s.size) (hc : ¬ ((s[k].toNat : Int) = c)) : spS c s (k + 1) = spS c s k := by rw [spS, dif_pos h, if_neg hc]
theorem spS_le (c : Int) (s : ByteArray) : ∀ k, (spS c s k).2 ≤ k ∧ (spS c s k).1.length ≤ k
  | 0 => by simp [spS]
  | k + 1 => by
    have ih := spS_le c s k
    rw [spS]
    split
    · split
      · simp; omega
      · omega
    · omega
end
/-- The parts of a text, the empty ones too. -/
def spAll (c : Int) (s : ByteArray) : List ByteArray := (spS c s s.size).1 ++ [s.extract (spS c s s.size).2 s.size]
def full (t : ByteArray) : Bool := decide (0 < t.size)
def spWords (s : ByteArray) : List ByteArray := (spAll 32 s).filter full
theorem spAll_len (c : Int) (s : ByteArray) : (spAll c s).length ≤ s.size + 1 := by
  have := (spS_le c s s.size).2
  simp [spAll]
  omega
theorem spWords_len (s : ByteArray) : (spWords s).length ≤ s.size + 1 := Nat.le_trans (List.length_filter_le _ _) (spAll_len 32 s)
theorem full_extract {s : ByteArray} {a b : Nat} (hb : b ≤ s.size) (h : a < b) : full (s.extract a b) = true := by
  unfold full
  rw [ByteArray.size_extract]
  simp; omega
theorem empty_extract {s : ByteArray} {a b : Nat} (h : b ≤ a) : full (s.extract a b) = false := by
  unfold full
  rw [ByteArray.size_extract]
  simp; omega
set_option maxRecDepth 100000 in
set_option maxHeartbeats 2000000 in
theorem l01Split_any (s : ByteArray) (c : Int) (w : World) (hs : s.size ≤ 1048576) : Calls Try.prog 114 #[.string s, .int .u8 c] w (RetOwnT w (spAll c s).length (spAll c s)) := by
  have H0 := Lib.hid (show OwnT (w.alloc (.cells #[] 9)) w.heap.size (some ⟨w.heap.size, 0, none⟩) 0 0 [] from ⟨rfl, by simp, by simp, World.ownsRow_made w #[] 0 (Nat.le_refl _) (by unfold maxLen; omega) rfl⟩)
  have bw := Lib.hid (show Below w.heap.size w (w.alloc (.cells #[] 9)) from (by repeat (first | with_reducible exact Below.refl _ _ | with_reducible assumption | with_reducible refine sub_alloc ?_ _ | (with_reducible refine sub_setCell2 ?_ ?_ _; (focus (first | (simp; done) | (simp <;> omega)))) | with_reducible refine sub_drew ?_ | with_reducible refine below_drewN ?_ _ | with_reducible refine sub_step (by assumption) ?_ (by first | rfl | (simp; done)) | exact Below.refl _ _ | assumption | refine sub_alloc ?_ _ | refine sub_setCell ?_ (by simp <;> omega) _ | refine sub_drew ?_ | refine below_drewN ?_ _ | refine sub_step (by assumption) ?_ (by first | rfl | (simp; done)))))
  go_enter Try.func114, Try.ntmps114
  go_wp2_with fail
  go_loopw [5, 6, 7] (fun o f i wr => ∃ (k u : Nat) (A : Option Addr) (m cc : Nat), i = .int .i64 k ∧ k ≤ s.size ∧ u ≤ k ∧ u = (spS c s k).2 ∧ o = .slice A m cc ∧ f = .int .i64 (u : Int) ∧ OwnT wr w.heap.size A m cc (spS c s k).1 ∧ Below w.heap.size w wr) (fun _ _ i _ => s.size - (intOf i).toNat)
  case atStart => exact ⟨0, 0, _, 0, 0, rfl, Nat.zero_le _, Nat.le_refl _, rfl, rfl, rfl, H0.out, bw.out⟩
  case round =>
    obtain ⟨k, u, A, m, cc, rfl, hk, hu, hue, rfl, rfl, ho, hb⟩ := hrel
    have hm : m ≤ k := by have := ho.len; have := (spS_le c s k).2; omega
    have HO := Lib.hid ho
    have HB := Lib.hid hb
    have HU := Lib.hid hue
    clear ho hb hue bw H0
    by_cases hlt : k < s.size
    · have j0 : (k : Int) < (s.size : Int) := by omega
      have j1 : (u : Int) ≤ (k : Int) := by omega
      have j2 : (k : Int) ≤ (s.size : Int) := by omega
      by_cases hc : (s[k].toNat : Int) = c
      · have HC := Lib.hid hc
        have hc2 : ((s[k].toNat : Int) == c) = true := by simpa using hc
        go_wp2_with (at_builtin; refine list_appendT rfl (.tmp 20) (.tmp 25) rfl w.heap.size A m cc (spS c s k).1 (s.extract u k) wr.heap.size rfl (by simp [Act.eval, Act.put]) (by simp [Act.eval, Act.put]) (by exact HO.out) (by omega) (by exact HB.out.size) ?_; intro A2 c2 w2 ho2 hb2)
        go_roundw
        case rel => exact ⟨k + 1, k + 1, A2, m + 1, c2, by go_num, by omega, Nat.le_refl _, by rw [spS_yes hlt HC.out], rfl, by go_num, by rw [spS_yes hlt HC.out, ← HU.out]; exact ho2, HB.out.trans hb2⟩
        case measure => simp [intOf]; omega
      · have HC := Lib.hid hc
        have hc2 : ((s[k].toNat : Int) == c) = false := by simpa using hc
        go_wp2_with fail
        go_roundw
        case rel => exact ⟨k + 1, u, A, m, cc, by go_num, by omega, by omega, by rw [spS_no hlt HC.out]; exact HU.out, rfl, rfl, by rw [spS_no hlt HC.out]; exact HO.out, HB.out⟩
        case measure => simp [intOf]; omega
    · have hke : k = s.size := by omega
      have HK := Lib.hid hke
      have j0 : ¬ ((k : Int) < (s.size : Int)) := by omega
      have j1 : (u : Int) ≤ (s.size : Int) := by omega
      clear hke
      go_wp2_with (at_builtin; refine list_appendT rfl (.tmp 29) (.tmp 33) rfl w.heap.size A m cc (spS c s k).1 (s.extract u s.size) wr.heap.size rfl (by simp [Act.eval, Act.put]) (by simp [Act.eval, Act.put]) (by exact HO.out) (by omega) (by exact HB.out.size) ?_; intro A2 c2 w2 ho2 hb2)
      go_ret
      have e := HK.out
      subst e
      have e2 : (spS c s s.size).1 ++ [s.extract u s.size] = spAll c s := by rw [HU.out]; rfl
      rw [e2] at ho2
      have e3 := ho2.len
      rw [e3]
      exact ⟨A2, c2, rfl, ho2, HB.out.trans hb2⟩
theorem nilS {s : ByteArray} (h : 0 < s.size) : (s.toList == []) = false ∧ ([] == s.toList) = false := by
  have h2 : ¬ (s.toList = []) := by
    rw [ByteArray.toList_eq]
    intro e
    have h3 : s.data.toList.length = 0 := by rw [e]; rfl
    rw [Array.length_toList] at h3
    exact absurd h3 (by show ¬ s.size = 0; omega)
  exact ⟨beq_eq_false_iff_ne.2 h2, beq_eq_false_iff_ne.2 (fun e => h2 e.symm)⟩
theorem emptyS {s : ByteArray} (h : ¬ (0 < s.size)) : s = ⟨#[]⟩ := by
  apply ByteArray.ext
  exact Array.eq_empty_of_size_eq_zero (by show s.size = 0; omega)
theorem OwnT.lower {w : World} {base base' n c : Nat} {A : Option Addr} {zs : List ByteArray} (h : OwnT w base A n c zs) (hb : base' ≤ base) : OwnT w base' A n c zs := by
  refine ⟨h.1, h.2.1, h.2.2.1, h.row.1, ?_⟩
  rcases h.row.2 with h2 | ⟨g, cap, cur, e, hg, rest⟩
  · exact .inl h2
  · exact .inr ⟨g, cap, cur, e, by omega, rest⟩
theorem fil_step {l : List ByteArray} {k : Nat} {x : ByteArray} (h : l[k]? = some x) (hx : full x = true) : (l.take (k + 1)).filter full = (l.take k).filter full ++ [x] := by
  rw [List.take_add_one, h, List.filter_append]
  simp [hx]
theorem fil_skip {l : List ByteArray} {k : Nat} {x : ByteArray} (h : l[k]? = some x) (hx : full x = false) : (l.take (k + 1)).filter full = (l.take k).filter full := by
  rw [List.take_add_one, h, List.filter_append]
  simp [hx]
theorem spW_step {s : ByteArray} {k : Nat} (h : k < s.size) (hc : (s[k].toNat : Int) = 32) (hu : (spS 32 s k).2 < k) : ((spS 32 s (k + 1)).1.filter full) = (spS 32 s k).1.filter full ++ [s.extract (spS 32 s k).2 k] := by
  rw [spS_yes h hc, List.filter_append]
  simp [full_extract (Nat.le_of_lt h) hu]
theorem spW_skip {s : ByteArray} {k : Nat} (h : k < s.size) (hc : (s[k].toNat : Int) = 32) (hu : (spS 32 s k).2 = k) : ((spS 32 s (k + 1)).1.filter full) = (spS 32 s k).1.filter full := by
  rw [spS_yes h hc, List.filter_append]
  simp [empty_extract (s := s) (Nat.le_of_eq hu.symm)]
theorem spW_end {s : ByteArray} (hu : (spS 32 s s.size).2 < s.size) : spWords s = (spS 32 s s.size).1.filter full ++ [s.extract (spS 32 s s.size).2 s.size] := by
  rw [spWords, spAll, List.filter_append]
  simp [full_extract (Nat.le_refl _) hu]
theorem spW_end0 {s : ByteArray} (hu : (spS 32 s s.size).2 = s.size) : spWords s = (spS 32 s s.size).1.filter full := by
  rw [spWords, spAll, List.filter_append]
  simp [empty_extract (s := s) (Nat.le_of_eq hu.symm)]
set_option maxRecDepth 100000 in
set_option maxHeartbeats 2000000 in
theorem specSplitWords_any (s : ByteArray) (w : World) (hs : s.size ≤ 1048576) : Calls Try.prog 38 #[.string s] w (RetOwnT w (spWords s).length (spWords s)) := by
  have hal := spAll_len 32 s
  go_enter Try.func38, Try.ntmps38
  go_wp2_with fail
  refine (l01Split_any s 32 _ hs).mono ?_
  rintro e w1 ⟨B, cb, rfl, o1, b1⟩
  have L := Lib.hid o1.ints
  have B1 := Lib.hid b1
  have hz := b1.size
  generalize hl : spAll 32 s = l at *
  have HLl := Lib.hid hl
  clear o1 b1 hl
  have H0 := Lib.hid (show OwnT (w1.alloc (.cells #[] 9)) w1.heap.size (some ⟨w1.heap.size, 0, none⟩) 0 0 [] from ⟨rfl, by simp, by simp, World.ownsRow_made w1 #[] 0 (Nat.le_refl _) (by unfold maxLen; omega) rfl⟩)
  have bw := Lib.hid (show Below w1.heap.size w1 (w1.alloc (.cells #[] 9)) from (by repeat (first | with_reducible exact Below.refl _ _ | with_reducible assumption | with_reducible refine sub_alloc ?_ _ | (with_reducible refine sub_setCell2 ?_ ?_ _; (focus (first | (simp; done) | (simp <;> omega)))) | with_reducible refine sub_drew ?_ | with_reducible refine below_drewN ?_ _ | with_reducible refine sub_step (by assumption) ?_ (by first | rfl | (simp; done)) | exact Below.refl _ _ | assumption | refine sub_alloc ?_ _ | refine sub_setCell ?_ (by simp <;> omega) _ | refine sub_drew ?_ | refine below_drewN ?_ _ | refine sub_step (by assumption) ?_ (by first | rfl | (simp; done)))))
  go_wp2_with fail
  go_loopw [4, 5] (fun o i wr => ∃ (k : Nat) (A : Option Addr) (m cc : Nat), i = .int .i64 k ∧ k ≤ l.length ∧ m ≤ k ∧ o = .slice A m cc ∧ OwnT wr w1.heap.size A m cc ((l.take k).filter full) ∧ Below w1.heap.size w1 wr) (fun _ i _ => l.length - (intOf i).toNat)
  case atStart => exact ⟨0, _, 0, 0, rfl, Nat.zero_le _, Nat.le_refl _, rfl, H0.out, bw.out⟩
  case round =>
    obtain ⟨k, A, m, cc, rfl, hk, hm, rfl, ho, hb⟩ := hrel
    have HO := Lib.hid ho
    have HB := Lib.hid hb
    clear ho hb bw H0
    by_cases hlt : k < l.length
    · obtain ⟨x, hx⟩ := t_get_some (zs := l) (k := k) hlt
      obtain ⟨b, off, hA, hbB, hc⟩ := L.out.at_ (by omega)
      subst hA
      have cx : wr.cell? ⟨b, off + k, none⟩ = some (.string x) := (HB.out.cell (p := ⟨b, off + k, none⟩) hbB).trans (hc k x hx)
      have X := Lib.hid hx
      have i0 : (0 : Int) ≤ (k : Int) := by omega
      have i1 : (k : Int) < (l.length : Int) := by omega
      clear hx hc
      by_cases hx0 : 0 < x.size
      · obtain ⟨q1, q2⟩ := nilS hx0
        have HF := Lib.hid (show full x = true by simpa [full] using hx0)
        clear hx0
        go_wp2_with (at_builtin; refine list_appendT rfl (.tmp 20) (.tmp 25) rfl w1.heap.size A m cc ((l.take k).filter full) x wr.heap.size rfl (by simp [Act.eval, Act.put]) (by simp [Act.eval, Act.put]) (by exact HO.out) (by omega) (by exact HB.out.size) ?_; intro A2 c2 w2 ho2 hb2)
        go_roundw
        case rel => exact ⟨k + 1, A2, m + 1, c2, by go_num, by omega, by omega, rfl, by rw [fil_step X.out HF.out]; exact ho2, HB.out.trans hb2⟩
        case measure => simp [intOf]; omega
      · have HF := Lib.hid (show full x = false by simpa [full] using hx0)
        obtain rfl := emptyS hx0
        go_wp2_with fail
        go_roundw
        case rel => exact ⟨k + 1, A, m, cc, by go_num, by omega, by omega, rfl, by rw [fil_skip X.out HF.out]; exact HO.out, HB.out⟩
        case measure => simp [intOf]; omega
    · have hke : k = l.length := by omega
      have HK := Lib.hid hke
      have j0 : ¬ ((k : Int) < (l.length : Int)) := by omega
      clear hke
      go_wp2_with fail
      go_ret
      have e := HK.out
      have e2 : (l.take k).filter full = spWords s := by rw [e, List.take_of_length_le (Nat.le_refl _), spWords, HLl.out]
      have e4 := HO.out
      rw [e2] at e4
      have e3 := e4.len
      rw [e3]
      exact ⟨A, cc, rfl, e4.lower hz, B1.out.trans (HB.out.mono hz)⟩
set_option maxRecDepth 100000 in
set_option maxHeartbeats 4000000 in
theorem SplitWords_any (s : ByteArray) (w : World) (hs : s.size ≤ 1048576) : Calls Try.prog 39 #[.string s] w (RetOwnT w (spWords s).length (spWords s)) := by
  have H0 := Lib.hid (show OwnT (w.alloc (.cells #[] 9)) w.heap.size (some ⟨w.heap.size, 0, none⟩) 0 0 [] from ⟨rfl, by simp, by simp, World.ownsRow_made w #[] 0 (Nat.le_refl _) (by unfold maxLen; omega) rfl⟩)
  have bw := Lib.hid (show Below w.heap.size w (w.alloc (.cells #[] 9)) from (by repeat (first | with_reducible exact Below.refl _ _ | with_reducible assumption | with_reducible refine sub_alloc ?_ _ | (with_reducible refine sub_setCell2 ?_ ?_ _; (focus (first | (simp; done) | (simp <;> omega)))) | with_reducible refine sub_drew ?_ | with_reducible refine below_drewN ?_ _ | with_reducible refine sub_step (by assumption) ?_ (by first | rfl | (simp; done)) | exact Below.refl _ _ | assumption | refine sub_alloc ?_ _ | refine sub_setCell ?_ (by simp <;> omega) _ | refine sub_drew ?_ | refine below_drewN ?_ _ | refine sub_step (by assumption) ?_ (by first | rfl | (simp; done)))))
  go_enter Try.func39, Try.ntmps39
  go_wp2_with fail
  go_loopw [3, 4, 9] (fun o f i wr => ∃ (k u : Nat) (A : Option Addr) (m cc : Nat), i = .int .i64 k ∧ k ≤ s.size ∧ u ≤ k ∧ u = (spS 32 s k).2 ∧ o = .slice A m cc ∧ f = .int .i64 (if u = k then -1 else (u : Int)) ∧ m ≤ k ∧ OwnT wr w.heap.size A m cc ((spS 32 s k).1.filter full) ∧ Below w.heap.size w wr) (fun _ _ i _ => s.size - (intOf i).toNat)
  case atStart => exact ⟨0, 0, _, 0, 0, rfl, Nat.zero_le _, Nat.le_refl _, rfl, rfl, rfl, Nat.le_refl _, H0.out, bw.out⟩
  case round =>
    obtain ⟨k, u, A, m, cc, rfl, hk, hu, hue, rfl, rfl, hm, ho, hb⟩ := hrel
    have HO := Lib.hid ho
    have HB := Lib.hid hb
    have HU := Lib.hid hue
    clear ho hb hue bw H0
    by_cases hlt : k < s.size
    · have j0 : (k : Int) < (s.size : Int) := by omega
      have j2 : (k : Int) ≤ (s.size : Int) := by omega
      by_cases huk : u = k
      · have HUK := Lib.hid huk
        rw [if_pos huk]
        by_cases hc : (s[k].toNat : Int) = 32
        · have HC := Lib.hid hc
          have hc2 : ((s[k].toNat : Int) == 32) = true := by simpa using hc
          clear hc huk
          go_wp2_with fail
          go_roundw
          case rel => exact ⟨k + 1, k + 1, A, m, cc, by go_num, by omega, Nat.le_refl _, by rw [spS_yes hlt HC.out], rfl, by rw [if_pos rfl], by omega, by rw [spW_skip hlt HC.out (by rw [← HU.out]; exact HUK.out)]; exact HO.out, HB.out⟩
          case measure => simp [intOf]; omega
        · have HC := Lib.hid hc
          have hc2 : ((s[k].toNat : Int) == 32) = false := by simpa using hc
          have hc3 : ((s[k].toNat : Int) != 32) = true := by simpa using hc
          clear hc huk
          go_wp2_with fail
          go_roundw
          case rel => exact ⟨k + 1, u, A, m, cc, by go_num, by omega, by omega, by rw [spS_no hlt HC.out]; exact HU.out, rfl, by rw [if_neg (by omega), HUK.out], by omega, by rw [spS_no hlt HC.out]; exact HO.out, HB.out⟩
          case measure => simp [intOf]; omega
      · rw [if_neg huk]
        have huk' : u < k := by omega
        have j1 : (u : Int) ≤ (k : Int) := by omega
        by_cases hc : (s[k].toNat : Int) = 32
        · have HC := Lib.hid hc
          have hc2 : ((s[k].toNat : Int) == 32) = true := by simpa using hc
          clear hc huk
          go_wp2_with (at_builtin; refine list_appendT rfl (.tmp 21) (.tmp 26) rfl w.heap.size A m cc ((spS 32 s k).1.filter full) (s.extract u k) wr.heap.size rfl (by simp [Act.eval, Act.put]) (by simp [Act.eval, Act.put]) (by exact HO.out) (by omega) (by exact HB.out.size) ?_; intro A2 c2 w2 ho2 hb2)
          go_roundw
          case rel => exact ⟨k + 1, k + 1, A2, m + 1, c2, by go_num, by omega, Nat.le_refl _, by rw [spS_yes hlt HC.out], rfl, by rw [if_pos rfl], by omega, by rw [spW_step hlt HC.out (by rw [← HU.out]; exact huk'), ← HU.out]; exact ho2, HB.out.trans hb2⟩
          case measure => simp [intOf]; omega
        · have HC := Lib.hid hc
          have hc2 : ((s[k].toNat : Int) == 32) = false := by simpa using hc
          have hc3 : ((s[k].toNat : Int) != 32) = true := by simpa using hc
          clear hc huk
          go_wp2_with fail
          go_roundw
          case rel => exact ⟨k + 1, u, A, m, cc, by go_num, by omega, by omega, by rw [spS_no hlt HC.out]; exact HU.out, rfl, by rw [if_neg (by omega)], by omega, by rw [spS_no hlt HC.out]; exact HO.out, HB.out⟩
          case measure => simp [intOf]; omega
    · have hke : k = s.size := by omega
      have j0 : ¬ ((k : Int) < (s.size : Int)) := by omega
      by_cases huk : u = k
      · rw [if_pos huk]
        have e5 := Lib.hid (spW_end0 (s := s) (by rw [← hke, ← HU.out]; exact huk))
        have HK := Lib.hid hke
        clear hke huk
        go_wp2_with fail
        go_ret
        have e := HK.out
        subst e
        have e4 := HO.out
        rw [← e5.out] at e4
        have e3 := e4.len
        rw [e3]
        exact ⟨A, cc, rfl, e4, HB.out⟩
      · rw [if_neg huk]
        have e5 := Lib.hid (spW_end (s := s) (by rw [← hke, ← HU.out]; omega))
        have HK := Lib.hid hke
        have j1 : (u : Int) ≤ (s.size : Int) := by omega
        clear hke huk
        go_wp2_with (at_builtin; refine list_appendT rfl (.tmp 41) (.tmp 45) rfl w.heap.size A m cc ((spS 32 s k).1.filter full) (s.extract u s.size) wr.heap.size rfl (by simp [Act.eval, Act.put]) (by simp [Act.eval, Act.put]) (by exact HO.out) (by omega) (by exact HB.out.size) ?_; intro A2 c2 w2 ho2 hb2)
        go_ret
        have e := HK.out
        subst e
        rw [HU.out, ← e5.out] at ho2
        have e3 := ho2.len
        rw [e3]
        exact ⟨A2, c2, rfl, ho2, HB.out.trans hb2⟩
set_option maxRecDepth 100000 in
set_option maxHeartbeats 1000000 in
theorem FnExactSplitWords_walk (s : ByteArray) (w : World) (h : s.size ≤ maxLen) : Calls Try.prog 7 #[.string s] w fun e w' => e = .returned (.bool true) ∧ Below w.heap.size w w' := by
  unfold maxLen at h
  by_cases hs : 1048576 < s.size
  · have j0 : (1048576 : Int) < (s.size : Int) := by omega
    go_enter Try.func7, Try.ntmps7
    go_wp2_with fail
    go_ret
    exact ⟨rfl, Below.refl _ _⟩
  have hs' : s.size ≤ 1048576 := by omega
  have j0 : ¬ ((1048576 : Int) < (s.size : Int)) := by omega
  have hln := spWords_len s
  go_enter Try.func7, Try.ntmps7
  go_wp2_with fail
  refine (specSplitWords_any s _ hs').mono ?_
  rintro e w1 ⟨A0, c0, rfl, o0, b1⟩
  have O0 := Lib.hid o0
  have B1 := Lib.hid b1
  clear o0 b1
  go_wp2_with fail
  refine (SplitWords_any s _ hs').mono ?_
  rintro e w2 ⟨A1, c1, rfl, o1, b2⟩
  have J0 := Lib.hid O0.out.ints
  have I1 := Lib.hid o1.ints
  have O1 := Lib.hid o1
  have C2 := Lib.hid b2
  have S2 := b2.size
  clear o1 b2
  go_wp2_with fail
  refine (eqStringS_is _ _ _ _ _ _ _ _ (spWords s) (spWords s) true (ret_eqT rfl) _ I1.out (J0.out.sub C2.out)).mono ?_
  rintro e w3 ⟨rfl, m3, rfl⟩
  go_wp2_with fail
  refine (markStringS_any w1.heap.size A1 (spWords s).length c1 (spWords s) 1 _ (O1.out.drewN m3) (by simpa using S2) (by omega) (by omega) (by omega)).mono ?_
  rintro e w4 ⟨rfl, o4, b4⟩
  have I4 := Lib.hid o4.ints
  have C4 := Lib.hid ((below_drewN C2.out m3).trans b4)
  clear o4 b4 S2
  go_wp2_with fail
  refine (heldStringS_any A1 (spWords s).length c1 1 _ I4.out (by omega) (by omega) (by omega)).mono ?_
  rintro e w5 ⟨rfl, b5⟩
  have C5 := Lib.hid (C4.out.trans (b5.mono C4.out.size))
  have D5 := Lib.hid b5
  clear b5
  go_wp2_with fail
  refine (SplitWords_any s _ hs').mono ?_
  rintro e w6 ⟨A6, c6, rfl, o6, b6⟩
  have I6 := Lib.hid o6.ints
  have C6 := Lib.hid (C5.out.trans (b6.mono C5.out.size))
  have D6 := Lib.hid (sub_step b6 D5.out rfl)
  clear b6 o6
  go_wp2_with fail
  refine (eqStringS_is _ _ _ _ _ _ _ _ (spWords s) (spWords s) true (ret_eqT rfl) _ I6.out (J0.out.sub C6.out)).mono ?_
  rintro e w7 ⟨rfl, m7, rfl⟩
  go_wp2_with fail
  refine (heldStringS_any A1 (spWords s).length c1 1 _ ((I4.out.sub D6.out).drewN m7) (by omega) (by omega) (by omega)).mono ?_
  rintro e w8 ⟨rfl, b8⟩
  go_wp2_with fail
  go_ret
  exact ⟨rfl, B1.out.trans (((below_drewN C6.out m7).trans (b8.mono C6.out.size)).mono B1.out.size)⟩
end Go.Proofs.Ytnanaldolnehiaa
