/-
  Lists of bytes of the call's own, also those made of a text: a text or bytes put behind them, read back as a text. The bytes of a packed list.
-/
import Derived.Test.YtnanaldolnehiaaRunsOf
import Derived.Test.YtnanaldolnehiaaCks
import Derived.Lib.AppendStr
import Derived.Laws.IdiomStrings
import Derived.Laws.Append
set_option linter.unusedSimpArgs false
set_option linter.unusedVariables false
namespace Go.Proofs.Ytnanaldolnehiaa
open Go.ChangeShapes Go.WideShapes Go.RowKit Go.Deep

def byC (zs : List UInt8) : List Value := zs.map fun b : UInt8 => Value.int .u8 (b.toNat : Int)
theorem byC_len (zs : List UInt8) : (byC zs).length = zs.length := by simp [byC]
theorem byC_app (a b : List UInt8) : byC (a ++ b) = byC a ++ byC b := by simp [byC]
theorem byC_one (zs : List UInt8) : ∀ u ∈ byC zs, u.oneCell' = true := by
  intro u hu
  simp only [byC, List.mem_map] at hu
  obtain ⟨b, _, rfl⟩ := hu
  rfl
/-- Bytes of the call's own whose row bears a mark behind its end (they came of a text). -/
def OwnM (w : World) (base : Nat) (A : Option Addr) (n c : Nat) (zs : List UInt8) : Prop :=
  zs.length = n ∧ n ≤ c ∧ c ≤ 9223372036854775807 ∧ ∃ g cur fz, A = some ⟨g, 0, none⟩ ∧ base ≤ g ∧ w.heap[g]? = some (.cells cur 5 fz) ∧ c ≤ fz.1 ∧ cur.size = c ∧ cur.toList.take n = byC zs
/-- Either kind. -/
def OwnE (w : World) (base : Nat) (A : Option Addr) (n c : Nat) (zs : List UInt8) : Prop := OwnB w base A n c zs ∨ OwnM w base A n c zs
section
variable {w w' : World} {base n c : Nat} {A : Option Addr} {zs : List UInt8}
theorem OwnE.len (h : OwnE w base A n c zs) : zs.length = n := by
  rcases h with h | h
  · exact h.1
  · exact h.1
theorem OwnE.form (h : OwnE w base A n c zs) : (A = none ∧ n = 0 ∧ c = 0) ∨ ∃ g, A = some ⟨g, 0, none⟩ ∧ base ≤ g ∧ g < w.heap.size := by
  rcases h with h | ⟨_, _, _, g, cur, fz, hA, hb, hg, _⟩
  · exact h.form
  · exact .inr ⟨g, hA, hb, (Array.getElem?_eq_some_iff.1 hg).1⟩
theorem OwnE.block (h : OwnE w base A n c zs) {g : Nat} (e : (Value.slice A n c).ownBlock = some g) : base ≤ g ∧ g < w.heap.size := by
  rcases h.form with ⟨rfl, _⟩ | ⟨g', rfl, h1, h2⟩
  · cases e
  · simp only [Value.ownBlock, Option.some.injEq] at e
    subst e
    exact ⟨h1, h2⟩
theorem OwnE.kept (h : OwnE w base A n c zs) {row : Option Nat} (hg : w.grownBy w' row) (hne : ∀ g, row = some g → g < base ∨ A ≠ some ⟨g, 0, none⟩) : OwnE w' base A n c zs := by
  rcases h with h | ⟨h1, h2, h3, g, cur, fz, hA, hb, hh, h4⟩
  · exact .inl (h.kept hg hne)
  · refine .inr ⟨h1, h2, h3, g, cur, fz, hA, hb, ?_, h4⟩
    rw [hg.block g (Array.getElem?_eq_some_iff.1 hh).1 (fun e => by
      rcases hne g e.symm with h5 | h5
      · omega
      · exact h5 hA)]
    exact hh
theorem OwnE.below {B : Nat} (h : OwnE w base A n c zs) (hb : Below B w w') (hB : w.heap.size ≤ B) : OwnE w' base A n c zs := h.kept (grown_of_below hb hB) (fun g e => by cases e)
theorem OwnE.alloc (h : OwnE w base A n c zs) (o : Obj) : OwnE (w.alloc o) base A n c zs := h.below (B := w.heap.size) ((Below.refl _ _).alloc (Nat.le_refl _) o) (Nat.le_refl _)
theorem OwnE.drewN (h : OwnE w base A n c zs) (k : Nat) : OwnE (w.drewN k) base A n c zs := h
theorem OwnE.lower (h : OwnE w base A n c zs) {b : Nat} (hb : b ≤ base) : OwnE w b A n c zs := by
  rcases h with h | ⟨h1, h2, h3, g, cur, fz, hA, hg, h4⟩
  · refine .inl ⟨h.1, h.2.1, h.2.2.1, h.row.1, ?_⟩
    rcases h.row.2 with h5 | ⟨g, cap, cur, e, h5, h6⟩
    · exact .inl h5
    · exact .inr ⟨g, cap, cur, e, by omega, h6⟩
  · exact .inr ⟨h1, h2, h3, g, cur, fz, hA, by omega, h4⟩
theorem OwnE.byte {g : Nat} (h : OwnE w base (some ⟨g, 0, none⟩) n c zs) (j : Nat) (hj : j < zs.length) : w.cell? ((⟨g, 0, none⟩ : Addr).add j) = some (.int .u8 ((zs[j]).toNat : Int)) := by
  rcases h with h | ⟨h1, h2, h3, g', cur, fz, hA, hb, hg, h4, h5, h6⟩
  · exact h.byte j hj
  · cases hA
    rw [add_plain, Nat.zero_add]
    have e : (cur.toList.take n)[j]? = (byC zs)[j]? := by rw [h6]
    rw [List.getElem?_take, if_pos (by omega)] at e
    simp only [byC, List.getElem?_map, List.getElem?_eq_getElem hj, Option.map_some] at e
    simp only [World.cell?, hg]
    simpa using e
end
/-- 'string(b)'. -/
theorem conv_ownE {w : World} {base n c : Nat} {A : Option Addr} {zs : List UInt8} (h : OwnE w base A n c zs) (hn : 0 < n) : (convert 84 9 (.slice A n c)).run Try.prog w = .ok (.string ⟨zs.toArray⟩) w := by
  rcases h.form with ⟨_, h1, _⟩ | ⟨g, rfl, _, _⟩
  · omega
  · have hl := h.len
    have := run_convert_bytes_back (P := Try.prog) w 84 9 5 ⟨g, 0, none⟩ c zs Try.underlying84 Try.underlying5 Try.underlying9 (fun j hj => h.byte j hj)
    rw [hl] at this
    exact this
/-- '[]byte(s)'. -/
theorem conv_str (zs : List UInt8) (w : World) (hz : zs.length ≤ 4294967296) : ∃ c o, (convert 9 84 (.string ⟨zs.toArray⟩)).run Try.prog w = .ok (.slice (some ⟨w.heap.size, 0, none⟩) zs.length c) (w.drew.alloc o) ∧ OwnE (w.drew.alloc o) w.heap.size (some ⟨w.heap.size, 0, none⟩) zs.length c zs := by
  have hsz : (⟨zs.toArray⟩ : ByteArray).size = zs.length := rfl
  have hge := grownCap_ge w zs.length 0 5
  have hle := grownCap_le_maxLen w zs.length 0 5 (by unfold maxLen; omega)
  unfold maxLen at hle
  have hr := run_bytes_of_string (P := Try.prog) w 9 84 5 (⟨zs.toArray⟩ : ByteArray) Try.underlying9 Try.underlying84 Try.underlying5
  rw [hsz] at hr
  have hbs : (bytesRow ⟨zs.toArray⟩ (grownCap w zs.length 0 5)).size = grownCap w zs.length 0 5 := by
    simp [bytesRow]
    show zs.length + (grownCap w zs.length 0 5 - zs.length) = _
    omega
  refine ⟨_, _, hr, .inr ⟨rfl, hge, by omega, w.heap.size, _, _, rfl, Nat.le_refl _, heap_alloc_new w.drew _, by rw [hbs]; exact Nat.le_refl _, hbs, ?_⟩⟩
  simp [bytesRow, byC]
/-- Cells stored into a row ahead of its mark. -/
theorem storeM (g o : Nat) (t : TypeId) (fz : Nat × Nat) (vs : List Value) : ∀ (i : Nat) (cur : Array Value) (w : World), w.heap[g]? = some (.cells cur t fz) → cur.size ≤ fz.1 → o + i + vs.length ≤ cur.size → (∀ v ∈ vs, v.oneCell' = true) →
    (storeCells ⟨g, o, none⟩ vs i).run Try.prog w = .ok () (w.setRow g (cur.toList.take (o + i) ++ vs ++ cur.toList.drop (o + i + vs.length)).toArray) := by
  induction vs with
  | nil =>
    intro i cur w hg _ _ _
    simp only [storeCells, List.append_nil, List.length_nil, Nat.add_zero, List.take_append_drop, Array.toArray_toList]
    rw [setRow_self w g cur t fz hg]
    rfl
  | cons v rest ihv =>
    intro i cur w hg hz hl h1
    have hl2 : o + i + (rest.length + 1) ≤ cur.size := by simpa using hl
    have hi : o + i < cur.size := by omega
    have c : w.cell? ⟨g, o + i, none⟩ = some cur[o + i] := by simp [World.cell?, hg, hi]
    have f : w.frozen? ⟨g, o + i, none⟩ = false := by
      obtain ⟨a, b⟩ := fz
      simp only at hz
      simp [World.frozen?, hg]
      omega
    have hst : (store ((⟨g, o, none⟩ : Addr).add i) v).run Try.prog w = .ok () (w.setRow g (cur.setIfInBounds (o + i) v)) := by
      rw [add_plain, run_store Try.prog w _ v _ (h1 v List.mem_cons_self), c]
      simp [f, setCell_eq_setRow w g (o + i) cur t fz v hg]
    have ih := ihv (i + 1) (cur.setIfInBounds (o + i) v) (w.setRow g (cur.setIfInBounds (o + i) v)) (setRow_heap w g cur _ t _ hg) (by simpa using hz) (by simp; omega) (fun x hx => h1 x (List.mem_cons_of_mem _ hx))
    simp only [storeCells, Sem.run_bind, hst, Result.andThen_ok, ih, setRow_setRow]
    congr 3
    have e := list_seg_step cur.toList (o + i) v rest (by simpa using hl2)
    simpa [Array.toList_setIfInBounds, Nat.add_assoc] using e
theorem info8p : ∃ i0, Try.prog.info? 5 = some i0 ∧ i0.zero = some (.int .u8 0) ∧ i0.size = 1 ∧ i0.bytes = 1 := by
  obtain ⟨i0, hi, hz0, hz1, hz2⟩ := info_parts info8
  exact ⟨i0, hi, hz0, hz1, hz2⟩
theorem ownE_grown (w : World) (base m n cap : Nat) (zs ys : List UInt8) (hm : zs.length = n) (hy : ys.length = m) (hn : n + m ≤ 8589934592) (hbase : base ≤ w.heap.size) :
    OwnE (w.drew.alloc (.cells ((byC zs).toArray ++ (byC ys).toArray ++ Builtin.zeroCells (Value.int .u8 0).cells (grownCap w (n + m) cap 5 - (n + m))) 5)) base (some ⟨w.heap.size, 0, none⟩) (n + m) (grownCap w (n + m) cap 5) (zs ++ ys) := by
  have hge := grownCap_ge w (n + m) cap 5
  have hle := grownCap_le_maxLen w (n + m) cap 5 (by unfold maxLen; omega)
  have hle' := hle
  unfold maxLen at hle'
  refine .inl ⟨by simp; omega, hge, by omega, by simp; omega, .inr ⟨w.heap.size, _, _, rfl, hbase, heap_alloc_new w.drew _, hge, hle, ?_, ?_⟩⟩
  · have hz1 : (Value.int IntKind.u8 0).cells.size = 1 := rfl
    simp only [Array.size_append, List.size_toArray, size_zeroCells, hz1, byC_len]
    omega
  · simp only [Array.toList_append, List.append_assoc]
    rw [← List.append_assoc, ← byC_app]
    refine (List.take_left' ?_).trans rfl
    rw [byC_len, List.length_append]
    omega
theorem ownM_room {w : World} {base g n c m : Nat} {zs ys : List UInt8} {cur : Array Value} {fz : Nat × Nat} (h1 : zs.length = n) (h3 : c ≤ 9223372036854775807) (hb : base ≤ g) (hg : w.heap[g]? = some (.cells cur 5 fz)) (h4 : c ≤ fz.1) (h5 : cur.size = c) (h6 : cur.toList.take n = byC zs) (hy : ys.length = m) (hroom : n + m ≤ c) :
    OwnE (w.setRow g (cur.toList.take n ++ byC ys ++ cur.toList.drop (n + m)).toArray) base (some ⟨g, 0, none⟩) (n + m) c (zs ++ ys) ∧ w.grownBy (w.setRow g (cur.toList.take n ++ byC ys ++ cur.toList.drop (n + m)).toArray) (some g) := by
  refine ⟨.inr ⟨by simp; omega, hroom, h3, g, _, fz, rfl, hb, setRow_heap w g cur _ _ _ hg, h4, ?_, ?_⟩, ⟨rfl, rfl, rfl, by simp, fun k _ hk => setRow_other w g k _ (fun e => hk (by rw [e]))⟩⟩
  · simp only [List.size_toArray, List.length_append, List.length_take, List.length_drop, Array.length_toList, byC_len]
    omega
  · rw [h6, ← byC_app]
    exact List.take_left' (by rw [byC_len, List.length_append]; omega)
/-- 'append(b, s...)', s a text. -/
theorem appendE_str (base : Nat) (ty : TypeId) (A0 : Option Addr) (n c0 : Nat) (zs ys : List UInt8) (w : World) (ho : OwnE w base A0 n c0 zs) (hn : n ≤ 4294967296) (hy : ys.length ≤ 4294967296) (hbase : base ≤ w.heap.size) :
    ∃ A' c' w', (Builtin.append_ #[84, 9] ty #[.slice A0 n c0, .string ⟨ys.toArray⟩]).run Try.prog w = .ok (.slice A' (n + ys.length) c') w' ∧ OwnE w' base A' (n + ys.length) c' (zs ++ ys) ∧ w.grownBy w' (Value.slice A0 n c0).ownBlock := by
  obtain ⟨i0, hi, hz0, hz1, hz2⟩ := info8p
  have hsz : (⟨ys.toArray⟩ : ByteArray).size = ys.length := rfl
  rcases ho with ho | ⟨h1, h2, h3, g, cur, fz, rfl, hb, hg, h4, h5, h6⟩
  · obtain ⟨v', w', hr, h2, h3, h4⟩ := Lib.run_append_own_string (P := Try.prog) w base 84 9 ty 5 i0 Try.underlying84 Try.underlying9 hi hz0 hz1 hz2 _ n _ ho.row (⟨ys.toArray⟩ : ByteArray) (by rw [hsz]; unfold maxLen; omega) (by rw [hsz]; omega) hbase
    rw [hsz] at h2
    have e : zs.map (fun b : UInt8 => Value.int .u8 (b.toNat : Int)) ++ Lib.strCells (⟨ys.toArray⟩ : ByteArray) = (zs ++ ys).map (fun b : UInt8 => Value.int .u8 (b.toNat : Int)) := by simp [Lib.strCells]
    rw [e] at h2
    obtain ⟨A', c', rfl, ho'⟩ := OwnB.of_row h2
    exact ⟨A', c', w', hr, .inl ho', h3⟩
  · have hc : Lib.strCells (⟨ys.toArray⟩ : ByteArray) = byC ys := by simp [Lib.strCells, byC]
    by_cases hroom : n + ys.length ≤ c0
    · obtain ⟨q1, q2⟩ := ownM_room (ys := ys) h1 h3 hb hg h4 h5 h6 rfl hroom
      refine ⟨_, _, _, ?_, q1, q2⟩
      have hf := Lib.run_firstCells_string (P := Try.prog) w 1 (⟨ys.toArray⟩ : ByteArray)
      rw [hc, hsz] at hf
      have hst := storeM g n 5 fz (byC ys) 0 cur w hg (by omega) (by rw [byC_len]; omega) (byC_one ys)
      simp only [Nat.add_zero, byC_len] at hst
      simp [Builtin.append_, run_underlying (P := Try.prog) Try.underlying84, run_underlying (P := Try.prog) Try.underlying9, sizeOf, typeInfo, hi, hz1, Builtin.lenOf, hsz, hroom, hf, Addr.add_lit, hst]
    · have holds : ∀ j u, (byC zs)[j]? = some u → w.cell? ((⟨g, 0, none⟩ : Addr).add j) = some u := by
        intro j u hu
        have hj : j < zs.length := by have := (List.getElem?_eq_some_iff.1 hu).1; rwa [byC_len] at this
        have hE : OwnE w base (some ⟨g, 0, none⟩) n c0 zs := .inr ⟨h1, h2, h3, g, cur, fz, rfl, hb, hg, h4, h5, h6⟩
        rw [hE.byte j hj, ← hu]
        simp [byC, List.getElem?_eq_getElem hj]
      have hr := Lib.run_append_grow_string (P := Try.prog) w 84 9 ty 5 i0 (.int .u8 0) Try.underlying84 Try.underlying9 hi hz0 ⟨g, 0, none⟩ n c0 (byC zs) (by rw [byC_len, hz1]; omega) holds (⟨ys.toArray⟩ : ByteArray) (by rw [hsz]; omega) (by rw [hsz]; omega) (by rw [hz2, hsz]; exact growslice_fits (by omega) (by omega))
      rw [hc, hsz] at hr
      exact ⟨_, _, _, hr, ownE_grown w base ys.length n c0 zs ys h1 rfl (by omega) hbase, ⟨rfl, rfl, rfl, by simp, fun k hk _ => heap_alloc_old w.drew _ hk⟩⟩
/-- 'append(b, t...)', t bytes. -/
theorem appendE_bytes (base : Nat) (ty : TypeId) (A0 : Option Addr) (n c0 : Nat) (zs ys : List UInt8) (w : World) (ad : Addr) (m cy : Nat) (hy : ys.length = m) (hnews : ∀ j u, (byC ys)[j]? = some u → w.cell? (ad.add j) = some u) (ho : OwnE w base A0 n c0 zs) (hn : n ≤ 4294967296) (hm : m ≤ 4294967296) (hbase : base ≤ w.heap.size) :
    ∃ A' c' w', (Builtin.append_ #[84, 84] ty #[.slice A0 n c0, .slice (some ad) m cy]).run Try.prog w = .ok (.slice A' (n + m) c') w' ∧ OwnE w' base A' (n + m) c' (zs ++ ys) ∧ w.grownBy w' (Value.slice A0 n c0).ownBlock := by
  obtain ⟨i0, hi, hz0, hz1, hz2⟩ := info8p
  rcases ho with ho | ⟨h1, h2, h3, g, cur, fz, rfl, hb, hg, h4, h5, h6⟩
  · obtain ⟨v', w', hr, hown, hgr, -⟩ := run_append_own (P := Try.prog) w base 84 ty 5 i0 _ 1 1 Try.underlying84 hi hz0 hz1 hz2 rfl (by decide) _ n _ ho.row ad m cy (byC ys) (by rw [byC_len]; omega) hnews (byC_one ys) (by unfold maxLen; omega) (by omega) hbase
    have e : zs.map (fun b : UInt8 => Value.int .u8 (b.toNat : Int)) ++ byC ys = (zs ++ ys).map (fun b : UInt8 => Value.int .u8 (b.toNat : Int)) := by simp [byC]
    rw [e] at hown
    obtain ⟨A', c', rfl, ho'⟩ := OwnB.of_row hown
    exact ⟨A', c', w', hr, .inl ho', hgr⟩
  · by_cases hroom : n + m ≤ c0
    · obtain ⟨q1, q2⟩ := ownM_room (ys := ys) h1 h3 hb hg h4 h5 h6 hy hroom
      refine ⟨_, _, _, ?_, q1, q2⟩
      have hf := run_firstCells_some (P := Try.prog) w 1 m ad m cy (byC ys) (by rw [byC_len]; omega) hnews
      have hst := storeM g n 5 fz (byC ys) 0 cur w hg (by omega) (by rw [byC_len]; omega) (byC_one ys)
      simp only [Nat.add_zero, byC_len, hy] at hst
      simp [Builtin.append_, run_underlying (P := Try.prog) Try.underlying84, sizeOf, typeInfo, hi, hz1, Builtin.lenOf, hroom, hf, Addr.add_lit, hst]
    · have holds : ∀ j u, (byC zs)[j]? = some u → w.cell? ((⟨g, 0, none⟩ : Addr).add j) = some u := by
        intro j u hu
        have hj : j < zs.length := by have := (List.getElem?_eq_some_iff.1 hu).1; rwa [byC_len] at this
        have hE : OwnE w base (some ⟨g, 0, none⟩) n c0 zs := .inr ⟨h1, h2, h3, g, cur, fz, rfl, hb, hg, h4, h5, h6⟩
        rw [hE.byte j hj, ← hu]
        simp [byC, List.getElem?_eq_getElem hj]
      have hr := run_append_grow (P := Try.prog) w 84 ty 5 i0 (.int .u8 0) Try.underlying84 hi hz0 ⟨g, 0, none⟩ n c0 (byC zs) (by rw [byC_len, hz1]; omega) holds ad m cy (byC ys) (by rw [byC_len, hz1]; omega) hnews (by omega) (by omega) (by rw [hz2]; exact growslice_fits (by omega) (by omega))
      exact ⟨_, _, _, hr, ownE_grown w base m n c0 zs ys h1 hy (by omega) hbase, ⟨rfl, rfl, rfl, by simp, fun k hk _ => heap_alloc_old w.drew _ hk⟩⟩
/-- .. at the operation, in a plain region. -/
theorem list_appendES {ops : Array Oper} {rest : List Oper} {o : Oper} {a : Act} {Q : Exit → Act → World → Prop} {w : World} (hgd : o.guard = none) (s x : Operand)
    (hop : o.op = .call { callee := .builtin .append, args := #[s, x], argTypes := #[84, 9] })
    (base : Nat) (A0 : Option Addr) (n c0 : Nat) (zs ys : List UInt8) (hs : a.eval s = .slice A0 n c0) (hx : a.eval x = .string ⟨ys.toArray⟩) (ho : OwnE w base A0 n c0 zs) (hn : n ≤ 4294967296) (hy : ys.length ≤ 4294967296) (hbase : base ≤ w.heap.size)
    (h : ∀ A' c' w', OwnE w' base A' (n + ys.length) c' (zs ++ ys) → Below base w w' → wpList Try.prog ops Q rest (a.put o.dst (.slice A' (n + ys.length) c')) w') : wpList Try.prog ops Q (o :: rest) a w := by
  refine wpList_plain hgd fun K hK => ?_
  obtain ⟨A', c', w', hrun, ho', hg⟩ := appendE_str base o.type A0 n c0 zs ys w ho hn hy hbase
  unfold Oper.wp
  simp only [execOp, hop, resolve, invoke, builtin, Sem.run_bind, Sem.run_pure, Result.andThen_ok, List.map_toArray, List.map_cons, List.map_nil, hs, hx, hrun]
  exact hK _ _ (h A' c' w' ho' ((Below.refl _ _).grown hg hbase (fun g e => (ho.block e).1)))
theorem list_appendEB {ops : Array Oper} {rest : List Oper} {o : Oper} {a : Act} {Q : Exit → Act → World → Prop} {w : World} (hgd : o.guard = none) (s x : Operand)
    (hop : o.op = .call { callee := .builtin .append, args := #[s, x], argTypes := #[84, 84] })
    (base : Nat) (A0 : Option Addr) (n c0 : Nat) (zs ys : List UInt8) (ad : Addr) (m cy : Nat) (hs : a.eval s = .slice A0 n c0) (hx : a.eval x = .slice (some ad) m cy) (hy : ys.length = m) (hnews : ∀ j u, (byC ys)[j]? = some u → w.cell? (ad.add j) = some u) (ho : OwnE w base A0 n c0 zs) (hn : n ≤ 4294967296) (hm : m ≤ 4294967296) (hbase : base ≤ w.heap.size)
    (h : ∀ A' c' w', OwnE w' base A' (n + m) c' (zs ++ ys) → Below base w w' → wpList Try.prog ops Q rest (a.put o.dst (.slice A' (n + m) c')) w') : wpList Try.prog ops Q (o :: rest) a w := by
  refine wpList_plain hgd fun K hK => ?_
  obtain ⟨A', c', w', hrun, ho', hg⟩ := appendE_bytes base o.type A0 n c0 zs ys w ad m cy hy hnews ho hn hm hbase
  unfold Oper.wp
  simp only [execOp, hop, resolve, invoke, builtin, Sem.run_bind, Sem.run_pure, Result.andThen_ok, List.map_toArray, List.map_cons, List.map_nil, hs, hx, hrun]
  exact hK _ _ (h A' c' w' ho' ((Below.refl _ _).grown hg hbase (fun g e => (ho.block e).1)))
/-- .. in a region that draws. -/
theorem step_appendEB {ops : Array Oper} {o : Oper} {a : Act} {K : Act → World → Prop} {Q : Exit → Act → World → Prop} {E : Prop} {w : World} (hgd : o.guard = none) (s x : Operand)
    (hop : o.op = .call { callee := .builtin .append, args := #[s, x], argTypes := #[84, 84] })
    (base : Nat) (A0 : Option Addr) (n c0 : Nat) (zs ys : List UInt8) (ad : Addr) (m cy : Nat) (hs : a.eval s = .slice A0 n c0) (hx : a.eval x = .slice (some ad) m cy) (hy : ys.length = m) (hnews : ∀ j u, (byC ys)[j]? = some u → w.cell? (ad.add j) = some u) (ho : OwnE w base A0 n c0 zs) (hn : n ≤ 4294967296) (hm : m ≤ 4294967296) (hbase : base ≤ w.heap.size)
    (h : ∀ A' c' w', OwnE w' base A' (n + m) c' (zs ++ ys) → w.grownBy w' (Value.slice A0 n c0).ownBlock → K (a.put o.dst (.slice A' (n + m) c')) w') :
    if Region.wanted o (yielded ops a.tmps) = true then Oper.wp Try.prog o a w K Q else E := by
  have hw : Region.wanted o (yielded ops a.tmps) = true := by simp [Region.wanted, hgd]
  rw [if_pos hw]
  obtain ⟨A', c', w', hrun, ho', hg⟩ := appendE_bytes base o.type A0 n c0 zs ys w ad m cy hy hnews ho hn hm hbase
  unfold Oper.wp
  simp only [execOp, hop, resolve, invoke, builtin, Sem.run_bind, Sem.run_pure, Result.andThen_ok, List.map_toArray, List.map_cons, List.map_nil, hs, hx, hrun]
  exact h A' c' w' ho' hg
theorem OwnB.news {w : World} {base g n c : Nat} {zs : List UInt8} (h : OwnB w base (some ⟨g, 0, none⟩) n c zs) : ∀ j u, (byC zs)[j]? = some u → w.cell? ((⟨g, 0, none⟩ : Addr).add j) = some u := by
  intro j u hu
  have hj : j < zs.length := by have := (List.getElem?_eq_some_iff.1 hu).1; rwa [byC_len] at this
  rw [h.byte j hj, ← hu]
  simp [byC, List.getElem?_eq_getElem hj]
theorem OwnB.some {w : World} {base n c : Nat} {A : Option Addr} {zs : List UInt8} (h : OwnB w base A n c zs) (hn : 0 < n) : ∃ g, A = Option.some ⟨g, 0, none⟩ ∧ base ≤ g ∧ g < w.heap.size := by
  rcases h.form with ⟨_, h1, _⟩ | h1
  · omega
  · exact h1

/-- The bytes of runs. -/
def pkR (rs : List (Int × Int)) : List UInt8 := rs.flatMap fun p => pbs (zz p.1) ++ pbs (zz p.2)
theorem pkR_take {rs : List (Int × Int)} {k : Nat} {p : Int × Int} (h : rs[k]? = some p) : pkR (rs.take (k + 1)) = pkR (rs.take k) ++ pbs (zz p.1) ++ pbs (zz p.2) := by
  rw [List.take_add_one, h]
  simp [pkR]
theorem pbs_len {u : Nat} (h : u ≤ 2000001) : (pbs u).length ≤ 3 := by
  by_cases h1 : u < 128
  · rw [pbs_last h1]; simp
  rw [pbs_step h1]
  by_cases h2 : u / 128 < 128
  · rw [pbs_last h2]; simp
  rw [pbs_step h2]
  rw [pbs_last (by omega)]; simp
theorem zz_le {n : Int} (h0 : -1000000 ≤ n) (h1 : n ≤ 1000000) : zz n ≤ 2000001 := by unfold zz; split <;> omega
theorem pkR_len (rs : List (Int × Int)) (h : ∀ p ∈ rs, (-1000000 ≤ p.1 ∧ p.1 ≤ 1000000) ∧ -1000000 ≤ p.2 ∧ p.2 ≤ 1000000) : (pkR rs).length ≤ 6 * rs.length := by
  induction rs with
  | nil => simp [pkR]
  | cons p rs ih =>
    have h1 := ih fun q hq => h q (List.mem_cons_of_mem _ hq)
    have h2 := h p List.mem_cons_self
    have h3 := pbs_len (zz_le h2.1.1 h2.1.2)
    have h4 := pbs_len (zz_le h2.2.1 h2.2.2)
    simp only [pkR, List.flatMap_cons, List.length_append, List.length_cons] at h1 ⊢
    omega
/-- The bytes of a list, without their checksum. -/
def pkB (l : List Int) : List UInt8 := pbs (zz ((rnOf l).length : Int)) ++ pkR (rnOf l)
theorem rn_items (l : List Int) (h : l.all itm = true) : ∀ p ∈ rnOf l, itm p.1 = true := by
  suffices H : ∀ (n : Nat) (l : List Int), l.length = n → l.all itm = true → ∀ p ∈ rnOf l, itm p.1 = true from H _ l rfl h
  intro n
  induction n with
  | zero =>
    intro l hl _ p hp
    obtain rfl : l = [] := List.eq_nil_of_length_eq_zero hl
    cases hp
  | succ n ih =>
    intro l hl ha p hp
    obtain ⟨m, c, rfl⟩ : ∃ m c, l = m ++ [c] := ⟨l.dropLast, l.getLast (by rintro rfl; cases hl), (List.dropLast_concat_getLast _).symm⟩
    have hm : m.length = n := by simpa using hl
    rw [List.all_append, Bool.and_eq_true] at ha
    have hc : itm c = true := by simpa using ha.2
    have h2 := ih m hm ha.1
    rw [rnOf_snoc] at hp
    rcases Nat.eq_zero_or_pos (rnOf m).length with h0 | h0
    · rw [List.eq_nil_of_length_eq_zero h0, rn_nil] at hp
      simp at hp
      subst hp
      exact hc
    · obtain ⟨ini, v, t, e⟩ := rn_last h0
      rw [e] at h2 hp
      by_cases hv : v = c
      · subst hv
        rw [rn_same] at hp
        rcases List.mem_append.1 hp with h4 | h4
        · exact h2 p (List.mem_append_left _ h4)
        · simp at h4; subst h4; exact hc
      · rw [rn_new _ _ _ _ hv] at hp
        rcases List.mem_append.1 hp with h4 | h4
        · exact h2 p h4
        · simp at h4; subst h4; exact hc
end Go.Proofs.Ytnanaldolnehiaa
