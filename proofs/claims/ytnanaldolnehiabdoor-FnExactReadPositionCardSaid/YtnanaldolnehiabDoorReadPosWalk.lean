/-
  The position with a text form: l04Read, ReadPosition.
-/
import Derived.Test.YtnanaldolnehiabDoorReadPosPlain
import Derived.Deep.Cut
set_option linter.unusedSimpArgs false
set_option linter.unusedVariables false
namespace Go.Proofs.YtnanaldolnehiabDoor
open Go.ChangeShapes Go.WideShapes Go.RowKit Go.Deep

set_option maxRecDepth 100000 in
theorem append_runW (base : Nat) (ty : TypeId) (A0 : Option Addr) (n c0 : Nat) (xs : List Int) (A : Option Addr) (m c B : Nat) (ys : List Int) (w : World) (ho : Own w base A0 n c0 xs) (hy : Ints w B A m c ys) (hn : n ≤ 4294967296) (hm : m ≤ 4294967296) (hbase : base ≤ w.heap.size) :
    ∃ A' c' w', (Builtin.append_ #[22, 22] ty #[.slice A0 n c0, .slice A m c]).run Tryd.prog w = .ok (.slice A' (n + m) c') w' ∧ Own w' base A' (n + m) c' (xs ++ ys) ∧ w.grownBy w' (Value.slice A0 n c0).ownBlock ∧ (A' = A0 ∨ A' = some ⟨w.heap.size, 0, none⟩) := by
  obtain ⟨i0, hi, hz0, hz1, hz2⟩ := info_parts info64
  have hl := hy.len
  rcases A with _ | ad
  · obtain ⟨rfl, rfl⟩ := hy.2.2.2.1 rfl
    obtain rfl : ys = [] := List.eq_nil_of_length_eq_zero hl
    refine ⟨A0, c0, w, ?_, ?_, World.grownBy.refl _ _, .inl rfl⟩
    · simpa using run_append_owned_none (P := Tryd.prog) (w := w) base 22 ty 2 i0 1 Tryd.underlying22 hi _ n _ ho.row
    · simpa using ho
  · obtain ⟨v', w', hr, hown, hg, hnil⟩ := run_append_own (P := Tryd.prog) w base 22 ty 2 i0 _ 1 8 Tryd.underlying22 hi hz0 hz1 hz2 rfl (by decide) _ n _ ho.row ad m c (ys.map (Value.int .i64)) (by simp [hl]) hy.news (ints_oneCell _ _) (by unfold maxLen; omega) (by omega) hbase
    rw [← List.map_append] at hown
    obtain ⟨A', c', rfl, ho'⟩ := Own.of_row hown
    refine ⟨A', c', w', hr, ho', hg, ?_⟩
    rcases ho.row.2 with ⟨e0, hn0⟩ | ⟨g, cap, cur, e0, hbg, hgg, hnc, hcm, hcs, htake⟩
    · by_cases hm0 : m = 0
      · have h1 := hnil.2 ⟨e0, hm0⟩
        left
        injection h1 with h2
        injection e0 with h3
        rw [h2, h3]
      · right
        have hr2 := run_append_nil (P := Tryd.prog) (w := w) 22 ty 2 i0 _ Tryd.underlying22 hi hz0 ad m c (ys.map (Value.int .i64)) (by simp [hl, hz1]) hy.news (by omega) (by omega) (by rw [hz2]; omega)
        rw [← e0] at hr2
        have h1 := hr.symm.trans hr2
        injection h1 with h2
        injection h2
    · by_cases hroom : n + m ≤ cap
      · left
        have hfit : n * i0.size + (ys.map (Value.int .i64)).length ≤ cur.size := by rw [hz1, hcs, List.length_map, hl]; omega
        have hr2 := run_append_room (P := Tryd.prog) (w := w) 22 ty 2 i0 Tryd.underlying22 hi g n cap cur hgg ad m c (ys.map (Value.int .i64)) (by simp [hl, hz1]) hy.news (ints_oneCell _ _) hroom hfit
        rw [← e0] at hr2
        have h1 := hr.symm.trans hr2
        injection h1 with h2
        injection h2 with h3
        injection e0 with h4
        rw [h3, h4]
      · right
        have holds : ∀ j u, (xs.map (Value.int .i64))[j]? = some u → w.cell? ((⟨g, 0, none⟩ : Addr).add j) = some u := ho.row.cells (g := g) (by rw [e0]; rfl)
        have hr2 := run_append_grow (P := Tryd.prog) (w := w) 22 ty 2 i0 _ Tryd.underlying22 hi hz0 ⟨g, 0, none⟩ n cap (xs.map (Value.int .i64)) (by rw [List.length_map, ho.len, hz1]; omega) holds ad m c (ys.map (Value.int .i64)) (by simp [hl, hz1]) hy.news (by omega) (by omega) (growslice_fits (by omega) (by rw [hz2]; omega))
        rw [← e0] at hr2
        have h1 := hr.symm.trans hr2
        injection h1 with h2
        injection h2
theorem list_appendW {ops : Array Oper} {rest : List Oper} {o : Oper} {a : Act} {Q : Exit → Act → World → Prop} {w : World} (hgd : o.guard = none) (s x : Operand)
    (hop : o.op = .call { callee := .builtin .append, args := #[s, x], argTypes := #[22, 22] })
    (base : Nat) (A0 : Option Addr) (n c0 : Nat) (xs : List Int) (A : Option Addr) (m c B : Nat) (ys : List Int) (hs : a.eval s = .slice A0 n c0) (hx : a.eval x = .slice A m c) (ho : Own w base A0 n c0 xs) (hy : Ints w B A m c ys) (hn : n ≤ 4294967296) (hm : m ≤ 4294967296) (hbase : base ≤ w.heap.size)
    (h : ∀ A' c' w', Own w' base A' (n + m) c' (xs ++ ys) → w.grownBy w' (Value.slice A0 n c0).ownBlock → (A' = A0 ∨ A' = some ⟨w.heap.size, 0, none⟩) → wpList Tryd.prog ops Q rest (a.put o.dst (.slice A' (n + m) c')) w') : wpList Tryd.prog ops Q (o :: rest) a w := by
  refine wpList_plain hgd fun K hK => ?_
  obtain ⟨A', c', w', hrun, ho', hg, hw⟩ := append_runW base o.type A0 n c0 xs A m c B ys w ho hy hn hm hbase
  unfold Oper.wp
  simp only [execOp, hop, resolve, invoke, builtin, Sem.run_bind, Sem.run_pure, Result.andThen_ok, List.map_toArray, List.map_cons, List.map_nil, hs, hx, hrun]
  exact hK _ _ (h A' c' w' ho' hg hw)
def Hold (P : Prop) : Prop := P
theorem holdI {P : Program} {ops : Array Oper} {rest : List Oper} {a : Act} {Q : Exit → Act → World → Prop} {w : World} (h : Hold (wpList P ops Q rest a w)) : wpList P ops Q rest a w := h
/-- A position in a block that can be written. -/
def PX (w : World) (g : Nat) (A : Option Addr) (n c : Nat) (A' : Option Addr) (n' c' : Nat) (pl : Int) : Prop := PosAt w g 0 A n c A' n' c' pl ∧ ∀ i, w.frozen? ⟨g, i, none⟩ = false
section
variable {w w' : World} {g : Nat} {A : Option Addr} {n c : Nat} {A' : Option Addr} {n' c' : Nat} {pl : Int}
theorem PX.lt (h : PX w g A n c A' n' c' pl) : g < w.heap.size := h.1.lt
theorem PX.below {B : Nat} (h : PX w g A n c A' n' c' pl) (hb : Below B w w') (hB : g < B) : PX w' g A n c A' n' c' pl :=
  ⟨h.1.below hb hB, fun i => (hb.frozen (p := ⟨g, i, none⟩) hB).trans (h.2 i)⟩
theorem PX.alloc (h : PX w g A n c A' n' c' pl) (o : Obj) : PX (w.alloc o) g A n c A' n' c' pl := h.below ((Below.refl _ _).alloc (Nat.le_refl _) o) h.lt
theorem PX.box (w : World) (t : TypeId) (A : Option Addr) (n c : Nat) (A' : Option Addr) (n' c' : Nat) (pl : Int) : PX (w.alloc (.cells #[.slice A n c, .slice A' n' c', .int .i64 pl] t)) w.heap.size A n c A' n' c' pl :=
  ⟨PosAt.box w t A n c A' n' c' pl, fun i => by rw [frozen?_alloc_cells]; simp [World.frozen?]⟩
theorem PX.set (h : PX w g A n c A' n' c' pl) (C : Option Addr) (m d : Nat) (C' : Option Addr) (m' d' : Nat) (ql : Int) :
    PosAt (((w.setCell ⟨g, 0, none⟩ (.slice C m d)).setCell ⟨g, 1, none⟩ (.slice C' m' d')).setCell ⟨g, 2, none⟩ (.int .i64 ql)) g 0 C m d C' m' d' ql := by
  obtain ⟨h0, h1, h2⟩ := h.1.flat
  have r0 := h.2 0
  have r1 := h.2 1
  have r2 := h.2 2
  refine ⟨?_, ?_, ?_⟩ <;> simp [go_sem, h0, h1, h2]
theorem PX.flat (h : PX w g A n c A' n' c' pl) : w.cell? ⟨g, 0, none⟩ = some (.slice A n c) ∧ w.cell? ⟨g, 1, none⟩ = some (.slice A' n' c') ∧ w.cell? ⟨g, 2, none⟩ = some (.int .i64 pl) ∧ w.frozen? ⟨g, 0, none⟩ = false ∧ w.frozen? ⟨g, 1, none⟩ = false ∧ w.frozen? ⟨g, 2, none⟩ = false :=
  ⟨h.1.flat.1, h.1.flat.2.1, h.1.flat.2.2, h.2 0, h.2 1, h.2 2⟩
end
/-- What a call hands back that makes a position of its own, and whether there is one. -/
def RetQ (N : Nat) (w : World) (zs zs' : List Int) (pl : Int) (b : Bool) (e : Ending) (w' : World) : Prop :=
  ∃ A c A' c' n n', e = .returned (.tuple #[.agg #[.slice A n c, .slice A' n' c', .int .i64 pl], .bool b]) ∧ Own w' w.heap.size A n c zs ∧ Own w' w.heap.size A' n' c' zs' ∧ Apart A A' ∧ n ≤ N ∧ n' ≤ N ∧ Below w.heap.size w w'
theorem named {P : Program} {Q : Exit → Act → World → Prop} {a : Act} {w : World} {c : Code} (K : World → Prop) (hK : K w) (h : ∀ W, K W → c.wp P Q a W) : c.wp P Q a w := h w hK
theorem own_ltP {w : World} {base n c b : Nat} {A : Option Addr} {zs : List Int} (h : Own w base A n c zs) (hb : w.heap.size ≤ b) : A ≠ some ⟨b, 0, none⟩ := by
  rintro rfl
  rcases h.form with ⟨e, _⟩ | ⟨g, e, _, h1⟩
  · cases e
  · injection e with e
    injection e with e
    omega
theorem own_set3 {w : World} {base n c g : Nat} {A : Option Addr} {zs : List Int} (h : Own w base A n c zs) (hg : g < base) (u0 u1 u2 : Value) {b0 : Nat} (hb : b0 ≤ base) :
    Own (((w.setCell ⟨g, 0, none⟩ u0).setCell ⟨g, 1, none⟩ u1).setCell ⟨g, 2, none⟩ u2) b0 A n c zs :=
  (((h.setBelow (p := ⟨g, 0, none⟩) hg u0).setBelow (p := ⟨g, 1, none⟩) hg u1).setBelow (p := ⟨g, 2, none⟩) hg u2).lower hb
theorem sub_set3 {a b : World} {g : Nat} (h : Below a.heap.size a b) (hg : a.heap.size ≤ g) (u0 u1 u2 : Value) :
    Below a.heap.size a (((b.setCell ⟨g, 0, none⟩ u0).setCell ⟨g, 1, none⟩ u1).setCell ⟨g, 2, none⟩ u2) :=
  sub_setCell2 hg (sub_setCell2 hg (sub_setCell2 hg h u0) u1) u2
/-- Behind an append: what lies elsewhere is as it was, and the list that was made is apart. -/
theorem appendW_kept {w w' : World} {base n c m d : Nat} {A A' S : Option Addr} {xs ss : List Int} (ho : Own w base A n c xs) (hs : Own w base S m d ss) (ha : Apart A S) (hg : w.grownBy w' (Value.slice A n c).ownBlock) (hw : A' = A ∨ A' = some ⟨w.heap.size, 0, none⟩) :
    Own w' base S m d ss ∧ Apart A' S := by
  refine ⟨hs.kept hg (fun g e => .inr (fun e2 => ha g (own_block ho e).1 e2)), ?_⟩
  rcases hw with rfl | rfl
  · exact ha
  · rintro g e
    injection e with e
    injection e with e
    subst e
    exact own_ltP hs (Nat.le_refl _)
theorem apart_none (A : Option Addr) : Apart none A := by rintro g e; cases e
theorem own_nilP (w : World) (b : Nat) : Own w b none 0 0 [] := ⟨rfl, by omega, by omega, World.ownsRow_nil w b _ _⟩
theorem l04Read_ret {Post : Ending → World → Prop} {a : Act} {W : World} {g n c n' c' : Nat} {A A' : Option Addr} {pl : Int} {b : Bool} (ha : a.tmps.getD 2 undef = .pointer (some ⟨g, 0, none⟩)) (hb : a.tmps.getD 3 undef = .bool b) (hd : a.defers = []) (hr : PosAt W g 0 A n c A' n' c' pl) (hP : Post (.returned (.tuple #[.agg #[.slice A n c, .slice A' n' c', .int .i64 pl], .bool b])) W) : bodyPost Tryd.prog Tryd.f53 Post Exit.ret a W := by
  obtain ⟨c0, c1, c2⟩ := hr.flat
  refine bodyPost_ret (v := .tuple #[.agg #[.slice A n c, .slice A' n' c', .int .i64 pl], .bool b]) ?_ hd hP
  obtain ⟨tmps, defers⟩ := a
  simp only [Array.getD_eq_getD_getElem?] at ha hb
  simp [results, Tryd.results53, go_sem, ha, hb, c0, c1, c2]
set_option maxRecDepth 100000 in
set_option maxHeartbeats 16000000 in
theorem l04Read_any (s : ByteArray) (hs : s.size ≤ 1048576) (w : World) : Calls Tryd.prog 53 #[.string s] w (RetQ 4294967296 w (rpX s) (rpY s) (rpP s) (rdP s)) := by
  have bw := Lib.hid (show Below w.heap.size w (w.alloc (.cells #[.slice none 0 0, .slice none 0 0, .int .i64 0] 36)) from (by repeat (first | with_reducible exact Below.refl _ _ | with_reducible assumption | with_reducible refine sub_alloc ?_ _ | (with_reducible refine sub_setCell2 ?_ ?_ _; (focus (first | (simp; done) | (simp <;> omega)))) | with_reducible refine sub_drew ?_ | with_reducible refine below_drewN ?_ _ | with_reducible refine sub_step (by assumption) ?_ (by first | rfl | (simp; done)) | exact Below.refl _ _ | assumption | refine sub_alloc ?_ _ | refine sub_setCell ?_ (by simp <;> omega) _ | refine sub_drew ?_ | refine below_drewN ?_ _ | refine sub_step (by assumption) ?_ (by first | rfl | (simp; done)))))
  have Z0 := Lib.hid (PX.box w 36 none 0 0 none 0 0 0)
  have hsz := spAll_size 32 s
  go_enter Tryd.func53, Tryd.ntmps53
  go_wp2_with fail
  refine (l01Split_any s 32 _ hs).mono ?_
  rintro e w1 ⟨B, cb, rfl, o1, b1⟩
  have Z1 := Lib.hid (Z0.out.below b1 (by simp))
  have B1 := Lib.hid (sub_step b1 bw.out rfl)
  have lt1 := Z1.out.lt
  clear b1 Z0 bw
  by_cases h3 : (spAll 32 s).length = 3
  rotate_left
  · have R := Lib.hid (rdP_len h3)
    have j : (((spAll 32 s).length : Int) != 3) = true := by simp; omega
    generalize (spAll 32 s).length = len at *
    clear h3 hsz o1
    obtain ⟨a0, a1, a2, a3, a4, a5⟩ := Z1.out.flat
    go_wp2_with fail
    refine l04Read_ret (g := w.heap.size) (by rfl) (by rfl) (by rfl) (Z1.out.set none 0 0 none 0 0 0) ?_
    rw [R.out]
    obtain ⟨r0, r1, r2⟩ := rp_no R.out
    rw [r0, r1, r2]
    exact ⟨none, 0, none, 0, 0, 0, rfl, own_nilP _ _, own_nilP _ _, apart_none _, Nat.zero_le _, Nat.zero_le _, sub_set3 B1.out (by simp) _ _ _⟩
  rw [h3] at o1 ⊢
  obtain ⟨t0, t1, t2, hl⟩ := three_of h3
  rw [hl] at o1 hsz
  have HL := Lib.hid hl
  have zt0 : t0.size ≤ 1048576 := Nat.le_trans (hsz t0 (by simp)) hs
  have zt1 : t1.size ≤ 1048576 := Nat.le_trans (hsz t1 (by simp)) hs
  have zt2 : t2.size ≤ 1048576 := Nat.le_trans (hsz t2 (by simp)) hs
  clear h3 hl hsz
  obtain ⟨bb, off, rfl, hbb, hc⟩ := o1.ints.at_ (by omega)
  have y0 : w1.cell? ⟨bb, off, none⟩ = some (.string t0) := hc 0 t0 rfl
  have y1 : w1.cell? ⟨bb, off + 1, none⟩ = some (.string t1) := hc 1 t1 rfl
  have y2 : w1.cell? ⟨bb, off + 2, none⟩ = some (.string t2) := hc 2 t2 rfl
  have Y0 := Lib.hid y0
  have Y2 := Lib.hid y2
  clear hc o1 y0 y2
  have hsz := spAll_size 47 t1
  go_wp2_with fail
  refine (l01Split_any t1 47 _ zt1).mono ?_
  rintro e w2 ⟨C, cc, rfl, o2, b2⟩
  have Z2 := Lib.hid (Z1.out.below b2 lt1)
  have B2 := Lib.hid (sub_step b2 B1.out rfl)
  have lt2 := Z2.out.lt
  have y0 := (b2.cell (p := ⟨bb, off, none⟩) hbb).trans Y0.out
  have y2 := (b2.cell (p := ⟨bb, off + 2, none⟩) hbb).trans Y2.out
  have hb2 : bb < w2.heap.size := Nat.lt_of_lt_of_le hbb b2.size
  clear b2 Z1 B1 y1 Y0 Y2
  by_cases h2 : (spAll 47 t1).length = 2
  rotate_left
  · have R := Lib.hid (show rdP s = false by rw [rdP_is HL.out]; simp [rdQ, h2])
    have j : (((spAll 47 t1).length : Int) != 2) = true := by simp; omega
    generalize (spAll 47 t1).length = len at *
    clear h2 hsz o2
    obtain ⟨a0, a1, a2, a3, a4, a5⟩ := Z2.out.flat
    go_wp2_with fail
    refine l04Read_ret (g := w.heap.size) (by rfl) (by rfl) (by rfl) (Z2.out.set none 0 0 none 0 0 0) ?_
    rw [R.out]
    obtain ⟨r0, r1, r2⟩ := rp_no R.out
    rw [r0, r1, r2]
    exact ⟨none, 0, none, 0, 0, 0, rfl, own_nilP _ _, own_nilP _ _, apart_none _, Nat.zero_le _, Nat.zero_le _, sub_set3 B2.out (by simp) _ _ _⟩
  rw [h2] at o2 ⊢
  obtain ⟨u0, u1, hu⟩ : ∃ u0 u1, spAll 47 t1 = [u0, u1] := by
    match hh : spAll 47 t1, h2 with
    | [a, b], _ => exact ⟨a, b, rfl⟩
  rw [hu] at o2 hsz
  have HU := Lib.hid hu
  have zu0 : u0.size ≤ 1048576 := Nat.le_trans (hsz u0 (by simp)) zt1
  have zu1 : u1.size ≤ 1048576 := Nat.le_trans (hsz u1 (by simp)) zt1
  have HQ := Lib.hid (show rdP s = (rdB t0 && rnB u0 && rnB u1 && rnB t2 && decide ((rnL u0).length = (rnL u1).length)) by rw [rdP_is HL.out]; simp [rdQ, sd, hu])
  have HX := Lib.hid (show rdP s = true → rpX s = rnL u0 ++ rnL u1 ∧ rpY s = rnL t2 ∧ rpP s = rdN t0 by
    intro h
    obtain ⟨q0, q1, q2⟩ := rp_yes h
    refine ⟨?_, ?_, ?_⟩
    · rw [q0]; simp [sd, w_, HL.out, hu]
    · rw [q1]; simp [w_, HL.out]
    · rw [q2]; simp [w_, HL.out])
  clear h2 hu hsz
  obtain ⟨bc, ofc, rfl, hbc, hc⟩ := o2.ints.at_ (by omega)
  have x0 : w2.cell? ⟨bc, ofc, none⟩ = some (.string u0) := hc 0 u0 rfl
  have x1 : w2.cell? ⟨bc, ofc + 1, none⟩ = some (.string u1) := hc 1 u1 rfl
  have X0 := Lib.hid x0
  have X1 := Lib.hid x1
  have Y2 := Lib.hid y2
  clear hc o2 x0 x1 y2
  go_wp2_with fail
  refine (l01Number_any t0 zt0 _).mono ?_
  rintro e w3 ⟨rfl, b3⟩
  have Z3 := Lib.hid (Z2.out.below b3 lt2)
  have B3 := Lib.hid (sub_step b3 B2.out rfl)
  have lt3 := Z3.out.lt
  have x0 := (b3.cell (p := ⟨bc, ofc, none⟩) hbc).trans X0.out
  have X1' := Lib.hid ((b3.cell (p := ⟨bc, ofc + 1, none⟩) hbc).trans X1.out)
  have Y2' := Lib.hid ((b3.cell (p := ⟨bb, off + 2, none⟩) hb2).trans Y2.out)
  have hb3 : bb < w3.heap.size := Nat.lt_of_lt_of_le hb2 b3.size
  have hc3 : bc < w3.heap.size := Nat.lt_of_lt_of_le hbc b3.size
  clear b3 Z2 B2 y0 X0 X1 Y2
  go_wp2_with fail
  refine (l04Numbers_any u0 zu0 _).mono ?_
  rintro e w4 ⟨A4, c4, rfl, o4, b4⟩
  have Z4 := Lib.hid (Z3.out.below b4 lt3)
  have B4 := Lib.hid (sub_step b4 B3.out rfl)
  have lt4 := Z4.out.lt
  have O4 := Lib.hid (o4.lower (base' := w.heap.size + 1) (by omega))
  have x1 := (b4.cell (p := ⟨bc, ofc + 1, none⟩) hc3).trans X1'.out
  have Y2 := Lib.hid ((b4.cell (p := ⟨bb, off + 2, none⟩) hb3).trans Y2'.out)
  have hb4 : bb < w4.heap.size := Nat.lt_of_lt_of_le hb3 b4.size
  clear b4 o4 Z3 B3 x0 X1' Y2'
  go_wp2_with fail
  refine (l04Numbers_any u1 zu1 _).mono ?_
  rintro e w5 ⟨A5, c5, rfl, o5, b5⟩
  have Z5 := Lib.hid (Z4.out.below b5 lt4)
  have B5 := Lib.hid (sub_step b5 B4.out rfl)
  have lt5 := Z5.out.lt
  have P4 := Lib.hid (O4.out.below b5 (Nat.le_refl _))
  have O5 := Lib.hid o5
  have y2 := (b5.cell (p := ⟨bb, off + 2, none⟩) hb4).trans Y2.out
  clear b5 o5 Z4 B4 x1 Y2 O4
  go_wp2_with fail
  refine (l04Numbers_any t2 zt2 _).mono ?_
  rintro e w6 ⟨A6, c6, rfl, o6, b6⟩
  have Z6 := Lib.hid (Z5.out.below b6 lt5)
  have B6 := Lib.hid (sub_step b6 B5.out rfl)
  have O4 := Lib.hid (P4.out.below b6 (Nat.le_refl _))
  have I5 := Lib.hid (O5.out.below b6 (Nat.le_refl _)).ints
  have AP := Lib.hid (apart_of P4.out o6 (Nat.le_refl _))
  have O6 := Lib.hid (o6.lower (base' := w.heap.size + 1) (by omega))
  have lt6 := Z6.out.lt
  have n0 := rnL_len u0
  have n1 := rnL_len u1
  have n2 := rnL_len t2
  clear b6 o6 Z5 B5 y2 P4 O5
  cases b0 : rdB t0
  · have R := Lib.hid (show rdP s = false by rw [HQ.out]; simp [b0])
    clear b0 HQ HX
    obtain ⟨a0, a1, a2, a3, a4, a5⟩ := Z6.out.flat
    go_wp2_with fail
    refine l04Read_ret (g := w.heap.size) (by rfl) (by rfl) (by rfl) (Z6.out.set none 0 0 none 0 0 0) ?_
    rw [R.out]
    obtain ⟨r0, r1, r2⟩ := rp_no R.out
    rw [r0, r1, r2]
    exact ⟨none, 0, none, 0, 0, 0, rfl, own_nilP _ _, own_nilP _ _, apart_none _, Nat.zero_le _, Nat.zero_le _, sub_set3 B6.out (by simp) _ _ _⟩
  cases b1 : rnB u0
  · have R := Lib.hid (show rdP s = false by rw [HQ.out]; simp [b1])
    clear b1 HQ HX
    obtain ⟨a0, a1, a2, a3, a4, a5⟩ := Z6.out.flat
    go_wp2_with fail
    refine l04Read_ret (g := w.heap.size) (by rfl) (by rfl) (by rfl) (Z6.out.set none 0 0 none 0 0 0) ?_
    rw [R.out]
    obtain ⟨r0, r1, r2⟩ := rp_no R.out
    rw [r0, r1, r2]
    exact ⟨none, 0, none, 0, 0, 0, rfl, own_nilP _ _, own_nilP _ _, apart_none _, Nat.zero_le _, Nat.zero_le _, sub_set3 B6.out (by simp) _ _ _⟩
  cases b2 : rnB u1
  · have R := Lib.hid (show rdP s = false by rw [HQ.out]; simp [b2])
    clear b2 HQ HX
    obtain ⟨a0, a1, a2, a3, a4, a5⟩ := Z6.out.flat
    go_wp2_with fail
    refine l04Read_ret (g := w.heap.size) (by rfl) (by rfl) (by rfl) (Z6.out.set none 0 0 none 0 0 0) ?_
    rw [R.out]
    obtain ⟨r0, r1, r2⟩ := rp_no R.out
    rw [r0, r1, r2]
    exact ⟨none, 0, none, 0, 0, 0, rfl, own_nilP _ _, own_nilP _ _, apart_none _, Nat.zero_le _, Nat.zero_le _, sub_set3 B6.out (by simp) _ _ _⟩
  cases b3 : rnB t2
  · have R := Lib.hid (show rdP s = false by rw [HQ.out]; simp [b3])
    clear b3 HQ HX
    obtain ⟨a0, a1, a2, a3, a4, a5⟩ := Z6.out.flat
    go_wp2_with fail
    refine l04Read_ret (g := w.heap.size) (by rfl) (by rfl) (by rfl) (Z6.out.set none 0 0 none 0 0 0) ?_
    rw [R.out]
    obtain ⟨r0, r1, r2⟩ := rp_no R.out
    rw [r0, r1, r2]
    exact ⟨none, 0, none, 0, 0, 0, rfl, own_nilP _ _, own_nilP _ _, apart_none _, Nat.zero_le _, Nat.zero_le _, sub_set3 B6.out (by simp) _ _ _⟩
  by_cases hl : (rnL u0).length = (rnL u1).length
  rotate_left
  · have R := Lib.hid (show rdP s = false by rw [HQ.out]; simp [hl])
    have j : (((rnL u0).length : Int) != ((rnL u1).length : Int)) = true := by simp; omega
    clear hl HQ HX
    obtain ⟨a0, a1, a2, a3, a4, a5⟩ := Z6.out.flat
    go_wp2_with fail
    refine l04Read_ret (g := w.heap.size) (by rfl) (by rfl) (by rfl) (Z6.out.set none 0 0 none 0 0 0) ?_
    rw [R.out]
    obtain ⟨r0, r1, r2⟩ := rp_no R.out
    rw [r0, r1, r2]
    exact ⟨none, 0, none, 0, 0, 0, rfl, own_nilP _ _, own_nilP _ _, apart_none _, Nat.zero_le _, Nat.zero_le _, sub_set3 B6.out (by simp) _ _ _⟩
  have R := Lib.hid (show rdP s = true by rw [HQ.out]; simp [b0, b1, b2, b3, hl])
  have j : (((rnL u0).length : Int) != ((rnL u1).length : Int)) = false := by simp; omega
  have V := Lib.hid (HX.out R.out)
  clear b0 b1 b2 b3 HQ HX hl
  go_wp2_with (at_builtin; refine holdI ?_)
  unfold Hold
  refine list_appendW rfl (.tmp 78) (.tmp 79) rfl (w.heap.size + 1) A4 (rnL u0).length c4 (rnL u0) A5 (rnL u1).length c5 _ (rnL u1) (by simp [Act.eval, Act.put]) (by simp [Act.eval, Act.put]) (by exact O4.out) (by exact I5.out) (by omega) (by omega) (by exact lt6) ?_
  intro A7 c7 w7 o7 hg hw
  have K := Lib.hid (appendW_kept O4.out O6.out AP.out hg hw)
  have B7 := Lib.hid (Own.growBelow B6.out O4.out hg (Nat.le_succ _) (by omega))
  have Z7 := Lib.hid (Z6.out.below (Own.growBelow (Below.refl _ _) O4.out hg (Nat.le_refl _) (by exact lt6)) (Nat.lt_succ_self _))
  obtain ⟨a0, a1, a2, a3, a4, a5⟩ := Z7.out.flat
  have O7 := Lib.hid o7
  clear o7 hg hw
  go_wp2_with fail
  refine l04Read_ret (g := w.heap.size) (by rfl) (by rfl) (by rfl) (Z7.out.set A7 _ c7 A6 _ c6 (rdN t0)) ?_
  rw [R.out, V.out.1, V.out.2.1, V.out.2.2]
  exact ⟨A7, c7, A6, c6, _, _, rfl, own_set3 O7.out (Nat.lt_succ_self _) _ _ _ (Nat.le_succ _), own_set3 K.out.1 (Nat.lt_succ_self _) _ _ _ (Nat.le_succ _), K.out.2, by omega, by omega, sub_set3 B7.out (Nat.le_refl _) _ _ _⟩
theorem specReadPosition_ret {Post : Ending → World → Prop} {a : Act} {W : World} {g n c n' c' : Nat} {A A' : Option Addr} {pl : Int} {b : Bool} (ha : a.tmps.getD 4 undef = .pointer (some ⟨g, 0, none⟩)) (hb : a.tmps.getD 5 undef = .bool b) (hd : a.defers = []) (hr : PosAt W g 0 A n c A' n' c' pl) (hP : Post (.returned (.tuple #[.agg #[.slice A n c, .slice A' n' c', .int .i64 pl], .bool b])) W) : bodyPost Tryd.prog Tryd.f21 Post Exit.ret a W := by
  obtain ⟨c0, c1, c2⟩ := hr.flat
  refine bodyPost_ret (v := .tuple #[.agg #[.slice A n c, .slice A' n' c', .int .i64 pl], .bool b]) ?_ hd hP
  obtain ⟨tmps, defers⟩ := a
  simp only [Array.getD_eq_getD_getElem?] at ha hb
  simp [results, Tryd.results21, go_sem, ha, hb, c0, c1, c2]
set_option maxRecDepth 100000 in
set_option maxHeartbeats 16000000 in
theorem specReadPosition_any (p s : Int) (st sk re fe ag : Bool) (c sl : Int) (s0 : ByteArray) (hs : s0.size ≤ 1048576) (w : World) : Calls Tryd.prog 21 #[.agg #[.int .i64 p, .int .i64 s, .bool st, .bool sk, .bool re, .bool fe, .bool ag, .int .i64 c, .int .i64 sl], .string s0] w (RetQ 2097152 w (rqX ⟨p, s, st, sk, re, fe, ag, c, sl⟩ s0) (rqY ⟨p, s, st, sk, re, fe, ag, c, sl⟩ s0) (rqP ⟨p, s, st, sk, re, fe, ag, c, sl⟩ s0) (rqB ⟨p, s, st, sk, re, fe, ag, c, sl⟩ s0)) := by
  have bw := Lib.hid (show Below w.heap.size w ((w.alloc (.cells #[.int .i64 p, .int .i64 s, .bool st, .bool sk, .bool re, .bool fe, .bool ag, .int .i64 c, .int .i64 sl] 39)).alloc (.cells #[.slice none 0 0, .slice none 0 0, .int .i64 0] 36)) from (by repeat (first | with_reducible exact Below.refl _ _ | with_reducible assumption | with_reducible refine sub_alloc ?_ _ | (with_reducible refine sub_setCell2 ?_ ?_ _; (focus (first | (simp; done) | (simp <;> omega)))) | with_reducible refine sub_drew ?_ | with_reducible refine below_drewN ?_ _ | with_reducible refine sub_step (by assumption) ?_ (by first | rfl | (simp; done)) | exact Below.refl _ _ | assumption | refine sub_alloc ?_ _ | refine sub_setCell ?_ (by simp <;> omega) _ | refine sub_drew ?_ | refine below_drewN ?_ _ | refine sub_step (by assumption) ?_ (by first | rfl | (simp; done)))))
  have R0 := Lib.hid ((RuAt.box w 39 p s st sk re fe ag c sl).alloc (.cells #[.slice none 0 0, .slice none 0 0, .int .i64 0] 36))
  have Z0 := PX.box (w.alloc (.cells #[.int .i64 p, .int .i64 s, .bool st, .bool sk, .bool re, .bool fe, .bool ag, .int .i64 c, .int .i64 sl] 39)) 36 none 0 0 none 0 0 0
  have hs1 : (w.alloc (.cells #[.int .i64 p, .int .i64 s, .bool st, .bool sk, .bool re, .bool fe, .bool ag, .int .i64 c, .int .i64 sl] 39)).heap.size = w.heap.size + 1 := by simp
  rw [hs1] at Z0
  have Z0 := Lib.hid Z0
  clear hs1
  go_enter Tryd.func21, Tryd.ntmps21
  go_wp2_with fail
  refine (l04Read_any s0 hs _).mono ?_
  rintro e w1 ⟨A, c1, A', c1', n, n', rfl, o1, o1', ap, hn, hn', b1⟩
  have lt0 : w.heap.size + 2 ≤ w1.heap.size := by have := b1.size; simpa using this
  have hK : RuAt (w1.alloc (.cells #[.slice A n c1, .slice A' n' c1', .int .i64 (rpP s0)] 36)) w.heap.size 0 ⟨p, s, st, sk, re, fe, ag, c, sl⟩ ∧ PX (w1.alloc (.cells #[.slice A n c1, .slice A' n' c1', .int .i64 (rpP s0)] 36)) (w.heap.size + 1) none 0 0 none 0 0 0 ∧ PosAt (w1.alloc (.cells #[.slice A n c1, .slice A' n' c1', .int .i64 (rpP s0)] 36)) w1.heap.size 0 A n c1 A' n' c1' (rpP s0) ∧ Own (w1.alloc (.cells #[.slice A n c1, .slice A' n' c1', .int .i64 (rpP s0)] 36)) (w.heap.size + 2) A n c1 (rpX s0) ∧ Own (w1.alloc (.cells #[.slice A n c1, .slice A' n' c1', .int .i64 (rpP s0)] 36)) (w.heap.size + 2) A' n' c1' (rpY s0) ∧ Below w.heap.size w (w1.alloc (.cells #[.slice A n c1, .slice A' n' c1', .int .i64 (rpP s0)] 36)) := by
    refine ⟨(R0.out.below b1 R0.out.lt).alloc _, (Z0.out.below b1 Z0.out.lt).alloc _, PosAt.box _ _ _ _ _ _ _ _ _, (o1.alloc _).lower (by simp), (o1'.alloc _).lower (by simp), sub_alloc (sub_step b1 bw.out rfl) _⟩
  have HK := Lib.hid hK
  have AP := Lib.hid ap
  clear hK b1 o1 o1' R0 Z0 bw ap
  go_upto_region 2 with fail
  refine named (fun W => RuAt W w.heap.size 0 ⟨p, s, st, sk, re, fe, ag, c, sl⟩ ∧ PX W (w.heap.size + 1) none 0 0 none 0 0 0 ∧ PosAt W w1.heap.size 0 A n c1 A' n' c1' (rpP s0) ∧ Own W (w.heap.size + 2) A n c1 (rpX s0) ∧ Own W (w.heap.size + 2) A' n' c1' (rpY s0) ∧ Below w.heap.size w W) HK.out ?_
  clear HK
  rintro W ⟨ru, zz, pp, ow, ow', bb⟩
  have RU := Lib.hid ru
  have ZZ := Lib.hid zz
  have PP := Lib.hid pp
  have OW := Lib.hid ow
  have OW' := Lib.hid ow'
  have BB := Lib.hid bb
  clear ru zz pp ow ow' bb
  cases hp : rdP s0
  · have R := Lib.hid (show rqB ⟨p, s, st, sk, re, fe, ag, c, sl⟩ s0 = false by rw [rqB, hp]; rfl)
    have HP := Lib.hid hp
    clear hp
    obtain ⟨a0, a1, a2, a3, a4, a5⟩ := ZZ.out.flat
    go_wp2_with fail
    refine specReadPosition_ret (g := w.heap.size + 1) (by rfl) (by rfl) (by rfl) (ZZ.out.set none 0 0 none 0 0 0) ?_
    rw [R.out]
    obtain ⟨r0, r1, r2⟩ := rq_no R.out
    rw [r0, r1, r2]
    exact ⟨none, 0, none, 0, 0, 0, rfl, own_nilP _ _, own_nilP _ _, apart_none _, Nat.zero_le _, Nat.zero_le _, sub_set3 BB.out (by omega) _ _ _⟩
  have HP := Lib.hid hp
  clear hp
  cases ho : okP ⟨p, s, st, sk, re, fe, ag, c, sl⟩ (rpX s0) (rpY s0) (rpP s0)
  · have R := Lib.hid (show rqB ⟨p, s, st, sk, re, fe, ag, c, sl⟩ s0 = false by rw [rqB, HP.out, ho]; rfl)
    have HO := Lib.hid ho
    clear ho
    go_wp2_with fail
    refine (l04Ok_is w.heap.size 0 w1.heap.size 0 ⟨p, s, st, sk, re, fe, ag, c, sl⟩ A A' n c1 n' c1' (rpX s0) (rpY s0) (rpP s0) _ HO.out _ (by exact RU.out) (by exact PP.out) (by exact OW.out.ints) (by exact OW'.out.ints) (by exact hn)).mono ?_
    rintro e w2 ⟨rfl, m1, rfl⟩
    have ZM := Lib.hid (show PX (W.drewN m1) (w.heap.size + 1) none 0 0 none 0 0 0 from ⟨ZZ.out.1.drewN m1, ZZ.out.2⟩)
    have BM := Lib.hid (below_drewN BB.out m1)
    obtain ⟨a0, a1, a2, a3, a4, a5⟩ := ZM.out.flat
    go_wp2_with fail
    refine specReadPosition_ret (g := w.heap.size + 1) (by rfl) (by rfl) (by rfl) (ZM.out.set none 0 0 none 0 0 0) ?_
    rw [R.out]
    obtain ⟨r0, r1, r2⟩ := rq_no R.out
    rw [r0, r1, r2]
    exact ⟨none, 0, none, 0, 0, 0, rfl, own_nilP _ _, own_nilP _ _, apart_none _, Nat.zero_le _, Nat.zero_le _, sub_set3 BM.out (by omega) _ _ _⟩
  have R := Lib.hid (show rqB ⟨p, s, st, sk, re, fe, ag, c, sl⟩ s0 = true by rw [rqB, HP.out, ho]; rfl)
  have HO := Lib.hid ho
  have HL := Lib.hid (okP_lens ho)
  clear ho
  go_wp2_with fail
  refine (l04Ok_is w.heap.size 0 w1.heap.size 0 ⟨p, s, st, sk, re, fe, ag, c, sl⟩ A A' n c1 n' c1' (rpX s0) (rpY s0) (rpP s0) _ HO.out _ (by exact RU.out) (by exact PP.out) (by exact OW.out.ints) (by exact OW'.out.ints) (by exact hn)).mono ?_
  rintro e w2 ⟨rfl, m1, rfl⟩
  have ZM := Lib.hid (show PX (W.drewN m1) (w.heap.size + 1) none 0 0 none 0 0 0 from ⟨ZZ.out.1.drewN m1, ZZ.out.2⟩)
  have BM := Lib.hid (below_drewN BB.out m1)
  have OM := Lib.hid (OW.out.drewN m1)
  have OM' := Lib.hid (OW'.out.drewN m1)
  obtain ⟨p0, p1, p2⟩ := (PP.out.drewN m1).flat
  obtain ⟨a0, a1, a2, a3, a4, a5⟩ := ZM.out.flat
  go_wp2_with fail
  refine specReadPosition_ret (g := w.heap.size + 1) (by rfl) (by rfl) (by rfl) (ZM.out.set A n c1 A' n' c1' (rpP s0)) ?_
  have l1 := OW.out.len
  have l2 := OW'.out.len
  obtain ⟨h1, h2⟩ := HL.out
  obtain ⟨r0, r1, r2⟩ := rq_yes R.out
  rw [R.out, r0, r1, r2]
  exact ⟨A, c1, A', c1', n, n', rfl, own_set3 OM.out (Nat.lt_succ_self _) _ _ _ (by omega), own_set3 OM'.out (Nat.lt_succ_self _) _ _ _ (by omega), AP.out, by omega, by omega, sub_set3 BM.out (by omega) _ _ _⟩
theorem implReadPosition_ret {Post : Ending → World → Prop} {a : Act} {W : World} {g n c n' c' : Nat} {A A' : Option Addr} {pl : Int} {b : Bool} (ha : a.tmps.getD 4 undef = .pointer (some ⟨g, 0, none⟩)) (hb : a.tmps.getD 5 undef = .bool b) (hd : a.defers = []) (hr : PosAt W g 0 A n c A' n' c' pl) (hP : Post (.returned (.tuple #[.agg #[.slice A n c, .slice A' n' c', .int .i64 pl], .bool b])) W) : bodyPost Tryd.prog Tryd.f23 Post Exit.ret a W := by
  obtain ⟨c0, c1, c2⟩ := hr.flat
  refine bodyPost_ret (v := .tuple #[.agg #[.slice A n c, .slice A' n' c', .int .i64 pl], .bool b]) ?_ hd hP
  obtain ⟨tmps, defers⟩ := a
  simp only [Array.getD_eq_getD_getElem?] at ha hb
  simp [results, Tryd.results23, go_sem, ha, hb, c0, c1, c2]
set_option maxRecDepth 100000 in
set_option maxHeartbeats 16000000 in
theorem implReadPosition_any (p s : Int) (st sk re fe ag : Bool) (c sl : Int) (s0 : ByteArray) (hs : s0.size ≤ 1048576) (w : World) (ht : Tab w) : Calls Tryd.prog 23 #[.agg #[.int .i64 p, .int .i64 s, .bool st, .bool sk, .bool re, .bool fe, .bool ag, .int .i64 c, .int .i64 sl], .string s0] w (RetQ 2097152 w (rqX ⟨p, s, st, sk, re, fe, ag, c, sl⟩ s0) (rqY ⟨p, s, st, sk, re, fe, ag, c, sl⟩ s0) (rqP ⟨p, s, st, sk, re, fe, ag, c, sl⟩ s0) (rqB ⟨p, s, st, sk, re, fe, ag, c, sl⟩ s0)) := by
  have HT := Lib.hid ht
  clear ht
  have bw := Lib.hid (show Below w.heap.size w ((w.alloc (.cells #[.int .i64 p, .int .i64 s, .bool st, .bool sk, .bool re, .bool fe, .bool ag, .int .i64 c, .int .i64 sl] 39)).alloc (.cells #[.slice none 0 0, .slice none 0 0, .int .i64 0] 36)) from (by repeat (first | with_reducible exact Below.refl _ _ | with_reducible assumption | with_reducible refine sub_alloc ?_ _ | (with_reducible refine sub_setCell2 ?_ ?_ _; (focus (first | (simp; done) | (simp <;> omega)))) | with_reducible refine sub_drew ?_ | with_reducible refine below_drewN ?_ _ | with_reducible refine sub_step (by assumption) ?_ (by first | rfl | (simp; done)) | exact Below.refl _ _ | assumption | refine sub_alloc ?_ _ | refine sub_setCell ?_ (by simp <;> omega) _ | refine sub_drew ?_ | refine below_drewN ?_ _ | refine sub_step (by assumption) ?_ (by first | rfl | (simp; done)))))
  have R0 := Lib.hid ((RuAt.box w 39 p s st sk re fe ag c sl).alloc (.cells #[.slice none 0 0, .slice none 0 0, .int .i64 0] 36))
  have Z0 := PX.box (w.alloc (.cells #[.int .i64 p, .int .i64 s, .bool st, .bool sk, .bool re, .bool fe, .bool ag, .int .i64 c, .int .i64 sl] 39)) 36 none 0 0 none 0 0 0
  have hs1 : (w.alloc (.cells #[.int .i64 p, .int .i64 s, .bool st, .bool sk, .bool re, .bool fe, .bool ag, .int .i64 c, .int .i64 sl] 39)).heap.size = w.heap.size + 1 := by simp
  rw [hs1] at Z0
  have Z0 := Lib.hid Z0
  have hsz := spAll_size 32 s0
  clear hs1
  go_enter Tryd.func23, Tryd.ntmps23
  go_wp2_with fail
  refine (parts_any s0 _ hs).mono ?_
  rintro e w1 ⟨B, cb, rfl, o1, b1⟩
  have R1 := Lib.hid (R0.out.below b1 R0.out.lt)
  have Z1 := Lib.hid (Z0.out.below b1 Z0.out.lt)
  have B1 := Lib.hid (sub_step b1 bw.out rfl)
  have lt1 := Z1.out.lt
  clear b1 Z0 R0 bw
  by_cases h3 : (spAll 32 s0).length = 3
  rotate_left
  · have R := Lib.hid (show rqB ⟨p, s, st, sk, re, fe, ag, c, sl⟩ s0 = false by rw [rqB, rdP_len h3]; rfl)
    have j : (((spAll 32 s0).length : Int) != 3) = true := by simp; omega
    generalize (spAll 32 s0).length = len at *
    clear h3 hsz o1
    obtain ⟨a0, a1, a2, a3, a4, a5⟩ := Z1.out.flat
    go_wp2_with fail
    refine implReadPosition_ret (g := w.heap.size + 1) (by rfl) (by rfl) (by rfl) (Z1.out.set none 0 0 none 0 0 0) ?_
    rw [R.out]
    obtain ⟨r0, r1, r2⟩ := rq_no R.out
    rw [r0, r1, r2]
    exact ⟨none, 0, none, 0, 0, 0, rfl, own_nilP _ _, own_nilP _ _, apart_none _, Nat.zero_le _, Nat.zero_le _, sub_set3 B1.out (by omega) _ _ _⟩
  rw [h3] at o1 ⊢
  obtain ⟨t0, t1, t2, hl⟩ := three_of h3
  rw [hl] at o1 hsz
  have HL := Lib.hid hl
  have zt0 : t0.size ≤ 1048576 := Nat.le_trans (hsz t0 (by simp)) hs
  have zt1 : t1.size ≤ 1048576 := Nat.le_trans (hsz t1 (by simp)) hs
  have zt2 : t2.size ≤ 1048576 := Nat.le_trans (hsz t2 (by simp)) hs
  clear h3 hl hsz
  obtain ⟨bb, off, rfl, hbb, hc⟩ := o1.ints.at_ (by omega)
  have y0 : w1.cell? ⟨bb, off, none⟩ = some (.string t0) := hc 0 t0 rfl
  have y1 : w1.cell? ⟨bb, off + 1, none⟩ = some (.string t1) := hc 1 t1 rfl
  have y2 : w1.cell? ⟨bb, off + 2, none⟩ = some (.string t2) := hc 2 t2 rfl
  have Y1 := Lib.hid y1
  have Y2 := Lib.hid y2
  clear hc o1 y1 y2
  go_wp2_with fail
  refine (implRead_any t0 zt0 _ (by exact HT.out.below B1.out (Nat.le_refl _))).mono ?_
  rintro e w2 ⟨rfl, b2⟩
  have R2 := Lib.hid (R1.out.below b2 R1.out.lt)
  have Z2 := Lib.hid (Z1.out.below b2 Z1.out.lt)
  have B2 := Lib.hid (sub_step b2 B1.out rfl)
  have y1 := (b2.cell (p := ⟨bb, off + 1, none⟩) hbb).trans Y1.out
  have Y2' := Lib.hid ((b2.cell (p := ⟨bb, off + 2, none⟩) hbb).trans Y2.out)
  have hb2 : bb < w2.heap.size := Nat.lt_of_lt_of_le hbb b2.size
  clear b2 Z1 B1 R1 y0 Y1 Y2
  go_wp2_with fail
  refine (cut_any t1 47 _ zt1).mono ?_
  rintro e w3 ⟨hcut, m3, rfl⟩
  have R3 := Lib.hid (show RuAt (w2.drewN m3) w.heap.size 0 ⟨p, s, st, sk, re, fe, ag, c, sl⟩ from R2.out)
  have Z3 := Lib.hid (show PX (w2.drewN m3) (w.heap.size + 1) none 0 0 none 0 0 0 from ⟨Z2.out.1.drewN m3, Z2.out.2⟩)
  have B3 := Lib.hid (below_drewN B2.out m3)
  have Y2 := Lib.hid (show (w2.drewN m3).cell? ⟨bb, off + 2, none⟩ = some (.string t2) from Y2'.out)
  have hb3 : bb < (w2.drewN m3).heap.size := hb2
  have lt3 : w.heap.size + 1 < (w2.drewN m3).heap.size := Z3.out.lt
  obtain ⟨w3, hw3⟩ : ∃ x, x = w2.drewN m3 := ⟨_, rfl⟩
  rw [← hw3] at R3 Z3 B3 Y2 hb3 lt3 ⊢
  clear hw3 Z2 B2 R2 Y2' hb2 y1
  rcases hcut with ⟨k, hk, hno, hyes, rfl⟩ | ⟨hno, rfl⟩
  · have HN := Lib.hid hno
    have HY := Lib.hid hyes
    clear hno hyes
    generalize hu0 : t1.extract 0 k = u0 at *
    generalize hu1 : t1.extract (k + 1) t1.size = u1 at *
    have HU0 := Lib.hid hu0
    have HU1 := Lib.hid hu1
    have zu0 : u0.size ≤ 1048576 := by rw [← hu0]; rw [ByteArray.size_extract]; omega
    have zu1 : u1.size ≤ 1048576 := by rw [← hu1]; rw [ByteArray.size_extract]; omega
    clear hu0 hu1
    go_wp2_with fail
    refine (readNumbers_any u0 zu0 _ (by exact HT.out.below B3.out (Nat.le_refl _))).mono ?_
    rintro e w4 ⟨A4, c4, rfl, o4, b4⟩
    have R4 := Lib.hid (R3.out.below b4 R3.out.lt)
    have Z4 := Lib.hid (Z3.out.below b4 Z3.out.lt)
    have B4 := Lib.hid (sub_step b4 B3.out rfl)
    have O4 := Lib.hid (o4.lower (base' := w.heap.size + 2) (by omega))
    have Y2' := Lib.hid ((b4.cell (p := ⟨bb, off + 2, none⟩) hb3).trans Y2.out)
    have hb4 : bb < w4.heap.size := Nat.lt_of_lt_of_le hb3 b4.size
    have lt4 := Z4.out.lt
    clear b4 o4 Z3 B3 R3 Y2
    go_wp2_with fail
    refine (readNumbers_any u1 zu1 _ (by exact HT.out.below B4.out (Nat.le_refl _))).mono ?_
    rintro e w5 ⟨A5, c5, rfl, o5, b5⟩
    have R5 := Lib.hid (R4.out.below b5 R4.out.lt)
    have Z5 := Lib.hid (Z4.out.below b5 Z4.out.lt)
    have B5 := Lib.hid (sub_step b5 B4.out rfl)
    have P4 := Lib.hid (O4.out.below b5 (Nat.le_refl _))
    have O5 := Lib.hid o5
    have y2 := (b5.cell (p := ⟨bb, off + 2, none⟩) hb4).trans Y2'.out
    have lt5 := Z5.out.lt
    clear b5 o5 Z4 B4 R4 O4 Y2'
    go_wp2_with fail
    refine (readNumbers_any t2 zt2 _ (by exact HT.out.below B5.out (Nat.le_refl _))).mono ?_
    rintro e w6 ⟨A6, c6, rfl, o6, b6⟩
    have R6 := Lib.hid (R5.out.below b6 R5.out.lt)
    have Z6 := Lib.hid (Z5.out.below b6 Z5.out.lt)
    have B6 := Lib.hid (sub_step b6 B5.out rfl)
    have O4 := Lib.hid (P4.out.below b6 (Nat.le_refl _))
    have I5 := Lib.hid (O5.out.below b6 (Nat.le_refl _)).ints
    have AP := Lib.hid (apart_of P4.out o6 (Nat.le_refl _))
    have O6 := Lib.hid (o6.lower (base' := w.heap.size + 2) (by omega))
    have lt6 := Z6.out.lt
    have n0 := rnL_len u0
    have n1 := rnL_len u1
    have n2 := rnL_len t2
    clear b6 o6 Z5 B5 R5 y2 P4 O5
    cases b0 : rdB t0
    · have R := Lib.hid (show rqB ⟨p, s, st, sk, re, fe, ag, c, sl⟩ s0 = false by rw [rqB, rdP_is HL.out, rdQ_no hk HN.out HY.out (.inl b0)]; rfl)
      clear b0
      obtain ⟨a0, a1, a2, a3, a4, a5⟩ := Z6.out.flat
      go_wp2_with fail
      refine implReadPosition_ret (g := w.heap.size + 1) (by rfl) (by rfl) (by rfl) (Z6.out.set none 0 0 none 0 0 0) ?_
      rw [R.out]
      obtain ⟨r0, r1, r2⟩ := rq_no R.out
      rw [r0, r1, r2]
      exact ⟨none, 0, none, 0, 0, 0, rfl, own_nilP _ _, own_nilP _ _, apart_none _, Nat.zero_le _, Nat.zero_le _, sub_set3 B6.out (by omega) _ _ _⟩
    cases b1 : rnB u0
    · have R := Lib.hid (show rqB ⟨p, s, st, sk, re, fe, ag, c, sl⟩ s0 = false by rw [rqB, rdP_is HL.out, rdQ_no hk HN.out HY.out (.inr (.inl (by rw [HU0.out]; exact b1)))]; rfl)
      clear b1
      obtain ⟨a0, a1, a2, a3, a4, a5⟩ := Z6.out.flat
      go_wp2_with fail
      refine implReadPosition_ret (g := w.heap.size + 1) (by rfl) (by rfl) (by rfl) (Z6.out.set none 0 0 none 0 0 0) ?_
      rw [R.out]
      obtain ⟨r0, r1, r2⟩ := rq_no R.out
      rw [r0, r1, r2]
      exact ⟨none, 0, none, 0, 0, 0, rfl, own_nilP _ _, own_nilP _ _, apart_none _, Nat.zero_le _, Nat.zero_le _, sub_set3 B6.out (by omega) _ _ _⟩
    cases b2 : rnB u1
    · have R := Lib.hid (show rqB ⟨p, s, st, sk, re, fe, ag, c, sl⟩ s0 = false by rw [rqB, rdP_is HL.out, rdQ_no hk HN.out HY.out (.inr (.inr (.inl (by rw [HU1.out]; exact b2))))]; rfl)
      clear b2
      obtain ⟨a0, a1, a2, a3, a4, a5⟩ := Z6.out.flat
      go_wp2_with fail
      refine implReadPosition_ret (g := w.heap.size + 1) (by rfl) (by rfl) (by rfl) (Z6.out.set none 0 0 none 0 0 0) ?_
      rw [R.out]
      obtain ⟨r0, r1, r2⟩ := rq_no R.out
      rw [r0, r1, r2]
      exact ⟨none, 0, none, 0, 0, 0, rfl, own_nilP _ _, own_nilP _ _, apart_none _, Nat.zero_le _, Nat.zero_le _, sub_set3 B6.out (by omega) _ _ _⟩
    cases b3 : rnB t2
    · have R := Lib.hid (show rqB ⟨p, s, st, sk, re, fe, ag, c, sl⟩ s0 = false by rw [rqB, rdP_is HL.out, rdQ_no hk HN.out HY.out (.inr (.inr (.inr b3)))]; rfl)
      clear b3
      obtain ⟨a0, a1, a2, a3, a4, a5⟩ := Z6.out.flat
      go_wp2_with fail
      refine implReadPosition_ret (g := w.heap.size + 1) (by rfl) (by rfl) (by rfl) (Z6.out.set none 0 0 none 0 0 0) ?_
      rw [R.out]
      obtain ⟨r0, r1, r2⟩ := rq_no R.out
      rw [r0, r1, r2]
      exact ⟨none, 0, none, 0, 0, 0, rfl, own_nilP _ _, own_nilP _ _, apart_none _, Nat.zero_le _, Nat.zero_le _, sub_set3 B6.out (by omega) _ _ _⟩
    have HB0 := Lib.hid b0
    have HB1 := Lib.hid (show rnB (t1.extract 0 k) = true by rw [HU0.out]; exact b1)
    have HB2 := Lib.hid (show rnB (t1.extract (k + 1) t1.size) = true by rw [HU1.out]; exact b2)
    have HB3 := Lib.hid b3
    clear b0 b1 b2 b3
    go_wp2_with (at_builtin; refine holdI ?_)
    unfold Hold
    refine list_appendW rfl (.tmp 76) (.tmp 77) rfl (w.heap.size + 2) A4 (rnL u0).length c4 (rnL u0) A5 (rnL u1).length c5 _ (rnL u1) (by simp [Act.eval, Act.put]) (by simp [Act.eval, Act.put]) (by exact O4.out) (by exact I5.out) (by omega) (by omega) (by exact lt6) ?_
    intro A7 c7 w7 o7 hg hw
    obtain ⟨K6, KA⟩ := appendW_kept O4.out O6.out AP.out hg hw
    have b7 := Own.growBelow B6.out O4.out hg (by omega) (by omega)
    have bg := Own.growBelow (Below.refl _ _) O4.out hg (Nat.le_refl _) (by exact lt6)
    have hK : RuAt (w7.alloc (.cells #[.slice A7 ((rnL u0).length + (rnL u1).length) c7, .slice A6 (rnL t2).length c6, .int .i64 (rdN t0)] 36)) w.heap.size 0 ⟨p, s, st, sk, re, fe, ag, c, sl⟩ ∧ PX (w7.alloc (.cells #[.slice A7 ((rnL u0).length + (rnL u1).length) c7, .slice A6 (rnL t2).length c6, .int .i64 (rdN t0)] 36)) (w.heap.size + 1) none 0 0 none 0 0 0 ∧ PosAt (w7.alloc (.cells #[.slice A7 ((rnL u0).length + (rnL u1).length) c7, .slice A6 (rnL t2).length c6, .int .i64 (rdN t0)] 36)) w7.heap.size 0 A7 ((rnL u0).length + (rnL u1).length) c7 A6 (rnL t2).length c6 (rdN t0) ∧ Own (w7.alloc (.cells #[.slice A7 ((rnL u0).length + (rnL u1).length) c7, .slice A6 (rnL t2).length c6, .int .i64 (rdN t0)] 36)) (w.heap.size + 2) A7 ((rnL u0).length + (rnL u1).length) c7 (rnL u0 ++ rnL u1) ∧ Own (w7.alloc (.cells #[.slice A7 ((rnL u0).length + (rnL u1).length) c7, .slice A6 (rnL t2).length c6, .int .i64 (rdN t0)] 36)) (w.heap.size + 2) A6 (rnL t2).length c6 (rnL t2) ∧ Below w.heap.size w (w7.alloc (.cells #[.slice A7 ((rnL u0).length + (rnL u1).length) c7, .slice A6 (rnL t2).length c6, .int .i64 (rdN t0)] 36)) := by
      refine ⟨(R6.out.below bg (by omega)).alloc _, (Z6.out.below bg (by omega)).alloc _, PosAt.box _ _ _ _ _ _ _ _ _, o7.alloc _, K6.alloc _, sub_alloc b7 _⟩
    have HK := Lib.hid hK
    have AP7 := Lib.hid KA
    clear hK o7 hg hw K6 KA b7 bg R6 Z6 B6 O4 I5 AP O6
    go_upto_region 12 with fail
    refine named (fun W => RuAt W w.heap.size 0 ⟨p, s, st, sk, re, fe, ag, c, sl⟩ ∧ PX W (w.heap.size + 1) none 0 0 none 0 0 0 ∧ PosAt W w7.heap.size 0 A7 ((rnL u0).length + (rnL u1).length) c7 A6 (rnL t2).length c6 (rdN t0) ∧ Own W (w.heap.size + 2) A7 ((rnL u0).length + (rnL u1).length) c7 (rnL u0 ++ rnL u1) ∧ Own W (w.heap.size + 2) A6 (rnL t2).length c6 (rnL t2) ∧ Below w.heap.size w W) HK.out ?_
    clear HK
    rintro W ⟨ru, zz, pp, ow, ow', bb'⟩
    have RU := Lib.hid ru
    have ZZ := Lib.hid zz
    have PP := Lib.hid pp
    have OW := Lib.hid ow
    have OW' := Lib.hid ow'
    have BB := Lib.hid bb'
    clear ru zz pp ow ow' bb'
    have RQ := rdQ_yes hk HN.out HY.out HB0.out HB1.out HB2.out HB3.out
    rw [HU0.out, HU1.out] at RQ
    obtain ⟨q0, q1, q2⟩ := RQ
    have QD := Lib.hid (show rdP s0 = decide ((rnL u0).length = (rnL u1).length) by rw [rdP_is HL.out]; exact q0)
    have QX := Lib.hid (show rdP s0 = true → rpX s0 = rnL u0 ++ rnL u1 ∧ rpY s0 = rnL t2 ∧ rpP s0 = rdN t0 by
      intro h
      obtain ⟨e0, e1, e2⟩ := rp_yes h
      have v0 : w_ s0 0 = t0 := by simp [w_, HL.out]
      have v1 : w_ s0 1 = t1 := by simp [w_, HL.out]
      have v2 : w_ s0 2 = t2 := by simp [w_, HL.out]
      rw [v1, q1, q2] at e0
      rw [v2] at e1
      rw [v0] at e2
      exact ⟨e0, e1, e2⟩)
    clear q0 q1 q2
    have QB := Lib.hid (show rqB ⟨p, s, st, sk, re, fe, ag, c, sl⟩ s0 = (decide ((rnL u0).length = (rnL u1).length) && okP ⟨p, s, st, sk, re, fe, ag, c, sl⟩ (rnL u0 ++ rnL u1) (rnL t2) (rdN t0)) by
      rw [rqB]
      cases hp : rdP s0
      · rw [← QD.out, hp]; rfl
      · obtain ⟨e0, e1, e2⟩ := QX.out hp
        rw [← QD.out, hp, e0, e1, e2])
    cases ho : okP ⟨p, s, st, sk, re, fe, ag, c, sl⟩ (rnL u0 ++ rnL u1) (rnL t2) (rdN t0)
    · have R := Lib.hid (show rqB ⟨p, s, st, sk, re, fe, ag, c, sl⟩ s0 = false by rw [QB.out, ho, Bool.and_false])
      have HO := Lib.hid ho
      obtain ⟨k0, k1, k2, k3, k4, k5, k6, k7, k8⟩ := RU.out.flat
      obtain ⟨p0, p1, p2⟩ := PP.out.flat
      clear ho
      go_wp2_with fail
      refine (ValidPosition_is p s st sk re fe ag c sl A7 A6 _ c7 _ c6 (rnL u0 ++ rnL u1) (rnL t2) (rdN t0) _ HO.out _ (by exact OW.out.ints) (by exact OW'.out.ints) (by omega)).mono ?_
      rintro e w8 ⟨rfl, b8⟩
      have ZM := Lib.hid (ZZ.out.below b8 ZZ.out.lt)
      have BM := Lib.hid (sub_step b8 BB.out rfl)
      clear b8 k0 k1 k2 k3 k4 k5 k6 k7 k8 p0 p1 p2
      obtain ⟨a0, a1, a2, a3, a4, a5⟩ := ZM.out.flat
      go_wp2_with fail
      refine implReadPosition_ret (g := w.heap.size + 1) (by rfl) (by rfl) (by rfl) (ZM.out.set none 0 0 none 0 0 0) ?_
      rw [R.out]
      obtain ⟨r0, r1, r2⟩ := rq_no R.out
      rw [r0, r1, r2]
      exact ⟨none, 0, none, 0, 0, 0, rfl, own_nilP _ _, own_nilP _ _, apart_none _, Nat.zero_le _, Nat.zero_le _, sub_set3 BM.out (by omega) _ _ _⟩
    have HO := Lib.hid ho
    clear ho
    obtain ⟨k0, k1, k2, k3, k4, k5, k6, k7, k8⟩ := RU.out.flat
    obtain ⟨p0, p1, p2⟩ := PP.out.flat
    go_wp2_with fail
    refine (ValidPosition_is p s st sk re fe ag c sl A7 A6 _ c7 _ c6 (rnL u0 ++ rnL u1) (rnL t2) (rdN t0) _ HO.out _ (by exact OW.out.ints) (by exact OW'.out.ints) (by omega)).mono ?_
    rintro e w8 ⟨rfl, b8⟩
    have R8 := Lib.hid (RU.out.below b8 RU.out.lt)
    have Z8 := Lib.hid (ZZ.out.below b8 ZZ.out.lt)
    have P8 := Lib.hid (PP.out.below b8 PP.out.lt)
    have O8 := Lib.hid (OW.out.below b8 (Nat.le_refl _))
    have O8' := Lib.hid (OW'.out.below b8 (Nat.le_refl _))
    have B8 := Lib.hid (sub_step b8 BB.out rfl)
    clear b8 k0 k1 k2 k3 k4 k5 k6 k7 k8 p0 p1 p2 RU ZZ PP OW OW' BB
    obtain ⟨k0, k1, k2, k3, k4, k5, k6, k7, k8⟩ := R8.out.flat
    obtain ⟨p0, p1, p2⟩ := P8.out.flat
    go_wp2_with fail
    refine (PositionText_any p s st sk re fe ag c sl A7 A6 _ c7 _ c6 (rnL u0 ++ rnL u1) (rnL t2) (rdN t0) _ (by exact O8.out.ints) (by exact O8'.out.ints) (by omega) (by exact HT.out.below B8.out (Nat.le_refl _))).mono ?_
    rintro e w9 ⟨rfl, b9⟩
    have Z9 := Lib.hid (Z8.out.below b9 Z8.out.lt)
    have P9 := Lib.hid (P8.out.below b9 P8.out.lt)
    have O9 := Lib.hid (O8.out.below b9 (Nat.le_refl _))
    have O9' := Lib.hid (O8'.out.below b9 (Nat.le_refl _))
    have B9 := Lib.hid (sub_step b9 B8.out rfl)
    clear b9 k0 k1 k2 k3 k4 k5 k6 k7 k8 p0 p1 p2 R8 Z8 P8 O8 O8' B8
    have BK := back (r := ⟨p, s, st, sk, re, fe, ag, c, sl⟩) hk HN.out HY.out HL.out HB0.out HB1.out HB2.out HB3.out (by rw [HU0.out, HU1.out]; exact HO.out)
    rw [HU0.out, HU1.out] at BK
    by_cases he : psT ⟨p, s, st, sk, re, fe, ag, c, sl⟩ (rnL u0 ++ rnL u1) (rnL t2) (rdN t0) = s0
    rotate_left
    · have R := Lib.hid (show rqB ⟨p, s, st, sk, re, fe, ag, c, sl⟩ s0 = false by rw [QB.out, decide_eq_false (fun h => he (BK.2 h))]; rfl)
      have qe := toList_ne he
      clear he BK
      obtain ⟨a0, a1, a2, a3, a4, a5⟩ := Z9.out.flat
      go_wp2_with fail
      refine implReadPosition_ret (g := w.heap.size + 1) (by rfl) (by rfl) (by rfl) (Z9.out.set none 0 0 none 0 0 0) ?_
      rw [R.out]
      obtain ⟨r0, r1, r2⟩ := rq_no R.out
      rw [r0, r1, r2]
      exact ⟨none, 0, none, 0, 0, 0, rfl, own_nilP _ _, own_nilP _ _, apart_none _, Nat.zero_le _, Nat.zero_le _, sub_set3 B9.out (by omega) _ _ _⟩
    have R := Lib.hid (show rqB ⟨p, s, st, sk, re, fe, ag, c, sl⟩ s0 = true by rw [QB.out, decide_eq_true (BK.1 he), HO.out]; rfl)
    have V := Lib.hid (QX.out (by rw [QD.out, decide_eq_true (BK.1 he)]))
    have LL := Lib.hid (okP_lens HO.out)
    rw [he]
    clear he BK
    obtain ⟨p0, p1, p2⟩ := P9.out.flat
    obtain ⟨a0, a1, a2, a3, a4, a5⟩ := Z9.out.flat
    go_wp2_with fail
    refine implReadPosition_ret (g := w.heap.size + 1) (by rfl) (by rfl) (by rfl) (Z9.out.set A7 _ c7 A6 _ c6 (rdN t0)) ?_
    obtain ⟨h1, h2⟩ := LL.out
    rw [List.length_append] at h1
    obtain ⟨r0, r1, r2⟩ := rq_yes R.out
    rw [R.out, r0, r1, r2, V.out.1, V.out.2.1, V.out.2.2]
    exact ⟨A7, c7, A6, c6, _, _, rfl, own_set3 O9.out (Nat.lt_succ_self _) _ _ _ (by omega), own_set3 O9'.out (Nat.lt_succ_self _) _ _ _ (by omega), AP7.out, by omega, by omega, sub_set3 B9.out (by omega) _ _ _⟩
  · have R := Lib.hid (show rqB ⟨p, s, st, sk, re, fe, ag, c, sl⟩ s0 = false by rw [rqB, rdP_is HL.out, rdQ_one (sides1 hno)]; rfl)
    clear hno
    obtain ⟨u0, hu0⟩ : ∃ x, t1 = x := ⟨_, rfl⟩
    rw [hu0]
    obtain ⟨u1, hu1⟩ : ∃ x, (⟨#[]⟩ : ByteArray) = x := ⟨_, rfl⟩
    rw [hu1]
    have HU0 := Lib.hid hu0
    have HU1 := Lib.hid hu1
    have zu0 : u0.size ≤ 1048576 := by rw [← hu0]; exact zt1
    have zu1 : u1.size ≤ 1048576 := by rw [← hu1]; decide
    clear hu0 hu1
    go_wp2_with fail
    refine (readNumbers_any u0 zu0 _ (by exact HT.out.below B3.out (Nat.le_refl _))).mono ?_
    rintro e w4 ⟨A4, c4, rfl, o4, b4⟩
    have R4 := Lib.hid (R3.out.below b4 R3.out.lt)
    have Z4 := Lib.hid (Z3.out.below b4 Z3.out.lt)
    have B4 := Lib.hid (sub_step b4 B3.out rfl)
    have O4 := Lib.hid (o4.lower (base' := w.heap.size + 2) (by omega))
    have Y2' := Lib.hid ((b4.cell (p := ⟨bb, off + 2, none⟩) hb3).trans Y2.out)
    have hb4 : bb < w4.heap.size := Nat.lt_of_lt_of_le hb3 b4.size
    have lt4 := Z4.out.lt
    clear b4 o4 Z3 B3 R3 Y2
    go_wp2_with fail
    refine (readNumbers_any u1 zu1 _ (by exact HT.out.below B4.out (Nat.le_refl _))).mono ?_
    rintro e w5 ⟨A5, c5, rfl, o5, b5⟩
    have R5 := Lib.hid (R4.out.below b5 R4.out.lt)
    have Z5 := Lib.hid (Z4.out.below b5 Z4.out.lt)
    have B5 := Lib.hid (sub_step b5 B4.out rfl)
    have P4 := Lib.hid (O4.out.below b5 (Nat.le_refl _))
    have O5 := Lib.hid o5
    have y2 := (b5.cell (p := ⟨bb, off + 2, none⟩) hb4).trans Y2'.out
    have lt5 := Z5.out.lt
    clear b5 o5 Z4 B4 R4 O4 Y2'
    go_wp2_with fail
    refine (readNumbers_any t2 zt2 _ (by exact HT.out.below B5.out (Nat.le_refl _))).mono ?_
    rintro e w6 ⟨A6, c6, rfl, o6, b6⟩
    have R6 := Lib.hid (R5.out.below b6 R5.out.lt)
    have Z6 := Lib.hid (Z5.out.below b6 Z5.out.lt)
    have B6 := Lib.hid (sub_step b6 B5.out rfl)
    have O4 := Lib.hid (P4.out.below b6 (Nat.le_refl _))
    have I5 := Lib.hid (O5.out.below b6 (Nat.le_refl _)).ints
    have AP := Lib.hid (apart_of P4.out o6 (Nat.le_refl _))
    have O6 := Lib.hid (o6.lower (base' := w.heap.size + 2) (by omega))
    have lt6 := Z6.out.lt
    have n0 := rnL_len u0
    have n1 := rnL_len u1
    have n2 := rnL_len t2
    clear b6 o6 Z5 B5 R5 y2 P4 O5
    cases b0 : rdB t0
    · obtain ⟨a0, a1, a2, a3, a4, a5⟩ := Z6.out.flat
      go_wp2_with fail
      refine implReadPosition_ret (g := w.heap.size + 1) (by rfl) (by rfl) (by rfl) (Z6.out.set none 0 0 none 0 0 0) ?_
      rw [R.out]
      obtain ⟨r0, r1, r2⟩ := rq_no R.out
      rw [r0, r1, r2]
      exact ⟨none, 0, none, 0, 0, 0, rfl, own_nilP _ _, own_nilP _ _, apart_none _, Nat.zero_le _, Nat.zero_le _, sub_set3 B6.out (by omega) _ _ _⟩
    · obtain ⟨a0, a1, a2, a3, a4, a5⟩ := Z6.out.flat
      go_wp2_with fail
      refine implReadPosition_ret (g := w.heap.size + 1) (by rfl) (by rfl) (by rfl) (Z6.out.set none 0 0 none 0 0 0) ?_
      rw [R.out]
      obtain ⟨r0, r1, r2⟩ := rq_no R.out
      rw [r0, r1, r2]
      exact ⟨none, 0, none, 0, 0, 0, rfl, own_nilP _ _, own_nilP _ _, apart_none _, Nat.zero_le _, Nat.zero_le _, sub_set3 B6.out (by omega) _ _ _⟩
end Go.Proofs.YtnanaldolnehiabDoor
