/-
  The list of runs: FromRuns of both.
-/
import Derived.Test.YtnanaldolnehiaaRunsOf
import Derived.Test.YtnanaldolnehiaaAppend
set_option linter.unusedSimpArgs false
set_option linter.unusedVariables false
namespace Go.Proofs.Ytnanaldolnehiaa
open Go.ChangeShapes Go.WideShapes Go.RowKit Go.Deep

theorem un_flR : ∀ (n : Nat) (zs : List Int), zs.length = n * 2 → ∃ rs : List (Int × Int), zs = flR rs ∧ rs.length = n
  | 0, zs, h => ⟨[], List.eq_nil_of_length_eq_zero (by omega), rfl⟩
  | n + 1, [], h => by simp at h
  | n + 1, [a], h => by simp at h; omega
  | n + 1, a :: b :: t, h => by
    obtain ⟨rs, h1, h2⟩ := un_flR n t (by simp at h; omega)
    exact ⟨(a, b) :: rs, by rw [h1]; rfl, by simp [h2]⟩
theorem flR_get {rs : List (Int × Int)} {k : Nat} {p : Int × Int} (h : rs[k]? = some p) : (flR rs)[k * 2]? = some p.1 ∧ (flR rs)[k * 2 + 1]? = some p.2 := by
  obtain ⟨hk, e⟩ := List.getElem?_eq_some_iff.1 h
  have h1 : rs = rs.take k ++ p :: rs.drop (k + 1) := by
    rw [← e, ← List.drop_eq_getElem_cons hk, List.take_append_drop]
  have hl : (flR (rs.take k)).length = k * 2 := by rw [flR_len, List.length_take]; omega
  rw [h1, flR_append]
  constructor
  · rw [List.getElem?_append_right (by omega), hl, Nat.sub_self]; rfl
  · rw [List.getElem?_append_right (by omega), hl, show k * 2 + 1 - k * 2 = 1 by omega]; rfl
/-- A run of an item, once to 4000 times. -/
def rOk (p : Int × Int) : Bool := itm p.1 && (decide (1 ≤ p.2) && decide (p.2 ≤ 4000))
theorem rOk_iff {p : Int × Int} : rOk p = true ↔ itm p.1 = true ∧ 1 ≤ p.2 ∧ p.2 ≤ 4000 := by simp [rOk]
/-- The list of runs. -/
def exR (rs : List (Int × Int)) : List Int := rs.flatMap fun p => List.replicate p.2.toNat p.1
theorem exR_take {rs : List (Int × Int)} {k : Nat} {p : Int × Int} (h : rs[k]? = some p) : exR (rs.take (k + 1)) = exR (rs.take k) ++ List.replicate p.2.toNat p.1 := by
  rw [List.take_add_one, h]
  simp [exR]
theorem exR_le (rs : List (Int × Int)) (k : Nat) : (exR (rs.take k)).length ≤ (exR rs).length := by
  have : exR rs = exR (rs.take k) ++ exR (rs.drop k) := by
    rw [exR, exR, exR, ← List.flatMap_append, List.take_append_drop]
  rw [this, List.length_append]
  omega
/-- What FromRuns returns. -/
def frL (rs : List (Int × Int)) : List Int := if rs.all rOk = true ∧ (exR rs).length ≤ 4000 then exR rs else []
def frC (rs : List (Int × Int)) : Int := if rs.all rOk = true then (if (exR rs).length ≤ 4000 then 0 else 5) else 2
theorem fr_bad {rs : List (Int × Int)} {k : Nat} {p : Int × Int} (h : rs[k]? = some p) (hp : rOk p = false) : frL rs = [] ∧ frC rs = 2 := by
  have : ¬ (rs.all rOk = true) := by
    rw [Bool.not_eq_true, List.all_eq_false]
    exact ⟨p, List.mem_of_getElem? h, by simp [hp]⟩
  exact ⟨by rw [frL, if_neg (fun h => this h.1)], by rw [frC, if_neg this]⟩
theorem fr_full {rs : List (Int × Int)} {k : Nat} {p : Int × Int} (ha : rs.all rOk = true) (h : rs[k]? = some p) (hp : 4000 < ((exR (rs.take k)).length : Int) + p.2) : frL rs = [] ∧ frC rs = 5 := by
  have h1 := exR_le rs (k + 1)
  rw [exR_take h, List.length_append, List.length_replicate] at h1
  have h2 : ¬ ((exR rs).length ≤ 4000) := by omega
  exact ⟨by rw [frL, if_neg (fun h => h2 h.2)], by rw [frC, if_pos ha, if_neg h2]⟩
theorem fr_ok {rs : List (Int × Int)} (ha : rs.all rOk = true) (h : (exR rs).length ≤ 4000) : frL rs = exR rs ∧ frC rs = 0 :=
  ⟨by rw [frL, if_pos ⟨ha, h⟩], by rw [frC, if_pos ha, if_pos h]⟩
theorem allk_step {rs : List (Int × Int)} {k : Nat} {p : Int × Int} (h : rs[k]? = some p) (ha : (rs.take k).all rOk = true) (hx : rOk p = true) : (rs.take (k + 1)).all rOk = true := by
  rw [List.take_add_one, h, List.all_append, ha]
  simp [hx]
theorem rOk_of {rs : List (Int × Int)} {k : Nat} {p : Int × Int} (h : rs[k]? = some p) (ha : rs.all rOk = true) : rOk p = true := by
  rw [List.all_eq_true] at ha
  exact ha p (List.mem_of_getElem? h)
/-- 'append(l, n)' in a plain region. -/
theorem list_append1 {ops : Array Oper} {rest : List Oper} {o : Oper} {a : Act} {Q : Exit → Act → World → Prop} {w : World} (hgd : o.guard = none) (s x : Operand)
    (hop : o.op = .call { callee := .builtin .append, args := #[s, x], argTypes := #[24, 24] })
    (base : Nat) (A0 : Option Addr) (n c0 : Nat) (xs : List Int) (y : Int) (hs : a.eval s = .slice A0 n c0) (hx : a.eval x = .slice (some ⟨w.heap.size, 0, none⟩) 1 1) (ho : Own w base A0 n c0 xs) (hn : n ≤ 4294967296) (hbase : base ≤ w.heap.size)
    (h : ∀ A' c' w', Own w' base A' (n + 1) c' (xs ++ [y]) → Below base w w' → (w.alloc (.cells #[.int .i64 y] 2)).grownBy w' (Value.slice A0 n c0).ownBlock → wpList Try.prog ops Q rest (a.put o.dst (.slice A' (n + 1) c')) w') : wpList Try.prog ops Q (o :: rest) a (w.alloc (.cells #[.int .i64 y] 2)) := by
  have hy : Ints (w.alloc (.cells #[.int .i64 y] 2)) (w.heap.size + 1) (some ⟨w.heap.size, 0, none⟩) 1 1 [y] := by
    refine ⟨rfl, Nat.le_refl _, by omega, fun e => (by cases e), fun _ => ⟨w.heap.size, 0, rfl, by omega, fun j x hj => ?_⟩⟩
    have : j = 0 := by have := (List.getElem?_eq_some_iff.1 hj).1; simp at this; omega
    subst this
    simp at hj
    subst hj
    simp [World.cell?_alloc_new]
  refine list_append64 hgd s x hop base A0 n c0 xs _ 1 1 _ [y] hs hx (ho.alloc _) hy hn (by omega) (by simp; omega) ?_
  intro A' c' w' ho' hg
  refine h A' c' w' ho' (((Below.refl _ _).alloc hbase _).grown hg (by simp; omega) (fun g e => ?_)) hg
  exact (own_block ho e).2.1

def RetFR (w : World) (l : List Int) (code : Int) (e : Ending) (w' : World) : Prop := ∃ A c, e = .returned (.tuple #[.slice A l.length c, .int .i64 code]) ∧ Own w' w.heap.size A l.length c l ∧ Below w.heap.size w w'
theorem own_nilF (w : World) (b : Nat) : Own w b none 0 0 [] := ⟨rfl, by omega, by omega, World.ownsRow_nil w b _ _⟩
theorem r_get_some {rs : List (Int × Int)} {k : Nat} (h : k < rs.length) : ∃ p, rs[k]? = some p := ⟨_, List.getElem?_eq_getElem h⟩
theorem rOk_no1 {v t : Int} (h : itm v = false) : rOk (v, t) = false := by simp [rOk, h]
theorem rOk_no2 {v t : Int} (h : inB t 1 4000 = false) : rOk (v, t) = false := by
  have : inB t 1 4000 = (decide (1 ≤ t) && decide (t ≤ 4000)) := by simp [inB]
  rw [this] at h
  simp only [rOk, h, Bool.and_false]
theorem rOk_ok {v t : Int} (h : itm v = true) (h2 : inB t 1 4000 = true) : rOk (v, t) = true := by
  have : inB t 1 4000 = (decide (1 ≤ t) && decide (t ≤ 4000)) := by simp [inB]
  rw [this] at h2
  simp only [rOk, h, h2, Bool.and_self]
theorem own_rep {w : World} {base n c : Nat} {A : Option Addr} {l : List Int} {v : Int} {j : Nat} (h : Own w base A n c (l ++ List.replicate j v ++ [v])) : Own w base A n c (l ++ List.replicate (j + 1) v) := by
  rw [List.append_assoc, ← List.replicate_succ'] at h
  exact h
theorem box_apart {w : World} {base n c bx : Nat} {A : Option Addr} {zs : List Int} {cur : Array Value} (ho : Own w base A n c zs) (hbx : w.heap[bx]? = some (.cells cur 136)) : ¬ (some bx = (Value.slice A n c).ownBlock) := by
  intro e
  rcases ho.row.2 with ⟨h1, _⟩ | ⟨g, cap, cur', h1, _, hg, _⟩
  · rw [h1] at e; cases e
  · rw [h1] at e
    simp only [Value.ownBlock, Option.some.injEq] at e
    subst e
    rw [hbx] at hg
    injection hg with hg
    injection hg with _ h2
    exact absurd h2 (by decide)
theorem box_cells {w : World} {bx : Nat} {x y : Value} {t : TypeId} (h : w.heap[bx]? = some (.cells #[x, y] t)) : w.cell? ⟨bx, 0, none⟩ = some x ∧ w.cell? ⟨bx, 1, none⟩ = some y := by
  constructor <;> simp [World.cell?, h]
theorem box_lt {w : World} {bx : Nat} {o : Obj} (h : w.heap[bx]? = some o) : bx < w.heap.size := (Array.getElem?_eq_some_iff.1 h).1
theorem box_grown {w w' : World} {base n c bx : Nat} {A : Option Addr} {zs : List Int} {cur : Array Value} {o : Obj} (ho : Own w base A n c zs) (hbx : w.heap[bx]? = some (.cells cur 136)) (hg : (w.alloc o).grownBy w' (Value.slice A n c).ownBlock) : w'.heap[bx]? = some (.cells cur 136) := by
  have h1 := box_lt hbx
  rw [hg.block bx (by simp; omega) (box_apart ho hbx), Below.heap_alloc w o bx h1]
  exact hbx
set_option maxRecDepth 100000 in
set_option maxHeartbeats 4000000 in
theorem specFromRuns_any (B : Nat) (A : Option Addr) (c : Nat) (rs : List (Int × Int)) (w : World) (h : Flat 2 w B A rs.length c (flR rs)) (hn : rs.length ≤ 1048576) (hB : B ≤ w.heap.size) : Calls Try.prog 55 #[.slice A rs.length c] w (RetFR w (frL rs) (frC rs)) := by
  have HH := Lib.hid h
  clear h
  have H0 := Lib.hid (show Own (w.alloc (.cells #[] 2)) w.heap.size (some ⟨w.heap.size, 0, none⟩) 0 0 [] from ⟨rfl, by simp, by simp, World.ownsRow_made w #[] 0 (Nat.le_refl _) (by unfold maxLen; omega) rfl⟩)
  have bw := Lib.hid (show Below w.heap.size w (w.alloc (.cells #[] 2)) from (by repeat (first | with_reducible exact Below.refl _ _ | with_reducible assumption | with_reducible refine sub_alloc ?_ _ | (with_reducible refine sub_setCell2 ?_ ?_ _; (focus (first | (simp; done) | (simp <;> omega)))) | with_reducible refine sub_drew ?_ | with_reducible refine below_drewN ?_ _ | with_reducible refine sub_step (by assumption) ?_ (by first | rfl | (simp; done)) | exact Below.refl _ _ | assumption | refine sub_alloc ?_ _ | refine sub_setCell ?_ (by simp <;> omega) _ | refine sub_drew ?_ | refine below_drewN ?_ _ | refine sub_step (by assumption) ?_ (by first | rfl | (simp; done)))))
  go_enter Try.func55, Try.ntmps55
  go_wp2_with fail
  go_loop [4] (fun i => ∃ k : Nat, k ≤ rs.length ∧ i = .int .i64 k ∧ Hid ((rs.take k).all rOk = true)) (fun i => rs.length - (intOf i).toNat)
  case atStart => exact ⟨0, Nat.zero_le _, rfl, Lib.hid rfl⟩
  case round =>
    obtain ⟨k, hk, rfl, ht⟩ := hrel
    by_cases hlt : k < rs.length
    · obtain ⟨⟨v, t⟩, hp⟩ := r_get_some (rs := rs) (k := k) hlt
      obtain ⟨b, off, hA, hbB, hc⟩ := HH.out.at_ (by omega)
      obtain ⟨g0, g1⟩ := flR_get hp
      have c0 : w.cell? ⟨b, off + k * 2, none⟩ = some (.int .i64 v) := hc (k * 2) v g0
      have c1 : w.cell? ⟨b, off + k * 2 + 1, none⟩ = some (.int .i64 t) := hc (k * 2 + 1) t g1
      have P := Lib.hid hp
      have HA := Lib.hid hA
      rw [hA]
      clear hc hp g0 g1 bw H0
      have i0 : (0 : Int) ≤ (k : Int) := by omega
      have i1 : (k : Int) < (rs.length : Int) := by omega
      cases hi : itm v
      · have R := Lib.hid (fr_bad P.out (rOk_no1 hi))
        have HI := Lib.hid hi
        clear hi
        go_wp2_with fail
        refine (l14Item_any _ _).mono ?_
        rintro e w' ⟨rfl, rfl⟩
        rw [inB_itm, HI.out]
        go_wp2_with fail
        go_ret2
        rw [R.out.1, R.out.2]
        exact ⟨none, 0, rfl, own_nilF _ _, Below.refl _ _⟩
      cases hj : inB t 1 4000
      · have R := Lib.hid (fr_bad P.out (rOk_no2 hj))
        have HI := Lib.hid hi
        have HJ := Lib.hid hj
        clear hi hj
        go_wp2_with fail
        refine (l14Item_any _ _).mono ?_
        rintro e w' ⟨rfl, rfl⟩
        rw [inB_itm, HI.out]
        go_wp2_with fail
        refine (l00In_any _ _ _ _).mono ?_
        rintro e w' ⟨rfl, rfl⟩
        rw [HJ.out]
        go_wp2_with fail
        go_ret2
        rw [R.out.1, R.out.2]
        exact ⟨none, 0, rfl, own_nilF _ _, Below.refl _ _⟩
      · have HI := Lib.hid hi
        have HJ := Lib.hid hj
        clear hi hj
        go_wp2_with fail
        refine (l14Item_any _ _).mono ?_
        rintro e w' ⟨rfl, rfl⟩
        rw [inB_itm, HI.out]
        go_wp2_with fail
        refine (l00In_any _ _ _ _).mono ?_
        rintro e w' ⟨rfl, rfl⟩
        rw [HJ.out]
        go_wp2_with fail
        go_round
        case rel => exact ⟨k + 1, by omega, by go_num, Lib.hid (allk_step P.out ht.out (rOk_ok HI.out HJ.out))⟩
        case measure => simp [intOf]; omega
    · have hkn : k = rs.length := by omega
      have ALL := Lib.hid (show rs.all rOk = true by have := ht.out; rwa [List.take_of_length_le (by omega)] at this)
      have i3 : ¬ ((k : Int) < (rs.length : Int)) := by omega
      clear hkn ht
      go_wp2_with fail
      go_loopw [5, 6] (fun o i wr => ∃ (k : Nat) (A2 : Option Addr) (c2 : Nat), k ≤ rs.length ∧ i = .int .i64 k ∧ o = .slice A2 (exR (rs.take k)).length c2 ∧ (exR (rs.take k)).length ≤ 4000 ∧ Own wr w.heap.size A2 (exR (rs.take k)).length c2 (exR (rs.take k)) ∧ Below w.heap.size w wr) (fun _ i _ => rs.length - (intOf i).toNat)
      case atStart => exact ⟨0, _, 0, Nat.zero_le _, rfl, rfl, by simp [exR], H0.out, bw.out⟩
      case round =>
        clear i3 hlt hk
        obtain ⟨k, A2, c2, hk, rfl, rfl, hle, ho, hb⟩ := hrel
        have HO := Lib.hid ho
        have HB := Lib.hid hb
        clear ho
        by_cases hlt : k < rs.length
        · obtain ⟨⟨v, t⟩, hp⟩ := r_get_some (rs := rs) (k := k) hlt
          obtain ⟨b, off, hA, hbB, hc⟩ := HH.out.at_ (by omega)
          obtain ⟨g0, g1⟩ := flR_get hp
          have c0 : wr.cell? ⟨b, off + k * 2, none⟩ = some (.int .i64 v) := (hb.cell (p := ⟨b, off + k * 2, none⟩) (by show b < _; omega)).trans (hc (k * 2) v g0)
          have c1 : wr.cell? ⟨b, off + k * 2 + 1, none⟩ = some (.int .i64 t) := (hb.cell (p := ⟨b, off + k * 2 + 1, none⟩) (by show b < _; omega)).trans (hc (k * 2 + 1) t g1)
          have E0 := Lib.hid (hc (k * 2) v g0)
          have E1 := Lib.hid (hc (k * 2 + 1) t g1)
          have P := Lib.hid hp
          have ST := Lib.hid (exR_take hp)
          have hok := rOk_iff.1 (rOk_of hp ALL.out)
          obtain ⟨-, ht1, ht2⟩ := hok
          simp only at ht1 ht2
          obtain ⟨tn, rfl⟩ : ∃ tn : Nat, t = (tn : Int) := ⟨t.toNat, by omega⟩
          have HA := Lib.hid hA
          rw [hA]
          clear hc hp g0 g1 bw H0 hb
          have i0 : (0 : Int) ≤ (k : Int) := by omega
          have i1 : (k : Int) < (rs.length : Int) := by omega
          have STL : Hid ((exR (rs.take (k + 1))).length = (exR (rs.take k)).length + tn) := Lib.hid (by rw [ST.out]; simp)
          generalize hm : (exR (rs.take k)).length = m at *
          have HM := Lib.hid hm
          clear hm
          by_cases hf : 4000 < m + tn
          · have R := Lib.hid (fr_full (p := (v, (tn : Int))) ALL.out P.out (by rw [HM.out]; show (4000 : Int) < (m : Int) + (tn : Int); omega))
            have i5 : 4000 < (m : Int) + (tn : Int) := by omega
            go_wp2_with fail
            go_ret2
            rw [R.out.1, R.out.2]
            exact ⟨none, 0, rfl, own_nilF _ _, HB.out⟩
          · have i5 : ¬ (4000 < (m : Int) + (tn : Int)) := by omega
            go_wp2_with fail
            go_loopw [5, 7] (fun o j wr => ∃ (q : Nat) (A3 : Option Addr) (c3 : Nat), q ≤ tn ∧ j = .int .i64 q ∧ o = .slice A3 (m + q) c3 ∧ Own wr w.heap.size A3 (m + q) c3 (exR (rs.take k) ++ List.replicate q v) ∧ Below w.heap.size w wr) (fun _ j _ => tn - (intOf j).toNat)
            case atStart => exact ⟨0, A2, c2, Nat.zero_le _, rfl, rfl, by simpa using HO.out, HB.out⟩
            case round =>
              clear HB HO
              obtain ⟨q, A3, c3, hq, rfl, rfl, ho, hb⟩ := hrel
              have d0 : wr.cell? ⟨b, off + k * 2, none⟩ = some (.int .i64 v) := (hb.cell (p := ⟨b, off + k * 2, none⟩) (by show b < _; omega)).trans E0.out
              have d1 : wr.cell? ⟨b, off + k * 2 + 1, none⟩ = some (.int .i64 (tn : Int)) := (hb.cell (p := ⟨b, off + k * 2 + 1, none⟩) (by show b < _; omega)).trans E1.out
              have HO := Lib.hid ho
              have HB := Lib.hid hb
              clear ho hb
              by_cases hqt : q < tn
              · have i7 : (q : Int) < (tn : Int) := by omega
                go_wp2_with (at_builtin; refine list_append1 rfl (.tmp 55) (.tmp 61) rfl w.heap.size A3 (m + q) c3 (exR (rs.take k) ++ List.replicate q v) v (by simp [Act.eval, Act.put]) (by simp [Act.eval, Act.put]) (by exact HO.out) (by omega) (by exact HB.out.size) ?_; intro A4 c4 w4 ho4 hb4 hg4)
                go_roundw
                case rel => exact ⟨q + 1, A4, c4, by omega, by go_num, rfl, own_rep ho4, HB.out.trans hb4⟩
                case measure => simp [intOf]; omega
              · have i7 : ¬ ((q : Int) < (tn : Int)) := by omega
                obtain rfl : q = tn := by omega
                go_wp2_with fail
                go_roundw
                case rel => exact ⟨k + 1, A3, c3, by omega, by go_num, by rw [STL.out], by rw [STL.out]; omega, by rw [STL.out, ST.out]; exact HO.out, HB.out⟩
                case measure => simp [intOf]; omega
        · have hkn : k = rs.length := by omega
          have HT := Lib.hid (show rs.take k = rs from List.take_of_length_le (by omega))
          have R := Lib.hid (fr_ok ALL.out (by rw [← HT.out]; exact hle))
          have i4 : ¬ ((k : Int) < (rs.length : Int)) := by omega
          clear hb hkn
          go_wp2_with fail
          go_ret2
          have e := HO.out
          rw [R.out.1, R.out.2]
          rw [HT.out] at e ⊢
          exact ⟨A2, c2, rfl, e, HB.out⟩
set_option maxRecDepth 100000 in
set_option maxHeartbeats 4000000 in
theorem implFromRuns_any (B : Nat) (A : Option Addr) (c : Nat) (rs : List (Int × Int)) (w : World) (h : Flat 2 w B A rs.length c (flR rs)) (hn : rs.length ≤ 1048576) (hB : B ≤ w.heap.size) : Calls Try.prog 57 #[.slice A rs.length c] w (RetFR w (frL rs) (frC rs)) := by
  have HH := Lib.hid h
  clear h
  go_enter Try.func57, Try.ntmps57
  go_wp2_with fail
  go_loopw [11] (fun i wr => ∃ k : Nat, k ≤ rs.length ∧ i = .int .i64 k ∧ Hid ((rs.take k).all rOk = true) ∧ Below w.heap.size w wr) (fun i _ => rs.length - (intOf i).toNat)
  case atStart => exact ⟨0, Nat.zero_le _, rfl, Lib.hid rfl, Below.refl _ _⟩
  case round =>
    obtain ⟨k, hk, rfl, ht, hb⟩ := hrel
    have HB := Lib.hid hb
    by_cases hlt : k < rs.length
    · obtain ⟨⟨v, t⟩, hp⟩ := r_get_some (rs := rs) (k := k) hlt
      obtain ⟨b, off, hA, hbB, hc⟩ := HH.out.at_ (by omega)
      obtain ⟨g0, g1⟩ := flR_get hp
      have c0 : wr.cell? ⟨b, off + k * 2, none⟩ = some (.int .i64 v) := (hb.cell (p := ⟨b, off + k * 2, none⟩) (by show b < _; omega)).trans (hc (k * 2) v g0)
      have c1 : wr.cell? ⟨b, off + k * 2 + 1, none⟩ = some (.int .i64 t) := (hb.cell (p := ⟨b, off + k * 2 + 1, none⟩) (by show b < _; omega)).trans (hc (k * 2 + 1) t g1)
      have P := Lib.hid hp
      have HA := Lib.hid hA
      rw [hA]
      clear hc hp g0 g1 hb
      have bw : Below w.heap.size w (wr.alloc (.cells #[.int .i64 v, .int .i64 t] 136)) := HB.out.alloc (by exact HB.out.size) _
      have BW := Lib.hid bw
      clear bw
      have i0 : (0 : Int) ≤ (k : Int) := by omega
      have i1 : (k : Int) < (rs.length : Int) := by omega
      cases hi : itm v
      · have R := Lib.hid (fr_bad P.out (rOk_no1 hi))
        have HI := Lib.hid hi
        clear hi
        go_wp2_with fail
        refine (isItem_any _ _).mono ?_
        rintro e w' ⟨rfl, rfl⟩
        rw [inB_itm, HI.out]
        go_wp2_with fail
        go_ret2
        rw [R.out.1, R.out.2]
        exact ⟨none, 0, rfl, own_nilF _ _, BW.out⟩
      cases hj : inB t 1 4000
      · have R := Lib.hid (fr_bad P.out (rOk_no2 hj))
        have HI := Lib.hid hi
        have HJ := Lib.hid hj
        clear hi hj
        go_wp2_with fail
        refine (isItem_any _ _).mono ?_
        rintro e w' ⟨rfl, rfl⟩
        rw [inB_itm, HI.out]
        go_wp2_with fail
        refine (between_any _ _ _ _).mono ?_
        rintro e w' ⟨rfl, rfl⟩
        rw [HJ.out]
        go_wp2_with fail
        go_ret2
        rw [R.out.1, R.out.2]
        exact ⟨none, 0, rfl, own_nilF _ _, BW.out⟩
      · have HI := Lib.hid hi
        have HJ := Lib.hid hj
        clear hi hj
        go_wp2_with fail
        refine (isItem_any _ _).mono ?_
        rintro e w' ⟨rfl, rfl⟩
        rw [inB_itm, HI.out]
        go_wp2_with fail
        refine (between_any _ _ _ _).mono ?_
        rintro e w' ⟨rfl, rfl⟩
        rw [HJ.out]
        go_wp2_with fail
        go_roundw
        case rel => exact ⟨k + 1, by omega, by go_num, Lib.hid (allk_step P.out ht.out (rOk_ok HI.out HJ.out)), BW.out⟩
        case measure => simp [intOf]; omega
    · have hkn : k = rs.length := by omega
      have ALL := Lib.hid (show rs.all rOk = true by have := ht.out; rwa [List.take_of_length_le (by omega)] at this)
      have i3 : ¬ ((k : Int) < (rs.length : Int)) := by omega
      clear hkn ht hb
      have H0 := Lib.hid (show Own (wr.alloc (.cells #[] 2)) w.heap.size (some ⟨wr.heap.size, 0, none⟩) 0 0 [] from ⟨rfl, by simp, by simp, World.ownsRow_made wr #[] 0 (by exact HB.out.size) (by unfold maxLen; omega) rfl⟩)
      have bw := Lib.hid (show Below w.heap.size w (wr.alloc (.cells #[] 2)) from HB.out.alloc (by exact HB.out.size) _)
      obtain ⟨w0, rfl⟩ : ∃ w0 : World, w0 = wr := ⟨_, rfl⟩
      go_wp2_with fail
      go_loopw [6, 29] (fun o i wr => ∃ (k : Nat) (A2 : Option Addr) (c2 : Nat), k ≤ rs.length ∧ i = .int .i64 k ∧ o = .slice A2 (exR (rs.take k)).length c2 ∧ (exR (rs.take k)).length ≤ 4000 ∧ Own wr w.heap.size A2 (exR (rs.take k)).length c2 (exR (rs.take k)) ∧ Below w.heap.size w wr) (fun _ i _ => rs.length - (intOf i).toNat)
      case atStart => exact ⟨0, _, 0, Nat.zero_le _, rfl, rfl, by simp [exR], H0.out, bw.out⟩
      case round =>
        clear i3 hlt hk HB bw H0
        obtain ⟨k, A2, c2, hk, rfl, rfl, hle, ho, hb⟩ := hrel
        have HO := Lib.hid ho
        have HB := Lib.hid hb
        clear ho
        by_cases hlt : k < rs.length
        · obtain ⟨⟨v, t⟩, hp⟩ := r_get_some (rs := rs) (k := k) hlt
          obtain ⟨b, off, hA, hbB, hc⟩ := HH.out.at_ (by omega)
          obtain ⟨g0, g1⟩ := flR_get hp
          have c0 : wr.cell? ⟨b, off + k * 2, none⟩ = some (.int .i64 v) := (hb.cell (p := ⟨b, off + k * 2, none⟩) (by show b < _; omega)).trans (hc (k * 2) v g0)
          have c1 : wr.cell? ⟨b, off + k * 2 + 1, none⟩ = some (.int .i64 t) := (hb.cell (p := ⟨b, off + k * 2 + 1, none⟩) (by show b < _; omega)).trans (hc (k * 2 + 1) t g1)
          have E0 := Lib.hid (hc (k * 2) v g0)
          have E1 := Lib.hid (hc (k * 2 + 1) t g1)
          have P := Lib.hid hp
          have ST := Lib.hid (exR_take hp)
          have hok := rOk_iff.1 (rOk_of hp ALL.out)
          obtain ⟨-, ht1, ht2⟩ := hok
          simp only at ht1 ht2
          obtain ⟨tn, rfl⟩ : ∃ tn : Nat, t = (tn : Int) := ⟨t.toNat, by omega⟩
          have HA := Lib.hid hA
          rw [hA]
          clear hc hp g0 g1 hb
          obtain ⟨wo, rfl⟩ : ∃ wo : World, wo = wr := ⟨_, rfl⟩
          have BX := Lib.hid (heap_alloc_new wo (.cells #[.int .i64 v, .int .i64 (tn : Int)] 136))
          have BO := Lib.hid (HB.out.alloc (by exact HB.out.size) (.cells #[.int .i64 v, .int .i64 (tn : Int)] 136))
          have i0 : (0 : Int) ≤ (k : Int) := by omega
          have i1 : (k : Int) < (rs.length : Int) := by omega
          have STL : Hid ((exR (rs.take (k + 1))).length = (exR (rs.take k)).length + tn) := Lib.hid (by rw [ST.out]; simp)
          generalize hm : (exR (rs.take k)).length = m at *
          have HM := Lib.hid hm
          clear hm
          by_cases hf : 4000 < m + tn
          · have R := Lib.hid (fr_full (p := (v, (tn : Int))) ALL.out P.out (by rw [HM.out]; show (4000 : Int) < (m : Int) + (tn : Int); omega))
            have i5 : 4000 < (m : Int) + (tn : Int) := by omega
            go_wp2_with fail
            go_ret2
            rw [R.out.1, R.out.2]
            exact ⟨none, 0, rfl, own_nilF _ _, BO.out⟩
          · have i5 : ¬ (4000 < (m : Int) + (tn : Int)) := by omega
            go_wp2_with fail
            go_loopw [6, 41] (fun o j wr => ∃ (q : Nat) (A3 : Option Addr) (c3 : Nat), q ≤ tn ∧ j = .int .i64 q ∧ o = .slice A3 (m + q) c3 ∧ Own wr w.heap.size A3 (m + q) c3 (exR (rs.take k) ++ List.replicate q v) ∧ Below w.heap.size w wr ∧ wr.heap[wo.heap.size]? = some (.cells #[.int .i64 v, .int .i64 (tn : Int)] 136)) (fun _ j _ => tn - (intOf j).toNat)
            case atStart => exact ⟨0, A2, c2, Nat.zero_le _, rfl, rfl, by simpa using HO.out.alloc _, BO.out, BX.out⟩
            case round =>
              clear HB HO
              obtain ⟨q, A3, c3, hq, rfl, rfl, ho, hb, hx⟩ := hrel
              obtain ⟨d0, d1⟩ := box_cells hx
              have HX := Lib.hid hx
              clear hx
              have HO := Lib.hid ho
              have HB := Lib.hid hb
              clear ho hb
              by_cases hqt : q < tn
              · have i7 : (q : Int) < (tn : Int) := by omega
                go_wp2_with (at_builtin; refine list_append1 rfl (.tmp 43) (.tmp 46) rfl w.heap.size A3 (m + q) c3 (exR (rs.take k) ++ List.replicate q v) v (by simp [Act.eval, Act.put]) (by simp [Act.eval, Act.put]) (by exact HO.out) (by omega) (by exact HB.out.size) ?_; intro A4 c4 w4 ho4 hb4 hg4)
                go_roundw
                case rel => exact ⟨q + 1, A4, c4, by omega, by go_num, rfl, own_rep ho4, HB.out.trans hb4, box_grown HO.out HX.out hg4⟩
                case measure => simp [intOf]; omega
              · have i7 : ¬ ((q : Int) < (tn : Int)) := by omega
                obtain rfl : q = tn := by omega
                go_wp2_with fail
                go_roundw
                case rel => exact ⟨k + 1, A3, c3, by omega, by go_num, by rw [STL.out], by rw [STL.out]; omega, by rw [STL.out, ST.out]; exact HO.out, HB.out⟩
                case measure => simp [intOf]; omega
        · have hkn : k = rs.length := by omega
          have HT := Lib.hid (show rs.take k = rs from List.take_of_length_le (by omega))
          have R := Lib.hid (fr_ok ALL.out (by rw [← HT.out]; exact hle))
          have i4 : ¬ ((k : Int) < (rs.length : Int)) := by omega
          clear hb hkn
          go_wp2_with fail
          go_ret2
          have e := HO.out
          rw [R.out.1, R.out.2]
          rw [HT.out] at e ⊢
          exact ⟨A2, c2, rfl, e, HB.out⟩
end Go.Proofs.Ytnanaldolnehiaa
