/-
  Lists of runs of the call's own: marked, held, one run more behind them.
-/
import Derived.Test.YtnanaldolnehiaaRuns
import Derived.Test.YtnanaldolnehiaaPos
set_option linter.unusedSimpArgs false
set_option linter.unusedVariables false
namespace Go.Proofs.Ytnanaldolnehiaa
open Go.ChangeShapes Go.WideShapes Go.RowKit Go.Deep

theorem marks2_step {k0 : Int} {k : Nat} {zs : List Int} (h : k * 2 + 1 < zs.length) : ((marks k0 (k * 2) ++ zs.drop (k * 2)).set (k * 2) (k0 + (k : Int) * 2)).set (k * 2 + 1) (k0 + (k : Int) * 2 + 1) = marks k0 ((k + 1) * 2) ++ zs.drop ((k + 1) * 2) := by
  have e1 := marks_step (k0 := k0) (k := k * 2) (zs := zs) (by omega)
  have e2 := marks_step (k0 := k0) (k := k * 2 + 1) (zs := zs) (by omega)
  rw [show k0 + (k : Int) * 2 = k0 + ((k * 2 : Nat) : Int) by omega, e1, show k0 + ((k * 2 : Nat) : Int) + 1 = k0 + ((k * 2 + 1 : Nat) : Int) by omega, e2, show (k + 1) * 2 = k * 2 + 1 + 1 by omega]
theorem OwnRun.stored2 {w : World} {base g n c : Nat} {zs : List Int} (h : OwnRun w base (some ⟨g, 0, none⟩) n c zs) (k : Nat) (x : Int) :
    OwnRun (w.setCell ⟨g, k, none⟩ (.int .i64 x)) base (some ⟨g, 0, none⟩) n c (zs.set k x) ∧ w.grownBy (w.setCell ⟨g, k, none⟩ (.int .i64 x)) (some g) :=
  ⟨h.stored k x, (h.row.stored k (.int .i64 x)).2⟩
set_option maxHeartbeats 2000000 in
theorem markRunS_any (base : Nat) (A : Option Addr) (n c : Nat) (zs : List Int) (k0 : Int) (w : World) (h : OwnRun w base A n c zs) (hk0 : 0 ≤ k0) (hk1 : k0 ≤ 4294967296) (hn : n ≤ 4294967296) :
    Calls Try.prog 59 #[.slice A n c, .int .i64 k0] w fun e w' => e = .returned (.int .i64 (k0 + (n : Int) * 2)) ∧ OwnRun w' base A n c (marks k0 (n * 2)) ∧ w.grownBy w' (Value.slice A n c).ownBlock := by
  have hl := h.len
  have HL := Lib.hid hl
  rcases h.form with ⟨rfl, rfl, rfl⟩ | ⟨g, rfl, hb, hg⟩
  · obtain rfl : zs = [] := List.eq_nil_of_length_eq_zero (by omega)
    clear hl
    go_enter Try.func59, Try.ntmps59
    go_wp2
    refine wp_loop_rounds 1 ?_; rw [rounds_succ]
    go_wp2
    go_ret
    exact ⟨by simp, by simpa [marks] using h, World.grownBy.refl _ _⟩
  · clear hl
    go_enter Try.func59, Try.ntmps59
    go_wp2
    go_loopw [1, 5] (fun q i wr => ∃ k : Nat, k ≤ n ∧ i = .int .i64 k ∧ q = .int .i64 (k0 + (k : Int) * 2) ∧ OwnRun wr base (some ⟨g, 0, none⟩) n c (marks k0 (k * 2) ++ zs.drop (k * 2)) ∧ w.grownBy wr (some g)) (fun _ i _ => n - (intOf i).toNat)
    case atStart => exact ⟨0, Nat.zero_le _, rfl, by simp, by simpa [marks] using h, World.grownBy.refl _ _⟩
    case round =>
      obtain ⟨k, hk, rfl, rfl, ho, hgr⟩ := hrel
      by_cases hlt : k < n
      · have hz : k * 2 + 1 < zs.length := by rw [HL.out]; omega
        have hx0 : (marks k0 (k * 2) ++ zs.drop (k * 2))[k * 2]? = some (zs[k * 2]'(by omega)) := by
          rw [List.getElem?_append_right (by simp [marks_len]), marks_len, Nat.sub_self, List.getElem?_drop]
          simp
        have hx1 : (marks k0 (k * 2) ++ zs.drop (k * 2))[k * 2 + 1]? = some (zs[k * 2 + 1]'hz) := by
          rw [List.getElem?_append_right (by simp [marks_len]), marks_len, List.getElem?_drop]
          rw [show k * 2 + (k * 2 + 1 - k * 2) = k * 2 + 1 by omega]
          simp
        have hcell0 := ho.cell hx0
        have hcell1 := ho.cell hx1
        have hfree0 := ho.free (k * 2)
        have hfree1 := ho.free (k * 2 + 1)
        obtain ⟨s1, s2⟩ := ho.stored2 (k * 2) (k0 + (k : Int) * 2)
        obtain ⟨s3, s4⟩ := s1.stored2 (k * 2 + 1) (k0 + (k : Int) * 2 + 1)
        rw [marks2_step hz] at s3
        have S1 := Lib.hid s3
        have S2 := Lib.hid (grown_trans (grown_trans hgr s2) s4)
        have i0 : (0 : Int) ≤ (k : Int) := by omega
        have i1 : (k : Int) < (n : Int) := by omega
        clear hx0 hx1 s1 s2 s3 s4 ho hgr h
        go_wp2
        go_roundw
        case rel => exact ⟨k + 1, by omega, by go_num, by go_num, S1.out, S2.out⟩
        case measure => simp [intOf]; omega
      · have hkn : k = n := by omega
        have HK := Lib.hid hkn
        have HO := Lib.hid ho
        have HG := Lib.hid hgr
        clear hkn ho hgr h
        go_wp2
        go_ret
        have e := HK.out
        subst e
        refine ⟨rfl, ?_, HG.out⟩
        have e2 := HO.out
        rw [List.drop_of_length_le (by rw [HL.out]; exact Nat.le_refl _), List.append_nil] at e2
        exact e2
set_option maxHeartbeats 2000000 in
theorem heldRunS_any (B : Nat) (A : Option Addr) (n c : Nat) (k0 : Int) (w : World) (h : Flat 2 w B A n c (marks k0 (n * 2))) (hk0 : 0 ≤ k0) (hk1 : k0 ≤ 4294967296) (hn : n ≤ 4294967296) :
    Calls Try.prog 64 #[.slice A n c, .int .i64 k0] w fun e w' => e = .returned (.int .i64 (k0 + (n : Int) * 2)) ∧ w = w' := by
  rcases Nat.eq_zero_or_pos n with h0 | h0
  · subst h0
    clear h
    go_enter Try.func64, Try.ntmps64
    go_wp2
    refine wp_loop_rounds 1 ?_; rw [rounds_succ]
    go_wp2
    go_ret
    simp
  obtain ⟨b, off, rfl, -, hc⟩ := h.at_ h0
  clear h
  go_enter Try.func64, Try.ntmps64
  go_wp2
  go_loop [1, 5] (fun q i => ∃ k : Nat, k ≤ n ∧ i = .int .i64 k ∧ q = .int .i64 (k0 + (k : Int) * 2)) (fun _ i => n - (intOf i).toNat)
  case atStart => exact ⟨0, Nat.zero_le _, rfl, by simp⟩
  case round =>
    obtain ⟨k, hk, rfl, rfl⟩ := hrel
    by_cases hlt : k < n
    · have hcell0 := hc (k * 2) _ (marks_get (by omega))
      have hcell1 := hc (k * 2 + 1) _ (marks_get (by omega))
      rw [show k0 + ((k * 2 : Nat) : Int) = k0 + (k : Int) * 2 by omega] at hcell0
      rw [show k0 + ((k * 2 + 1 : Nat) : Int) = k0 + (k : Int) * 2 + 1 by omega] at hcell1
      rw [← Nat.add_assoc] at hcell1
      have i0 : (0 : Int) ≤ (k : Int) := by omega
      have i1 : (k : Int) < (n : Int) := by omega
      clear hc
      go_wp2
      go_round
      case rel => exact ⟨k + 1, by omega, by go_num, by go_num⟩
      case measure => simp [intOf]; omega
    · obtain rfl : k = n := by omega
      clear hc
      go_wp2
      go_ret
      exact ⟨rfl, rfl⟩
theorem appendRun_one (base : Nat) (ty : TypeId) (A0 : Option Addr) (n c0 : Nat) (xs : List Int) (x y : Int) (w : World) (b : Nat) (hb : b = w.heap.size) (ho : OwnRun w base A0 n c0 xs) (hn : n ≤ 4294967296) (hbase : base ≤ w.heap.size) :
    ∃ A' c' w', (Builtin.append_ #[76, 76] ty #[.slice A0 n c0, .slice (some ⟨b, 0, none⟩) 1 1]).run Try.prog (w.alloc (.cells #[.int .i64 x, .int .i64 y] 136)) = .ok (.slice A' (n + 1) c') w' ∧ OwnRun w' base A' (n + 1) c' (xs ++ [x, y]) ∧ (w.alloc (.cells #[.int .i64 x, .int .i64 y] 136)).grownBy w' (Value.slice A0 n c0).ownBlock := by
  subst hb
  obtain ⟨i0, hi, hz0, hz1, hz2⟩ := info_parts infoRun
  obtain ⟨v', w', hr, hown, hg, -⟩ := run_append_own (P := Try.prog) (w.alloc (.cells #[.int .i64 x, .int .i64 y] 136)) base 76 ty 136 i0 _ 2 16 Try.underlying76 hi hz0 hz1 hz2 rfl (by decide) _ n _ (ho.alloc _).row ⟨w.heap.size, 0, none⟩ 1 1 [.int .i64 x, .int .i64 y] (by simp) (fun j u hu => by
      have hj : j < 2 := by
        have := (List.getElem?_eq_some_iff.1 hu).1
        simpa using this
      rcases (by omega : j = 0 ∨ j = 1) with rfl | rfl <;> (simp at hu; subst hu; simp [World.cell?_alloc_new, Addr.add])) (by intro v hv; simp at hv; rcases hv with rfl | rfl <;> rfl) (by unfold maxLen; omega) (by omega) (by simp; omega)
  have e : xs.map (Value.int .i64) ++ [Value.int .i64 x, Value.int .i64 y] = (xs ++ [x, y]).map (Value.int .i64) := by simp
  rw [e] at hown
  obtain ⟨A', c', rfl, ho'⟩ := OwnRun.of_row hown
  exact ⟨A', c', w', hr, ho', hg⟩
/-- 'append(s, Run{..})' in a plain region. -/
theorem list_appendRun {ops : Array Oper} {rest : List Oper} {o : Oper} {a : Act} {Q : Exit → Act → World → Prop} {w : World} (hgd : o.guard = none) (s x : Operand)
    (hop : o.op = .call { callee := .builtin .append, args := #[s, x], argTypes := #[76, 76] })
    (base : Nat) (A0 : Option Addr) (n c0 : Nat) (xs : List Int) (y z : Int) (b : Nat) (hb : b = w.heap.size) (hs : a.eval s = .slice A0 n c0) (hx : a.eval x = .slice (some ⟨b, 0, none⟩) 1 1) (ho : OwnRun w base A0 n c0 xs) (hn : n ≤ 4294967296) (hbase : base ≤ w.heap.size)
    (h : ∀ A' c' w', OwnRun w' base A' (n + 1) c' (xs ++ [y, z]) → Below base w w' → wpList Try.prog ops Q rest (a.put o.dst (.slice A' (n + 1) c')) w') : wpList Try.prog ops Q (o :: rest) a (w.alloc (.cells #[.int .i64 y, .int .i64 z] 136)) := by
  refine wpList_plain hgd fun K hK => ?_
  obtain ⟨A', c', w', hrun, ho', hg⟩ := appendRun_one base o.type A0 n c0 xs y z w b hb ho hn hbase
  unfold Oper.wp
  simp only [execOp, hop, resolve, invoke, builtin, Sem.run_bind, Sem.run_pure, Result.andThen_ok, List.map_toArray, List.map_cons, List.map_nil, hs, hx, hrun]
  refine hK _ _ (h A' c' w' ho' (((Below.refl _ _).alloc hbase _).grown hg (by simp; omega) (fun g e => ?_)))
  rcases ho.form with ⟨rfl, _⟩ | ⟨g', rfl, hb', _⟩
  · cases e
  · simp [Value.ownBlock] at e
    omega
/-- One number more behind runs. -/
def rnStep (rs : List (Int × Int)) (x : Int) : List (Int × Int) :=
  match rs.getLast? with
  | some p => if p.1 = x then rs.dropLast ++ [(p.1, p.2 + 1)] else rs ++ [(x, 1)]
  | none => [(x, 1)]
/-- The runs of a list. -/
def rnOf (l : List Int) : List (Int × Int) := l.foldl rnStep []
theorem rnOf_snoc (l : List Int) (x : Int) : rnOf (l ++ [x]) = rnStep (rnOf l) x := by simp [rnOf]
theorem rnOf_take {l : List Int} {k : Nat} {x : Int} (h : l[k]? = some x) : rnOf (l.take (k + 1)) = rnStep (rnOf (l.take k)) x := by
  rw [List.take_add_one, h]
  exact rnOf_snoc _ _
/-- The numbers of runs, one behind the other. -/
def flR (rs : List (Int × Int)) : List Int := rs.flatMap fun p => [p.1, p.2]
theorem flR_nil : flR [] = [] := rfl
theorem flR_append (a b : List (Int × Int)) : flR (a ++ b) = flR a ++ flR b := by simp [flR]
theorem flR_len (rs : List (Int × Int)) : (flR rs).length = rs.length * 2 := by
  induction rs with
  | nil => rfl
  | cons p rs ih => simp only [flR, List.flatMap_cons, List.length_append, List.length_cons, List.length_nil] at ih ⊢; omega
theorem rn_nil (x : Int) : rnStep [] x = [(x, 1)] := rfl
theorem rn_same (rs : List (Int × Int)) (v t : Int) : rnStep (rs ++ [(v, t)]) v = rs ++ [(v, t + 1)] := by simp [rnStep]
theorem rn_new (rs : List (Int × Int)) (v t x : Int) (h : ¬ (v = x)) : rnStep (rs ++ [(v, t)]) x = rs ++ [(v, t)] ++ [(x, 1)] := by simp [rnStep, h]
theorem rn_last {rs : List (Int × Int)} (h : 0 < rs.length) : ∃ ini v t, rs = ini ++ [(v, t)] := by
  have hne : rs ≠ [] := by rintro rfl; cases h
  exact ⟨rs.dropLast, (rs.getLast hne).1, (rs.getLast hne).2, (List.dropLast_concat_getLast hne).symm⟩
/-- The count of a run is one at least, and no greater than the list is long. -/
theorem rn_bound (l : List Int) : (rnOf l).length ≤ l.length ∧ ∀ p ∈ rnOf l, 1 ≤ p.2 ∧ p.2 ≤ (l.length : Int) := by
  suffices H : ∀ (n : Nat) (l : List Int), l.length = n → (rnOf l).length ≤ l.length ∧ ∀ p ∈ rnOf l, 1 ≤ p.2 ∧ p.2 ≤ (l.length : Int) from H _ l rfl
  intro n
  induction n with
  | zero =>
    intro l hl
    obtain rfl : l = [] := List.eq_nil_of_length_eq_zero hl
    exact ⟨Nat.le_refl _, fun p hp => by cases hp⟩
  | succ n ih =>
    intro l hl
    obtain ⟨m, c, rfl⟩ : ∃ m c, l = m ++ [c] := ⟨l.dropLast, l.getLast (by rintro rfl; cases hl), (List.dropLast_concat_getLast _).symm⟩
    have hm : m.length = n := by simpa using hl
    obtain ⟨h1, h2⟩ := ih m hm
    rw [rnOf_snoc]
    simp only [List.length_append, List.length_cons, List.length_nil]
    rcases Nat.eq_zero_or_pos (rnOf m).length with h0 | h0
    · rw [List.eq_nil_of_length_eq_zero h0, rn_nil]
      refine ⟨by simp, fun p hp => ?_⟩
      simp at hp
      subst hp
      omega
    · obtain ⟨ini, v, t, e⟩ := rn_last h0
      rw [e] at h1 h2 ⊢
      have h3 := h2 (v, t) (by simp)
      by_cases hv : v = c
      · subst hv
        rw [rn_same]
        refine ⟨by simp at h1 ⊢; omega, fun p hp => ?_⟩
        rcases List.mem_append.1 hp with h4 | h4
        · have := h2 p (List.mem_append_left _ h4); omega
        · simp at h4; subst h4; simp at h3 ⊢; omega
      · rw [rn_new _ _ _ _ hv]
        refine ⟨by simp at h1 ⊢; omega, fun p hp => ?_⟩
        rcases List.mem_append.1 hp with h4 | h4
        · have := h2 p h4; omega
        · simp at h4; subst h4; simp; omega
theorem flR_last (ini : List (Int × Int)) (v t : Int) : (flR (ini ++ [(v, t)]))[ini.length * 2]? = some v ∧ (flR (ini ++ [(v, t)]))[ini.length * 2 + 1]? = some t ∧ (flR (ini ++ [(v, t)])).set (ini.length * 2 + 1) (t + 1) = flR (ini ++ [(v, t + 1)]) := by
  have hl := flR_len ini
  rw [flR_append, flR_append]
  refine ⟨?_, ?_, ?_⟩
  · rw [List.getElem?_append_right (by omega), hl, Nat.sub_self]; rfl
  · rw [List.getElem?_append_right (by omega), hl, show ini.length * 2 + 1 - ini.length * 2 = 1 by omega]; rfl
  · rw [List.set_append_right _ _ (by omega), hl, show ini.length * 2 + 1 - ini.length * 2 = 1 by omega]; rfl
/-- An item, and a list that can be packed. -/
def itm (x : Int) : Bool := decide (-1000000 ≤ x) && decide (x ≤ 1000000)
def okL (l : List Int) : Bool := l.all itm && decide (l.length ≤ 4000)
theorem itm_iff {x : Int} : itm x = true ↔ -1000000 ≤ x ∧ x ≤ 1000000 := by simp [itm]
theorem okL_bad {l : List Int} {k : Nat} {x : Int} (h : l[k]? = some x) (hx : itm x = false) : okL l = false := by
  have : l.all itm = false := by
    rw [List.all_eq_false]
    exact ⟨x, List.mem_of_getElem? h, by simp [hx]⟩
  simp [okL, this]
theorem okL_long {l : List Int} (h : ¬ (l.length ≤ 4000)) : okL l = false := by simp [okL, h]
theorem okL_yes {l : List Int} (h : l.all itm = true) (h2 : l.length ≤ 4000) : okL l = true := by simp [okL, h, h2]
theorem all_step {l : List Int} {k : Nat} {x : Int} (h : l[k]? = some x) (ha : (l.take k).all itm = true) (hx : itm x = true) : (l.take (k + 1)).all itm = true := by
  rw [List.take_add_one, h, List.all_append, ha]
  simp [hx]
/-- What RunsOf returns. -/
def rnR (l : List Int) : List (Int × Int) := if okL l = true then rnOf l else []
def rnC (l : List Int) : Int := if okL l = true then 0 else 2
end Go.Proofs.Ytnanaldolnehiaa
