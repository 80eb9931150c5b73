/-
  The law FnStandard, walked: the games that are given have valid rules and are found by their rules.
-/
import Derived.Test.YtnanaldolnehiaaBytesIn
import Derived.Test.YtnanaldolnehiaaNameLists
import Derived.Test.YtnanaldolnehiaaStdName
import Derived.Test.YtnanaldolnehiaaTotal
import Derived.Test.YtnanaldolnehiaaStart2
import Derived.Test.YtnanaldolnehiaaWhole
set_option linter.unusedSimpArgs false
set_option linter.unusedVariables false
namespace Go.Proofs.Ytnanaldolnehiaa
open Go.ChangeShapes Go.WideShapes Go.RowKit Go.Deep

set_option maxRecDepth 100000 in
set_option maxHeartbeats 1000000 in
theorem a2Sum_any (B : Nat) (A : Option Addr) (n c : Nat) (xs : List Int) (w : World) (h : Ints w B A n c xs) (hN : okN xs = true) (hn : n ≤ 4096) (v : Int) (hv : xs.sum = v) : Calls Try.prog 137 #[.slice A n c] w fun e w' => e = .returned (.int .i64 v) ∧ w = w' := by
  subst hv
  have HH := Lib.hid h
  have HL := Lib.hid h.len
  clear h
  go_enter Try.func137, Try.ntmps137
  go_wp2_with fail
  go_loopw [3, 4] (fun t i wr => ∃ (k : Nat) (z : Int), i = .int .i64 k ∧ k ≤ n ∧ t = .int .i64 z ∧ 0 ≤ z ∧ z ≤ 96 * (k : Int) ∧ Hid (z = (xs.take k).sum) ∧ wr = w) (fun _ i _ => n - (intOf i).toNat)
  case atStart => exact ⟨0, 0, rfl, Nat.zero_le _, rfl, by omega, by omega, Lib.hid rfl, rfl⟩
  case round =>
    obtain ⟨k, z, rfl, hk, rfl, hz0, hz1, hz, rfl⟩ := hrel
    by_cases hlt : k < n
    · obtain ⟨x, hx⟩ := get_some (zs := xs) (k := k) (by rw [HL.out]; exact hlt)
      obtain ⟨b, off, hA, hbB, hc⟩ := HH.out.at_ (by omega)
      subst hA
      have cx := hc k x hx
      have hx2 : 0 ≤ x ∧ x ≤ 96 := by
        simp only [okN, List.all_eq_true] at hN
        have := hN x (List.mem_of_getElem? hx)
        simp only [inB, decide_eq_true_eq] at this
        exact this
      obtain ⟨x0, x1⟩ := hx2
      have hs := Lib.hid (show (xs.take (k + 1)).sum = (xs.take k).sum + x by rw [List.take_add_one, hx, List.sum_append]; simp)
      have i0 : (0 : Int) ≤ (k : Int) := by omega
      have i1 : (k : Int) < (n : Int) := by omega
      clear hx hc
      go_wp2_with fail
      go_roundw
      case rel => exact ⟨k + 1, z + x, by go_num, by omega, by go_num, by omega, by omega, Lib.hid (by rw [hs.out, hz.out]), by simp⟩
      case measure => simp [intOf]; omega
    · have hke : k = n := by omega
      have HK := Lib.hid hke
      have j1 : ¬ ((k : Int) < (n : Int)) := by omega
      clear hke
      go_wp2_with fail
      go_ret
      exact ⟨by rw [hz.out, HK.out, List.take_of_length_le (by rw [HL.out]; exact Nat.le_refl _)]; rfl, by simp⟩
set_option maxRecDepth 100000 in
set_option maxHeartbeats 1000000 in
theorem a2All_any (A A' : Option Addr) (n c n' c' : Nat) (xs ys : List Int) (pl : Int) (w : World) (h : Ints w w.heap.size A n c xs) (h' : Ints w w.heap.size A' n' c' ys) (hN : okN xs = true) (hN' : okN ys = true) (hn : n ≤ 4096) (hn' : n' ≤ 4096) (v : Int) (hv : xs.sum + ys.sum = v) : Calls Try.prog 77 #[.agg #[.slice A n c, .slice A' n' c', .int .i64 pl]] w fun e w' => e = .returned (.int .i64 v) ∧ Below w.heap.size w w' := by
  subst hv
  have hb1 := okN_bd xs hN
  have hb2 := okN_bd ys hN'
  have hl1 := h.len
  have hl2 := h'.len
  have P0 := PosAt.box w 28 A n c A' n' c' pl
  have hbW : Below w.heap.size w (w.alloc (.cells #[.slice A n c, .slice A' n' c', .int .i64 pl] 28)) := (by repeat (first | with_reducible exact Below.refl _ _ | with_reducible assumption | with_reducible refine sub_alloc ?_ _ | (with_reducible refine sub_setCell2 ?_ ?_ _; (focus (first | (simp; done) | (simp <;> omega)))) | with_reducible refine sub_drew ?_ | with_reducible refine below_drewN ?_ _ | with_reducible refine sub_step (by assumption) ?_ (by first | rfl | (simp; done)) | exact Below.refl _ _ | assumption | refine sub_alloc ?_ _ | refine sub_setCell ?_ (by simp <;> omega) _ | refine sub_drew ?_ | refine below_drewN ?_ _ | refine sub_step (by assumption) ?_ (by first | rfl | (simp; done))))
  have HH := Lib.hid (h.sub hbW)
  have HH' := Lib.hid (h'.sub hbW)
  obtain ⟨d0, d1, d2⟩ := P0.flat
  clear h h' P0
  have WR : IntKind.i64.wrap (xs.sum + ys.sum) = xs.sum + ys.sum := IntWalk.i64_in _ (by omega)
  go_enter Try.func77, Try.ntmps77
  go_wp2_with fail
  go_quiet ((first | (go_at_call_of 137 (Value.slice A n c); exact Calls.quiet_of ((a2Sum_any _ _ _ _ xs _ (HH.out.drewN _) hN hn _ rfl).mono fun e w' ⟨he, hw⟩ => ⟨he, 0, hw.symm⟩)) | (go_at_call_of 137 (Value.slice A' n' c'); exact Calls.quiet_of ((a2Sum_any _ _ _ _ ys _ (HH'.out.drewN _) hN' hn' _ rfl).mono fun e w' ⟨he, hw⟩ => ⟨he, 0, hw.symm⟩))))
  go_wp2_with fail
  go_ret
  exact ⟨by first | rfl | simp [WR], (by repeat (first | with_reducible exact Below.refl _ _ | with_reducible assumption | with_reducible refine sub_alloc ?_ _ | (with_reducible refine sub_setCell2 ?_ ?_ _; (focus (first | (simp; done) | (simp <;> omega)))) | with_reducible refine sub_drew ?_ | with_reducible refine below_drewN ?_ _ | with_reducible refine sub_step (by assumption) ?_ (by first | rfl | (simp; done)) | exact Below.refl _ _ | assumption | refine sub_alloc ?_ _ | refine sub_setCell ?_ (by simp <;> omega) _ | refine sub_drew ?_ | refine below_drewN ?_ _ | refine sub_step (by assumption) ?_ (by first | rfl | (simp; done))))⟩
/- kalah -/
theorem std0_rules (w : World) : Calls Try.prog 72 #[.string (⟨#[107, 97, 108, 97, 104]⟩ : ByteArray)] w fun e w' => e = .returned (.tuple #[.agg #[.int .i64 6, .int .i64 4, .bool true, .bool false, .bool false, .bool false, .bool true, .int .i64 2, .int .i64 0], .int .i64 0]) ∧ Below w.heap.size w w' := StandardRules_any (⟨#[107, 97, 108, 97, 104]⟩ : ByteArray) w
theorem std0_name (w : World) : Calls Try.prog 73 #[.agg #[.int .i64 6, .int .i64 4, .bool true, .bool false, .bool false, .bool false, .bool true, .int .i64 2, .int .i64 0]] w fun e w' => e = .returned (.tuple #[.string (⟨#[107, 97, 108, 97, 104]⟩ : ByteArray), .int .i64 0]) ∧ Below w.heap.size w w' := StandardName_any 6 4 true false false false true 2 0 w
theorem std0_start (w : World) : Calls Try.prog 74 #[.agg #[.int .i64 6, .int .i64 4, .bool true, .bool false, .bool false, .bool false, .bool true, .int .i64 2, .int .i64 0]] w (RetP w (List.replicate 12 4) [0, 0] 0 0) := StartPosition_any 6 4 true false false false true 2 0 w
theorem std0_total (w : World) : Calls Try.prog 75 #[.agg #[.int .i64 6, .int .i64 4, .bool true, .bool false, .bool false, .bool false, .bool true, .int .i64 2, .int .i64 0]] w fun e w' => e = .returned (.tuple #[.int .i64 48, .int .i64 0]) ∧ Below w.heap.size w w' := TotalSeeds_any 6 4 true false false false true 2 0 w
theorem std0_valid (w : World) : Calls Try.prog 76 #[.agg #[.int .i64 6, .int .i64 4, .bool true, .bool false, .bool false, .bool false, .bool true, .int .i64 2, .int .i64 0]] w fun e w' => e = .returned (.bool true) ∧ Below w.heap.size w w' := specValidRules_any 6 4 true false false false true 2 0 w
theorem std0_whole (A A' : Option Addr) (n u n' u' : Nat) (w : World) (h : Ints w w.heap.size A n u (List.replicate 12 4)) (h' : Ints w w.heap.size A' n' u' [0, 0]) (hn : n ≤ 4294967296) : Calls Try.prog 78 #[.agg #[.int .i64 6, .int .i64 4, .bool true, .bool false, .bool false, .bool false, .bool true, .int .i64 2, .int .i64 0], .agg #[.slice A n u, .slice A' n' u', .int .i64 0]] w fun e w' => e = .returned (.bool true) ∧ Below w.heap.size w w' := specIsWhole_any 6 4 true false false false true 2 0 A A' n u n' u' (List.replicate 12 4) [0, 0] 0 w h h' hn
/- mini -/
theorem std1_rules (w : World) : Calls Try.prog 72 #[.string (⟨#[109, 105, 110, 105]⟩ : ByteArray)] w fun e w' => e = .returned (.tuple #[.agg #[.int .i64 3, .int .i64 2, .bool false, .bool false, .bool false, .bool true, .bool false, .int .i64 1, .int .i64 0], .int .i64 0]) ∧ Below w.heap.size w w' := StandardRules_any (⟨#[109, 105, 110, 105]⟩ : ByteArray) w
theorem std1_name (w : World) : Calls Try.prog 73 #[.agg #[.int .i64 3, .int .i64 2, .bool false, .bool false, .bool false, .bool true, .bool false, .int .i64 1, .int .i64 0]] w fun e w' => e = .returned (.tuple #[.string (⟨#[109, 105, 110, 105]⟩ : ByteArray), .int .i64 0]) ∧ Below w.heap.size w w' := StandardName_any 3 2 false false false true false 1 0 w
theorem std1_start (w : World) : Calls Try.prog 74 #[.agg #[.int .i64 3, .int .i64 2, .bool false, .bool false, .bool false, .bool true, .bool false, .int .i64 1, .int .i64 0]] w (RetP w (List.replicate 6 2) [0, 0] 0 0) := StartPosition_any 3 2 false false false true false 1 0 w
theorem std1_total (w : World) : Calls Try.prog 75 #[.agg #[.int .i64 3, .int .i64 2, .bool false, .bool false, .bool false, .bool true, .bool false, .int .i64 1, .int .i64 0]] w fun e w' => e = .returned (.tuple #[.int .i64 12, .int .i64 0]) ∧ Below w.heap.size w w' := TotalSeeds_any 3 2 false false false true false 1 0 w
theorem std1_valid (w : World) : Calls Try.prog 76 #[.agg #[.int .i64 3, .int .i64 2, .bool false, .bool false, .bool false, .bool true, .bool false, .int .i64 1, .int .i64 0]] w fun e w' => e = .returned (.bool true) ∧ Below w.heap.size w w' := specValidRules_any 3 2 false false false true false 1 0 w
theorem std1_whole (A A' : Option Addr) (n u n' u' : Nat) (w : World) (h : Ints w w.heap.size A n u (List.replicate 6 2)) (h' : Ints w w.heap.size A' n' u' [0, 0]) (hn : n ≤ 4294967296) : Calls Try.prog 78 #[.agg #[.int .i64 3, .int .i64 2, .bool false, .bool false, .bool false, .bool true, .bool false, .int .i64 1, .int .i64 0], .agg #[.slice A n u, .slice A' n' u', .int .i64 0]] w fun e w' => e = .returned (.bool true) ∧ Below w.heap.size w w' := specIsWhole_any 3 2 false false false true false 1 0 A A' n u n' u' (List.replicate 6 2) [0, 0] 0 w h h' hn
/- oware -/
theorem std2_rules (w : World) : Calls Try.prog 72 #[.string (⟨#[111, 119, 97, 114, 101]⟩ : ByteArray)] w fun e w' => e = .returned (.tuple #[.agg #[.int .i64 6, .int .i64 4, .bool false, .bool true, .bool false, .bool true, .bool false, .int .i64 1, .int .i64 2], .int .i64 0]) ∧ Below w.heap.size w w' := StandardRules_any (⟨#[111, 119, 97, 114, 101]⟩ : ByteArray) w
theorem std2_name (w : World) : Calls Try.prog 73 #[.agg #[.int .i64 6, .int .i64 4, .bool false, .bool true, .bool false, .bool true, .bool false, .int .i64 1, .int .i64 2]] w fun e w' => e = .returned (.tuple #[.string (⟨#[111, 119, 97, 114, 101]⟩ : ByteArray), .int .i64 0]) ∧ Below w.heap.size w w' := StandardName_any 6 4 false true false true false 1 2 w
theorem std2_start (w : World) : Calls Try.prog 74 #[.agg #[.int .i64 6, .int .i64 4, .bool false, .bool true, .bool false, .bool true, .bool false, .int .i64 1, .int .i64 2]] w (RetP w (List.replicate 12 4) [0, 0] 0 0) := StartPosition_any 6 4 false true false true false 1 2 w
theorem std2_total (w : World) : Calls Try.prog 75 #[.agg #[.int .i64 6, .int .i64 4, .bool false, .bool true, .bool false, .bool true, .bool false, .int .i64 1, .int .i64 2]] w fun e w' => e = .returned (.tuple #[.int .i64 48, .int .i64 0]) ∧ Below w.heap.size w w' := TotalSeeds_any 6 4 false true false true false 1 2 w
theorem std2_valid (w : World) : Calls Try.prog 76 #[.agg #[.int .i64 6, .int .i64 4, .bool false, .bool true, .bool false, .bool true, .bool false, .int .i64 1, .int .i64 2]] w fun e w' => e = .returned (.bool true) ∧ Below w.heap.size w w' := specValidRules_any 6 4 false true false true false 1 2 w
theorem std2_whole (A A' : Option Addr) (n u n' u' : Nat) (w : World) (h : Ints w w.heap.size A n u (List.replicate 12 4)) (h' : Ints w w.heap.size A' n' u' [0, 0]) (hn : n ≤ 4294967296) : Calls Try.prog 78 #[.agg #[.int .i64 6, .int .i64 4, .bool false, .bool true, .bool false, .bool true, .bool false, .int .i64 1, .int .i64 2], .agg #[.slice A n u, .slice A' n' u', .int .i64 0]] w fun e w' => e = .returned (.bool true) ∧ Below w.heap.size w w' := specIsWhole_any 6 4 false true false true false 1 2 A A' n u n' u' (List.replicate 12 4) [0, 0] 0 w h h' hn
/- relay -/
theorem std3_rules (w : World) : Calls Try.prog 72 #[.string (⟨#[114, 101, 108, 97, 121]⟩ : ByteArray)] w fun e w' => e = .returned (.tuple #[.agg #[.int .i64 4, .int .i64 2, .bool false, .bool false, .bool true, .bool false, .bool false, .int .i64 2, .int .i64 0], .int .i64 0]) ∧ Below w.heap.size w w' := StandardRules_any (⟨#[114, 101, 108, 97, 121]⟩ : ByteArray) w
theorem std3_name (w : World) : Calls Try.prog 73 #[.agg #[.int .i64 4, .int .i64 2, .bool false, .bool false, .bool true, .bool false, .bool false, .int .i64 2, .int .i64 0]] w fun e w' => e = .returned (.tuple #[.string (⟨#[114, 101, 108, 97, 121]⟩ : ByteArray), .int .i64 0]) ∧ Below w.heap.size w w' := StandardName_any 4 2 false false true false false 2 0 w
theorem std3_start (w : World) : Calls Try.prog 74 #[.agg #[.int .i64 4, .int .i64 2, .bool false, .bool false, .bool true, .bool false, .bool false, .int .i64 2, .int .i64 0]] w (RetP w (List.replicate 8 2) [0, 0] 0 0) := StartPosition_any 4 2 false false true false false 2 0 w
theorem std3_total (w : World) : Calls Try.prog 75 #[.agg #[.int .i64 4, .int .i64 2, .bool false, .bool false, .bool true, .bool false, .bool false, .int .i64 2, .int .i64 0]] w fun e w' => e = .returned (.tuple #[.int .i64 16, .int .i64 0]) ∧ Below w.heap.size w w' := TotalSeeds_any 4 2 false false true false false 2 0 w
theorem std3_valid (w : World) : Calls Try.prog 76 #[.agg #[.int .i64 4, .int .i64 2, .bool false, .bool false, .bool true, .bool false, .bool false, .int .i64 2, .int .i64 0]] w fun e w' => e = .returned (.bool true) ∧ Below w.heap.size w w' := specValidRules_any 4 2 false false true false false 2 0 w
theorem std3_whole (A A' : Option Addr) (n u n' u' : Nat) (w : World) (h : Ints w w.heap.size A n u (List.replicate 8 2)) (h' : Ints w w.heap.size A' n' u' [0, 0]) (hn : n ≤ 4294967296) : Calls Try.prog 78 #[.agg #[.int .i64 4, .int .i64 2, .bool false, .bool false, .bool true, .bool false, .bool false, .int .i64 2, .int .i64 0], .agg #[.slice A n u, .slice A' n' u', .int .i64 0]] w fun e w' => e = .returned (.bool true) ∧ Below w.heap.size w w' := specIsWhole_any 4 2 false false true false false 2 0 A A' n u n' u' (List.replicate 8 2) [0, 0] 0 w h h' hn
set_option maxRecDepth 100000 in
set_option maxHeartbeats 8000000 in
theorem FnStandard_walk (A : Option Addr) (n c : Nat) (zs : List Int) (w : World) (h : Bys w w.heap.size A n c zs) : Calls Try.prog 14 #[.slice A n c] w fun e w' => e = .returned (.bool true) ∧ Below w.heap.size w w' := by
  have hle := h.le
  have H := Lib.hid h
  clear h
  by_cases hn : 3000 < n
  · go_enter Try.func14, Try.ntmps14
    go_wp2_with fail
    refine (a2Long_any A n c none 0 0 _ true (by simp [hn]) hle (by omega)).mono ?_
    rintro e w' ⟨rfl, rfl⟩
    go_wp2_with fail
    go_ret
    exact ⟨rfl, Below.refl _ _⟩
  have HN := Lib.hid (show (decide (3000 < n) || decide (3000 < 0)) = false by simp; omega)
  clear hn
  go_enter Try.func14, Try.ntmps14
  go_wp2_with fail
  refine (a2Long_any A n c none 0 0 _ false HN.out hle (by omega)).mono ?_
  rintro e w' ⟨rfl, rfl⟩
  go_wp2_with fail
  refine (implStandardNames_any _).mono ?_
  rintro e w1 ⟨N1, k1, rfl, o1, b1⟩
  rcases o1.form with ⟨_, e0, _⟩ | ⟨g, rfl, -, hg⟩
  · cases e0
  have HO := Lib.hid o1
  have B1 := Lib.hid b1
  clear o1 b1
  go_wp2_with fail
  refine (a2At_any w.heap.size A n c zs 0 4 (by omega) (by omega) (by omega) _ (by exact H.out.below B1.out)).mono ?_
  rintro e w9 ⟨v, rfl, v0, v1, hw⟩
  rw [hw]
  clear hw w9
  have cell : ∀ j x, nmStandardNames[j]? = some x → w1.cell? ⟨g, 0 + j, none⟩ = some (.string x) := fun j x hx => by
    obtain ⟨b, off, e, -, hc⟩ := HO.out.ints.at_ (by omega)
    injection e with e
    injection e with e1 e2
    subst e1 e2
    exact hc j x hx
  have q0 : w1.cell? ⟨g, 0, none⟩ = some (.string (⟨#[107, 97, 108, 97, 104]⟩ : ByteArray)) := cell 0 _ rfl
  have q1 : w1.cell? ⟨g, 1, none⟩ = some (.string (⟨#[109, 105, 110, 105]⟩ : ByteArray)) := cell 1 _ rfl
  have q2 : w1.cell? ⟨g, 2, none⟩ = some (.string (⟨#[111, 119, 97, 114, 101]⟩ : ByteArray)) := cell 2 _ rfl
  have q3 : w1.cell? ⟨g, 3, none⟩ = some (.string (⟨#[114, 101, 108, 97, 121]⟩ : ByteArray)) := cell 3 _ rfl
  clear cell HO
  rcases (by omega : v = 0 ∨ v = 1 ∨ v = 2 ∨ v = 3) with rfl | rfl | rfl | rfl
  · go_wp2_with fail
    refine (std0_rules _).mono ?_
    rintro e w2 ⟨rfl, b2⟩
    have c2 := Lib.hid (sub_step b2 B1.out rfl)
    have R0 := RuAt.box w2 31 6 4 true false false false true 2 0
    have c3 := Lib.hid (sub_alloc c2.out (.cells #[.int .i64 6, .int .i64 4, .bool true, .bool false, .bool false, .bool false, .bool true, .int .i64 2, .int .i64 0] 31))
    clear b2 q0 q1 q2 q3
    obtain ⟨f0, f1, f2, f3, f4, f5, f6, f7, f8⟩ := R0.flat
    go_wp2_with fail
    refine (std0_name _).mono ?_
    rintro e w3 ⟨rfl, b3⟩
    have c4 := Lib.hid (sub_step b3 c3.out rfl)
    have R1 := R0.below b3 R0.lt
    clear b3 R0 f0 f1 f2 f3 f4 f5 f6 f7 f8
    obtain ⟨f0, f1, f2, f3, f4, f5, f6, f7, f8⟩ := R1.flat
    go_wp2_with fail
    refine (std0_start _).mono ?_
    rintro e w4 ⟨S1, s1, S2, s2, n1, n2, rfl, o1, o2, ap, m1, m2, b4⟩
    obtain rfl : n1 = 12 := by have := o1.len; simpa using this.symm
    obtain rfl : n2 = 2 := by have := o2.len; simpa using this.symm
    have c5 := Lib.hid (sub_step b4 c4.out rfl)
    have R2 := R1.below b4 R1.lt
    have lt4 := R2.lt
    have R3 := R2.alloc (.cells #[.slice S1 12 s1, .slice S2 2 s2, .int .i64 0] 28)
    have P3 := PosAt.box w4 28 S1 12 s1 S2 2 s2 0
    have c6 := Lib.hid (sub_alloc c5.out (.cells #[.slice S1 12 s1, .slice S2 2 s2, .int .i64 0] 28))
    have ba : Below w4.heap.size w4 (w4.alloc (.cells #[.slice S1 12 s1, .slice S2 2 s2, .int .i64 0] 28)) := (by repeat (first | with_reducible exact Below.refl _ _ | with_reducible assumption | with_reducible refine sub_alloc ?_ _ | (with_reducible refine sub_setCell2 ?_ ?_ _; (focus (first | (simp; done) | (simp <;> omega)))) | with_reducible refine sub_drew ?_ | with_reducible refine below_drewN ?_ _ | with_reducible refine sub_step (by assumption) ?_ (by first | rfl | (simp; done)) | exact Below.refl _ _ | assumption | refine sub_alloc ?_ _ | refine sub_setCell ?_ (by simp <;> omega) _ | refine sub_drew ?_ | refine below_drewN ?_ _ | refine sub_step (by assumption) ?_ (by first | rfl | (simp; done))))
    have J1 := Lib.hid (o1.ints.sub ba)
    have J2 := Lib.hid (o2.ints.sub ba)
    clear b4 R1 R2 o1 o2 ap ba f0 f1 f2 f3 f4 f5 f6 f7 f8
    obtain ⟨f0, f1, f2, f3, f4, f5, f6, f7, f8⟩ := R3.flat
    obtain ⟨d0, d1, d2⟩ := P3.flat
    go_wp2_with fail
    refine (std0_total _).mono ?_
    rintro e w5 ⟨rfl, b5⟩
    have c7 := Lib.hid (sub_step b5 c6.out rfl)
    have R4 := R3.below b5 R3.lt
    have P4 := P3.below b5 P3.lt
    have K1 := Lib.hid (J1.out.sub b5)
    have K2 := Lib.hid (J2.out.sub b5)
    clear b5 R3 P3 J1 J2 f0 f1 f2 f3 f4 f5 f6 f7 f8 d0 d1 d2
    obtain ⟨f0, f1, f2, f3, f4, f5, f6, f7, f8⟩ := R4.flat
    obtain ⟨d0, d1, d2⟩ := P4.flat
    go_wp2_with fail
    refine (std0_valid _).mono ?_
    rintro e w6 ⟨rfl, b6⟩
    have c8 := Lib.hid (sub_step b6 c7.out rfl)
    have R5 := R4.below b6 R4.lt
    have P5 := P4.below b6 P4.lt
    have J1 := Lib.hid (K1.out.sub b6)
    have J2 := Lib.hid (K2.out.sub b6)
    clear b6 R4 P4 K1 K2 f0 f1 f2 f3 f4 f5 f6 f7 f8 d0 d1 d2
    obtain ⟨f0, f1, f2, f3, f4, f5, f6, f7, f8⟩ := R5.flat
    obtain ⟨d0, d1, d2⟩ := P5.flat
    go_wp2_with fail
    refine (a2All_any S1 S2 12 s1 2 s2 (List.replicate 12 4) [0, 0] 0 _ (by exact J1.out) (by exact J2.out) (by decide) (by decide) (by omega) (by omega) 48 (by decide)).mono ?_
    rintro e w7 ⟨rfl, b7⟩
    have c9 := Lib.hid (sub_step b7 c8.out rfl)
    have R6 := R5.below b7 R5.lt
    have P6 := P5.below b7 P5.lt
    have K1 := Lib.hid (J1.out.sub b7)
    have K2 := Lib.hid (J2.out.sub b7)
    clear b7 R5 P5 J1 J2 f0 f1 f2 f3 f4 f5 f6 f7 f8 d0 d1 d2
    obtain ⟨f0, f1, f2, f3, f4, f5, f6, f7, f8⟩ := R6.flat
    obtain ⟨d0, d1, d2⟩ := P6.flat
    go_wp2_with fail
    refine (std0_whole S1 S2 12 s1 2 s2 _ (by exact K1.out) (by exact K2.out) (by omega)).mono ?_
    rintro e w8 ⟨rfl, b8⟩
    have c10 := Lib.hid (sub_step b8 c9.out rfl)
    go_wp2_with fail
    go_ret
    exact ⟨rfl, c10.out⟩
  · go_wp2_with fail
    refine (std1_rules _).mono ?_
    rintro e w2 ⟨rfl, b2⟩
    have c2 := Lib.hid (sub_step b2 B1.out rfl)
    have R0 := RuAt.box w2 31 3 2 false false false true false 1 0
    have c3 := Lib.hid (sub_alloc c2.out (.cells #[.int .i64 3, .int .i64 2, .bool false, .bool false, .bool false, .bool true, .bool false, .int .i64 1, .int .i64 0] 31))
    clear b2 q0 q1 q2 q3
    obtain ⟨f0, f1, f2, f3, f4, f5, f6, f7, f8⟩ := R0.flat
    go_wp2_with fail
    refine (std1_name _).mono ?_
    rintro e w3 ⟨rfl, b3⟩
    have c4 := Lib.hid (sub_step b3 c3.out rfl)
    have R1 := R0.below b3 R0.lt
    clear b3 R0 f0 f1 f2 f3 f4 f5 f6 f7 f8
    obtain ⟨f0, f1, f2, f3, f4, f5, f6, f7, f8⟩ := R1.flat
    go_wp2_with fail
    refine (std1_start _).mono ?_
    rintro e w4 ⟨S1, s1, S2, s2, n1, n2, rfl, o1, o2, ap, m1, m2, b4⟩
    obtain rfl : n1 = 6 := by have := o1.len; simpa using this.symm
    obtain rfl : n2 = 2 := by have := o2.len; simpa using this.symm
    have c5 := Lib.hid (sub_step b4 c4.out rfl)
    have R2 := R1.below b4 R1.lt
    have lt4 := R2.lt
    have R3 := R2.alloc (.cells #[.slice S1 6 s1, .slice S2 2 s2, .int .i64 0] 28)
    have P3 := PosAt.box w4 28 S1 6 s1 S2 2 s2 0
    have c6 := Lib.hid (sub_alloc c5.out (.cells #[.slice S1 6 s1, .slice S2 2 s2, .int .i64 0] 28))
    have ba : Below w4.heap.size w4 (w4.alloc (.cells #[.slice S1 6 s1, .slice S2 2 s2, .int .i64 0] 28)) := (by repeat (first | with_reducible exact Below.refl _ _ | with_reducible assumption | with_reducible refine sub_alloc ?_ _ | (with_reducible refine sub_setCell2 ?_ ?_ _; (focus (first | (simp; done) | (simp <;> omega)))) | with_reducible refine sub_drew ?_ | with_reducible refine below_drewN ?_ _ | with_reducible refine sub_step (by assumption) ?_ (by first | rfl | (simp; done)) | exact Below.refl _ _ | assumption | refine sub_alloc ?_ _ | refine sub_setCell ?_ (by simp <;> omega) _ | refine sub_drew ?_ | refine below_drewN ?_ _ | refine sub_step (by assumption) ?_ (by first | rfl | (simp; done))))
    have J1 := Lib.hid (o1.ints.sub ba)
    have J2 := Lib.hid (o2.ints.sub ba)
    clear b4 R1 R2 o1 o2 ap ba f0 f1 f2 f3 f4 f5 f6 f7 f8
    obtain ⟨f0, f1, f2, f3, f4, f5, f6, f7, f8⟩ := R3.flat
    obtain ⟨d0, d1, d2⟩ := P3.flat
    go_wp2_with fail
    refine (std1_total _).mono ?_
    rintro e w5 ⟨rfl, b5⟩
    have c7 := Lib.hid (sub_step b5 c6.out rfl)
    have R4 := R3.below b5 R3.lt
    have P4 := P3.below b5 P3.lt
    have K1 := Lib.hid (J1.out.sub b5)
    have K2 := Lib.hid (J2.out.sub b5)
    clear b5 R3 P3 J1 J2 f0 f1 f2 f3 f4 f5 f6 f7 f8 d0 d1 d2
    obtain ⟨f0, f1, f2, f3, f4, f5, f6, f7, f8⟩ := R4.flat
    obtain ⟨d0, d1, d2⟩ := P4.flat
    go_wp2_with fail
    refine (std1_valid _).mono ?_
    rintro e w6 ⟨rfl, b6⟩
    have c8 := Lib.hid (sub_step b6 c7.out rfl)
    have R5 := R4.below b6 R4.lt
    have P5 := P4.below b6 P4.lt
    have J1 := Lib.hid (K1.out.sub b6)
    have J2 := Lib.hid (K2.out.sub b6)
    clear b6 R4 P4 K1 K2 f0 f1 f2 f3 f4 f5 f6 f7 f8 d0 d1 d2
    obtain ⟨f0, f1, f2, f3, f4, f5, f6, f7, f8⟩ := R5.flat
    obtain ⟨d0, d1, d2⟩ := P5.flat
    go_wp2_with fail
    refine (a2All_any S1 S2 6 s1 2 s2 (List.replicate 6 2) [0, 0] 0 _ (by exact J1.out) (by exact J2.out) (by decide) (by decide) (by omega) (by omega) 12 (by decide)).mono ?_
    rintro e w7 ⟨rfl, b7⟩
    have c9 := Lib.hid (sub_step b7 c8.out rfl)
    have R6 := R5.below b7 R5.lt
    have P6 := P5.below b7 P5.lt
    have K1 := Lib.hid (J1.out.sub b7)
    have K2 := Lib.hid (J2.out.sub b7)
    clear b7 R5 P5 J1 J2 f0 f1 f2 f3 f4 f5 f6 f7 f8 d0 d1 d2
    obtain ⟨f0, f1, f2, f3, f4, f5, f6, f7, f8⟩ := R6.flat
    obtain ⟨d0, d1, d2⟩ := P6.flat
    go_wp2_with fail
    refine (std1_whole S1 S2 6 s1 2 s2 _ (by exact K1.out) (by exact K2.out) (by omega)).mono ?_
    rintro e w8 ⟨rfl, b8⟩
    have c10 := Lib.hid (sub_step b8 c9.out rfl)
    go_wp2_with fail
    go_ret
    exact ⟨rfl, c10.out⟩
  · go_wp2_with fail
    refine (std2_rules _).mono ?_
    rintro e w2 ⟨rfl, b2⟩
    have c2 := Lib.hid (sub_step b2 B1.out rfl)
    have R0 := RuAt.box w2 31 6 4 false true false true false 1 2
    have c3 := Lib.hid (sub_alloc c2.out (.cells #[.int .i64 6, .int .i64 4, .bool false, .bool true, .bool false, .bool true, .bool false, .int .i64 1, .int .i64 2] 31))
    clear b2 q0 q1 q2 q3
    obtain ⟨f0, f1, f2, f3, f4, f5, f6, f7, f8⟩ := R0.flat
    go_wp2_with fail
    refine (std2_name _).mono ?_
    rintro e w3 ⟨rfl, b3⟩
    have c4 := Lib.hid (sub_step b3 c3.out rfl)
    have R1 := R0.below b3 R0.lt
    clear b3 R0 f0 f1 f2 f3 f4 f5 f6 f7 f8
    obtain ⟨f0, f1, f2, f3, f4, f5, f6, f7, f8⟩ := R1.flat
    go_wp2_with fail
    refine (std2_start _).mono ?_
    rintro e w4 ⟨S1, s1, S2, s2, n1, n2, rfl, o1, o2, ap, m1, m2, b4⟩
    obtain rfl : n1 = 12 := by have := o1.len; simpa using this.symm
    obtain rfl : n2 = 2 := by have := o2.len; simpa using this.symm
    have c5 := Lib.hid (sub_step b4 c4.out rfl)
    have R2 := R1.below b4 R1.lt
    have lt4 := R2.lt
    have R3 := R2.alloc (.cells #[.slice S1 12 s1, .slice S2 2 s2, .int .i64 0] 28)
    have P3 := PosAt.box w4 28 S1 12 s1 S2 2 s2 0
    have c6 := Lib.hid (sub_alloc c5.out (.cells #[.slice S1 12 s1, .slice S2 2 s2, .int .i64 0] 28))
    have ba : Below w4.heap.size w4 (w4.alloc (.cells #[.slice S1 12 s1, .slice S2 2 s2, .int .i64 0] 28)) := (by repeat (first | with_reducible exact Below.refl _ _ | with_reducible assumption | with_reducible refine sub_alloc ?_ _ | (with_reducible refine sub_setCell2 ?_ ?_ _; (focus (first | (simp; done) | (simp <;> omega)))) | with_reducible refine sub_drew ?_ | with_reducible refine below_drewN ?_ _ | with_reducible refine sub_step (by assumption) ?_ (by first | rfl | (simp; done)) | exact Below.refl _ _ | assumption | refine sub_alloc ?_ _ | refine sub_setCell ?_ (by simp <;> omega) _ | refine sub_drew ?_ | refine below_drewN ?_ _ | refine sub_step (by assumption) ?_ (by first | rfl | (simp; done))))
    have J1 := Lib.hid (o1.ints.sub ba)
    have J2 := Lib.hid (o2.ints.sub ba)
    clear b4 R1 R2 o1 o2 ap ba f0 f1 f2 f3 f4 f5 f6 f7 f8
    obtain ⟨f0, f1, f2, f3, f4, f5, f6, f7, f8⟩ := R3.flat
    obtain ⟨d0, d1, d2⟩ := P3.flat
    go_wp2_with fail
    refine (std2_total _).mono ?_
    rintro e w5 ⟨rfl, b5⟩
    have c7 := Lib.hid (sub_step b5 c6.out rfl)
    have R4 := R3.below b5 R3.lt
    have P4 := P3.below b5 P3.lt
    have K1 := Lib.hid (J1.out.sub b5)
    have K2 := Lib.hid (J2.out.sub b5)
    clear b5 R3 P3 J1 J2 f0 f1 f2 f3 f4 f5 f6 f7 f8 d0 d1 d2
    obtain ⟨f0, f1, f2, f3, f4, f5, f6, f7, f8⟩ := R4.flat
    obtain ⟨d0, d1, d2⟩ := P4.flat
    go_wp2_with fail
    refine (std2_valid _).mono ?_
    rintro e w6 ⟨rfl, b6⟩
    have c8 := Lib.hid (sub_step b6 c7.out rfl)
    have R5 := R4.below b6 R4.lt
    have P5 := P4.below b6 P4.lt
    have J1 := Lib.hid (K1.out.sub b6)
    have J2 := Lib.hid (K2.out.sub b6)
    clear b6 R4 P4 K1 K2 f0 f1 f2 f3 f4 f5 f6 f7 f8 d0 d1 d2
    obtain ⟨f0, f1, f2, f3, f4, f5, f6, f7, f8⟩ := R5.flat
    obtain ⟨d0, d1, d2⟩ := P5.flat
    go_wp2_with fail
    refine (a2All_any S1 S2 12 s1 2 s2 (List.replicate 12 4) [0, 0] 0 _ (by exact J1.out) (by exact J2.out) (by decide) (by decide) (by omega) (by omega) 48 (by decide)).mono ?_
    rintro e w7 ⟨rfl, b7⟩
    have c9 := Lib.hid (sub_step b7 c8.out rfl)
    have R6 := R5.below b7 R5.lt
    have P6 := P5.below b7 P5.lt
    have K1 := Lib.hid (J1.out.sub b7)
    have K2 := Lib.hid (J2.out.sub b7)
    clear b7 R5 P5 J1 J2 f0 f1 f2 f3 f4 f5 f6 f7 f8 d0 d1 d2
    obtain ⟨f0, f1, f2, f3, f4, f5, f6, f7, f8⟩ := R6.flat
    obtain ⟨d0, d1, d2⟩ := P6.flat
    go_wp2_with fail
    refine (std2_whole S1 S2 12 s1 2 s2 _ (by exact K1.out) (by exact K2.out) (by omega)).mono ?_
    rintro e w8 ⟨rfl, b8⟩
    have c10 := Lib.hid (sub_step b8 c9.out rfl)
    go_wp2_with fail
    go_ret
    exact ⟨rfl, c10.out⟩
  · go_wp2_with fail
    refine (std3_rules _).mono ?_
    rintro e w2 ⟨rfl, b2⟩
    have c2 := Lib.hid (sub_step b2 B1.out rfl)
    have R0 := RuAt.box w2 31 4 2 false false true false false 2 0
    have c3 := Lib.hid (sub_alloc c2.out (.cells #[.int .i64 4, .int .i64 2, .bool false, .bool false, .bool true, .bool false, .bool false, .int .i64 2, .int .i64 0] 31))
    clear b2 q0 q1 q2 q3
    obtain ⟨f0, f1, f2, f3, f4, f5, f6, f7, f8⟩ := R0.flat
    go_wp2_with fail
    refine (std3_name _).mono ?_
    rintro e w3 ⟨rfl, b3⟩
    have c4 := Lib.hid (sub_step b3 c3.out rfl)
    have R1 := R0.below b3 R0.lt
    clear b3 R0 f0 f1 f2 f3 f4 f5 f6 f7 f8
    obtain ⟨f0, f1, f2, f3, f4, f5, f6, f7, f8⟩ := R1.flat
    go_wp2_with fail
    refine (std3_start _).mono ?_
    rintro e w4 ⟨S1, s1, S2, s2, n1, n2, rfl, o1, o2, ap, m1, m2, b4⟩
    obtain rfl : n1 = 8 := by have := o1.len; simpa using this.symm
    obtain rfl : n2 = 2 := by have := o2.len; simpa using this.symm
    have c5 := Lib.hid (sub_step b4 c4.out rfl)
    have R2 := R1.below b4 R1.lt
    have lt4 := R2.lt
    have R3 := R2.alloc (.cells #[.slice S1 8 s1, .slice S2 2 s2, .int .i64 0] 28)
    have P3 := PosAt.box w4 28 S1 8 s1 S2 2 s2 0
    have c6 := Lib.hid (sub_alloc c5.out (.cells #[.slice S1 8 s1, .slice S2 2 s2, .int .i64 0] 28))
    have ba : Below w4.heap.size w4 (w4.alloc (.cells #[.slice S1 8 s1, .slice S2 2 s2, .int .i64 0] 28)) := (by repeat (first | with_reducible exact Below.refl _ _ | with_reducible assumption | with_reducible refine sub_alloc ?_ _ | (with_reducible refine sub_setCell2 ?_ ?_ _; (focus (first | (simp; done) | (simp <;> omega)))) | with_reducible refine sub_drew ?_ | with_reducible refine below_drewN ?_ _ | with_reducible refine sub_step (by assumption) ?_ (by first | rfl | (simp; done)) | exact Below.refl _ _ | assumption | refine sub_alloc ?_ _ | refine sub_setCell ?_ (by simp <;> omega) _ | refine sub_drew ?_ | refine below_drewN ?_ _ | refine sub_step (by assumption) ?_ (by first | rfl | (simp; done))))
    have J1 := Lib.hid (o1.ints.sub ba)
    have J2 := Lib.hid (o2.ints.sub ba)
    clear b4 R1 R2 o1 o2 ap ba f0 f1 f2 f3 f4 f5 f6 f7 f8
    obtain ⟨f0, f1, f2, f3, f4, f5, f6, f7, f8⟩ := R3.flat
    obtain ⟨d0, d1, d2⟩ := P3.flat
    go_wp2_with fail
    refine (std3_total _).mono ?_
    rintro e w5 ⟨rfl, b5⟩
    have c7 := Lib.hid (sub_step b5 c6.out rfl)
    have R4 := R3.below b5 R3.lt
    have P4 := P3.below b5 P3.lt
    have K1 := Lib.hid (J1.out.sub b5)
    have K2 := Lib.hid (J2.out.sub b5)
    clear b5 R3 P3 J1 J2 f0 f1 f2 f3 f4 f5 f6 f7 f8 d0 d1 d2
    obtain ⟨f0, f1, f2, f3, f4, f5, f6, f7, f8⟩ := R4.flat
    obtain ⟨d0, d1, d2⟩ := P4.flat
    go_wp2_with fail
    refine (std3_valid _).mono ?_
    rintro e w6 ⟨rfl, b6⟩
    have c8 := Lib.hid (sub_step b6 c7.out rfl)
    have R5 := R4.below b6 R4.lt
    have P5 := P4.below b6 P4.lt
    have J1 := Lib.hid (K1.out.sub b6)
    have J2 := Lib.hid (K2.out.sub b6)
    clear b6 R4 P4 K1 K2 f0 f1 f2 f3 f4 f5 f6 f7 f8 d0 d1 d2
    obtain ⟨f0, f1, f2, f3, f4, f5, f6, f7, f8⟩ := R5.flat
    obtain ⟨d0, d1, d2⟩ := P5.flat
    go_wp2_with fail
    refine (a2All_any S1 S2 8 s1 2 s2 (List.replicate 8 2) [0, 0] 0 _ (by exact J1.out) (by exact J2.out) (by decide) (by decide) (by omega) (by omega) 16 (by decide)).mono ?_
    rintro e w7 ⟨rfl, b7⟩
    have c9 := Lib.hid (sub_step b7 c8.out rfl)
    have R6 := R5.below b7 R5.lt
    have P6 := P5.below b7 P5.lt
    have K1 := Lib.hid (J1.out.sub b7)
    have K2 := Lib.hid (J2.out.sub b7)
    clear b7 R5 P5 J1 J2 f0 f1 f2 f3 f4 f5 f6 f7 f8 d0 d1 d2
    obtain ⟨f0, f1, f2, f3, f4, f5, f6, f7, f8⟩ := R6.flat
    obtain ⟨d0, d1, d2⟩ := P6.flat
    go_wp2_with fail
    refine (std3_whole S1 S2 8 s1 2 s2 _ (by exact K1.out) (by exact K2.out) (by omega)).mono ?_
    rintro e w8 ⟨rfl, b8⟩
    have c10 := Lib.hid (sub_step b8 c9.out rfl)
    go_wp2_with fail
    go_ret
    exact ⟨rfl, c10.out⟩
end Go.Proofs.Ytnanaldolnehiaa
