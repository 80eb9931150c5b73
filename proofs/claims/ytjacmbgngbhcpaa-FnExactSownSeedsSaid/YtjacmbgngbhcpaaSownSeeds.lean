/-
  The number of all seeds of a sown board: SownSeeds.
-/
import Derived.Test.YtjacmbgngbhcpaaAppend
import Derived.Test.YtjacmbgngbhcpaaSown
set_option linter.unusedSimpArgs false
set_option linter.unusedVariables false
namespace Go.Proofs.Ytjacmbgngbhcpaa
open Go.ChangeShapes Go.WideShapes Go.RowKit Go.Deep

/-- The sum, as int64 reckons it. -/
def sumW (zs : List Int) : Int := zs.foldl (fun s x => wrap64 (s + x)) 0
theorem sumW_snoc {zs : List Int} {k : Nat} {x : Int} (hx : zs[k]? = some x) : sumW (zs.take (k + 1)) = wrap64 (sumW (zs.take k) + x) := by
  rw [List.take_add_one, hx]
  simp [sumW, List.foldl_append]
theorem sumW_snoc2 {zs ys : List Int} {k : Nat} {x : Int} (hx : ys[k]? = some x) : sumW (zs ++ ys.take (k + 1)) = wrap64 (sumW (zs ++ ys.take k) + x) := by
  rw [List.take_add_one, hx, ← List.append_assoc]
  simp [sumW, List.foldl_append]

set_option maxHeartbeats 1000000 in
theorem specSownSeeds_any (A A' : Option Addr) (n u n' u' : Nat) (xs xs' : List Int) (la lp : Int) (w : World) (h : Ints w w.heap.size A n u xs) (h' : Ints w w.heap.size A' n' u' xs') (hn : n ≤ 4294967296) (hn' : n' ≤ 4294967296) :
    Calls Try.prog 19 #[.agg #[.slice A n u, .slice A' n' u', .int .i64 la, .int .i64 lp]] w fun e w' => e = .returned (.int .i64 (sumW (xs ++ xs'))) ∧ Below w.heap.size w w' := by
  have HL := Lib.hid h.len
  have HL' := Lib.hid h'.len
  have HH := Lib.hid h
  have HH' := Lib.hid h'
  clear h h'
  go_enter Try.func19, Try.ntmps19
  go_wp2
  go_loopw [3, 4] (fun s i wr => ∃ k : Nat, k ≤ n ∧ i = .int .i64 k ∧ s = .int .i64 (sumW (xs.take k)) ∧ wr = w.alloc (.cells #[.slice A n u, .slice A' n' u', .int .i64 la, .int .i64 lp] 27)) (fun _ i _ => n - (intOf i).toNat)
  case atStart => exact ⟨0, Nat.zero_le _, rfl, rfl, rfl⟩
  case round =>
    obtain ⟨k, hk, rfl, rfl, rfl⟩ := hrel
    by_cases hlt : k < n
    · obtain ⟨x, hx⟩ := get_some (zs := xs) (k := k) (by rw [HL.out]; exact hlt)
      obtain ⟨b, off, rfl, hbb, hc⟩ := HH.out.at_ (by omega)
      have cx := hc k x hx
      have HX := Lib.hid hx
      clear hx hc
      have i0 : (0 : Int) ≤ (k : Int) := by omega
      have i1 : (k : Int) < (n : Int) := by omega
      go_wp2
      go_roundw
      case rel => exact ⟨k + 1, by omega, by go_num, by rw [sumW_snoc HX.out]; exact ⟨rfl, trivial⟩⟩
      case measure => simp [intOf]; omega
    · obtain rfl : k = n := by omega
      clear hlt
      have e1 : xs.take k = xs := by rw [← HL.out, List.take_length]
      rw [e1]
      clear e1
      go_wp2
      go_loopw [3, 5] (fun s i wr => ∃ j : Nat, j ≤ n' ∧ i = .int .i64 j ∧ s = .int .i64 (sumW (xs ++ xs'.take j)) ∧ wr = w.alloc (.cells #[.slice A k u, .slice A' n' u', .int .i64 la, .int .i64 lp] 27)) (fun _ i _ => n' - (intOf i).toNat)
      case atStart => exact ⟨0, Nat.zero_le _, rfl, by simp, rfl⟩
      case round =>
        obtain ⟨j, hj, rfl, rfl, rfl⟩ := hrel
        by_cases hlt : j < n'
        · obtain ⟨x, hx⟩ := get_some (zs := xs') (k := j) (by rw [HL'.out]; exact hlt)
          obtain ⟨b, off, rfl, hbb, hc⟩ := HH'.out.at_ (by omega)
          have cx := hc j x hx
          have HX := Lib.hid hx
          clear hx hc
          have i0 : (0 : Int) ≤ (j : Int) := by omega
          have i1 : (j : Int) < (n' : Int) := by omega
          go_wp2
          go_roundw
          case rel => exact ⟨j + 1, by omega, by go_num, by rw [sumW_snoc2 HX.out]; exact ⟨rfl, trivial⟩⟩
          case measure => simp [intOf]; omega
        · obtain rfl : j = n' := by omega
          clear hlt
          have e1 : xs'.take j = xs' := by rw [← HL'.out, List.take_length]
          rw [e1]
          clear e1
          go_wp2
          go_ret
          exact ⟨rfl, (by repeat (first | with_reducible exact Below.refl _ _ | with_reducible assumption | with_reducible refine sub_alloc ?_ _ | (with_reducible refine sub_setCell2 ?_ ?_ _; (focus (first | (simp; done) | (simp <;> omega)))) | with_reducible refine sub_drew ?_ | with_reducible refine below_drewN ?_ _ | with_reducible refine sub_step (by assumption) ?_ (by first | rfl | (simp; done)) | exact Below.refl _ _ | assumption | refine sub_alloc ?_ _ | refine sub_setCell ?_ (by simp <;> omega) _ | refine sub_drew ?_ | refine below_drewN ?_ _ | refine sub_step (by assumption) ?_ (by first | rfl | (simp; done))))⟩
set_option maxRecDepth 100000 in
set_option maxHeartbeats 1000000 in
theorem SownSeeds_any (A A' : Option Addr) (n u n' u' : Nat) (xs xs' : List Int) (la lp : Int) (w : World) (h : Ints w w.heap.size A n u xs) (h' : Ints w w.heap.size A' n' u' xs') (hn : n ≤ 4294967296) (hn' : n' ≤ 4294967296) :
    Calls Try.prog 21 #[.agg #[.slice A n u, .slice A' n' u', .int .i64 la, .int .i64 lp]] w fun e w' => e = .returned (.int .i64 (sumW (xs ++ xs'))) ∧ Below w.heap.size w w' := by
  have HL := Lib.hid (show (xs ++ xs').length = n + n' by rw [List.length_append, h.len, h'.len])
  have hbW : Below w.heap.size w (w.alloc (.cells #[.slice A n u, .slice A' n' u', .int .i64 la, .int .i64 lp] 27)) := (by repeat (first | with_reducible exact Below.refl _ _ | with_reducible assumption | with_reducible refine sub_alloc ?_ _ | (with_reducible refine sub_setCell2 ?_ ?_ _; (focus (first | (simp; done) | (simp <;> omega)))) | with_reducible refine sub_drew ?_ | with_reducible refine below_drewN ?_ _ | with_reducible refine sub_step (by assumption) ?_ (by first | rfl | (simp; done)) | exact Below.refl _ _ | assumption | refine sub_alloc ?_ _ | refine sub_setCell ?_ (by simp <;> omega) _ | refine sub_drew ?_ | refine below_drewN ?_ _ | refine sub_step (by assumption) ?_ (by first | rfl | (simp; done))))
  have HH := Lib.hid (h.sub hbW)
  have HH' := Lib.hid (h'.sub hbW)
  have P0 := SoAt.box w 27 A n u A' n' u' la lp
  obtain ⟨c0, c1, c2, c3⟩ := P0.flat
  clear h h'
  go_enter Try.func21, Try.ntmps21
  go_wp2_with fail
  go_region_held3 (fun w' => w'.cell? ⟨w.heap.size, 0, none⟩ = some (.slice A n u) ∧ w'.cell? ⟨w.heap.size, 1, none⟩ = some (.slice A' n' u')) (first | (refine ⟨?_, ?_⟩ <;> assumption) | go_keep) (first
    | (go_at_call 65; refine (copyNumbers_any _ _ _ _ xs _ (by exact HH.out) hn (by simp)).mono ?_; rintro e w1 ⟨A1, u1, rfl, ho1, hb1⟩; have hb1 := undrew hb1; have Y0 := P0.below hb1 P0.lt; obtain ⟨y0, y1, y2, y3⟩ := Y0.flat)
    | (refine step_append64 rfl (.tmp 8) (.tmp 10) rfl _ A1 n u1 xs A' n' u' _ xs' (by simp [Act.eval, Act.put]) (by simp [Act.eval, Act.put]) ho1 (by exact HH'.out.sub hb1) hn hn' (by have := hb1.size; simpa using this) ?_; intro A2 u2 w2 ho2 hg2; have hb2 := Own.growBelow hb1 ho1 hg2 (by simp) (by have := hb1.size; simpa using this); have Z0 := P0.below hb2 P0.lt; obtain ⟨z0, z1, z2, z3⟩ := Z0.flat))
  have b2 : Below w.heap.size w w2 := sub_step hb2 hbW rfl
  have HO := Lib.hid ho2
  clear ho1 hb1 hg2 hb2 Y0 y0 y1 y2 y3 z0 z1 z2 z3 Z0
  go_wp2
  go_loopw [3, 13] (fun s i wr => ∃ k : Nat, k ≤ n + n' ∧ i = .int .i64 k ∧ s = .int .i64 (sumW ((xs ++ xs').take k)) ∧ wr = w2) (fun _ i _ => n + n' - (intOf i).toNat)
  case atStart => exact ⟨0, Nat.zero_le _, rfl, rfl, rfl⟩
  case round =>
    obtain ⟨k, hk, rfl, rfl, rfl⟩ := hrel
    by_cases hlt : k < n + n'
    · obtain ⟨x, hx⟩ := get_some (zs := xs ++ xs') (k := k) (by rw [HL.out]; exact hlt)
      obtain ⟨b, off, rfl, hbb, hc⟩ := HO.out.ints.at_ (by omega)
      have cx := hc k x hx
      have HX := Lib.hid hx
      clear hx hc
      have i0 : (0 : Int) ≤ (k : Int) := by omega
      have i1 : (k : Int) < (n : Int) + (n' : Int) := by omega
      go_wp2
      go_roundw
      case rel => exact ⟨k + 1, by omega, by go_num, by rw [sumW_snoc HX.out]; exact ⟨rfl, trivial⟩⟩
      case measure => simp [intOf]; omega
    · obtain rfl : k = n + n' := by omega
      clear hlt
      have e1 : (xs ++ xs').take (n + n') = xs ++ xs' := by rw [← HL.out, List.take_length]
      rw [e1]
      clear e1
      go_wp2
      go_ret
      exact ⟨rfl, b2⟩
end Go.Proofs.Ytjacmbgngbhcpaa
