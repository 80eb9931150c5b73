/-
  The seeds of a side: l04Side, side.
-/
import Derived.Test.YtnanaldolnehiaaLead
namespace Go.Proofs.Ytnanaldolnehiaa
open Go.ChangeShapes Go.WideShapes Go.RowKit Go.Deep

theorem okN_drop {xs : List Int} (h : okN xs = true) (k : Nat) : okN (xs.drop k) = true := by
  simp only [okN, List.all_eq_true] at h ⊢
  exact fun x hx => h x (List.mem_of_mem_drop hx)
theorem okN_take {xs : List Int} (h : okN xs = true) (k : Nat) : okN (xs.take k) = true := by
  simp only [okN, List.all_eq_true] at h ⊢
  exact fun x hx => h x (List.mem_of_mem_take hx)
theorem sum_split (xs : List Int) (k : Nat) : xs.sum = (xs.take k).sum + (xs.drop k).sum := by
  rw [← List.sum_append, List.take_append_drop]
/-- The seeds in the pits of a player. -/
def sideV (p : Int) (xs : List Int) (pl : Int) : Int := ((xs.drop (pl * p).toNat).take p.toNat).sum
theorem part_bd {xs : List Int} (h : okN xs = true) (l j : Nat) : 0 ≤ ((xs.drop l).take j).sum ∧ ((xs.drop l).take j).sum ≤ xs.sum := by
  have a := sum_split xs l
  have b := sum_split (xs.drop l) j
  have c := (okN_bd _ (okN_take h l)).1
  have d := (okN_bd _ (okN_take (okN_drop h l) j)).1
  have e := (okN_bd _ (okN_drop (okN_drop h l) j)).1
  omega
theorem okN_at {zs : List Int} (h : okN zs = true) {k : Nat} {x : Int} (hx : zs[k]? = some x) : 0 ≤ x ∧ x ≤ 96 := by
  simp only [okN, List.all_eq_true] at h
  have := h x (List.mem_of_getElem? hx)
  simpa [inB] using this
theorem part_snoc {zs : List Int} {l j : Nat} {x : Int} (hx : zs[l + j]? = some x) : ((zs.drop l).take (j + 1)).sum = ((zs.drop l).take j).sum + x := by
  refine sum_snoc ?_
  rw [List.getElem?_drop]
  exact hx

set_option maxHeartbeats 400000 in
theorem l04Side_any (b o : Nat) (r : Ru) (pl : Int) (B : Nat) (A : Option Addr) (n c : Nat) (zs : List Int) (w : World) (hr : RuAt w b o r) (h : Ints w B A n c zs) (hq : (n : Int) = 2 * r.pits) (q0 : 2 ≤ r.pits) (q1 : r.pits ≤ 8) (hk : okN zs = true) (p0 : 0 ≤ pl) (p1 : pl ≤ 1) :
    Calls Try.prog 157 #[.pointer (some ⟨b, o, none⟩), .slice A n c, .int .i64 pl] w fun e w' => e = .returned (.int .i64 (sideV r.pits zs pl)) ∧ ∃ m, w' = w.drewN m := by
  obtain ⟨p, s, st, sk, re, fe, ag, cc, sl⟩ := r
  dsimp only at hq q0 q1 ⊢
  obtain ⟨q, rfl⟩ : ∃ q : Nat, p = (q : Int) := ⟨p.toNat, by omega⟩
  have r0 : w.cell? ⟨b, o, none⟩ = some (.int .i64 (q : Int)) := hr.1
  have HL := Lib.hid h.len
  have HN := Lib.hid (okN_bd zs hk)
  have HK := Lib.hid hk
  obtain ⟨bb, off, rfl, -, hc⟩ := h.at_ (by omega)
  clear h hr hk
  obtain rfl : n = 2 * q := by omega
  rcases (show pl = 0 ∨ pl = 1 by omega) with rfl | rfl
  · clear p0 p1
    go_enter Try.func157, Try.ntmps157
    go_wp2
    go_loopw [7, 8] (fun s i wr => ∃ j : Nat, j ≤ q ∧ i = .int .i64 ((j : Int)) ∧ s = .int .i64 (zs.take j).sum ∧ ∃ m, wr = w.drewN m) (fun _ i _ => 2 * q - (intOf i).toNat)
    case atStart => exact ⟨0, Nat.zero_le _, by simp, by simp, 0, rfl⟩
    case round =>
      obtain ⟨j, hj, rfl, rfl, m, rfl⟩ := hrel
      have hb := part_bd HK.out 0 j
      have hb2 := HN.out
      rw [HL.out] at hb2
      have hs0 : 0 ≤ (zs.take j).sum := by simpa using hb.1
      have hs1 : (zs.take j).sum ≤ 1536 := by have := hb.2; (try simp at this); omega
      clear hb hb2
      by_cases hlt : j < q
      · obtain ⟨x, hx⟩ := get_some (zs := zs) (k := j) (by rw [HL.out]; omega)
        have hb3 := okN_at HK.out hx
        obtain ⟨x0, x1⟩ := hb3
        have cx := hc (j) x hx
        have HX := Lib.hid hx
        clear hx hc
        go_wp2_with fail
        go_roundw
        case rel => exact ⟨j + 1, by omega, by go_num, by rw [sum_snoc HX.out], _, rfl⟩
        case measure => simp [intOf]; omega
      · obtain rfl : j = q := by omega
        clear hlt hc
        go_wp2
        go_ret
        exact ⟨ret_int (by simp [sideV]), _, rfl⟩
  · clear p0 p1
    go_enter Try.func157, Try.ntmps157
    go_wp2
    go_loopw [7, 8] (fun s i wr => ∃ j : Nat, j ≤ q ∧ i = .int .i64 ((q : Int) + (j : Int)) ∧ s = .int .i64 ((zs.drop q).take j).sum ∧ ∃ m, wr = w.drewN m) (fun _ i _ => 2 * q - (intOf i).toNat)
    case atStart => exact ⟨0, Nat.zero_le _, by simp, by simp, 0, rfl⟩
    case round =>
      obtain ⟨j, hj, rfl, rfl, m, rfl⟩ := hrel
      have hb := part_bd HK.out q j
      have hb2 := HN.out
      rw [HL.out] at hb2
      have hs0 : 0 ≤ ((zs.drop q).take j).sum := by simpa using hb.1
      have hs1 : ((zs.drop q).take j).sum ≤ 1536 := by have := hb.2; (try simp at this); omega
      clear hb hb2
      by_cases hlt : j < q
      · obtain ⟨x, hx⟩ := get_some (zs := zs) (k := q + j) (by rw [HL.out]; omega)
        have hb3 := okN_at HK.out hx
        obtain ⟨x0, x1⟩ := hb3
        have cx := hc (q + j) x hx
        have HX := Lib.hid hx
        clear hx hc
        go_wp2_with fail
        go_roundw
        case rel => exact ⟨j + 1, by omega, by go_num, by rw [part_snoc HX.out], _, rfl⟩
        case measure => simp [intOf]; omega
      · obtain rfl : j = q := by omega
        clear hlt hc
        go_wp2
        go_ret
        exact ⟨ret_int (by simp [sideV]), _, rfl⟩
end Go.Proofs.Ytnanaldolnehiaa
