/-
  The checksum of a text: what the program's and the reference's loops compute.
-/
import Derived.Test.YtnanaldolnehiaaArgs
set_option linter.unusedSimpArgs false
set_option linter.unusedVariables false
namespace Go.Proofs.Ytnanaldolnehiaa
open Go.ChangeShapes Go.WideShapes Go.RowKit Go.Deep

/-- The checksum of the first bytes. -/
def cks (l : List UInt8) : Int := l.foldl (fun s c => (31 * s + (c.toNat : Int)) % 65521) 1
theorem cks_bd (l : List UInt8) : 0 ≤ cks l ∧ cks l < 65521 := by
  suffices h : ∀ (l : List UInt8) (s : Int), 0 ≤ s → s < 65521 → 0 ≤ l.foldl (fun s c => (31 * s + (c.toNat : Int)) % 65521) s ∧ l.foldl (fun s c => (31 * s + (c.toNat : Int)) % 65521) s < 65521 from
    h l 1 (by omega) (by omega)
  intro l
  induction l with
  | nil => intro s h0 h1; exact ⟨h0, h1⟩
  | cons c r ih => intro s _ _; exact ih _ (by show 0 ≤ (31 * s + (c.toNat : Int)) % 65521; omega) (by show (31 * s + (c.toNat : Int)) % 65521 < 65521; omega)
theorem cks_snoc (l : List UInt8) (c : UInt8) : cks (l ++ [c]) = (31 * cks l + (c.toNat : Int)) % 65521 := by
  simp [cks, List.foldl_append]
theorem take_snoc (s : ByteArray) (k : Nat) (h : k < s.size) : s.data.toList.take (k + 1) = s.data.toList.take k ++ [s[k]] := by
  rw [List.take_succ_eq_append_getElem (by simpa using h)]; rfl
theorem ret_int {k : IntKind} {a b : Int} (h : a = b) : Ending.returned (.int k a) = .returned (.int k b) := by rw [h]

set_option maxHeartbeats 1000000 in
theorem l14Sum_any (s : ByteArray) (w : World) (hs : s.size ≤ 9223372036854775807) :
    Calls Try.prog 159 #[.string s] w fun e w' => e = .returned (.int .i64 (cks s.data.toList)) ∧ w = w' := by
  go_enter Try.func159, Try.ntmps159
  go_wp2
  go_loop [3, 4] (fun n i => ∃ k : Nat, k ≤ s.size ∧ i = .int .i64 k ∧ n = .int .i64 (cks (s.data.toList.take k))) (fun _ i => s.size - (intOf i).toNat)
  case atStart => exact ⟨0, Nat.zero_le _, rfl, rfl⟩
  case round =>
    obtain ⟨k, hk, rfl, rfl⟩ := hrel
    obtain ⟨hd0, hd1⟩ := cks_bd (s.data.toList.take k)
    by_cases hlt : k < s.size
    · have HS : Hid (cks (s.data.toList.take (k + 1)) = (31 * cks (s.data.toList.take k) + (s[k].toNat : Int)) % 65521) := by rw [take_snoc s k hlt]; exact cks_snoc _ _
      have hbt : (s[k].toNat : Int) ≤ 255 := by have := s[k].toNat_lt; omega
      go_wp2
      go_round
      case rel => exact ⟨k + 1, by omega, by go_num, by rw [HS.out]⟩
      case measure => simp [intOf]; omega
    · go_wp2
      go_ret
      exact ⟨ret_int (by rw [List.take_of_length_le (by simp; omega)]), rfl⟩
set_option maxHeartbeats 1000000 in
theorem ChecksumOf_any (s : ByteArray) (w : World) (hs : s.size ≤ 9223372036854775807) :
    Calls Try.prog 122 #[.string s] w fun e w' => e = .returned (.int .i64 (cks s.data.toList)) ∧ w = w' := by
  go_enter Try.func122, Try.ntmps122
  go_wp2
  go_loop [3, 7] (fun n i => ∃ k : Nat, k ≤ s.size ∧ i = .int .i64 k ∧ n = .int .i64 (cks (s.data.toList.take k))) (fun _ i => s.size - (intOf i).toNat)
  case atStart => exact ⟨0, Nat.zero_le _, rfl, rfl⟩
  case round =>
    obtain ⟨k, hk, rfl, rfl⟩ := hrel
    obtain ⟨hd0, hd1⟩ := cks_bd (s.data.toList.take k)
    by_cases hlt : k < s.size
    · have HS : Hid (cks (s.data.toList.take (k + 1)) = (31 * cks (s.data.toList.take k) + (s[k].toNat : Int)) % 65521) := by rw [take_snoc s k hlt]; exact cks_snoc _ _
      have hbt : (s[k].toNat : Int) ≤ 255 := by have := s[k].toNat_lt; omega
      go_wp2
      go_round
      case rel => exact ⟨k + 1, by omega, by go_num, by rw [HS.out]⟩
      case measure => simp [intOf]; omega
    · go_wp2
      go_ret
      exact ⟨ret_int (by rw [List.take_of_length_le (by simp; omega)]), rfl⟩
end Go.Proofs.Ytnanaldolnehiaa
