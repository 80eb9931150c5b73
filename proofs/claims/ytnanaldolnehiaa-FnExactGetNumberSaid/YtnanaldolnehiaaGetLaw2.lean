/-
  GetNumber of the reference; the law FnExactGetNumber, walked.
-/
import Derived.Test.YtnanaldolnehiaaGetLaw
set_option linter.unusedSimpArgs false
set_option linter.unusedVariables false
namespace Go.Proofs.Ytnanaldolnehiaa
open Go.ChangeShapes Go.WideShapes Go.RowKit Go.Deep

set_option maxHeartbeats 2000000 in
theorem specGetNumber_any (s : ByteArray) (at_ : Int) (hat : in64 at_) (hs : s.size ≤ 1048576) (w : World) : Calls Try.prog 43 #[.string s, .int .i64 at_] w fun e w' => e = .returned (gNV s at_) ∧ w = w' := by
  cases hi : inB at_ 0 (s.size : Int)
  · have R := Lib.hid (gN_out hi)
    have HI := Lib.hid hi
    clear hi hat
    go_enter Try.func43, Try.ntmps43
    go_wp2_with fail
    refine (l00In_any _ _ _ _).mono ?_
    rintro e w' ⟨rfl, rfl⟩
    rw [HI.out]
    go_wp2_with fail
    go_ret3
    exact ⟨R.out, rfl⟩
  have ha0 : 0 ≤ at_ ∧ at_ ≤ (s.size : Int) := by simpa [inB] using hi
  obtain ⟨a, rfl⟩ : ∃ a : Nat, at_ = (a : Int) := ⟨at_.toNat, by omega⟩
  have ha : a ≤ s.size := by omega
  have HI := Lib.hid hi
  clear hi hat ha0
  go_enter Try.func43, Try.ntmps43
  go_wp2_with fail
  refine (l00In_any _ _ _ _).mono ?_
  rintro e w' ⟨rfl, rfl⟩
  rw [HI.out]
  go_wp2_with fail
  refine (l14Get_any s a hs ha _).mono ?_
  rintro e w' ⟨⟨n, m, b, rfl, h⟩, rfl⟩
  rcases h with ⟨rfl, p, hp, rfl, rfl⟩ | ⟨rfl, hn⟩
  · have R := Lib.hid (gN_some (n := p.1) (m := p.2) ha hp rfl rfl)
    clear hp
    go_wp2_with fail
    go_ret3
    exact ⟨R.out, rfl⟩
  · have R := Lib.hid (gN_none ha hn)
    clear hn
    go_wp2_with fail
    go_ret3
    exact ⟨R.out, rfl⟩
set_option maxRecDepth 100000 in
set_option maxHeartbeats 2000000 in
theorem FnExactGetNumber_walk (s : ByteArray) (at_ : Int) (w : World) (h : s.size ≤ maxLen) (hat : in64 at_) : Calls Try.prog 8 #[.string s, .int .i64 at_] w fun e w' => e = .returned (.bool true) ∧ Below w.heap.size w w' := by
  unfold maxLen at h
  have HA := Lib.hid hat
  clear hat
  by_cases hs : 1048576 < s.size
  · have j0 : (1048576 : Int) < (s.size : Int) := by omega
    go_enter Try.func8, Try.ntmps8
    go_wp2_with fail
    go_ret
    exact ⟨rfl, Below.refl _ _⟩
  · have hs' : s.size ≤ 1048576 := by omega
    have j0 : ¬ ((1048576 : Int) < (s.size : Int)) := by omega
    go_enter Try.func8, Try.ntmps8
    go_wp2_with fail
    refine (specGetNumber_any s at_ HA.out hs' _).mono ?_
    rintro e w' ⟨rfl, rfl⟩
    unfold gNV
    generalize hx : (gN s at_).1 = x
    generalize hy : (gN s at_).2.1 = y
    generalize hz : (gN s at_).2.2 = z
    have HX := Lib.hid hx
    have HY := Lib.hid hy
    have HZ := Lib.hid hz
    clear hx hy hz
    go_wp2_with fail
    refine (implGetNumber_any s at_ HA.out hs' _).mono ?_
    rintro e w1 ⟨rfl, b1⟩
    unfold gNV
    rw [HX.out, HY.out, HZ.out]
    go_wp2_with fail
    go_ret
    exact ⟨rfl, b1⟩
end Go.Proofs.Ytnanaldolnehiaa
