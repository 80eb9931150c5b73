/-
  The rules' text form: RulesText; the law FnExactRulesText, walked.
-/
import Derived.Test.YtnanaldolnehiabDoorProblem
import Derived.Test.YtnanaldolnehiabDoorNameLists
import Derived.Test.YtnanaldolnehiabDoorRules
import Derived.Test.YtnanaldolnehiabDoorSplit
import Derived.Deep.RegionHeld3
import Derived.Deep.CutRange
set_option linter.unusedSimpArgs false
set_option linter.unusedVariables false
namespace Go.Proofs.YtnanaldolnehiabDoor
open Go.ChangeShapes Go.WideShapes Go.RowKit Go.Deep

def cpL : List ByteArray := [(⟨#[110, 111, 110, 101]⟩ : ByteArray), (⟨#[116, 119, 111, 45, 116, 104, 114, 101, 101]⟩ : ByteArray), (⟨#[99, 114, 111, 115, 115]⟩ : ByteArray), (⟨#[101, 118, 101, 110]⟩ : ByteArray)]
def slL : List ByteArray := [(⟨#[116, 97, 107, 101]⟩ : ByteArray), (⟨#[102, 111, 114, 98, 105, 100]⟩ : ByteArray), (⟨#[110, 111, 116, 104, 105, 110, 103]⟩ : ByteArray)]
def fln : Nat → ByteArray
  | 0 => (⟨#[115, 116, 111, 114, 101, 115]⟩ : ByteArray)
  | 1 => (⟨#[115, 107, 105, 112]⟩ : ByteArray)
  | 2 => (⟨#[114, 101, 108, 97, 121]⟩ : ByteArray)
  | 3 => (⟨#[102, 101, 101, 100]⟩ : ByteArray)
  | _ => (⟨#[97, 103, 97, 105, 110]⟩ : ByteArray)
def flg (r : Ru) : Nat → Bool
  | 0 => r.stores
  | 1 => r.skip
  | 2 => r.relay
  | 3 => r.feed
  | _ => r.again
def rtB (r : Ru) : ByteArray := (⟨#[112, 105, 116, 115, 61]⟩ : ByteArray) ++ dec r.pits ++ (⟨#[32, 115, 101, 101, 100, 115, 61]⟩ : ByteArray) ++ dec r.seeds ++ (⟨#[32, 99, 97, 112, 116, 117, 114, 101, 61]⟩ : ByteArray) ++ cpL.getD r.capture.toNat ⟨#[]⟩ ++ (⟨#[32, 115, 108, 97, 109, 61]⟩ : ByteArray) ++ slL.getD r.slam.toNat ⟨#[]⟩
def rtK (r : Ru) : Nat → ByteArray
  | 0 => rtB r
  | k + 1 => if flg r k = true then rtK r k ++ ((⟨#[32]⟩ : ByteArray) ++ fln k) else rtK r k
def rtT (r : Ru) : ByteArray := if okR r = true then rtK r 5 else ⟨#[]⟩
theorem okR_all {r : Ru} (h : okR r = true) : 2 ≤ r.pits ∧ r.pits ≤ 8 ∧ 1 ≤ r.seeds ∧ r.seeds ≤ 6 ∧ 0 ≤ r.capture ∧ r.capture ≤ 3 ∧ 0 ≤ r.slam ∧ r.slam ≤ 2 := by
  simp [okR, inB] at h
  omega
theorem fln_size : ∀ k, (fln k).size ≤ 6
  | 0 => by decide
  | 1 => by decide
  | 2 => by decide
  | 3 => by decide
  | k + 4 => by show (fln 4).size ≤ 6; decide
theorem rtK_size {r : Ru} (h : (rtB r).size ≤ 100) : ∀ k, (rtK r k).size ≤ 100 + 7 * k
  | 0 => by rw [rtK]; omega
  | k + 1 => by
    have ih := rtK_size h k
    have := fln_size k
    rw [rtK]
    split
    · rw [ByteArray.size_append, ByteArray.size_append]
      have : (⟨#[32]⟩ : ByteArray).size = 1 := rfl
      omega
    · omega
theorem cp_size (i : Nat) : (cpL.getD i ⟨#[]⟩).size ≤ 9 := by
  match i with
  | 0 => decide
  | 1 => decide
  | 2 => decide
  | 3 => decide
  | i + 4 => show (⟨#[]⟩ : ByteArray).size ≤ 9; decide
theorem sl_size (i : Nat) : (slL.getD i ⟨#[]⟩).size ≤ 9 := by
  match i with
  | 0 => decide
  | 1 => decide
  | 2 => decide
  | i + 3 => show (⟨#[]⟩ : ByteArray).size ≤ 9; decide
theorem rtB_size {r : Ru} (h : okR r = true) : (rtB r).size ≤ 100 := by
  obtain ⟨h0, h1, h2, h3, -⟩ := okR_all h
  have d1 := dec_size (n := r.pits) (by omega) (by omega)
  have d2 := dec_size (n := r.seeds) (by omega) (by omega)
  have c1 := cp_size r.capture.toNat
  have c2 := sl_size r.slam.toNat
  have l1 : (⟨#[112, 105, 116, 115, 61]⟩ : ByteArray).size = 5 := rfl
  have l2 : (⟨#[32, 115, 101, 101, 100, 115, 61]⟩ : ByteArray).size = 7 := rfl
  have l3 : (⟨#[32, 99, 97, 112, 116, 117, 114, 101, 61]⟩ : ByteArray).size = 9 := rfl
  have l4 : (⟨#[32, 115, 108, 97, 109, 61]⟩ : ByteArray).size = 6 := rfl
  simp only [rtB, ByteArray.size_append, l1, l2, l3, l4]
  omega
theorem ret_rt {a b : ByteArray} (h : a = b) : Ending.returned (.string a) = .returned (.string b) := by rw [h]
theorem flg_name {r : Ru} {k : Nat} {b : Bool} (h : flg r k = b) : rtK r (k + 1) = if b = true then rtK r k ++ ((⟨#[32]⟩ : ByteArray) ++ fln k) else rtK r k := by rw [rtK, h]
/-! ### names -/
theorem capName_any (c : Int) (h0 : 0 ≤ c) (h1 : c ≤ 3) (w : World) : Calls Tryd.prog 68 #[.int .i64 c] w fun e w' => e = .returned (.string (cpL.getD c.toNat ⟨#[]⟩)) ∧ Below w.heap.size w w' := by
  obtain rfl | rfl | rfl | rfl : c = 0 ∨ c = 1 ∨ c = 2 ∨ c = 3 := by omega
  all_goals
    go_enter Tryd.func68, Tryd.ntmps68
    go_wp2
    go_ret
    exact ⟨rfl, (by repeat (first | with_reducible exact Below.refl _ _ | with_reducible assumption | with_reducible refine sub_alloc ?_ _ | (with_reducible refine sub_setCell2 ?_ ?_ _; (focus (first | (simp; done) | (simp <;> omega)))) | with_reducible refine sub_drew ?_ | with_reducible refine below_drewN ?_ _ | with_reducible refine sub_step (by assumption) ?_ (by first | rfl | (simp; done)) | exact Below.refl _ _ | assumption | refine sub_alloc ?_ _ | refine sub_setCell ?_ (by simp <;> omega) _ | refine sub_drew ?_ | refine below_drewN ?_ _ | refine sub_step (by assumption) ?_ (by first | rfl | (simp; done))))⟩
theorem slamName_any (c : Int) (h0 : 0 ≤ c) (h1 : c ≤ 2) (w : World) : Calls Tryd.prog 69 #[.int .i64 c] w fun e w' => e = .returned (.string (slL.getD c.toNat ⟨#[]⟩)) ∧ Below w.heap.size w w' := by
  obtain rfl | rfl | rfl : c = 0 ∨ c = 1 ∨ c = 2 := by omega
  all_goals
    go_enter Tryd.func69, Tryd.ntmps69
    go_wp2
    go_ret
    exact ⟨rfl, (by repeat (first | with_reducible exact Below.refl _ _ | with_reducible assumption | with_reducible refine sub_alloc ?_ _ | (with_reducible refine sub_setCell2 ?_ ?_ _; (focus (first | (simp; done) | (simp <;> omega)))) | with_reducible refine sub_drew ?_ | with_reducible refine below_drewN ?_ _ | with_reducible refine sub_step (by assumption) ?_ (by first | rfl | (simp; done)) | exact Below.refl _ _ | assumption | refine sub_alloc ?_ _ | refine sub_setCell ?_ (by simp <;> omega) _ | refine sub_drew ?_ | refine below_drewN ?_ _ | refine sub_step (by assumption) ?_ (by first | rfl | (simp; done))))⟩
theorem l06NamesT_any (w : World) : Calls Tryd.prog 82 #[] w (RetOwnT w 4 cpL) := by
  have ho := Lib.hid (ownT_new w cpL 4 rfl (by omega))
  go_enter Tryd.func82, Tryd.ntmps82
  go_wp2
  go_ret
  exact ⟨_, _, rfl, ho.out, (by repeat (first | with_reducible exact Below.refl _ _ | with_reducible assumption | with_reducible refine sub_alloc ?_ _ | (with_reducible refine sub_setCell2 ?_ ?_ _; (focus (first | (simp; done) | (simp <;> omega)))) | with_reducible refine sub_drew ?_ | with_reducible refine below_drewN ?_ _ | with_reducible refine sub_step (by assumption) ?_ (by first | rfl | (simp; done)) | exact Below.refl _ _ | assumption | refine sub_alloc ?_ _ | refine sub_setCell ?_ (by simp <;> omega) _ | refine sub_drew ?_ | refine below_drewN ?_ _ | refine sub_step (by assumption) ?_ (by first | rfl | (simp; done))))⟩
theorem l03SlamsT_any (w : World) : Calls Tryd.prog 83 #[] w (RetOwnT w 3 slL) := by
  have ho := Lib.hid (ownT_new w slL 3 rfl (by omega))
  go_enter Tryd.func83, Tryd.ntmps83
  go_wp2
  go_ret
  exact ⟨_, _, rfl, ho.out, (by repeat (first | with_reducible exact Below.refl _ _ | with_reducible assumption | with_reducible refine sub_alloc ?_ _ | (with_reducible refine sub_setCell2 ?_ ?_ _; (focus (first | (simp; done) | (simp <;> omega)))) | with_reducible refine sub_drew ?_ | with_reducible refine below_drewN ?_ _ | with_reducible refine sub_step (by assumption) ?_ (by first | rfl | (simp; done)) | exact Below.refl _ _ | assumption | refine sub_alloc ?_ _ | refine sub_setCell ?_ (by simp <;> omega) _ | refine sub_drew ?_ | refine below_drewN ?_ _ | refine sub_step (by assumption) ?_ (by first | rfl | (simp; done))))⟩
def flL : List ByteArray := [(⟨#[115, 116, 111, 114, 101, 115]⟩ : ByteArray), (⟨#[115, 107, 105, 112]⟩ : ByteArray), (⟨#[114, 101, 108, 97, 121]⟩ : ByteArray), (⟨#[102, 101, 101, 100]⟩ : ByteArray), (⟨#[97, 103, 97, 105, 110]⟩ : ByteArray)]
theorem flL_get {k : Nat} (h : k < 5) : flL[k]? = some (fln k) := by
  match k, h with
  | 0, _ => rfl
  | 1, _ => rfl
  | 2, _ => rfl
  | 3, _ => rfl
  | 4, _ => rfl
theorem flagNames_any (w : World) : Calls Tryd.prog 70 #[] w (RetOwnT w 5 flL) := by
  have ho := Lib.hid (ownT_new w flL 5 rfl (by omega))
  go_enter Tryd.func70, Tryd.ntmps70
  go_wp2
  go_ret
  exact ⟨_, _, rfl, ho.out, (by repeat (first | with_reducible exact Below.refl _ _ | with_reducible assumption | with_reducible refine sub_alloc ?_ _ | (with_reducible refine sub_setCell2 ?_ ?_ _; (focus (first | (simp; done) | (simp <;> omega)))) | with_reducible refine sub_drew ?_ | with_reducible refine below_drewN ?_ _ | with_reducible refine sub_step (by assumption) ?_ (by first | rfl | (simp; done)) | exact Below.refl _ _ | assumption | refine sub_alloc ?_ _ | refine sub_setCell ?_ (by simp <;> omega) _ | refine sub_drew ?_ | refine below_drewN ?_ _ | refine sub_step (by assumption) ?_ (by first | rfl | (simp; done))))⟩
theorem flag_any (b k : Nat) (h : k < 5) (r : Ru) (w : World) (hr : RuAt w b 0 r) : Calls Tryd.prog 71 #[.pointer (some ⟨b, 0, none⟩), .string (fln k)] w fun e w' => e = .returned (.pointer (some ⟨b, k + 2, none⟩)) ∧ w = w' := by
  obtain ⟨p, s, st, sk, re, fe, ag, c, sl⟩ := r
  obtain ⟨k0, k1, k2, k3, k4, k5, k6, k7, k8⟩ := hr.flat
  clear hr
  obtain rfl | rfl | rfl | rfl | rfl : k = 0 ∨ k = 1 ∨ k = 2 ∨ k = 3 ∨ k = 4 := by omega
  all_goals
    simp only [fln]
    go_enter Tryd.func71, Tryd.ntmps71
    go_wp2
    go_ret
    exact ⟨rfl, rfl⟩
def bitI (b : Bool) : Int := if b = true then 1 else 0
theorem bit_any (b : Bool) (w : World) : Calls Tryd.prog 91 #[.bool b] w fun e w' => e = .returned (.int .i64 (bitI b)) ∧ w = w' := by
  cases b
  all_goals
    go_enter Tryd.func91, Tryd.ntmps91
    go_wp2
    go_ret
    exact ⟨rfl, rfl⟩
theorem flag_cell {w : World} {b k : Nat} {r : Ru} (h : RuAt w b 0 r) (hk : k < 5) : w.cell? ⟨b, k + 2, none⟩ = some (.bool (flg r k)) := by
  obtain ⟨p, s, st, sk, re, fe, ag, c, sl⟩ := r
  obtain ⟨k0, k1, k2, k3, k4, k5, k6, k7, k8⟩ := h.flat
  match k, hk with
  | 0, _ => exact k2
  | 1, _ => exact k3
  | 2, _ => exact k4
  | 3, _ => exact k5
  | 4, _ => exact k6
theorem ValidRulesB_is (p s : Int) (st sk re fe ag : Bool) (c sl : Int) (v : Bool) (hv : okR ⟨p, s, st, sk, re, fe, ag, c, sl⟩ = v) (w : World) : Calls Tryd.prog 67 #[.agg #[.int .i64 p, .int .i64 s, .bool st, .bool sk, .bool re, .bool fe, .bool ag, .int .i64 c, .int .i64 sl]] w fun e w' => e = .returned (.bool v) ∧ Below w.heap.size w w' := by
  subst hv
  exact ValidRules_any p s st sk re fe ag c sl w
set_option maxRecDepth 100000 in
set_option maxHeartbeats 8000000 in
theorem implRulesText_any (p s : Int) (st sk re fe ag : Bool) (c sl : Int) (w : World) (ht : Tab w) : Calls Tryd.prog 42 #[.agg #[.int .i64 p, .int .i64 s, .bool st, .bool sk, .bool re, .bool fe, .bool ag, .int .i64 c, .int .i64 sl]] w fun e w' => e = .returned (.string (rtT ⟨p, s, st, sk, re, fe, ag, c, sl⟩)) ∧ Below w.heap.size w w' := by
  have HT := Lib.hid ht
  clear ht
  have R0 := Lib.hid (RuAt.box w 39 p s st sk re fe ag c sl)
  have bw := Lib.hid (show Below w.heap.size w (w.alloc (.cells #[.int .i64 p, .int .i64 s, .bool st, .bool sk, .bool re, .bool fe, .bool ag, .int .i64 c, .int .i64 sl] 39)) from (by repeat (first | with_reducible exact Below.refl _ _ | with_reducible assumption | with_reducible refine sub_alloc ?_ _ | (with_reducible refine sub_setCell2 ?_ ?_ _; (focus (first | (simp; done) | (simp <;> omega)))) | with_reducible refine sub_drew ?_ | with_reducible refine below_drewN ?_ _ | with_reducible refine sub_step (by assumption) ?_ (by first | rfl | (simp; done)) | exact Below.refl _ _ | assumption | refine sub_alloc ?_ _ | refine sub_setCell ?_ (by simp <;> omega) _ | refine sub_drew ?_ | refine below_drewN ?_ _ | refine sub_step (by assumption) ?_ (by first | rfl | (simp; done)))))
  cases ho : okR ⟨p, s, st, sk, re, fe, ag, c, sl⟩
  · have HO := Lib.hid ho
    clear ho
    obtain ⟨k0, k1, k2, k3, k4, k5, k6, k7, k8⟩ := R0.out.flat
    go_enter Tryd.func42, Tryd.ntmps42
    go_wp2_with fail
    refine (ValidRulesB_is p s st sk re fe ag c sl _ HO.out _).mono ?_
    rintro e w1 ⟨rfl, b1⟩
    have B1 := Lib.hid (sub_step b1 bw.out rfl)
    clear b1
    go_wp2_with fail
    go_ret
    exact ⟨ret_rt (by rw [rtT, if_neg (by rw [HO.out]; decide)]), B1.out⟩
  have HO := Lib.hid ho
  have hbs := rtB_size ho
  have HSZ := Lib.hid (rtK_size hbs)
  obtain ⟨h0, h1, h2, h3, h4, h5, h6, h7⟩ := okR_all ho
  dsimp only at h0 h1 h2 h3 h4 h5 h6 h7
  have d1 := dec_size (n := p) (by omega) (by omega)
  have d2 := dec_size (n := s) (by omega) (by omega)
  have c1 := cp_size c.toNat
  have c2 := sl_size sl.toNat
  obtain ⟨C, hC⟩ : ∃ C, cpL.getD c.toNat ⟨#[]⟩ = C := ⟨_, rfl⟩
  obtain ⟨S, hS⟩ : ∃ S, slL.getD sl.toNat ⟨#[]⟩ = S := ⟨_, rfl⟩
  rw [hC] at c1
  rw [hS] at c2
  have HC := Lib.hid hC
  have HS := Lib.hid hS
  clear hC hS
  have n0 : ¬ 9223372036854775807 < 5 + (dec p).size := by omega
  have n1 : ¬ 9223372036854775807 < 5 + (dec p).size + 7 := by omega
  have n2 : ¬ 9223372036854775807 < 5 + (dec p).size + 7 + (dec s).size := by omega
  have n3 : ¬ 9223372036854775807 < 5 + (dec p).size + 7 + (dec s).size + 9 := by omega
  have n4 : ¬ 9223372036854775807 < 5 + (dec p).size + 7 + (dec s).size + 9 + C.size := by omega
  have n5 : ¬ 9223372036854775807 < 5 + (dec p).size + 7 + (dec s).size + 9 + C.size + 6 := by omega
  have n6 : ¬ 9223372036854775807 < 5 + (dec p).size + 7 + (dec s).size + 9 + C.size + 6 + S.size := by omega
  clear ho d1 d2 c1 c2 hbs
  obtain ⟨k0, k1, k2, k3, k4, k5, k6, k7, k8⟩ := R0.out.flat
  go_enter Tryd.func42, Tryd.ntmps42
  go_wp2_with fail
  refine (ValidRulesB_is p s st sk re fe ag c sl _ HO.out _).mono ?_
  rintro e w1 ⟨rfl, b1⟩
  have R1 := Lib.hid (R0.out.below b1 R0.out.lt)
  have B1 := Lib.hid (sub_step b1 bw.out rfl)
  have TW := Lib.hid (HT.out.below B1.out (Nat.le_refl _))
  clear b1 k0 k1 k2 k3 k4 k5 k6 k7 k8 R0 bw
  obtain ⟨f0, f1, -, -, -, -, -, f7, f8⟩ := R1.out.flat
  have k0 := cell_regrown f0
  have k1 := cell_regrown f1
  have k7 := cell_regrown f7
  have k8 := cell_regrown f8
  clear f0 f1 f7 f8
  go_wp2_with fail
  have cP : ∀ d os, Calls Tryd.prog 28 #[.int .i64 p] (Sort.grow (redrawn w1 d) os) fun e w'' => e = .returned (.string (dec p)) ∧ ∃ p : Regrown, w'' = Sort.grow (redrawn w1 p.d) p.os := fun d os => Calls.regrown_of (implDecimal_any p (by omega) (by omega) _ (TW.out.below (below_regrown w1 d os) (Nat.le_refl _)))
  have cS : ∀ d os, Calls Tryd.prog 28 #[.int .i64 s] (Sort.grow (redrawn w1 d) os) fun e w'' => e = .returned (.string (dec s)) ∧ ∃ p : Regrown, w'' = Sort.grow (redrawn w1 p.d) p.os := fun d os => Calls.regrown_of (implDecimal_any s (by omega) (by omega) _ (TW.out.below (below_regrown w1 d os) (Nat.le_refl _)))
  have cC : ∀ d os, Calls Tryd.prog 68 #[.int .i64 c] (Sort.grow (redrawn w1 d) os) fun e w'' => e = .returned (.string C) ∧ ∃ p : Regrown, w'' = Sort.grow (redrawn w1 p.d) p.os := fun d os => Calls.regrown_of (by have := capName_any c h4 h5 (Sort.grow (redrawn w1 d) os); rw [HC.out] at this; exact this)
  have cL : ∀ d os, Calls Tryd.prog 69 #[.int .i64 sl] (Sort.grow (redrawn w1 d) os) fun e w'' => e = .returned (.string S) ∧ ∃ p : Regrown, w'' = Sort.grow (redrawn w1 p.d) p.os := fun d os => Calls.regrown_of (by have := slamName_any sl h6 h7 (Sort.grow (redrawn w1 d) os); rw [HS.out] at this; exact this)
  refine wp_region_quiet_below (by kernel_rfl) (by kernel_rfl) ?_
  repeat (quiet_step (first | (go_at_call_of 28 (Value.int .i64 p); exact cP _ _) | (go_at_call_of 28 (Value.int .i64 s); exact cS _ _) | (go_at_call 68; exact cC _ _) | (go_at_call 69; exact cL _ _)))
  refine wpQuiet_nil ?_
  intro _ hw'
  obtain ⟨⟨dq, osq⟩, hw''⟩ := hw'
  subst hw''
  have R2 := Lib.hid (R1.out.below (below_regrown w1 dq osq) R1.out.lt)
  have B2 := Lib.hid (B1.out.trans ((below_regrown w1 dq osq).mono B1.out.size))
  clear cP cS cC cL k0 k1 k7 k8 R1 B1 TW
  obtain ⟨w2, hw2⟩ : ∃ x, x = Sort.grow (redrawn w1 dq) osq := ⟨_, rfl⟩
  rw [← hw2] at R2 B2 ⊢
  clear hw2
  obtain ⟨T, hT⟩ : ∃ x, x = rtB ⟨p, s, st, sk, re, fe, ag, c, sl⟩ := ⟨_, rfl⟩
  have HTT := Lib.hid hT
  rw [rtB, HC.out, HS.out] at hT
  dsimp only at hT
  rw [← hT]
  clear hT n0 n1 n2 n3 n4 n5 n6
  go_wp2_with fail
  refine (flagNames_any _).mono ?_
  rintro e w3 ⟨A, cA, rfl, o3, b3⟩
  have R3 := Lib.hid (R2.out.below b3 R2.out.lt)
  have B3 := Lib.hid (sub_step b3 B2.out rfl)
  have O3 := Lib.hid (o3.lower (base' := w.heap.size) (by exact B2.out.size))
  clear b3 o3 R2 B2
  go_wp2_with fail
  go_loopw [3, 30] (fun t i wr => ∃ k : Nat, i = .int .i64 k ∧ k ≤ 5 ∧ t = .string (rtK ⟨p, s, st, sk, re, fe, ag, c, sl⟩ k) ∧ OwnT wr w.heap.size A 5 cA flL ∧ RuAt wr w.heap.size 0 ⟨p, s, st, sk, re, fe, ag, c, sl⟩ ∧ Below w.heap.size w wr) (fun _ i _ => 5 - (intOf i).toNat)
  case atStart => exact ⟨0, rfl, by omega, by rw [HTT.out]; rfl, O3.out, R3.out, B3.out⟩
  case round =>
    obtain ⟨k, rfl, hk, rfl, ow, ru, bb⟩ := hrel
    have OW := Lib.hid ow
    have RU := Lib.hid ru
    have BB := Lib.hid bb
    clear ow ru bb O3 R3 B3
    by_cases hlt : k < 5
    · obtain ⟨g, off, hA, hg, hc⟩ := OW.out.ints.at_ (by omega)
      have cx : wr.cell? ⟨g, off + k, none⟩ = some (.string (fln k)) := hc k _ (flL_get hlt)
      have HA := Lib.hid hA
      rw [hA]
      clear hc hA
      have i0 : (0 : Int) ≤ (k : Int) := by omega
      have i1 : (k : Int) < 5 := by omega
      have fc := flag_cell RU.out hlt
      have z1 := fln_size k
      have z2 := HSZ.out k
      have m0 : ¬ 9223372036854775807 < 1 + (fln k).size := by omega
      have m1 : ¬ 9223372036854775807 < (rtK ⟨p, s, st, sk, re, fe, ag, c, sl⟩ k).size + (1 + (fln k).size) := by omega
      cases hf : flg ⟨p, s, st, sk, re, fe, ag, c, sl⟩ k
      · rw [hf] at fc
        have HK := Lib.hid (flg_name hf)
        clear hf
        go_wp2_with fail
        refine (flag_any w.heap.size k hlt _ _ (by exact RU.out)).mono ?_
        rintro e w' ⟨rfl, rfl⟩
        go_wp2_with fail
        go_roundw
        case rel => exact ⟨k + 1, by go_num, by omega, by rw [HK.out]; rfl, by rw [← HA.out]; exact OW.out, RU.out, BB.out⟩
        case measure => simp [intOf]; omega
      · rw [hf] at fc
        have HK := Lib.hid (flg_name hf)
        clear hf
        go_wp2_with fail
        refine (flag_any w.heap.size k hlt _ _ (by exact RU.out)).mono ?_
        rintro e w' ⟨rfl, rfl⟩
        go_wp2_with fail
        go_roundw
        case rel => exact ⟨k + 1, by go_num, by omega, by rw [HK.out]; rfl, by rw [← HA.out]; exact OW.out, RU.out, BB.out⟩
        case measure => simp [intOf]; omega
    · have hke : k = 5 := by omega
      subst hke
      go_wp2_with fail
      go_ret
      exact ⟨ret_rt (by rw [rtT, if_pos HO.out]), BB.out⟩
/-- The fields of rules as numbers. -/
def rvL (r : Ru) : List Int := [r.pits, r.seeds, bitI r.stores, bitI r.skip, bitI r.relay, bitI r.feed, bitI r.again, r.capture, r.slam]
theorem rvL_get (r : Ru) {k : Nat} (h : k < 5) : (rvL r)[k + 2]? = some (bitI (flg r k)) := by
  match k, h with
  | 0, _ => rfl
  | 1, _ => rfl
  | 2, _ => rfl
  | 3, _ => rfl
  | 4, _ => rfl
theorem fnL_get {k : Nat} (h : k < 5) : nmFieldNames[k + 2]? = some (fln k) := by
  match k, h with
  | 0, _ => rfl
  | 1, _ => rfl
  | 2, _ => rfl
  | 3, _ => rfl
  | 4, _ => rfl
theorem own_newN (w : World) (zs : List Int) (n : Nat) (hn : zs.length = n) (hm : n ≤ 4294967296) : Own (w.alloc (.cells (zs.map (Value.int .i64)).toArray 2)) w.heap.size (some ⟨w.heap.size, 0, none⟩) n n zs := by
  refine ⟨hn, Nat.le_refl _, by omega, ?_⟩
  have := World.ownsRow_lit (base := w.heap.size) (e := 2) (size := 1) w (zs.map (Value.int .i64)).toArray n (Nat.le_refl _) (by unfold maxLen; omega) (by simp [hn])
  simpa using this
set_option maxRecDepth 100000 in
set_option maxHeartbeats 4000000 in
theorem l03Values_any (b : Nat) (p s : Int) (st sk re fe ag : Bool) (c sl : Int) (w : World) (hr : RuAt w b 0 ⟨p, s, st, sk, re, fe, ag, c, sl⟩) : Calls Tryd.prog 85 #[.pointer (some ⟨b, 0, none⟩)] w fun e w' => ∃ A u, e = .returned (.slice A 9 u) ∧ Own w' w.heap.size A 9 u (rvL ⟨p, s, st, sk, re, fe, ag, c, sl⟩) ∧ Below w.heap.size w w' := by
  obtain ⟨k0, k1, k2, k3, k4, k5, k6, k7, k8⟩ := hr.flat
  clear hr
  go_enter Tryd.func85, Tryd.ntmps85
  go_wp2_with fail
  go_region_held3 (fun w' => w'.cell? ⟨b, 0, none⟩ = some (.int .i64 p) ∧ w'.cell? ⟨b, 1, none⟩ = some (.int .i64 s) ∧ w'.cell? ⟨b, 2, none⟩ = some (.bool st) ∧ w'.cell? ⟨b, 3, none⟩ = some (.bool sk) ∧ w'.cell? ⟨b, 4, none⟩ = some (.bool re) ∧ w'.cell? ⟨b, 5, none⟩ = some (.bool fe) ∧ w'.cell? ⟨b, 6, none⟩ = some (.bool ag) ∧ w'.cell? ⟨b, 7, none⟩ = some (.int .i64 c) ∧ w'.cell? ⟨b, 8, none⟩ = some (.int .i64 sl)) (first | (refine ⟨?_, ?_, ?_, ?_, ?_, ?_, ?_, ?_, ?_⟩ <;> assumption) | go_keep) (first | (go_at_call 91; refine (bit_any _ _).mono ?_; rintro e w' ⟨rfl, rfl⟩))
  all_goals
    go_wp2_with fail
    go_ret
    exact ⟨_, _, rfl, own_newN _ (rvL ⟨p, s, st, sk, re, fe, ag, c, sl⟩) 9 rfl (by omega), (by repeat (first | with_reducible exact Below.refl _ _ | with_reducible assumption | with_reducible refine sub_alloc ?_ _ | (with_reducible refine sub_setCell2 ?_ ?_ _; (focus (first | (simp; done) | (simp <;> omega)))) | with_reducible refine sub_drew ?_ | with_reducible refine below_drewN ?_ _ | with_reducible refine sub_step (by assumption) ?_ (by first | rfl | (simp; done)) | exact Below.refl _ _ | assumption | refine sub_alloc ?_ _ | refine sub_setCell ?_ (by simp <;> omega) _ | refine sub_drew ?_ | refine below_drewN ?_ _ | refine sub_step (by assumption) ?_ (by first | rfl | (simp; done))))⟩
theorem l02OkB_is (b o : Nat) (r : Ru) (v : Bool) (hv : okR r = v) (w : World) (h : RuAt w b o r) : Calls Tryd.prog 65 #[.pointer (some ⟨b, o, none⟩)] w fun e w' => e = .returned (.bool v) ∧ w = w' := by
  subst hv
  exact l02Ok_any b o r w h
set_option maxRecDepth 100000 in
set_option maxHeartbeats 16000000 in
theorem l03Text_any (b : Nat) (p s : Int) (st sk re fe ag : Bool) (c sl : Int) (w : World) (hr : RuAt w b 0 ⟨p, s, st, sk, re, fe, ag, c, sl⟩) (ho : okR ⟨p, s, st, sk, re, fe, ag, c, sl⟩ = true) : Calls Tryd.prog 66 #[.pointer (some ⟨b, 0, none⟩)] w fun e w' => e = .returned (.string (rtK ⟨p, s, st, sk, re, fe, ag, c, sl⟩ 5)) ∧ Below w.heap.size w w' := by
  have hbs := rtB_size ho
  have HSZ := Lib.hid (rtK_size hbs)
  obtain ⟨h0, h1, h2, h3, h4, h5, h6, h7⟩ := okR_all ho
  dsimp only at h0 h1 h2 h3 h4 h5 h6 h7
  obtain ⟨cn, rfl⟩ : ∃ cn : Nat, c = (cn : Int) := ⟨c.toNat, by omega⟩
  obtain ⟨sn, rfl⟩ : ∃ sn : Nat, sl = (sn : Int) := ⟨sl.toNat, by omega⟩
  have d1 := dec_size (n := p) (by omega) (by omega)
  have d2 := dec_size (n := s) (by omega) (by omega)
  have c1 := cp_size cn
  have c2 := sl_size sn
  obtain ⟨C, hC⟩ := t_get_some (zs := cpL) (k := cn) (by show cn < 4; omega)
  obtain ⟨S, hS⟩ := t_get_some (zs := slL) (k := sn) (by show sn < 3; omega)
  have HGC := Lib.hid hC
  have HGS := Lib.hid hS
  have HC := Lib.hid (show cpL.getD cn ⟨#[]⟩ = C by simp [List.getD, hC])
  have HS := Lib.hid (show slL.getD sn ⟨#[]⟩ = S by simp [List.getD, hS])
  rw [HC.out] at c1
  rw [HS.out] at c2
  have n0 : ¬ 9223372036854775807 < 5 + (dec p).size := by omega
  have n1 : ¬ 9223372036854775807 < 5 + (dec p).size + 7 := by omega
  have n2 : ¬ 9223372036854775807 < 5 + (dec p).size + 7 + (dec s).size := by omega
  have n3 : ¬ 9223372036854775807 < 5 + (dec p).size + 7 + (dec s).size + 9 := by omega
  have n4 : ¬ 9223372036854775807 < 5 + (dec p).size + 7 + (dec s).size + 9 + C.size := by omega
  have n5 : ¬ 9223372036854775807 < 5 + (dec p).size + 7 + (dec s).size + 9 + C.size + 6 := by omega
  have n6 : ¬ 9223372036854775807 < 5 + (dec p).size + 7 + (dec s).size + 9 + C.size + 6 + S.size := by omega
  have i0 : (0 : Int) ≤ (cn : Int) := by omega
  have i1 : (cn : Int) < 4 := by omega
  have i2 : (0 : Int) ≤ (sn : Int) := by omega
  have i3 : (sn : Int) < 3 := by omega
  have HT := Lib.hid (show rtB ⟨p, s, st, sk, re, fe, ag, (cn : Int), (sn : Int)⟩ = (⟨#[112, 105, 116, 115, 61]⟩ : ByteArray) ++ dec p ++ (⟨#[32, 115, 101, 101, 100, 115, 61]⟩ : ByteArray) ++ dec s ++ (⟨#[32, 99, 97, 112, 116, 117, 114, 101, 61]⟩ : ByteArray) ++ C ++ (⟨#[32, 115, 108, 97, 109, 61]⟩ : ByteArray) ++ S by rw [rtB]; simp only [Int.toNat_natCast]; rw [HC.out, HS.out])
  have R0 := Lib.hid hr
  clear hC hS ho hbs d1 d2 c1 c2
  obtain ⟨k0, k1, -, -, -, -, -, k7, k8⟩ := hr.flat
  clear hr
  go_enter Tryd.func66, Tryd.ntmps66
  go_wp2_with fail
  go_cut [3] from 7 to 37 (fun sa wr => sa = .string (rtB ⟨p, s, st, sk, re, fe, ag, (cn : Int), (sn : Int)⟩) ∧ RuAt wr b 0 ⟨p, s, st, sk, re, fe, ag, (cn : Int), (sn : Int)⟩ ∧ Below w.heap.size w wr)
  case first =>
    refine wp_region_noPanic ?_
    refine wp_region_held_drew (S := fun w' => w'.cell? ⟨b, 0, none⟩ = some (.int .i64 p) ∧ w'.cell? ⟨b, 1, none⟩ = some (.int .i64 s) ∧ w'.cell? ⟨b, 7, none⟩ = some (.int .i64 (cn : Int)) ∧ w'.cell? ⟨b, 8, none⟩ = some (.int .i64 (sn : Int))) (by kernel_rfl) (by first | (refine ⟨?_, ?_, ?_, ?_⟩ <;> assumption) | go_keep) (fun hHeld => ?_)
    refine wpAnyH_take (i := 0) (oi := ⟨some 7, _, _, _, _, _⟩) (v := ?_) rfl (by kernel_rfl) (by kernel_rfl) (by kernel_rfl) (fun _ _ _ h => h) (Or.inl ⟨by rfl, ?_⟩) hHeld ?_
    rotate_left
    · intro w hSw
      (try dsimp only at hSw)
      go_simp
      (try with_reducible rfl)
    (try simp only [Act.put, List.setIfInBounds_toArray, List.set_cons_zero, List.set_cons_succ])
    refine wpAnyH_take (i := 1) (oi := ⟨some 8, _, _, _, _, _⟩) (v := ?_) rfl (by kernel_rfl) (by kernel_rfl) (by kernel_rfl) (fun _ _ _ h => h) (Or.inl ⟨by rfl, ?_⟩) hHeld ?_
    rotate_left
    · intro w hSw
      (try dsimp only at hSw)
      go_simp
      (try with_reducible rfl)
    (try simp only [Act.put, List.setIfInBounds_toArray, List.set_cons_zero, List.set_cons_succ])
    refine wpAnyH_take (i := 2) (oi := ⟨some 9, _, _, _, _, _⟩) (v := ?_) rfl (by kernel_rfl) (by kernel_rfl) (by kernel_rfl) (fun _ _ _ h => h) (Or.inl ⟨by rfl, ?_⟩) hHeld ?_
    rotate_left
    · intro w hSw
      (try dsimp only at hSw)
      go_simp
      (try with_reducible rfl)
    (try simp only [Act.put, List.setIfInBounds_toArray, List.set_cons_zero, List.set_cons_succ])
    refine wpAnyH_take (i := 3) (oi := ⟨some 10, _, _, _, _, _⟩) (v := ?_) rfl (by kernel_rfl) (by kernel_rfl) (by kernel_rfl) (fun _ _ _ h => h) (Or.inl ⟨by rfl, ?_⟩) hHeld ?_
    rotate_left
    · intro w hSw
      (try dsimp only at hSw)
      go_simp
      (try with_reducible rfl)
    (try simp only [Act.put, List.setIfInBounds_toArray, List.set_cons_zero, List.set_cons_succ])
    refine wpAnyH_take (i := 7) (oi := ⟨some 14, _, _, _, _, _⟩) (v := ?_) rfl (by kernel_rfl) (by kernel_rfl) (by kernel_rfl) (fun _ _ _ h => h) (Or.inl ⟨by rfl, ?_⟩) hHeld ?_
    rotate_left
    · intro w hSw
      (try dsimp only at hSw)
      go_simp
      (try with_reducible rfl)
    (try simp only [Act.put, List.setIfInBounds_toArray, List.set_cons_zero, List.set_cons_succ])
    refine wpAnyH_take (i := 8) (oi := ⟨some 15, _, _, _, _, _⟩) (v := ?_) rfl (by kernel_rfl) (by kernel_rfl) (by kernel_rfl) (fun _ _ _ h => h) (Or.inl ⟨by rfl, ?_⟩) hHeld ?_
    rotate_left
    · intro w hSw
      (try dsimp only at hSw)
      go_simp
      (try with_reducible rfl)
    (try simp only [Act.put, List.setIfInBounds_toArray, List.set_cons_zero, List.set_cons_succ])
    refine wpAnyH_take (i := 9) (oi := ⟨some 16, _, _, _, _, _⟩) (v := ?_) rfl (by kernel_rfl) (by kernel_rfl) (by kernel_rfl) (fun _ _ _ h => h) (Or.inl ⟨by rfl, ?_⟩) hHeld ?_
    rotate_left
    · intro w hSw
      (try dsimp only at hSw)
      go_simp
      (try with_reducible rfl)
    (try simp only [Act.put, List.setIfInBounds_toArray, List.set_cons_zero, List.set_cons_succ])
    refine wpAnyH_take (i := 10) (oi := ⟨some 17, _, _, _, _, _⟩) (v := ?_) rfl (by kernel_rfl) (by kernel_rfl) (by kernel_rfl) (fun _ _ _ h => h) (Or.inl ⟨by rfl, ?_⟩) hHeld ?_
    rotate_left
    · intro w hSw
      (try dsimp only at hSw)
      go_simp
      (try with_reducible rfl)
    (try simp only [Act.put, List.setIfInBounds_toArray, List.set_cons_zero, List.set_cons_succ])
    refine wpAnyH_take (i := 15) (oi := ⟨some 22, _, _, _, _, _⟩) (v := ?_) rfl (by kernel_rfl) (by kernel_rfl) (by kernel_rfl) (fun _ _ _ h => h) (Or.inl ⟨by rfl, ?_⟩) hHeld ?_
    rotate_left
    · intro w hSw
      (try dsimp only at hSw)
      go_simp
      (try with_reducible rfl)
    (try simp only [Act.put, List.setIfInBounds_toArray, List.set_cons_zero, List.set_cons_succ])
    refine wpAnyH_take (i := 16) (oi := ⟨some 23, _, _, _, _, _⟩) (v := ?_) rfl (by kernel_rfl) (by kernel_rfl) (by kernel_rfl) (fun _ _ _ h => h) (Or.inl ⟨by rfl, ?_⟩) hHeld ?_
    rotate_left
    · intro w hSw
      (try dsimp only at hSw)
      go_simp
      (try with_reducible rfl)
    (try simp only [Act.put, List.setIfInBounds_toArray, List.set_cons_zero, List.set_cons_succ])
    refine wpAnyH_take (i := 17) (oi := ⟨some 24, _, _, _, _, _⟩) (v := ?_) rfl (by kernel_rfl) (by kernel_rfl) (by kernel_rfl) (fun _ _ _ h => h) (Or.inl ⟨by rfl, ?_⟩) hHeld ?_
    rotate_left
    · intro w hSw
      (try dsimp only at hSw)
      go_simp
      (try with_reducible rfl)
    (try simp only [Act.put, List.setIfInBounds_toArray, List.set_cons_zero, List.set_cons_succ])
    refine wpAnyH_take (i := 18) (oi := ⟨some 25, _, _, _, _, _⟩) (v := ?_) rfl (by kernel_rfl) (by kernel_rfl) (by kernel_rfl) (fun _ _ _ h => h) (Or.inl ⟨by rfl, ?_⟩) hHeld ?_
    rotate_left
    · intro w hSw
      (try dsimp only at hSw)
      go_simp
      (try with_reducible rfl)
    (try simp only [Act.put, List.setIfInBounds_toArray, List.set_cons_zero, List.set_cons_succ])
    refine wpAnyH_take (i := 24) (oi := ⟨some 31, _, _, _, _, _⟩) (v := ?_) rfl (by kernel_rfl) (by kernel_rfl) (by kernel_rfl) (fun _ _ _ h => h) (Or.inl ⟨by rfl, ?_⟩) hHeld ?_
    rotate_left
    · intro w hSw
      (try dsimp only at hSw)
      go_simp
      (try with_reducible rfl)
    (try simp only [Act.put, List.setIfInBounds_toArray, List.set_cons_zero, List.set_cons_succ])
    refine wpAnyH_take (i := 25) (oi := ⟨some 32, _, _, _, _, _⟩) (v := ?_) rfl (by kernel_rfl) (by kernel_rfl) (by kernel_rfl) (fun _ _ _ h => h) (Or.inl ⟨by rfl, ?_⟩) hHeld ?_
    rotate_left
    · intro w hSw
      (try dsimp only at hSw)
      go_simp
      (try with_reducible rfl)
    (try simp only [Act.put, List.setIfInBounds_toArray, List.set_cons_zero, List.set_cons_succ])
    refine wpAnyH_take (i := 26) (oi := ⟨some 33, _, _, _, _, _⟩) (v := ?_) rfl (by kernel_rfl) (by kernel_rfl) (by kernel_rfl) (fun _ _ _ h => h) (Or.inl ⟨by rfl, ?_⟩) hHeld ?_
    rotate_left
    · intro w hSw
      (try dsimp only at hSw)
      go_simp
      (try with_reducible rfl)
    (try simp only [Act.put, List.setIfInBounds_toArray, List.set_cons_zero, List.set_cons_succ])
    refine wpAnyH_take (i := 27) (oi := ⟨some 34, _, _, _, _, _⟩) (v := ?_) rfl (by kernel_rfl) (by kernel_rfl) (by kernel_rfl) (fun _ _ _ h => h) (Or.inl ⟨by rfl, ?_⟩) hHeld ?_
    rotate_left
    · intro w hSw
      (try dsimp only at hSw)
      go_simp
      (try with_reducible rfl)
    (try simp only [Act.put, List.setIfInBounds_toArray, List.set_cons_zero, List.set_cons_succ])
    refine wpAnyH_ready (rs := [4]) (by kernel_rfl) (by simp) ?_
    refine AllReadyH.cons (o := ⟨some 11, _, _, _, _, _⟩) rfl (fun K hK => ?_) AllReadyH.nil
    go_simp
    (go_at_call_of 58 (Value.int .i64 p); refine (l01Dec_any p (by omega) (by omega) _).mono ?_; rintro e w1 ⟨rfl, hb1⟩; have B1 : Below w.heap.size w w1 := (by repeat (first | with_reducible exact Below.refl _ _ | with_reducible assumption | with_reducible refine sub_alloc ?_ _ | (with_reducible refine sub_setCell2 ?_ ?_ _; (focus (first | (simp; done) | (simp <;> omega)))) | with_reducible refine sub_drew ?_ | with_reducible refine below_drewN ?_ _ | with_reducible refine sub_step (by assumption) ?_ (by first | rfl | (simp; done)) | exact Below.refl _ _ | assumption | refine sub_alloc ?_ _ | refine sub_setCell ?_ (by simp <;> omega) _ | refine sub_drew ?_ | refine below_drewN ?_ _ | refine sub_step (by assumption) ?_ (by first | rfl | (simp; done)))); have Y1 := R0.out.below B1 R0.out.lt; obtain ⟨q10, q11, -, -, -, -, -, q17, q18⟩ := Y1.flat)
    (try go_wp2_with fail)
    refine hK.out _ _ (by first | (refine ⟨?_, ?_, ?_, ?_⟩ <;> assumption) | go_keep) (fun hHeld => ?_)
    clear hK K
    (try simp only [Act.put, List.setIfInBounds_toArray, List.set_cons_zero, List.set_cons_succ])
    refine wpAnyH_take (i := 5) (oi := ⟨some 12, _, _, _, _, _⟩) (v := ?_) rfl (by kernel_rfl) (by kernel_rfl) (by kernel_rfl) (fun _ _ _ h => h) (Or.inl ⟨by rfl, ?_⟩) hHeld ?_
    rotate_left
    · intro w hSw
      (try dsimp only at hSw)
      go_simp
      (try with_reducible rfl)
    (try simp only [Act.put, List.setIfInBounds_toArray, List.set_cons_zero, List.set_cons_succ])
    refine wpAnyH_take (i := 6) (oi := ⟨some 13, _, _, _, _, _⟩) (v := ?_) rfl (by kernel_rfl) (by kernel_rfl) (by kernel_rfl) (fun _ _ _ h => h) (Or.inl ⟨by rfl, ?_⟩) hHeld ?_
    rotate_left
    · intro w hSw
      (try dsimp only at hSw)
      go_simp
      (try with_reducible rfl)
    (try simp only [Act.put, List.setIfInBounds_toArray, List.set_cons_zero, List.set_cons_succ])
    refine wpAnyH_ready (rs := [11]) (by kernel_rfl) (by simp) ?_
    refine AllReadyH.cons (o := ⟨some 18, _, _, _, _, _⟩) rfl (fun K hK => ?_) AllReadyH.nil
    go_simp
    (go_at_call_of 58 (Value.int .i64 s); refine (l01Dec_any s (by omega) (by omega) _).mono ?_; rintro e w2 ⟨rfl, hb2⟩; have B2 : Below w.heap.size w w2 := (by repeat (first | with_reducible exact Below.refl _ _ | with_reducible assumption | with_reducible refine sub_alloc ?_ _ | (with_reducible refine sub_setCell2 ?_ ?_ _; (focus (first | (simp; done) | (simp <;> omega)))) | with_reducible refine sub_drew ?_ | with_reducible refine below_drewN ?_ _ | with_reducible refine sub_step (by assumption) ?_ (by first | rfl | (simp; done)) | exact Below.refl _ _ | assumption | refine sub_alloc ?_ _ | refine sub_setCell ?_ (by simp <;> omega) _ | refine sub_drew ?_ | refine below_drewN ?_ _ | refine sub_step (by assumption) ?_ (by first | rfl | (simp; done)))); have Y2 := R0.out.below B2 R0.out.lt; obtain ⟨q20, q21, -, -, -, -, -, q27, q28⟩ := Y2.flat)
    (try go_wp2_with fail)
    refine hK.out _ _ (by first | (refine ⟨?_, ?_, ?_, ?_⟩ <;> assumption) | go_keep) (fun hHeld => ?_)
    clear hK K
    (try simp only [Act.put, List.setIfInBounds_toArray, List.set_cons_zero, List.set_cons_succ])
    refine wpAnyH_take (i := 12) (oi := ⟨some 19, _, _, _, _, _⟩) (v := ?_) rfl (by kernel_rfl) (by kernel_rfl) (by kernel_rfl) (fun _ _ _ h => h) (Or.inl ⟨by rfl, ?_⟩) hHeld ?_
    rotate_left
    · intro w hSw
      (try dsimp only at hSw)
      go_simp
      (try with_reducible rfl)
    (try simp only [Act.put, List.setIfInBounds_toArray, List.set_cons_zero, List.set_cons_succ])
    refine wpAnyH_take (i := 13) (oi := ⟨some 20, _, _, _, _, _⟩) (v := ?_) rfl (by kernel_rfl) (by kernel_rfl) (by kernel_rfl) (fun _ _ _ h => h) (Or.inl ⟨by rfl, ?_⟩) hHeld ?_
    rotate_left
    · intro w hSw
      (try dsimp only at hSw)
      go_simp
      (try with_reducible rfl)
    (try simp only [Act.put, List.setIfInBounds_toArray, List.set_cons_zero, List.set_cons_succ])
    refine wpAnyH_ready (rs := [14]) (by kernel_rfl) (by simp) ?_
    refine AllReadyH.cons (o := ⟨some 21, _, _, _, _, _⟩) rfl (fun K hK => ?_) AllReadyH.nil
    go_simp
    (go_at_call 82; refine (l06NamesT_any _).mono ?_; rintro e w3 ⟨A3, c3, rfl, o3, hb3⟩; have B3 : Below w.heap.size w w3 := (by repeat (first | with_reducible exact Below.refl _ _ | with_reducible assumption | with_reducible refine sub_alloc ?_ _ | (with_reducible refine sub_setCell2 ?_ ?_ _; (focus (first | (simp; done) | (simp <;> omega)))) | with_reducible refine sub_drew ?_ | with_reducible refine below_drewN ?_ _ | with_reducible refine sub_step (by assumption) ?_ (by first | rfl | (simp; done)) | exact Below.refl _ _ | assumption | refine sub_alloc ?_ _ | refine sub_setCell ?_ (by simp <;> omega) _ | refine sub_drew ?_ | refine below_drewN ?_ _ | refine sub_step (by assumption) ?_ (by first | rfl | (simp; done)))); have Y3 := R0.out.below B3 R0.out.lt; obtain ⟨q30, q31, -, -, -, -, -, q37, q38⟩ := Y3.flat; obtain ⟨g3, f3, rfl, hg3, hc3⟩ := o3.ints.at_ (by omega); have x3 := hc3 cn C HGC.out; clear hc3 o3)
    (try go_wp2_with fail)
    refine hK.out _ _ (by first | (refine ⟨?_, ?_, ?_, ?_⟩ <;> assumption) | go_keep) (fun hHeld => ?_)
    clear hK K
    (try simp only [Act.put, List.setIfInBounds_toArray, List.set_cons_zero, List.set_cons_succ])
    refine wpAnyH_take (i := 19) (oi := ⟨some 26, _, _, _, _, _⟩) (v := ?_) rfl (by kernel_rfl) (by kernel_rfl) (by kernel_rfl) (fun _ _ _ h => h) (Or.inl ⟨by rfl, ?_⟩) hHeld ?_
    rotate_left
    · intro w hSw
      (try dsimp only at hSw)
      go_simp
      (try with_reducible rfl)
    (try simp only [Act.put, List.setIfInBounds_toArray, List.set_cons_zero, List.set_cons_succ])
    refine wpAnyH_ready (rs := [20, 23]) (by kernel_rfl) (by simp) ?_
    refine AllReadyH.cons (o := ⟨some 27, _, _, _, _, _⟩) rfl (fun K hK => ?_) (AllReadyH.cons (o := ⟨some 30, _, _, _, _, _⟩) rfl (fun K hK => ?_) AllReadyH.nil)
    · go_simp
      refine hK.out _ _ (by first | (refine ⟨?_, ?_, ?_, ?_⟩ <;> assumption) | go_keep) (fun hHeld => ?_)
      clear hK K
      (try simp only [Act.put, List.setIfInBounds_toArray, List.set_cons_zero, List.set_cons_succ])
      refine wpAnyH_take (i := 21) (oi := ⟨some 28, _, _, _, _, _⟩) (v := ?_) rfl (by kernel_rfl) (by kernel_rfl) (by kernel_rfl) (fun _ _ _ h => h) (Or.inl ⟨by rfl, ?_⟩) hHeld ?_
      rotate_left
      · intro w hSw
        (try dsimp only at hSw)
        go_simp
        (try with_reducible rfl)
      (try simp only [Act.put, List.setIfInBounds_toArray, List.set_cons_zero, List.set_cons_succ])
      refine wpAnyH_take (i := 22) (oi := ⟨some 29, _, _, _, _, _⟩) (v := ?_) rfl (by kernel_rfl) (by kernel_rfl) (by kernel_rfl) (fun _ _ _ h => h) (Or.inl ⟨by rfl, ?_⟩) hHeld ?_
      rotate_left
      · intro w hSw
        (try dsimp only at hSw)
        go_simp
        (try with_reducible rfl)
      (try simp only [Act.put, List.setIfInBounds_toArray, List.set_cons_zero, List.set_cons_succ])
      refine wpAnyH_ready (rs := [23]) (by kernel_rfl) (by simp) ?_
      refine AllReadyH.cons (o := ⟨some 30, _, _, _, _, _⟩) rfl (fun K hK => ?_) AllReadyH.nil
      go_simp
      (go_at_call 83; refine (l03SlamsT_any _).mono ?_; rintro e w4 ⟨A4, c4, rfl, o4, hb4⟩; have B4 : Below w.heap.size w w4 := (by repeat (first | with_reducible exact Below.refl _ _ | with_reducible assumption | with_reducible refine sub_alloc ?_ _ | (with_reducible refine sub_setCell2 ?_ ?_ _; (focus (first | (simp; done) | (simp <;> omega)))) | with_reducible refine sub_drew ?_ | with_reducible refine below_drewN ?_ _ | with_reducible refine sub_step (by assumption) ?_ (by first | rfl | (simp; done)) | exact Below.refl _ _ | assumption | refine sub_alloc ?_ _ | refine sub_setCell ?_ (by simp <;> omega) _ | refine sub_drew ?_ | refine below_drewN ?_ _ | refine sub_step (by assumption) ?_ (by first | rfl | (simp; done)))); have Y4 := R0.out.below B4 R0.out.lt; obtain ⟨q40, q41, -, -, -, -, -, q47, q48⟩ := Y4.flat; obtain ⟨g4, f4, rfl, hg4, hc4⟩ := o4.ints.at_ (by omega); have x4 := hc4 sn S HGS.out; have x5 := (hb4.cell (p := ⟨g3, f3 + cn, none⟩) (by exact hg3)).trans x3; clear hc4 o4)
      (try go_wp2_with fail)
      refine hK.out _ _ (by first | (refine ⟨?_, ?_, ?_, ?_⟩ <;> assumption) | go_keep) (fun hHeld => ?_)
      clear hK K
      (try simp only [Act.put, List.setIfInBounds_toArray, List.set_cons_zero, List.set_cons_succ])
      refine wpAnyH_take (i := 28) (oi := ⟨some 35, _, _, _, _, _⟩) (v := ?_) rfl (by kernel_rfl) (by kernel_rfl) (by kernel_rfl) (fun _ _ _ h => h) (Or.inl ⟨by rfl, ?_⟩) hHeld ?_
      rotate_left
      · intro w hSw
        (try dsimp only at hSw)
        go_simp
        (try with_reducible rfl)
      (try simp only [Act.put, List.setIfInBounds_toArray, List.set_cons_zero, List.set_cons_succ])
      refine wpAnyH_ready (rs := [29]) (by kernel_rfl) (by simp) ?_
      refine AllReadyH.cons (o := ⟨some 36, _, _, _, _, _⟩) rfl (fun K hK => ?_) AllReadyH.nil
      go_simp
      refine hK.out _ _ (by first | (refine ⟨?_, ?_, ?_, ?_⟩ <;> assumption) | go_keep) (fun hHeld => ?_)
      clear hK K
      (try simp only [Act.put, List.setIfInBounds_toArray, List.set_cons_zero, List.set_cons_succ])
      refine wpAnyH_take (i := 30) (oi := ⟨some 37, _, _, _, _, _⟩) (v := ?_) rfl (by kernel_rfl) (by kernel_rfl) (by kernel_rfl) (fun _ _ _ h => h) (Or.inl ⟨by rfl, ?_⟩) hHeld ?_
      rotate_left
      · intro w hSw
        (try dsimp only at hSw)
        go_simp
        (try with_reducible rfl)
      (try simp only [Act.put, List.setIfInBounds_toArray, List.set_cons_zero, List.set_cons_succ])
      refine wpAnyH_take (i := 31) (oi := ⟨some 3, _, _, _, _, _⟩) (v := ?_) rfl (by kernel_rfl) (by kernel_rfl) (by kernel_rfl) (fun _ _ _ h => h) (Or.inl ⟨by rfl, ?_⟩) hHeld ?_
      rotate_left
      · intro w hSw
        (try dsimp only at hSw)
        go_simp
        (try with_reducible rfl)
      (try simp only [Act.put, List.setIfInBounds_toArray, List.set_cons_zero, List.set_cons_succ])
      refine wpAnyH_done (by kernel_rfl) ?_ _
      refine NoPanic.normal ?_
      go_wp2_with fail
      go_meet
      exact ⟨by rw [HT.out], Y4, B4⟩
    · go_simp
      (go_at_call 83; refine (l03SlamsT_any _).mono ?_; rintro e w4 ⟨A4, c4, rfl, o4, hb4⟩; have B4 : Below w.heap.size w w4 := (by repeat (first | with_reducible exact Below.refl _ _ | with_reducible assumption | with_reducible refine sub_alloc ?_ _ | (with_reducible refine sub_setCell2 ?_ ?_ _; (focus (first | (simp; done) | (simp <;> omega)))) | with_reducible refine sub_drew ?_ | with_reducible refine below_drewN ?_ _ | with_reducible refine sub_step (by assumption) ?_ (by first | rfl | (simp; done)) | exact Below.refl _ _ | assumption | refine sub_alloc ?_ _ | refine sub_setCell ?_ (by simp <;> omega) _ | refine sub_drew ?_ | refine below_drewN ?_ _ | refine sub_step (by assumption) ?_ (by first | rfl | (simp; done)))); have Y4 := R0.out.below B4 R0.out.lt; obtain ⟨q40, q41, -, -, -, -, -, q47, q48⟩ := Y4.flat; obtain ⟨g4, f4, rfl, hg4, hc4⟩ := o4.ints.at_ (by omega); have x4 := hc4 sn S HGS.out; have x5 := (hb4.cell (p := ⟨g3, f3 + cn, none⟩) (by exact hg3)).trans x3; clear hc4 o4)
      (try go_wp2_with fail)
      refine hK.out _ _ (by first | (refine ⟨?_, ?_, ?_, ?_⟩ <;> assumption) | go_keep) (fun hHeld => ?_)
      clear hK K
      (try simp only [Act.put, List.setIfInBounds_toArray, List.set_cons_zero, List.set_cons_succ])
      refine wpAnyH_take (i := 28) (oi := ⟨some 35, _, _, _, _, _⟩) (v := ?_) rfl (by kernel_rfl) (by kernel_rfl) (by kernel_rfl) (fun _ _ _ h => h) (Or.inl ⟨by rfl, ?_⟩) hHeld ?_
      rotate_left
      · intro w hSw
        (try dsimp only at hSw)
        go_simp
        (try with_reducible rfl)
      (try simp only [Act.put, List.setIfInBounds_toArray, List.set_cons_zero, List.set_cons_succ])
      refine wpAnyH_ready (rs := [20, 29]) (by kernel_rfl) (by simp) ?_
      refine AllReadyH.cons (o := ⟨some 27, _, _, _, _, _⟩) rfl (fun K hK => ?_) (AllReadyH.cons (o := ⟨some 36, _, _, _, _, _⟩) rfl (fun K hK => ?_) AllReadyH.nil)
      · go_simp
        refine hK.out _ _ (by first | (refine ⟨?_, ?_, ?_, ?_⟩ <;> assumption) | go_keep) (fun hHeld => ?_)
        clear hK K
        (try simp only [Act.put, List.setIfInBounds_toArray, List.set_cons_zero, List.set_cons_succ])
        refine wpAnyH_take (i := 21) (oi := ⟨some 28, _, _, _, _, _⟩) (v := ?_) rfl (by kernel_rfl) (by kernel_rfl) (by kernel_rfl) (fun _ _ _ h => h) (Or.inl ⟨by rfl, ?_⟩) hHeld ?_
        rotate_left
        · intro w hSw
          (try dsimp only at hSw)
          go_simp
          (try with_reducible rfl)
        (try simp only [Act.put, List.setIfInBounds_toArray, List.set_cons_zero, List.set_cons_succ])
        refine wpAnyH_take (i := 22) (oi := ⟨some 29, _, _, _, _, _⟩) (v := ?_) rfl (by kernel_rfl) (by kernel_rfl) (by kernel_rfl) (fun _ _ _ h => h) (Or.inl ⟨by rfl, ?_⟩) hHeld ?_
        rotate_left
        · intro w hSw
          (try dsimp only at hSw)
          go_simp
          (try with_reducible rfl)
        (try simp only [Act.put, List.setIfInBounds_toArray, List.set_cons_zero, List.set_cons_succ])
        refine wpAnyH_ready (rs := [29]) (by kernel_rfl) (by simp) ?_
        refine AllReadyH.cons (o := ⟨some 36, _, _, _, _, _⟩) rfl (fun K hK => ?_) AllReadyH.nil
        go_simp
        refine hK.out _ _ (by first | (refine ⟨?_, ?_, ?_, ?_⟩ <;> assumption) | go_keep) (fun hHeld => ?_)
        clear hK K
        (try simp only [Act.put, List.setIfInBounds_toArray, List.set_cons_zero, List.set_cons_succ])
        refine wpAnyH_take (i := 30) (oi := ⟨some 37, _, _, _, _, _⟩) (v := ?_) rfl (by kernel_rfl) (by kernel_rfl) (by kernel_rfl) (fun _ _ _ h => h) (Or.inl ⟨by rfl, ?_⟩) hHeld ?_
        rotate_left
        · intro w hSw
          (try dsimp only at hSw)
          go_simp
          (try with_reducible rfl)
        (try simp only [Act.put, List.setIfInBounds_toArray, List.set_cons_zero, List.set_cons_succ])
        refine wpAnyH_take (i := 31) (oi := ⟨some 3, _, _, _, _, _⟩) (v := ?_) rfl (by kernel_rfl) (by kernel_rfl) (by kernel_rfl) (fun _ _ _ h => h) (Or.inl ⟨by rfl, ?_⟩) hHeld ?_
        rotate_left
        · intro w hSw
          (try dsimp only at hSw)
          go_simp
          (try with_reducible rfl)
        (try simp only [Act.put, List.setIfInBounds_toArray, List.set_cons_zero, List.set_cons_succ])
        refine wpAnyH_done (by kernel_rfl) ?_ _
        refine NoPanic.normal ?_
        go_wp2_with fail
        go_meet
        exact ⟨by rw [HT.out], Y4, B4⟩
      · go_simp
        refine hK.out _ _ (by first | (refine ⟨?_, ?_, ?_, ?_⟩ <;> assumption) | go_keep) (fun hHeld => ?_)
        clear hK K
        (try simp only [Act.put, List.setIfInBounds_toArray, List.set_cons_zero, List.set_cons_succ])
        refine wpAnyH_ready (rs := [20]) (by kernel_rfl) (by simp) ?_
        refine AllReadyH.cons (o := ⟨some 27, _, _, _, _, _⟩) rfl (fun K hK => ?_) AllReadyH.nil
        go_simp
        refine hK.out _ _ (by first | (refine ⟨?_, ?_, ?_, ?_⟩ <;> assumption) | go_keep) (fun hHeld => ?_)
        clear hK K
        (try simp only [Act.put, List.setIfInBounds_toArray, List.set_cons_zero, List.set_cons_succ])
        refine wpAnyH_take (i := 21) (oi := ⟨some 28, _, _, _, _, _⟩) (v := ?_) rfl (by kernel_rfl) (by kernel_rfl) (by kernel_rfl) (fun _ _ _ h => h) (Or.inl ⟨by rfl, ?_⟩) hHeld ?_
        rotate_left
        · intro w hSw
          (try dsimp only at hSw)
          go_simp
          (try with_reducible rfl)
        (try simp only [Act.put, List.setIfInBounds_toArray, List.set_cons_zero, List.set_cons_succ])
        refine wpAnyH_take (i := 22) (oi := ⟨some 29, _, _, _, _, _⟩) (v := ?_) rfl (by kernel_rfl) (by kernel_rfl) (by kernel_rfl) (fun _ _ _ h => h) (Or.inl ⟨by rfl, ?_⟩) hHeld ?_
        rotate_left
        · intro w hSw
          (try dsimp only at hSw)
          go_simp
          (try with_reducible rfl)
        (try simp only [Act.put, List.setIfInBounds_toArray, List.set_cons_zero, List.set_cons_succ])
        refine wpAnyH_take (i := 30) (oi := ⟨some 37, _, _, _, _, _⟩) (v := ?_) rfl (by kernel_rfl) (by kernel_rfl) (by kernel_rfl) (fun _ _ _ h => h) (Or.inl ⟨by rfl, ?_⟩) hHeld ?_
        rotate_left
        · intro w hSw
          (try dsimp only at hSw)
          go_simp
          (try with_reducible rfl)
        (try simp only [Act.put, List.setIfInBounds_toArray, List.set_cons_zero, List.set_cons_succ])
        refine wpAnyH_take (i := 31) (oi := ⟨some 3, _, _, _, _, _⟩) (v := ?_) rfl (by kernel_rfl) (by kernel_rfl) (by kernel_rfl) (fun _ _ _ h => h) (Or.inl ⟨by rfl, ?_⟩) hHeld ?_
        rotate_left
        · intro w hSw
          (try dsimp only at hSw)
          go_simp
          (try with_reducible rfl)
        (try simp only [Act.put, List.setIfInBounds_toArray, List.set_cons_zero, List.set_cons_succ])
        refine wpAnyH_done (by kernel_rfl) ?_ _
        refine NoPanic.normal ?_
        go_wp2_with fail
        go_meet
        exact ⟨by rw [HT.out], Y4, B4⟩
  case rest =>
    obtain ⟨rfl, ru, bb⟩ := hcut
    have HT2 := Lib.hid HT.out
    have RU := Lib.hid ru
    have BB := Lib.hid bb
    clear ru bb k0 k1 k7 k8 R0 HT
    have lt0 := RU.out.lt
    obtain ⟨w2, hw2⟩ : ∃ x, x = wc := ⟨_, rfl⟩
    subst hw2
    go_wp2_with fail
    refine (specFieldNames_any _).mono ?_
    rintro e w3 ⟨A, cA, rfl, o3, b3⟩
    have RU3 := Lib.hid (RU.out.below b3 lt0)
    have B3 := Lib.hid (sub_step b3 BB.out rfl)
    have O3 := Lib.hid (o3.lower (base' := w.heap.size) (by exact BB.out.size))
    clear b3 o3 RU BB
    go_wp2_with fail
    refine (l03Values_any b p s st sk re fe ag (cn : Int) (sn : Int) _ (by exact RU3.out)).mono ?_
    rintro e w4 ⟨V, u, rfl, o4, b4⟩
    have O4 := Lib.hid (O3.out.below b4 (Nat.le_refl _))
    have B4 := Lib.hid (sub_step b4 B3.out rfl)
    have P4 := Lib.hid o4.ints
    clear b4 o4 RU3 B3 O3
    obtain ⟨gV, fV, rfl, hgV, hcV⟩ := P4.out.at_ (by omega)
    obtain ⟨gA, fA, rfl, hgA, hcA⟩ := O4.out.ints.at_ (by omega)
    have CV := Lib.hid hcV
    have CA := Lib.hid hcA
    clear hcV hcA
    go_wp2_with fail
    go_loopw [3, 6] (fun t i wr => ∃ k : Nat, i = .int .i64 ((k : Int) + 2) ∧ k ≤ 5 ∧ t = .string (rtK ⟨p, s, st, sk, re, fe, ag, (cn : Int), (sn : Int)⟩ k) ∧ w4 = wr) (fun _ i _ => 7 - (intOf i).toNat)
    case atStart => exact ⟨0, rfl, by omega, rfl, rfl⟩
    case round =>
      obtain ⟨k, rfl, hk, rfl, rfl⟩ := hrel
      by_cases hlt : k < 5
      · have cx : w4.cell? ⟨gA, fA + (k + 2), none⟩ = some (.string (fln k)) := CA.out (k + 2) _ (fnL_get hlt)
        have cv : w4.cell? ⟨gV, fV + (k + 2), none⟩ = some (.int .i64 (bitI (flg ⟨p, s, st, sk, re, fe, ag, (cn : Int), (sn : Int)⟩ k))) := CV.out (k + 2) _ (rvL_get _ hlt)
        have e1 : (k : Int) + 2 ≤ 6 := by omega
        have e2 : (0 : Int) ≤ (k : Int) + 2 := by omega
        have e3 : (k : Int) + 2 < 9 := by omega
        have e4 : ((k : Int) + 2).toNat = k + 2 := by omega
        have WR : IntKind.i64.wrap ((k : Int) + 2 + 1) = (k : Int) + 2 + 1 := IntWalk.i64_in _ (by omega)
        have z1 := fln_size k
        have z2 := HSZ.out k
        have m0 : ¬ 9223372036854775807 < 1 + (fln k).size := by omega
        have m1 : ¬ 9223372036854775807 < (rtK ⟨p, s, st, sk, re, fe, ag, (cn : Int), (sn : Int)⟩ k).size + (1 + (fln k).size) := by omega
        cases hf : flg ⟨p, s, st, sk, re, fe, ag, (cn : Int), (sn : Int)⟩ k
        · rw [hf, show bitI false = 0 from rfl] at cv
          have HK := Lib.hid (flg_name hf)
          clear hf
          go_wp2_with fail
          go_roundw
          case rel => exact ⟨k + 1, by go_num, by omega, by rw [HK.out]; rfl, trivial⟩
          case measure => simp [intOf]; omega
        · rw [hf, show bitI true = 1 from rfl] at cv
          have HK := Lib.hid (flg_name hf)
          clear hf
          go_wp2_with fail
          go_roundw
          case rel => exact ⟨k + 1, by go_num, by omega, by rw [HK.out]; rfl, trivial⟩
          case measure => simp [intOf]; omega
      · have hke : k = 5 := by omega
        subst hke
        go_wp2_with fail
        go_ret
        exact ⟨rfl, B4.out⟩
theorem specRulesText_any (p s : Int) (st sk re fe ag : Bool) (c sl : Int) (w : World) : Calls Tryd.prog 41 #[.agg #[.int .i64 p, .int .i64 s, .bool st, .bool sk, .bool re, .bool fe, .bool ag, .int .i64 c, .int .i64 sl]] w fun e w' => e = .returned (.string (rtT ⟨p, s, st, sk, re, fe, ag, c, sl⟩)) ∧ Below w.heap.size w w' := by
  have R0 := Lib.hid (RuAt.box w 39 p s st sk re fe ag c sl)
  have bw := Lib.hid (show Below w.heap.size w (w.alloc (.cells #[.int .i64 p, .int .i64 s, .bool st, .bool sk, .bool re, .bool fe, .bool ag, .int .i64 c, .int .i64 sl] 39)) from (by repeat (first | with_reducible exact Below.refl _ _ | with_reducible assumption | with_reducible refine sub_alloc ?_ _ | (with_reducible refine sub_setCell2 ?_ ?_ _; (focus (first | (simp; done) | (simp <;> omega)))) | with_reducible refine sub_drew ?_ | with_reducible refine below_drewN ?_ _ | with_reducible refine sub_step (by assumption) ?_ (by first | rfl | (simp; done)) | exact Below.refl _ _ | assumption | refine sub_alloc ?_ _ | refine sub_setCell ?_ (by simp <;> omega) _ | refine sub_drew ?_ | refine below_drewN ?_ _ | refine sub_step (by assumption) ?_ (by first | rfl | (simp; done)))))
  cases ho : okR ⟨p, s, st, sk, re, fe, ag, c, sl⟩
  · have HO := Lib.hid ho
    clear ho
    go_enter Tryd.func41, Tryd.ntmps41
    go_wp2_with fail
    refine (l02OkB_is w.heap.size 0 ⟨p, s, st, sk, re, fe, ag, c, sl⟩ _ HO.out _ (by exact R0.out)).mono ?_
    rintro e w' ⟨rfl, rfl⟩
    go_wp2_with fail
    go_ret
    exact ⟨ret_rt (by rw [rtT, if_neg (by rw [HO.out]; decide)]), bw.out⟩
  · have HO := Lib.hid ho
    clear ho
    go_enter Tryd.func41, Tryd.ntmps41
    go_wp2_with fail
    refine (l02OkB_is w.heap.size 0 ⟨p, s, st, sk, re, fe, ag, c, sl⟩ _ HO.out _ (by exact R0.out)).mono ?_
    rintro e w' ⟨rfl, rfl⟩
    go_wp2_with fail
    refine (l03Text_any w.heap.size p s st sk re fe ag c sl _ (by exact R0.out) HO.out).mono ?_
    rintro e w1 ⟨rfl, b1⟩
    have B1 := Lib.hid (sub_step b1 bw.out rfl)
    clear b1
    go_wp2_with fail
    go_ret
    exact ⟨ret_rt (by rw [rtT, if_pos HO.out]), B1.out⟩
theorem specRulesT_is (p s : Int) (st sk re fe ag : Bool) (c sl : Int) (t : ByteArray) (h : rtT ⟨p, s, st, sk, re, fe, ag, c, sl⟩ = t) (w : World) : Calls Tryd.prog 41 #[.agg #[.int .i64 p, .int .i64 s, .bool st, .bool sk, .bool re, .bool fe, .bool ag, .int .i64 c, .int .i64 sl]] w fun e w' => e = .returned (.string t) ∧ Below w.heap.size w w' := by
  subst h
  exact specRulesText_any p s st sk re fe ag c sl w
theorem implRulesT_is (p s : Int) (st sk re fe ag : Bool) (c sl : Int) (t : ByteArray) (h : rtT ⟨p, s, st, sk, re, fe, ag, c, sl⟩ = t) (w : World) (ht : Tab w) : Calls Tryd.prog 42 #[.agg #[.int .i64 p, .int .i64 s, .bool st, .bool sk, .bool re, .bool fe, .bool ag, .int .i64 c, .int .i64 sl]] w fun e w' => e = .returned (.string t) ∧ Below w.heap.size w w' := by
  subst h
  exact implRulesText_any p s st sk re fe ag c sl w ht
set_option maxRecDepth 100000 in
set_option maxHeartbeats 4000000 in
theorem FnExactRulesText_walk (a0 : Ru) (w : World) (_h0 : a0.wf) (ht : Tab w) :
    Calls Tryd.prog 11 #[.agg a0.cells.toArray] w fun e w' => e = .returned (.bool true) ∧ Below w.heap.size w w' := by
  obtain ⟨p, s, st, sk, re, fe, ag, c, sl⟩ := a0
  show Calls Tryd.prog 11 #[.agg #[.int .i64 p, .int .i64 s, .bool st, .bool sk, .bool re, .bool fe, .bool ag, .int .i64 c, .int .i64 sl]] w _
  clear _h0
  have HT := Lib.hid ht
  clear ht
  obtain ⟨t, ht⟩ : ∃ t, rtT ⟨p, s, st, sk, re, fe, ag, c, sl⟩ = t := ⟨_, rfl⟩
  have HH := Lib.hid ht
  clear ht
  have V0 := Lib.hid (RuAt.box w 34 p s st sk re fe ag c sl)
  obtain ⟨k0, k1, k2, k3, k4, k5, k6, k7, k8⟩ := V0.out.flat
  go_enter Tryd.func11, Tryd.ntmps11
  go_wp2_with fail
  refine (toRules_any _ _ _ _ _ _ _ _ _ _).mono ?_
  rintro e w1 ⟨rfl, hb1⟩
  have V1 := Lib.hid (V0.out.below hb1 V0.out.lt)
  have B1 : Below w.heap.size w w1 := (by repeat (first | with_reducible exact Below.refl _ _ | with_reducible assumption | with_reducible refine sub_alloc ?_ _ | (with_reducible refine sub_setCell2 ?_ ?_ _; (focus (first | (simp; done) | (simp <;> omega)))) | with_reducible refine sub_drew ?_ | with_reducible refine below_drewN ?_ _ | with_reducible refine sub_step (by assumption) ?_ (by first | rfl | (simp; done)) | exact Below.refl _ _ | assumption | refine sub_alloc ?_ _ | refine sub_setCell ?_ (by simp <;> omega) _ | refine sub_drew ?_ | refine below_drewN ?_ _ | refine sub_step (by assumption) ?_ (by first | rfl | (simp; done))))
  clear k0 k1 k2 k3 k4 k5 k6 k7 k8 V0 hb1
  go_wp2_with fail
  refine (specRulesT_is p s st sk re fe ag c sl t HH.out _).mono ?_
  rintro e w2 ⟨rfl, hb2⟩
  have V2 := Lib.hid (V1.out.below hb2 V1.out.lt)
  have B2 : Below w.heap.size w w2 := sub_step hb2 B1 rfl
  clear hb2 V1
  obtain ⟨k0, k1, k2, k3, k4, k5, k6, k7, k8⟩ := V2.out.flat
  go_wp2_with fail
  refine (toRules_any _ _ _ _ _ _ _ _ _ _).mono ?_
  rintro e w3 ⟨rfl, hb3⟩
  have B3 : Below w.heap.size w w3 := sub_step hb3 B2 rfl
  clear k0 k1 k2 k3 k4 k5 k6 k7 k8 V2 hb3
  go_wp2_with fail
  refine (implRulesT_is p s st sk re fe ag c sl t HH.out _ (by exact HT.out.below B3 (Nat.le_refl _))).mono ?_
  rintro e w4 ⟨rfl, hb4⟩
  have B4 : Below w.heap.size w w4 := sub_step hb4 B3 rfl
  clear hb4
  go_wp2_with fail
  go_ret
  exact ⟨rfl, B4⟩
end Go.Proofs.YtnanaldolnehiabDoor
