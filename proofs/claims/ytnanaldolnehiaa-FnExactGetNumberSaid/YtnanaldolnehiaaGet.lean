/-
  The number at a place of bytes: l14Get, GetNumber; the law FnExactGetNumber, walked.
-/
import Derived.Test.YtnanaldolnehiaaBytes
set_option linter.unusedSimpArgs false
set_option linter.unusedVariables false
namespace Go.Proofs.Ytnanaldolnehiaa
open Go.ChangeShapes Go.WideShapes Go.RowKit Go.Deep

theorem zz_pos {n : Int} (h : ¬ (n < 0)) : zz n = (2 * n).toNat := by unfold zz; rw [if_neg h]
theorem zz_neg {n : Int} (h : n < 0) : zz n = (-2 * n - 1).toNat := by unfold zz; rw [if_pos h]
/-- The number of an unsigned one. -/
def unz (u : Nat) : Int := if u % 2 = 1 then -(((u + 1) / 2 : Nat) : Int) else ((u / 2 : Nat) : Int)
theorem zz_unz (u : Nat) : zz (unz u) = u := by
  unfold unz
  split
  · rw [zz_neg (by omega)]; omega
  · rw [zz_pos (by omega)]; omega
theorem unz_big {u : Nat} (h : 268435456 ≤ u) : ¬ (-1000000 ≤ unz u ∧ unz u ≤ 1000000) := by
  unfold unz
  split <;> omega
/-- A number off bytes: at most f of them; the number and how many were read. -/
def gw : Nat → List UInt8 → Option (Nat × Nat)
  | 0, _ => none
  | _ + 1, [] => none
  | f + 1, b :: t => if b.toNat < 128 then some (b.toNat, 1) else (gw f t).map fun p => (b.toNat - 128 + 128 * p.1, p.2 + 1)
theorem gw_nil (f : Nat) : gw f [] = none := by cases f <;> rfl
theorem gw_last (f : Nat) (b : UInt8) (t : List UInt8) (h : b.toNat < 128) : gw (f + 1) (b :: t) = some (b.toNat, 1) := by simp [gw, h]
theorem gw_more (f : Nat) (b : UInt8) (t : List UInt8) (h : ¬ (b.toNat < 128)) : gw (f + 1) (b :: t) = (gw f t).map fun p => (b.toNat - 128 + 128 * p.1, p.2 + 1) := by simp [gw, h]
theorem gw_len : ∀ (f : Nat) (l : List UInt8) (u k : Nat), gw f l = some (u, k) → 1 ≤ k ∧ k ≤ f ∧ k ≤ l.length
  | 0, _, _, _, h => by cases h
  | _ + 1, [], _, _, h => by cases h
  | f + 1, b :: t, u, k, h => by
    by_cases hb : b.toNat < 128
    · rw [gw_last f b t hb] at h
      cases h
      simp
    · rw [gw_more f b t hb] at h
      obtain ⟨⟨u', k'⟩, h1, h2⟩ := Option.map_eq_some_iff.1 h
      cases h2
      have := gw_len f t u' k' h1
      simp only [List.length_cons]
      omega
theorem gw_zero : ∀ (f : Nat) (l : List UInt8) (k : Nat), gw f l = some (0, k) → ∃ b, l[k - 1]? = some b ∧ b.toNat = 0
  | 0, _, _, h => by cases h
  | _ + 1, [], _, h => by cases h
  | f + 1, b :: t, k, h => by
    by_cases hb : b.toNat < 128
    · rw [gw_last f b t hb] at h
      simp only [Option.some.injEq, Prod.mk.injEq] at h
      obtain ⟨h1, rfl⟩ := h
      exact ⟨b, rfl, h1⟩
    · rw [gw_more f b t hb] at h
      obtain ⟨⟨u', k'⟩, h1, h2⟩ := Option.map_eq_some_iff.1 h
      simp only [Prod.mk.injEq] at h2
      obtain ⟨h3, rfl⟩ := h2
      obtain rfl : u' = 0 := by omega
      obtain ⟨b', h4, h5⟩ := gw_zero f t k' h1
      have hk := gw_len f t 0 k' h1
      refine ⟨b', ?_, h5⟩
      obtain ⟨j, rfl⟩ : ∃ j, k' = j + 1 := ⟨k' - 1, by omega⟩
      simpa using h4
/-- The bytes read are those of the number just where the last is no needless zero. -/
theorem gw_put : ∀ (f : Nat) (l : List UInt8) (u k : Nat), gw f l = some (u, k) → (pbs u = l.take k ↔ (k = 1 ∨ ∃ b, l[k - 1]? = some b ∧ b.toNat ≠ 0))
  | 0, _, _, _, h => by cases h
  | _ + 1, [], _, _, h => by cases h
  | f + 1, b :: t, u, k, h => by
    by_cases hb : b.toNat < 128
    · rw [gw_last f b t hb] at h
      simp only [Option.some.injEq, Prod.mk.injEq] at h
      obtain ⟨rfl, rfl⟩ := h
      rw [pbs_last hb]
      simp
    · rw [gw_more f b t hb] at h
      obtain ⟨⟨u', k'⟩, h1, h2⟩ := Option.map_eq_some_iff.1 h
      simp only [Prod.mk.injEq] at h2
      obtain ⟨rfl, rfl⟩ := h2
      have hk := gw_len f t u' k' h1
      obtain ⟨j, rfl⟩ : ∃ j, k' = j + 1 := ⟨k' - 1, by omega⟩
      have hb2 := b.toNat_lt
      have ih := gw_put f t u' (j + 1) h1
      by_cases h0 : u' = 0
      · subst h0
        obtain ⟨b0, h3, h4⟩ := gw_zero f t _ h1
        rw [pbs_last (by omega)]
        constructor
        · intro e
          have := congrArg List.length e
          simp only [List.length_take, List.length_cons, List.length_nil] at this
          omega
        · rintro (h5 | ⟨b1, h5, h6⟩)
          · omega
          · have h7 : t[j]? = some b1 := by simpa using h5
            have h8 : t[j]? = some b0 := by simpa using h3
            rw [h7] at h8
            cases h8
            exact absurd h4 h6
      · rw [pbs_step (by omega)]
        have e1 : (b.toNat - 128 + 128 * u') % 128 + 128 = b.toNat := by omega
        have e2 : (b.toNat - 128 + 128 * u') / 128 = u' := by omega
        rw [e1, e2, UInt8.ofNat_toNat]
        rw [List.take_succ_cons]
        constructor
        · intro e
          injection e with _ e
          refine .inr ?_
          rcases ih.1 e with h3 | ⟨b1, h3, h4⟩
          · obtain rfl : j = 0 := by omega
            cases f with
            | zero => cases h1
            | succ f =>
              cases t with
              | nil => cases h1
              | cons c t =>
                by_cases hc : c.toNat < 128
                · rw [gw_last f c t hc] at h1
                  simp only [Option.some.injEq, Prod.mk.injEq] at h1
                  exact ⟨c, rfl, by omega⟩
                · rw [gw_more f c t hc] at h1
                  obtain ⟨⟨u2, k2⟩, h6, h7⟩ := Option.map_eq_some_iff.1 h1
                  simp only [Prod.mk.injEq] at h7
                  have := gw_len f t u2 k2 h6
                  omega
          · exact ⟨b1, by simpa using h3, h4⟩
        · rintro (h5 | ⟨b1, h5, h6⟩)
          · omega
          · rw [ih.2 (.inr ⟨b1, by simpa using h5, h6⟩)]
theorem gw_more_fuel : ∀ (f : Nat) (l : List UInt8) (p : Nat × Nat), gw f l = some p → gw (f + 1) l = some p
  | 0, _, _, h => by cases h
  | _ + 1, [], _, h => by cases h
  | f + 1, b :: t, p, h => by
    by_cases hb : b.toNat < 128
    · rw [gw_last f b t hb] at h
      rw [gw_last _ b t hb, h]
    · rw [gw_more f b t hb] at h
      obtain ⟨p', h1, h2⟩ := Option.map_eq_some_iff.1 h
      rw [gw_more _ b t hb, gw_more_fuel f t p' h1]
      simp [h2]
/-- A number that takes all of f + 1 bytes and whose last is not zero is great. -/
theorem gw_great : ∀ (f : Nat) (l : List UInt8) (u k : Nat), gw f l = none → gw (f + 1) l = some (u, k) → k = f + 1 ∧ ((∃ b, l[k - 1]? = some b ∧ b.toNat ≠ 0) → 128 ^ f ≤ u)
  | 0, l, u, k, _, h => by
    cases l with
    | nil => cases h
    | cons b t =>
      by_cases hb : b.toNat < 128
      · rw [gw_last 0 b t hb] at h
        simp only [Option.some.injEq, Prod.mk.injEq] at h
        obtain ⟨rfl, rfl⟩ := h
        refine ⟨rfl, ?_⟩
        rintro ⟨c, hc, h0⟩
        simp at hc
        subst hc
        simp
        omega
      · rw [gw_more 0 b t hb] at h
        cases h
  | f + 1, l, u, k, hn, h => by
    cases l with
    | nil => cases h
    | cons b t =>
      by_cases hb : b.toNat < 128
      · rw [gw_last _ b t hb] at hn
        cases hn
      · rw [gw_more _ b t hb] at h hn
        have hn2 : gw f t = none := by simpa using hn
        obtain ⟨⟨u', k'⟩, h1, h2⟩ := Option.map_eq_some_iff.1 h
        simp only [Prod.mk.injEq] at h2
        obtain ⟨rfl, rfl⟩ := h2
        obtain ⟨rfl, h4⟩ := gw_great f t u' k' hn2 h1
        refine ⟨rfl, ?_⟩
        rintro ⟨c, hc, h0⟩
        have := h4 ⟨c, by simpa using hc, h0⟩
        rw [Nat.pow_succ]
        omega
theorem gw_lt : ∀ (f : Nat) (l : List UInt8) (u k : Nat), gw f l = some (u, k) → u < 128 ^ f
  | 0, _, _, _, h => by cases h
  | _ + 1, [], _, _, h => by cases h
  | f + 1, b :: t, u, k, h => by
    by_cases hb : b.toNat < 128
    · rw [gw_last f b t hb] at h
      simp only [Option.some.injEq, Prod.mk.injEq] at h
      obtain ⟨rfl, rfl⟩ := h
      have : 1 ≤ 128 ^ f := Nat.one_le_pow _ _ (by decide)
      rw [Nat.pow_succ]
      omega
    · rw [gw_more f b t hb] at h
      obtain ⟨⟨u', k'⟩, h1, h2⟩ := Option.map_eq_some_iff.1 h
      simp only [Prod.mk.injEq] at h2
      obtain ⟨rfl, rfl⟩ := h2
      have := gw_lt f t u' k' h1
      have := b.toNat_lt
      rw [Nat.pow_succ]
      omega
/-- The number at a place of bytes, and the place behind it: none where there is none that is an item in its shortest form. -/
def gnO (l : List UInt8) (a : Nat) : Option (Int × Nat) :=
  match gw 5 (l.drop a) with
  | none => none
  | some p => if (p.2 = 1 ∨ ∃ b, (l.drop a)[p.2 - 1]? = some b ∧ b.toNat ≠ 0) ∧ (-1000000 ≤ unz p.1 ∧ unz p.1 ≤ 1000000) then some (unz p.1, a + p.2) else none
theorem gn_none {l : List UInt8} {a : Nat} (h : gw 5 (l.drop a) = none) : gnO l a = none := by rw [gnO, h]
theorem gn_yes {l : List UInt8} {a u k : Nat} (h : gw 5 (l.drop a) = some (u, k)) (h0 : k = 1 ∨ ∃ b, (l.drop a)[k - 1]? = some b ∧ b.toNat ≠ 0) (h1 : -1000000 ≤ unz u ∧ unz u ≤ 1000000) : gnO l a = some (unz u, a + k) := by
  rw [gnO, h]
  exact if_pos ⟨h0, h1⟩
theorem gn_not {l : List UInt8} {a u k : Nat} (h : gw 5 (l.drop a) = some (u, k)) (h0 : ¬ ((k = 1 ∨ ∃ b, (l.drop a)[k - 1]? = some b ∧ b.toNat ≠ 0) ∧ (-1000000 ≤ unz u ∧ unz u ≤ 1000000))) : gnO l a = none := by
  rw [gnO, h]
  exact if_neg h0
theorem gn_four {l : List UInt8} {a u k : Nat} (h : gw 4 (l.drop a) = some (u, k)) : gw 5 (l.drop a) = some (u, k) := gw_more_fuel 4 _ _ h
theorem gn_none4 {l : List UInt8} {a : Nat} (h : gw 4 (l.drop a) = none) : gnO l a = none := by
  rcases h5 : gw 5 (l.drop a) with _ | ⟨u, k⟩
  · exact gn_none h5
  · obtain ⟨rfl, h7⟩ := gw_great 4 _ u k h h5
    refine gn_not h5 fun ⟨h8, h9⟩ => ?_
    rcases h8 with h8 | h8
    · omega
    · exact unz_big (h7 h8) h9
theorem gn_ok4 {l : List UInt8} {a u k : Nat} (h : gw 4 (l.drop a) = some (u, k)) (h1 : -1000000 ≤ unz u ∧ unz u ≤ 1000000) (h2 : pbs u = (l.drop a).take k) : gnO l a = some (unz u, a + k) :=
  gn_yes (gn_four h) ((gw_put 4 _ u k h).1 h2) h1
theorem gn_item4 {l : List UInt8} {a u k : Nat} (h : gw 4 (l.drop a) = some (u, k)) (h1 : ¬ (-1000000 ≤ unz u ∧ unz u ≤ 1000000)) : gnO l a = none := gn_not (gn_four h) fun h2 => h1 h2.2
theorem gn_put4 {l : List UInt8} {a u k : Nat} (h : gw 4 (l.drop a) = some (u, k)) (h2 : ¬ (pbs u = (l.drop a).take k)) : gnO l a = none := gn_not (gn_four h) fun h3 => h2 ((gw_put 4 _ u k h).2 h3.1)
/-- Midway through the bytes of a number. -/
def gst (F : Nat) (l : List UInt8) (a j u t : Nat) : Prop := gw F (l.drop a) = (gw (F - j) (l.drop (a + j))).map fun p => (u + t * p.1, j + p.2)
theorem gst_start (F : Nat) (l : List UInt8) (a : Nat) : gst F l a 0 0 1 := by
  unfold gst
  simp
theorem gst_step {F : Nat} {l : List UInt8} {a j u t : Nat} {b : UInt8} (h : gst F l a j u t) (hj : j < F) (hb : l[a + j]? = some b) (h1 : ¬ (b.toNat < 128)) : gst F l a (j + 1) (u + t * (b.toNat - 128)) (t * 128) := by
  unfold gst at h ⊢
  obtain ⟨hk, e⟩ := List.getElem?_eq_some_iff.1 hb
  rw [h, List.drop_eq_getElem_cons hk, e, show F - j = (F - (j + 1)) + 1 by omega, gw_more _ _ _ h1, Option.map_map, show a + j + 1 = a + (j + 1) by omega]
  refine congrArg (fun f => Option.map f (gw (F - (j + 1)) (l.drop (a + (j + 1))))) (funext fun p => ?_)
  refine Prod.ext ?_ ?_
  · show u + t * (b.toNat - 128 + 128 * p.1) = u + t * (b.toNat - 128) + t * 128 * p.1
    rw [Nat.mul_add, Nat.mul_assoc, Nat.add_assoc]
  · show j + (p.2 + 1) = j + 1 + p.2
    omega
theorem gst_end {F : Nat} {l : List UInt8} {a j u t : Nat} (h : gst F l a j u t) (hl : l.length ≤ a + j) : gw F (l.drop a) = none := by
  unfold gst at h
  rw [h, List.drop_of_length_le hl, gw_nil]
  rfl
theorem gst_full {F : Nat} {l : List UInt8} {a u t : Nat} (h : gst F l a F u t) : gw F (l.drop a) = none := by
  unfold gst at h
  rw [h, Nat.sub_self]
  rfl
theorem gst_last {F : Nat} {l : List UInt8} {a j u t : Nat} {b : UInt8} (h : gst F l a j u t) (hj : j < F) (hb : l[a + j]? = some b) (h1 : b.toNat < 128) : gw F (l.drop a) = some (u + t * b.toNat, j + 1) := by
  unfold gst at h
  obtain ⟨hk, e⟩ := List.getElem?_eq_some_iff.1 hb
  rw [h, List.drop_eq_getElem_cons hk, e, show F - j = (F - (j + 1)) + 1 by omega, gw_last _ _ _ h1]
  rfl
theorem drop_last {l : List UInt8} {a j : Nat} : (l.drop a)[j + 1 - 1]? = l[a + j]? := by rw [List.getElem?_drop, Nat.add_sub_cancel]

theorem byte_at {s : ByteArray} {k : Nat} (h : k < s.size) : s.data.toList[k]? = some s[k] := by
  have h2 : k < s.data.toList.length := by simpa using h
  rw [List.getElem?_eq_getElem h2]
  rfl
theorem ext_list {s : ByteArray} {a b : Nat} (h : b ≤ s.size) : (s.extract a b).data.toList = (s.data.toList.drop a).take (b - a) := by
  rw [ByteArray.data_extract, Array.toList_extract, List.extract_eq_take_drop]
/-- The three results. -/
def gN (s : ByteArray) (at_ : Int) : Int × Int × Int := if inB at_ 0 (s.size : Int) = true then (match gnO s.data.toList at_.toNat with | none => (0, 0, 8) | some p => (p.1, (p.2 : Int), 0)) else (0, 0, 2)
def gNV (s : ByteArray) (at_ : Int) : Value := .tuple #[.int .i64 (gN s at_).1, .int .i64 (gN s at_).2.1, .int .i64 (gN s at_).2.2]
theorem gN_out {s : ByteArray} {at_ : Int} (h : inB at_ 0 (s.size : Int) = false) : Ending.returned (.tuple #[.int .i64 0, .int .i64 0, .int .i64 2]) = .returned (gNV s at_) := by simp [gNV, gN, h]
theorem gN_none {s : ByteArray} {a : Nat} (h : a ≤ s.size) (h1 : gnO s.data.toList a = none) : Ending.returned (.tuple #[.int .i64 0, .int .i64 0, .int .i64 8]) = .returned (gNV s (a : Int)) := by
  have e : inB (a : Int) 0 (s.size : Int) = true := by simp [inB]; omega
  simp [gNV, gN, e, h1]
theorem gN_some {s : ByteArray} {a m : Nat} {n n' m' : Int} (h : a ≤ s.size) (h1 : gnO s.data.toList a = some (n, m)) (hn : n' = n) (hm : m' = (m : Int)) : Ending.returned (.tuple #[.int .i64 n', .int .i64 m', .int .i64 0]) = .returned (gNV s (a : Int)) := by
  have e : inB (a : Int) 0 (s.size : Int) = true := by simp [inB]; omega
  subst hn hm
  simp [gNV, gN, e, h1]
theorem unz_odd {u : Nat} (h : u % 2 = 1) : unz u = -(((u + 1) / 2 : Nat) : Int) := by rw [unz, if_pos h]
theorem unz_even {u : Nat} (h : ¬ (u % 2 = 1)) : unz u = ((u / 2 : Nat) : Int) := by rw [unz, if_neg h]
theorem neg_half {x : Int} {u : Nat} (h : x = (u : Int) + 1) (hu : u ≤ 1099511627776) : wrap64 (-x.tdiv 2) = -(((u + 1) / 2 : Nat) : Int) := by
  subst h
  rw [Int.tdiv_eq_ediv_of_nonneg (by omega)]
  unfold wrap64
  omega
/-- What l14Get returns. -/
def GetsS (s : ByteArray) (a : Nat) (e : Ending) : Prop := ∃ (n m : Int) (b : Bool), e = .returned (.tuple #[.int .i64 n, .int .i64 m, .bool b]) ∧ ((b = true ∧ ∃ p, gnO s.data.toList a = some p ∧ n = p.1 ∧ m = (p.2 : Int)) ∨ (b = false ∧ gnO s.data.toList a = none))
theorem gets_no {s : ByteArray} {a : Nat} (h : gnO s.data.toList a = none) (n m : Int) : GetsS s a (.returned (.tuple #[.int .i64 n, .int .i64 m, .bool false])) := ⟨n, m, false, rfl, .inr ⟨rfl, h⟩⟩
theorem gets_last {s : ByteArray} {a k u : Nat} (h : gw 5 (s.data.toList.drop a) = some (u, k)) (h0 : k = 1 ∨ ∃ b, (s.data.toList.drop a)[k - 1]? = some b ∧ b.toNat ≠ 0) {n m : Int} (hn : n = unz u) (hm : m = ((a + k : Nat) : Int)) : GetsS s a (.returned (.tuple #[.int .i64 n, .int .i64 m, .bool (inB n (-1000000) 1000000)])) := by
  subst hn hm
  refine ⟨_, _, _, rfl, ?_⟩
  by_cases h1 : -1000000 ≤ unz u ∧ unz u ≤ 1000000
  · exact .inl ⟨by simp [inB, h1], _, gn_yes h h0 h1, rfl, rfl⟩
  · refine .inr ⟨?_, gn_not h fun h2 => h1 h2.2⟩
    simp [inB]
    omega
set_option maxRecDepth 100000 in
set_option maxHeartbeats 4000000 in
theorem l14Get_any (s : ByteArray) (a : Nat) (hs : s.size ≤ 1048576) (ha : a ≤ s.size) (w : World) : Calls Try.prog 116 #[.string s, .int .i64 (a : Int)] w fun e w' => GetsS s a e ∧ w = w' := by
  go_enter Try.func116, Try.ntmps116
  go_wp2_with fail
  go_loopw [7, 8, 9] (fun u t k wr => ∃ (j U : Nat), j ≤ 4 ∧ k = .int .i64 ((a + j : Nat) : Int) ∧ u = .int .i64 (U : Int) ∧ t = .int .i64 ((128 ^ j : Nat) : Int) ∧ U < 128 ^ j ∧ Hid (gst 5 s.data.toList a j U (128 ^ j)) ∧ a + j ≤ s.size ∧ wr = w) (fun _ _ k _ => s.size - (intOf k).toNat)
  case atStart => exact ⟨0, 0, by omega, by simp, rfl, by simp, by simp, Lib.hid (gst_start 5 _ a), by omega, rfl⟩
  case round =>
    obtain ⟨j, U, hj, rfl, rfl, rfl, hU, hg, haj, rfl⟩ := hrel
    by_cases hlt : a + j < s.size
    · have j0 : ((a + j : Nat) : Int) < (s.size : Int) := by omega
      have j9 : ¬ ((s.size : Int) ≤ ((a + j : Nat) : Int)) := by omega
      obtain ⟨b, hb, hbs⟩ : ∃ b : UInt8, s[a + j] = b ∧ s.data.toList[a + j]? = some b := ⟨_, rfl, byte_at hlt⟩
      have hb2 := b.toNat_lt
      by_cases h1 : b.toNat < 128
      · have j1 : ¬ ((128 : Int) ≤ (b.toNat : Int)) := by omega
        have HG := Lib.hid (gst_last hg.out (by omega) hbs h1)
        have HD : Hid ((s.data.toList.drop a)[j + 1 - 1]? = some b) := Lib.hid (drop_last.trans hbs)
        clear hg hbs
        by_cases hz : 0 < j ∧ b.toNat = 0
        · have HN := Lib.hid (gn_not HG.out fun h2 => by
            rcases h2.1 with h3 | ⟨b3, h3, h4⟩
            · omega
            · rw [HD.out] at h3
              cases h3
              exact h4 hz.2)
          have j2 : (a : Int) < ((a + j : Nat) : Int) := by omega
          have j3 : ((b.toNat : Int) == 0) = true := by simp [hz.2]
          clear HG HD
          have hz2 := Lib.hid hz
          clear hz
          go_wp2_with fail
          go_ret3
          exact ⟨gets_no HN.out _ _, rfl⟩
        · have HZ : Hid (j + 1 = 1 ∨ ∃ b, (s.data.toList.drop a)[j + 1 - 1]? = some b ∧ b.toNat ≠ 0) := Lib.hid (by
            rcases Nat.eq_zero_or_pos j with h3 | h3
            · left; omega
            · exact .inr ⟨b, HD.out, fun h4 => hz ⟨h3, h4⟩⟩)
          clear HD
          have j3 : (a : Int) < ((a + j : Nat) : Int) → ((b.toNat : Int) == 0) = false := by
            intro h3
            simp
            intro h4
            exact hz ⟨by omega, by omega⟩
          clear hz
          have hjs : j = 0 ∨ j = 1 ∨ j = 2 ∨ j = 3 ∨ j = 4 := by omega
          rcases hjs with rfl | rfl | rfl | rfl | rfl
          · obtain ⟨u, hu⟩ : ∃ u : Nat, u = U + 1 * b.toNat := ⟨_, rfl⟩
            have HG2 : Hid (gw 5 (s.data.toList.drop a) = some (u, 0 + 1)) := Lib.hid (by rw [hu]; exact HG.out)
            clear HG
            simp only [Nat.add_zero] at hb j0 j9 j3
            rcases Nat.mod_two_eq_zero_or_one u with h2 | h2
            · have hv : unz u = ((u / 2 : Nat) : Int) := unz_even (by omega)
              have HV := Lib.hid hv
              clear hv
              go_wp2_with fail
              refine (l14Item_any _ _).mono ?_
              rintro e w1 ⟨rfl, rfl⟩
              go_wp2_with fail
              go_ret3
              exact ⟨gets_last HG2.out (by first | exact HZ.out | exact .inl rfl) (by rw [HV.out]; first | omega | exact neg_half (by omega) (by omega)) (by omega), rfl⟩
            · have hv : unz u = -(((u + 1) / 2 : Nat) : Int) := unz_odd h2
              have HV := Lib.hid hv
              clear hv
              go_wp2_with fail
              refine (l14Item_any _ _).mono ?_
              rintro e w1 ⟨rfl, rfl⟩
              go_wp2_with fail
              go_ret3
              exact ⟨gets_last HG2.out (by first | exact HZ.out | exact .inl rfl) (by rw [HV.out]; first | omega | exact neg_half (by omega) (by omega)) (by omega), rfl⟩
          · obtain ⟨u, hu⟩ : ∃ u : Nat, u = U + 128 * b.toNat := ⟨_, rfl⟩
            have HG2 : Hid (gw 5 (s.data.toList.drop a) = some (u, 1 + 1)) := Lib.hid (by rw [hu]; exact HG.out)
            clear HG
            rcases Nat.mod_two_eq_zero_or_one u with h2 | h2
            · have hv : unz u = ((u / 2 : Nat) : Int) := unz_even (by omega)
              have HV := Lib.hid hv
              clear hv
              go_wp2_with fail
              refine (l14Item_any _ _).mono ?_
              rintro e w1 ⟨rfl, rfl⟩
              go_wp2_with fail
              go_ret3
              exact ⟨gets_last HG2.out (by first | exact HZ.out | exact .inl rfl) (by rw [HV.out]; first | omega | exact neg_half (by omega) (by omega)) (by omega), rfl⟩
            · have hv : unz u = -(((u + 1) / 2 : Nat) : Int) := unz_odd h2
              have HV := Lib.hid hv
              clear hv
              go_wp2_with fail
              refine (l14Item_any _ _).mono ?_
              rintro e w1 ⟨rfl, rfl⟩
              go_wp2_with fail
              go_ret3
              exact ⟨gets_last HG2.out (by first | exact HZ.out | exact .inl rfl) (by rw [HV.out]; first | omega | exact neg_half (by omega) (by omega)) (by omega), rfl⟩
          · obtain ⟨u, hu⟩ : ∃ u : Nat, u = U + 16384 * b.toNat := ⟨_, rfl⟩
            have HG2 : Hid (gw 5 (s.data.toList.drop a) = some (u, 2 + 1)) := Lib.hid (by rw [hu]; exact HG.out)
            clear HG
            rcases Nat.mod_two_eq_zero_or_one u with h2 | h2
            · have hv : unz u = ((u / 2 : Nat) : Int) := unz_even (by omega)
              have HV := Lib.hid hv
              clear hv
              go_wp2_with fail
              refine (l14Item_any _ _).mono ?_
              rintro e w1 ⟨rfl, rfl⟩
              go_wp2_with fail
              go_ret3
              exact ⟨gets_last HG2.out (by first | exact HZ.out | exact .inl rfl) (by rw [HV.out]; first | omega | exact neg_half (by omega) (by omega)) (by omega), rfl⟩
            · have hv : unz u = -(((u + 1) / 2 : Nat) : Int) := unz_odd h2
              have HV := Lib.hid hv
              clear hv
              go_wp2_with fail
              refine (l14Item_any _ _).mono ?_
              rintro e w1 ⟨rfl, rfl⟩
              go_wp2_with fail
              go_ret3
              exact ⟨gets_last HG2.out (by first | exact HZ.out | exact .inl rfl) (by rw [HV.out]; first | omega | exact neg_half (by omega) (by omega)) (by omega), rfl⟩
          · obtain ⟨u, hu⟩ : ∃ u : Nat, u = U + 2097152 * b.toNat := ⟨_, rfl⟩
            have HG2 : Hid (gw 5 (s.data.toList.drop a) = some (u, 3 + 1)) := Lib.hid (by rw [hu]; exact HG.out)
            clear HG
            rcases Nat.mod_two_eq_zero_or_one u with h2 | h2
            · have hv : unz u = ((u / 2 : Nat) : Int) := unz_even (by omega)
              have HV := Lib.hid hv
              clear hv
              go_wp2_with fail
              refine (l14Item_any _ _).mono ?_
              rintro e w1 ⟨rfl, rfl⟩
              go_wp2_with fail
              go_ret3
              exact ⟨gets_last HG2.out (by first | exact HZ.out | exact .inl rfl) (by rw [HV.out]; first | omega | exact neg_half (by omega) (by omega)) (by omega), rfl⟩
            · have hv : unz u = -(((u + 1) / 2 : Nat) : Int) := unz_odd h2
              have HV := Lib.hid hv
              clear hv
              go_wp2_with fail
              refine (l14Item_any _ _).mono ?_
              rintro e w1 ⟨rfl, rfl⟩
              go_wp2_with fail
              go_ret3
              exact ⟨gets_last HG2.out (by first | exact HZ.out | exact .inl rfl) (by rw [HV.out]; first | omega | exact neg_half (by omega) (by omega)) (by omega), rfl⟩
          · obtain ⟨u, hu⟩ : ∃ u : Nat, u = U + 268435456 * b.toNat := ⟨_, rfl⟩
            have HG2 : Hid (gw 5 (s.data.toList.drop a) = some (u, 4 + 1)) := Lib.hid (by rw [hu]; exact HG.out)
            clear HG
            rcases Nat.mod_two_eq_zero_or_one u with h2 | h2
            · have hv : unz u = ((u / 2 : Nat) : Int) := unz_even (by omega)
              have HV := Lib.hid hv
              clear hv
              go_wp2_with fail
              refine (l14Item_any _ _).mono ?_
              rintro e w1 ⟨rfl, rfl⟩
              go_wp2_with fail
              go_ret3
              exact ⟨gets_last HG2.out (by first | exact HZ.out | exact .inl rfl) (by rw [HV.out]; first | omega | exact neg_half (by omega) (by omega)) (by omega), rfl⟩
            · have hv : unz u = -(((u + 1) / 2 : Nat) : Int) := unz_odd h2
              have HV := Lib.hid hv
              clear hv
              go_wp2_with fail
              refine (l14Item_any _ _).mono ?_
              rintro e w1 ⟨rfl, rfl⟩
              go_wp2_with fail
              go_ret3
              exact ⟨gets_last HG2.out (by first | exact HZ.out | exact .inl rfl) (by rw [HV.out]; first | omega | exact neg_half (by omega) (by omega)) (by omega), rfl⟩
      · have j1 : (128 : Int) ≤ (b.toNat : Int) := by omega
        by_cases h4 : j < 4
        · have HG := Lib.hid (gst_step hg.out (by omega) hbs h1)
          clear hg hbs
          have hjs : j = 0 ∨ j = 1 ∨ j = 2 ∨ j = 3 := by omega
          rcases hjs with rfl | rfl | rfl | rfl
          · have j2 : ((a + 0 : Nat) : Int) < (a : Int) + 4 := by omega
            simp only [Nat.add_zero] at hb j0 j9 j2
            go_wp2_with fail
            go_roundw
            case rel => exact ⟨0 + 1, U + 128 ^ 0 * (b.toNat - 128), by omega, by go_num, by go_num, by go_num, by omega, HG, by omega, by first | trivial | rfl⟩
            case measure => simp [intOf]; omega
          · have j2 : ((a + 1 : Nat) : Int) < (a : Int) + 4 := by omega
            go_wp2_with fail
            go_roundw
            case rel => exact ⟨1 + 1, U + 128 ^ 1 * (b.toNat - 128), by omega, by go_num, by go_num, by go_num, by omega, HG, by omega, by first | trivial | rfl⟩
            case measure => simp [intOf]; omega
          · have j2 : ((a + 2 : Nat) : Int) < (a : Int) + 4 := by omega
            go_wp2_with fail
            go_roundw
            case rel => exact ⟨2 + 1, U + 128 ^ 2 * (b.toNat - 128), by omega, by go_num, by go_num, by go_num, by omega, HG, by omega, by first | trivial | rfl⟩
            case measure => simp [intOf]; omega
          · have j2 : ((a + 3 : Nat) : Int) < (a : Int) + 4 := by omega
            go_wp2_with fail
            go_roundw
            case rel => exact ⟨3 + 1, U + 128 ^ 3 * (b.toNat - 128), by omega, by go_num, by go_num, by go_num, by omega, HG, by omega, by first | trivial | rfl⟩
            case measure => simp [intOf]; omega
        · obtain rfl : j = 4 := by omega
          have HN := Lib.hid (gn_none (gst_full (gst_step hg.out (by omega) hbs h1)))
          clear hg hbs
          have j2 : ¬ (((a + 4 : Nat) : Int) < (a : Int) + 4) := by omega
          go_wp2_with fail
          go_ret3
          exact ⟨gets_no HN.out _ _, rfl⟩
    · have HN := Lib.hid (gn_none (gst_end hg.out (by simp; omega)))
      clear hg
      have j0 : ¬ (((a + j : Nat) : Int) < (s.size : Int)) := by omega
      have j9 : (s.size : Int) ≤ ((a + j : Nat) : Int) := by omega
      go_wp2_with fail
      go_ret3
      exact ⟨gets_no HN.out _ _, rfl⟩
end Go.Proofs.Ytnanaldolnehiaa
