/-
  Names of captures that are drawn: l00From, text, l01Spoil, DrawCaptureNamed; the law FnCaptureNames, walked.
-/
import Derived.Test.YtnanaldolnehiaaSrc
import Derived.Test.YtnanaldolnehiaaSplit
import Derived.Test.YtnanaldolnehiaaNamed
set_option linter.unusedSimpArgs false
set_option linter.unusedVariables false
namespace Go.Proofs.Ytnanaldolnehiaa
open Go.ChangeShapes Go.WideShapes Go.RowKit Go.Deep

theorem l00FromC_any (A : Option Addr) (n c : Nat) (zs : List Int) (w : World) (h : Bys w w.heap.size A n c zs) (hn : n ≤ 4096) : Calls Try.prog 129 #[.slice A n c] w fun e w' => e = .returned (.pointer (some ⟨w.heap.size, 0, none⟩)) ∧ Src w' w.heap.size A n c zs 0 0 ∧ Below w.heap.size w w' := by
  have H := Lib.hid h
  clear h
  go_enter Try.func129, Try.ntmps129
  go_wp2_with fail
  go_ret
  refine ⟨rfl, ⟨?_, ?_, ?_, fun i => ?_, H.out.below (by repeat (first | with_reducible exact Below.refl _ _ | with_reducible assumption | with_reducible refine sub_alloc ?_ _ | (with_reducible refine sub_setCell2 ?_ ?_ _; (focus (first | (simp; done) | (simp <;> omega)))) | with_reducible refine sub_drew ?_ | with_reducible refine below_drewN ?_ _ | with_reducible refine sub_step (by assumption) ?_ (by first | rfl | (simp; done)) | exact Below.refl _ _ | assumption | refine sub_alloc ?_ _ | refine sub_setCell ?_ (by simp <;> omega) _ | refine sub_drew ?_ | refine below_drewN ?_ _ | refine sub_step (by assumption) ?_ (by first | rfl | (simp; done)))), hn, by omega, by omega⟩, (by repeat (first | with_reducible exact Below.refl _ _ | with_reducible assumption | with_reducible refine sub_alloc ?_ _ | (with_reducible refine sub_setCell2 ?_ ?_ _; (focus (first | (simp; done) | (simp <;> omega)))) | with_reducible refine sub_drew ?_ | with_reducible refine below_drewN ?_ _ | with_reducible refine sub_step (by assumption) ?_ (by first | rfl | (simp; done)) | exact Below.refl _ _ | assumption | refine sub_alloc ?_ _ | refine sub_setCell ?_ (by simp <;> omega) _ | refine sub_drew ?_ | refine below_drewN ?_ _ | refine sub_step (by assumption) ?_ (by first | rfl | (simp; done))))⟩
  · simp [World.cell?_alloc_new]
  · simp [World.cell?_alloc_new]
  · simp [World.cell?_alloc_new]
  · rw [frozen?_alloc_cells]; simp [World.frozen?]
theorem textC_any (b : Nat) (A : Option Addr) (n c : Nat) (zs : List Int) (k : Nat) (sd : Int) (A' : Option Addr) (m c' : Nat) (l : List ByteArray) (hk : k ≤ 549755813888) (h0 : 1 ≤ m) (hm : m ≤ 4294967296) (w : World) (h : Src w b A n c zs k sd) (ho : OwnT w (b + 1) A' m c' l) : Calls Try.prog 131 #[.pointer (some ⟨b, 0, none⟩), .slice A' m c'] w fun e w' => e = .returned (.string (l.getD (pk zs k sd m).1.toNat ⟨#[]⟩)) ∧ Src w' b A n c zs (pk zs k sd m).2.1 (pk zs k sd m).2.2 ∧ w.grownBy w' (some b) := by
  have H := Lib.hid h
  have HO := Lib.hid ho
  obtain ⟨b0, b1, -⟩ := pk_bd zs k sd m (by omega)
  clear h ho
  go_enter Try.func131, Try.ntmps131
  go_wp2_with fail
  refine (pick_any b A n c zs k sd m hk (by omega) (by omega) _ (by exact H.out)).mono ?_
  rintro e w1 ⟨rfl, s1, g1⟩
  have HS := Lib.hid s1
  have HG := Lib.hid g1
  have HO1 := Lib.hid (HO.out.kept g1 (fun g e => .inl (by injection e with e; omega)))
  clear s1 g1
  obtain ⟨x, hx⟩ : ∃ x : Nat, (pk zs k sd m).1 = (x : Int) := ⟨(pk zs k sd m).1.toNat, by omega⟩
  have HX := Lib.hid hx
  rw [hx] at b0 b1 ⊢
  obtain ⟨t, ht⟩ := t_get_some (zs := l) (k := x) (by rw [HO1.out.len]; omega)
  obtain ⟨bb, off, rfl, -, hc⟩ := HO1.out.ints.at_ (by omega)
  have cx := hc x t ht
  have ht2 := Lib.hid (show l.getD ((x : Int)).toNat ⟨#[]⟩ = t by simp [List.getD, ht])
  clear hc ht hx
  go_wp2_with fail
  go_ret
  exact ⟨by rw [HX.out, ht2.out]; rfl, HS.out, HG.out⟩

def spL : List ByteArray := [(⟨#[32]⟩ : ByteArray), (⟨#[48]⟩ : ByteArray), (⟨#[45]⟩ : ByteArray), (⟨#[120]⟩ : ByteArray), (⟨#[49]⟩ : ByteArray), (⟨#[57]⟩ : ByteArray), (⟨#[46]⟩ : ByteArray)]
def cnL : List ByteArray := [(⟨#[110, 111, 110, 101]⟩ : ByteArray), (⟨#[116, 119, 111, 45, 116, 104, 114, 101, 101]⟩ : ByteArray), (⟨#[99, 114, 111, 115, 115]⟩ : ByteArray), (⟨#[101, 118, 101, 110]⟩ : ByteArray)]
theorem spL_size (i : Nat) : (spL.getD i ⟨#[]⟩).size ≤ 1 := by
  rcases (by omega : i = 0 ∨ i = 1 ∨ i = 2 ∨ i = 3 ∨ i = 4 ∨ i = 5 ∨ i = 6 ∨ 7 ≤ i) with rfl | rfl | rfl | rfl | rfl | rfl | rfl | h
  all_goals first | decide | (rw [List.getD, List.getElem?_eq_none (by simpa [spL] using h)]; decide)
theorem cnL_size (i : Nat) : (cnL.getD i ⟨#[]⟩).size ≤ 9 := by
  rcases (by omega : i = 0 ∨ i = 1 ∨ i = 2 ∨ i = 3 ∨ 4 ≤ i) with rfl | rfl | rfl | rfl | h
  all_goals first | decide | (rw [List.getD, List.getElem?_eq_none (by simpa [cnL] using h)]; decide)
/-- A text with a change, often. -/
def spoil (zs : List Int) (k : Nat) (sd : Int) (t : ByteArray) : ByteArray :=
  if (pk zs k sd 5).1 = 0 then
    t.extract 0 (pk zs (pk zs k sd 5).2.1 (pk zs k sd 5).2.2 ((t.size : Int) + 1)).1.toNat ++ spL.getD (pk zs (pk zs (pk zs k sd 5).2.1 (pk zs k sd 5).2.2 ((t.size : Int) + 1)).2.1 (pk zs (pk zs k sd 5).2.1 (pk zs k sd 5).2.2 ((t.size : Int) + 1)).2.2 ((7 : Nat) : Int)).1.toNat ⟨#[]⟩ ++ t.extract (pk zs (pk zs k sd 5).2.1 (pk zs k sd 5).2.2 ((t.size : Int) + 1)).1.toNat t.size
  else if (pk zs k sd 5).1 = 1 then
    (if 0 < t.size then t.extract 0 (pk zs (pk zs k sd 5).2.1 (pk zs k sd 5).2.2 (t.size : Int)).1.toNat ++ t.extract ((pk zs (pk zs k sd 5).2.1 (pk zs k sd 5).2.2 (t.size : Int)).1.toNat + 1) t.size else t)
  else t
theorem ret_sc {a b : ByteArray} (h : a = b) : Ending.returned (.string a) = .returned (.string b) := by rw [h]
set_option maxRecDepth 100000 in
set_option maxHeartbeats 4000000 in
theorem l01Spoil_any (b : Nat) (A : Option Addr) (n c : Nat) (zs : List Int) (k : Nat) (sd : Int) (t : ByteArray) (ht : t.size ≤ 1000) (hk : k ≤ 1048576) (w : World) (h : Src w b A n c zs k sd) : Calls Try.prog 130 #[.pointer (some ⟨b, 0, none⟩), .string t] w fun e w' => e = .returned (.string (spoil zs k sd t)) ∧ w.grownBy w' (some b) := by
  have H := Lib.hid h
  clear h
  obtain ⟨b0, b1, b2⟩ := pk_bd zs k sd 5 (by omega)
  by_cases h0 : (pk zs k sd 5).1 = 0
  · have HS := Lib.hid (show spoil zs k sd t = _ from if_pos h0)
    go_enter Try.func130, Try.ntmps130
    go_wp2_with fail
    refine (pick_any b A n c zs k sd 5 (by omega) (by omega) (by omega) _ (by exact H.out)).mono ?_
    rintro e w1 ⟨rfl, s1, g1⟩
    rw [h0]
    have S1 := Lib.hid s1
    have G1 := Lib.hid g1
    clear s1 g1 h0
    generalize (pk zs k sd 5).2.1 = k1 at *
    generalize (pk zs k sd 5).2.2 = d1 at *
    obtain ⟨c0, c1, c2⟩ := pk_bd zs k1 d1 ((t.size : Int) + 1) (by omega)
    go_wp2_with fail
    refine (pick_any b A n c zs k1 d1 ((t.size : Int) + 1) (by omega) (by omega) (by omega) _ (by exact S1.out)).mono ?_
    rintro e w2 ⟨rfl, s2, g2⟩
    have S2 := Lib.hid s2
    have G2 := Lib.hid (gr_trans G1.out g2)
    have lt2 := s2.lt
    clear s2 g2 S1 G1
    obtain ⟨a, ha⟩ : ∃ a : Nat, (pk zs k1 d1 ((t.size : Int) + 1)).1 = (a : Int) := ⟨_, (Int.toNat_of_nonneg c0).symm⟩
    rw [ha] at HS c0 c1 ⊢
    clear ha
    generalize (pk zs k1 d1 ((t.size : Int) + 1)).2.1 = k2 at *
    generalize (pk zs k1 d1 ((t.size : Int) + 1)).2.2 = d2 at *
    have i0 : (a : Int) ≤ (t.size : Int) := by omega
    have i1 : a ≤ t.size := by omega
    have e1 : min a t.size = a := by omega
    have hT := spL_size (pk zs k2 d2 ((7 : Nat) : Int)).1.toNat
    generalize hTT : spL.getD (pk zs k2 d2 ((7 : Nat) : Int)).1.toNat ⟨#[]⟩ = T at *
    have HTT := Lib.hid hTT
    clear hTT
    have n1 : ¬ 9223372036854775807 < a + T.size := by omega
    have n2 : ¬ 9223372036854775807 < a + T.size + (t.size - a) := by omega
    go_wp2_with fail
    go_region_held3 (fun w' => True) (exact trivial) (first | (go_at_call 131; refine (textC_any b A n c zs k2 d2 _ 7 7 spL (by omega) (by omega) (by omega) _ (by exact (S2.out.drewN 1).alloc _) (by exact (ownT_new (w2.drewN 1) spL 7 rfl (by omega)).lower (by show b + 1 ≤ w2.heap.size; omega))).mono ?_; rintro e w5 ⟨rfl, s5, g5⟩; rw [HTT.out]))
    have G5 := Lib.hid (gr_trans (gr_trans G2.out (grown_below ((below_drewN (Below.refl _ w2) 1).alloc (Nat.le_refl _) _))) g5)
    go_wp2_with fail
    go_ret
    exact ⟨ret_sc HS.out.symm, G5.out⟩
  by_cases h1 : (pk zs k sd 5).1 = 1
  · by_cases h2 : 0 < t.size
    · have HS := Lib.hid (show spoil zs k sd t = _ from (if_neg h0).trans ((if_pos h1).trans (if_pos h2)))
      obtain ⟨z1, z2⟩ := nilS h2
      have z3 : (t.toList != []) = true := by simpa using z1
      go_enter Try.func130, Try.ntmps130
      go_wp2_with fail
      refine (pick_any b A n c zs k sd 5 (by omega) (by omega) (by omega) _ (by exact H.out)).mono ?_
      rintro e w1 ⟨rfl, s1, g1⟩
      rw [h1]
      have S1 := Lib.hid s1
      have G1 := Lib.hid g1
      clear s1 g1 h0 h1
      generalize (pk zs k sd 5).2.1 = k1 at *
      generalize (pk zs k sd 5).2.2 = d1 at *
      obtain ⟨c0, c1, c2⟩ := pk_bd zs k1 d1 (t.size : Int) (by omega)
      go_wp2_with fail
      refine (pick_any b A n c zs k1 d1 (t.size : Int) (by omega) (by omega) (by omega) _ (by exact S1.out)).mono ?_
      rintro e w2 ⟨rfl, s2, g2⟩
      have G2 := Lib.hid (gr_trans G1.out g2)
      clear s2 g2 S1 G1
      obtain ⟨a, ha⟩ : ∃ a : Nat, (pk zs k1 d1 (t.size : Int)).1 = (a : Int) := ⟨_, (Int.toNat_of_nonneg c0).symm⟩
      rw [ha] at HS c0 c1 ⊢
      clear ha
      have i0 : (a : Int) ≤ (t.size : Int) := by omega
      have i1 : (a : Int) + 1 ≤ (t.size : Int) := by omega
      have i2 : a ≤ t.size := by omega
      have e1 : min a t.size = a := by omega
      have n1 : ¬ 9223372036854775807 < a + (t.size - (a + 1)) := by omega
      go_wp2_with fail
      go_quiet (fail)
      go_wp2_with fail
      go_ret
      exact ⟨ret_sc HS.out.symm, grown_drawn G2.out _⟩
    · have HS := Lib.hid (show spoil zs k sd t = t from (if_neg h0).trans ((if_pos h1).trans (if_neg h2)))
      obtain rfl := emptyS h2
      go_enter Try.func130, Try.ntmps130
      go_wp2_with fail
      refine (pick_any b A n c zs k sd 5 (by omega) (by omega) (by omega) _ (by exact H.out)).mono ?_
      rintro e w1 ⟨rfl, s1, g1⟩
      rw [h1]
      have G1 := Lib.hid g1
      clear s1 g1 h0 h1
      go_wp2_with fail
      go_ret
      exact ⟨ret_sc HS.out.symm, G1.out⟩
  · have HS := Lib.hid (show spoil zs k sd t = t from (if_neg h0).trans (if_neg h1))
    have q0 : ((pk zs k sd 5).1 == 0) = false := by simpa using h0
    have q1 : ((pk zs k sd 5).1 == 1) = false := by simpa using h1
    go_enter Try.func130, Try.ntmps130
    go_wp2_with fail
    refine (pick_any b A n c zs k sd 5 (by omega) (by omega) (by omega) _ (by exact H.out)).mono ?_
    rintro e w1 ⟨rfl, s1, g1⟩
    have G1 := Lib.hid g1
    clear s1 g1
    generalize (pk zs k sd 5).1 = x at *
    go_wp2_with fail
    go_ret
    exact ⟨ret_sc HS.out.symm, G1.out⟩
theorem l06Names_any (w : World) : Calls Try.prog 132 #[] w (RetOwnT w 4 cnL) := by
  have ho := Lib.hid (ownT_new w cnL 4 rfl (by omega))
  go_enter Try.func132, Try.ntmps132
  go_wp2
  go_ret
  exact ⟨_, _, rfl, ho.out, (by repeat (first | with_reducible exact Below.refl _ _ | with_reducible assumption | with_reducible refine sub_alloc ?_ _ | (with_reducible refine sub_setCell2 ?_ ?_ _; (focus (first | (simp; done) | (simp <;> omega)))) | with_reducible refine sub_drew ?_ | with_reducible refine below_drewN ?_ _ | with_reducible refine sub_step (by assumption) ?_ (by first | rfl | (simp; done)) | exact Below.refl _ _ | assumption | refine sub_alloc ?_ _ | refine sub_setCell ?_ (by simp <;> omega) _ | refine sub_drew ?_ | refine below_drewN ?_ _ | refine sub_step (by assumption) ?_ (by first | rfl | (simp; done))))⟩
/-- The name that is drawn from some bytes. -/
def dcn (zs : List Int) : ByteArray := spoil zs (pk zs 0 0 ((4 : Nat) : Int)).2.1 (pk zs 0 0 ((4 : Nat) : Int)).2.2 (cnL.getD (pk zs 0 0 ((4 : Nat) : Int)).1.toNat ⟨#[]⟩)
set_option maxRecDepth 100000 in
theorem drawCap_any (A : Option Addr) (n c : Nat) (zs : List Int) (w : World) (h : Bys w w.heap.size A n c zs) (hn : n ≤ 4096) : Calls Try.prog 68 #[.slice A n c] w fun e w' => e = .returned (.string (dcn zs)) ∧ Below w.heap.size w w' := by
  have H := Lib.hid h
  clear h
  have bd := (pk_bd zs 0 0 ((4 : Nat) : Int) (by omega)).2.2
  have hsz := cnL_size (pk zs 0 0 ((4 : Nat) : Int)).1.toNat
  have HD := Lib.hid (show dcn zs = spoil zs (pk zs 0 0 ((4 : Nat) : Int)).2.1 (pk zs 0 0 ((4 : Nat) : Int)).2.2 (cnL.getD (pk zs 0 0 ((4 : Nat) : Int)).1.toNat ⟨#[]⟩) from rfl)
  go_enter Try.func68, Try.ntmps68
  go_wp2_with fail
  refine (l00FromC_any A n c zs _ (by exact H.out) hn).mono ?_
  rintro e w1 ⟨rfl, s1, b1⟩
  have S1 := Lib.hid s1
  have B1 := Lib.hid b1
  have lt1 := s1.lt
  clear s1 b1
  go_wp2_with fail
  refine (l06Names_any _).mono ?_
  rintro e w2 ⟨N, cn, rfl, o2, b2⟩
  have S2 := Lib.hid (S1.out.below b2 lt1)
  have O2 := Lib.hid (o2.lower (base' := w.heap.size + 1) (by omega))
  have B2 := Lib.hid (sub_step b2 B1.out rfl)
  clear o2 b2
  go_wp2_with fail
  refine (textC_any w.heap.size A n c zs 0 0 N 4 cn cnL (by omega) (by omega) (by omega) _ (by exact S2.out) (by exact O2.out)).mono ?_
  rintro e w3 ⟨rfl, s3, g3⟩
  generalize cnL.getD (pk zs 0 0 ((4 : Nat) : Int)).1.toNat ⟨#[]⟩ = T at *
  generalize (pk zs 0 0 ((4 : Nat) : Int)).2.1 = k2 at *
  generalize (pk zs 0 0 ((4 : Nat) : Int)).2.2 = d2 at *
  have S3 := Lib.hid s3
  have B3 := Lib.hid (B2.out.grown g3 B2.out.size (fun k e => by injection e with e; omega))
  clear s3 g3
  go_wp2_with fail
  refine (l01Spoil_any w.heap.size A n c zs k2 d2 T (by omega) (by omega) _ (by exact S3.out)).mono ?_
  rintro e w4 ⟨rfl, g4⟩
  have B4 := Lib.hid (B3.out.grown g4 B3.out.size (fun k e => by injection e with e; omega))
  clear g4
  go_wp2_with fail
  go_ret
  exact ⟨ret_sc HD.out.symm, B4.out⟩
theorem capName0 (w : World) : Calls Try.prog 67 #[.int .i64 0] w fun e w' => e = .returned (.string (⟨#[110, 111, 110, 101]⟩ : ByteArray)) ∧ Below w.heap.size w w' := by
  go_enter Try.func67, Try.ntmps67
  go_wp2
  go_ret
  exact ⟨rfl, Below.refl _ _⟩
theorem capName1 (w : World) : Calls Try.prog 67 #[.int .i64 1] w fun e w' => e = .returned (.string (⟨#[116, 119, 111, 45, 116, 104, 114, 101, 101]⟩ : ByteArray)) ∧ Below w.heap.size w w' := by
  go_enter Try.func67, Try.ntmps67
  go_wp2
  go_ret
  exact ⟨rfl, Below.refl _ _⟩
theorem capName2 (w : World) : Calls Try.prog 67 #[.int .i64 2] w fun e w' => e = .returned (.string (⟨#[99, 114, 111, 115, 115]⟩ : ByteArray)) ∧ Below w.heap.size w w' := by
  go_enter Try.func67, Try.ntmps67
  go_wp2
  go_ret
  exact ⟨rfl, Below.refl _ _⟩
theorem capName3 (w : World) : Calls Try.prog 67 #[.int .i64 3] w fun e w' => e = .returned (.string (⟨#[101, 118, 101, 110]⟩ : ByteArray)) ∧ Below w.heap.size w w' := by
  go_enter Try.func67, Try.ntmps67
  go_wp2
  go_ret
  exact ⟨rfl, Below.refl _ _⟩
theorem capName4 (w : World) : Calls Try.prog 67 #[.int .i64 4] w fun e w' => e = .returned (.string (⟨#[]⟩ : ByteArray)) ∧ Below w.heap.size w w' := by
  go_enter Try.func67, Try.ntmps67
  go_wp2
  go_ret
  exact ⟨rfl, Below.refl _ _⟩
theorem capNamed0 (w : World) : Calls Try.prog 66 #[.string (⟨#[110, 111, 110, 101]⟩ : ByteArray)] w fun e w' => e = .returned (.tuple #[.int .i64 0, .int .i64 0]) ∧ Below w.heap.size w w' := CaptureNamed_any (⟨#[110, 111, 110, 101]⟩ : ByteArray) w
theorem capNamed1 (w : World) : Calls Try.prog 66 #[.string (⟨#[116, 119, 111, 45, 116, 104, 114, 101, 101]⟩ : ByteArray)] w fun e w' => e = .returned (.tuple #[.int .i64 1, .int .i64 0]) ∧ Below w.heap.size w w' := CaptureNamed_any (⟨#[116, 119, 111, 45, 116, 104, 114, 101, 101]⟩ : ByteArray) w
theorem capNamed2 (w : World) : Calls Try.prog 66 #[.string (⟨#[99, 114, 111, 115, 115]⟩ : ByteArray)] w fun e w' => e = .returned (.tuple #[.int .i64 2, .int .i64 0]) ∧ Below w.heap.size w w' := CaptureNamed_any (⟨#[99, 114, 111, 115, 115]⟩ : ByteArray) w
theorem capNamed3 (w : World) : Calls Try.prog 66 #[.string (⟨#[101, 118, 101, 110]⟩ : ByteArray)] w fun e w' => e = .returned (.tuple #[.int .i64 3, .int .i64 0]) ∧ Below w.heap.size w w' := CaptureNamed_any (⟨#[101, 118, 101, 110]⟩ : ByteArray) w
set_option maxRecDepth 100000 in
set_option maxHeartbeats 4000000 in
theorem FnCaptureNames_walk (A : Option Addr) (n c : Nat) (zs : List Int) (w : World) (h : Bys w w.heap.size A n c zs) : Calls Try.prog 13 #[.slice A n c] w fun e w' => e = .returned (.bool true) ∧ Below w.heap.size w w' := by
  have hle := h.le
  have H := Lib.hid h
  clear h
  by_cases hn : 3000 < n
  · go_enter Try.func13, Try.ntmps13
    go_wp2_with fail
    refine (a2Long_any A n c none 0 0 _ true (by simp [hn]) hle (by omega)).mono ?_
    rintro e w' ⟨rfl, rfl⟩
    go_wp2_with fail
    go_ret
    exact ⟨rfl, Below.refl _ _⟩
  have HN := Lib.hid (show (decide (3000 < n) || decide (3000 < 0)) = false by simp; omega)
  have hn' : n ≤ 4096 := by omega
  clear hn
  have B0 := Lib.hid (Below.refl w.heap.size w)
  go_enter Try.func13, Try.ntmps13
  go_wp2_with fail
  refine (a2Long_any A n c none 0 0 _ false HN.out hle (by omega)).mono ?_
  rintro e w' ⟨rfl, rfl⟩
  go_wp2_with fail
  refine wp_loop_rounds 5 ?_; rw [rounds_succ]
  go_wp2_with fail
  refine (capName0 _).mono ?_
  rintro e w1 ⟨rfl, b1⟩
  have B1 := Lib.hid (B0.out.trans (b1.mono B0.out.size))
  clear b1
  go_wp2_with fail
  refine (capNamed0 _).mono ?_
  rintro e w2 ⟨rfl, b1⟩
  have B2 := Lib.hid (B1.out.trans (b1.mono B1.out.size))
  clear b1
  go_wp2_with fail
  rw [rounds_succ]
  go_wp2_with fail
  refine (capName1 _).mono ?_
  rintro e w3 ⟨rfl, b1⟩
  have B3 := Lib.hid (B2.out.trans (b1.mono B2.out.size))
  clear b1
  go_wp2_with fail
  refine (capNamed1 _).mono ?_
  rintro e w4 ⟨rfl, b1⟩
  have B4 := Lib.hid (B3.out.trans (b1.mono B3.out.size))
  clear b1
  go_wp2_with fail
  rw [rounds_succ]
  go_wp2_with fail
  refine (capName2 _).mono ?_
  rintro e w5 ⟨rfl, b1⟩
  have B5 := Lib.hid (B4.out.trans (b1.mono B4.out.size))
  clear b1
  go_wp2_with fail
  refine (capNamed2 _).mono ?_
  rintro e w6 ⟨rfl, b1⟩
  have B6 := Lib.hid (B5.out.trans (b1.mono B5.out.size))
  clear b1
  go_wp2_with fail
  rw [rounds_succ]
  go_wp2_with fail
  refine (capName3 _).mono ?_
  rintro e w7 ⟨rfl, b1⟩
  have B7 := Lib.hid (B6.out.trans (b1.mono B6.out.size))
  clear b1
  go_wp2_with fail
  refine (capNamed3 _).mono ?_
  rintro e w8 ⟨rfl, b1⟩
  have B8 := Lib.hid (B7.out.trans (b1.mono B7.out.size))
  clear b1
  go_wp2_with fail
  rw [rounds_succ]
  go_wp2_with fail
  refine (drawCap_any A n c zs _ (by exact (H.out.below B8.out).more B8.out.size) hn').mono ?_
  rintro e w9 ⟨rfl, b1⟩
  have B9 := Lib.hid (B8.out.trans (b1.mono B8.out.size))
  clear b1
  generalize hD : dcn zs = D
  have HD := Lib.hid hD
  clear hD
  go_wp2_with fail
  refine (CaptureNamed_any D _).mono ?_
  rintro e w10 ⟨rfl, b1⟩
  have B10 := Lib.hid (B9.out.trans (b1.mono B9.out.size))
  clear b1
  go_wp2_with fail
  refine (drawCap_any A n c zs _ (by exact (H.out.below B10.out).more B10.out.size) hn').mono ?_
  rintro e w11 ⟨rfl, b1⟩
  have B11 := Lib.hid (B10.out.trans (b1.mono B10.out.size))
  clear b1
  rw [HD.out]
  go_wp2_with fail
  refine (specCaptureNamed_any D _).mono ?_
  rintro e w12 ⟨rfl, b1⟩
  have B12 := Lib.hid (B11.out.trans (b1.mono B11.out.size))
  clear b1
  go_wp2_with fail
  refine (capName4 _).mono ?_
  rintro e w13 ⟨rfl, b1⟩
  have B13 := Lib.hid (B12.out.trans (b1.mono B12.out.size))
  clear b1
  go_wp2_with fail
  go_ret
  exact ⟨rfl, B13.out⟩
end Go.Proofs.Ytnanaldolnehiaa
