/-
  The source of choices: next, pick, one, text, l00From.
-/
import Derived.Test.YtnanaldolnehiaaBytesIn
import Derived.Test.YtnanaldolnehiaaLists
import Derived.Test.YtnanaldolnehiaaPos
import Derived.BigQuiet
import Derived.Laws.BitsAllLaws
set_option linter.unusedSimpArgs false
set_option linter.unusedVariables false
namespace Go.Proofs.Ytnanaldolnehiaa
open Go.ChangeShapes Go.WideShapes Go.RowKit Go.Deep

/-- A source at block b: its bytes, how many it has read, its seed. -/
def Src (w : World) (b : Nat) (A : Option Addr) (n c : Nat) (zs : List Int) (k : Nat) (sd : Int) : Prop :=
  w.cell? ⟨b, 0, none⟩ = some (.slice A n c) ∧ w.cell? ⟨b, 1, none⟩ = some (.int .i64 (k : Int)) ∧ w.cell? ⟨b, 2, none⟩ = some (.int .u64 sd) ∧ (∀ i, w.frozen? ⟨b, i, none⟩ = false) ∧ Bys w b A n c zs ∧ n ≤ 4096 ∧ 0 ≤ sd ∧ sd < 18446744073709551616
theorem wp_namedS {P : Program} {Q : Exit → Act → World → Prop} {a : Act} {w : World} {c : Code} (K : World → Prop) (hK : K w) (h : ∀ W, K W → c.wp P Q a W) : c.wp P Q a w := h w hK
theorem grown_drawn {w w' : World} {r : Option Nat} (h : w.grownBy w' r) (m : Nat) : w.grownBy (w'.drewN m) r := ⟨h.os, h.tape, h.output, h.size, h.block⟩
section
variable {w w' : World} {b n c k : Nat} {A : Option Addr} {zs : List Int} {sd : Int}
theorem Src.lt (h : Src w b A n c zs k sd) : b < w.heap.size := by have := lt_of_cell h.1; simpa using this
theorem Src.below {B : Nat} (h : Src w b A n c zs k sd) (hb : Below B w w') (hB : b < B) : Src w' b A n c zs k sd := by
  obtain ⟨h1, h2, h3, h4, h5, h6⟩ := h
  exact ⟨(hb.cell (p := ⟨b, 0, none⟩) hB).trans h1, (hb.cell (p := ⟨b, 1, none⟩) hB).trans h2, (hb.cell (p := ⟨b, 2, none⟩) hB).trans h3, fun i => (hb.frozen (p := ⟨b, i, none⟩) hB).trans (h4 i), h5.below (hb.mono (Nat.le_of_lt hB)), h6⟩
theorem Src.drewN (h : Src w b A n c zs k sd) (m : Nat) : Src (w.drewN m) b A n c zs k sd := h
theorem Src.alloc (h : Src w b A n c zs k sd) (o : Obj) : Src (w.alloc o) b A n c zs k sd := h.below ((Below.refl _ _).alloc (Nat.le_refl _) o) h.lt
/-- A store behind the source. -/
theorem Src.other (h : Src w b A n c zs k sd) {p : Addr} (hp : b < p.block) (u : Value) : Src (w.setCell p u) b A n c zs k sd := h.below ((Below.refl (b + 1) _).setCell (by omega) u) (by omega)
/-- Its own stores. -/
theorem Src.step (h : Src w b A n c zs k sd) (sd' : Int) (h0 : 0 ≤ sd') (h1 : sd' < 18446744073709551616) (k' : Nat) : Src ((w.setCell ⟨b, 1, none⟩ (.int .i64 (k' : Int))).setCell ⟨b, 2, none⟩ (.int .u64 sd')) b A n c zs k' sd' := by
  obtain ⟨g1, g2, g3, g4, g5, g6, -, -⟩ := h
  have hb : Below b w ((w.setCell ⟨b, 1, none⟩ (.int .i64 (k' : Int))).setCell ⟨b, 2, none⟩ (.int .u64 sd')) := ((Below.refl b w).setCell (p := ⟨b, 1, none⟩) (Nat.le_refl b) _).setCell (p := ⟨b, 2, none⟩) (Nat.le_refl b) _
  refine ⟨?_, ?_, ?_, fun i => ?_, g5.below hb, g6, h0, h1⟩
  · rw [World.cell?_setCell_other _ _ _ _ (by simp), World.cell?_setCell_other _ _ _ _ (by simp)]; exact g1
  · rw [World.cell?_setCell_other _ _ _ _ (by simp)]; exact World.cell?_setCell_same _ _ _ g2
  · refine World.cell?_setCell_same _ _ _ (u := .int .u64 sd) ?_
    rw [World.cell?_setCell_other _ _ _ _ (by simp)]; exact g3
  · rw [World.frozen?_setCell, World.frozen?_setCell]; exact g4 i
end
theorem ret_bs {a b : Bool} (h : a = b) : Ending.returned (.bool a) = .returned (.bool b) := by rw [h]
/-- The byte that is read, the seed behind it. -/
def sb (zs : List Int) (k : Nat) : Int := zs.getD k 0
def sdN (sd x : Int) : Int := IntKind.u64.wrap (IntKind.u64.wrap (IntKind.u64.wrap (sd * 6364136223846793005) + x) + 1442695040888963407)
theorem sdN_bd (sd x : Int) : 0 ≤ sdN sd x ∧ sdN sd x < 18446744073709551616 := by
  unfold sdN
  generalize IntKind.u64.wrap (IntKind.u64.wrap (sd * 6364136223846793005) + x) + 1442695040888963407 = z
  show 0 ≤ z % 18446744073709551616 ∧ z % 18446744073709551616 < 18446744073709551616
  omega
theorem heap_set (w : World) (p : Addr) (u : Value) (k : Nat) (h : ¬ (p.block = k)) : (w.setCell p u).heap[k]? = w.heap[k]? := by
  exact Below.heap_setCell w p u k (fun e => h e.symm)
theorem grown_two (w : World) (b m : Nat) (u v : Value) : w.grownBy (((w.drewN m).setCell ⟨b, 1, none⟩ u).setCell ⟨b, 2, none⟩ v) (some b) := by
  refine ⟨rfl, rfl, rfl, by simp, fun k hk hne => ?_⟩
  have hkb : ¬ (b = k) := fun e => hne (by rw [e])
  have h1 := heap_set (w.drewN m) ⟨b, 1, none⟩ u k hkb
  have h2 := heap_set ((w.drewN m).setCell ⟨b, 1, none⟩ u) ⟨b, 2, none⟩ v k hkb
  rw [h2, h1]
  rfl
def vN (t : Int) : Int := (((t / 1099511627776).toNat &&& (255 : Int).toNat : Nat) : Int)
theorem vN_bd (t : Int) : 0 ≤ vN t ∧ vN t ≤ 255 := by
  unfold vN
  have : (t / 1099511627776).toNat &&& (255 : Int).toNat ≤ 255 := Nat.and_le_right
  omega
theorem vN_is {t : Int} (h0 : 0 ≤ t) (h1 : t < 18446744073709551616) : wrap64 (bits BinOp.and IntKind.u64 (t / 1099511627776) 255) = vN t := by
  rw [u64_and _ _ (by omega) (by omega) (by omega) (by omega)]
  have := vN_bd t
  unfold wrap64
  unfold vN at *
  omega
/-- A choice: the number, how many bytes are read then, the seed then. -/
def nx (zs : List Int) (k : Nat) (sd : Int) : Int := if k < zs.length then sb zs k else vN (sdN sd 0)
def ns (zs : List Int) (k : Nat) (sd : Int) : Int := sdN sd (sb zs k)
theorem nx_bd {zs : List Int} (h : ∀ z ∈ zs, 0 ≤ z ∧ z ≤ 255) (k : Nat) (sd : Int) : 0 ≤ nx zs k sd ∧ nx zs k sd ≤ 255 := by
  unfold nx
  split
  · rename_i hk
    have : sb zs k = zs[k] := by simp [sb, List.getD, hk]
    rw [this]
    exact h _ (List.getElem_mem _)
  · exact vN_bd _
def pk (zs : List Int) (k : Nat) (sd : Int) (m : Int) : Int × Nat × Int :=
  if m ≤ 1 then (0, k, sd) else if 200 < m then ((nx zs k sd * 256 + nx zs (k + 1) (ns zs k sd)) % m, k + 2, ns zs (k + 1) (ns zs k sd)) else (nx zs k sd % m, k + 1, ns zs k sd)
theorem pk_bd (zs : List Int) (k : Nat) (sd : Int) (m : Int) (hm : 1 ≤ m) : 0 ≤ (pk zs k sd m).1 ∧ (pk zs k sd m).1 < m ∧ (pk zs k sd m).2.1 ≤ k + 2 := by
  unfold pk
  split
  · simp; omega
  · split
    · exact ⟨Int.emod_nonneg _ (by omega), Int.emod_lt_of_pos _ (by omega), Nat.le_refl _⟩
    · exact ⟨Int.emod_nonneg _ (by omega), Int.emod_lt_of_pos _ (by omega), by show k + 1 ≤ k + 2; omega⟩
theorem gr_trans {w w1 w2 : World} {r : Option Nat} (h : w.grownBy w1 r) (h2 : w1.grownBy w2 r) : w.grownBy w2 r :=
  ⟨h2.os.trans h.os, h2.tape.trans h.tape, h2.output.trans h.output, Nat.le_trans h.size h2.size, fun k hk hne => (h2.block k (Nat.lt_of_lt_of_le hk h.size) hne).trans (h.block k hk hne)⟩
theorem grown_below {w w1 : World} {r : Option Nat} (h : Below w.heap.size w w1) : w.grownBy w1 r := ⟨h.os, h.tape, h.output, h.size, fun k hk _ => h.block k hk⟩
theorem below_grownB {w w1 : World} {B b : Nat} (h : w.grownBy w1 (some b)) (hB : B ≤ b) (hs : B ≤ w.heap.size) : Below B w w1 := (Below.refl _ _).grown h hs (fun k e => by injection e with e; omega)
theorem grown_alloc {w w1 : World} {r : Option Nat} (h : w.grownBy w1 r) (o : Obj) : w.grownBy (w1.alloc o) r := gr_trans h (grown_below ((Below.refl _ _).alloc (Nat.le_refl _) o))
theorem grown_set {w w1 : World} {r : Option Nat} (h : w.grownBy w1 r) (p : Addr) (hp : w.heap.size ≤ p.block) (u : Value) : w.grownBy (w1.setCell p u) r :=
  ⟨h.os, h.tape, h.output, by simpa using h.size, fun k hk hne => (heap_set w1 p u k (by omega)).trans (h.block k hk hne)⟩
set_option maxRecDepth 100000 in
set_option maxHeartbeats 2000000 in
theorem next_any (b : Nat) (A : Option Addr) (n c : Nat) (zs : List Int) (k : Nat) (sd : Int) (hk : k ≤ 1099511627776) (w : World) (h : Src w b A n c zs k sd) : Calls Try.prog 167 #[.pointer (some ⟨b, 0, none⟩)] w fun e w' => e = .returned (.int .i64 (nx zs k sd)) ∧ Src w' b A n c zs (k + 1) (ns zs k sd) ∧ w.grownBy w' (some b) := by
  have H := Lib.hid h
  have hlt := h.lt
  obtain ⟨g1, g2, g3, g4, g5, g6, s0, s1⟩ := h
  have f1 := g4 1
  have f2 := g4 2
  have hle := g5.le
  have i0 : (0 : Int) ≤ (k : Int) := by omega
  by_cases hkn : k < n
  · obtain ⟨x, hx⟩ := bget (zs := zs) (k := k) (by rw [g5.len]; exact hkn)
    obtain ⟨bb, off, rfl, hbb, hc⟩ := g5.at_ (by omega)
    have cx := hc k x hx
    obtain ⟨x0, x1⟩ := g5.bd x (List.mem_of_getElem? hx)
    have i1 : (k : Int) < (n : Int) := by omega
    have i2 : (k : Int) + 1 ≤ (n : Int) := by omega
    have hne : ¬ (b = bb) := by omega
    have hne2 : ¬ (bb = b) := by omega
    have e1 := Lib.hid (show sb zs k = x by simp [sb, List.getD, hx])
    have e2 := Lib.hid (show nx zs k sd = x by rw [nx, if_pos (by rw [g5.len]; exact hkn)]; exact e1.out)
    have e3 := Lib.hid (show ns zs k sd = sdN sd x by rw [ns, e1.out])
    clear hc g4 g5 hx
    go_enter Try.func167, Try.ntmps167
    go_wp2_with fail
    go_quiet (fail)
    go_wp2_with fail
    go_quiet (fail)
    go_wp2_with fail
    refine wp_namedS (fun w' => Src w' b (some ⟨bb, off, none⟩) n c zs (k + 1) (sdN sd x) ∧ w.grownBy w' (some b)) ⟨(H.out.drewN _).step _ (sdN_bd sd x).1 (sdN_bd sd x).2 (k + 1), grown_two _ _ _ _ _⟩ ?_
    rintro W ⟨HS, HG⟩
    have S := Lib.hid HS
    have G := Lib.hid HG
    obtain ⟨q1, q2, -⟩ := HS
    clear HG g1 g2 g3 f1 f2 cx
    go_quiet (fail)
    go_wp2_with fail
    go_ret
    exact ⟨by rw [e2.out]; rfl, by rw [e3.out]; exact S.out.drewN _, grown_drawn G.out _⟩
  · have i1 : ¬ ((k : Int) < (n : Int)) := by omega
    have i2 : ¬ ((k : Int) + 1 ≤ (n : Int)) := by omega
    have e1 := Lib.hid (show sb zs k = 0 by rw [sb, List.getD, List.getElem?_eq_none (by rw [g5.len]; omega)]; rfl)
    have e2 := Lib.hid (show nx zs k sd = vN (sdN sd 0) by rw [nx, if_neg (by rw [g5.len]; exact hkn)])
    have e3 := Lib.hid (show ns zs k sd = sdN sd 0 by rw [ns, e1.out])
    have e4 := Lib.hid (show sdN sd 0 = IntKind.u64.wrap (IntKind.u64.wrap (IntKind.u64.wrap (sd * 6364136223846793005)) + 1442695040888963407) by rw [sdN, Int.add_zero])
    clear g4 g5
    go_enter Try.func167, Try.ntmps167
    go_wp2_with fail
    go_quiet (fail)
    go_wp2_with fail
    rw [← e4.out]
    refine wp_namedS (fun w' => Src w' b A n c zs (k + 1) (sdN sd 0) ∧ w.grownBy w' (some b)) ⟨(H.out.drewN _).step _ (sdN_bd sd 0).1 (sdN_bd sd 0).2 (k + 1), grown_two _ _ _ _ _⟩ ?_
    rintro W ⟨HS, HG⟩
    have S := Lib.hid HS
    have G := Lib.hid HG
    obtain ⟨q1, q2, q3, -⟩ := HS
    clear HG g1 g2 g3 f1 f2
    obtain ⟨t0, t1⟩ := sdN_bd sd 0
    generalize hT : sdN sd 0 = t at *
    go_quiet (fail)
    go_wp2_with fail
    go_ret
    exact ⟨by rw [e2.out, vN_is t0 t1]; rfl, by rw [e3.out]; exact S.out.drewN _, grown_drawn G.out _⟩
set_option maxRecDepth 100000 in
set_option maxHeartbeats 2000000 in
theorem pick_any (b : Nat) (A : Option Addr) (n c : Nat) (zs : List Int) (k : Nat) (sd m : Int) (hk : k ≤ 549755813888) (h0 : 1 ≤ m) (hm : m ≤ 4294967296) (w : World) (h : Src w b A n c zs k sd) : Calls Try.prog 160 #[.pointer (some ⟨b, 0, none⟩), .int .i64 m] w fun e w' => e = .returned (.int .i64 (pk zs k sd m).1) ∧ Src w' b A n c zs (pk zs k sd m).2.1 (pk zs k sd m).2.2 ∧ w.grownBy w' (some b) := by
  have H := Lib.hid h
  have hbd := h.2.2.2.2.1.bd
  obtain ⟨x0, x1⟩ := nx_bd hbd k sd
  obtain ⟨y0, y1⟩ := nx_bd hbd (k + 1) (ns zs k sd)
  clear h hbd
  by_cases h1 : m ≤ 1
  · have e1 := Lib.hid (show pk zs k sd m = (0, k, sd) by rw [pk, if_pos h1])
    go_enter Try.func160, Try.ntmps160
    go_wp2_with fail
    go_ret
    exact ⟨by rw [e1.out]; rfl, by rw [e1.out]; exact H.out, World.grownBy.refl _ _⟩
  by_cases h2 : 200 < m
  · have e1 := Lib.hid (show pk zs k sd m = ((nx zs k sd * 256 + nx zs (k + 1) (ns zs k sd)) % m, k + 2, ns zs (k + 1) (ns zs k sd)) by rw [pk, if_neg h1, if_pos h2])
    have i3 : ¬ (m = 0) := by omega
    go_enter Try.func160, Try.ntmps160
    go_wp2_with fail
    refine (next_any b A n c zs k sd (by omega) _ (by exact H.out)).mono ?_
    rintro e w1 ⟨rfl, S1, G1⟩
    have HS := Lib.hid S1
    have HG := Lib.hid G1
    clear S1 G1
    go_wp2_with fail
    refine (next_any b A n c zs (k + 1) (ns zs k sd) (by omega) _ (by exact HS.out)).mono ?_
    rintro e w2 ⟨rfl, S2, G2⟩
    have HS2 := Lib.hid S2
    have HG2 := Lib.hid (gr_trans HG.out G2)
    clear S2 G2
    go_wp2_with fail
    go_ret
    exact ⟨by rw [e1.out]; first | rfl | (rw [Int.tmod_eq_emod_of_nonneg (by omega)]; rfl), by rw [e1.out]; exact HS2.out, HG2.out⟩
  · have e1 := Lib.hid (show pk zs k sd m = (nx zs k sd % m, k + 1, ns zs k sd) by rw [pk, if_neg h1, if_neg h2])
    have i3 : ¬ (m = 0) := by omega
    go_enter Try.func160, Try.ntmps160
    go_wp2_with fail
    refine (next_any b A n c zs k sd (by omega) _ (by exact H.out)).mono ?_
    rintro e w1 ⟨rfl, S1, G1⟩
    have HS := Lib.hid S1
    have HG := Lib.hid G1
    clear S1 G1
    go_wp2_with fail
    go_ret
    exact ⟨by rw [e1.out]; first | rfl | (rw [Int.tmod_eq_emod_of_nonneg (by omega)]; rfl), by rw [e1.out]; exact HS.out, HG.out⟩
theorem one_any (b : Nat) (A : Option Addr) (n c : Nat) (zs : List Int) (k : Nat) (sd m : Int) (hk : k ≤ 549755813888) (h0 : 1 ≤ m) (hm : m ≤ 4294967296) (v : Bool) (hv : decide ((pk zs k sd m).1 = 0) = v) (w : World) (h : Src w b A n c zs k sd) : Calls Try.prog 161 #[.pointer (some ⟨b, 0, none⟩), .int .i64 m] w fun e w' => e = .returned (.bool v) ∧ Src w' b A n c zs (pk zs k sd m).2.1 (pk zs k sd m).2.2 ∧ w.grownBy w' (some b) := by
  have H := Lib.hid h
  have HV := Lib.hid hv
  clear h hv
  go_enter Try.func161, Try.ntmps161
  go_wp2_with fail
  refine (pick_any b A n c zs k sd m hk h0 hm _ (by exact H.out)).mono ?_
  rintro e w1 ⟨rfl, S1, G1⟩
  have HS := Lib.hid S1
  have HG := Lib.hid G1
  clear S1 G1
  generalize (pk zs k sd m).1 = x at *
  go_wp2_with fail
  go_ret
  exact ⟨by rw [← HV.out]; exact ret_bs (by by_cases hx : x = 0 <;> simp [hx]), HS.out, HG.out⟩
end Go.Proofs.Ytnanaldolnehiaa
