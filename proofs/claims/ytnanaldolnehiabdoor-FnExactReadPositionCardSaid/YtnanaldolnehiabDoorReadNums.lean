/-
  Numbers with a text form: readNumbers and l04Numbers.
-/
import Derived.Test.YtnanaldolnehiabDoorReadMoves
set_option linter.unusedSimpArgs false
set_option linter.unusedVariables false
namespace Go.Proofs.YtnanaldolnehiabDoor
open Go.ChangeShapes Go.WideShapes Go.RowKit Go.Deep

theorem spS_mem {c : Int} {s t : ByteArray} {k : Nat} (h : t ∈ (spS c s k).1) : ∀ j, t ∈ (spS c s (k + j)).1
  | 0 => h
  | j + 1 => by
    have ih := spS_mem h j
    rw [show k + (j + 1) = (k + j) + 1 by omega, spS]
    split
    · split
      · exact List.mem_append_left _ ih
      · exact ih
    · exact ih
theorem spAll_mem {c : Int} {s t : ByteArray} {k : Nat} (h : t ∈ (spS c s k).1) (hk : k ≤ s.size) : t ∈ spAll c s := by
  rw [spAll]
  refine List.mem_append_left _ ?_
  have := spS_mem h (s.size - k)
  rwa [show k + (s.size - k) = s.size by omega] at this
theorem allR_mem {l : List ByteArray} {x : ByteArray} (h : x ∈ l) (hx : rdB x = false) : allR l = false := by
  rw [allR, List.all_eq_false]
  exact ⟨x, h, by simp [hx]⟩
/-- What the readers of numbers return. -/
def rnB (s : ByteArray) : Bool := allR (spAll 44 s)
def rnL (s : ByteArray) : List Int := if rnB s = true then nums (spAll 44 s) else []
theorem rn_no {s : ByteArray} (h : allR (spAll 44 s) = false) : rnB s = false ∧ rnL s = [] := by
  have : rnB s = false := h
  exact ⟨this, by rw [rnL, if_neg (by rw [this]; decide)]⟩
theorem rn_yes {s : ByteArray} (h : allR (spAll 44 s) = true) : rnB s = true ∧ rnL s = nums (spAll 44 s) := by
  have : rnB s = true := h
  exact ⟨this, by rw [rnL, if_pos this]⟩
theorem allR_app {l : List ByteArray} {x : ByteArray} (h : allR l = true) (hx : rdB x = true) : allR (l ++ [x]) = true := by
  simp only [allR, List.all_append] at *
  simp [h, hx]
theorem nums_app (l : List ByteArray) (x : ByteArray) : nums (l ++ [x]) = nums l ++ [rdN x] := by simp [nums]
theorem ret_rn {A : Option Addr} {c n m : Nat} {b b' : Bool} (h : n = m) (hb : b = b') : (Ending.returned (.tuple #[.slice A n c, .bool b])) = .returned (.tuple #[.slice A m c, .bool b']) := by rw [h, hb]
set_option maxRecDepth 100000 in
set_option maxHeartbeats 4000000 in
theorem l04Numbers_any (s : ByteArray) (hs : s.size ≤ 1048576) (w : World) : Calls Tryd.prog 77 #[.string s] w (RetRM w (rnL s) (rnB s)) := by
  have E0 := Lib.hid (show Own (w.alloc (.cells #[] 2)) w.heap.size (some ⟨w.heap.size, 0, none⟩) 0 0 [] from ⟨rfl, by simp, by simp, World.ownsRow_made w #[] 0 (Nat.le_refl _) (by unfold maxLen; omega) rfl⟩)
  have bw := Lib.hid (show Below w.heap.size w (w.alloc (.cells #[] 2)) from (by repeat (first | with_reducible exact Below.refl _ _ | with_reducible assumption | with_reducible refine sub_alloc ?_ _ | (with_reducible refine sub_setCell2 ?_ ?_ _; (focus (first | (simp; done) | (simp <;> omega)))) | with_reducible refine sub_drew ?_ | with_reducible refine below_drewN ?_ _ | with_reducible refine sub_step (by assumption) ?_ (by first | rfl | (simp; done)) | exact Below.refl _ _ | assumption | refine sub_alloc ?_ _ | refine sub_setCell ?_ (by simp <;> omega) _ | refine sub_drew ?_ | refine below_drewN ?_ _ | refine sub_step (by assumption) ?_ (by first | rfl | (simp; done)))))
  have hal := spAll_len 44 s
  have hsz := spAll_size 44 s
  go_enter Tryd.func77, Tryd.ntmps77
  go_wp2_with fail
  refine (l01Split_any s 44 _ hs).mono ?_
  rintro e w1 ⟨B, cb, rfl, o1, b1⟩
  have O1 := Lib.hid o1
  have B0 := Lib.hid (bw.out.trans (b1.mono bw.out.size))
  have E1 := Lib.hid (E0.out.below b1 (Nat.le_refl _))
  generalize hl : spAll 44 s = l at *
  have HL := Lib.hid hl
  have HSZ := Lib.hid hsz
  clear o1 b1 hl bw E0 hsz
  go_wp2_with fail
  go_loopw [4, 6] (fun o i wr => ∃ (k : Nat) (A : Option Addr) (c : Nat), i = .int .i64 k ∧ k ≤ l.length ∧ o = .slice A k c ∧ Own wr w.heap.size A k c (nums (l.take k)) ∧ OwnT wr w.heap.size B l.length cb l ∧ Hid (allR (l.take k) = true) ∧ Below w.heap.size w wr) (fun _ i _ => l.length - (intOf i).toNat)
  case atStart => exact ⟨0, _, 0, rfl, Nat.zero_le _, rfl, E1.out, O1.out.lower (by simp), Lib.hid rfl, B0.out⟩
  case round =>
    obtain ⟨k, A, c, rfl, hk, rfl, ho, hot, hall, hb⟩ := hrel
    have HO := Lib.hid ho
    have HOT := Lib.hid hot
    have HB := Lib.hid hb
    clear ho hot hb E1 O1 B0
    by_cases hlt : k < l.length
    · obtain ⟨x, hx⟩ := t_get_some (zs := l) (k := k) hlt
      obtain ⟨b, off, hA, hbB, hc⟩ := HOT.out.ints.at_ (by omega)
      have cx : wr.cell? ⟨b, off + k, none⟩ = some (.string x) := hc k x hx
      have xs0 : x.size ≤ 1048576 := Nat.le_trans (HSZ.out x (List.mem_of_getElem? hx)) hs
      have X := Lib.hid hx
      have i0 : (0 : Int) ≤ (k : Int) := by omega
      have i1 : (k : Int) < (l.length : Int) := by omega
      have HAA := Lib.hid hA
      rw [hA]
      clear hx hc
      cases hr : rdB x
      · have hb := rn_no (s := s) (by rw [HL.out]; exact allR_bad X.out hr)
        have R := Lib.hid hb
        have HR := Lib.hid hr
        clear hb hr
        go_wp2_with fail
        refine (l01Number_any x xs0 _).mono ?_
        rintro e w2 ⟨rfl, b2⟩
        rw [HR.out]
        have c2 := Lib.hid (HB.out.trans (b2.mono HB.out.size))
        clear b2
        go_wp2_with fail
        go_ret2
        rw [R.out.1, R.out.2]
        exact ⟨none, 0, rfl, own_nilM _ _, c2.out⟩
      · have HR := Lib.hid hr
        clear hr
        go_wp2_with fail
        refine (l01Number_any x xs0 _).mono ?_
        rintro e w2 ⟨rfl, b2⟩
        rw [HR.out]
        have c2 := Lib.hid (HB.out.trans (b2.mono HB.out.size))
        have HO2 := Lib.hid (HO.out.below b2 (Nat.le_refl _))
        have HOT2 := Lib.hid (HOT.out.below b2 (Nat.le_refl _))
        clear b2
        go_wp2_with (at_builtin; refine list_append1 rfl (.tmp 28) (.tmp 30) rfl w.heap.size A k c (nums (l.take k)) (rdN x) (by simp [Act.eval, Act.put]) (by simp [Act.eval, Act.put]) (by exact HO2.out) (by omega) (by exact c2.out.size) ?_; intro A3 c3 w3 ho3 hb3 hg3)
        go_roundw
        case rel => exact ⟨k + 1, A3, c3, by go_num, by omega, rfl, by rw [nums_step X.out]; exact ho3, by rw [← HAA.out]; exact (HOT2.out.alloc _).kept hg3 (fun g e => .inr (own_ne HO2.out HOT2.out g (own_block HO2.out e).1)), Lib.hid (allR_step X.out hall.out HR.out), c2.out.trans hb3⟩
        case measure => simp [intOf]; omega
    · have hke : k = l.length := by omega
      have HK := Lib.hid (show l.take k = l by rw [hke]; exact List.take_of_length_le (Nat.le_refl _))
      have HA := Lib.hid (show allR l = true by have := hall.out; rw [HK.out] at this; exact this)
      have j0 : ¬ ((k : Int) < (l.length : Int)) := by omega
      clear hke
      have R := Lib.hid (rn_yes (s := s) (by rw [HL.out]; exact HA.out))
      go_wp2_with fail
      go_ret2
      have e4 := HO.out
      rw [HK.out] at e4
      have e5 := e4.len
      rw [R.out.1, R.out.2, HL.out]
      exact ⟨A, c, ret_rn e5.symm rfl, by rw [e5]; exact e4, HB.out⟩
set_option maxRecDepth 100000 in
set_option maxHeartbeats 4000000 in
theorem readNumbers_any (s : ByteArray) (hs : s.size ≤ 1048576) (w : World) (ht : Tab w) : Calls Tryd.prog 56 #[.string s] w (RetRM w (rnL s) (rnB s)) := by
  have HT := Lib.hid ht
  clear ht
  have E0 := Lib.hid (show Own (w.alloc (.cells #[] 2)) w.heap.size (some ⟨w.heap.size, 0, none⟩) 0 0 [] from ⟨rfl, by simp, by simp, World.ownsRow_made w #[] 0 (Nat.le_refl _) (by unfold maxLen; omega) rfl⟩)
  have bw := Lib.hid (show Below w.heap.size w (w.alloc (.cells #[] 2)) from (by repeat (first | with_reducible exact Below.refl _ _ | with_reducible assumption | with_reducible refine sub_alloc ?_ _ | (with_reducible refine sub_setCell2 ?_ ?_ _; (focus (first | (simp; done) | (simp <;> omega)))) | with_reducible refine sub_drew ?_ | with_reducible refine below_drewN ?_ _ | with_reducible refine sub_step (by assumption) ?_ (by first | rfl | (simp; done)) | exact Below.refl _ _ | assumption | refine sub_alloc ?_ _ | refine sub_setCell ?_ (by simp <;> omega) _ | refine sub_drew ?_ | refine below_drewN ?_ _ | refine sub_step (by assumption) ?_ (by first | rfl | (simp; done)))))
  go_enter Tryd.func56, Tryd.ntmps56
  go_wp2_with fail
  go_loopw [0, 4] (fun t o wr => ∃ (u : Nat) (A : Option Addr) (m cc : Nat), u ≤ s.size ∧ t = .string (s.extract u s.size) ∧ Hid ((spS 44 s u).2 = u) ∧ o = .slice A m cc ∧ m ≤ u ∧ Own wr w.heap.size A m cc (nums (spS 44 s u).1) ∧ Hid (allR (spS 44 s u).1 = true) ∧ Below w.heap.size w wr) (fun t _ _ => match t with | .string x => x.size | _ => 0)
  case atStart => exact ⟨0, _, 0, 0, Nat.zero_le _, by rw [ext_all], Lib.hid rfl, rfl, Nat.le_refl _, E0.out, Lib.hid rfl, bw.out⟩
  case round =>
    obtain ⟨u, A, m, cc, hu, rfl, hsp, rfl, hm, ho, hall, hb⟩ := hrel
    have HO := Lib.hid ho
    have HB := Lib.hid hb
    have hsz : (s.extract u s.size).size = s.size - u := by rw [ByteArray.size_extract]; omega
    have HZ := Lib.hid hsz
    clear ho hb bw E0 hsz
    go_wp2_with fail
    refine (cut_any (s.extract u s.size) 44 _ (by rw [HZ.out]; omega)).mono ?_
    rintro e w1 ⟨hcut, m1, rfl⟩
    have HO2 := Lib.hid (HO.out.drewN m1)
    have HB2 := Lib.hid (below_drewN HB.out m1)
    rcases hcut with ⟨k, hk, hno, hyes, rfl⟩ | ⟨hno, rfl⟩
    · have hk' : k < s.size - u := by rw [← HZ.out]; exact hk
      have hu2 : u + k < s.size := by omega
      have g1 : s[u + k] = 44 := by rw [← ext_get hu2 hk]; exact hyes
      have HS := Lib.hid (show spS 44 s (u + k) = spS 44 s u from spS_stay k (by omega) (fun j hj h1 h2 e => by
        have h3 : j - u < (s.extract u s.size).size := by rw [HZ.out]; omega
        refine hno (j - u) h3 (by omega) ?_
        rw [ext_get (by omega) h3]
        have e4 : u + (j - u) = j := by omega
        simp only [e4]
        exact UInt8.toNat_inj.1 (by have : (44 : UInt8).toNat = 44 := rfl; omega)))
      have HF := Lib.hid (ext_front (s := s) (u := u) (k := k) (by omega))
      have HK := Lib.hid (show (s.extract u s.size).extract (k + 1) (s.extract u s.size).size = s.extract (u + k + 1) s.size by rw [HZ.out]; exact ext_back (s := s) (u := u) (k := k + 1) (by omega))
      have HY := Lib.hid (spS_yes (c := 44) (s := s) (k := u + k) hu2 (by rw [g1]; rfl))
      have z1 : (s.extract u (u + k)).size ≤ 1048576 := by rw [ByteArray.size_extract]; omega
      clear hno hyes g1
      rw [HF.out, HK.out]
      have HX := Lib.hid (show (spS 44 s (u + k + 1)).1 = (spS 44 s u).1 ++ [s.extract u (u + k)] by rw [HY.out, HS.out, hsp.out])
      cases hr : rdB (s.extract u (u + k))
      · have R := Lib.hid (rn_no (s := s) (allR_mem (spAll_mem (k := u + k + 1) (by rw [HX.out]; exact List.mem_append_right _ List.mem_cons_self) (by omega)) hr))
        have HR := Lib.hid hr
        clear hr
        go_wp2_with fail
        refine (implRead_any _ z1 _ (by exact HT.out.below HB2.out (Nat.le_refl _))).mono ?_
        rintro e w2 ⟨rfl, b2⟩
        rw [HR.out]
        have c2 := Lib.hid (HB2.out.trans (b2.mono HB2.out.size))
        clear b2
        go_wp2_with fail
        go_ret2
        rw [R.out.1, R.out.2]
        exact ⟨none, 0, rfl, own_nilM _ _, c2.out⟩
      · have HR := Lib.hid hr
        clear hr
        go_wp2_with fail
        refine (implRead_any _ z1 _ (by exact HT.out.below HB2.out (Nat.le_refl _))).mono ?_
        rintro e w2 ⟨rfl, b2⟩
        rw [HR.out]
        have c2 := Lib.hid (HB2.out.trans (b2.mono HB2.out.size))
        have HO3 := Lib.hid (HO2.out.below b2 (Nat.le_refl _))
        clear b2
        go_wp2_with (at_builtin; refine list_append1 rfl (.tmp 24) (.tmp 26) rfl w.heap.size A m cc (nums (spS 44 s u).1) (rdN (s.extract u (u + k))) (by simp [Act.eval, Act.put]) (by simp [Act.eval, Act.put]) (by exact HO3.out) (by omega) (by exact c2.out.size) ?_; intro A3 c3 w3 ho3 hb3 hg3)
        go_roundw
        case rel => exact ⟨u + k + 1, A3, m + 1, c3, by omega, rfl, Lib.hid (by rw [HY.out]), rfl, by omega, by rw [HX.out, nums_app]; exact ho3, Lib.hid (by rw [HX.out]; exact allR_app hall.out HR.out), c2.out.trans hb3⟩
        case measure => show (s.extract (u + k + 1) s.size).size < (s.extract u s.size).size; rw [HZ.out, ByteArray.size_extract]; omega
    · have HS := Lib.hid (show spS 44 s s.size = spS 44 s u from by
        have := spS_stay (c := 44) (s := s) (u := u) (s.size - u) (by omega) (fun j hj h1 h2 e => by
          have h3 : j - u < (s.extract u s.size).size := by rw [HZ.out]; omega
          refine hno (j - u) h3 ?_
          rw [ext_get (by omega) h3]
          have e4 : u + (j - u) = j := by omega
          simp only [e4]
          exact UInt8.toNat_inj.1 (by have : (44 : UInt8).toNat = 44 := rfl; omega))
        rwa [show u + (s.size - u) = s.size by omega] at this)
      have HX := Lib.hid (show spAll 44 s = (spS 44 s u).1 ++ [s.extract u s.size] by rw [spAll, HS.out, hsp.out])
      have z1 : (s.extract u s.size).size ≤ 1048576 := by rw [ByteArray.size_extract]; omega
      clear hno
      cases hr : rdB (s.extract u s.size)
      · have R := Lib.hid (rn_no (s := s) (allR_mem (by rw [HX.out]; exact List.mem_append_right _ List.mem_cons_self) hr))
        have HR := Lib.hid hr
        clear hr
        go_wp2_with fail
        refine (implRead_any _ z1 _ (by exact HT.out.below HB2.out (Nat.le_refl _))).mono ?_
        rintro e w2 ⟨rfl, b2⟩
        rw [HR.out]
        have c2 := Lib.hid (HB2.out.trans (b2.mono HB2.out.size))
        clear b2
        go_wp2_with fail
        go_ret2
        rw [R.out.1, R.out.2]
        exact ⟨none, 0, rfl, own_nilM _ _, c2.out⟩
      · have HR := Lib.hid hr
        have R := Lib.hid (rn_yes (s := s) (by rw [HX.out]; exact allR_app hall.out hr))
        clear hr
        go_wp2_with fail
        refine (implRead_any _ z1 _ (by exact HT.out.below HB2.out (Nat.le_refl _))).mono ?_
        rintro e w2 ⟨rfl, b2⟩
        rw [HR.out]
        have c2 := Lib.hid (HB2.out.trans (b2.mono HB2.out.size))
        have HO3 := Lib.hid (HO2.out.below b2 (Nat.le_refl _))
        clear b2
        go_wp2_with (at_builtin; refine list_append1 rfl (.tmp 24) (.tmp 26) rfl w.heap.size A m cc (nums (spS 44 s u).1) (rdN (s.extract u s.size)) (by simp [Act.eval, Act.put]) (by simp [Act.eval, Act.put]) (by exact HO3.out) (by omega) (by exact c2.out.size) ?_; intro A3 c3 w3 ho3 hb3 hg3)
        go_ret2
        have e4 := ho3
        rw [← nums_app, ← HX.out] at e4
        have e5 := e4.len
        rw [R.out.1, R.out.2]
        exact ⟨A3, c3, ret_rn e5.symm rfl, by rw [e5]; exact e4, c2.out.trans hb3⟩
end Go.Proofs.YtnanaldolnehiabDoor
