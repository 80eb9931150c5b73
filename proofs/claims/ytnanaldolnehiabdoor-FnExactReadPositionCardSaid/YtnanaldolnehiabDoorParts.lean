/-
  A text's parts: cut at a byte, parts between blanks; the parts joined again.
-/
import Derived.Test.YtnanaldolnehiabDoorSplit
import Derived.Test.YtnanaldolnehiabDoorJoin
set_option linter.unusedSimpArgs false
set_option linter.unusedVariables false
namespace Go.Proofs.YtnanaldolnehiabDoor
open Go.ChangeShapes Go.WideShapes Go.RowKit Go.Deep

theorem one_extract {s : ByteArray} {k : Nat} (h : k < s.size) : s.extract k (k + 1) = ⟨#[s[k]]⟩ := by
  apply ByteArray.ext
  rw [ByteArray.data_extract]
  apply Array.ext
  · simp [Array.size_extract]; have : s.data.size = s.size := rfl; omega
  · intro i h1 h2
    have : i = 0 := by simpa using h2
    subst this
    simp
    rfl
theorem ext_toList (s : ByteArray) (a b : Nat) : (s.extract a b).data.toList = (s.data.toList.drop a).take (b - a) := by
  rw [ByteArray.data_extract, Array.toList_extract, List.extract_eq_take_drop]
theorem ba_ext {x y : ByteArray} (h : x.data.toList = y.data.toList) : x = y := ByteArray.ext (Array.toList_inj.mp h)
theorem len_toList (s : ByteArray) : s.data.toList.length = s.size := by rw [Array.length_toList]; rfl
theorem ext_all (s : ByteArray) : s.extract 0 s.size = s := by
  apply ba_ext
  rw [ext_toList, List.drop_zero, List.take_of_length_le (by rw [len_toList]; omega)]
theorem ext_front {s : ByteArray} {u k : Nat} (h : u + k ≤ s.size) : (s.extract u s.size).extract 0 k = s.extract u (u + k) := by
  apply ba_ext
  rw [ext_toList, ext_toList, ext_toList, List.drop_zero, List.take_take]
  congr 1
  omega
theorem ext_back {s : ByteArray} {u k : Nat} (h : u + k ≤ s.size) : (s.extract u s.size).extract k (s.size - u) = s.extract (u + k) s.size := by
  apply ba_ext
  rw [ext_toList, ext_toList, ext_toList, List.drop_take, List.drop_drop, List.take_take]
  congr 1
  omega
theorem ext_join {s : ByteArray} {a b c : Nat} (h1 : a ≤ b) (h2 : b ≤ c) (h3 : c ≤ s.size) : s.extract a b ++ s.extract b c = s.extract a c := by
  apply ba_ext
  rw [ByteArray.data_append, Array.toList_append, ext_toList, ext_toList, ext_toList]
  have e1 : s.data.toList.drop b = (s.data.toList.drop a).drop (b - a) := by rw [List.drop_drop]; congr 1; omega
  rw [e1, show c - a = (b - a) + (c - b) by omega, List.take_add]
theorem ext_get {s : ByteArray} {u j : Nat} (h : u + j < s.size) (h2 : j < (s.extract u s.size).size) : (s.extract u s.size)[j] = s[u + j] := by
  have e : (s.extract u s.size)[j] = (s.extract u s.size).data.toList[j]'(by rw [len_toList]; exact h2) := rfl
  have e2 : s[u + j] = s.data.toList[u + j]'(by rw [len_toList]; exact h) := rfl
  rw [e, e2]
  simp only [ext_toList, List.getElem_take, List.getElem_drop]
theorem one_toList (c : UInt8) : (⟨#[c]⟩ : ByteArray).toList = [c] := by rw [ByteArray.toList_eq]
/-- What 'cut' finds at one byte. -/
def CutR (s : ByteArray) (c : UInt8) (e : Ending) : Prop :=
  (∃ k, ∃ hk : k < s.size, (∀ j (h : j < s.size), j < k → ¬ (s[j] = c)) ∧ s[k] = c ∧ e = .returned (.tuple #[.string (s.extract 0 k), .string (s.extract (k + 1) s.size), .bool true])) ∨
  ((∀ j (h : j < s.size), ¬ (s[j] = c)) ∧ e = .returned (.tuple #[.string s, .string ⟨#[]⟩, .bool false]))
set_option maxRecDepth 100000 in
set_option maxHeartbeats 2000000 in
theorem cut_any (s : ByteArray) (c : UInt8) (w : World) (hs : s.size ≤ 1048576) : Calls Tryd.prog 55 #[.string s, .string ⟨#[c]⟩] w fun e w' => CutR s c e ∧ ∃ m, w' = w.drewN m := by
  go_enter Tryd.func55, Tryd.ntmps55
  go_wp2_with fail
  go_loopw [7] (fun i wr => ∃ k : Nat, i = .int .i64 k ∧ k ≤ s.size ∧ Hid (∀ j (h : j < s.size), j < k → ¬ (s[j] = c)) ∧ wr = w) (fun i _ => s.size - (intOf i).toNat)
  case atStart => exact ⟨0, rfl, Nat.zero_le _, Lib.hid (fun j h h2 => absurd h2 (by omega)), rfl⟩
  case round =>
    obtain ⟨k, rfl, hk, hn, rfl⟩ := hrel
    by_cases hlt : k < s.size
    · have j0 : (k : Int) + 1 ≤ (s.size : Int) := by omega
      have j1 : (k : Int) ≤ (s.size : Int) := by omega
      have j2 : (k : Int) ≤ (k : Int) + 1 := by omega
      have HE := Lib.hid (one_extract hlt)
      by_cases hc : s[k] = c
      · have HC := Lib.hid hc
        have q' : ((s.extract k (k + 1)).toList == [c]) = true := by rw [HE.out, hc, one_toList]; simp
        have q : ((s.extract k (k + 1)).toList == (⟨#[c]⟩ : ByteArray).toList) = true := by rw [one_toList]; exact q'
        clear hc
        go_wp2_with fail
        go_quiet (fail)
        go_wp2_with fail
        go_ret3
        exact ⟨.inl ⟨k, hlt, hn.out, HC.out, rfl⟩, _, rfl⟩
      · have HC := Lib.hid hc
        have hne : ¬ (s.extract k (k + 1) = ⟨#[c]⟩) := by
          rw [HE.out]
          intro e
          injection e with e
          injection e with e
          injection e with e
          exact hc e
        have q : ((s.extract k (k + 1)).toList == (⟨#[c]⟩ : ByteArray).toList) = false := toList_ne hne
        have q' : ((s.extract k (k + 1)).toList == [c]) = false := by rw [← one_toList c]; exact q
        clear hc hne
        go_wp2_with fail
        go_roundw
        case rel => exact ⟨k + 1, by go_num, by omega, Lib.hid (fun j h h2 => by
          rcases (by omega : j < k ∨ j = k) with h3 | h3
          · exact hn.out j h h3
          · subst h3; exact HC.out), by simp⟩
        case measure => simp [intOf]; omega
    · have hke : k = s.size := by omega
      have HK := Lib.hid hke
      have j0 : ¬ ((k : Int) + 1 ≤ (s.size : Int)) := by omega
      clear hke
      go_wp2_with fail
      go_ret3
      exact ⟨.inr ⟨fun j h => hn.out j h (by rw [HK.out]; exact h), rfl⟩, 0, rfl⟩
/-! ### parts joined again -/
def jnL (c : UInt8) (l : List ByteArray) : Nat → ByteArray
  | 0 => ⟨#[]⟩
  | k + 1 => (if 0 < k then jnL c l k ++ ⟨#[c]⟩ else jnL c l k) ++ l.getD k ⟨#[]⟩
theorem jnL_app (c : UInt8) (l l2 : List ByteArray) : ∀ k, k ≤ l.length → jnL c (l ++ l2) k = jnL c l k
  | 0, _ => rfl
  | k + 1, h => by
    have e : (l ++ l2).getD k ⟨#[]⟩ = l.getD k ⟨#[]⟩ := by simp only [List.getD]; rw [List.getElem?_append_left (by omega)]
    rw [jnL, jnL, jnL_app c l l2 k (by omega), e]
theorem jnL_snoc (c : UInt8) (l : List ByteArray) (x : ByteArray) : jnL c (l ++ [x]) (l ++ [x]).length = (if 0 < l.length then jnL c l l.length ++ ⟨#[c]⟩ else jnL c l l.length) ++ x := by
  have e : (l ++ [x]).getD l.length ⟨#[]⟩ = x := by simp [List.getD]
  rw [List.length_append, List.length_singleton, jnL, jnL_app c l [x] _ (Nat.le_refl _), e]
theorem empty_app (x : ByteArray) : (⟨#[]⟩ : ByteArray) ++ x = x := by
  apply ba_ext
  rw [ByteArray.data_append, Array.toList_append]
  rfl
theorem app_empty (x : ByteArray) : x ++ (⟨#[]⟩ : ByteArray) = x := by
  apply ba_ext
  rw [ByteArray.data_append, Array.toList_append]
  simp
theorem spS_join (c : UInt8) (s : ByteArray) : ∀ k, k ≤ s.size → ((spS c.toNat s k).1 = [] → (spS c.toNat s k).2 = 0) ∧ ((spS c.toNat s k).1 ≠ [] → jnL c (spS c.toNat s k).1 (spS c.toNat s k).1.length ++ ⟨#[c]⟩ = s.extract 0 (spS c.toNat s k).2)
  | 0, _ => ⟨fun _ => rfl, fun h => absurd rfl h⟩
  | k + 1, hk => by
    obtain ⟨i1, i2⟩ := spS_join c s k (by omega)
    have hle := (spS_le c.toNat s k).1
    by_cases hc : (s[k].toNat : Int) = (c.toNat : Int)
    · rw [spS_yes (by omega) hc]
      refine ⟨fun h => by simp at h, fun _ => ?_⟩
      have e : s[k] = c := UInt8.toNat_inj.1 (by omega)
      have e2 : s.extract k (k + 1) = ⟨#[c]⟩ := by rw [one_extract (by omega), e]
      show jnL c ((spS c.toNat s k).1 ++ [s.extract (spS c.toNat s k).2 k]) ((spS c.toNat s k).1 ++ [s.extract (spS c.toNat s k).2 k]).length ++ ⟨#[c]⟩ = s.extract 0 (k + 1)
      rw [jnL_snoc]
      rcases Nat.eq_zero_or_pos (spS c.toNat s k).1.length with h0 | h0
      · have h1 := List.eq_nil_of_length_eq_zero h0
        rw [if_neg (by omega), h1]
        show (⟨#[]⟩ : ByteArray) ++ _ ++ _ = _
        rw [empty_app, i1 h1, ← e2, ext_join (by omega) (by omega) (by omega)]
      · rw [if_pos h0, i2 (by intro e; rw [e] at h0; simp at h0), ext_join (by omega) hle (by omega), ← e2, ext_join (by omega) (by omega) (by omega)]
    · rw [spS_no (by omega) hc]
      exact ⟨i1, i2⟩
theorem spAll_join (c : UInt8) (s : ByteArray) : jnL c (spAll c.toNat s) (spAll c.toNat s).length = s := by
  obtain ⟨i1, i2⟩ := spS_join c s s.size (Nat.le_refl _)
  have hle := (spS_le c.toNat s s.size).1
  unfold spAll
  rw [jnL_snoc]
  rcases Nat.eq_zero_or_pos (spS c.toNat s s.size).1.length with h0 | h0
  · have h1 := List.eq_nil_of_length_eq_zero h0
    rw [if_neg (by omega), h1, i1 h1]
    show (⟨#[]⟩ : ByteArray) ++ _ = _
    rw [empty_app, ext_all]
  · rw [if_pos h0, i2 (by intro e; rw [e] at h0; simp at h0), ext_join (by omega) hle (Nat.le_refl _), ext_all]
theorem spAll_size (c : Int) (s : ByteArray) : ∀ t ∈ spAll c s, t.size ≤ s.size := by
  have H : ∀ k, ∀ t ∈ (spS c s k).1, t.size ≤ s.size := by
    intro k
    induction k with
    | zero => intro t ht; cases ht
    | succ k ih =>
      intro t ht
      rw [spS] at ht
      split at ht
      · split at ht
        · rcases List.mem_append.1 ht with h | h
          · exact ih t h
          · simp at h; subst h; rw [ByteArray.size_extract]; omega
        · exact ih t ht
      · exact ih t ht
  intro t ht
  rcases List.mem_append.1 ht with h | h
  · exact H _ t h
  · simp at h; subst h; rw [ByteArray.size_extract]; omega
theorem spAll_ne (c : Int) (s : ByteArray) : 0 < (spAll c s).length := by simp [spAll]
/-- No byte of the kind between two places: the state stays. -/
theorem spS_stay {c : Int} {s : ByteArray} {u : Nat} : ∀ k, u + k ≤ s.size → (∀ j (h : j < s.size), u ≤ j → j < u + k → ¬ ((s[j].toNat : Int) = c)) → spS c s (u + k) = spS c s u
  | 0, _, _ => rfl
  | k + 1, hk, h => by
    rw [show u + (k + 1) = (u + k) + 1 by omega, spS_no (by omega) (h (u + k) (by omega) (by omega) (by omega))]
    exact spS_stay k (by omega) (fun j hj h1 h2 => h j hj h1 (by omega))
set_option maxRecDepth 100000 in
set_option maxHeartbeats 2000000 in
theorem parts_any (s : ByteArray) (w : World) (hs : s.size ≤ 1048576) : Calls Tryd.prog 50 #[.string s] w (RetOwnT w (spAll 32 s).length (spAll 32 s)) := by
  have H0 := Lib.hid (show OwnT (w.alloc (.cells #[] 9)) w.heap.size (some ⟨w.heap.size, 0, none⟩) 0 0 [] from ⟨rfl, by simp, by simp, World.ownsRow_made w #[] 0 (Nat.le_refl _) (by unfold maxLen; omega) rfl⟩)
  have bw := Lib.hid (show Below w.heap.size w (w.alloc (.cells #[] 9)) from (by repeat (first | with_reducible exact Below.refl _ _ | with_reducible assumption | with_reducible refine sub_alloc ?_ _ | (with_reducible refine sub_setCell2 ?_ ?_ _; (focus (first | (simp; done) | (simp <;> omega)))) | with_reducible refine sub_drew ?_ | with_reducible refine below_drewN ?_ _ | with_reducible refine sub_step (by assumption) ?_ (by first | rfl | (simp; done)) | exact Below.refl _ _ | assumption | refine sub_alloc ?_ _ | refine sub_setCell ?_ (by simp <;> omega) _ | refine sub_drew ?_ | refine below_drewN ?_ _ | refine sub_step (by assumption) ?_ (by first | rfl | (simp; done)))))
  go_enter Tryd.func50, Tryd.ntmps50
  go_wp2_with fail
  go_loopw [0, 3] (fun t o wr => ∃ (u : Nat) (A : Option Addr) (m cc : Nat), u ≤ s.size ∧ t = .string (s.extract u s.size) ∧ Hid ((spS 32 s u).2 = u) ∧ o = .slice A m cc ∧ m ≤ u ∧ OwnT wr w.heap.size A m cc (spS 32 s u).1 ∧ Below w.heap.size w wr) (fun t _ _ => match t with | .string x => x.size | _ => 0)
  case atStart => exact ⟨0, _, 0, 0, Nat.zero_le _, by rw [ext_all], Lib.hid rfl, rfl, Nat.le_refl _, H0.out, bw.out⟩
  case round =>
    obtain ⟨u, A, m, cc, hu, rfl, hsp, rfl, hm, ho, hb⟩ := hrel
    have HO := Lib.hid ho
    have HB := Lib.hid hb
    have hsz : (s.extract u s.size).size = s.size - u := by rw [ByteArray.size_extract]; omega
    have HZ := Lib.hid hsz
    clear ho hb bw H0 hsz
    go_wp2_with fail
    refine (cut_any (s.extract u s.size) 32 _ (by rw [HZ.out]; omega)).mono ?_
    rintro e w1 ⟨hcut, m1, rfl⟩
    rcases hcut with ⟨k, hk, hno, hyes, rfl⟩ | ⟨hno, rfl⟩
    · have hk' : k < s.size - u := by rw [← HZ.out]; exact hk
      have hu2 : u + k < s.size := by omega
      have g1 : s[u + k] = 32 := by rw [← ext_get hu2 hk]; exact hyes
      have HS := Lib.hid (show spS 32 s (u + k) = spS 32 s u from spS_stay k (by omega) (fun j hj h1 h2 e => by
        have h3 : j - u < (s.extract u s.size).size := by rw [HZ.out]; omega
        refine hno (j - u) h3 (by omega) ?_
        rw [ext_get (by omega) h3]
        have e4 : u + (j - u) = j := by omega
        simp only [e4]
        exact UInt8.toNat_inj.1 (by have : (32 : UInt8).toNat = 32 := rfl; omega)))
      have HF := Lib.hid (ext_front (s := s) (u := u) (k := k) (by omega))
      have HK := Lib.hid (show (s.extract u s.size).extract (k + 1) (s.extract u s.size).size = s.extract (u + k + 1) s.size by rw [HZ.out]; exact ext_back (s := s) (u := u) (k := k + 1) (by omega))
      have HY := Lib.hid (spS_yes (c := 32) (s := s) (k := u + k) hu2 (by rw [g1]; rfl))
      have HO2 := Lib.hid (HO.out.drewN m1)
      have HB2 := Lib.hid (below_drewN HB.out m1)
      clear hno hyes g1
      rw [HF.out, HK.out]
      go_wp2_with (at_builtin; refine list_appendT rfl (.tmp 14) (.tmp 16) rfl w.heap.size A m cc (spS 32 s u).1 (s.extract u (u + k)) wr.heap.size (by simp) (by simp [Act.eval, Act.put]) (by simp [Act.eval, Act.put]) (by exact HO2.out) (by omega) (by exact HB2.out.size) ?_; intro A2 c2 w2 ho2 hb2)
      go_roundw
      case rel => exact ⟨u + k + 1, A2, m + 1, c2, by omega, rfl, Lib.hid (by rw [HY.out]), rfl, by omega, by rw [HY.out, HS.out, hsp.out]; exact ho2, HB2.out.trans hb2⟩
      case measure => show (s.extract (u + k + 1) s.size).size < (s.extract u s.size).size; rw [HZ.out, ByteArray.size_extract]; omega
    · have HS := Lib.hid (show spS 32 s s.size = spS 32 s u from by
        have := spS_stay (c := 32) (s := s) (u := u) (s.size - u) (by omega) (fun j hj h1 h2 e => by
          have h3 : j - u < (s.extract u s.size).size := by rw [HZ.out]; omega
          refine hno (j - u) h3 ?_
          rw [ext_get (by omega) h3]
          have e4 : u + (j - u) = j := by omega
          simp only [e4]
          exact UInt8.toNat_inj.1 (by have : (32 : UInt8).toNat = 32 := rfl; omega))
        rwa [show u + (s.size - u) = s.size by omega] at this)
      have HO2 := Lib.hid (HO.out.drewN m1)
      have HB2 := Lib.hid (below_drewN HB.out m1)
      clear hno
      go_wp2_with (at_builtin; refine list_appendT rfl (.tmp 14) (.tmp 16) rfl w.heap.size A m cc (spS 32 s u).1 (s.extract u s.size) wr.heap.size (by simp) (by simp [Act.eval, Act.put]) (by simp [Act.eval, Act.put]) (by exact HO2.out) (by omega) (by exact HB2.out.size) ?_; intro A2 c2 w2 ho2 hb2)
      go_ret
      have e2 : (spS 32 s u).1 ++ [s.extract u s.size] = spAll 32 s := by rw [spAll, HS.out, hsp.out]
      rw [e2] at ho2
      have e3 := ho2.len
      rw [e3]
      exact ⟨A2, c2, rfl, ho2, HB2.out.trans hb2⟩
end Go.Proofs.YtnanaldolnehiabDoor
