/-
  What ReadPosition reads, with no program in sight: sides, commas and the text read back.
-/
import Derived.Test.YtnanaldolnehiabDoorReadNums
import Derived.Test.YtnanaldolnehiabDoorPosText
set_option linter.unusedSimpArgs false
set_option linter.unusedVariables false
namespace Go.Proofs.YtnanaldolnehiabDoor
open Go.ChangeShapes Go.WideShapes Go.RowKit Go.Deep

theorem rd_bytes {x : ByteArray} (h : rdB x = true) : ∀ b ∈ x.data.toList, b = 45 ∨ isDg b = true := by
  simp only [rdB, Bool.and_eq_true, decide_eq_true_eq] at h
  have hd := h.1.2
  rw [List.all_eq_true] at hd
  intro b hb
  unfold dgs at hd
  by_cases hs : sgn x = true
  · rw [if_pos hs] at hd
    rw [sgn] at hs
    cases hl : x.data.toList with
    | nil => rw [hl] at hb; cases hb
    | cons a r =>
      rw [hl] at hb hd hs
      rcases List.mem_cons.1 hb with e | e
      · left
        simp at hs
        rw [e, hs]
      · right
        exact hd b (by simpa using e)
  · rw [if_neg hs] at hd
    exact .inr (hd b hb)
theorem rd_free {x : ByteArray} {c : UInt8} (h : rdB x = true) (h1 : ¬ (c = 45)) (h2 : isDg c = false) : c ∉ x.data.toList := by
  intro hc
  rcases rd_bytes h c hc with e | e
  · exact h1 e
  · rw [e] at h2; cases h2
theorem rd_no44 {x : ByteArray} (h : rdB x = true) : (44 : UInt8) ∉ x.data.toList := rd_free h (by decide) (by decide)
theorem rd_no47 {x : ByteArray} (h : rdB x = true) : (47 : UInt8) ∉ x.data.toList := rd_free h (by decide) (by decide)
theorem app_toList (x y : ByteArray) : (x ++ y).data.toList = x.data.toList ++ y.data.toList := by rw [ByteArray.data_append, Array.toList_append]
theorem jnL_free {c d : UInt8} {l : List ByteArray} (hd : ¬ (d = c)) (h : ∀ x ∈ l, d ∉ x.data.toList) : ∀ k, k ≤ l.length → d ∉ (jnL c l k).data.toList
  | 0, _ => by rw [jnL]; simp
  | k + 1, hk => by
    have ih := jnL_free hd h k (by omega)
    obtain ⟨t, ht⟩ := t_get_some (zs := l) (k := k) (by omega)
    have hx := h t (List.mem_of_getElem? ht)
    have e : l.getD k ⟨#[]⟩ = t := by simp [List.getD, ht]
    rw [jnL, e, app_toList, List.mem_append]
    rintro (h2 | h2)
    · split at h2
      · rw [app_toList, List.mem_append] at h2
        rcases h2 with h3 | h3
        · exact ih h3
        · simp at h3; exact hd h3
      · exact ih h2
    · exact hx h2
theorem jnL_count {c : UInt8} {l : List ByteArray} (h : ∀ x ∈ l, c ∉ x.data.toList) : ∀ k, k ≤ l.length → (jnL c l k).data.toList.count c = k - 1
  | 0, _ => by rw [jnL]; simp
  | k + 1, hk => by
    have ih := jnL_count h k (by omega)
    obtain ⟨t, ht⟩ := t_get_some (zs := l) (k := k) (by omega)
    have hx := h t (List.mem_of_getElem? ht)
    have e : l.getD k ⟨#[]⟩ = t := by simp [List.getD, ht]
    rw [jnL, e, app_toList, List.count_append, List.count_eq_zero_of_not_mem hx]
    split
    · rw [app_toList, List.count_append, ih]
      simp
      omega
    · rw [ih]; omega
theorem allR_all {l : List ByteArray} (h : allR l = true) : ∀ x ∈ l, rdB x = true := by
  simpa [allR, List.all_eq_true] using h
theorem allR_take {l : List ByteArray} (h : allR l = true) (m : Nat) : allR (l.take m) = true := by
  rw [allR, List.all_eq_true]
  exact fun x hx => allR_all h x (List.mem_of_mem_take hx)
theorem allR_drop {l : List ByteArray} (h : allR l = true) (m : Nat) : allR (l.drop m) = true := by
  rw [allR, List.all_eq_true]
  exact fun x hx => allR_all h x (List.mem_of_mem_drop hx)
theorem jnL_words {x : ByteArray} : jnL 44 (spAll 44 x) (spAll 44 x).length = x := spAll_join 44 x
theorem rn_free {x : ByteArray} (h : rnB x = true) : (47 : UInt8) ∉ x.data.toList := by
  have := jnL_free (c := 44) (d := 47) (l := spAll 44 x) (by decide) (fun y hy => rd_no47 (allR_all h y hy)) _ (Nat.le_refl _)
  rwa [jnL_words] at this
theorem rn_join {x : ByteArray} (h : rnB x = true) : jn 44 (rnL x) (rnL x).length = x := by
  have e := (rn_yes (s := x) h).2
  rw [e, jn_nums (c := 44) h _ (by simp [nums])]
  have : (nums (spAll 44 x)).length = (spAll 44 x).length := by simp [nums]
  rw [this, jnL_words]
/-- The commas of the first numbers. -/
theorem jn_commas {l : List ByteArray} (h : allR l = true) {m : Nat} (hm : m ≤ l.length) : (jn 44 ((nums l).take m) m).data.toList.count 44 = m - 1 ∧ (47 : UInt8) ∉ (jn 44 ((nums l).take m) m).data.toList := by
  have e : (nums l).take m = nums (l.take m) := by simp [nums, List.map_take]
  have hl : m ≤ (l.take m).length := by rw [List.length_take]; omega
  rw [e, jn_nums (c := 44) (allR_take h m) m hl]
  exact ⟨jnL_count (fun x hx => rd_no44 (allR_all (allR_take h m) x hx)) m hl, jnL_free (by decide) (fun x hx => rd_no47 (allR_all (allR_take h m) x hx)) m hl⟩
theorem pre_eq (d : UInt8) : ∀ (p p' q q' : List UInt8), d ∉ p → d ∉ p' → p ++ d :: q = p' ++ d :: q' → p = p'
  | [], [], _, _, _, _, _ => rfl
  | [], c :: r, _, _, _, h, e => by
    simp at e
    exact absurd (by rw [← e.1]; exact List.mem_cons_self) h
  | c :: r, [], _, _, h, _, e => by
    simp at e
    exact absurd (by rw [e.1]; exact List.mem_cons_self) h
  | c :: r, c' :: r', q, q', h, h', e => by
    simp at e
    rw [e.1, pre_eq d r r' q q' (fun x => h (List.mem_cons_of_mem _ x)) (fun x => h' (List.mem_cons_of_mem _ x)) e.2]
/-! ### the two sides -/
theorem spS_len {c : Int} {s : ByteArray} {k : Nat} : ∀ j, (spS c s k).1.length ≤ (spS c s (k + j)).1.length
  | 0 => Nat.le_refl _
  | j + 1 => by
    have ih := spS_len (c := c) (s := s) (k := k) j
    rw [show k + (j + 1) = (k + j) + 1 by omega, spS]
    split
    · split
      · simp; omega
      · exact ih
    · exact ih
theorem sides1 {t : ByteArray} (hno : ∀ j (h : j < t.size), ¬ (t[j] = 47)) : (spAll 47 t).length = 1 := by
  have := spS_stay (c := 47) (s := t) (u := 0) t.size (by omega) (fun j hj _ _ e => hno j hj (UInt8.toNat_inj.1 (by have : (47 : UInt8).toNat = 47 := rfl; omega)))
  rw [Nat.zero_add] at this
  rw [spAll, this]
  rfl
theorem sides2 {t : ByteArray} {k : Nat} (hk : k < t.size) (hno : ∀ j (h : j < t.size), j < k → ¬ (t[j] = 47)) (hy : t[k] = 47) :
    (rnB (t.extract (k + 1) t.size) = true → spAll 47 t = [t.extract 0 k, t.extract (k + 1) t.size]) ∧ ((spAll 47 t).length = 2 → spAll 47 t = [t.extract 0 k, t.extract (k + 1) t.size]) := by
  have n47 : (47 : UInt8).toNat = 47 := rfl
  have e0 : spS 47 t k = ([], 0) := by
    have := spS_stay (c := 47) (s := t) (u := 0) k (by omega) (fun j hj _ h2 e => hno j hj (by omega) (UInt8.toNat_inj.1 (by omega)))
    rw [Nat.zero_add] at this
    rw [this]
    rfl
  have e1 : spS 47 t (k + 1) = ([t.extract 0 k], k + 1) := by
    rw [spS_yes hk (by rw [hy]; rfl), e0]
    rfl
  by_cases h : ∀ j (hj : j < t.size), k + 1 ≤ j → ¬ (t[j] = 47)
  · have e2 := spS_stay (c := 47) (s := t) (u := k + 1) (t.size - (k + 1)) (by omega) (fun j hj h1 _ e => h j hj h1 (UInt8.toNat_inj.1 (by omega)))
    rw [show k + 1 + (t.size - (k + 1)) = t.size by omega] at e2
    have e3 : spAll 47 t = [t.extract 0 k, t.extract (k + 1) t.size] := by rw [spAll, e2, e1]; rfl
    exact ⟨fun _ => e3, fun _ => e3⟩
  · have ⟨j, hj, h1, h2⟩ : ∃ j, ∃ hj : j < t.size, k + 1 ≤ j ∧ t[j] = 47 := by
      refine Classical.byContradiction fun hc => h fun j hj h1 h2 => hc ⟨j, hj, h1, h2⟩
    refine ⟨fun hr => ?_, fun hl => ?_⟩
    · exfalso
      refine rn_free hr ?_
      rw [ext_toList, List.mem_iff_getElem]
      refine ⟨j - (k + 1), by rw [List.length_take, List.length_drop, len_toList]; omega, ?_⟩
      rw [List.getElem_take, List.getElem_drop]
      have e4 : t[j] = t.data.toList[j]'(by rw [len_toList]; exact hj) := rfl
      have e5 : k + 1 + (j - (k + 1)) = j := by omega
      simp only [e5]
      rw [← e4, h2]
    · exfalso
      have a1 : 1 ≤ (spS 47 t j).1.length := by
        have := spS_len (c := 47) (s := t) (k := k + 1) (j - (k + 1))
        rw [show k + 1 + (j - (k + 1)) = j by omega, e1] at this
        exact this
      have a2 : 2 ≤ (spS 47 t (j + 1)).1.length := by
        rw [spS_yes hj (by rw [h2]; rfl)]
        simp
        omega
      have a3 := spS_len (c := 47) (s := t) (k := j + 1) (t.size - (j + 1))
      rw [show j + 1 + (t.size - (j + 1)) = t.size by omega] at a3
      rw [spAll, List.length_append, List.length_singleton] at hl
      omega
/-! ### what ReadPosition returns -/
def w_ (s : ByteArray) (i : Nat) : ByteArray := (spAll 32 s).getD i ⟨#[]⟩
def sd (t : ByteArray) (i : Nat) : ByteArray := (spAll 47 t).getD i ⟨#[]⟩
def rdQ (t0 t1 t2 : ByteArray) : Bool := decide ((spAll 47 t1).length = 2) && rdB t0 && rnB (sd t1 0) && rnB (sd t1 1) && rnB t2 && decide ((rnL (sd t1 0)).length = (rnL (sd t1 1)).length)
def rdP (s : ByteArray) : Bool := decide ((spAll 32 s).length = 3) && rdQ (w_ s 0) (w_ s 1) (w_ s 2)
def rpX (s : ByteArray) : List Int := if rdP s = true then rnL (sd (w_ s 1) 0) ++ rnL (sd (w_ s 1) 1) else []
def rpY (s : ByteArray) : List Int := if rdP s = true then rnL (w_ s 2) else []
def rpP (s : ByteArray) : Int := if rdP s = true then rdN (w_ s 0) else 0
def rqB (r : Ru) (s : ByteArray) : Bool := rdP s && okP r (rpX s) (rpY s) (rpP s)
def rqX (r : Ru) (s : ByteArray) : List Int := if rqB r s = true then rpX s else []
def rqY (r : Ru) (s : ByteArray) : List Int := if rqB r s = true then rpY s else []
def rqP (r : Ru) (s : ByteArray) : Int := if rqB r s = true then rpP s else 0
theorem rp_no {s : ByteArray} (h : rdP s = false) : rpX s = [] ∧ rpY s = [] ∧ rpP s = 0 := by
  have : ¬ (rdP s = true) := by rw [h]; decide
  exact ⟨if_neg this, if_neg this, if_neg this⟩
theorem rp_yes {s : ByteArray} (h : rdP s = true) : rpX s = rnL (sd (w_ s 1) 0) ++ rnL (sd (w_ s 1) 1) ∧ rpY s = rnL (w_ s 2) ∧ rpP s = rdN (w_ s 0) := ⟨if_pos h, if_pos h, if_pos h⟩
theorem rq_no {r : Ru} {s : ByteArray} (h : rqB r s = false) : rqX r s = [] ∧ rqY r s = [] ∧ rqP r s = 0 := by
  have : ¬ (rqB r s = true) := by rw [h]; decide
  exact ⟨if_neg this, if_neg this, if_neg this⟩
theorem rq_yes {r : Ru} {s : ByteArray} (h : rqB r s = true) : rqX r s = rpX s ∧ rqY r s = rpY s ∧ rqP r s = rpP s := ⟨if_pos h, if_pos h, if_pos h⟩
theorem three_of {l : List ByteArray} (h : l.length = 3) : ∃ a b c, l = [a, b, c] := by
  match l, h with
  | [a, b, c], _ => exact ⟨a, b, c, rfl⟩
theorem rp_text {s t0 t1 t2 : ByteArray} (h : spAll 32 s = [t0, t1, t2]) : s = t0 ++ ⟨#[32]⟩ ++ t1 ++ ⟨#[32]⟩ ++ t2 := by
  have e := spAll_join 32 s
  rw [show spAll ((32 : UInt8).toNat : Int) s = [t0, t1, t2] from h] at e
  rw [← e]
  show jnL 32 [t0, t1, t2] 3 = _
  simp only [jnL, empty_app, List.getD]
  simp [empty_app]
theorem rdP_len {s : ByteArray} (h : ¬ ((spAll 32 s).length = 3)) : rdP s = false := by simp [rdP, h]
theorem rdP_is {s t0 t1 t2 : ByteArray} (h : spAll 32 s = [t0, t1, t2]) : rdP s = rdQ t0 t1 t2 := by simp [rdP, w_, h]
theorem rdQ_one {t0 t1 t2 : ByteArray} (h : (spAll 47 t1).length = 1) : rdQ t0 t1 t2 = false := by simp [rdQ, h]
theorem cut_text {t1 : ByteArray} {k : Nat} (hk : k < t1.size) (hy : t1[k] = 47) : t1 = t1.extract 0 k ++ ⟨#[47]⟩ ++ t1.extract (k + 1) t1.size := by
  rw [← hy, ← one_extract hk, ext_join (by omega) (by omega) (by omega), ext_join (by omega) (by omega) (Nat.le_refl _), ext_all]
theorem cut_free {t1 : ByteArray} {k : Nat} (hk : k < t1.size) (hno : ∀ j (h : j < t1.size), j < k → ¬ (t1[j] = 47)) : (47 : UInt8) ∉ (t1.extract 0 k).data.toList := by
  intro hx
  rw [ext_toList] at hx
  obtain ⟨i, hi, e⟩ := List.mem_iff_getElem.1 hx
  rw [List.getElem_take, List.getElem_drop] at e
  have hi2 : i < k := by
    rw [List.length_take] at hi
    omega
  refine hno i (by omega) hi2 ?_
  have e2 : t1[i]'(by omega) = t1.data.toList[i]'(by rw [len_toList]; omega) := rfl
  rw [e2, ← e]
  simp
section
variable {t0 t1 t2 : ByteArray} {k : Nat} (hk : k < t1.size) (hno : ∀ j (h : j < t1.size), j < k → ¬ (t1[j] = 47)) (hy : t1[k] = 47)
include hk hno hy
theorem rdQ_no (h : rdB t0 = false ∨ rnB (t1.extract 0 k) = false ∨ rnB (t1.extract (k + 1) t1.size) = false ∨ rnB t2 = false) : rdQ t0 t1 t2 = false := by
  by_cases hl : (spAll 47 t1).length = 2
  · have e := (sides2 hk hno hy).2 hl
    rcases h with h | h | h | h <;> simp [rdQ, sd, e, h]
  · simp [rdQ, hl]
theorem rdQ_yes (h0 : rdB t0 = true) (h1 : rnB (t1.extract 0 k) = true) (h2 : rnB (t1.extract (k + 1) t1.size) = true) (h3 : rnB t2 = true) :
    rdQ t0 t1 t2 = decide ((rnL (t1.extract 0 k)).length = (rnL (t1.extract (k + 1) t1.size)).length) ∧ sd t1 0 = t1.extract 0 k ∧ sd t1 1 = t1.extract (k + 1) t1.size := by
  have e := (sides2 hk hno hy).1 h2
  refine ⟨?_, by simp [sd, e], by simp [sd, e]⟩
  simp [rdQ, sd, e, h0, h1, h2, h3]
/-- The text of the position that was read is the text: where the sides are of one length, and nowhere else. -/
theorem back {s : ByteArray} {r : Ru} (h : spAll 32 s = [t0, t1, t2]) (h0 : rdB t0 = true) (h1 : rnB (t1.extract 0 k) = true) (h2 : rnB (t1.extract (k + 1) t1.size) = true) (h3 : rnB t2 = true)
    (ho : okP r (rnL (t1.extract 0 k) ++ rnL (t1.extract (k + 1) t1.size)) (rnL t2) (rdN t0) = true) :
    psT r (rnL (t1.extract 0 k) ++ rnL (t1.extract (k + 1) t1.size)) (rnL t2) (rdN t0) = s ↔ (rnL (t1.extract 0 k)).length = (rnL (t1.extract (k + 1) t1.size)).length := by
  have hs := rp_text h
  have hc := cut_text hk hy
  have hf := cut_free hk hno
  generalize t1.extract 0 k = x at *
  generalize t1.extract (k + 1) t1.size = y at *
  obtain ⟨z0, z1, z2, -⟩ := okP_parts ho
  obtain ⟨hq0, hq1⟩ := okR_pits z0
  obtain ⟨a, b, hab⟩ := two_ofD z2
  have j2 := rn_join h3
  rw [hab] at j2
  have j2' : jn 44 [a, b] 2 = t2 := j2
  have jx := rn_join h1
  have jy := rn_join h2
  obtain ⟨-, lx⟩ := rn_yes (s := x) h1
  obtain ⟨-, ly⟩ := rn_yes (s := y) h2
  have px : 0 < (rnL x).length := by rw [lx]; simp [nums]; exact spAll_ne 44 x
  rw [psT, if_pos ho, psX, hab]
  simp only [List.getD_cons_zero, List.getD_cons_succ]
  rw [j2', rd_dec h0]
  obtain ⟨m, hm⟩ : ∃ m : Nat, r.pits = (m : Int) := ⟨r.pits.toNat, by omega⟩
  rw [hm] at z1 hq0 hq1 ⊢
  simp only [Int.toNat_natCast]
  rw [List.length_append] at z1
  constructor
  · intro e
    rw [hs] at e
    have e2 := congrArg (fun z : ByteArray => z.data.toList) e
    rw [hc] at e2
    simp only [app_toList, List.append_assoc] at e2
    have e3 := List.append_cancel_left (List.append_cancel_left e2)
    have hall : allR (spAll 44 x ++ spAll 44 y) = true := by
      simp only [allR, List.all_append, Bool.and_eq_true]
      exact ⟨h1, h2⟩
    have hn : rnL x ++ rnL y = nums (spAll 44 x ++ spAll 44 y) := by rw [lx, ly]; simp [nums]
    have hml : m ≤ (spAll 44 x ++ spAll 44 y).length := by
      rw [lx, ly] at z1
      simp [nums] at z1 ⊢
      omega
    obtain ⟨c1, c2⟩ := jn_commas hall hml
    rw [← hn] at c1 c2
    have e4 := pre_eq 47 _ _ _ _ c2 hf e3
    rw [e4, ← jx, lx] at c1
    have c3 := jn_commas (l := spAll 44 x) h1 (m := (spAll 44 x).length) (Nat.le_refl _)
    rw [List.take_of_length_le (by simp [nums])] at c3
    have l1 : (nums (spAll 44 x)).length = (spAll 44 x).length := by simp [nums]
    rw [l1, c3.1] at c1
    rw [lx, l1] at px z1
    rw [lx, l1]
    omega
  · intro e
    have hmx : (rnL x).length = m := by omega
    have t1' : (rnL x ++ rnL y).take m = rnL x := by rw [← hmx]; exact List.take_left
    have t2' : ((rnL x ++ rnL y).drop m).take m = rnL y := by
      rw [← hmx, List.drop_left, e]; exact List.take_of_length_le (Nat.le_refl _)
    have jx' : jn 44 (rnL x) m = x := by rw [← hmx]; exact jx
    have jy' : jn 44 (rnL y) m = y := by rw [← hmx, e]; exact jy
    rw [t1', t2', jx', jy', hs]
    conv => rhs; rw [hc]
    simp only [ByteArray.append_assoc]
end
theorem rnL_len (x : ByteArray) : (rnL x).length ≤ x.size + 1 := by
  unfold rnL
  split
  · simp only [nums, List.length_map]; exact spAll_len 44 x
  · simp
theorem okP_lens {r : Ru} {xs xs' : List Int} {pl : Int} (h : okP r xs xs' pl = true) : xs.length ≤ 16 ∧ xs'.length = 2 := by
  obtain ⟨z0, z1, z2, -⟩ := okP_parts h
  obtain ⟨hq0, hq1⟩ := okR_pits z0
  exact ⟨by omega, z2⟩
end Go.Proofs.YtnanaldolnehiabDoor
