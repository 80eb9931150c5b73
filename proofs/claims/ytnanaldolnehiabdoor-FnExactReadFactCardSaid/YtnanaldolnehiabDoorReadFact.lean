/-
  The fact with a text form: ReadFact; the law FnExactReadFact, walked.
-/
import Derived.Test.YtnanaldolnehiabDoorParts
import Derived.Test.YtnanaldolnehiabDoorFactText
import Derived.Deep.Cut
set_option linter.unusedSimpArgs false
set_option linter.unusedVariables false
namespace Go.Proofs.YtnanaldolnehiabDoor
open Go.ChangeShapes Go.WideShapes Go.RowKit Go.Deep

/-! ### the last word -/
def noB (t : ByteArray) : Prop := (32 : UInt8) ∉ t.data.toList
theorem pre_unique : ∀ (p p' q q' : List UInt8), (32 : UInt8) ∉ p → (32 : UInt8) ∉ p' → p ++ 32 :: q = p' ++ 32 :: q' → p = p'
  | [], [], _, _, _, _, _ => rfl
  | [], c :: r, _, _, _, h, e => by
    simp at e
    exact absurd (by rw [← e.1]; exact List.mem_cons_self) h
  | c :: r, [], _, _, h, _, e => by
    simp at e
    exact absurd (by rw [e.1]; exact List.mem_cons_self) h
  | c :: r, c' :: r', q, q', h, h', e => by
    simp at e
    rw [e.1, pre_unique r r' q q' (fun x => h (List.mem_cons_of_mem _ x)) (fun x => h' (List.mem_cons_of_mem _ x)) e.2]
theorem last_unique {x y a b : ByteArray} (ha : noB a) (hb : noB b) (h : x ++ ⟨#[32]⟩ ++ a = y ++ ⟨#[32]⟩ ++ b) : a = b := by
  have e : x.data.toList ++ 32 :: a.data.toList = y.data.toList ++ 32 :: b.data.toList := by
    have := congrArg (fun z : ByteArray => z.data.toList) h
    simpa [ByteArray.data_append] using this
  have e2 := congrArg List.reverse e
  simp only [List.reverse_append, List.reverse_cons, List.append_assoc, List.singleton_append] at e2
  have := pre_unique a.data.toList.reverse b.data.toList.reverse _ _ (by simpa [noB] using ha) (by simpa [noB] using hb) e2
  exact ba_ext (List.reverse_inj.1 this)
theorem noB_extract {s : ByteArray} {u k : Nat} (hk : k ≤ s.size) (h : ∀ j (hj : j < s.size), u ≤ j → j < k → ¬ ((s[j].toNat : Int) = 32)) : noB (s.extract u k) := by
  intro hx
  rw [ext_toList] at hx
  obtain ⟨i, hi, e⟩ := List.mem_iff_getElem.1 hx
  rw [List.getElem_take, List.getElem_drop] at e
  have hi2 : i < k - u ∧ u + i < s.size := by
    rw [List.length_take, List.length_drop, len_toList] at hi
    omega
  refine h (u + i) hi2.2 (by omega) (by omega) ?_
  have e2 : s[u + i]'hi2.2 = 32 := e
  rw [e2]
  rfl
theorem spS_clear (s : ByteArray) : ∀ k, k ≤ s.size → (∀ j (hj : j < s.size), (spS 32 s k).2 ≤ j → j < k → ¬ ((s[j].toNat : Int) = 32)) ∧ ∀ t ∈ (spS 32 s k).1, noB t
  | 0, _ => ⟨fun j _ _ h => absurd h (by omega), fun t ht => by cases ht⟩
  | k + 1, hk => by
    obtain ⟨i1, i2⟩ := spS_clear s k (by omega)
    by_cases hc : (s[k].toNat : Int) = 32
    · rw [spS_yes (by omega) hc]
      refine ⟨fun j hj h1 h2 => absurd h1 (by show ¬ (k + 1 ≤ j); omega), fun t ht => ?_⟩
      rcases List.mem_append.1 ht with h | h
      · exact i2 t h
      · simp at h; subst h; exact noB_extract (by omega) i1
    · rw [spS_no (by omega) hc]
      refine ⟨fun j hj h1 h2 => ?_, i2⟩
      rcases (by omega : j < k ∨ j = k) with h3 | h3
      · exact i1 j hj h1 h3
      · subst h3; exact hc
theorem spAll_noB (s : ByteArray) : ∀ t ∈ spAll 32 s, noB t := by
  obtain ⟨i1, i2⟩ := spS_clear s s.size (Nat.le_refl _)
  intro t ht
  rcases List.mem_append.1 ht with h | h
  · exact i2 t h
  · simp at h; subst h; exact noB_extract (Nat.le_refl _) i1
theorem last_word {s : ByteArray} (h : (spAll 32 s).length = 4) : s = jnL 32 (spAll 32 s) 3 ++ ⟨#[32]⟩ ++ (spAll 32 s).getD 3 ⟨#[]⟩ ∧ noB ((spAll 32 s).getD 3 ⟨#[]⟩) := by
  refine ⟨?_, ?_⟩
  · have e := spAll_join 32 s
    rw [show (spAll ((32 : UInt8).toNat : Int) s).length = 4 from h] at e
    exact e.symm
  · refine spAll_noB s _ ?_
    obtain ⟨t, ht⟩ := t_get_some (zs := spAll 32 s) (k := 3) (by omega)
    rw [show (spAll 32 s).getD 3 ⟨#[]⟩ = t by simp [List.getD, ht]]
    exact List.mem_of_getElem? ht
/-! ### what ReadFact returns -/
def kd (t : ByteArray) : Int := if t = (⟨#[116, 97, 107, 101]⟩ : ByteArray) then 1 else if t = (⟨#[115, 111, 119]⟩ : ByteArray) then 2 else if t = (⟨#[99, 97, 112, 116, 117, 114, 101]⟩ : ByteArray) then 3 else if t = (⟨#[115, 112, 97, 114, 101]⟩ : ByteArray) then 4 else if t = (⟨#[97, 103, 97, 105, 110]⟩ : ByteArray) then 5 else if t = (⟨#[116, 117, 114, 110]⟩ : ByteArray) then 6 else 0
def w_ (s : ByteArray) (i : Nat) : ByteArray := (spAll 32 s).getD i ⟨#[]⟩
def spP (s : ByteArray) : Int := if (spAll 32 s).length = 4 then (if rdB (w_ s 3) = true then rdN (w_ s 3) else -1) else 0
def imP (s : ByteArray) : Int := if (spAll 32 s).length = 4 then (if w_ s 3 = (⟨#[115, 116, 111, 114, 101]⟩ : ByteArray) then -1 else rdN (w_ s 3)) else 0
def rfC (s : ByteArray) : Int := if (spAll 32 s).length = 4 then rdN (w_ s 1) else 0
def sok (s : ByteArray) : Bool := okF (kd (w_ s 0)) (spP s) (rfC s) && decide (fcT (kd (w_ s 0)) (spP s) (rfC s) = s)
def iok (s : ByteArray) : Bool := decide (fcT (kd (w_ s 0)) (imP s) (rfC s) = s) && decide (0 < s.size)
theorem from_cat (X P : ByteArray) : X ++ (⟨#[32, 102, 114, 111, 109, 32]⟩ : ByteArray) ++ P = (X ++ (⟨#[32, 102, 114, 111, 109]⟩ : ByteArray)) ++ ⟨#[32]⟩ ++ P := by
  rw [show (⟨#[32, 102, 114, 111, 109, 32]⟩ : ByteArray) = (⟨#[32, 102, 114, 111, 109]⟩ : ByteArray) ++ ⟨#[32]⟩ from rfl]; simp only [ByteArray.append_assoc]
theorem into_cat (X P : ByteArray) : X ++ (⟨#[32, 105, 110, 116, 111, 32]⟩ : ByteArray) ++ P = (X ++ (⟨#[32, 105, 110, 116, 111]⟩ : ByteArray)) ++ ⟨#[32]⟩ ++ P := by
  rw [show (⟨#[32, 105, 110, 116, 111, 32]⟩ : ByteArray) = (⟨#[32, 105, 110, 116, 111]⟩ : ByteArray) ++ ⟨#[32]⟩ from rfl]; simp only [ByteArray.append_assoc]
theorem fcT_last {k p c : Int} (h : okF k p c = true) (hk : k = 1 ∨ k = 2 ∨ k = 3 ∨ k = 4) : ∃ X, fcT k p c = X ++ ⟨#[32]⟩ ++ plT p := by
  rw [fcT, if_pos h]
  rcases hk with rfl | rfl | rfl | rfl
  · exact ⟨_, from_cat _ _⟩
  · exact ⟨_, into_cat _ _⟩
  · exact ⟨_, from_cat _ _⟩
  · exact ⟨_, from_cat _ _⟩
theorem fcT_lone {k p c : Int} (h : okF k p c = true) (hk : k = 5 ∨ k = 6) : fcT k p c = (⟨#[97, 103, 97, 105, 110]⟩ : ByteArray) ∨ fcT k p c = (⟨#[116, 117, 114, 110]⟩ : ByteArray) := by
  rw [fcT, if_pos h]
  rcases hk with rfl | rfl
  · exact .inl rfl
  · exact .inr rfl
theorem lone_len : ¬ ((spAll 32 (⟨#[97, 103, 97, 105, 110]⟩ : ByteArray)).length = 4) ∧ ¬ ((spAll 32 (⟨#[116, 117, 114, 110]⟩ : ByteArray)).length = 4) := by
  constructor <;> decide +kernel
theorem rd_store : rdB (⟨#[115, 116, 111, 114, 101]⟩ : ByteArray) = false := by
  refine rd_of_all ?_
  decide +kernel
theorem rd_zero : rdB (⟨#[48]⟩ : ByteArray) = true := by
  refine rd_yes (by decide) (by decide) (by decide) ?_
  rw [show rdV (⟨#[48]⟩ : ByteArray) = 0 from by decide +kernel, dec_zero]
theorem noB_store : noB (⟨#[115, 116, 111, 114, 101]⟩ : ByteArray) := by unfold noB; decide
theorem noB_zero : noB (⟨#[48]⟩ : ByteArray) := by unfold noB; decide
theorem sok_p (s : ByteArray) : (sok s = true → imP s = spP s) ∧ (iok s = true → imP s = spP s) := by
  by_cases h4 : (spAll 32 s).length = 4
  rotate_left
  · have : imP s = spP s := by rw [imP, spP, if_neg h4, if_neg h4]
    exact ⟨fun _ => this, fun _ => this⟩
  obtain ⟨hl, hn⟩ := last_word h4
  by_cases hb : rdB (w_ s 3) = true
  · have hns : ¬ (w_ s 3 = (⟨#[115, 116, 111, 114, 101]⟩ : ByteArray)) := by
      intro e
      rw [e, rd_store] at hb
      cases hb
    have : imP s = spP s := by rw [imP, spP, if_pos h4, if_pos h4, if_neg hns, if_pos hb]
    exact ⟨fun _ => this, fun _ => this⟩
  · by_cases hs : w_ s 3 = (⟨#[115, 116, 111, 114, 101]⟩ : ByteArray)
    · have : imP s = spP s := by rw [imP, spP, if_pos h4, if_pos h4, if_pos hs, if_neg hb]
      exact ⟨fun _ => this, fun _ => this⟩
    · have hp : spP s = -1 := by rw [spP, if_pos h4, if_neg hb]
      have hi : imP s = 0 := by rw [imP, if_pos h4, if_neg hs, rdN, if_neg hb]
      have lone : ∀ p, ¬ (okF (kd (w_ s 0)) p (rfC s) = true ∧ (kd (w_ s 0) = 5 ∨ kd (w_ s 0) = 6) ∧ fcT (kd (w_ s 0)) p (rfC s) = s) := by
        rintro p ⟨h1, h2, h3⟩
        rcases fcT_lone h1 h2 with e | e
        · rw [← h3, e] at h4; exact lone_len.1 h4
        · rw [← h3, e] at h4; exact lone_len.2 h4
      refine ⟨fun h => ?_, fun h => ?_⟩
      · simp only [sok, Bool.and_eq_true, decide_eq_true_eq] at h
        rw [hp] at h
        obtain ⟨h1, h2⟩ := h
        exfalso
        rcases okF_bd h1 with ⟨h5, -, -⟩ | ⟨h5, -, -⟩ | ⟨hk, -, -, -, -, -⟩
        · exact lone _ ⟨h1, .inl h5, h2⟩
        · exact lone _ ⟨h1, .inr h5, h2⟩
        · obtain ⟨X, hX⟩ := fcT_last h1 hk
          rw [h2] at hX
          refine hs (last_unique hn noB_store (hl.symm.trans hX))
      · simp only [iok, Bool.and_eq_true, decide_eq_true_eq] at h
        rw [hi] at h
        obtain ⟨h2, h0⟩ := h
        exfalso
        by_cases h1 : okF (kd (w_ s 0)) 0 (rfC s) = true
        · rcases okF_bd h1 with ⟨h5, -, -⟩ | ⟨h5, -, -⟩ | ⟨hk, -, -, -, -, -⟩
          · exact lone _ ⟨h1, .inl h5, h2⟩
          · exact lone _ ⟨h1, .inr h5, h2⟩
          · obtain ⟨X, hX⟩ := fcT_last h1 hk
            rw [h2, show plT 0 = (⟨#[48]⟩ : ByteArray) from by rw [plT, if_neg (by omega), dec_zero]] at hX
            have e : w_ s 3 = (⟨#[48]⟩ : ByteArray) := last_unique hn noB_zero (hl.symm.trans hX)
            rw [e, rd_zero] at hb
            exact hb rfl
        · rw [fcT, if_neg h1] at h2
          rw [← h2] at h0
          exact absurd h0 (by decide)
theorem sok_iok (s : ByteArray) : iok s = sok s := by
  obtain ⟨h1, h2⟩ := sok_p s
  rw [Bool.eq_iff_iff]
  refine ⟨fun h => ?_, fun h => ?_⟩
  · have e := h2 h
    simp only [iok, Bool.and_eq_true, decide_eq_true_eq] at h
    simp only [sok, Bool.and_eq_true, decide_eq_true_eq]
    rw [← e]
    refine ⟨?_, h.1⟩
    by_cases ho : okF (kd (w_ s 0)) (imP s) (rfC s) = true
    · exact ho
    · have h3 := h.1
      rw [fcT, if_neg ho] at h3
      have h4 := h.2
      rw [← h3] at h4
      exact absurd h4 (by decide)
  · have e := h1 h
    simp only [sok, Bool.and_eq_true, decide_eq_true_eq] at h
    simp only [iok, Bool.and_eq_true, decide_eq_true_eq]
    rw [e]
    refine ⟨h.2, ?_⟩
    by_cases h0 : 0 < s.size
    · exact h0
    · exfalso
      have hs := emptyS h0
      have h2 := h.2
      rw [hs] at h
      have h5 : kd (w_ ⟨#[]⟩ 0) = 0 := by decide +kernel
      rw [h5] at h
      have : okF 0 (spP ⟨#[]⟩) (rfC ⟨#[]⟩) = false := by simp [okF]
      rw [this] at h
      cases h.1
/-! ### facts in a block that can be written -/
def FX (w : World) (g : Nat) (k p c : Int) : Prop := w.cell? ⟨g, 0, none⟩ = some (.int .i64 k) ∧ w.cell? ⟨g, 1, none⟩ = some (.int .i64 p) ∧ w.cell? ⟨g, 2, none⟩ = some (.int .i64 c) ∧ ∀ i, w.frozen? ⟨g, i, none⟩ = false
section
variable {w w' : World} {g : Nat} {k p c : Int}
theorem FX.lt (h : FX w g k p c) : g < w.heap.size := by have := lt_of_cell h.1; simpa using this
theorem FX.below {B : Nat} (h : FX w g k p c) (hb : Below B w w') (hB : g < B) : FX w' g k p c :=
  ⟨(hb.cell (p := ⟨g, 0, none⟩) hB).trans h.1, (hb.cell (p := ⟨g, 1, none⟩) hB).trans h.2.1, (hb.cell (p := ⟨g, 2, none⟩) hB).trans h.2.2.1, fun i => (hb.frozen (p := ⟨g, i, none⟩) hB).trans (h.2.2.2 i)⟩
theorem FX.alloc (h : FX w g k p c) (o : Obj) : FX (w.alloc o) g k p c := h.below ((Below.refl _ _).alloc (Nat.le_refl _) o) h.lt
theorem FX.other (h : FX w g k p c) (q : Addr) (hq : ¬ (q.block = g)) (u : Value) : FX (w.setCell q u) g k p c := by
  refine ⟨?_, ?_, ?_, fun i => by rw [World.frozen?_setCell]; exact h.2.2.2 i⟩
  · exact (World.cell?_setCell_other w q ⟨g, 0, none⟩ u (fun e => hq (by rw [e]))).trans h.1
  · exact (World.cell?_setCell_other w q ⟨g, 1, none⟩ u (fun e => hq (by rw [e]))).trans h.2.1
  · exact (World.cell?_setCell_other w q ⟨g, 2, none⟩ u (fun e => hq (by rw [e]))).trans h.2.2.1
theorem FX.box (w : World) (t : TypeId) (k p c : Int) : FX (w.alloc (.cells #[.int .i64 k, .int .i64 p, .int .i64 c] t)) w.heap.size k p c :=
  ⟨by simp [World.cell?_alloc_new], by simp [World.cell?_alloc_new], by simp [World.cell?_alloc_new], fun i => by rw [frozen?_alloc_cells]; simp [World.frozen?]⟩
theorem FX.set0 (h : FX w g k p c) (x : Int) : FX (w.setCell ⟨g, 0, none⟩ (.int .i64 x)) g x p c :=
  ⟨World.cell?_setCell_same _ _ _ h.1, by rw [World.cell?_setCell_other _ _ _ _ (by simp)]; exact h.2.1, by rw [World.cell?_setCell_other _ _ _ _ (by simp)]; exact h.2.2.1, fun i => by rw [World.frozen?_setCell]; exact h.2.2.2 i⟩
theorem FX.set1 (h : FX w g k p c) (x : Int) : FX (w.setCell ⟨g, 1, none⟩ (.int .i64 x)) g k x c :=
  ⟨by rw [World.cell?_setCell_other _ _ _ _ (by simp)]; exact h.1, World.cell?_setCell_same _ _ _ h.2.1, by rw [World.cell?_setCell_other _ _ _ _ (by simp)]; exact h.2.2.1, fun i => by rw [World.frozen?_setCell]; exact h.2.2.2 i⟩
theorem FX.set2 (h : FX w g k p c) (x : Int) : FX (w.setCell ⟨g, 2, none⟩ (.int .i64 x)) g k p x :=
  ⟨by rw [World.cell?_setCell_other _ _ _ _ (by simp)]; exact h.1, by rw [World.cell?_setCell_other _ _ _ _ (by simp)]; exact h.2.1, World.cell?_setCell_same _ _ _ h.2.2.1, fun i => by rw [World.frozen?_setCell]; exact h.2.2.2 i⟩
end
theorem named {P : Program} {Q : Exit → Act → World → Prop} {a : Act} {w : World} {c : Code} (K : World → Prop) (hK : K w) (h : ∀ W, K W → c.wp P Q a W) : c.wp P Q a w := h w hK
theorem litF {s : ByteArray} {l : List UInt8} (h : ¬ (s = ⟨l.toArray⟩)) : (s.toList == l) = false := by
  rw [ByteArray.toList_eq, beq_eq_false_iff_ne]
  intro e
  exact h (ByteArray.ext (Array.toList_inj.mp (by simp [e])))
theorem litT {s : ByteArray} {l : List UInt8} (h : s = ⟨l.toArray⟩) : (s.toList == l) = true := by
  rw [h, ByteArray.toList_eq]
  simp
theorem litF' {s : ByteArray} {l : List UInt8} (h : ¬ (s = ⟨l.toArray⟩)) : (l == s.toList) = false := by
  have := litF h
  rw [beq_eq_false_iff_ne] at this ⊢
  exact fun e => this e.symm
theorem litT' {s : ByteArray} {l : List UInt8} (h : s = ⟨l.toArray⟩) : (l == s.toList) = true := by
  rw [h, ByteArray.toList_eq]
  simp
theorem litW {s t : ByteArray} (h : s = t) : (s.toList == t.toList) = true := by rw [h]; simp
theorem litWF {s t : ByteArray} (h : ¬ (s = t)) : (s.toList == t.toList) = false := by
  rw [beq_eq_false_iff_ne, ByteArray.toList_eq, ByteArray.toList_eq]
  exact fun e => h (ByteArray.ext (Array.toList_inj.mp e))
def rfS (s : ByteArray) : Value := .tuple #[.agg #[.int .i64 (if sok s = true then kd (w_ s 0) else 0), .int .i64 (if sok s = true then spP s else 0), .int .i64 (if sok s = true then rfC s else 0)], .bool (sok s)]
theorem specReadFact_ret {Post : Ending → World → Prop} {a : Act} {W : World} {g : Nat} {k p c : Int} {b : Bool} (ha : a.tmps.getD 2 undef = .pointer (some ⟨g, 0, none⟩)) (hb : a.tmps.getD 3 undef = .bool b) (hd : a.defers = []) (hr : FX W g k p c) (hP : Post (.returned (.tuple #[.agg #[.int .i64 k, .int .i64 p, .int .i64 c], .bool b])) W) : bodyPost Tryd.prog Tryd.f18 Post Exit.ret a W := by
  obtain ⟨c0, c1, c2, -⟩ := hr
  refine bodyPost_ret (v := .tuple #[.agg #[.int .i64 k, .int .i64 p, .int .i64 c], .bool b]) ?_ hd hP
  obtain ⟨tmps, defers⟩ := a
  simp only [Array.getD_eq_getD_getElem?] at ha hb
  simp [results, Tryd.results18, go_sem, ha, hb, c0, c1, c2]
set_option maxRecDepth 100000 in
set_option maxHeartbeats 16000000 in
theorem specReadFact_any (s : ByteArray) (hs : s.size ≤ 1048576) (w : World) : Calls Tryd.prog 18 #[.string s] w fun e w' => e = .returned (rfS s) ∧ Below w.heap.size w w' := by
  have bw := Lib.hid (show Below w.heap.size w (w.alloc (.cells #[.int .i64 0, .int .i64 0, .int .i64 0] 29)) from (by repeat (first | with_reducible exact Below.refl _ _ | with_reducible assumption | with_reducible refine sub_alloc ?_ _ | (with_reducible refine sub_setCell2 ?_ ?_ _; (focus (first | (simp; done) | (simp <;> omega)))) | with_reducible refine sub_drew ?_ | with_reducible refine below_drewN ?_ _ | with_reducible refine sub_step (by assumption) ?_ (by first | rfl | (simp; done)) | exact Below.refl _ _ | assumption | refine sub_alloc ?_ _ | refine sub_setCell ?_ (by simp <;> omega) _ | refine sub_drew ?_ | refine below_drewN ?_ _ | refine sub_step (by assumption) ?_ (by first | rfl | (simp; done)))))
  have Z0 := Lib.hid (FX.box w 29 0 0 0)
  have hal := spAll_ne 32 s
  have hsz := spAll_size 32 s
  go_enter Tryd.func18, Tryd.ntmps18
  go_wp2_with fail
  refine (l01Split_any s 32 _ hs).mono ?_
  rintro e w1 ⟨B, cb, rfl, o1, b1⟩
  have Z1 := Lib.hid (Z0.out.below b1 (by simp))
  have B1 := Lib.hid (sub_step b1 bw.out rfl)
  have O1 := Lib.hid o1
  have lt1 := Z1.out.lt
  clear b1 o1 Z0 bw
  obtain ⟨bb, off, rfl, hbb, hc⟩ := O1.out.ints.at_ hal
  obtain ⟨t0, ht0⟩ := t_get_some (zs := spAll 32 s) (k := 0) hal
  have x0 := Lib.hid (hc 0 t0 ht0)
  have e0 := Lib.hid (show w_ s 0 = t0 by simp [w_, List.getD, ht0])
  have X1 := Lib.hid (FX.box w1 29 0 0 0)
  have Z2 := Lib.hid (Z1.out.alloc (.cells #[.int .i64 0, .int .i64 0, .int .i64 0] 29))
  have B2 := Lib.hid (sub_alloc B1.out (.cells #[.int .i64 0, .int .i64 0, .int .i64 0] 29))
  have D2 := Lib.hid (show Below w1.heap.size w1 (w1.alloc (.cells #[.int .i64 0, .int .i64 0, .int .i64 0] 29)) from (by repeat (first | with_reducible exact Below.refl _ _ | with_reducible assumption | with_reducible refine sub_alloc ?_ _ | (with_reducible refine sub_setCell2 ?_ ?_ _; (focus (first | (simp; done) | (simp <;> omega)))) | with_reducible refine sub_drew ?_ | with_reducible refine below_drewN ?_ _ | with_reducible refine sub_step (by assumption) ?_ (by first | rfl | (simp; done)) | exact Below.refl _ _ | assumption | refine sub_alloc ?_ _ | refine sub_setCell ?_ (by simp <;> omega) _ | refine sub_drew ?_ | refine below_drewN ?_ _ | refine sub_step (by assumption) ?_ (by first | rfl | (simp; done)))))
  have HC := Lib.hid hc
  clear Z1 B1 hc ht0
  go_upto_region 3 with fail
  refine named (fun w' => FX w' w1.heap.size 0 0 0 ∧ FX w' w.heap.size 0 0 0 ∧ Below w.heap.size w w' ∧ Below w1.heap.size w1 w') ⟨X1.out, Z2.out, B2.out, D2.out⟩ ?_
  clear X1 Z2 B2 D2
  rintro W ⟨X, Z, BB, DD⟩
  have XX := Lib.hid X
  have ZZ := Lib.hid Z
  have B2 := Lib.hid BB
  have D2 := Lib.hid DD
  clear X Z BB DD
  by_cases h4 : (spAll 32 s).length = 4
  · obtain ⟨t1, ht1⟩ := t_get_some (zs := spAll 32 s) (k := 1) (by omega)
    obtain ⟨t3, ht3⟩ := t_get_some (zs := spAll 32 s) (k := 3) (by omega)
    have y1 := (D2.out.cell (p := ⟨bb, off + 1, none⟩) hbb).trans (HC.out 1 t1 ht1)
    have y3 := HC.out 3 t3 ht3
    have f1 := Lib.hid (show w_ s 1 = t1 by simp [w_, List.getD, ht1])
    have f3 := Lib.hid (show w_ s 3 = t3 by simp [w_, List.getD, ht3])
    have z1 : t1.size ≤ 1048576 := Nat.le_trans (hsz t1 (List.mem_of_getElem? ht1)) hs
    have z3 : t3.size ≤ 1048576 := Nat.le_trans (hsz t3 (List.mem_of_getElem? ht3)) hs
    have HC4 := Lib.hid (show rfC s = rdN t1 by rw [rfC, if_pos h4, f1.out])
    have HP4 := Lib.hid (show spP s = if rdB t3 = true then rdN t3 else -1 by rw [spP, if_pos h4, f3.out])
    have H4 := Lib.hid h4
    have j4 : (((spAll 32 s).length : Int) == 4) = true := by simp; omega
    generalize (spAll 32 s).length = len at *
    have hlen := Lib.hid h4
    subst h4
    clear ht1 ht3 hsz
    go_wp2_with fail
    refine (l01Number_any t1 z1 _).mono ?_
    rintro e w2 ⟨rfl, b2⟩
    have XX := Lib.hid (XX.out.below b2 XX.out.lt)
    have ZZ := Lib.hid (ZZ.out.below b2 ZZ.out.lt)
    have B3 := Lib.hid (B2.out.trans (b2.mono B2.out.size))
    have D3 := Lib.hid (D2.out.trans (b2.mono D2.out.size))
    have y3 := (D3.out.cell (p := ⟨bb, off + 3, none⟩) hbb).trans y3
    clear b2 y1 B2 D2
    go_wp2_with fail
    refine (l01Number_any t3 z3 _).mono ?_
    rintro e w3 ⟨rfl, b3⟩
    have XX := Lib.hid (XX.out.below b3 XX.out.lt)
    have ZZ := Lib.hid (ZZ.out.below b3 ZZ.out.lt)
    have B4 := Lib.hid (B3.out.trans (b3.mono B3.out.size))
    have D4 := Lib.hid (D3.out.trans (b3.mono D3.out.size))
    clear b3 y3 B3 D3
    cases hb : rdB t3
    · have HP := Lib.hid (show spP s = -1 by rw [HP4.out, hb]; rfl)
      have X5 := XX.out
      obtain ⟨c0, c1, c2, cf⟩ := X5
      have g1 := cf 1
      have g2 := cf 2
      have XY := Lib.hid ((XX.out.set2 (rdN t1)).set1 (-1))
      have ZY := Lib.hid ((ZZ.out.other ⟨w1.heap.size, 2, none⟩ (by simp; omega) (.int .i64 (rdN t1))).other ⟨w1.heap.size, 1, none⟩ (by simp; omega) (.int .i64 (-1)))
      have BY := Lib.hid (sub_setCell2 (p := ⟨w1.heap.size, 1, none⟩) (by simp; omega) (sub_setCell2 (p := ⟨w1.heap.size, 2, none⟩) (by simp; omega) B4.out (.int .i64 (rdN t1))) (.int .i64 (-1)))
      have DY := Lib.hid (sub_setCell2 (p := ⟨w1.heap.size, 1, none⟩) (by simp) (sub_setCell2 (p := ⟨w1.heap.size, 2, none⟩) (by simp) D4.out (.int .i64 (rdN t1))) (.int .i64 (-1)))
      clear cf XX ZZ B4 D4
      go_upto_region 10 with fail
      refine named (fun w' => FX w' w1.heap.size 0 (-1) (rdN t1) ∧ FX w' w.heap.size 0 0 0 ∧ Below w.heap.size w w' ∧ Below w1.heap.size w1 w') ⟨XY.out, ZY.out, BY.out, DY.out⟩ ?_
      clear XY ZY BY DY c0 c1 c2 g1 g2
      rintro W3 ⟨X, Z, BB, DD⟩
      have y0 : W3.cell? ⟨bb, off, none⟩ = some (.string t0) := (DD.cell (p := ⟨bb, off + 0, none⟩) hbb).trans x0.out
      have XX := Lib.hid X
      have ZZ := Lib.hid Z
      have B5 := Lib.hid BB
      obtain ⟨c0, c1, c2, cf⟩ := X
      have g0 := cf 0
      clear Z BB DD cf
      by_cases k1 : t0 = (⟨#[116, 97, 107, 101]⟩ : ByteArray)
      · have q1 := litT k1
        have KD := Lib.hid (show kd (w_ s 0) = 1 by rw [e0.out, kd, if_pos k1])
        have XY := Lib.hid (XX.out.set0 1)
        have ZY := Lib.hid (ZZ.out.other ⟨w1.heap.size, 0, none⟩ (by simp; omega) (.int .i64 1))
        have BY := Lib.hid (sub_setCell2 (p := ⟨w1.heap.size, 0, none⟩) (by simp; omega) B5.out (.int .i64 1))
        clear k1 XX ZZ B5
        go_upto_region 23 with fail
        refine named (fun w' => FX w' w1.heap.size 1 (-1) (rdN t1) ∧ FX w' w.heap.size 0 0 0 ∧ Below w.heap.size w w') ⟨XY.out, ZY.out, BY.out⟩ ?_
        clear XY ZY BY c0 c1 c2 g0 y0
        rintro W4 ⟨X, Z, BB⟩
        have ZZ := Lib.hid Z
        have XX := Lib.hid X
        have B6 := Lib.hid BB
        obtain ⟨c0, c1, c2, -⟩ := X
        clear Z BB
        have HO := Lib.hid (show sok s = (okF 1 (-1) (rdN t1) && decide (fcT 1 (-1) (rdN t1) = s)) by rw [sok, KD.out, HP.out, HC4.out])
        cases ho : okF 1 (-1) (rdN t1)
        · have SO := Lib.hid (show sok s = false by rw [HO.out, ho]; rfl)
          go_wp2_with fail
          refine (l11Fact_any _ _ _ _ ho _).mono ?_
          rintro e w6 ⟨rfl, b6⟩
          have Z7 := ZZ.out.below b6 ZZ.out.lt
          have B7 := Lib.hid (B6.out.trans (b6.mono B6.out.size))
          have ZK := Lib.hid Z7
          obtain ⟨a0, a1, a2, af⟩ := Z7
          have h0 := af 0; have h1 := af 1; have h2 := af 2
          clear b6 af
          go_wp2_with fail
          have hX := ((ZK.out.set0 0).set1 0).set2 0
          refine specReadFact_ret (g := w.heap.size) (by rfl) (by rfl) (by rfl) hX ⟨by rw [rfS, SO.out]; rfl, ?_⟩
          repeat (refine sub_setCell2 (by simp) ?_ _)
          exact B7.out
        · go_wp2_with fail
          refine (l11Fact_any _ _ _ _ ho _).mono ?_
          rintro e w6 ⟨rfl, b6⟩
          have Z7 := Lib.hid (ZZ.out.below b6 ZZ.out.lt)
          have X7 := Lib.hid (XX.out.below b6 XX.out.lt)
          have B7 := Lib.hid (B6.out.trans (b6.mono B6.out.size))
          obtain ⟨c0, c1, c2, -⟩ := X7.out
          clear b6
          go_wp2_with fail
          refine (l11Text_any _ _ _ ho _).mono ?_
          rintro e w7 ⟨rfl, b7⟩
          have Z8 := Lib.hid (Z7.out.below b7 Z7.out.lt)
          have X8 := Lib.hid (X7.out.below b7 X7.out.lt)
          have B8 := Lib.hid (B7.out.trans (b7.mono B7.out.size))
          obtain ⟨c0, c1, c2, -⟩ := X8.out
          obtain ⟨a0, a1, a2, af⟩ := Z8.out
          have h0 := af 0; have h1 := af 1; have h2 := af 2
          clear b7 af
          by_cases he : fcT 1 (-1) (rdN t1) = s
          · have SO := Lib.hid (show sok s = true by rw [HO.out, ho, he]; simp)
            rw [he]
            clear he
            go_wp2_with fail
            have hX := ((Z8.out.set0 (1)).set1 (-1)).set2 (rdN t1)
            refine specReadFact_ret (g := w.heap.size) (by rfl) (by rfl) (by rfl) hX ⟨by rw [rfS, SO.out, KD.out, HP.out, HC4.out]; rfl, ?_⟩
            repeat (refine sub_setCell2 (by simp) ?_ _)
            exact B8.out
          · have SO := Lib.hid (show sok s = false by rw [HO.out, ho]; simp [he])
            have qe := toList_ne he
            clear he
            go_wp2_with fail
            have hX := ((Z8.out.set0 0).set1 0).set2 0
            refine specReadFact_ret (g := w.heap.size) (by rfl) (by rfl) (by rfl) hX ⟨by rw [rfS, SO.out]; rfl, ?_⟩
            repeat (refine sub_setCell2 (by simp) ?_ _)
            exact B8.out
      · by_cases k2 : t0 = (⟨#[115, 111, 119]⟩ : ByteArray)
        · have q1 := litF k1
          have q2 := litT k2
          have KD := Lib.hid (show kd (w_ s 0) = 2 by rw [e0.out, kd, if_neg k1, if_pos k2])
          have XY := Lib.hid (XX.out.set0 2)
          have ZY := Lib.hid (ZZ.out.other ⟨w1.heap.size, 0, none⟩ (by simp; omega) (.int .i64 2))
          have BY := Lib.hid (sub_setCell2 (p := ⟨w1.heap.size, 0, none⟩) (by simp; omega) B5.out (.int .i64 2))
          clear k1 k2 XX ZZ B5
          go_upto_region 23 with fail
          refine named (fun w' => FX w' w1.heap.size 2 (-1) (rdN t1) ∧ FX w' w.heap.size 0 0 0 ∧ Below w.heap.size w w') ⟨XY.out, ZY.out, BY.out⟩ ?_
          clear XY ZY BY c0 c1 c2 g0 y0
          rintro W4 ⟨X, Z, BB⟩
          have ZZ := Lib.hid Z
          have XX := Lib.hid X
          have B6 := Lib.hid BB
          obtain ⟨c0, c1, c2, -⟩ := X
          clear Z BB
          have HO := Lib.hid (show sok s = (okF 2 (-1) (rdN t1) && decide (fcT 2 (-1) (rdN t1) = s)) by rw [sok, KD.out, HP.out, HC4.out])
          cases ho : okF 2 (-1) (rdN t1)
          · have SO := Lib.hid (show sok s = false by rw [HO.out, ho]; rfl)
            go_wp2_with fail
            refine (l11Fact_any _ _ _ _ ho _).mono ?_
            rintro e w6 ⟨rfl, b6⟩
            have Z7 := ZZ.out.below b6 ZZ.out.lt
            have B7 := Lib.hid (B6.out.trans (b6.mono B6.out.size))
            have ZK := Lib.hid Z7
            obtain ⟨a0, a1, a2, af⟩ := Z7
            have h0 := af 0; have h1 := af 1; have h2 := af 2
            clear b6 af
            go_wp2_with fail
            have hX := ((ZK.out.set0 0).set1 0).set2 0
            refine specReadFact_ret (g := w.heap.size) (by rfl) (by rfl) (by rfl) hX ⟨by rw [rfS, SO.out]; rfl, ?_⟩
            repeat (refine sub_setCell2 (by simp) ?_ _)
            exact B7.out
          · go_wp2_with fail
            refine (l11Fact_any _ _ _ _ ho _).mono ?_
            rintro e w6 ⟨rfl, b6⟩
            have Z7 := Lib.hid (ZZ.out.below b6 ZZ.out.lt)
            have X7 := Lib.hid (XX.out.below b6 XX.out.lt)
            have B7 := Lib.hid (B6.out.trans (b6.mono B6.out.size))
            obtain ⟨c0, c1, c2, -⟩ := X7.out
            clear b6
            go_wp2_with fail
            refine (l11Text_any _ _ _ ho _).mono ?_
            rintro e w7 ⟨rfl, b7⟩
            have Z8 := Lib.hid (Z7.out.below b7 Z7.out.lt)
            have X8 := Lib.hid (X7.out.below b7 X7.out.lt)
            have B8 := Lib.hid (B7.out.trans (b7.mono B7.out.size))
            obtain ⟨c0, c1, c2, -⟩ := X8.out
            obtain ⟨a0, a1, a2, af⟩ := Z8.out
            have h0 := af 0; have h1 := af 1; have h2 := af 2
            clear b7 af
            by_cases he : fcT 2 (-1) (rdN t1) = s
            · have SO := Lib.hid (show sok s = true by rw [HO.out, ho, he]; simp)
              rw [he]
              clear he
              go_wp2_with fail
              have hX := ((Z8.out.set0 (2)).set1 (-1)).set2 (rdN t1)
              refine specReadFact_ret (g := w.heap.size) (by rfl) (by rfl) (by rfl) hX ⟨by rw [rfS, SO.out, KD.out, HP.out, HC4.out]; rfl, ?_⟩
              repeat (refine sub_setCell2 (by simp) ?_ _)
              exact B8.out
            · have SO := Lib.hid (show sok s = false by rw [HO.out, ho]; simp [he])
              have qe := toList_ne he
              clear he
              go_wp2_with fail
              have hX := ((Z8.out.set0 0).set1 0).set2 0
              refine specReadFact_ret (g := w.heap.size) (by rfl) (by rfl) (by rfl) hX ⟨by rw [rfS, SO.out]; rfl, ?_⟩
              repeat (refine sub_setCell2 (by simp) ?_ _)
              exact B8.out
        · by_cases k3 : t0 = (⟨#[99, 97, 112, 116, 117, 114, 101]⟩ : ByteArray)
          · have q1 := litF k1
            have q2 := litF k2
            have q3 := litT k3
            have KD := Lib.hid (show kd (w_ s 0) = 3 by rw [e0.out, kd, if_neg k1, if_neg k2, if_pos k3])
            have XY := Lib.hid (XX.out.set0 3)
            have ZY := Lib.hid (ZZ.out.other ⟨w1.heap.size, 0, none⟩ (by simp; omega) (.int .i64 3))
            have BY := Lib.hid (sub_setCell2 (p := ⟨w1.heap.size, 0, none⟩) (by simp; omega) B5.out (.int .i64 3))
            clear k1 k2 k3 XX ZZ B5
            go_upto_region 23 with fail
            refine named (fun w' => FX w' w1.heap.size 3 (-1) (rdN t1) ∧ FX w' w.heap.size 0 0 0 ∧ Below w.heap.size w w') ⟨XY.out, ZY.out, BY.out⟩ ?_
            clear XY ZY BY c0 c1 c2 g0 y0
            rintro W4 ⟨X, Z, BB⟩
            have ZZ := Lib.hid Z
            have XX := Lib.hid X
            have B6 := Lib.hid BB
            obtain ⟨c0, c1, c2, -⟩ := X
            clear Z BB
            have HO := Lib.hid (show sok s = (okF 3 (-1) (rdN t1) && decide (fcT 3 (-1) (rdN t1) = s)) by rw [sok, KD.out, HP.out, HC4.out])
            cases ho : okF 3 (-1) (rdN t1)
            · have SO := Lib.hid (show sok s = false by rw [HO.out, ho]; rfl)
              go_wp2_with fail
              refine (l11Fact_any _ _ _ _ ho _).mono ?_
              rintro e w6 ⟨rfl, b6⟩
              have Z7 := ZZ.out.below b6 ZZ.out.lt
              have B7 := Lib.hid (B6.out.trans (b6.mono B6.out.size))
              have ZK := Lib.hid Z7
              obtain ⟨a0, a1, a2, af⟩ := Z7
              have h0 := af 0; have h1 := af 1; have h2 := af 2
              clear b6 af
              go_wp2_with fail
              have hX := ((ZK.out.set0 0).set1 0).set2 0
              refine specReadFact_ret (g := w.heap.size) (by rfl) (by rfl) (by rfl) hX ⟨by rw [rfS, SO.out]; rfl, ?_⟩
              repeat (refine sub_setCell2 (by simp) ?_ _)
              exact B7.out
            · go_wp2_with fail
              refine (l11Fact_any _ _ _ _ ho _).mono ?_
              rintro e w6 ⟨rfl, b6⟩
              have Z7 := Lib.hid (ZZ.out.below b6 ZZ.out.lt)
              have X7 := Lib.hid (XX.out.below b6 XX.out.lt)
              have B7 := Lib.hid (B6.out.trans (b6.mono B6.out.size))
              obtain ⟨c0, c1, c2, -⟩ := X7.out
              clear b6
              go_wp2_with fail
              refine (l11Text_any _ _ _ ho _).mono ?_
              rintro e w7 ⟨rfl, b7⟩
              have Z8 := Lib.hid (Z7.out.below b7 Z7.out.lt)
              have X8 := Lib.hid (X7.out.below b7 X7.out.lt)
              have B8 := Lib.hid (B7.out.trans (b7.mono B7.out.size))
              obtain ⟨c0, c1, c2, -⟩ := X8.out
              obtain ⟨a0, a1, a2, af⟩ := Z8.out
              have h0 := af 0; have h1 := af 1; have h2 := af 2
              clear b7 af
              by_cases he : fcT 3 (-1) (rdN t1) = s
              · have SO := Lib.hid (show sok s = true by rw [HO.out, ho, he]; simp)
                rw [he]
                clear he
                go_wp2_with fail
                have hX := ((Z8.out.set0 (3)).set1 (-1)).set2 (rdN t1)
                refine specReadFact_ret (g := w.heap.size) (by rfl) (by rfl) (by rfl) hX ⟨by rw [rfS, SO.out, KD.out, HP.out, HC4.out]; rfl, ?_⟩
                repeat (refine sub_setCell2 (by simp) ?_ _)
                exact B8.out
              · have SO := Lib.hid (show sok s = false by rw [HO.out, ho]; simp [he])
                have qe := toList_ne he
                clear he
                go_wp2_with fail
                have hX := ((Z8.out.set0 0).set1 0).set2 0
                refine specReadFact_ret (g := w.heap.size) (by rfl) (by rfl) (by rfl) hX ⟨by rw [rfS, SO.out]; rfl, ?_⟩
                repeat (refine sub_setCell2 (by simp) ?_ _)
                exact B8.out
          · by_cases k4 : t0 = (⟨#[115, 112, 97, 114, 101]⟩ : ByteArray)
            · have q1 := litF k1
              have q2 := litF k2
              have q3 := litF k3
              have q4 := litT k4
              have KD := Lib.hid (show kd (w_ s 0) = 4 by rw [e0.out, kd, if_neg k1, if_neg k2, if_neg k3, if_pos k4])
              have XY := Lib.hid (XX.out.set0 4)
              have ZY := Lib.hid (ZZ.out.other ⟨w1.heap.size, 0, none⟩ (by simp; omega) (.int .i64 4))
              have BY := Lib.hid (sub_setCell2 (p := ⟨w1.heap.size, 0, none⟩) (by simp; omega) B5.out (.int .i64 4))
              clear k1 k2 k3 k4 XX ZZ B5
              go_upto_region 23 with fail
              refine named (fun w' => FX w' w1.heap.size 4 (-1) (rdN t1) ∧ FX w' w.heap.size 0 0 0 ∧ Below w.heap.size w w') ⟨XY.out, ZY.out, BY.out⟩ ?_
              clear XY ZY BY c0 c1 c2 g0 y0
              rintro W4 ⟨X, Z, BB⟩
              have ZZ := Lib.hid Z
              have XX := Lib.hid X
              have B6 := Lib.hid BB
              obtain ⟨c0, c1, c2, -⟩ := X
              clear Z BB
              have HO := Lib.hid (show sok s = (okF 4 (-1) (rdN t1) && decide (fcT 4 (-1) (rdN t1) = s)) by rw [sok, KD.out, HP.out, HC4.out])
              cases ho : okF 4 (-1) (rdN t1)
              · have SO := Lib.hid (show sok s = false by rw [HO.out, ho]; rfl)
                go_wp2_with fail
                refine (l11Fact_any _ _ _ _ ho _).mono ?_
                rintro e w6 ⟨rfl, b6⟩
                have Z7 := ZZ.out.below b6 ZZ.out.lt
                have B7 := Lib.hid (B6.out.trans (b6.mono B6.out.size))
                have ZK := Lib.hid Z7
                obtain ⟨a0, a1, a2, af⟩ := Z7
                have h0 := af 0; have h1 := af 1; have h2 := af 2
                clear b6 af
                go_wp2_with fail
                have hX := ((ZK.out.set0 0).set1 0).set2 0
                refine specReadFact_ret (g := w.heap.size) (by rfl) (by rfl) (by rfl) hX ⟨by rw [rfS, SO.out]; rfl, ?_⟩
                repeat (refine sub_setCell2 (by simp) ?_ _)
                exact B7.out
              · go_wp2_with fail
                refine (l11Fact_any _ _ _ _ ho _).mono ?_
                rintro e w6 ⟨rfl, b6⟩
                have Z7 := Lib.hid (ZZ.out.below b6 ZZ.out.lt)
                have X7 := Lib.hid (XX.out.below b6 XX.out.lt)
                have B7 := Lib.hid (B6.out.trans (b6.mono B6.out.size))
                obtain ⟨c0, c1, c2, -⟩ := X7.out
                clear b6
                go_wp2_with fail
                refine (l11Text_any _ _ _ ho _).mono ?_
                rintro e w7 ⟨rfl, b7⟩
                have Z8 := Lib.hid (Z7.out.below b7 Z7.out.lt)
                have X8 := Lib.hid (X7.out.below b7 X7.out.lt)
                have B8 := Lib.hid (B7.out.trans (b7.mono B7.out.size))
                obtain ⟨c0, c1, c2, -⟩ := X8.out
                obtain ⟨a0, a1, a2, af⟩ := Z8.out
                have h0 := af 0; have h1 := af 1; have h2 := af 2
                clear b7 af
                by_cases he : fcT 4 (-1) (rdN t1) = s
                · have SO := Lib.hid (show sok s = true by rw [HO.out, ho, he]; simp)
                  rw [he]
                  clear he
                  go_wp2_with fail
                  have hX := ((Z8.out.set0 (4)).set1 (-1)).set2 (rdN t1)
                  refine specReadFact_ret (g := w.heap.size) (by rfl) (by rfl) (by rfl) hX ⟨by rw [rfS, SO.out, KD.out, HP.out, HC4.out]; rfl, ?_⟩
                  repeat (refine sub_setCell2 (by simp) ?_ _)
                  exact B8.out
                · have SO := Lib.hid (show sok s = false by rw [HO.out, ho]; simp [he])
                  have qe := toList_ne he
                  clear he
                  go_wp2_with fail
                  have hX := ((Z8.out.set0 0).set1 0).set2 0
                  refine specReadFact_ret (g := w.heap.size) (by rfl) (by rfl) (by rfl) hX ⟨by rw [rfS, SO.out]; rfl, ?_⟩
                  repeat (refine sub_setCell2 (by simp) ?_ _)
                  exact B8.out
            · by_cases k5 : t0 = (⟨#[97, 103, 97, 105, 110]⟩ : ByteArray)
              · have q1 := litF k1
                have q2 := litF k2
                have q3 := litF k3
                have q4 := litF k4
                have q5 := litT k5
                have KD := Lib.hid (show kd (w_ s 0) = 5 by rw [e0.out, kd, if_neg k1, if_neg k2, if_neg k3, if_neg k4, if_pos k5])
                have XY := Lib.hid (XX.out.set0 5)
                have ZY := Lib.hid (ZZ.out.other ⟨w1.heap.size, 0, none⟩ (by simp; omega) (.int .i64 5))
                have BY := Lib.hid (sub_setCell2 (p := ⟨w1.heap.size, 0, none⟩) (by simp; omega) B5.out (.int .i64 5))
                clear k1 k2 k3 k4 k5 XX ZZ B5
                go_upto_region 23 with fail
                refine named (fun w' => FX w' w1.heap.size 5 (-1) (rdN t1) ∧ FX w' w.heap.size 0 0 0 ∧ Below w.heap.size w w') ⟨XY.out, ZY.out, BY.out⟩ ?_
                clear XY ZY BY c0 c1 c2 g0 y0
                rintro W4 ⟨X, Z, BB⟩
                have ZZ := Lib.hid Z
                have XX := Lib.hid X
                have B6 := Lib.hid BB
                obtain ⟨c0, c1, c2, -⟩ := X
                clear Z BB
                have HO := Lib.hid (show sok s = (okF 5 (-1) (rdN t1) && decide (fcT 5 (-1) (rdN t1) = s)) by rw [sok, KD.out, HP.out, HC4.out])
                cases ho : okF 5 (-1) (rdN t1)
                · have SO := Lib.hid (show sok s = false by rw [HO.out, ho]; rfl)
                  go_wp2_with fail
                  refine (l11Fact_any _ _ _ _ ho _).mono ?_
                  rintro e w6 ⟨rfl, b6⟩
                  have Z7 := ZZ.out.below b6 ZZ.out.lt
                  have B7 := Lib.hid (B6.out.trans (b6.mono B6.out.size))
                  have ZK := Lib.hid Z7
                  obtain ⟨a0, a1, a2, af⟩ := Z7
                  have h0 := af 0; have h1 := af 1; have h2 := af 2
                  clear b6 af
                  go_wp2_with fail
                  have hX := ((ZK.out.set0 0).set1 0).set2 0
                  refine specReadFact_ret (g := w.heap.size) (by rfl) (by rfl) (by rfl) hX ⟨by rw [rfS, SO.out]; rfl, ?_⟩
                  repeat (refine sub_setCell2 (by simp) ?_ _)
                  exact B7.out
                · go_wp2_with fail
                  refine (l11Fact_any _ _ _ _ ho _).mono ?_
                  rintro e w6 ⟨rfl, b6⟩
                  have Z7 := Lib.hid (ZZ.out.below b6 ZZ.out.lt)
                  have X7 := Lib.hid (XX.out.below b6 XX.out.lt)
                  have B7 := Lib.hid (B6.out.trans (b6.mono B6.out.size))
                  obtain ⟨c0, c1, c2, -⟩ := X7.out
                  clear b6
                  go_wp2_with fail
                  refine (l11Text_any _ _ _ ho _).mono ?_
                  rintro e w7 ⟨rfl, b7⟩
                  have Z8 := Lib.hid (Z7.out.below b7 Z7.out.lt)
                  have X8 := Lib.hid (X7.out.below b7 X7.out.lt)
                  have B8 := Lib.hid (B7.out.trans (b7.mono B7.out.size))
                  obtain ⟨c0, c1, c2, -⟩ := X8.out
                  obtain ⟨a0, a1, a2, af⟩ := Z8.out
                  have h0 := af 0; have h1 := af 1; have h2 := af 2
                  clear b7 af
                  by_cases he : fcT 5 (-1) (rdN t1) = s
                  · have SO := Lib.hid (show sok s = true by rw [HO.out, ho, he]; simp)
                    rw [he]
                    clear he
                    go_wp2_with fail
                    have hX := ((Z8.out.set0 (5)).set1 (-1)).set2 (rdN t1)
                    refine specReadFact_ret (g := w.heap.size) (by rfl) (by rfl) (by rfl) hX ⟨by rw [rfS, SO.out, KD.out, HP.out, HC4.out]; rfl, ?_⟩
                    repeat (refine sub_setCell2 (by simp) ?_ _)
                    exact B8.out
                  · have SO := Lib.hid (show sok s = false by rw [HO.out, ho]; simp [he])
                    have qe := toList_ne he
                    clear he
                    go_wp2_with fail
                    have hX := ((Z8.out.set0 0).set1 0).set2 0
                    refine specReadFact_ret (g := w.heap.size) (by rfl) (by rfl) (by rfl) hX ⟨by rw [rfS, SO.out]; rfl, ?_⟩
                    repeat (refine sub_setCell2 (by simp) ?_ _)
                    exact B8.out
              · by_cases k6 : t0 = (⟨#[116, 117, 114, 110]⟩ : ByteArray)
                · have q1 := litF k1
                  have q2 := litF k2
                  have q3 := litF k3
                  have q4 := litF k4
                  have q5 := litF k5
                  have q6 := litT k6
                  have KD := Lib.hid (show kd (w_ s 0) = 6 by rw [e0.out, kd, if_neg k1, if_neg k2, if_neg k3, if_neg k4, if_neg k5, if_pos k6])
                  have XY := Lib.hid (XX.out.set0 6)
                  have ZY := Lib.hid (ZZ.out.other ⟨w1.heap.size, 0, none⟩ (by simp; omega) (.int .i64 6))
                  have BY := Lib.hid (sub_setCell2 (p := ⟨w1.heap.size, 0, none⟩) (by simp; omega) B5.out (.int .i64 6))
                  clear k1 k2 k3 k4 k5 k6 XX ZZ B5
                  go_upto_region 23 with fail
                  refine named (fun w' => FX w' w1.heap.size 6 (-1) (rdN t1) ∧ FX w' w.heap.size 0 0 0 ∧ Below w.heap.size w w') ⟨XY.out, ZY.out, BY.out⟩ ?_
                  clear XY ZY BY c0 c1 c2 g0 y0
                  rintro W4 ⟨X, Z, BB⟩
                  have ZZ := Lib.hid Z
                  have XX := Lib.hid X
                  have B6 := Lib.hid BB
                  obtain ⟨c0, c1, c2, -⟩ := X
                  clear Z BB
                  have HO := Lib.hid (show sok s = (okF 6 (-1) (rdN t1) && decide (fcT 6 (-1) (rdN t1) = s)) by rw [sok, KD.out, HP.out, HC4.out])
                  cases ho : okF 6 (-1) (rdN t1)
                  · have SO := Lib.hid (show sok s = false by rw [HO.out, ho]; rfl)
                    go_wp2_with fail
                    refine (l11Fact_any _ _ _ _ ho _).mono ?_
                    rintro e w6 ⟨rfl, b6⟩
                    have Z7 := ZZ.out.below b6 ZZ.out.lt
                    have B7 := Lib.hid (B6.out.trans (b6.mono B6.out.size))
                    have ZK := Lib.hid Z7
                    obtain ⟨a0, a1, a2, af⟩ := Z7
                    have h0 := af 0; have h1 := af 1; have h2 := af 2
                    clear b6 af
                    go_wp2_with fail
                    have hX := ((ZK.out.set0 0).set1 0).set2 0
                    refine specReadFact_ret (g := w.heap.size) (by rfl) (by rfl) (by rfl) hX ⟨by rw [rfS, SO.out]; rfl, ?_⟩
                    repeat (refine sub_setCell2 (by simp) ?_ _)
                    exact B7.out
                  · go_wp2_with fail
                    refine (l11Fact_any _ _ _ _ ho _).mono ?_
                    rintro e w6 ⟨rfl, b6⟩
                    have Z7 := Lib.hid (ZZ.out.below b6 ZZ.out.lt)
                    have X7 := Lib.hid (XX.out.below b6 XX.out.lt)
                    have B7 := Lib.hid (B6.out.trans (b6.mono B6.out.size))
                    obtain ⟨c0, c1, c2, -⟩ := X7.out
                    clear b6
                    go_wp2_with fail
                    refine (l11Text_any _ _ _ ho _).mono ?_
                    rintro e w7 ⟨rfl, b7⟩
                    have Z8 := Lib.hid (Z7.out.below b7 Z7.out.lt)
                    have X8 := Lib.hid (X7.out.below b7 X7.out.lt)
                    have B8 := Lib.hid (B7.out.trans (b7.mono B7.out.size))
                    obtain ⟨c0, c1, c2, -⟩ := X8.out
                    obtain ⟨a0, a1, a2, af⟩ := Z8.out
                    have h0 := af 0; have h1 := af 1; have h2 := af 2
                    clear b7 af
                    by_cases he : fcT 6 (-1) (rdN t1) = s
                    · have SO := Lib.hid (show sok s = true by rw [HO.out, ho, he]; simp)
                      rw [he]
                      clear he
                      go_wp2_with fail
                      have hX := ((Z8.out.set0 (6)).set1 (-1)).set2 (rdN t1)
                      refine specReadFact_ret (g := w.heap.size) (by rfl) (by rfl) (by rfl) hX ⟨by rw [rfS, SO.out, KD.out, HP.out, HC4.out]; rfl, ?_⟩
                      repeat (refine sub_setCell2 (by simp) ?_ _)
                      exact B8.out
                    · have SO := Lib.hid (show sok s = false by rw [HO.out, ho]; simp [he])
                      have qe := toList_ne he
                      clear he
                      go_wp2_with fail
                      have hX := ((Z8.out.set0 0).set1 0).set2 0
                      refine specReadFact_ret (g := w.heap.size) (by rfl) (by rfl) (by rfl) hX ⟨by rw [rfS, SO.out]; rfl, ?_⟩
                      repeat (refine sub_setCell2 (by simp) ?_ _)
                      exact B8.out
                · have q1 := litF k1
                  have q2 := litF k2
                  have q3 := litF k3
                  have q4 := litF k4
                  have q5 := litF k5
                  have q6 := litF k6
                  have KD := Lib.hid (show kd (w_ s 0) = 0 by rw [e0.out, kd, if_neg k1, if_neg k2, if_neg k3, if_neg k4, if_neg k5, if_neg k6])
                  have XY := XX
                  have ZY := ZZ
                  have BY := B5
                  clear k1 k2 k3 k4 k5 k6 XX ZZ B5
                  go_upto_region 23 with fail
                  refine named (fun w' => FX w' w1.heap.size 0 (-1) (rdN t1) ∧ FX w' w.heap.size 0 0 0 ∧ Below w.heap.size w w') ⟨XY.out, ZY.out, BY.out⟩ ?_
                  clear XY ZY BY c0 c1 c2 g0 y0
                  rintro W4 ⟨X, Z, BB⟩
                  have ZZ := Lib.hid Z
                  have XX := Lib.hid X
                  have B6 := Lib.hid BB
                  obtain ⟨c0, c1, c2, -⟩ := X
                  clear Z BB
                  have HO := Lib.hid (show sok s = (okF 0 (-1) (rdN t1) && decide (fcT 0 (-1) (rdN t1) = s)) by rw [sok, KD.out, HP.out, HC4.out])
                  cases ho : okF 0 (-1) (rdN t1)
                  · have SO := Lib.hid (show sok s = false by rw [HO.out, ho]; rfl)
                    go_wp2_with fail
                    refine (l11Fact_any _ _ _ _ ho _).mono ?_
                    rintro e w6 ⟨rfl, b6⟩
                    have Z7 := ZZ.out.below b6 ZZ.out.lt
                    have B7 := Lib.hid (B6.out.trans (b6.mono B6.out.size))
                    have ZK := Lib.hid Z7
                    obtain ⟨a0, a1, a2, af⟩ := Z7
                    have h0 := af 0; have h1 := af 1; have h2 := af 2
                    clear b6 af
                    go_wp2_with fail
                    have hX := ((ZK.out.set0 0).set1 0).set2 0
                    refine specReadFact_ret (g := w.heap.size) (by rfl) (by rfl) (by rfl) hX ⟨by rw [rfS, SO.out]; rfl, ?_⟩
                    repeat (refine sub_setCell2 (by simp) ?_ _)
                    exact B7.out
                  · go_wp2_with fail
                    refine (l11Fact_any _ _ _ _ ho _).mono ?_
                    rintro e w6 ⟨rfl, b6⟩
                    have Z7 := Lib.hid (ZZ.out.below b6 ZZ.out.lt)
                    have X7 := Lib.hid (XX.out.below b6 XX.out.lt)
                    have B7 := Lib.hid (B6.out.trans (b6.mono B6.out.size))
                    obtain ⟨c0, c1, c2, -⟩ := X7.out
                    clear b6
                    go_wp2_with fail
                    refine (l11Text_any _ _ _ ho _).mono ?_
                    rintro e w7 ⟨rfl, b7⟩
                    have Z8 := Lib.hid (Z7.out.below b7 Z7.out.lt)
                    have X8 := Lib.hid (X7.out.below b7 X7.out.lt)
                    have B8 := Lib.hid (B7.out.trans (b7.mono B7.out.size))
                    obtain ⟨c0, c1, c2, -⟩ := X8.out
                    obtain ⟨a0, a1, a2, af⟩ := Z8.out
                    have h0 := af 0; have h1 := af 1; have h2 := af 2
                    clear b7 af
                    by_cases he : fcT 0 (-1) (rdN t1) = s
                    · have SO := Lib.hid (show sok s = true by rw [HO.out, ho, he]; simp)
                      rw [he]
                      clear he
                      go_wp2_with fail
                      have hX := ((Z8.out.set0 (0)).set1 (-1)).set2 (rdN t1)
                      refine specReadFact_ret (g := w.heap.size) (by rfl) (by rfl) (by rfl) hX ⟨by rw [rfS, SO.out, KD.out, HP.out, HC4.out]; rfl, ?_⟩
                      repeat (refine sub_setCell2 (by simp) ?_ _)
                      exact B8.out
                    · have SO := Lib.hid (show sok s = false by rw [HO.out, ho]; simp [he])
                      have qe := toList_ne he
                      clear he
                      go_wp2_with fail
                      have hX := ((Z8.out.set0 0).set1 0).set2 0
                      refine specReadFact_ret (g := w.heap.size) (by rfl) (by rfl) (by rfl) hX ⟨by rw [rfS, SO.out]; rfl, ?_⟩
                      repeat (refine sub_setCell2 (by simp) ?_ _)
                      exact B8.out
    · have HP := Lib.hid (show spP s = rdN t3 by rw [HP4.out, hb]; rfl)
      have X5 := XX.out
      obtain ⟨c0, c1, c2, cf⟩ := X5
      have g1 := cf 1
      have g2 := cf 2
      have XY := Lib.hid ((XX.out.set2 (rdN t1)).set1 (rdN t3))
      have ZY := Lib.hid ((ZZ.out.other ⟨w1.heap.size, 2, none⟩ (by simp; omega) (.int .i64 (rdN t1))).other ⟨w1.heap.size, 1, none⟩ (by simp; omega) (.int .i64 (rdN t3)))
      have BY := Lib.hid (sub_setCell2 (p := ⟨w1.heap.size, 1, none⟩) (by simp; omega) (sub_setCell2 (p := ⟨w1.heap.size, 2, none⟩) (by simp; omega) B4.out (.int .i64 (rdN t1))) (.int .i64 (rdN t3)))
      have DY := Lib.hid (sub_setCell2 (p := ⟨w1.heap.size, 1, none⟩) (by simp) (sub_setCell2 (p := ⟨w1.heap.size, 2, none⟩) (by simp) D4.out (.int .i64 (rdN t1))) (.int .i64 (rdN t3)))
      clear cf XX ZZ B4 D4
      go_upto_region 10 with fail
      refine named (fun w' => FX w' w1.heap.size 0 (rdN t3) (rdN t1) ∧ FX w' w.heap.size 0 0 0 ∧ Below w.heap.size w w' ∧ Below w1.heap.size w1 w') ⟨XY.out, ZY.out, BY.out, DY.out⟩ ?_
      clear XY ZY BY DY c0 c1 c2 g1 g2
      rintro W3 ⟨X, Z, BB, DD⟩
      have y0 : W3.cell? ⟨bb, off, none⟩ = some (.string t0) := (DD.cell (p := ⟨bb, off + 0, none⟩) hbb).trans x0.out
      have XX := Lib.hid X
      have ZZ := Lib.hid Z
      have B5 := Lib.hid BB
      obtain ⟨c0, c1, c2, cf⟩ := X
      have g0 := cf 0
      clear Z BB DD cf
      by_cases k1 : t0 = (⟨#[116, 97, 107, 101]⟩ : ByteArray)
      · have q1 := litT k1
        have KD := Lib.hid (show kd (w_ s 0) = 1 by rw [e0.out, kd, if_pos k1])
        have XY := Lib.hid (XX.out.set0 1)
        have ZY := Lib.hid (ZZ.out.other ⟨w1.heap.size, 0, none⟩ (by simp; omega) (.int .i64 1))
        have BY := Lib.hid (sub_setCell2 (p := ⟨w1.heap.size, 0, none⟩) (by simp; omega) B5.out (.int .i64 1))
        clear k1 XX ZZ B5
        go_upto_region 23 with fail
        refine named (fun w' => FX w' w1.heap.size 1 (rdN t3) (rdN t1) ∧ FX w' w.heap.size 0 0 0 ∧ Below w.heap.size w w') ⟨XY.out, ZY.out, BY.out⟩ ?_
        clear XY ZY BY c0 c1 c2 g0 y0
        rintro W4 ⟨X, Z, BB⟩
        have ZZ := Lib.hid Z
        have XX := Lib.hid X
        have B6 := Lib.hid BB
        obtain ⟨c0, c1, c2, -⟩ := X
        clear Z BB
        have HO := Lib.hid (show sok s = (okF 1 (rdN t3) (rdN t1) && decide (fcT 1 (rdN t3) (rdN t1) = s)) by rw [sok, KD.out, HP.out, HC4.out])
        cases ho : okF 1 (rdN t3) (rdN t1)
        · have SO := Lib.hid (show sok s = false by rw [HO.out, ho]; rfl)
          go_wp2_with fail
          refine (l11Fact_any _ _ _ _ ho _).mono ?_
          rintro e w6 ⟨rfl, b6⟩
          have Z7 := ZZ.out.below b6 ZZ.out.lt
          have B7 := Lib.hid (B6.out.trans (b6.mono B6.out.size))
          have ZK := Lib.hid Z7
          obtain ⟨a0, a1, a2, af⟩ := Z7
          have h0 := af 0; have h1 := af 1; have h2 := af 2
          clear b6 af
          go_wp2_with fail
          have hX := ((ZK.out.set0 0).set1 0).set2 0
          refine specReadFact_ret (g := w.heap.size) (by rfl) (by rfl) (by rfl) hX ⟨by rw [rfS, SO.out]; rfl, ?_⟩
          repeat (refine sub_setCell2 (by simp) ?_ _)
          exact B7.out
        · go_wp2_with fail
          refine (l11Fact_any _ _ _ _ ho _).mono ?_
          rintro e w6 ⟨rfl, b6⟩
          have Z7 := Lib.hid (ZZ.out.below b6 ZZ.out.lt)
          have X7 := Lib.hid (XX.out.below b6 XX.out.lt)
          have B7 := Lib.hid (B6.out.trans (b6.mono B6.out.size))
          obtain ⟨c0, c1, c2, -⟩ := X7.out
          clear b6
          go_wp2_with fail
          refine (l11Text_any _ _ _ ho _).mono ?_
          rintro e w7 ⟨rfl, b7⟩
          have Z8 := Lib.hid (Z7.out.below b7 Z7.out.lt)
          have X8 := Lib.hid (X7.out.below b7 X7.out.lt)
          have B8 := Lib.hid (B7.out.trans (b7.mono B7.out.size))
          obtain ⟨c0, c1, c2, -⟩ := X8.out
          obtain ⟨a0, a1, a2, af⟩ := Z8.out
          have h0 := af 0; have h1 := af 1; have h2 := af 2
          clear b7 af
          by_cases he : fcT 1 (rdN t3) (rdN t1) = s
          · have SO := Lib.hid (show sok s = true by rw [HO.out, ho, he]; simp)
            rw [he]
            clear he
            go_wp2_with fail
            have hX := ((Z8.out.set0 (1)).set1 (rdN t3)).set2 (rdN t1)
            refine specReadFact_ret (g := w.heap.size) (by rfl) (by rfl) (by rfl) hX ⟨by rw [rfS, SO.out, KD.out, HP.out, HC4.out]; rfl, ?_⟩
            repeat (refine sub_setCell2 (by simp) ?_ _)
            exact B8.out
          · have SO := Lib.hid (show sok s = false by rw [HO.out, ho]; simp [he])
            have qe := toList_ne he
            clear he
            go_wp2_with fail
            have hX := ((Z8.out.set0 0).set1 0).set2 0
            refine specReadFact_ret (g := w.heap.size) (by rfl) (by rfl) (by rfl) hX ⟨by rw [rfS, SO.out]; rfl, ?_⟩
            repeat (refine sub_setCell2 (by simp) ?_ _)
            exact B8.out
      · by_cases k2 : t0 = (⟨#[115, 111, 119]⟩ : ByteArray)
        · have q1 := litF k1
          have q2 := litT k2
          have KD := Lib.hid (show kd (w_ s 0) = 2 by rw [e0.out, kd, if_neg k1, if_pos k2])
          have XY := Lib.hid (XX.out.set0 2)
          have ZY := Lib.hid (ZZ.out.other ⟨w1.heap.size, 0, none⟩ (by simp; omega) (.int .i64 2))
          have BY := Lib.hid (sub_setCell2 (p := ⟨w1.heap.size, 0, none⟩) (by simp; omega) B5.out (.int .i64 2))
          clear k1 k2 XX ZZ B5
          go_upto_region 23 with fail
          refine named (fun w' => FX w' w1.heap.size 2 (rdN t3) (rdN t1) ∧ FX w' w.heap.size 0 0 0 ∧ Below w.heap.size w w') ⟨XY.out, ZY.out, BY.out⟩ ?_
          clear XY ZY BY c0 c1 c2 g0 y0
          rintro W4 ⟨X, Z, BB⟩
          have ZZ := Lib.hid Z
          have XX := Lib.hid X
          have B6 := Lib.hid BB
          obtain ⟨c0, c1, c2, -⟩ := X
          clear Z BB
          have HO := Lib.hid (show sok s = (okF 2 (rdN t3) (rdN t1) && decide (fcT 2 (rdN t3) (rdN t1) = s)) by rw [sok, KD.out, HP.out, HC4.out])
          cases ho : okF 2 (rdN t3) (rdN t1)
          · have SO := Lib.hid (show sok s = false by rw [HO.out, ho]; rfl)
            go_wp2_with fail
            refine (l11Fact_any _ _ _ _ ho _).mono ?_
            rintro e w6 ⟨rfl, b6⟩
            have Z7 := ZZ.out.below b6 ZZ.out.lt
            have B7 := Lib.hid (B6.out.trans (b6.mono B6.out.size))
            have ZK := Lib.hid Z7
            obtain ⟨a0, a1, a2, af⟩ := Z7
            have h0 := af 0; have h1 := af 1; have h2 := af 2
            clear b6 af
            go_wp2_with fail
            have hX := ((ZK.out.set0 0).set1 0).set2 0
            refine specReadFact_ret (g := w.heap.size) (by rfl) (by rfl) (by rfl) hX ⟨by rw [rfS, SO.out]; rfl, ?_⟩
            repeat (refine sub_setCell2 (by simp) ?_ _)
            exact B7.out
          · go_wp2_with fail
            refine (l11Fact_any _ _ _ _ ho _).mono ?_
            rintro e w6 ⟨rfl, b6⟩
            have Z7 := Lib.hid (ZZ.out.below b6 ZZ.out.lt)
            have X7 := Lib.hid (XX.out.below b6 XX.out.lt)
            have B7 := Lib.hid (B6.out.trans (b6.mono B6.out.size))
            obtain ⟨c0, c1, c2, -⟩ := X7.out
            clear b6
            go_wp2_with fail
            refine (l11Text_any _ _ _ ho _).mono ?_
            rintro e w7 ⟨rfl, b7⟩
            have Z8 := Lib.hid (Z7.out.below b7 Z7.out.lt)
            have X8 := Lib.hid (X7.out.below b7 X7.out.lt)
            have B8 := Lib.hid (B7.out.trans (b7.mono B7.out.size))
            obtain ⟨c0, c1, c2, -⟩ := X8.out
            obtain ⟨a0, a1, a2, af⟩ := Z8.out
            have h0 := af 0; have h1 := af 1; have h2 := af 2
            clear b7 af
            by_cases he : fcT 2 (rdN t3) (rdN t1) = s
            · have SO := Lib.hid (show sok s = true by rw [HO.out, ho, he]; simp)
              rw [he]
              clear he
              go_wp2_with fail
              have hX := ((Z8.out.set0 (2)).set1 (rdN t3)).set2 (rdN t1)
              refine specReadFact_ret (g := w.heap.size) (by rfl) (by rfl) (by rfl) hX ⟨by rw [rfS, SO.out, KD.out, HP.out, HC4.out]; rfl, ?_⟩
              repeat (refine sub_setCell2 (by simp) ?_ _)
              exact B8.out
            · have SO := Lib.hid (show sok s = false by rw [HO.out, ho]; simp [he])
              have qe := toList_ne he
              clear he
              go_wp2_with fail
              have hX := ((Z8.out.set0 0).set1 0).set2 0
              refine specReadFact_ret (g := w.heap.size) (by rfl) (by rfl) (by rfl) hX ⟨by rw [rfS, SO.out]; rfl, ?_⟩
              repeat (refine sub_setCell2 (by simp) ?_ _)
              exact B8.out
        · by_cases k3 : t0 = (⟨#[99, 97, 112, 116, 117, 114, 101]⟩ : ByteArray)
          · have q1 := litF k1
            have q2 := litF k2
            have q3 := litT k3
            have KD := Lib.hid (show kd (w_ s 0) = 3 by rw [e0.out, kd, if_neg k1, if_neg k2, if_pos k3])
            have XY := Lib.hid (XX.out.set0 3)
            have ZY := Lib.hid (ZZ.out.other ⟨w1.heap.size, 0, none⟩ (by simp; omega) (.int .i64 3))
            have BY := Lib.hid (sub_setCell2 (p := ⟨w1.heap.size, 0, none⟩) (by simp; omega) B5.out (.int .i64 3))
            clear k1 k2 k3 XX ZZ B5
            go_upto_region 23 with fail
            refine named (fun w' => FX w' w1.heap.size 3 (rdN t3) (rdN t1) ∧ FX w' w.heap.size 0 0 0 ∧ Below w.heap.size w w') ⟨XY.out, ZY.out, BY.out⟩ ?_
            clear XY ZY BY c0 c1 c2 g0 y0
            rintro W4 ⟨X, Z, BB⟩
            have ZZ := Lib.hid Z
            have XX := Lib.hid X
            have B6 := Lib.hid BB
            obtain ⟨c0, c1, c2, -⟩ := X
            clear Z BB
            have HO := Lib.hid (show sok s = (okF 3 (rdN t3) (rdN t1) && decide (fcT 3 (rdN t3) (rdN t1) = s)) by rw [sok, KD.out, HP.out, HC4.out])
            cases ho : okF 3 (rdN t3) (rdN t1)
            · have SO := Lib.hid (show sok s = false by rw [HO.out, ho]; rfl)
              go_wp2_with fail
              refine (l11Fact_any _ _ _ _ ho _).mono ?_
              rintro e w6 ⟨rfl, b6⟩
              have Z7 := ZZ.out.below b6 ZZ.out.lt
              have B7 := Lib.hid (B6.out.trans (b6.mono B6.out.size))
              have ZK := Lib.hid Z7
              obtain ⟨a0, a1, a2, af⟩ := Z7
              have h0 := af 0; have h1 := af 1; have h2 := af 2
              clear b6 af
              go_wp2_with fail
              have hX := ((ZK.out.set0 0).set1 0).set2 0
              refine specReadFact_ret (g := w.heap.size) (by rfl) (by rfl) (by rfl) hX ⟨by rw [rfS, SO.out]; rfl, ?_⟩
              repeat (refine sub_setCell2 (by simp) ?_ _)
              exact B7.out
            · go_wp2_with fail
              refine (l11Fact_any _ _ _ _ ho _).mono ?_
              rintro e w6 ⟨rfl, b6⟩
              have Z7 := Lib.hid (ZZ.out.below b6 ZZ.out.lt)
              have X7 := Lib.hid (XX.out.below b6 XX.out.lt)
              have B7 := Lib.hid (B6.out.trans (b6.mono B6.out.size))
              obtain ⟨c0, c1, c2, -⟩ := X7.out
              clear b6
              go_wp2_with fail
              refine (l11Text_any _ _ _ ho _).mono ?_
              rintro e w7 ⟨rfl, b7⟩
              have Z8 := Lib.hid (Z7.out.below b7 Z7.out.lt)
              have X8 := Lib.hid (X7.out.below b7 X7.out.lt)
              have B8 := Lib.hid (B7.out.trans (b7.mono B7.out.size))
              obtain ⟨c0, c1, c2, -⟩ := X8.out
              obtain ⟨a0, a1, a2, af⟩ := Z8.out
              have h0 := af 0; have h1 := af 1; have h2 := af 2
              clear b7 af
              by_cases he : fcT 3 (rdN t3) (rdN t1) = s
              · have SO := Lib.hid (show sok s = true by rw [HO.out, ho, he]; simp)
                rw [he]
                clear he
                go_wp2_with fail
                have hX := ((Z8.out.set0 (3)).set1 (rdN t3)).set2 (rdN t1)
                refine specReadFact_ret (g := w.heap.size) (by rfl) (by rfl) (by rfl) hX ⟨by rw [rfS, SO.out, KD.out, HP.out, HC4.out]; rfl, ?_⟩
                repeat (refine sub_setCell2 (by simp) ?_ _)
                exact B8.out
              · have SO := Lib.hid (show sok s = false by rw [HO.out, ho]; simp [he])
                have qe := toList_ne he
                clear he
                go_wp2_with fail
                have hX := ((Z8.out.set0 0).set1 0).set2 0
                refine specReadFact_ret (g := w.heap.size) (by rfl) (by rfl) (by rfl) hX ⟨by rw [rfS, SO.out]; rfl, ?_⟩
                repeat (refine sub_setCell2 (by simp) ?_ _)
                exact B8.out
          · by_cases k4 : t0 = (⟨#[115, 112, 97, 114, 101]⟩ : ByteArray)
            · have q1 := litF k1
              have q2 := litF k2
              have q3 := litF k3
              have q4 := litT k4
              have KD := Lib.hid (show kd (w_ s 0) = 4 by rw [e0.out, kd, if_neg k1, if_neg k2, if_neg k3, if_pos k4])
              have XY := Lib.hid (XX.out.set0 4)
              have ZY := Lib.hid (ZZ.out.other ⟨w1.heap.size, 0, none⟩ (by simp; omega) (.int .i64 4))
              have BY := Lib.hid (sub_setCell2 (p := ⟨w1.heap.size, 0, none⟩) (by simp; omega) B5.out (.int .i64 4))
              clear k1 k2 k3 k4 XX ZZ B5
              go_upto_region 23 with fail
              refine named (fun w' => FX w' w1.heap.size 4 (rdN t3) (rdN t1) ∧ FX w' w.heap.size 0 0 0 ∧ Below w.heap.size w w') ⟨XY.out, ZY.out, BY.out⟩ ?_
              clear XY ZY BY c0 c1 c2 g0 y0
              rintro W4 ⟨X, Z, BB⟩
              have ZZ := Lib.hid Z
              have XX := Lib.hid X
              have B6 := Lib.hid BB
              obtain ⟨c0, c1, c2, -⟩ := X
              clear Z BB
              have HO := Lib.hid (show sok s = (okF 4 (rdN t3) (rdN t1) && decide (fcT 4 (rdN t3) (rdN t1) = s)) by rw [sok, KD.out, HP.out, HC4.out])
              cases ho : okF 4 (rdN t3) (rdN t1)
              · have SO := Lib.hid (show sok s = false by rw [HO.out, ho]; rfl)
                go_wp2_with fail
                refine (l11Fact_any _ _ _ _ ho _).mono ?_
                rintro e w6 ⟨rfl, b6⟩
                have Z7 := ZZ.out.below b6 ZZ.out.lt
                have B7 := Lib.hid (B6.out.trans (b6.mono B6.out.size))
                have ZK := Lib.hid Z7
                obtain ⟨a0, a1, a2, af⟩ := Z7
                have h0 := af 0; have h1 := af 1; have h2 := af 2
                clear b6 af
                go_wp2_with fail
                have hX := ((ZK.out.set0 0).set1 0).set2 0
                refine specReadFact_ret (g := w.heap.size) (by rfl) (by rfl) (by rfl) hX ⟨by rw [rfS, SO.out]; rfl, ?_⟩
                repeat (refine sub_setCell2 (by simp) ?_ _)
                exact B7.out
              · go_wp2_with fail
                refine (l11Fact_any _ _ _ _ ho _).mono ?_
                rintro e w6 ⟨rfl, b6⟩
                have Z7 := Lib.hid (ZZ.out.below b6 ZZ.out.lt)
                have X7 := Lib.hid (XX.out.below b6 XX.out.lt)
                have B7 := Lib.hid (B6.out.trans (b6.mono B6.out.size))
                obtain ⟨c0, c1, c2, -⟩ := X7.out
                clear b6
                go_wp2_with fail
                refine (l11Text_any _ _ _ ho _).mono ?_
                rintro e w7 ⟨rfl, b7⟩
                have Z8 := Lib.hid (Z7.out.below b7 Z7.out.lt)
                have X8 := Lib.hid (X7.out.below b7 X7.out.lt)
                have B8 := Lib.hid (B7.out.trans (b7.mono B7.out.size))
                obtain ⟨c0, c1, c2, -⟩ := X8.out
                obtain ⟨a0, a1, a2, af⟩ := Z8.out
                have h0 := af 0; have h1 := af 1; have h2 := af 2
                clear b7 af
                by_cases he : fcT 4 (rdN t3) (rdN t1) = s
                · have SO := Lib.hid (show sok s = true by rw [HO.out, ho, he]; simp)
                  rw [he]
                  clear he
                  go_wp2_with fail
                  have hX := ((Z8.out.set0 (4)).set1 (rdN t3)).set2 (rdN t1)
                  refine specReadFact_ret (g := w.heap.size) (by rfl) (by rfl) (by rfl) hX ⟨by rw [rfS, SO.out, KD.out, HP.out, HC4.out]; rfl, ?_⟩
                  repeat (refine sub_setCell2 (by simp) ?_ _)
                  exact B8.out
                · have SO := Lib.hid (show sok s = false by rw [HO.out, ho]; simp [he])
                  have qe := toList_ne he
                  clear he
                  go_wp2_with fail
                  have hX := ((Z8.out.set0 0).set1 0).set2 0
                  refine specReadFact_ret (g := w.heap.size) (by rfl) (by rfl) (by rfl) hX ⟨by rw [rfS, SO.out]; rfl, ?_⟩
                  repeat (refine sub_setCell2 (by simp) ?_ _)
                  exact B8.out
            · by_cases k5 : t0 = (⟨#[97, 103, 97, 105, 110]⟩ : ByteArray)
              · have q1 := litF k1
                have q2 := litF k2
                have q3 := litF k3
                have q4 := litF k4
                have q5 := litT k5
                have KD := Lib.hid (show kd (w_ s 0) = 5 by rw [e0.out, kd, if_neg k1, if_neg k2, if_neg k3, if_neg k4, if_pos k5])
                have XY := Lib.hid (XX.out.set0 5)
                have ZY := Lib.hid (ZZ.out.other ⟨w1.heap.size, 0, none⟩ (by simp; omega) (.int .i64 5))
                have BY := Lib.hid (sub_setCell2 (p := ⟨w1.heap.size, 0, none⟩) (by simp; omega) B5.out (.int .i64 5))
                clear k1 k2 k3 k4 k5 XX ZZ B5
                go_upto_region 23 with fail
                refine named (fun w' => FX w' w1.heap.size 5 (rdN t3) (rdN t1) ∧ FX w' w.heap.size 0 0 0 ∧ Below w.heap.size w w') ⟨XY.out, ZY.out, BY.out⟩ ?_
                clear XY ZY BY c0 c1 c2 g0 y0
                rintro W4 ⟨X, Z, BB⟩
                have ZZ := Lib.hid Z
                have XX := Lib.hid X
                have B6 := Lib.hid BB
                obtain ⟨c0, c1, c2, -⟩ := X
                clear Z BB
                have HO := Lib.hid (show sok s = (okF 5 (rdN t3) (rdN t1) && decide (fcT 5 (rdN t3) (rdN t1) = s)) by rw [sok, KD.out, HP.out, HC4.out])
                cases ho : okF 5 (rdN t3) (rdN t1)
                · have SO := Lib.hid (show sok s = false by rw [HO.out, ho]; rfl)
                  go_wp2_with fail
                  refine (l11Fact_any _ _ _ _ ho _).mono ?_
                  rintro e w6 ⟨rfl, b6⟩
                  have Z7 := ZZ.out.below b6 ZZ.out.lt
                  have B7 := Lib.hid (B6.out.trans (b6.mono B6.out.size))
                  have ZK := Lib.hid Z7
                  obtain ⟨a0, a1, a2, af⟩ := Z7
                  have h0 := af 0; have h1 := af 1; have h2 := af 2
                  clear b6 af
                  go_wp2_with fail
                  have hX := ((ZK.out.set0 0).set1 0).set2 0
                  refine specReadFact_ret (g := w.heap.size) (by rfl) (by rfl) (by rfl) hX ⟨by rw [rfS, SO.out]; rfl, ?_⟩
                  repeat (refine sub_setCell2 (by simp) ?_ _)
                  exact B7.out
                · go_wp2_with fail
                  refine (l11Fact_any _ _ _ _ ho _).mono ?_
                  rintro e w6 ⟨rfl, b6⟩
                  have Z7 := Lib.hid (ZZ.out.below b6 ZZ.out.lt)
                  have X7 := Lib.hid (XX.out.below b6 XX.out.lt)
                  have B7 := Lib.hid (B6.out.trans (b6.mono B6.out.size))
                  obtain ⟨c0, c1, c2, -⟩ := X7.out
                  clear b6
                  go_wp2_with fail
                  refine (l11Text_any _ _ _ ho _).mono ?_
                  rintro e w7 ⟨rfl, b7⟩
                  have Z8 := Lib.hid (Z7.out.below b7 Z7.out.lt)
                  have X8 := Lib.hid (X7.out.below b7 X7.out.lt)
                  have B8 := Lib.hid (B7.out.trans (b7.mono B7.out.size))
                  obtain ⟨c0, c1, c2, -⟩ := X8.out
                  obtain ⟨a0, a1, a2, af⟩ := Z8.out
                  have h0 := af 0; have h1 := af 1; have h2 := af 2
                  clear b7 af
                  by_cases he : fcT 5 (rdN t3) (rdN t1) = s
                  · have SO := Lib.hid (show sok s = true by rw [HO.out, ho, he]; simp)
                    rw [he]
                    clear he
                    go_wp2_with fail
                    have hX := ((Z8.out.set0 (5)).set1 (rdN t3)).set2 (rdN t1)
                    refine specReadFact_ret (g := w.heap.size) (by rfl) (by rfl) (by rfl) hX ⟨by rw [rfS, SO.out, KD.out, HP.out, HC4.out]; rfl, ?_⟩
                    repeat (refine sub_setCell2 (by simp) ?_ _)
                    exact B8.out
                  · have SO := Lib.hid (show sok s = false by rw [HO.out, ho]; simp [he])
                    have qe := toList_ne he
                    clear he
                    go_wp2_with fail
                    have hX := ((Z8.out.set0 0).set1 0).set2 0
                    refine specReadFact_ret (g := w.heap.size) (by rfl) (by rfl) (by rfl) hX ⟨by rw [rfS, SO.out]; rfl, ?_⟩
                    repeat (refine sub_setCell2 (by simp) ?_ _)
                    exact B8.out
              · by_cases k6 : t0 = (⟨#[116, 117, 114, 110]⟩ : ByteArray)
                · have q1 := litF k1
                  have q2 := litF k2
                  have q3 := litF k3
                  have q4 := litF k4
                  have q5 := litF k5
                  have q6 := litT k6
                  have KD := Lib.hid (show kd (w_ s 0) = 6 by rw [e0.out, kd, if_neg k1, if_neg k2, if_neg k3, if_neg k4, if_neg k5, if_pos k6])
                  have XY := Lib.hid (XX.out.set0 6)
                  have ZY := Lib.hid (ZZ.out.other ⟨w1.heap.size, 0, none⟩ (by simp; omega) (.int .i64 6))
                  have BY := Lib.hid (sub_setCell2 (p := ⟨w1.heap.size, 0, none⟩) (by simp; omega) B5.out (.int .i64 6))
                  clear k1 k2 k3 k4 k5 k6 XX ZZ B5
                  go_upto_region 23 with fail
                  refine named (fun w' => FX w' w1.heap.size 6 (rdN t3) (rdN t1) ∧ FX w' w.heap.size 0 0 0 ∧ Below w.heap.size w w') ⟨XY.out, ZY.out, BY.out⟩ ?_
                  clear XY ZY BY c0 c1 c2 g0 y0
                  rintro W4 ⟨X, Z, BB⟩
                  have ZZ := Lib.hid Z
                  have XX := Lib.hid X
                  have B6 := Lib.hid BB
                  obtain ⟨c0, c1, c2, -⟩ := X
                  clear Z BB
                  have HO := Lib.hid (show sok s = (okF 6 (rdN t3) (rdN t1) && decide (fcT 6 (rdN t3) (rdN t1) = s)) by rw [sok, KD.out, HP.out, HC4.out])
                  cases ho : okF 6 (rdN t3) (rdN t1)
                  · have SO := Lib.hid (show sok s = false by rw [HO.out, ho]; rfl)
                    go_wp2_with fail
                    refine (l11Fact_any _ _ _ _ ho _).mono ?_
                    rintro e w6 ⟨rfl, b6⟩
                    have Z7 := ZZ.out.below b6 ZZ.out.lt
                    have B7 := Lib.hid (B6.out.trans (b6.mono B6.out.size))
                    have ZK := Lib.hid Z7
                    obtain ⟨a0, a1, a2, af⟩ := Z7
                    have h0 := af 0; have h1 := af 1; have h2 := af 2
                    clear b6 af
                    go_wp2_with fail
                    have hX := ((ZK.out.set0 0).set1 0).set2 0
                    refine specReadFact_ret (g := w.heap.size) (by rfl) (by rfl) (by rfl) hX ⟨by rw [rfS, SO.out]; rfl, ?_⟩
                    repeat (refine sub_setCell2 (by simp) ?_ _)
                    exact B7.out
                  · go_wp2_with fail
                    refine (l11Fact_any _ _ _ _ ho _).mono ?_
                    rintro e w6 ⟨rfl, b6⟩
                    have Z7 := Lib.hid (ZZ.out.below b6 ZZ.out.lt)
                    have X7 := Lib.hid (XX.out.below b6 XX.out.lt)
                    have B7 := Lib.hid (B6.out.trans (b6.mono B6.out.size))
                    obtain ⟨c0, c1, c2, -⟩ := X7.out
                    clear b6
                    go_wp2_with fail
                    refine (l11Text_any _ _ _ ho _).mono ?_
                    rintro e w7 ⟨rfl, b7⟩
                    have Z8 := Lib.hid (Z7.out.below b7 Z7.out.lt)
                    have X8 := Lib.hid (X7.out.below b7 X7.out.lt)
                    have B8 := Lib.hid (B7.out.trans (b7.mono B7.out.size))
                    obtain ⟨c0, c1, c2, -⟩ := X8.out
                    obtain ⟨a0, a1, a2, af⟩ := Z8.out
                    have h0 := af 0; have h1 := af 1; have h2 := af 2
                    clear b7 af
                    by_cases he : fcT 6 (rdN t3) (rdN t1) = s
                    · have SO := Lib.hid (show sok s = true by rw [HO.out, ho, he]; simp)
                      rw [he]
                      clear he
                      go_wp2_with fail
                      have hX := ((Z8.out.set0 (6)).set1 (rdN t3)).set2 (rdN t1)
                      refine specReadFact_ret (g := w.heap.size) (by rfl) (by rfl) (by rfl) hX ⟨by rw [rfS, SO.out, KD.out, HP.out, HC4.out]; rfl, ?_⟩
                      repeat (refine sub_setCell2 (by simp) ?_ _)
                      exact B8.out
                    · have SO := Lib.hid (show sok s = false by rw [HO.out, ho]; simp [he])
                      have qe := toList_ne he
                      clear he
                      go_wp2_with fail
                      have hX := ((Z8.out.set0 0).set1 0).set2 0
                      refine specReadFact_ret (g := w.heap.size) (by rfl) (by rfl) (by rfl) hX ⟨by rw [rfS, SO.out]; rfl, ?_⟩
                      repeat (refine sub_setCell2 (by simp) ?_ _)
                      exact B8.out
                · have q1 := litF k1
                  have q2 := litF k2
                  have q3 := litF k3
                  have q4 := litF k4
                  have q5 := litF k5
                  have q6 := litF k6
                  have KD := Lib.hid (show kd (w_ s 0) = 0 by rw [e0.out, kd, if_neg k1, if_neg k2, if_neg k3, if_neg k4, if_neg k5, if_neg k6])
                  have XY := XX
                  have ZY := ZZ
                  have BY := B5
                  clear k1 k2 k3 k4 k5 k6 XX ZZ B5
                  go_upto_region 23 with fail
                  refine named (fun w' => FX w' w1.heap.size 0 (rdN t3) (rdN t1) ∧ FX w' w.heap.size 0 0 0 ∧ Below w.heap.size w w') ⟨XY.out, ZY.out, BY.out⟩ ?_
                  clear XY ZY BY c0 c1 c2 g0 y0
                  rintro W4 ⟨X, Z, BB⟩
                  have ZZ := Lib.hid Z
                  have XX := Lib.hid X
                  have B6 := Lib.hid BB
                  obtain ⟨c0, c1, c2, -⟩ := X
                  clear Z BB
                  have HO := Lib.hid (show sok s = (okF 0 (rdN t3) (rdN t1) && decide (fcT 0 (rdN t3) (rdN t1) = s)) by rw [sok, KD.out, HP.out, HC4.out])
                  cases ho : okF 0 (rdN t3) (rdN t1)
                  · have SO := Lib.hid (show sok s = false by rw [HO.out, ho]; rfl)
                    go_wp2_with fail
                    refine (l11Fact_any _ _ _ _ ho _).mono ?_
                    rintro e w6 ⟨rfl, b6⟩
                    have Z7 := ZZ.out.below b6 ZZ.out.lt
                    have B7 := Lib.hid (B6.out.trans (b6.mono B6.out.size))
                    have ZK := Lib.hid Z7
                    obtain ⟨a0, a1, a2, af⟩ := Z7
                    have h0 := af 0; have h1 := af 1; have h2 := af 2
                    clear b6 af
                    go_wp2_with fail
                    have hX := ((ZK.out.set0 0).set1 0).set2 0
                    refine specReadFact_ret (g := w.heap.size) (by rfl) (by rfl) (by rfl) hX ⟨by rw [rfS, SO.out]; rfl, ?_⟩
                    repeat (refine sub_setCell2 (by simp) ?_ _)
                    exact B7.out
                  · go_wp2_with fail
                    refine (l11Fact_any _ _ _ _ ho _).mono ?_
                    rintro e w6 ⟨rfl, b6⟩
                    have Z7 := Lib.hid (ZZ.out.below b6 ZZ.out.lt)
                    have X7 := Lib.hid (XX.out.below b6 XX.out.lt)
                    have B7 := Lib.hid (B6.out.trans (b6.mono B6.out.size))
                    obtain ⟨c0, c1, c2, -⟩ := X7.out
                    clear b6
                    go_wp2_with fail
                    refine (l11Text_any _ _ _ ho _).mono ?_
                    rintro e w7 ⟨rfl, b7⟩
                    have Z8 := Lib.hid (Z7.out.below b7 Z7.out.lt)
                    have X8 := Lib.hid (X7.out.below b7 X7.out.lt)
                    have B8 := Lib.hid (B7.out.trans (b7.mono B7.out.size))
                    obtain ⟨c0, c1, c2, -⟩ := X8.out
                    obtain ⟨a0, a1, a2, af⟩ := Z8.out
                    have h0 := af 0; have h1 := af 1; have h2 := af 2
                    clear b7 af
                    by_cases he : fcT 0 (rdN t3) (rdN t1) = s
                    · have SO := Lib.hid (show sok s = true by rw [HO.out, ho, he]; simp)
                      rw [he]
                      clear he
                      go_wp2_with fail
                      have hX := ((Z8.out.set0 (0)).set1 (rdN t3)).set2 (rdN t1)
                      refine specReadFact_ret (g := w.heap.size) (by rfl) (by rfl) (by rfl) hX ⟨by rw [rfS, SO.out, KD.out, HP.out, HC4.out]; rfl, ?_⟩
                      repeat (refine sub_setCell2 (by simp) ?_ _)
                      exact B8.out
                    · have SO := Lib.hid (show sok s = false by rw [HO.out, ho]; simp [he])
                      have qe := toList_ne he
                      clear he
                      go_wp2_with fail
                      have hX := ((Z8.out.set0 0).set1 0).set2 0
                      refine specReadFact_ret (g := w.heap.size) (by rfl) (by rfl) (by rfl) hX ⟨by rw [rfS, SO.out]; rfl, ?_⟩
                      repeat (refine sub_setCell2 (by simp) ?_ _)
                      exact B8.out
  · have j4 : (((spAll 32 s).length : Int) == 4) = false := by simp; omega
    have HC4 := Lib.hid (show rfC s = 0 by rw [rfC, if_neg h4])
    have HP := Lib.hid (show spP s = 0 by rw [spP, if_neg h4])
    clear h4 hsz
    go_upto_region 10 with fail
    refine named (fun w' => FX w' w1.heap.size 0 0 0 ∧ FX w' w.heap.size 0 0 0 ∧ Below w.heap.size w w' ∧ Below w1.heap.size w1 w') ⟨XX.out, ZZ.out, B2.out, D2.out⟩ ?_
    clear XX ZZ B2 D2
    rintro W3 ⟨X, Z, BB, DD⟩
    have y0 : W3.cell? ⟨bb, off, none⟩ = some (.string t0) := (DD.cell (p := ⟨bb, off + 0, none⟩) hbb).trans x0.out
    have XX := Lib.hid X
    have ZZ := Lib.hid Z
    have B5 := Lib.hid BB
    obtain ⟨c0, c1, c2, cf⟩ := X
    have g0 := cf 0
    clear Z BB DD cf
    by_cases k1 : t0 = (⟨#[116, 97, 107, 101]⟩ : ByteArray)
    · have q1 := litT k1
      have KD := Lib.hid (show kd (w_ s 0) = 1 by rw [e0.out, kd, if_pos k1])
      have XY := Lib.hid (XX.out.set0 1)
      have ZY := Lib.hid (ZZ.out.other ⟨w1.heap.size, 0, none⟩ (by simp; omega) (.int .i64 1))
      have BY := Lib.hid (sub_setCell2 (p := ⟨w1.heap.size, 0, none⟩) (by simp; omega) B5.out (.int .i64 1))
      clear k1 XX ZZ B5
      go_upto_region 23 with fail
      refine named (fun w' => FX w' w1.heap.size 1 (0) (0) ∧ FX w' w.heap.size 0 0 0 ∧ Below w.heap.size w w') ⟨XY.out, ZY.out, BY.out⟩ ?_
      clear XY ZY BY c0 c1 c2 g0 y0
      rintro W4 ⟨X, Z, BB⟩
      have ZZ := Lib.hid Z
      have XX := Lib.hid X
      have B6 := Lib.hid BB
      obtain ⟨c0, c1, c2, -⟩ := X
      clear Z BB
      have HO := Lib.hid (show sok s = (okF 1 (0) (0) && decide (fcT 1 (0) (0) = s)) by rw [sok, KD.out, HP.out, HC4.out])
      cases ho : okF 1 (0) (0)
      · have SO := Lib.hid (show sok s = false by rw [HO.out, ho]; rfl)
        go_wp2_with fail
        refine (l11Fact_any _ _ _ _ ho _).mono ?_
        rintro e w6 ⟨rfl, b6⟩
        have Z7 := ZZ.out.below b6 ZZ.out.lt
        have B7 := Lib.hid (B6.out.trans (b6.mono B6.out.size))
        have ZK := Lib.hid Z7
        obtain ⟨a0, a1, a2, af⟩ := Z7
        have h0 := af 0; have h1 := af 1; have h2 := af 2
        clear b6 af
        go_wp2_with fail
        have hX := ((ZK.out.set0 0).set1 0).set2 0
        refine specReadFact_ret (g := w.heap.size) (by rfl) (by rfl) (by rfl) hX ⟨by rw [rfS, SO.out]; rfl, ?_⟩
        repeat (refine sub_setCell2 (by simp) ?_ _)
        exact B7.out
      · go_wp2_with fail
        refine (l11Fact_any _ _ _ _ ho _).mono ?_
        rintro e w6 ⟨rfl, b6⟩
        have Z7 := Lib.hid (ZZ.out.below b6 ZZ.out.lt)
        have X7 := Lib.hid (XX.out.below b6 XX.out.lt)
        have B7 := Lib.hid (B6.out.trans (b6.mono B6.out.size))
        obtain ⟨c0, c1, c2, -⟩ := X7.out
        clear b6
        go_wp2_with fail
        refine (l11Text_any _ _ _ ho _).mono ?_
        rintro e w7 ⟨rfl, b7⟩
        have Z8 := Lib.hid (Z7.out.below b7 Z7.out.lt)
        have X8 := Lib.hid (X7.out.below b7 X7.out.lt)
        have B8 := Lib.hid (B7.out.trans (b7.mono B7.out.size))
        obtain ⟨c0, c1, c2, -⟩ := X8.out
        obtain ⟨a0, a1, a2, af⟩ := Z8.out
        have h0 := af 0; have h1 := af 1; have h2 := af 2
        clear b7 af
        by_cases he : fcT 1 (0) (0) = s
        · have SO := Lib.hid (show sok s = true by rw [HO.out, ho, he]; simp)
          rw [he]
          clear he
          go_wp2_with fail
          have hX := ((Z8.out.set0 (1)).set1 (0)).set2 (0)
          refine specReadFact_ret (g := w.heap.size) (by rfl) (by rfl) (by rfl) hX ⟨by rw [rfS, SO.out, KD.out, HP.out, HC4.out]; rfl, ?_⟩
          repeat (refine sub_setCell2 (by simp) ?_ _)
          exact B8.out
        · have SO := Lib.hid (show sok s = false by rw [HO.out, ho]; simp [he])
          have qe := toList_ne he
          clear he
          go_wp2_with fail
          have hX := ((Z8.out.set0 0).set1 0).set2 0
          refine specReadFact_ret (g := w.heap.size) (by rfl) (by rfl) (by rfl) hX ⟨by rw [rfS, SO.out]; rfl, ?_⟩
          repeat (refine sub_setCell2 (by simp) ?_ _)
          exact B8.out
    · by_cases k2 : t0 = (⟨#[115, 111, 119]⟩ : ByteArray)
      · have q1 := litF k1
        have q2 := litT k2
        have KD := Lib.hid (show kd (w_ s 0) = 2 by rw [e0.out, kd, if_neg k1, if_pos k2])
        have XY := Lib.hid (XX.out.set0 2)
        have ZY := Lib.hid (ZZ.out.other ⟨w1.heap.size, 0, none⟩ (by simp; omega) (.int .i64 2))
        have BY := Lib.hid (sub_setCell2 (p := ⟨w1.heap.size, 0, none⟩) (by simp; omega) B5.out (.int .i64 2))
        clear k1 k2 XX ZZ B5
        go_upto_region 23 with fail
        refine named (fun w' => FX w' w1.heap.size 2 (0) (0) ∧ FX w' w.heap.size 0 0 0 ∧ Below w.heap.size w w') ⟨XY.out, ZY.out, BY.out⟩ ?_
        clear XY ZY BY c0 c1 c2 g0 y0
        rintro W4 ⟨X, Z, BB⟩
        have ZZ := Lib.hid Z
        have XX := Lib.hid X
        have B6 := Lib.hid BB
        obtain ⟨c0, c1, c2, -⟩ := X
        clear Z BB
        have HO := Lib.hid (show sok s = (okF 2 (0) (0) && decide (fcT 2 (0) (0) = s)) by rw [sok, KD.out, HP.out, HC4.out])
        cases ho : okF 2 (0) (0)
        · have SO := Lib.hid (show sok s = false by rw [HO.out, ho]; rfl)
          go_wp2_with fail
          refine (l11Fact_any _ _ _ _ ho _).mono ?_
          rintro e w6 ⟨rfl, b6⟩
          have Z7 := ZZ.out.below b6 ZZ.out.lt
          have B7 := Lib.hid (B6.out.trans (b6.mono B6.out.size))
          have ZK := Lib.hid Z7
          obtain ⟨a0, a1, a2, af⟩ := Z7
          have h0 := af 0; have h1 := af 1; have h2 := af 2
          clear b6 af
          go_wp2_with fail
          have hX := ((ZK.out.set0 0).set1 0).set2 0
          refine specReadFact_ret (g := w.heap.size) (by rfl) (by rfl) (by rfl) hX ⟨by rw [rfS, SO.out]; rfl, ?_⟩
          repeat (refine sub_setCell2 (by simp) ?_ _)
          exact B7.out
        · go_wp2_with fail
          refine (l11Fact_any _ _ _ _ ho _).mono ?_
          rintro e w6 ⟨rfl, b6⟩
          have Z7 := Lib.hid (ZZ.out.below b6 ZZ.out.lt)
          have X7 := Lib.hid (XX.out.below b6 XX.out.lt)
          have B7 := Lib.hid (B6.out.trans (b6.mono B6.out.size))
          obtain ⟨c0, c1, c2, -⟩ := X7.out
          clear b6
          go_wp2_with fail
          refine (l11Text_any _ _ _ ho _).mono ?_
          rintro e w7 ⟨rfl, b7⟩
          have Z8 := Lib.hid (Z7.out.below b7 Z7.out.lt)
          have X8 := Lib.hid (X7.out.below b7 X7.out.lt)
          have B8 := Lib.hid (B7.out.trans (b7.mono B7.out.size))
          obtain ⟨c0, c1, c2, -⟩ := X8.out
          obtain ⟨a0, a1, a2, af⟩ := Z8.out
          have h0 := af 0; have h1 := af 1; have h2 := af 2
          clear b7 af
          by_cases he : fcT 2 (0) (0) = s
          · have SO := Lib.hid (show sok s = true by rw [HO.out, ho, he]; simp)
            rw [he]
            clear he
            go_wp2_with fail
            have hX := ((Z8.out.set0 (2)).set1 (0)).set2 (0)
            refine specReadFact_ret (g := w.heap.size) (by rfl) (by rfl) (by rfl) hX ⟨by rw [rfS, SO.out, KD.out, HP.out, HC4.out]; rfl, ?_⟩
            repeat (refine sub_setCell2 (by simp) ?_ _)
            exact B8.out
          · have SO := Lib.hid (show sok s = false by rw [HO.out, ho]; simp [he])
            have qe := toList_ne he
            clear he
            go_wp2_with fail
            have hX := ((Z8.out.set0 0).set1 0).set2 0
            refine specReadFact_ret (g := w.heap.size) (by rfl) (by rfl) (by rfl) hX ⟨by rw [rfS, SO.out]; rfl, ?_⟩
            repeat (refine sub_setCell2 (by simp) ?_ _)
            exact B8.out
      · by_cases k3 : t0 = (⟨#[99, 97, 112, 116, 117, 114, 101]⟩ : ByteArray)
        · have q1 := litF k1
          have q2 := litF k2
          have q3 := litT k3
          have KD := Lib.hid (show kd (w_ s 0) = 3 by rw [e0.out, kd, if_neg k1, if_neg k2, if_pos k3])
          have XY := Lib.hid (XX.out.set0 3)
          have ZY := Lib.hid (ZZ.out.other ⟨w1.heap.size, 0, none⟩ (by simp; omega) (.int .i64 3))
          have BY := Lib.hid (sub_setCell2 (p := ⟨w1.heap.size, 0, none⟩) (by simp; omega) B5.out (.int .i64 3))
          clear k1 k2 k3 XX ZZ B5
          go_upto_region 23 with fail
          refine named (fun w' => FX w' w1.heap.size 3 (0) (0) ∧ FX w' w.heap.size 0 0 0 ∧ Below w.heap.size w w') ⟨XY.out, ZY.out, BY.out⟩ ?_
          clear XY ZY BY c0 c1 c2 g0 y0
          rintro W4 ⟨X, Z, BB⟩
          have ZZ := Lib.hid Z
          have XX := Lib.hid X
          have B6 := Lib.hid BB
          obtain ⟨c0, c1, c2, -⟩ := X
          clear Z BB
          have HO := Lib.hid (show sok s = (okF 3 (0) (0) && decide (fcT 3 (0) (0) = s)) by rw [sok, KD.out, HP.out, HC4.out])
          cases ho : okF 3 (0) (0)
          · have SO := Lib.hid (show sok s = false by rw [HO.out, ho]; rfl)
            go_wp2_with fail
            refine (l11Fact_any _ _ _ _ ho _).mono ?_
            rintro e w6 ⟨rfl, b6⟩
            have Z7 := ZZ.out.below b6 ZZ.out.lt
            have B7 := Lib.hid (B6.out.trans (b6.mono B6.out.size))
            have ZK := Lib.hid Z7
            obtain ⟨a0, a1, a2, af⟩ := Z7
            have h0 := af 0; have h1 := af 1; have h2 := af 2
            clear b6 af
            go_wp2_with fail
            have hX := ((ZK.out.set0 0).set1 0).set2 0
            refine specReadFact_ret (g := w.heap.size) (by rfl) (by rfl) (by rfl) hX ⟨by rw [rfS, SO.out]; rfl, ?_⟩
            repeat (refine sub_setCell2 (by simp) ?_ _)
            exact B7.out
          · go_wp2_with fail
            refine (l11Fact_any _ _ _ _ ho _).mono ?_
            rintro e w6 ⟨rfl, b6⟩
            have Z7 := Lib.hid (ZZ.out.below b6 ZZ.out.lt)
            have X7 := Lib.hid (XX.out.below b6 XX.out.lt)
            have B7 := Lib.hid (B6.out.trans (b6.mono B6.out.size))
            obtain ⟨c0, c1, c2, -⟩ := X7.out
            clear b6
            go_wp2_with fail
            refine (l11Text_any _ _ _ ho _).mono ?_
            rintro e w7 ⟨rfl, b7⟩
            have Z8 := Lib.hid (Z7.out.below b7 Z7.out.lt)
            have X8 := Lib.hid (X7.out.below b7 X7.out.lt)
            have B8 := Lib.hid (B7.out.trans (b7.mono B7.out.size))
            obtain ⟨c0, c1, c2, -⟩ := X8.out
            obtain ⟨a0, a1, a2, af⟩ := Z8.out
            have h0 := af 0; have h1 := af 1; have h2 := af 2
            clear b7 af
            by_cases he : fcT 3 (0) (0) = s
            · have SO := Lib.hid (show sok s = true by rw [HO.out, ho, he]; simp)
              rw [he]
              clear he
              go_wp2_with fail
              have hX := ((Z8.out.set0 (3)).set1 (0)).set2 (0)
              refine specReadFact_ret (g := w.heap.size) (by rfl) (by rfl) (by rfl) hX ⟨by rw [rfS, SO.out, KD.out, HP.out, HC4.out]; rfl, ?_⟩
              repeat (refine sub_setCell2 (by simp) ?_ _)
              exact B8.out
            · have SO := Lib.hid (show sok s = false by rw [HO.out, ho]; simp [he])
              have qe := toList_ne he
              clear he
              go_wp2_with fail
              have hX := ((Z8.out.set0 0).set1 0).set2 0
              refine specReadFact_ret (g := w.heap.size) (by rfl) (by rfl) (by rfl) hX ⟨by rw [rfS, SO.out]; rfl, ?_⟩
              repeat (refine sub_setCell2 (by simp) ?_ _)
              exact B8.out
        · by_cases k4 : t0 = (⟨#[115, 112, 97, 114, 101]⟩ : ByteArray)
          · have q1 := litF k1
            have q2 := litF k2
            have q3 := litF k3
            have q4 := litT k4
            have KD := Lib.hid (show kd (w_ s 0) = 4 by rw [e0.out, kd, if_neg k1, if_neg k2, if_neg k3, if_pos k4])
            have XY := Lib.hid (XX.out.set0 4)
            have ZY := Lib.hid (ZZ.out.other ⟨w1.heap.size, 0, none⟩ (by simp; omega) (.int .i64 4))
            have BY := Lib.hid (sub_setCell2 (p := ⟨w1.heap.size, 0, none⟩) (by simp; omega) B5.out (.int .i64 4))
            clear k1 k2 k3 k4 XX ZZ B5
            go_upto_region 23 with fail
            refine named (fun w' => FX w' w1.heap.size 4 (0) (0) ∧ FX w' w.heap.size 0 0 0 ∧ Below w.heap.size w w') ⟨XY.out, ZY.out, BY.out⟩ ?_
            clear XY ZY BY c0 c1 c2 g0 y0
            rintro W4 ⟨X, Z, BB⟩
            have ZZ := Lib.hid Z
            have XX := Lib.hid X
            have B6 := Lib.hid BB
            obtain ⟨c0, c1, c2, -⟩ := X
            clear Z BB
            have HO := Lib.hid (show sok s = (okF 4 (0) (0) && decide (fcT 4 (0) (0) = s)) by rw [sok, KD.out, HP.out, HC4.out])
            cases ho : okF 4 (0) (0)
            · have SO := Lib.hid (show sok s = false by rw [HO.out, ho]; rfl)
              go_wp2_with fail
              refine (l11Fact_any _ _ _ _ ho _).mono ?_
              rintro e w6 ⟨rfl, b6⟩
              have Z7 := ZZ.out.below b6 ZZ.out.lt
              have B7 := Lib.hid (B6.out.trans (b6.mono B6.out.size))
              have ZK := Lib.hid Z7
              obtain ⟨a0, a1, a2, af⟩ := Z7
              have h0 := af 0; have h1 := af 1; have h2 := af 2
              clear b6 af
              go_wp2_with fail
              have hX := ((ZK.out.set0 0).set1 0).set2 0
              refine specReadFact_ret (g := w.heap.size) (by rfl) (by rfl) (by rfl) hX ⟨by rw [rfS, SO.out]; rfl, ?_⟩
              repeat (refine sub_setCell2 (by simp) ?_ _)
              exact B7.out
            · go_wp2_with fail
              refine (l11Fact_any _ _ _ _ ho _).mono ?_
              rintro e w6 ⟨rfl, b6⟩
              have Z7 := Lib.hid (ZZ.out.below b6 ZZ.out.lt)
              have X7 := Lib.hid (XX.out.below b6 XX.out.lt)
              have B7 := Lib.hid (B6.out.trans (b6.mono B6.out.size))
              obtain ⟨c0, c1, c2, -⟩ := X7.out
              clear b6
              go_wp2_with fail
              refine (l11Text_any _ _ _ ho _).mono ?_
              rintro e w7 ⟨rfl, b7⟩
              have Z8 := Lib.hid (Z7.out.below b7 Z7.out.lt)
              have X8 := Lib.hid (X7.out.below b7 X7.out.lt)
              have B8 := Lib.hid (B7.out.trans (b7.mono B7.out.size))
              obtain ⟨c0, c1, c2, -⟩ := X8.out
              obtain ⟨a0, a1, a2, af⟩ := Z8.out
              have h0 := af 0; have h1 := af 1; have h2 := af 2
              clear b7 af
              by_cases he : fcT 4 (0) (0) = s
              · have SO := Lib.hid (show sok s = true by rw [HO.out, ho, he]; simp)
                rw [he]
                clear he
                go_wp2_with fail
                have hX := ((Z8.out.set0 (4)).set1 (0)).set2 (0)
                refine specReadFact_ret (g := w.heap.size) (by rfl) (by rfl) (by rfl) hX ⟨by rw [rfS, SO.out, KD.out, HP.out, HC4.out]; rfl, ?_⟩
                repeat (refine sub_setCell2 (by simp) ?_ _)
                exact B8.out
              · have SO := Lib.hid (show sok s = false by rw [HO.out, ho]; simp [he])
                have qe := toList_ne he
                clear he
                go_wp2_with fail
                have hX := ((Z8.out.set0 0).set1 0).set2 0
                refine specReadFact_ret (g := w.heap.size) (by rfl) (by rfl) (by rfl) hX ⟨by rw [rfS, SO.out]; rfl, ?_⟩
                repeat (refine sub_setCell2 (by simp) ?_ _)
                exact B8.out
          · by_cases k5 : t0 = (⟨#[97, 103, 97, 105, 110]⟩ : ByteArray)
            · have q1 := litF k1
              have q2 := litF k2
              have q3 := litF k3
              have q4 := litF k4
              have q5 := litT k5
              have KD := Lib.hid (show kd (w_ s 0) = 5 by rw [e0.out, kd, if_neg k1, if_neg k2, if_neg k3, if_neg k4, if_pos k5])
              have XY := Lib.hid (XX.out.set0 5)
              have ZY := Lib.hid (ZZ.out.other ⟨w1.heap.size, 0, none⟩ (by simp; omega) (.int .i64 5))
              have BY := Lib.hid (sub_setCell2 (p := ⟨w1.heap.size, 0, none⟩) (by simp; omega) B5.out (.int .i64 5))
              clear k1 k2 k3 k4 k5 XX ZZ B5
              go_upto_region 23 with fail
              refine named (fun w' => FX w' w1.heap.size 5 (0) (0) ∧ FX w' w.heap.size 0 0 0 ∧ Below w.heap.size w w') ⟨XY.out, ZY.out, BY.out⟩ ?_
              clear XY ZY BY c0 c1 c2 g0 y0
              rintro W4 ⟨X, Z, BB⟩
              have ZZ := Lib.hid Z
              have XX := Lib.hid X
              have B6 := Lib.hid BB
              obtain ⟨c0, c1, c2, -⟩ := X
              clear Z BB
              have HO := Lib.hid (show sok s = (okF 5 (0) (0) && decide (fcT 5 (0) (0) = s)) by rw [sok, KD.out, HP.out, HC4.out])
              cases ho : okF 5 (0) (0)
              · have SO := Lib.hid (show sok s = false by rw [HO.out, ho]; rfl)
                go_wp2_with fail
                refine (l11Fact_any _ _ _ _ ho _).mono ?_
                rintro e w6 ⟨rfl, b6⟩
                have Z7 := ZZ.out.below b6 ZZ.out.lt
                have B7 := Lib.hid (B6.out.trans (b6.mono B6.out.size))
                have ZK := Lib.hid Z7
                obtain ⟨a0, a1, a2, af⟩ := Z7
                have h0 := af 0; have h1 := af 1; have h2 := af 2
                clear b6 af
                go_wp2_with fail
                have hX := ((ZK.out.set0 0).set1 0).set2 0
                refine specReadFact_ret (g := w.heap.size) (by rfl) (by rfl) (by rfl) hX ⟨by rw [rfS, SO.out]; rfl, ?_⟩
                repeat (refine sub_setCell2 (by simp) ?_ _)
                exact B7.out
              · go_wp2_with fail
                refine (l11Fact_any _ _ _ _ ho _).mono ?_
                rintro e w6 ⟨rfl, b6⟩
                have Z7 := Lib.hid (ZZ.out.below b6 ZZ.out.lt)
                have X7 := Lib.hid (XX.out.below b6 XX.out.lt)
                have B7 := Lib.hid (B6.out.trans (b6.mono B6.out.size))
                obtain ⟨c0, c1, c2, -⟩ := X7.out
                clear b6
                go_wp2_with fail
                refine (l11Text_any _ _ _ ho _).mono ?_
                rintro e w7 ⟨rfl, b7⟩
                have Z8 := Lib.hid (Z7.out.below b7 Z7.out.lt)
                have X8 := Lib.hid (X7.out.below b7 X7.out.lt)
                have B8 := Lib.hid (B7.out.trans (b7.mono B7.out.size))
                obtain ⟨c0, c1, c2, -⟩ := X8.out
                obtain ⟨a0, a1, a2, af⟩ := Z8.out
                have h0 := af 0; have h1 := af 1; have h2 := af 2
                clear b7 af
                by_cases he : fcT 5 (0) (0) = s
                · have SO := Lib.hid (show sok s = true by rw [HO.out, ho, he]; simp)
                  rw [he]
                  clear he
                  go_wp2_with fail
                  have hX := ((Z8.out.set0 (5)).set1 (0)).set2 (0)
                  refine specReadFact_ret (g := w.heap.size) (by rfl) (by rfl) (by rfl) hX ⟨by rw [rfS, SO.out, KD.out, HP.out, HC4.out]; rfl, ?_⟩
                  repeat (refine sub_setCell2 (by simp) ?_ _)
                  exact B8.out
                · have SO := Lib.hid (show sok s = false by rw [HO.out, ho]; simp [he])
                  have qe := toList_ne he
                  clear he
                  go_wp2_with fail
                  have hX := ((Z8.out.set0 0).set1 0).set2 0
                  refine specReadFact_ret (g := w.heap.size) (by rfl) (by rfl) (by rfl) hX ⟨by rw [rfS, SO.out]; rfl, ?_⟩
                  repeat (refine sub_setCell2 (by simp) ?_ _)
                  exact B8.out
            · by_cases k6 : t0 = (⟨#[116, 117, 114, 110]⟩ : ByteArray)
              · have q1 := litF k1
                have q2 := litF k2
                have q3 := litF k3
                have q4 := litF k4
                have q5 := litF k5
                have q6 := litT k6
                have KD := Lib.hid (show kd (w_ s 0) = 6 by rw [e0.out, kd, if_neg k1, if_neg k2, if_neg k3, if_neg k4, if_neg k5, if_pos k6])
                have XY := Lib.hid (XX.out.set0 6)
                have ZY := Lib.hid (ZZ.out.other ⟨w1.heap.size, 0, none⟩ (by simp; omega) (.int .i64 6))
                have BY := Lib.hid (sub_setCell2 (p := ⟨w1.heap.size, 0, none⟩) (by simp; omega) B5.out (.int .i64 6))
                clear k1 k2 k3 k4 k5 k6 XX ZZ B5
                go_upto_region 23 with fail
                refine named (fun w' => FX w' w1.heap.size 6 (0) (0) ∧ FX w' w.heap.size 0 0 0 ∧ Below w.heap.size w w') ⟨XY.out, ZY.out, BY.out⟩ ?_
                clear XY ZY BY c0 c1 c2 g0 y0
                rintro W4 ⟨X, Z, BB⟩
                have ZZ := Lib.hid Z
                have XX := Lib.hid X
                have B6 := Lib.hid BB
                obtain ⟨c0, c1, c2, -⟩ := X
                clear Z BB
                have HO := Lib.hid (show sok s = (okF 6 (0) (0) && decide (fcT 6 (0) (0) = s)) by rw [sok, KD.out, HP.out, HC4.out])
                cases ho : okF 6 (0) (0)
                · have SO := Lib.hid (show sok s = false by rw [HO.out, ho]; rfl)
                  go_wp2_with fail
                  refine (l11Fact_any _ _ _ _ ho _).mono ?_
                  rintro e w6 ⟨rfl, b6⟩
                  have Z7 := ZZ.out.below b6 ZZ.out.lt
                  have B7 := Lib.hid (B6.out.trans (b6.mono B6.out.size))
                  have ZK := Lib.hid Z7
                  obtain ⟨a0, a1, a2, af⟩ := Z7
                  have h0 := af 0; have h1 := af 1; have h2 := af 2
                  clear b6 af
                  go_wp2_with fail
                  have hX := ((ZK.out.set0 0).set1 0).set2 0
                  refine specReadFact_ret (g := w.heap.size) (by rfl) (by rfl) (by rfl) hX ⟨by rw [rfS, SO.out]; rfl, ?_⟩
                  repeat (refine sub_setCell2 (by simp) ?_ _)
                  exact B7.out
                · go_wp2_with fail
                  refine (l11Fact_any _ _ _ _ ho _).mono ?_
                  rintro e w6 ⟨rfl, b6⟩
                  have Z7 := Lib.hid (ZZ.out.below b6 ZZ.out.lt)
                  have X7 := Lib.hid (XX.out.below b6 XX.out.lt)
                  have B7 := Lib.hid (B6.out.trans (b6.mono B6.out.size))
                  obtain ⟨c0, c1, c2, -⟩ := X7.out
                  clear b6
                  go_wp2_with fail
                  refine (l11Text_any _ _ _ ho _).mono ?_
                  rintro e w7 ⟨rfl, b7⟩
                  have Z8 := Lib.hid (Z7.out.below b7 Z7.out.lt)
                  have X8 := Lib.hid (X7.out.below b7 X7.out.lt)
                  have B8 := Lib.hid (B7.out.trans (b7.mono B7.out.size))
                  obtain ⟨c0, c1, c2, -⟩ := X8.out
                  obtain ⟨a0, a1, a2, af⟩ := Z8.out
                  have h0 := af 0; have h1 := af 1; have h2 := af 2
                  clear b7 af
                  by_cases he : fcT 6 (0) (0) = s
                  · have SO := Lib.hid (show sok s = true by rw [HO.out, ho, he]; simp)
                    rw [he]
                    clear he
                    go_wp2_with fail
                    have hX := ((Z8.out.set0 (6)).set1 (0)).set2 (0)
                    refine specReadFact_ret (g := w.heap.size) (by rfl) (by rfl) (by rfl) hX ⟨by rw [rfS, SO.out, KD.out, HP.out, HC4.out]; rfl, ?_⟩
                    repeat (refine sub_setCell2 (by simp) ?_ _)
                    exact B8.out
                  · have SO := Lib.hid (show sok s = false by rw [HO.out, ho]; simp [he])
                    have qe := toList_ne he
                    clear he
                    go_wp2_with fail
                    have hX := ((Z8.out.set0 0).set1 0).set2 0
                    refine specReadFact_ret (g := w.heap.size) (by rfl) (by rfl) (by rfl) hX ⟨by rw [rfS, SO.out]; rfl, ?_⟩
                    repeat (refine sub_setCell2 (by simp) ?_ _)
                    exact B8.out
              · have q1 := litF k1
                have q2 := litF k2
                have q3 := litF k3
                have q4 := litF k4
                have q5 := litF k5
                have q6 := litF k6
                have KD := Lib.hid (show kd (w_ s 0) = 0 by rw [e0.out, kd, if_neg k1, if_neg k2, if_neg k3, if_neg k4, if_neg k5, if_neg k6])
                have XY := XX
                have ZY := ZZ
                have BY := B5
                clear k1 k2 k3 k4 k5 k6 XX ZZ B5
                go_upto_region 23 with fail
                refine named (fun w' => FX w' w1.heap.size 0 (0) (0) ∧ FX w' w.heap.size 0 0 0 ∧ Below w.heap.size w w') ⟨XY.out, ZY.out, BY.out⟩ ?_
                clear XY ZY BY c0 c1 c2 g0 y0
                rintro W4 ⟨X, Z, BB⟩
                have ZZ := Lib.hid Z
                have XX := Lib.hid X
                have B6 := Lib.hid BB
                obtain ⟨c0, c1, c2, -⟩ := X
                clear Z BB
                have HO := Lib.hid (show sok s = (okF 0 (0) (0) && decide (fcT 0 (0) (0) = s)) by rw [sok, KD.out, HP.out, HC4.out])
                cases ho : okF 0 (0) (0)
                · have SO := Lib.hid (show sok s = false by rw [HO.out, ho]; rfl)
                  go_wp2_with fail
                  refine (l11Fact_any _ _ _ _ ho _).mono ?_
                  rintro e w6 ⟨rfl, b6⟩
                  have Z7 := ZZ.out.below b6 ZZ.out.lt
                  have B7 := Lib.hid (B6.out.trans (b6.mono B6.out.size))
                  have ZK := Lib.hid Z7
                  obtain ⟨a0, a1, a2, af⟩ := Z7
                  have h0 := af 0; have h1 := af 1; have h2 := af 2
                  clear b6 af
                  go_wp2_with fail
                  have hX := ((ZK.out.set0 0).set1 0).set2 0
                  refine specReadFact_ret (g := w.heap.size) (by rfl) (by rfl) (by rfl) hX ⟨by rw [rfS, SO.out]; rfl, ?_⟩
                  repeat (refine sub_setCell2 (by simp) ?_ _)
                  exact B7.out
                · go_wp2_with fail
                  refine (l11Fact_any _ _ _ _ ho _).mono ?_
                  rintro e w6 ⟨rfl, b6⟩
                  have Z7 := Lib.hid (ZZ.out.below b6 ZZ.out.lt)
                  have X7 := Lib.hid (XX.out.below b6 XX.out.lt)
                  have B7 := Lib.hid (B6.out.trans (b6.mono B6.out.size))
                  obtain ⟨c0, c1, c2, -⟩ := X7.out
                  clear b6
                  go_wp2_with fail
                  refine (l11Text_any _ _ _ ho _).mono ?_
                  rintro e w7 ⟨rfl, b7⟩
                  have Z8 := Lib.hid (Z7.out.below b7 Z7.out.lt)
                  have X8 := Lib.hid (X7.out.below b7 X7.out.lt)
                  have B8 := Lib.hid (B7.out.trans (b7.mono B7.out.size))
                  obtain ⟨c0, c1, c2, -⟩ := X8.out
                  obtain ⟨a0, a1, a2, af⟩ := Z8.out
                  have h0 := af 0; have h1 := af 1; have h2 := af 2
                  clear b7 af
                  by_cases he : fcT 0 (0) (0) = s
                  · have SO := Lib.hid (show sok s = true by rw [HO.out, ho, he]; simp)
                    rw [he]
                    clear he
                    go_wp2_with fail
                    have hX := ((Z8.out.set0 (0)).set1 (0)).set2 (0)
                    refine specReadFact_ret (g := w.heap.size) (by rfl) (by rfl) (by rfl) hX ⟨by rw [rfS, SO.out, KD.out, HP.out, HC4.out]; rfl, ?_⟩
                    repeat (refine sub_setCell2 (by simp) ?_ _)
                    exact B8.out
                  · have SO := Lib.hid (show sok s = false by rw [HO.out, ho]; simp [he])
                    have qe := toList_ne he
                    clear he
                    go_wp2_with fail
                    have hX := ((Z8.out.set0 0).set1 0).set2 0
                    refine specReadFact_ret (g := w.heap.size) (by rfl) (by rfl) (by rfl) hX ⟨by rw [rfS, SO.out]; rfl, ?_⟩
                    repeat (refine sub_setCell2 (by simp) ?_ _)
                    exact B8.out
/-! ### impl.ReadFact -/
def wd : Nat → ByteArray
  | 0 => (⟨#[116, 97, 107, 101]⟩ : ByteArray)
  | 1 => (⟨#[115, 111, 119]⟩ : ByteArray)
  | 2 => (⟨#[99, 97, 112, 116, 117, 114, 101]⟩ : ByteArray)
  | 3 => (⟨#[115, 112, 97, 114, 101]⟩ : ByteArray)
  | 4 => (⟨#[97, 103, 97, 105, 110]⟩ : ByteArray)
  | _ => (⟨#[116, 117, 114, 110]⟩ : ByteArray)
def kdk (t : ByteArray) : Nat → Int
  | 0 => 0
  | k + 1 => if t = wd k then (k : Int) + 1 else kdk t k
theorem kdk_kd (t : ByteArray) : kdk t 6 = kd t := by
  simp only [kdk, wd, kd]
  by_cases k0 : t = (⟨#[116, 97, 107, 101]⟩ : ByteArray)
  · subst k0; decide +kernel
  by_cases k1 : t = (⟨#[115, 111, 119]⟩ : ByteArray)
  · subst k1; decide +kernel
  by_cases k2 : t = (⟨#[99, 97, 112, 116, 117, 114, 101]⟩ : ByteArray)
  · subst k2; decide +kernel
  by_cases k3 : t = (⟨#[115, 112, 97, 114, 101]⟩ : ByteArray)
  · subst k3; decide +kernel
  by_cases k4 : t = (⟨#[97, 103, 97, 105, 110]⟩ : ByteArray)
  · subst k4; decide +kernel
  by_cases k5 : t = (⟨#[116, 117, 114, 110]⟩ : ByteArray)
  · subst k5; decide +kernel
  simp only [if_neg k0, if_neg k1, if_neg k2, if_neg k3, if_neg k4, if_neg k5]
def rfI (s : ByteArray) : Value := .tuple #[.agg #[.int .i64 (if iok s = true then kd (w_ s 0) else 0), .int .i64 (if iok s = true then imP s else 0), .int .i64 (if iok s = true then rfC s else 0)], .bool (iok s)]
theorem implReadFact_ret {Post : Ending → World → Prop} {a : Act} {W : World} {g : Nat} {k p c : Int} {b : Bool} (ha : a.tmps.getD 2 undef = .pointer (some ⟨g, 0, none⟩)) (hb : a.tmps.getD 3 undef = .bool b) (hd : a.defers = []) (hr : FX W g k p c) (hP : Post (.returned (.tuple #[.agg #[.int .i64 k, .int .i64 p, .int .i64 c], .bool b])) W) : bodyPost Tryd.prog Tryd.f19 Post Exit.ret a W := by
  obtain ⟨c0, c1, c2, -⟩ := hr
  refine bodyPost_ret (v := .tuple #[.agg #[.int .i64 k, .int .i64 p, .int .i64 c], .bool b]) ?_ hd hP
  obtain ⟨tmps, defers⟩ := a
  simp only [Array.getD_eq_getD_getElem?] at ha hb
  simp [results, Tryd.results19, go_sem, ha, hb, c0, c1, c2]
set_option maxRecDepth 100000 in
set_option maxHeartbeats 16000000 in
theorem implReadFact_any (s : ByteArray) (hs : s.size ≤ 1048576) (w : World) (ht : Tab w) : Calls Tryd.prog 19 #[.string s] w fun e w' => e = .returned (rfI s) ∧ Below w.heap.size w w' := by
  have bw := Lib.hid (show Below w.heap.size w (w.alloc (.cells #[.int .i64 0, .int .i64 0, .int .i64 0] 29)) from (by repeat (first | with_reducible exact Below.refl _ _ | with_reducible assumption | with_reducible refine sub_alloc ?_ _ | (with_reducible refine sub_setCell2 ?_ ?_ _; (focus (first | (simp; done) | (simp <;> omega)))) | with_reducible refine sub_drew ?_ | with_reducible refine below_drewN ?_ _ | with_reducible refine sub_step (by assumption) ?_ (by first | rfl | (simp; done)) | exact Below.refl _ _ | assumption | refine sub_alloc ?_ _ | refine sub_setCell ?_ (by simp <;> omega) _ | refine sub_drew ?_ | refine below_drewN ?_ _ | refine sub_step (by assumption) ?_ (by first | rfl | (simp; done)))))
  have Z0 := Lib.hid (FX.box w 29 0 0 0)
  have hal := spAll_ne 32 s
  have hsz := spAll_size 32 s
  have HT := Lib.hid ht
  clear ht
  go_enter Tryd.func19, Tryd.ntmps19
  go_wp2_with fail
  refine (parts_any s _ hs).mono ?_
  rintro e w1 ⟨B, cb, rfl, o1, b1⟩
  have Z1 := Lib.hid (Z0.out.below b1 (by simp))
  have B1 := Lib.hid (sub_step b1 bw.out rfl)
  have O1 := Lib.hid o1
  have lt1 := Z1.out.lt
  clear b1 o1 Z0 bw
  obtain ⟨bb, off, rfl, hbb, hc⟩ := O1.out.ints.at_ hal
  obtain ⟨t0, ht0⟩ := t_get_some (zs := spAll 32 s) (k := 0) hal
  have x0 := Lib.hid (hc 0 t0 ht0)
  have e0 := Lib.hid (show w_ s 0 = t0 by simp [w_, List.getD, ht0])
  have X1 := Lib.hid (FX.box w1 29 0 0 0)
  have Z2 := Lib.hid (Z1.out.alloc (.cells #[.int .i64 0, .int .i64 0, .int .i64 0] 29))
  have B2 := Lib.hid (sub_alloc B1.out (.cells #[.int .i64 0, .int .i64 0, .int .i64 0] 29))
  have D2 := Lib.hid (show Below w1.heap.size w1 (w1.alloc (.cells #[.int .i64 0, .int .i64 0, .int .i64 0] 29)) from (by repeat (first | with_reducible exact Below.refl _ _ | with_reducible assumption | with_reducible refine sub_alloc ?_ _ | (with_reducible refine sub_setCell2 ?_ ?_ _; (focus (first | (simp; done) | (simp <;> omega)))) | with_reducible refine sub_drew ?_ | with_reducible refine below_drewN ?_ _ | with_reducible refine sub_step (by assumption) ?_ (by first | rfl | (simp; done)) | exact Below.refl _ _ | assumption | refine sub_alloc ?_ _ | refine sub_setCell ?_ (by simp <;> omega) _ | refine sub_drew ?_ | refine below_drewN ?_ _ | refine sub_step (by assumption) ?_ (by first | rfl | (simp; done)))))
  have HC := Lib.hid hc
  clear Z1 B1 hc ht0
  go_upto_region 3 with fail
  refine named (fun w' => FX w' w1.heap.size 0 0 0 ∧ FX w' w.heap.size 0 0 0 ∧ Below w.heap.size w w' ∧ Below w1.heap.size w1 w') ⟨X1.out, Z2.out, B2.out, D2.out⟩ ?_
  clear X1 Z2 B2 D2
  rintro W ⟨X, Z, BB, DD⟩
  have XX := Lib.hid X
  have ZZ := Lib.hid Z
  have B2 := Lib.hid BB
  have D2 := Lib.hid DD
  have lt2 := X.lt
  clear X Z BB DD
  go_wp2_with fail
  go_loopw [13] (fun i wr => ∃ k : Nat, i = .int .i64 k ∧ k ≤ 6 ∧ FX wr w1.heap.size (kdk t0 k) 0 0 ∧ FX wr w.heap.size 0 0 0 ∧ Hid (∀ j, j < 6 → wr.cell? ⟨W.heap.size, j, none⟩ = some (.string (wd j))) ∧ Below w.heap.size w wr ∧ Below w1.heap.size w1 wr) (fun i _ => 6 - (intOf i).toNat)
  case atStart =>
    refine ⟨0, rfl, by omega, XX.out.alloc _, ZZ.out.alloc _, Lib.hid (fun j hj => ?_), sub_alloc B2.out _, sub_alloc D2.out _⟩
    match j, hj with
    | 0, _ => simp [World.cell?_alloc_new, wd]
    | 1, _ => simp [World.cell?_alloc_new, wd]
    | 2, _ => simp [World.cell?_alloc_new, wd]
    | 3, _ => simp [World.cell?_alloc_new, wd]
    | 4, _ => simp [World.cell?_alloc_new, wd]
    | 5, _ => simp [World.cell?_alloc_new, wd]
  case round =>
    obtain ⟨k, rfl, hk, X, Z, hw, BB, DD⟩ := hrel
    have y0 : wr.cell? ⟨bb, off, none⟩ = some (.string t0) := (DD.cell (p := ⟨bb, off + 0, none⟩) hbb).trans x0.out
    by_cases hlt : k < 6
    · have X3 := Lib.hid X
      have Z3 := Lib.hid Z
      have B3 := Lib.hid BB
      have D3 := Lib.hid DD
      have cw := hw.out k hlt
      obtain ⟨c0, c1, c2, cf⟩ := X
      have g0 := cf 0
      have i0 : (0 : Int) ≤ (k : Int) := by omega
      have i1 : (k : Int) < 6 := by omega
      have iw : IntKind.i64.wrap ((k : Int) + 1) = (k : Int) + 1 := IntWalk.i64_in _ (by omega)
      clear XX ZZ B2 D2 Z BB DD cf
      by_cases hq : t0 = wd k
      · have q := litW hq
        have HKK := Lib.hid (show kdk t0 (k + 1) = (k : Int) + 1 by rw [kdk, if_pos hq])
        have XY := Lib.hid (X3.out.set0 ((k : Int) + 1))
        have ZY := Lib.hid (Z3.out.other ⟨w1.heap.size, 0, none⟩ (by simp; omega) (.int .i64 ((k : Int) + 1)))
        have BY := Lib.hid (sub_setCell2 (p := ⟨w1.heap.size, 0, none⟩) (by simp; omega) B3.out (.int .i64 ((k : Int) + 1)))
        have DY := Lib.hid (sub_setCell2 (p := ⟨w1.heap.size, 0, none⟩) (by simp) D3.out (.int .i64 ((k : Int) + 1)))
        have HW := Lib.hid (show ∀ j, j < 6 → (wr.setCell ⟨w1.heap.size, 0, none⟩ (.int .i64 ((k : Int) + 1))).cell? ⟨W.heap.size, j, none⟩ = some (.string (wd j)) from fun j hj => (World.cell?_setCell_other wr _ _ _ (by intro e; have := congrArg Addr.block e; simp at this; omega)).trans (hw.out j hj))
        clear hq hw X3 Z3 B3 D3
        go_wp2_with fail
        go_roundw
        case rel => exact ⟨k + 1, by go_num, by omega, by rw [HKK.out]; exact XY.out, ZY.out, HW, BY.out, DY.out⟩
        case measure => simp [intOf]; omega
      · have q := litWF hq
        have HKK := Lib.hid (show kdk t0 (k + 1) = kdk t0 k by rw [kdk, if_neg hq])
        clear hq
        go_wp2_with fail
        go_roundw
        case rel => exact ⟨k + 1, by go_num, by omega, by rw [HKK.out]; exact X3.out, Z3.out, hw, B3.out, D3.out⟩
        case measure => simp [intOf]; omega
    · have hke : k = 6 := by omega
      subst hke
      have KD := Lib.hid (show kd (w_ s 0) = kdk t0 6 by rw [e0.out, kdk_kd])
      have X3 := Lib.hid X
      have Z3 := Lib.hid Z
      have B3 := Lib.hid BB
      have D3 := Lib.hid DD
      clear hw X Z BB DD XX ZZ B2 D2 y0
      generalize kdk t0 6 = v at *
      go_upto_region 9 with fail
      refine named (fun w' => FX w' w1.heap.size v 0 0 ∧ FX w' w.heap.size 0 0 0 ∧ Below w.heap.size w w' ∧ Below w1.heap.size w1 w') ⟨X3.out, Z3.out, B3.out, D3.out⟩ ?_
      clear X3 Z3 B3 D3
      rintro V ⟨X, Z, BB, DD⟩
      have XX := Lib.hid X
      have ZZ := Lib.hid Z
      have B2 := Lib.hid BB
      have D2 := Lib.hid DD
      obtain ⟨c0, c1, c2, cf⟩ := X
      have g1 := cf 1; have g2 := cf 2
      clear Z BB DD cf
      by_cases h4 : (spAll 32 s).length = 4
      · obtain ⟨t1, ht1⟩ := t_get_some (zs := spAll 32 s) (k := 1) (by omega)
        obtain ⟨t3, ht3⟩ := t_get_some (zs := spAll 32 s) (k := 3) (by omega)
        have y1 := (D2.out.cell (p := ⟨bb, off + 1, none⟩) hbb).trans (HC.out 1 t1 ht1)
        have y3 := HC.out 3 t3 ht3
        have f1 := Lib.hid (show w_ s 1 = t1 by simp [w_, List.getD, ht1])
        have f3 := Lib.hid (show w_ s 3 = t3 by simp [w_, List.getD, ht3])
        have z1 : t1.size ≤ 1048576 := Nat.le_trans (hsz t1 (List.mem_of_getElem? ht1)) hs
        have z3 : t3.size ≤ 1048576 := Nat.le_trans (hsz t3 (List.mem_of_getElem? ht3)) hs
        have HC4 := Lib.hid (show rfC s = rdN t1 by rw [rfC, if_pos h4, f1.out])
        have HP4 := Lib.hid (show imP s = if t3 = (⟨#[115, 116, 111, 114, 101]⟩ : ByteArray) then -1 else rdN t3 by rw [imP, if_pos h4, f3.out])
        have j4 : (((spAll 32 s).length : Int) == 4) = true := by simp; omega
        generalize (spAll 32 s).length = len at *
        subst h4
        clear ht1 ht3 hsz
        go_wp2_with fail
        refine (implRead_any t1 z1 _ (by exact HT.out.below B2.out (Nat.le_refl _))).mono ?_
        rintro e w2 ⟨rfl, b2⟩
        have XA := Lib.hid ((XX.out.below b2 XX.out.lt).set2 (rdN t1))
        have ZA := Lib.hid ((ZZ.out.below b2 ZZ.out.lt).other ⟨w1.heap.size, 2, none⟩ (by simp; omega) (.int .i64 (rdN t1)))
        have BA := Lib.hid (sub_setCell2 (p := ⟨w1.heap.size, 2, none⟩) (by simp; omega) (B2.out.trans (b2.mono B2.out.size)) (.int .i64 (rdN t1)))
        have DA := Lib.hid (sub_setCell2 (p := ⟨w1.heap.size, 2, none⟩) (by simp) (D2.out.trans (b2.mono D2.out.size)) (.int .i64 (rdN t1)))
        obtain ⟨c0, c1, c2, cf⟩ := XX.out.below b2 XX.out.lt
        have g2 := cf 2
        clear b2 y1 XX ZZ B2 D2 cf
        go_upto_region 11 with fail
        refine named (fun w' => FX w' w1.heap.size v 0 (rdN t1) ∧ FX w' w.heap.size 0 0 0 ∧ Below w.heap.size w w' ∧ Below w1.heap.size w1 w') ⟨XA.out, ZA.out, BA.out, DA.out⟩ ?_
        clear XA ZA BA DA c0 c1 c2 g2
        rintro V2 ⟨X, Z, BB, DD⟩
        have XX := Lib.hid X
        have ZZ := Lib.hid Z
        have B2 := Lib.hid BB
        have D2 := Lib.hid DD
        have y3' := (D2.out.cell (p := ⟨bb, off + 3, none⟩) hbb).trans y3
        clear X Z BB DD
        go_wp2_with fail
        refine (implRead_any t3 z3 _ (by exact HT.out.below B2.out (Nat.le_refl _))).mono ?_
        rintro e w3 ⟨rfl, b2⟩
        have XA := Lib.hid ((XX.out.below b2 XX.out.lt).set1 (rdN t3))
        have ZA := Lib.hid ((ZZ.out.below b2 ZZ.out.lt).other ⟨w1.heap.size, 1, none⟩ (by simp; omega) (.int .i64 (rdN t3)))
        have BA := Lib.hid (sub_setCell2 (p := ⟨w1.heap.size, 1, none⟩) (by simp; omega) (B2.out.trans (b2.mono B2.out.size)) (.int .i64 (rdN t3)))
        have DA := Lib.hid (sub_setCell2 (p := ⟨w1.heap.size, 1, none⟩) (by simp) (D2.out.trans (b2.mono D2.out.size)) (.int .i64 (rdN t3)))
        obtain ⟨c0, c1, c2, cf⟩ := XX.out.below b2 XX.out.lt
        have g1 := cf 1
        clear b2 y3' XX ZZ B2 D2 cf
        go_upto_region 12 with fail
        refine named (fun w' => FX w' w1.heap.size v (rdN t3) (rdN t1) ∧ FX w' w.heap.size 0 0 0 ∧ Below w.heap.size w w' ∧ Below w1.heap.size w1 w') ⟨XA.out, ZA.out, BA.out, DA.out⟩ ?_
        clear XA ZA BA DA c0 c1 c2 g1
        rintro V3 ⟨X, Z, BB, DD⟩
        have XX := Lib.hid X
        have ZZ := Lib.hid Z
        have B2 := Lib.hid BB
        have D2 := Lib.hid DD
        have y3' := (D2.out.cell (p := ⟨bb, off + 3, none⟩) hbb).trans y3
        obtain ⟨c0, c1, c2, cf⟩ := X
        have g1 := cf 1
        clear Z BB DD y3
        by_cases ht : t3 = (⟨#[115, 116, 111, 114, 101]⟩ : ByteArray)
        · have HP := Lib.hid (show imP s = -1 by rw [HP4.out, if_pos ht])
          have q := litT ht
          have XA := Lib.hid (XX.out.set1 (-1))
          have ZA := Lib.hid (ZZ.out.other ⟨w1.heap.size, 1, none⟩ (by simp; omega) (.int .i64 (-1)))
          have BA := Lib.hid (sub_setCell2 (p := ⟨w1.heap.size, 1, none⟩) (by simp; omega) B2.out (.int .i64 (-1)))
          clear ht XX ZZ B2 D2 HP4
          go_upto_region 14 with fail
          refine named (fun w' => FX w' w1.heap.size v (-1) (rdN t1) ∧ FX w' w.heap.size 0 0 0 ∧ Below w.heap.size w w') ⟨XA.out, ZA.out, BA.out⟩ ?_
          clear XA ZA BA c0 c1 c2 g1 cf y3'
          rintro W4 ⟨X, Z, BB⟩
          have ZZ := Lib.hid Z
          have XX := Lib.hid X
          have B6 := Lib.hid BB
          obtain ⟨c0, c1, c2, -⟩ := X
          clear Z BB
          have HO := Lib.hid (show iok s = (decide (fcT v (-1) (rdN t1) = s) && decide (0 < s.size)) by rw [iok, KD.out, HP.out, HC4.out])
          go_wp2_with fail
          refine (implFactText_any _ _ _ _ (by exact HT.out.below B6.out (Nat.le_refl _))).mono ?_
          rintro e w7 ⟨rfl, b7⟩
          have Z8 := Lib.hid (ZZ.out.below b7 ZZ.out.lt)
          have X8 := Lib.hid (XX.out.below b7 XX.out.lt)
          have B8 := Lib.hid (B6.out.trans (b7.mono B6.out.size))
          obtain ⟨c0, c1, c2, -⟩ := X8.out
          obtain ⟨a0, a1, a2, af⟩ := Z8.out
          have h0 := af 0; have h1 := af 1; have h2 := af 2
          clear b7 af
          by_cases he : fcT v (-1) (rdN t1) = s
          · rw [he] at HO
            rw [he]
            clear he
            by_cases hz : 0 < s.size
            · have SO := Lib.hid (show iok s = true by rw [HO.out]; simp [hz])
              obtain ⟨z1, z2⟩ := nilD hz
              clear HO
              go_wp2_with fail
              have hX := ((Z8.out.set0 v).set1 (-1)).set2 (rdN t1)
              refine implReadFact_ret (g := w.heap.size) (by rfl) (by rfl) (by rfl) hX ⟨by rw [rfI, SO.out, KD.out, HP.out, HC4.out]; rfl, ?_⟩
              repeat (refine sub_setCell2 (by simp) ?_ _)
              exact B8.out
            · have SO := Lib.hid (show iok s = false by rw [HO.out]; simp [hz])
              have z1 : (s.toList == []) = true := by rw [emptyS hz]; simp [ByteArray.toList_eq]
              have z2 : (([] : List UInt8) == s.toList) = true := by rw [emptyS hz]; simp [ByteArray.toList_eq]
              clear HO
              go_wp2_with fail
              have hX := ((Z8.out.set0 0).set1 0).set2 0
              refine implReadFact_ret (g := w.heap.size) (by rfl) (by rfl) (by rfl) hX ⟨by rw [rfI, SO.out]; rfl, ?_⟩
              repeat (refine sub_setCell2 (by simp) ?_ _)
              exact B8.out
          · have SO := Lib.hid (show iok s = false by rw [HO.out]; simp [he])
            have qe := toList_ne he
            clear he HO
            go_wp2_with fail
            have hX := ((Z8.out.set0 0).set1 0).set2 0
            refine implReadFact_ret (g := w.heap.size) (by rfl) (by rfl) (by rfl) hX ⟨by rw [rfI, SO.out]; rfl, ?_⟩
            repeat (refine sub_setCell2 (by simp) ?_ _)
            exact B8.out
        · have HP := Lib.hid (show imP s = rdN t3 by rw [HP4.out, if_neg ht])
          have q := litF ht
          clear ht D2 HP4
          go_upto_region 14 with fail
          refine named (fun w' => FX w' w1.heap.size v (rdN t3) (rdN t1) ∧ FX w' w.heap.size 0 0 0 ∧ Below w.heap.size w w') ⟨XX.out, ZZ.out, B2.out⟩ ?_
          clear XX ZZ B2 c0 c1 c2 g1 cf y3'
          rintro W4 ⟨X, Z, BB⟩
          have ZZ := Lib.hid Z
          have XX := Lib.hid X
          have B6 := Lib.hid BB
          obtain ⟨c0, c1, c2, -⟩ := X
          clear Z BB
          have HO := Lib.hid (show iok s = (decide (fcT v (rdN t3) (rdN t1) = s) && decide (0 < s.size)) by rw [iok, KD.out, HP.out, HC4.out])
          go_wp2_with fail
          refine (implFactText_any _ _ _ _ (by exact HT.out.below B6.out (Nat.le_refl _))).mono ?_
          rintro e w7 ⟨rfl, b7⟩
          have Z8 := Lib.hid (ZZ.out.below b7 ZZ.out.lt)
          have X8 := Lib.hid (XX.out.below b7 XX.out.lt)
          have B8 := Lib.hid (B6.out.trans (b7.mono B6.out.size))
          obtain ⟨c0, c1, c2, -⟩ := X8.out
          obtain ⟨a0, a1, a2, af⟩ := Z8.out
          have h0 := af 0; have h1 := af 1; have h2 := af 2
          clear b7 af
          by_cases he : fcT v (rdN t3) (rdN t1) = s
          · rw [he] at HO
            rw [he]
            clear he
            by_cases hz : 0 < s.size
            · have SO := Lib.hid (show iok s = true by rw [HO.out]; simp [hz])
              obtain ⟨z1, z2⟩ := nilD hz
              clear HO
              go_wp2_with fail
              have hX := ((Z8.out.set0 v).set1 (rdN t3)).set2 (rdN t1)
              refine implReadFact_ret (g := w.heap.size) (by rfl) (by rfl) (by rfl) hX ⟨by rw [rfI, SO.out, KD.out, HP.out, HC4.out]; rfl, ?_⟩
              repeat (refine sub_setCell2 (by simp) ?_ _)
              exact B8.out
            · have SO := Lib.hid (show iok s = false by rw [HO.out]; simp [hz])
              have z1 : (s.toList == []) = true := by rw [emptyS hz]; simp [ByteArray.toList_eq]
              have z2 : (([] : List UInt8) == s.toList) = true := by rw [emptyS hz]; simp [ByteArray.toList_eq]
              clear HO
              go_wp2_with fail
              have hX := ((Z8.out.set0 0).set1 0).set2 0
              refine implReadFact_ret (g := w.heap.size) (by rfl) (by rfl) (by rfl) hX ⟨by rw [rfI, SO.out]; rfl, ?_⟩
              repeat (refine sub_setCell2 (by simp) ?_ _)
              exact B8.out
          · have SO := Lib.hid (show iok s = false by rw [HO.out]; simp [he])
            have qe := toList_ne he
            clear he HO
            go_wp2_with fail
            have hX := ((Z8.out.set0 0).set1 0).set2 0
            refine implReadFact_ret (g := w.heap.size) (by rfl) (by rfl) (by rfl) hX ⟨by rw [rfI, SO.out]; rfl, ?_⟩
            repeat (refine sub_setCell2 (by simp) ?_ _)
            exact B8.out
      · have j4 : (((spAll 32 s).length : Int) == 4) = false := by simp; omega
        have HC4 := Lib.hid (show rfC s = 0 by rw [rfC, if_neg h4])
        have HP := Lib.hid (show imP s = 0 by rw [imP, if_neg h4])
        clear h4 hsz D2
        go_upto_region 14 with fail
        refine named (fun w' => FX w' w1.heap.size v 0 0 ∧ FX w' w.heap.size 0 0 0 ∧ Below w.heap.size w w') ⟨XX.out, ZZ.out, B2.out⟩ ?_
        clear XX ZZ B2 c0 c1 c2 g1 g2
        rintro W4 ⟨X, Z, BB⟩
        have ZZ := Lib.hid Z
        have XX := Lib.hid X
        have B6 := Lib.hid BB
        obtain ⟨c0, c1, c2, -⟩ := X
        clear Z BB
        have HO := Lib.hid (show iok s = (decide (fcT v (0) (0) = s) && decide (0 < s.size)) by rw [iok, KD.out, HP.out, HC4.out])
        go_wp2_with fail
        refine (implFactText_any _ _ _ _ (by exact HT.out.below B6.out (Nat.le_refl _))).mono ?_
        rintro e w7 ⟨rfl, b7⟩
        have Z8 := Lib.hid (ZZ.out.below b7 ZZ.out.lt)
        have X8 := Lib.hid (XX.out.below b7 XX.out.lt)
        have B8 := Lib.hid (B6.out.trans (b7.mono B6.out.size))
        obtain ⟨c0, c1, c2, -⟩ := X8.out
        obtain ⟨a0, a1, a2, af⟩ := Z8.out
        have h0 := af 0; have h1 := af 1; have h2 := af 2
        clear b7 af
        by_cases he : fcT v (0) (0) = s
        · rw [he] at HO
          rw [he]
          clear he
          by_cases hz : 0 < s.size
          · have SO := Lib.hid (show iok s = true by rw [HO.out]; simp [hz])
            obtain ⟨z1, z2⟩ := nilD hz
            clear HO
            go_wp2_with fail
            have hX := ((Z8.out.set0 v).set1 (0)).set2 (0)
            refine implReadFact_ret (g := w.heap.size) (by rfl) (by rfl) (by rfl) hX ⟨by rw [rfI, SO.out, KD.out, HP.out, HC4.out]; rfl, ?_⟩
            repeat (refine sub_setCell2 (by simp) ?_ _)
            exact B8.out
          · have SO := Lib.hid (show iok s = false by rw [HO.out]; simp [hz])
            have z1 : (s.toList == []) = true := by rw [emptyS hz]; simp [ByteArray.toList_eq]
            have z2 : (([] : List UInt8) == s.toList) = true := by rw [emptyS hz]; simp [ByteArray.toList_eq]
            clear HO
            go_wp2_with fail
            have hX := ((Z8.out.set0 0).set1 0).set2 0
            refine implReadFact_ret (g := w.heap.size) (by rfl) (by rfl) (by rfl) hX ⟨by rw [rfI, SO.out]; rfl, ?_⟩
            repeat (refine sub_setCell2 (by simp) ?_ _)
            exact B8.out
        · have SO := Lib.hid (show iok s = false by rw [HO.out]; simp [he])
          have qe := toList_ne he
          clear he HO
          go_wp2_with fail
          have hX := ((Z8.out.set0 0).set1 0).set2 0
          refine implReadFact_ret (g := w.heap.size) (by rfl) (by rfl) (by rfl) hX ⟨by rw [rfI, SO.out]; rfl, ?_⟩
          repeat (refine sub_setCell2 (by simp) ?_ _)
          exact B8.out
theorem rfI_rfS (s : ByteArray) : rfI s = rfS s := by
  rw [rfI, rfS, sok_iok]
  by_cases h : sok s = true
  · rw [(sok_p s).1 h]
  · simp [h]
theorem rfS_is (s : ByteArray) : ∃ k p c b, rfS s = .tuple #[.agg #[.int .i64 k, .int .i64 p, .int .i64 c], .bool b] := ⟨_, _, _, _, rfl⟩
theorem lawRF_b (b : Bool) : (b != b) = false := by cases b <;> rfl
theorem eqFact_same (k p c : Int) (w : World) : Calls Tryd.prog 20 #[.agg #[.int .i64 k, .int .i64 p, .int .i64 c], .agg #[.int .i64 k, .int .i64 p, .int .i64 c]] w fun e w' => e = .returned (.bool true) ∧ Below w.heap.size w w' := by
  go_enter Tryd.func20, Tryd.ntmps20
  go_wp2_with fail
  go_ret
  exact ⟨rfl, (by repeat (first | with_reducible exact Below.refl _ _ | with_reducible assumption | with_reducible refine sub_alloc ?_ _ | (with_reducible refine sub_setCell2 ?_ ?_ _; (focus (first | (simp; done) | (simp <;> omega)))) | with_reducible refine sub_drew ?_ | with_reducible refine below_drewN ?_ _ | with_reducible refine sub_step (by assumption) ?_ (by first | rfl | (simp; done)) | exact Below.refl _ _ | assumption | refine sub_alloc ?_ _ | refine sub_setCell ?_ (by simp <;> omega) _ | refine sub_drew ?_ | refine below_drewN ?_ _ | refine sub_step (by assumption) ?_ (by first | rfl | (simp; done))))⟩
set_option maxRecDepth 100000 in
set_option maxHeartbeats 4000000 in
theorem FnExactReadFact_walk (s : ByteArray) (w : World) (h : s.size ≤ maxLen) (ht : Tab w) : Calls Tryd.prog 4 #[.string s] w fun e w' => e = .returned (.bool true) ∧ Below w.heap.size w w' := by
  unfold maxLen at h
  have HT := Lib.hid ht
  clear ht
  by_cases hs : 1048576 < s.size
  · have j0 : (1048576 : Int) < (s.size : Int) := by omega
    go_enter Tryd.func4, Tryd.ntmps4
    go_wp2_with fail
    go_ret
    exact ⟨rfl, Below.refl _ _⟩
  have hs' : s.size ≤ 1048576 := by omega
  have j0 : ¬ ((1048576 : Int) < (s.size : Int)) := by omega
  obtain ⟨k, p, c, b, hr⟩ := rfS_is s
  have HR := Lib.hid hr
  have HB := Lib.hid (lawRF_b b)
  clear hr
  go_enter Tryd.func4, Tryd.ntmps4
  go_wp2_with fail
  refine (specReadFact_any s hs' _).mono ?_
  rintro e w1 ⟨rfl, b1⟩
  rw [HR.out]
  have B1 := Lib.hid b1
  have Z1 := Lib.hid (FX.box w1 29 k p c)
  have B2 := Lib.hid (sub_alloc b1 (.cells #[.int .i64 k, .int .i64 p, .int .i64 c] 29))
  clear b1
  go_upto_region 4 with fail
  refine named (fun w' => FX w' w1.heap.size k p c ∧ Below w.heap.size w w') ⟨Z1.out, B2.out⟩ ?_
  clear Z1 B2
  rintro W ⟨X, BB⟩
  have XX := Lib.hid X
  have B2 := Lib.hid BB
  clear X BB
  go_wp2_with fail
  refine (implReadFact_any s hs' _ (by exact HT.out.below B2.out (Nat.le_refl _))).mono ?_
  rintro e w2 ⟨rfl, b2⟩
  rw [rfI_rfS, HR.out]
  have X2 := Lib.hid ((XX.out.below b2 XX.out.lt).alloc (.cells #[.int .i64 k, .int .i64 p, .int .i64 c] 29))
  have Z2 := Lib.hid (FX.box w2 29 k p c)
  have B3 := Lib.hid (sub_alloc (B2.out.trans (b2.mono B2.out.size)) (.cells #[.int .i64 k, .int .i64 p, .int .i64 c] 29))
  clear b2 XX B2
  go_upto_region 5 with fail
  refine named (fun w' => FX w' w1.heap.size k p c ∧ FX w' w2.heap.size k p c ∧ Below w.heap.size w w') ⟨X2.out, Z2.out, B3.out⟩ ?_
  clear X2 Z2 B3
  rintro V ⟨X, Z, BB⟩
  have B4 := Lib.hid BB
  obtain ⟨c0, c1, c2, -⟩ := X
  obtain ⟨d0, d1, d2, -⟩ := Z
  clear BB
  go_wp2_with fail
  refine (eqFact_same k p c _).mono ?_
  rintro e w3 ⟨rfl, b3⟩
  have B5 := Lib.hid (B4.out.trans (b3.mono B4.out.size))
  clear b3
  cases b <;> (go_wp2_with fail; go_ret; exact ⟨rfl, B5.out⟩)
end Go.Proofs.YtnanaldolnehiabDoor
