/-
  A slice of bytes that came in; a2Long, a2At.
-/
import Derived.Test.YtnanaldolnehiaaArgs
set_option linter.unusedSimpArgs false
set_option linter.unusedVariables false
namespace Go.Proofs.Ytnanaldolnehiaa
open Go.ChangeShapes Go.WideShapes Go.RowKit Go.Deep

/-- The slice value '.slice A n c' holds the bytes zs; their cells lie below block B. -/
def Bys (w : World) (B : Nat) (A : Option Addr) (n c : Nat) (zs : List Int) : Prop :=
  zs.length = n ∧ n ≤ c ∧ c ≤ 9223372036854775807 ∧ (A = none → n = 0 ∧ c = 0) ∧ (0 < n → ∃ b off, A = some ⟨b, off, none⟩ ∧ b < B ∧ ∀ j x, zs[j]? = some x → w.cell? ⟨b, off + j, none⟩ = some (.int .u8 x)) ∧ ∀ z ∈ zs, 0 ≤ z ∧ z ≤ 255
section
variable {w w' : World} {B B' n c : Nat} {A : Option Addr} {zs : List Int}
theorem Bys.len (h : Bys w B A n c zs) : zs.length = n := h.1
theorem Bys.le (h : Bys w B A n c zs) : n ≤ 9223372036854775807 := Nat.le_trans h.2.1 h.2.2.1
theorem Bys.at_ (h : Bys w B A n c zs) (hn : 0 < n) : ∃ b off, A = some ⟨b, off, none⟩ ∧ b < B ∧ ∀ j x, zs[j]? = some x → w.cell? ⟨b, off + j, none⟩ = some (.int .u8 x) := h.2.2.2.2.1 hn
theorem Bys.bd (h : Bys w B A n c zs) : ∀ z ∈ zs, 0 ≤ z ∧ z ≤ 255 := h.2.2.2.2.2
theorem Bys.keep (h : Bys w B A n c zs) (hk : ∀ p : Addr, p.block < B → w'.cell? p = w.cell? p) : Bys w' B A n c zs :=
  ⟨h.1, h.2.1, h.2.2.1, h.2.2.2.1, fun hn => by
    obtain ⟨b, off, e, hb, hc⟩ := h.at_ hn
    exact ⟨b, off, e, hb, fun j x hx => (hk _ hb).trans (hc j x hx)⟩, h.2.2.2.2.2⟩
theorem Bys.more (h : Bys w B A n c zs) (hB : B ≤ B') : Bys w B' A n c zs :=
  ⟨h.1, h.2.1, h.2.2.1, h.2.2.2.1, fun hn => by
    obtain ⟨b, off, e, hb, hc⟩ := h.at_ hn
    exact ⟨b, off, e, by omega, hc⟩, h.2.2.2.2.2⟩
theorem Bys.below (h : Bys w B A n c zs) (hb : Below B w w') : Bys w' B A n c zs := h.keep fun _ hp => hb.cell hp
theorem Bys.sub (h : Bys w w.heap.size A n c zs) (hs : Below w.heap.size w w') : Bys w' w'.heap.size A n c zs := (h.below hs).more hs.size
end
theorem bget {zs : List Int} {k : Nat} (h : k < zs.length) : ∃ x, zs[k]? = some x := ⟨_, List.getElem?_eq_getElem h⟩
theorem open_by {H : Type} {enc : TypeId × Value → H} {P : Program} {w : World} {base : Nat} {spare : Nat → Bool} {held : Bool} {t e : TypeId} {fuel : Nat} {v : Value} {x : DataW H × List MemPlace} (ht : P.underlying t = some (.slice e)) (he : P.underlying e = some (.int .u8)) (hc : P.cellsOf e = 1)
    (h : DataW.trod enc P w base spare held fuel t [v] = some x) :
    ∃ A n c zs, v = .slice A n c ∧ Bys w w.heap.size A n c zs := by
  rcases open_ints ht he hc h with ⟨hcs, _⟩ | ⟨a, len, cap, zs, hcs, _, hl, hm, hz, _, hcell, hwz⟩
  · simp at hcs
    exact ⟨none, 0, 0, [], hcs, rfl, by omega, by omega, fun _ => ⟨rfl, rfl⟩, fun h => by omega, fun z hz => by cases hz⟩
  · simp at hcs
    unfold maxLen at hm
    have hle : zs.length = cap ∨ zs.length = len := by
      split at hz <;> simp_all
    refine ⟨some a, len, cap, zs.take len, hcs, by simp; omega, hl, by omega, (fun h => by cases h), fun hn => ?_, fun z hz => bounds_u8 (hwz z (List.mem_of_mem_take hz))⟩
    obtain ⟨b, off, spot⟩ := a
    have h0 := hcell 0 (by omega)
    have hspot : spot = none := by simpa [Addr.add] using World.cell?_spot h0
    subst hspot
    have hb : b < w.heap.size := by
      have := lt_of_cell h0
      simpa [Addr.add] using this
    refine ⟨b, off, rfl, hb, fun j y hy => ?_⟩
    have hj : j < zs.length := by
      have := (List.getElem?_eq_some_iff.1 hy).1
      simp at this; omega
    have h1 := hcell j hj
    rw [add_plain] at h1
    rw [h1]
    have : zs[j]? = some y := by
      rw [List.getElem?_take] at hy
      split at hy
      · exact hy
      · cases hy
    simp [List.getD, this]
set_option maxRecDepth 100000 in
theorem open_bytes {H : Type} {enc : TypeId × Value → H} {w : World} {base : Nat} {spare : Nat → Bool} {held : Bool} {r : Reach} {b0 : Nat} {v : Value} {d : DataW H} {p : List MemPlace} (hv : Value.okWide Try.prog w r b0 84 v) (h : DataW.Trod enc Try.prog w base spare held 84 v d p) :
    ∃ A n c zs, v = .slice A n c ∧ Bys w w.heap.size A n c zs := by
  obtain ⟨a0, len0, cap0, rfl⟩ := okWide_slice Try.underlying84 hv
  obtain ⟨fuel, hf⟩ := h
  exact open_by Try.underlying84 Try.underlying5 (by kernel_rfl) hf
theorem a2Long_any (A : Option Addr) (n c : Nat) (A' : Option Addr) (n' c' : Nat) (w : World) (v : Bool) (hv : (decide (3000 < n) || decide (3000 < n')) = v) (h : n ≤ 9223372036854775807) (h' : n' ≤ 9223372036854775807) : Calls Try.prog 65 #[.slice A n c, .slice A' n' c'] w fun e w' => e = .returned (.bool v) ∧ w = w' := by
  subst hv
  by_cases h0 : 3000 < n
  · have j0 : (3000 : Int) < (n : Int) := by omega
    have H0 := Lib.hid h0
    clear h0
    go_enter Try.func65, Try.ntmps65
    go_wp2
    go_ret
    exact ⟨by simp [H0.out], rfl⟩
  have j0 : ¬ ((3000 : Int) < (n : Int)) := by omega
  have H0 := Lib.hid h0
  clear h0
  by_cases h1 : 3000 < n'
  · have j1 : (3000 : Int) < (n' : Int) := by omega
    have H1 := Lib.hid h1
    clear h1
    go_enter Try.func65, Try.ntmps65
    go_wp2
    go_ret
    exact ⟨by simp [H1.out], rfl⟩
  · have j1 : ¬ ((3000 : Int) < (n' : Int)) := by omega
    have H1 := Lib.hid h1
    clear h1
    go_enter Try.func65, Try.ntmps65
    go_wp2
    go_ret
    exact ⟨by simp [H0.out, H1.out], rfl⟩
theorem a2At_any (B : Nat) (A : Option Addr) (n c : Nat) (zs : List Int) (k : Nat) (m : Int) (hm : 1 ≤ m) (hm1 : m ≤ 4294967296) (hk : k ≤ 4294967296) (w : World) (h : Bys w B A n c zs) : Calls Try.prog 71 #[.slice A n c, .int .i64 (k : Int), .int .i64 m] w fun e w' => ∃ v, e = .returned (.int .i64 v) ∧ 0 ≤ v ∧ v < m ∧ w' = w := by
  have hle := h.le
  by_cases hkn : k < n
  · obtain ⟨x, hx⟩ := bget (zs := zs) (k := k) (by rw [h.len]; exact hkn)
    obtain ⟨b, off, rfl, -, hc⟩ := h.at_ (by omega)
    have cx := hc k x hx
    obtain ⟨x0, x1⟩ := h.bd x (List.mem_of_getElem? hx)
    clear hx hc h
    have i1 : (k : Int) < (n : Int) := by omega
    have i2 : ¬ (m < 1) := by omega
    have i3 : ¬ (m = 0) := by omega
    go_enter Try.func71, Try.ntmps71
    go_wp2
    go_ret
    refine ⟨_, rfl, ?_, ?_, rfl⟩
    · first | exact Int.emod_nonneg _ (by omega) | exact Int.tmod_nonneg _ x0
    · first | exact Int.emod_lt_of_pos _ (by omega) | exact Int.tmod_lt_of_pos _ (by omega)
  · have i1 : ¬ ((k : Int) < (n : Int)) := by omega
    clear h
    go_enter Try.func71, Try.ntmps71
    go_wp2
    go_ret
    exact ⟨0, rfl, by omega, by omega, rfl⟩
end Go.Proofs.Ytnanaldolnehiaa
