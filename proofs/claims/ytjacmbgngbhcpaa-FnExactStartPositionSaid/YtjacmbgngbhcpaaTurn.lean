/-
  A position with the players exchanged: l04Turn, turned, TurnPosition.
-/
import Derived.Test.YtjacmbgngbhcpaaMajor
import Derived.Test.YtjacmbgngbhcpaaAppend
set_option linter.unusedSimpArgs false
set_option linter.unusedVariables false
namespace Go.Proofs.Ytjacmbgngbhcpaa
open Go.ChangeShapes Go.WideShapes Go.RowKit Go.Deep

/-- What a call hands back that makes a position of its own, and a code. -/
def RetP (w : World) (zs zs' : List Int) (pl cd : Int) (e : Ending) (w' : World) : Prop :=
  ∃ A c A' c' n n', e = .returned (.tuple #[.agg #[.slice A n c, .slice A' n' c', .int .i64 pl], .int .i64 cd]) ∧ Own w' w.heap.size A n c zs ∧ Own w' w.heap.size A' n' c' zs' ∧ Apart A A' ∧ n ≤ 2097152 ∧ n' ≤ 2097152 ∧ Below w.heap.size w w'
theorem Ints.front {w : World} {B n c : Nat} {A : Option Addr} {zs : List Int} (h : Ints w B A n c zs) (j : Nat) (hj : j ≤ n) : Ints w B A j c (zs.take j) := by
  have hl := h.len
  refine ⟨by simp; omega, by have := h.2.1; omega, h.2.2.1, fun e => ?_, fun hp => ?_⟩
  · have := h.2.2.2.1 e
    omega
  · obtain ⟨b, off, e, hb, hc⟩ := h.at_ (by omega)
    refine ⟨b, off, e, hb, fun i x hx => hc i x ?_⟩
    have hi : i < j := by
      have := (List.getElem?_eq_some_iff.1 hx).1
      simp at this
      omega
    rwa [List.getElem?_take, if_pos hi] at hx
/-- A list of two numbers that is made just now. -/
theorem own_two (w : World) (base g : Nat) (x y : Int) (hb : base ≤ w.heap.size) (hg : g = w.heap.size) : Own (w.alloc (.cells #[.int .i64 x, .int .i64 y] 2)) base (some ⟨g, 0, none⟩) 2 2 [x, y] := by
  subst hg
  exact ⟨rfl, Nat.le_refl _, by omega, by
    have := World.ownsRow_lit (base := base) (e := 2) (size := 1) w #[.int .i64 x, .int .i64 y] 2 hb (by unfold maxLen; omega) rfl
    simpa using this⟩
/-- A block has one length. -/
theorem own_cap {w : World} {b1 b2 g n c n' c' : Nat} {zs ys : List Int} (h : Own w b1 (some ⟨g, 0, none⟩) n c zs) (h' : Own w b2 (some ⟨g, 0, none⟩) n' c' ys) : c = c' := by
  rcases h.row.2 with ⟨e, _⟩ | ⟨g1, cap, cur, e, _, hg, _, _, hs, _⟩
  · cases e
  rcases h'.row.2 with ⟨e', _⟩ | ⟨g2, cap', cur', e', _, hg', _, _, hs', _⟩
  · cases e'
  simp at e e'
  obtain ⟨rfl, rfl⟩ := e
  obtain ⟨rfl, rfl⟩ := e'
  rw [hg] at hg'
  simp at hg'
  subst hg'
  omega
/-- The pits behind an exchange. -/
def turnL (m : Nat) (xs : List Int) : List Int := (xs.drop m).take m ++ xs.take m
theorem frozen_new (w : World) (cs : Array Value) (t : TypeId) (i : Nat) : (w.alloc (.cells cs t)).frozen? ⟨w.heap.size, i, none⟩ = false := by
  rw [frozen?_alloc_cells]
  simp [World.frozen?]
set_option maxRecDepth 100000 in
set_option maxHeartbeats 2000000 in
theorem turned_any (p s : Int) (st sk re fe ag : Bool) (c sl : Int) (A A' : Option Addr) (n u u' : Nat) (xs : List Int) (x0 x1 pl : Int) (w : World) (h : Ints w w.heap.size A n u xs) (h' : Ints w w.heap.size A' 2 u' [x0, x1]) (m : Nat) (hm : p = (m : Int)) (hnm : n = m + m) (q0 : 2 ≤ p) (q1 : p ≤ 8) (p0 : 0 ≤ pl) (p1 : pl ≤ 1) :
    Calls Try.prog 100 #[.agg #[.int .i64 p, .int .i64 s, .bool st, .bool sk, .bool re, .bool fe, .bool ag, .int .i64 c, .int .i64 sl], .agg #[.slice A n u, .slice A' 2 u', .int .i64 pl]] w (RetPos w n 2 (turnL m xs) [x1, x0] (1 - pl)) := by
  subst hm
  subst hnm
  have hu := h.2.1
  have hu2 := h.2.2.1
  obtain ⟨bb, oo, rfl, hbb, -⟩ := h.at_ (by omega)
  obtain ⟨bb', oo', rfl, hbb', -⟩ := h'.at_ (by omega)
  have P0 := ((RuAt.box w 38 (m : Int) s st sk re fe ag c sl).alloc (.cells #[.slice (some ⟨bb, oo, none⟩) (m + m) u, .slice (some ⟨bb', oo', none⟩) 2 u', .int .i64 pl] 35)).alloc (.cells #[.slice none 0 0, .slice none 0 0, .int .i64 0] 35)
  have P1 := (PosAt.box (w.alloc (.cells #[.int .i64 (m : Int), .int .i64 s, .bool st, .bool sk, .bool re, .bool fe, .bool ag, .int .i64 c, .int .i64 sl] 38)) 35 (some ⟨bb, oo, none⟩) (m + m) u (some ⟨bb', oo', none⟩) 2 u' pl).alloc (.cells #[.slice none 0 0, .slice none 0 0, .int .i64 0] 35)
  have hbW : Below w.heap.size w (((w.alloc (.cells #[.int .i64 (m : Int), .int .i64 s, .bool st, .bool sk, .bool re, .bool fe, .bool ag, .int .i64 c, .int .i64 sl] 38)).alloc (.cells #[.slice (some ⟨bb, oo, none⟩) (m + m) u, .slice (some ⟨bb', oo', none⟩) 2 u', .int .i64 pl] 35)).alloc (.cells #[.slice none 0 0, .slice none 0 0, .int .i64 0] 35)) := (by repeat (first | with_reducible exact Below.refl _ _ | with_reducible assumption | with_reducible refine sub_alloc ?_ _ | (with_reducible refine sub_setCell2 ?_ ?_ _; (focus (first | (simp; done) | (simp <;> omega)))) | with_reducible refine sub_drew ?_ | with_reducible refine below_drewN ?_ _ | with_reducible refine sub_step (by assumption) ?_ (by first | rfl | (simp; done)) | exact Below.refl _ _ | assumption | refine sub_alloc ?_ _ | refine sub_setCell ?_ (by simp <;> omega) _ | refine sub_drew ?_ | refine below_drewN ?_ _ | refine sub_step (by assumption) ?_ (by first | rfl | (simp; done))))
  have HH := Lib.hid (h.sub hbW)
  have HH' := Lib.hid (h'.sub hbW)
  clear h h'
  have P2 := PosAt.box ((w.alloc (.cells #[.int .i64 (m : Int), .int .i64 s, .bool st, .bool sk, .bool re, .bool fe, .bool ag, .int .i64 c, .int .i64 sl] 38)).alloc (.cells #[.slice (some ⟨bb, oo, none⟩) (m + m) u, .slice (some ⟨bb', oo', none⟩) 2 u', .int .i64 pl] 35)) 35 none 0 0 none 0 0 0
  have F2 := fun i => frozen_new ((w.alloc (.cells #[.int .i64 (m : Int), .int .i64 s, .bool st, .bool sk, .bool re, .bool fe, .bool ag, .int .i64 c, .int .i64 sl] 38)).alloc (.cells #[.slice (some ⟨bb, oo, none⟩) (m + m) u, .slice (some ⟨bb', oo', none⟩) 2 u', .int .i64 pl] 35)) #[.slice none 0 0, .slice none 0 0, .int .i64 0] 35 i
  have hs1 : (w.alloc (.cells #[.int .i64 (m : Int), .int .i64 s, .bool st, .bool sk, .bool re, .bool fe, .bool ag, .int .i64 c, .int .i64 sl] 38)).heap.size = w.heap.size + 1 := by simp
  rw [hs1] at P1
  clear hs1
  obtain ⟨c0, -⟩ := P0.flat
  obtain ⟨d0, d1, d2⟩ := P1.flat
  have i0 : (0 : Int) ≤ (m : Int) := by omega
  have i1 : (m : Int) ≤ (m : Int) + (m : Int) := by omega
  have i2 : (m : Int) + (m : Int) ≤ (u : Int) := by omega
  have i3 : (m : Int) ≤ (u : Int) := by omega
  have i4 : m ≤ u := by omega
  have i5 : ¬ (u = m) := by omega
  go_enter Try.func100, Try.ntmps100
  go_wp2_with fail
  go_region_held3 (fun w' => w'.cell? ⟨w.heap.size, 0, none⟩ = some (.int .i64 (m : Int)) ∧ w'.cell? ⟨w.heap.size + 1, 0, none⟩ = some (.slice (some ⟨bb, oo, none⟩) (m + m) u) ∧ w'.cell? ⟨w.heap.size + 1, 1, none⟩ = some (.slice (some ⟨bb', oo', none⟩) 2 u') ∧ w'.cell? ⟨w.heap.size + 1, 2, none⟩ = some (.int .i64 pl)) (first | (refine ⟨?_, ?_, ?_, ?_⟩ <;> assumption) | go_keep) (first
    | (go_at_call 65; refine (copyNumbers_any _ _ _ _ ((xs.drop m).take m) _ (by exact HH.out.cut m m (by omega)) (by omega) (by simp)).mono ?_; rintro e w1 ⟨A1, u1, rfl, ho1, hb1⟩; have hb1 := undrew hb1; have Y0 := P0.below hb1 P0.lt; have Y1 := P1.below hb1 P1.lt; obtain ⟨e0, -⟩ := Y0.flat; obtain ⟨y0, y1, y2⟩ := Y1.flat)
    | (refine step_append64 rfl (.tmp 11) (.tmp 16) rfl _ A1 m u1 ((xs.drop m).take m) (some ⟨bb, oo, none⟩) m u _ (xs.take m) (by simp [Act.eval, Act.put]) (by simp [Act.eval, Act.put]) ho1 (by exact (HH.out.sub hb1).front m (by omega)) (by omega) (by omega) (by have := hb1.size; simpa using this) ?_; intro A2 u2 w2 ho2 hg2; have hb2 := Own.growBelow hb1 ho1 hg2 (by simp) (by have := hb1.size; simpa using this); have Z0 := P0.below hb2 P0.lt; have Z1 := P1.below hb2 P1.lt; obtain ⟨f0, -⟩ := Z0.flat; obtain ⟨z0, z1, z2⟩ := Z1.flat))
  have G2 := P2.below hb2 (by simp)
  obtain ⟨g0, g1, g2⟩ := G2.flat
  have r0 := (hb2.frozen (p := ⟨_, 0, none⟩) (by simp)).trans (F2 0)
  have r1 := (hb2.frozen (p := ⟨_, 1, none⟩) (by simp)).trans (F2 1)
  have r2 := (hb2.frozen (p := ⟨_, 2, none⟩) (by simp)).trans (F2 2)
  have hz : w.heap.size + 1 + 1 < w2.heap.size := by have := G2.lt; simpa using this
  simp at g0 g1 g2 r0 r1 r2
  have hne : ¬ (w.heap.size + 1 + 1 = bb') := by omega
  obtain ⟨v0, v1⟩ := (HH'.out.sub hb2).two
  clear G2 P2 F2
  go_wp2_with fail
  go_region_held3 (fun w' => w'.cell? ⟨w.heap.size + 1, 0, none⟩ = some (.slice (some ⟨bb, oo, none⟩) (m + m) u) ∧ w'.cell? ⟨w.heap.size + 1, 1, none⟩ = some (.slice (some ⟨bb', oo', none⟩) 2 u') ∧ w'.cell? ⟨w.heap.size + 1, 2, none⟩ = some (.int .i64 pl) ∧ w'.cell? ⟨bb', oo', none⟩ = some (.int .i64 x0) ∧ w'.cell? ⟨bb', oo' + 1, none⟩ = some (.int .i64 x1)) (first | (refine ⟨?_, ?_, ?_, ?_, ?_⟩ <;> assumption) | go_keep) (fail)
  go_wp2_with fail
  have WR : IntKind.i64.wrap (1 - pl) = 1 - pl := IntWalk.i64_in _ (by omega)
  rw [WR]
  have hbel : Below w.heap.size w w2 := sub_step hb2 hbW (by simp)
  refine bodyPost_ret (v := .agg #[.slice A2 (m + m) u2, .slice (some ⟨w2.heap.size, 0, none⟩) 2 2, .int .i64 (1 - pl)]) (by simp [results, Try.results100, go_sem, g0, g1, g2, hz]) rfl ⟨A2, u2, _, 2, rfl, ?_, ?_, ?_, (by repeat (first | with_reducible exact Below.refl _ _ | with_reducible assumption | with_reducible refine sub_alloc ?_ _ | (with_reducible refine sub_setCell2 ?_ ?_ _; (focus (first | (simp; done) | (simp <;> omega)))) | with_reducible refine sub_drew ?_ | with_reducible refine below_drewN ?_ _ | with_reducible refine sub_step (by assumption) ?_ (by first | rfl | (simp; done)) | exact Below.refl _ _ | assumption | refine sub_alloc ?_ _ | refine sub_setCell ?_ (by simp <;> omega) _ | refine sub_drew ?_ | refine below_drewN ?_ _ | refine sub_step (by assumption) ?_ (by first | rfl | (simp; done))))⟩
  · refine Own.lower (base := w.heap.size + 1 + 1 + 1) ?_ (by omega)
    refine Own.drewN (Own.alloc ?_ _) 1
    repeat (refine Own.setBelow ?_ (by simp) _)
    exact ho2.lower (by simp)
  · exact Own.drewN (own_two _ _ _ x1 x0 (by simp; omega) (by simp)) 1
  · exact apart_of ho2 (own_two w2 w2.heap.size _ x1 x0 (Nat.le_refl _) rfl) (Nat.le_refl _)
set_option maxRecDepth 100000 in
set_option maxHeartbeats 2000000 in
theorem l04Turn_any (b o b2 o2 : Nat) (p s : Int) (st sk re fe ag : Bool) (c sl : Int) (A A' : Option Addr) (n u u' : Nat) (xs : List Int) (x0 x1 pl : Int) (w : World) (hr : RuAt w b o ⟨p, s, st, sk, re, fe, ag, c, sl⟩) (hp : PosAt w b2 o2 A n u A' 2 u' pl) (h : Ints w w.heap.size A n u xs) (h' : Ints w w.heap.size A' 2 u' [x0, x1]) (m : Nat) (hm : p = (m : Int)) (hnm : n = m + m) (q0 : 2 ≤ p) (q1 : p ≤ 8) (p0 : 0 ≤ pl) (p1 : pl ≤ 1) :
    Calls Try.prog 99 #[.pointer (some ⟨b, o, none⟩), .pointer (some ⟨b2, o2, none⟩)] w (RetPos w n 2 (turnL m xs) [x1, x0] (1 - pl)) := by
  subst hm
  subst hnm
  have hu := h.2.1
  have hu2 := h.2.2.1
  have hlt := hr.lt
  have hlt2 := hp.lt
  obtain ⟨bb, oo, rfl, hbb, -⟩ := h.at_ (by omega)
  obtain ⟨bb', oo', rfl, hbb', -⟩ := h'.at_ (by omega)
  have P0 := hr.alloc (.cells #[.slice none 0 0, .slice none 0 0, .int .i64 0] 35)
  have P1 := hp.alloc (.cells #[.slice none 0 0, .slice none 0 0, .int .i64 0] 35)
  have P2 := PosAt.box w 35 none 0 0 none 0 0 0
  have F2 := fun i => frozen_new w #[.slice none 0 0, .slice none 0 0, .int .i64 0] 35 i
  have hbW : Below w.heap.size w (w.alloc (.cells #[.slice none 0 0, .slice none 0 0, .int .i64 0] 35)) := (by repeat (first | with_reducible exact Below.refl _ _ | with_reducible assumption | with_reducible refine sub_alloc ?_ _ | (with_reducible refine sub_setCell2 ?_ ?_ _; (focus (first | (simp; done) | (simp <;> omega)))) | with_reducible refine sub_drew ?_ | with_reducible refine below_drewN ?_ _ | with_reducible refine sub_step (by assumption) ?_ (by first | rfl | (simp; done)) | exact Below.refl _ _ | assumption | refine sub_alloc ?_ _ | refine sub_setCell ?_ (by simp <;> omega) _ | refine sub_drew ?_ | refine below_drewN ?_ _ | refine sub_step (by assumption) ?_ (by first | rfl | (simp; done))))
  have HH := Lib.hid (h.sub hbW)
  have HH' := Lib.hid (h'.sub hbW)
  clear h h' hr hp
  have c0 := P0.1
  dsimp only at c0
  obtain ⟨d0, d1, d2⟩ := P1
  have P1 : PosAt (w.alloc (.cells #[.slice none 0 0, .slice none 0 0, .int .i64 0] 35)) b2 o2 (some ⟨bb, oo, none⟩) (m + m) u (some ⟨bb', oo', none⟩) 2 u' pl := ⟨d0, d1, d2⟩
  have i0 : (0 : Int) ≤ (m : Int) := by omega
  have i1 : (m : Int) ≤ (m : Int) + (m : Int) := by omega
  have i2 : (m : Int) + (m : Int) ≤ (u : Int) := by omega
  have i3 : (m : Int) ≤ (u : Int) := by omega
  have i4 : m ≤ u := by omega
  have i5 : ¬ (u = m) := by omega
  have WR : IntKind.i64.wrap (1 - pl) = 1 - pl := IntWalk.i64_in _ (by omega)
  have WR := Lib.hid WR
  go_enter Try.func99, Try.ntmps99
  go_wp2_with fail
  go_region_held3 (fun w' => w'.cell? ⟨b, o, none⟩ = some (.int .i64 (m : Int)) ∧ w'.cell? ⟨b2, o2, none⟩ = some (.slice (some ⟨bb, oo, none⟩) (m + m) u)) (first | (refine ⟨?_, ?_⟩ <;> assumption) | go_keep) (first
    | (go_at_call 108; refine (l00Own_any _ _ _ _ ((xs.drop m).take m) _ (by exact HH.out.cut m m (by omega)) (by omega) (by simp)).mono ?_; rintro e w1 ⟨A1, u1, rfl, ho1, hb1⟩; have hb1 := undrew hb1; have Y0 := P0.below hb1 P0.lt; have Y1 := P1.below hb1 P1.lt; have Y2 := P2.below hb1 P2.lt; have e0 := Y0.1; dsimp only at e0; obtain ⟨y0, y1, y2⟩ := Y1))
  have b1 : Below w.heap.size w w1 := sub_step hb1 hbW rfl
  have z1 : w.heap.size + 1 ≤ w1.heap.size := by have := hb1.size; simpa using this
  have Y1 : PosAt w1 b2 o2 (some ⟨bb, oo, none⟩) (m + m) u (some ⟨bb', oo', none⟩) 2 u' pl := ⟨y0, y1, y2⟩
  have n1 : ¬ (w.heap.size = b) := by omega
  have n2 : ¬ (w.heap.size = b2) := by omega
  have n3 : ¬ (w.heap.size = bb') := by omega
  have R2 : ∀ i, w1.frozen? ⟨w.heap.size, i, none⟩ = false := fun i => (hb1.frozen (p := ⟨_, i, none⟩) (by simp)).trans (F2 i)
  obtain ⟨v0, v1⟩ := (HH'.out.sub hb1).two
  have NE := Lib.hid (show (∀ g, (Value.slice A1 m u1).ownBlock = some g → w.heap.size + 1 ≤ g ∧ g < w1.heap.size) from fun g e => by have := own_block ho1 e; simpa using this.2)
  clear P0 P2 F2
  go_wp2_with fail
  go_region_held3 (fun w' => w'.cell? ⟨b, o, none⟩ = some (.int .i64 (m : Int)) ∧ w'.cell? ⟨b2, o2, none⟩ = some (.slice (some ⟨bb, oo, none⟩) (m + m) u) ∧ w'.cell? ⟨b2, o2 + 1, none⟩ = some (.slice (some ⟨bb', oo', none⟩) 2 u') ∧ w'.cell? ⟨b2, o2 + 2, none⟩ = some (.int .i64 pl) ∧ w'.cell? ⟨bb', oo', none⟩ = some (.int .i64 x0) ∧ w'.cell? ⟨bb', oo' + 1, none⟩ = some (.int .i64 x1)) (first | (refine ⟨?_, ?_, ?_, ?_, ?_, ?_⟩ <;> assumption) | go_keep) (first
    | (refine step_append64 rfl (.tmp 16) (.tmp 25) rfl _ A1 m u1 ((xs.drop m).take m) (some ⟨bb, oo, none⟩) m u _ (xs.take m) (by simp [Act.eval, Act.put]) (by simp [Act.eval, Act.put]) (by first | exact ho1 | exact ho1.alloc _) (by first | exact (HH.out.sub hb1).front m (by omega) | exact (HH.out.sub (sub_alloc (sub_drew hb1) _)).front m (by omega)) (by omega) (by omega) (by simp <;> omega) ?_; intro A2 u2 w2 ho2 hg2; have hx : Below (w.heap.size + 1) w1 w2 := Below.grown (by first | exact (Below.refl _ _).drew | exact (Below.refl _ _).drew.alloc (by simpa using z1) _) hg2 (by simp <;> omega) (fun g e => (NE.out g e).1); have f0 := (hx.cell (p := ⟨b, o, none⟩) (by simp; omega)).trans e0; have f1 := (hx.cell (p := ⟨b2, o2, none⟩) (by simp; omega)).trans y0; have f2 := (hx.cell (p := ⟨b2, o2 + 1, none⟩) (by simp; omega)).trans y1; have f3 := (hx.cell (p := ⟨b2, o2 + 2, none⟩) (by simp; omega)).trans y2; have f4 := (hx.cell (p := ⟨bb', oo', none⟩) (by simp; omega)).trans v0; have f5 := (hx.cell (p := ⟨bb', oo' + 1, none⟩) (by simp; omega)).trans v1; have g0 := (hx.cell (p := ⟨w.heap.size, 0, none⟩) (by simp)).trans Y2.1; have g1 := (hx.cell (p := ⟨w.heap.size, 1, none⟩) (by simp)).trans Y2.2.1; have g2 := (hx.cell (p := ⟨w.heap.size, 2, none⟩) (by simp)).trans Y2.2.2; have r0 := (hx.frozen (p := ⟨w.heap.size, 0, none⟩) (by simp)).trans (R2 0); have r1 := (hx.frozen (p := ⟨w.heap.size, 1, none⟩) (by simp)).trans (R2 1); have r2 := (hx.frozen (p := ⟨w.heap.size, 2, none⟩) (by simp)).trans (R2 2); have hz : w.heap.size < w2.heap.size := (by have := hx.size; omega)))
  · go_wp2_with fail
    (try rw [WR.out])
    have hbel : Below w.heap.size w w2 := Below.trans b1 (hx.mono (by omega))
    refine bodyPost_ret (v := .agg #[.slice A2 (m + m) u2, .slice (some ⟨w2.heap.size, 0, none⟩) 2 2, .int .i64 (1 - pl)]) (by simp [results, Try.results99, go_sem, g0, g1, g2, hz]) rfl ⟨A2, u2, _, 2, rfl, ?_, ?_, ?_, (by repeat (first | with_reducible exact Below.refl _ _ | with_reducible assumption | with_reducible refine sub_alloc ?_ _ | (with_reducible refine sub_setCell2 ?_ ?_ _; (focus (first | (simp; done) | (simp <;> omega)))) | with_reducible refine sub_drew ?_ | with_reducible refine below_drewN ?_ _ | with_reducible refine sub_step (by assumption) ?_ (by first | rfl | (simp; done)) | exact Below.refl _ _ | assumption | refine sub_alloc ?_ _ | refine sub_setCell ?_ (by simp <;> omega) _ | refine sub_drew ?_ | refine below_drewN ?_ _ | refine sub_step (by assumption) ?_ (by first | rfl | (simp; done))))⟩
    · refine Own.lower (base := w.heap.size + 1) ?_ (by omega)
      refine Own.alloc ?_ _
      repeat (refine Own.setBelow ?_ (by simp) _)
      exact ho2.lower (by simp)
    · exact own_two _ _ _ x1 x0 (by simp; omega) (by simp)
    · exact apart_of ho2 (own_two w2 w2.heap.size _ x1 x0 (Nat.le_refl _) rfl) (Nat.le_refl _)
  · go_wp2_with fail
    (try rw [WR.out])
    have hbel : Below w.heap.size w w2 := Below.trans b1 (hx.mono (by omega))
    have hw2 : Own w2 (w.heap.size + 1) (some ⟨w1.heap.size, 0, none⟩) 2 2 [x1, x0] := (own_two w1.drew (w.heap.size + 1) w1.heap.size x1 x0 (by simpa using z1) (by simp)).kept hg2 (fun g e => .inr (by have := (NE.out g e).2; intro e2; injection e2 with e2; injection e2 with e2; omega))
    refine bodyPost_ret (v := .agg #[.slice A2 (m + m) u2, .slice (some ⟨w1.heap.size, 0, none⟩) 2 2, .int .i64 (1 - pl)]) (by simp [results, Try.results99, go_sem, g0, g1, g2, hz]) rfl ⟨A2, u2, _, 2, rfl, ?_, ?_, ?_, (by repeat (first | with_reducible exact Below.refl _ _ | with_reducible assumption | with_reducible refine sub_alloc ?_ _ | (with_reducible refine sub_setCell2 ?_ ?_ _; (focus (first | (simp; done) | (simp <;> omega)))) | with_reducible refine sub_drew ?_ | with_reducible refine below_drewN ?_ _ | with_reducible refine sub_step (by assumption) ?_ (by first | rfl | (simp; done)) | exact Below.refl _ _ | assumption | refine sub_alloc ?_ _ | refine sub_setCell ?_ (by simp <;> omega) _ | refine sub_drew ?_ | refine below_drewN ?_ _ | refine sub_step (by assumption) ?_ (by first | rfl | (simp; done))))⟩
    · refine Own.lower (base := w.heap.size + 1) ?_ (by omega)
      repeat (refine Own.setBelow ?_ (by simp) _)
      exact ho2.lower (by simp)
    · refine Own.lower (base := w.heap.size + 1) ?_ (by omega)
      repeat (refine Own.setBelow ?_ (by simp) _)
      exact hw2
    · rintro g rfl e
      injection e with e
      injection e with e
      subst e
      have hcap := own_cap ho2 hw2
      have := ho2.2.1
      omega
end Go.Proofs.Ytjacmbgngbhcpaa
