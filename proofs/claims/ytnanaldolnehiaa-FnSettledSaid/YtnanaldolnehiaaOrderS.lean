/-
  Positions that are drawn: l04Draw.
-/
import Derived.Test.YtnanaldolnehiaaDraw
import Derived.Test.YtnanaldolnehiaaGive
import Derived.Deep.RegionHeld3
set_option linter.unusedSimpArgs false
set_option linter.unusedVariables false
namespace Go.Proofs.Ytnanaldolnehiaa
open Go.ChangeShapes Go.WideShapes Go.RowKit Go.Deep

theorem PosAt.grownB {w w' : World} {P o n c n' c' b : Nat} {A A' : Option Addr} {pl : Int} (h : PosAt w P o A n c A' n' c' pl) (hg : w.grownBy w' (some b)) (hne : ¬ (P = b)) : PosAt w' P o A n c A' n' c' pl :=
  h.keep fun i => World.cell?_of_block (hg.block P h.lt (fun e => hne (by injection e)))
theorem frozen_grown {w w' : World} {P b : Nat} (h : ∀ i, w.frozen? ⟨P, i, none⟩ = false) (hl : P < w.heap.size) (hg : w.grownBy w' (some b)) (hne : ¬ (P = b)) : ∀ i, w'.frozen? ⟨P, i, none⟩ = false := fun i => by
  have e : w'.heap[P]? = w.heap[P]? := hg.block P hl (fun e => hne (by injection e))
  have := h i
  unfold World.frozen? at *
  simp only [e]
  exact this
theorem BoxAt.grownB {w w' : World} {P b : Nat} (h : BoxAt w P) (hg : w.grownBy w' (some b)) (hne : ¬ (P = b)) : BoxAt w' P := ⟨h.1.grownB hg hne, frozen_grown h.2 h.1.lt hg hne⟩
theorem RuAt.grownB {w w' : World} {rb ro b : Nat} {r : Ru} (h : RuAt w rb ro r) (hg : w.grownBy w' (some b)) (hne : ¬ (rb = b)) : RuAt w' rb ro r :=
  h.keep fun i => World.cell?_of_block (hg.block rb h.lt (fun e => hne (by injection e)))
theorem RuAt.other {w : World} {rb ro : Nat} {r : Ru} (h : RuAt w rb ro r) (p : Addr) (hp : ¬ (p.block = rb)) (u : Value) : RuAt (w.setCell p u) rb ro r :=
  h.keep fun i => World.cell?_setCell_other w p _ u (fun e => hp (by rw [e]))
/-- A position that is being drawn: its lists, its variable, the result's variable, the rules, the source. -/
structure DSt (w : World) (b rb ro : Nat) (r : Ru) (SA : Option Addr) (sn sc : Nat) (szs : List Int) (R P gA cA gB cB n : Nat) (W : World) (zs : List Int) (y0 y1 pl : Int) (k : Nat) (sd : Int) : Prop where
  own : Own W (w.heap.size + 1) (some ⟨gA, 0, none⟩) n cA zs
  own2 : Own W (w.heap.size + 1) (some ⟨gB, 0, none⟩) 2 cB [y0, y1]
  pos : PosAt W P 0 (some ⟨gA, 0, none⟩) n cA (some ⟨gB, 0, none⟩) 2 cB pl
  fro : ∀ i, W.frozen? ⟨P, i, none⟩ = false
  res : BoxAt W R
  rul : RuAt W rb ro r
  src : Src W b SA sn sc szs k sd
  gr : w.grownBy W (some b)
  hb : b < w.heap.size
  hr : rb < w.heap.size
  hrb : ¬ (rb = b)
  hR : R = w.heap.size
  hA : w.heap.size + 1 ≤ gA
  hB : w.heap.size + 1 ≤ gB
  hAB : ¬ (gA = gB)
  hP : w.heap.size + 1 ≤ P
  hPA : ¬ (gA = P)
  hPB : ¬ (gB = P)
section
variable {w W W' : World} {b rb ro : Nat} {r : Ru} {SA : Option Addr} {sn sc : Nat} {szs : List Int} {R P gA cA gB cB n : Nat} {zs : List Int} {y0 y1 pl : Int} {k k' : Nat} {sd sd' : Int}
theorem DSt.drew (h : DSt w b rb ro r SA sn sc szs R P gA cA gB cB n W zs y0 y1 pl k sd) : DSt w b rb ro r SA sn sc szs R P gA cA gB cB n W.drew zs y0 y1 pl k sd :=
  ⟨h.own, h.own2, h.pos, h.fro, h.res, h.rul, h.src, ⟨h.gr.os, h.gr.tape, h.gr.output, h.gr.size, h.gr.block⟩, h.hb, h.hr, h.hrb, h.hR, h.hA, h.hB, h.hAB, h.hP, h.hPA, h.hPB⟩
theorem DSt.pick (h : DSt w b rb ro r SA sn sc szs R P gA cA gB cB n W zs y0 y1 pl k sd) (hs : Src W' b SA sn sc szs k' sd') (hg : W.grownBy W' (some b)) : DSt w b rb ro r SA sn sc szs R P gA cA gB cB n W' zs y0 y1 pl k' sd' := by
  have h1 := h.hb
  have h2 := h.hR
  have h3 := h.hP
  exact ⟨h.own.kept hg (fun g e => .inl (by injection e with e; omega)), h.own2.kept hg (fun g e => .inl (by injection e with e; omega)), h.pos.grownB hg (by omega), frozen_grown h.fro h.pos.lt hg (by omega), h.res.grownB hg (by omega), h.rul.grownB hg h.hrb, hs, gr_trans h.gr hg, h.hb, h.hr, h.hrb, h.hR, h.hA, h.hB, h.hAB, h.hP, h.hPA, h.hPB⟩
theorem DSt.setPit (h : DSt w b rb ro r SA sn sc szs R P gA cA gB cB n W zs y0 y1 pl k sd) (j : Nat) (x : Int) : DSt w b rb ro r SA sn sc szs R P gA cA gB cB n (W.setCell ⟨gA, j, none⟩ (.int .i64 x)) (zs.set j x) y0 y1 pl k sd := by
  have h1 := h.hb
  have h2 := h.hR
  have h3 := h.hP
  have h4 := h.hA
  have h5 := h.hr
  exact ⟨(h.own.stored j x).1, h.own2.setNe (by simpa using fun e => h.hAB e.symm) _, h.pos.other _ h.hPA _, fun i => by rw [World.frozen?_setCell]; exact h.fro i, h.res.other _ (by show ¬ (gA = R); omega) _, h.rul.other _ (by show ¬ (gA = rb); omega) _, h.src.other (p := ⟨gA, j, none⟩) (by show b < gA; omega) _, grown_set h.gr ⟨gA, j, none⟩ (by show w.heap.size ≤ gA; omega) _, h.hb, h.hr, h.hrb, h.hR, h.hA, h.hB, h.hAB, h.hP, h.hPA, h.hPB⟩
theorem DSt.setStore (h : DSt w b rb ro r SA sn sc szs R P gA cA gB cB n W zs y0 y1 pl k sd) (j : Nat) (x : Int) (z0 z1 : Int) (hz : [y0, y1].set j x = [z0, z1]) : DSt w b rb ro r SA sn sc szs R P gA cA gB cB n (W.setCell ⟨gB, j, none⟩ (.int .i64 x)) zs z0 z1 pl k sd := by
  have h1 := h.hb
  have h2 := h.hR
  have h3 := h.hP
  have h4 := h.hB
  have h5 := h.hr
  have o := (h.own2.stored j x).1
  rw [hz] at o
  exact ⟨h.own.setNe (by simpa using h.hAB) _, o, h.pos.other _ h.hPB _, fun i => by rw [World.frozen?_setCell]; exact h.fro i, h.res.other _ (by show ¬ (gB = R); omega) _, h.rul.other _ (by show ¬ (gB = rb); omega) _, h.src.other (p := ⟨gB, j, none⟩) (by show b < gB; omega) _, grown_set h.gr ⟨gB, j, none⟩ (by show w.heap.size ≤ gB; omega) _, h.hb, h.hr, h.hrb, h.hR, h.hA, h.hB, h.hAB, h.hP, h.hPA, h.hPB⟩
theorem DSt.setPl (h : DSt w b rb ro r SA sn sc szs R P gA cA gB cB n W zs y0 y1 pl k sd) (x : Int) : DSt w b rb ro r SA sn sc szs R P gA cA gB cB n (W.setCell ⟨P, 2, none⟩ (.int .i64 x)) zs y0 y1 x k sd := by
  have h1 := h.hb
  have h2 := h.hR
  have h3 := h.hP
  have h5 := h.hr
  obtain ⟨p0, p1, p2⟩ := h.pos.flat
  refine ⟨h.own.setNe (by simpa using h.hPA) _, h.own2.setNe (by simpa using h.hPB) _, ⟨?_, ?_, ?_⟩, fun i => by rw [World.frozen?_setCell]; exact h.fro i, h.res.other _ (by show ¬ (P = R); omega) _, h.rul.other _ (by show ¬ (P = rb); omega) _, h.src.other (p := ⟨P, 2, none⟩) (by show b < P; omega) _, grown_set h.gr ⟨P, 2, none⟩ (by show w.heap.size ≤ P; omega) _, h.hb, h.hr, h.hrb, h.hR, h.hA, h.hB, h.hAB, h.hP, h.hPA, h.hPB⟩
  · rw [World.cell?_setCell_other _ _ _ _ (by simp)]; exact p0
  · rw [World.cell?_setCell_other _ _ _ _ (by simp)]; exact p1
  · exact World.cell?_setCell_same _ _ _ p2
end
/-- What l04Draw hands back. -/
def RetDraw (w : World) (b : Nat) (SA : Option Addr) (sn sc : Nat) (szs : List Int) (k0 : Nat) (e : Ending) (w' : World) : Prop := ∃ (gA n cA gB cB : Nat) (zs : List Int) (y0 y1 pl : Int), e = .returned (.agg #[.slice (some ⟨gA, 0, none⟩) n cA, .slice (some ⟨gB, 0, none⟩) 2 cB, .int .i64 pl]) ∧ Own w' w.heap.size (some ⟨gA, 0, none⟩) n cA zs ∧ Own w' w.heap.size (some ⟨gB, 0, none⟩) 2 cB [y0, y1] ∧ n ≤ 16 ∧ w.grownBy w' (some b) ∧ 2 ≤ n ∧ ¬ (gA = gB) ∧ ∃ (k' : Nat) (sd' : Int), k' ≤ k0 + 200 ∧ Src w' b SA sn sc szs k' sd'
theorem l04Draw_ret {Post : Ending → World → Prop} {a : Act} {W : World} {g n c n' c' : Nat} {A A' : Option Addr} {pl : Int} (ha : a.tmps.getD 4 undef = .pointer (some ⟨g, 0, none⟩)) (hd : a.defers = []) (hr : PosAt W g 0 A n c A' n' c' pl) (hP : Post (.returned (.agg #[.slice A n c, .slice A' n' c', .int .i64 pl])) W) : bodyPost Try.prog Try.f145 Post Exit.ret a W := by
  obtain ⟨c0, c1, c2⟩ := hr.flat
  refine bodyPost_ret (v := .agg #[.slice A n c, .slice A' n' c', .int .i64 pl]) ?_ hd hP
  obtain ⟨tmps, defers⟩ := a
  simp only [Array.getD_eq_getD_getElem?] at ha
  simp [results, Try.results145, go_sem, ha, c0, c1, c2]
set_option maxRecDepth 100000 in
set_option maxHeartbeats 16000000 in
theorem l04Draw_any (b : Nat) (SA : Option Addr) (sn sc : Nat) (szs : List Int) (k0 : Nat) (sd0 : Int) (hk0 : k0 ≤ 1048576) (rb ro : Nat) (p s : Int) (st sk re fe ag : Bool) (c sl : Int) (w : World) (h : Src w b SA sn sc szs k0 sd0) (hr : RuAt w rb ro ⟨p, s, st, sk, re, fe, ag, c, sl⟩) (hne : ¬ (rb = b)) (q0 : 2 ≤ p) (q1 : p ≤ 8) :
    Calls Try.prog 145 #[.pointer (some ⟨b, 0, none⟩), .pointer (some ⟨rb, ro, none⟩)] w (RetDraw w b SA sn sc szs k0) := by
  obtain ⟨m, rfl⟩ : ∃ m : Nat, p = (m : Int) := ⟨p.toNat, by omega⟩
  have lb := h.lt
  have lr := hr.lt
  have S0 := Lib.hid (h.alloc (.cells #[.slice none 0 0, .slice none 0 0, .int .i64 0] 28))
  have P0 := Lib.hid (hr.alloc (.cells #[.slice none 0 0, .slice none 0 0, .int .i64 0] 28))
  have R0 := Lib.hid (box_new w 28)
  have hbW := Lib.hid ((Below.refl w.heap.size w).alloc (Nat.le_refl _) (.cells #[.slice none 0 0, .slice none 0 0, .int .i64 0] 28))
  have hsz : (w.alloc (.cells #[.slice none 0 0, .slice none 0 0, .int .i64 0] 28)).heap.size = w.heap.size + 1 := by simp
  have HSZ := Lib.hid hsz
  clear h hr hsz
  go_enter Try.func145, Try.ntmps145
  go_wp2_with fail
  refine (l04Start_any rb ro (m : Int) s st sk re fe ag c sl _ (by exact P0.out) m rfl q0 q1).mono ?_
  rintro e w1 ⟨A, cA, A', cB, rfl, o1, o2, ap, b1⟩
  rw [HSZ.out] at o1 o2
  have z1 := b1.size
  rw [HSZ.out] at z1
  rcases o1.form with ⟨_, h9, _⟩ | ⟨gA, rfl, a1, a2⟩
  · omega
  rcases o2.form with ⟨_, h9, _⟩ | ⟨gB, rfl, a3, a4⟩
  · omega
  have hAB : ¬ (gA = gB) := fun e => ap gA rfl (by rw [e])
  have LIT : Obj := .cells #[.slice (some ⟨gA, 0, none⟩) (m + m) cA, .slice (some ⟨gB, 0, none⟩) 2 cB, .int .i64 0] 28
  have D0 : Hid (DSt w b rb ro ⟨(m : Int), s, st, sk, re, fe, ag, c, sl⟩ SA sn sc szs w.heap.size w1.heap.size gA cA gB cB (m + m) (w1.alloc (.cells #[.slice (some ⟨gA, 0, none⟩) (m + m) cA, .slice (some ⟨gB, 0, none⟩) 2 cB, .int .i64 0] 28)) (List.replicate (m + m) s) 0 0 0 k0 sd0) := Lib.hid
    ⟨o1.alloc _, o2.alloc _, PosAt.box w1 _ _ _ _ _ _ _ _, frozen_new w1 _ _, (R0.out.keep b1).keepAlloc _, (P0.out.below b1 (by rw [HSZ.out]; omega)).alloc _, (S0.out.below b1 (by rw [HSZ.out]; omega)).alloc _, grown_alloc (gr_trans (grown_below hbW.out) (grown_below b1)) _, lb, lr, hne, rfl, a1, a3, hAB, z1, by omega, by omega⟩
  clear o1 o2 ap b1 LIT S0 P0 R0 hbW HSZ
  have nAP : ¬ (gA = w1.heap.size) := D0.out.hPA
  have nBP : ¬ (gB = w1.heap.size) := D0.out.hPB
  obtain ⟨few, hf⟩ : ∃ v, decide ((pk szs k0 sd0 2).1 = 0) = v := ⟨_, rfl⟩
  have HF := Lib.hid hf
  clear hf
  have bd0 := (pk_bd szs k0 sd0 2 (by omega)).2.2
  go_wp2_with fail
  refine (one_any b SA sn sc szs k0 sd0 2 (by omega) (by omega) (by omega) few HF.out _ (by exact D0.out.src)).mono ?_
  rintro e w2 ⟨rfl, s2, g2⟩
  have D1 := Lib.hid (D0.out.pick s2 g2)
  clear s2 g2 HF D0
  generalize (pk szs k0 sd0 2).2.1 = k1 at *
  generalize (pk szs k0 sd0 2).2.2 = d1 at *
  go_wp2_with fail
  go_loopw [7] (fun i wr => ∃ (j : Nat) (zs : List Int) (kS : Nat) (sd : Int), j ≤ m + m ∧ i = .int .i64 j ∧ kS ≤ k0 + 2 + 4 * j ∧ DSt w b rb ro ⟨(m : Int), s, st, sk, re, fe, ag, c, sl⟩ SA sn sc szs w.heap.size w1.heap.size gA cA gB cB (m + m) wr zs 0 0 0 kS sd) (fun i _ => (m + m) - (intOf i).toNat)
  case atStart => exact ⟨0, _, k1, d1, Nat.zero_le _, rfl, by omega, D1.out⟩
  case round =>
    clear D1 bd0
    obtain ⟨j, zs, kS, sd, hj, rfl, hk, D2⟩ := hrel
    obtain ⟨p0, p1, p2⟩ := D2.pos.flat
    by_cases hlt : j < m + m
    · have i0 : (0 : Int) ≤ (j : Int) := by omega
      have i1 : (j : Int) < (m : Int) + (m : Int) := by omega
      obtain ⟨x, hx⟩ := get_some (zs := zs) (k := j) (by have := D2.own.len; omega)
      have HX := Lib.hid hx
      clear hx
      have D3 := D2.drew
      have bd1 := (pk_bd szs kS sd 6 (by omega)).2.2
      go_wp2_with fail
      go_region_held3 (fun w' => w'.cell? ⟨w1.heap.size, 0, none⟩ = some (.slice (some ⟨gA, 0, none⟩) (m + m) cA)) (first | assumption | go_keep) (first
        | (go_at_call 160; refine (pick_any b SA sn sc szs kS sd 6 (by omega) (by omega) (by omega) _ (by exact D3.src)).mono ?_; rintro e w3 ⟨rfl, s3, g3⟩; have D4 := D3.pick s3 g3; obtain ⟨p0, p1, p2⟩ := D4.pos.flat; have qj := D4.own.cell HX.out; have fj := D4.own.free j))
      go_upto_region 7 with fail
      refine wp_namedG (fun w' => DSt w b rb ro ⟨(m : Int), s, st, sk, re, fe, ag, c, sl⟩ SA sn sc szs w.heap.size w1.heap.size gA cA gB cB (m + m) w' (zs.set j (pk szs kS sd 6).1) 0 0 0 (pk szs kS sd 6).2.1 (pk szs kS sd 6).2.2) ?_ ?_
      · exact D4.setPit j _
      clear D2 D3 D4 p0 p1 p2 qj fj s3 g3
      rintro w4 D5
      have HX2 : Hid (∃ x, (zs.set j (pk szs kS sd 6).1)[j]? = some x) := Lib.hid (get_some (by have := D5.own.len; omega))
      generalize (zs.set j (pk szs kS sd 6).1) = zs2 at *
      generalize (pk szs kS sd 6).2.1 = k2 at *
      generalize (pk szs kS sd 6).2.2 = d2 at *
      cases few
      · go_wp2_with fail
        go_roundw
        case rel => exact ⟨j + 1, zs2, k2, d2, by omega, by go_num, by omega, D5⟩
        case measure => simp [intOf]; omega
      · obtain ⟨v, hv⟩ : ∃ v, decide ((pk szs k2 d2 3).1 = 0) = v := ⟨_, rfl⟩
        have HV := Lib.hid hv
        clear hv
        have bd2 := (pk_bd szs k2 d2 3 (by omega)).2.2
        go_wp2_with fail
        refine (one_any b SA sn sc szs k2 d2 3 (by omega) (by omega) (by omega) v HV.out _ (by exact D5.src)).mono ?_
        rintro e w5 ⟨rfl, s5, g5⟩
        have D6 := D5.pick s5 g5
        clear s5 g5 HV D5
        generalize (pk szs k2 d2 3).2.1 = k3 at *
        generalize (pk szs k2 d2 3).2.2 = d3 at *
        cases v
        · obtain ⟨p0, p1, p2⟩ := D6.pos.flat
          obtain ⟨y, hy⟩ := HX2.out
          have qj := D6.own.cell hy
          have fj := D6.own.free j
          have D7 := Lib.hid (D6.setPit j 0)
          clear hy D6
          go_wp2_with fail
          go_roundw
          case rel => exact ⟨j + 1, _, k3, d3, by omega, by go_num, by omega, D7.out⟩
          case measure => simp [intOf]; omega
        · go_wp2_with fail
          go_roundw
          case rel => exact ⟨j + 1, zs2, k3, d3, by omega, by go_num, by omega, D6⟩
          case measure => simp [intOf]; omega
    · have i1 : ¬ ((j : Int) < (m : Int) + (m : Int)) := by omega
      obtain ⟨v, hv⟩ : ∃ v, decide ((pk szs kS sd 8).1 = 0) = v := ⟨_, rfl⟩
      have HV := Lib.hid hv
      clear hv
      have bd2 := (pk_bd szs kS sd 8 (by omega)).2.2
      go_wp2_with fail
      refine (one_any b SA sn sc szs kS sd 8 (by omega) (by omega) (by omega) v HV.out _ (by exact D2.src)).mono ?_
      rintro e w5 ⟨rfl, s5, g5⟩
      have D6 := Lib.hid (D2.pick s5 g5)
      clear s5 g5 HV D2 p0 p1 p2
      generalize (pk szs kS sd 8).2.1 = k3 at *
      generalize (pk szs kS sd 8).2.2 = d3 at *
      have hk3 : k3 ≤ k0 + 80 := by omega
      clear hk bd2
      cases v
      · have X0 := D6.out
        have bq0 := (pk_bd szs k3 d3 8 (by omega)).2.2
        obtain ⟨p0, p1, p2⟩ := X0.pos.flat
        have X1 := X0.drew
        go_wp2_with fail
        go_region_held3 (fun w' => w'.cell? ⟨w1.heap.size, 1, none⟩ = some (.slice (some ⟨gB, 0, none⟩) 2 cB)) (first | assumption | go_keep) (first
          | (go_at_call 160; refine (pick_any b SA sn sc szs k3 d3 8 (by omega) (by omega) (by omega) _ (by exact X1.src)).mono ?_; rintro e w7 ⟨rfl, s7, g7⟩; have X2 := X1.pick s7 g7; obtain ⟨p0, p1, p2⟩ := X2.pos.flat; have qj := X2.own2.cell (k := 0) rfl; have fj := X2.own2.free 0))
        go_upto_region 16 with fail
        refine wp_namedG (fun w' => DSt w b rb ro ⟨(m : Int), s, st, sk, re, fe, ag, c, sl⟩ SA sn sc szs w.heap.size w1.heap.size gA cA gB cB (m + m) w' zs (pk szs k3 d3 8).1 0 0 (pk szs k3 d3 8).2.1 (pk szs k3 d3 8).2.2) ?_ ?_
        · exact X2.setStore 0 _ _ _ rfl
        clear X0 X1 X2 p0 p1 p2 qj fj s7 g7 D6
        rintro w8 Y0
        generalize (pk szs k3 d3 8).1 = e0 at *
        generalize (pk szs k3 d3 8).2.1 = k5 at *
        generalize (pk szs k3 d3 8).2.2 = d5 at *
        have bq1 := (pk_bd szs k5 d5 8 (by omega)).2.2
        obtain ⟨p0, p1, p2⟩ := Y0.pos.flat
        have Y1 := Y0.drew
        go_wp2_with fail
        go_region_held3 (fun w' => w'.cell? ⟨w1.heap.size, 1, none⟩ = some (.slice (some ⟨gB, 0, none⟩) 2 cB)) (first | assumption | go_keep) (first
          | (go_at_call 160; refine (pick_any b SA sn sc szs k5 d5 8 (by omega) (by omega) (by omega) _ (by exact Y1.src)).mono ?_; rintro e w9 ⟨rfl, s9, g9⟩; have Y2 := Y1.pick s9 g9; obtain ⟨p0, p1, p2⟩ := Y2.pos.flat; have qj := Y2.own2.cell (k := 1) rfl; have fj := Y2.own2.free 1))
        go_upto_region 17 with fail
        refine wp_namedG (fun w' => DSt w b rb ro ⟨(m : Int), s, st, sk, re, fe, ag, c, sl⟩ SA sn sc szs w.heap.size w1.heap.size gA cA gB cB (m + m) w' zs e0 (pk szs k5 d5 8).1 0 (pk szs k5 d5 8).2.1 (pk szs k5 d5 8).2.2) ?_ ?_
        · exact Y2.setStore 1 _ _ _ rfl
        clear Y0 Y1 Y2 p0 p1 p2 qj fj s9 g9
        rintro w10 Z0
        generalize (pk szs k5 d5 8).1 = e1 at *
        generalize (pk szs k5 d5 8).2.1 = k6 at *
        generalize (pk szs k5 d5 8).2.2 = d6 at *
        go_wp2_with fail
        refine (pick_any b SA sn sc szs k6 d6 2 (by omega) (by omega) (by omega) _ (by exact Z0.src)).mono ?_
        rintro e w11 ⟨rfl, s11, g11⟩
        have Z1 := Z0.pick s11 g11
        obtain ⟨p0, p1, p2⟩ := Z1.pos.flat
        have fp := Z1.fro 2
        have bq2 := (pk_bd szs k6 d6 2 (by omega)).2.2
        generalize (pk szs k6 d6 2).1 = e2 at *
        generalize (pk szs k6 d6 2).2.1 = k7 at *
        generalize (pk szs k6 d6 2).2.2 = d7 at *
        go_upto_region 18 with fail
        refine wp_namedG (fun w' => DSt w b rb ro ⟨(m : Int), s, st, sk, re, fe, ag, c, sl⟩ SA sn sc szs w.heap.size w1.heap.size gA cA gB cB (m + m) w' zs e0 e1 e2 k7 d7) ?_ ?_
        · exact Z1.setPl _
        clear Z0 Z1 p0 p1 p2 fp s11 g11
        rintro w12 V0
        obtain ⟨p0, p1, p2⟩ := V0.pos.flat
        obtain ⟨f0, f1, f2, f3, f4, f5⟩ := V0.res.flat
        go_wp2_with fail
        refine l04Draw_ret (g := w.heap.size) (by rfl) (by rfl) (V0.res.set (some ⟨gA, 0, none⟩) (m + m) cA (some ⟨gB, 0, none⟩) 2 cB e2) ⟨gA, m + m, cA, gB, cB, zs, e0, e1, e2, rfl, ?_, ?_, by omega, ?_, by omega, V0.hAB, k7, d7, by omega, ((V0.src.other (p := ⟨w.heap.size, 0, none⟩) (by show b < w.heap.size; exact V0.hb) _).other (p := ⟨w.heap.size, 1, none⟩) (by show b < w.heap.size; exact V0.hb) _).other (p := ⟨w.heap.size, 2, none⟩) (by show b < w.heap.size; exact V0.hb) _⟩
        · exact (((V0.own.setBelow (by show w.heap.size < _; omega) _).setBelow (by show w.heap.size < _; omega) _).setBelow (by show w.heap.size < _; omega) _).lower (by omega)
        · exact (((V0.own2.setBelow (by show w.heap.size < _; omega) _).setBelow (by show w.heap.size < _; omega) _).setBelow (by show w.heap.size < _; omega) _).lower (by omega)
        · exact grown_set (grown_set (grown_set V0.gr _ (Nat.le_refl _) _) _ (Nat.le_refl _) _) _ (Nat.le_refl _) _
      · have bd3 := pk_bd szs k3 d3 2 (by omega)
        obtain ⟨y0, y1, y2⟩ := bd3
        go_wp2_with fail
        refine (pick_any b SA sn sc szs k3 d3 2 (by omega) (by omega) (by omega) _ (by exact D6.out.src)).mono ?_
        rintro e w6 ⟨rfl, s6, g6⟩
        have D7 := Lib.hid (D6.out.pick s6 g6)
        clear s6 g6 D6
        generalize (pk szs k3 d3 2).1 = sd_ at *
        generalize (pk szs k3 d3 2).2.1 = k4 at *
        generalize (pk szs k3 d3 2).2.2 = d4 at *
        have hk4 : k4 ≤ k0 + 90 := by omega
        clear hk3 y2
        rcases (by omega : sd_ = 0 ∨ sd_ = 1) with rfl | rfl
        · have Y9 := D7.out
          obtain ⟨c0, c1, c2, c3, c4, c5, c6, c7, c8⟩ := Y9.rul
          clear c1 c2 c3 c4 c5 c6 c7 c8 Y9
          dsimp only at c0
          go_wp2_with fail
          go_loopw [9] (fun i wr => ∃ (j : Nat) (zs : List Int), 0 ≤ j ∧ j ≤ m ∧ i = .int .i64 j ∧ DSt w b rb ro ⟨(m : Int), s, st, sk, re, fe, ag, c, sl⟩ SA sn sc szs w.heap.size w1.heap.size gA cA gB cB (m + m) wr zs 0 0 0 k4 d4) (fun i _ => (m) - (intOf i).toNat)
          case atStart => exact ⟨0, zs, Nat.le_refl _, by omega, by first | rfl | simp, D7.out⟩
          case round =>
            clear D7 c0
            obtain ⟨jj, zs, hj0, hj1, rfl, D8⟩ := hrel
            have D9 := Lib.hid D8
            obtain ⟨c0, c1, c2, c3, c4, c5, c6, c7, c8⟩ := D8.rul
            clear c1 c2 c3 c4 c5 c6 c7 c8
            dsimp only at c0
            obtain ⟨p0, p1, p2⟩ := D8.pos.flat
            by_cases hlt2 : jj < m
            · have i5 : (0 : Int) ≤ (jj : Int) := by omega
              have i6 : (jj : Int) < (m : Int) := by omega
              have i7 : (jj : Int) < (m : Int) + (m : Int) := by omega
              obtain ⟨x, hx⟩ := get_some (zs := zs) (k := jj) (by have := D8.own.len; omega)
              have qj := D8.own.cell hx
              have fj := D8.own.free jj
              clear hx D8
              go_wp2_with fail
              go_roundw
              case rel => exact ⟨jj + 1, _, by omega, by omega, by go_num, D9.out.setPit jj 0⟩
              case measure => simp [intOf]; omega
            · have i6 : ¬ ((jj : Int) < (m : Int)) := by omega
              clear D8 p0 p1 p2
              have X0 := D9.out
              have bq0 := (pk_bd szs k4 d4 8 (by omega)).2.2
              obtain ⟨p0, p1, p2⟩ := X0.pos.flat
              have X1 := X0.drew
              go_wp2_with fail
              go_region_held3 (fun w' => w'.cell? ⟨w1.heap.size, 1, none⟩ = some (.slice (some ⟨gB, 0, none⟩) 2 cB)) (first | assumption | go_keep) (first
                | (go_at_call 160; refine (pick_any b SA sn sc szs k4 d4 8 (by omega) (by omega) (by omega) _ (by exact X1.src)).mono ?_; rintro e w7 ⟨rfl, s7, g7⟩; have X2 := X1.pick s7 g7; obtain ⟨p0, p1, p2⟩ := X2.pos.flat; have qj := X2.own2.cell (k := 0) rfl; have fj := X2.own2.free 0))
              go_upto_region 16 with fail
              refine wp_namedG (fun w' => DSt w b rb ro ⟨(m : Int), s, st, sk, re, fe, ag, c, sl⟩ SA sn sc szs w.heap.size w1.heap.size gA cA gB cB (m + m) w' zs (pk szs k4 d4 8).1 0 0 (pk szs k4 d4 8).2.1 (pk szs k4 d4 8).2.2) ?_ ?_
              · exact X2.setStore 0 _ _ _ rfl
              clear X0 X1 X2 p0 p1 p2 qj fj s7 g7 D9
              rintro w8 Y0
              generalize (pk szs k4 d4 8).1 = e0 at *
              generalize (pk szs k4 d4 8).2.1 = k5 at *
              generalize (pk szs k4 d4 8).2.2 = d5 at *
              have bq1 := (pk_bd szs k5 d5 8 (by omega)).2.2
              obtain ⟨p0, p1, p2⟩ := Y0.pos.flat
              have Y1 := Y0.drew
              go_wp2_with fail
              go_region_held3 (fun w' => w'.cell? ⟨w1.heap.size, 1, none⟩ = some (.slice (some ⟨gB, 0, none⟩) 2 cB)) (first | assumption | go_keep) (first
                | (go_at_call 160; refine (pick_any b SA sn sc szs k5 d5 8 (by omega) (by omega) (by omega) _ (by exact Y1.src)).mono ?_; rintro e w9 ⟨rfl, s9, g9⟩; have Y2 := Y1.pick s9 g9; obtain ⟨p0, p1, p2⟩ := Y2.pos.flat; have qj := Y2.own2.cell (k := 1) rfl; have fj := Y2.own2.free 1))
              go_upto_region 17 with fail
              refine wp_namedG (fun w' => DSt w b rb ro ⟨(m : Int), s, st, sk, re, fe, ag, c, sl⟩ SA sn sc szs w.heap.size w1.heap.size gA cA gB cB (m + m) w' zs e0 (pk szs k5 d5 8).1 0 (pk szs k5 d5 8).2.1 (pk szs k5 d5 8).2.2) ?_ ?_
              · exact Y2.setStore 1 _ _ _ rfl
              clear Y0 Y1 Y2 p0 p1 p2 qj fj s9 g9
              rintro w10 Z0
              generalize (pk szs k5 d5 8).1 = e1 at *
              generalize (pk szs k5 d5 8).2.1 = k6 at *
              generalize (pk szs k5 d5 8).2.2 = d6 at *
              go_wp2_with fail
              refine (pick_any b SA sn sc szs k6 d6 2 (by omega) (by omega) (by omega) _ (by exact Z0.src)).mono ?_
              rintro e w11 ⟨rfl, s11, g11⟩
              have Z1 := Z0.pick s11 g11
              obtain ⟨p0, p1, p2⟩ := Z1.pos.flat
              have fp := Z1.fro 2
              have bq2 := (pk_bd szs k6 d6 2 (by omega)).2.2
              generalize (pk szs k6 d6 2).1 = e2 at *
              generalize (pk szs k6 d6 2).2.1 = k7 at *
              generalize (pk szs k6 d6 2).2.2 = d7 at *
              go_upto_region 18 with fail
              refine wp_namedG (fun w' => DSt w b rb ro ⟨(m : Int), s, st, sk, re, fe, ag, c, sl⟩ SA sn sc szs w.heap.size w1.heap.size gA cA gB cB (m + m) w' zs e0 e1 e2 k7 d7) ?_ ?_
              · exact Z1.setPl _
              clear Z0 Z1 p0 p1 p2 fp s11 g11
              rintro w12 V0
              obtain ⟨p0, p1, p2⟩ := V0.pos.flat
              obtain ⟨f0, f1, f2, f3, f4, f5⟩ := V0.res.flat
              go_wp2_with fail
              refine l04Draw_ret (g := w.heap.size) (by rfl) (by rfl) (V0.res.set (some ⟨gA, 0, none⟩) (m + m) cA (some ⟨gB, 0, none⟩) 2 cB e2) ⟨gA, m + m, cA, gB, cB, zs, e0, e1, e2, rfl, ?_, ?_, by omega, ?_, by omega, V0.hAB, k7, d7, by omega, ((V0.src.other (p := ⟨w.heap.size, 0, none⟩) (by show b < w.heap.size; exact V0.hb) _).other (p := ⟨w.heap.size, 1, none⟩) (by show b < w.heap.size; exact V0.hb) _).other (p := ⟨w.heap.size, 2, none⟩) (by show b < w.heap.size; exact V0.hb) _⟩
              · exact (((V0.own.setBelow (by show w.heap.size < _; omega) _).setBelow (by show w.heap.size < _; omega) _).setBelow (by show w.heap.size < _; omega) _).lower (by omega)
              · exact (((V0.own2.setBelow (by show w.heap.size < _; omega) _).setBelow (by show w.heap.size < _; omega) _).setBelow (by show w.heap.size < _; omega) _).lower (by omega)
              · exact grown_set (grown_set (grown_set V0.gr _ (Nat.le_refl _) _) _ (Nat.le_refl _) _) _ (Nat.le_refl _) _
        · have Y9 := D7.out
          obtain ⟨c0, c1, c2, c3, c4, c5, c6, c7, c8⟩ := Y9.rul
          clear c1 c2 c3 c4 c5 c6 c7 c8 Y9
          dsimp only at c0
          go_wp2_with fail
          go_loopw [9] (fun i wr => ∃ (j : Nat) (zs : List Int), m ≤ j ∧ j ≤ m + m ∧ i = .int .i64 j ∧ DSt w b rb ro ⟨(m : Int), s, st, sk, re, fe, ag, c, sl⟩ SA sn sc szs w.heap.size w1.heap.size gA cA gB cB (m + m) wr zs 0 0 0 k4 d4) (fun i _ => (m + m) - (intOf i).toNat)
          case atStart => exact ⟨m, zs, Nat.le_refl _, by omega, by first | rfl | simp, D7.out⟩
          case round =>
            clear D7 c0
            obtain ⟨jj, zs, hj0, hj1, rfl, D8⟩ := hrel
            have D9 := Lib.hid D8
            obtain ⟨c0, c1, c2, c3, c4, c5, c6, c7, c8⟩ := D8.rul
            clear c1 c2 c3 c4 c5 c6 c7 c8
            dsimp only at c0
            obtain ⟨p0, p1, p2⟩ := D8.pos.flat
            by_cases hlt2 : jj < m + m
            · have i5 : (0 : Int) ≤ (jj : Int) := by omega
              have i6 : (jj : Int) < 2 * (m : Int) := by omega
              have i7 : (jj : Int) < (m : Int) + (m : Int) := by omega
              obtain ⟨x, hx⟩ := get_some (zs := zs) (k := jj) (by have := D8.own.len; omega)
              have qj := D8.own.cell hx
              have fj := D8.own.free jj
              clear hx D8
              go_wp2_with fail
              go_roundw
              case rel => exact ⟨jj + 1, _, by omega, by omega, by go_num, D9.out.setPit jj 0⟩
              case measure => simp [intOf]; omega
            · have i6 : ¬ ((jj : Int) < 2 * (m : Int)) := by omega
              clear D8 p0 p1 p2
              have X0 := D9.out
              have bq0 := (pk_bd szs k4 d4 8 (by omega)).2.2
              obtain ⟨p0, p1, p2⟩ := X0.pos.flat
              have X1 := X0.drew
              go_wp2_with fail
              go_region_held3 (fun w' => w'.cell? ⟨w1.heap.size, 1, none⟩ = some (.slice (some ⟨gB, 0, none⟩) 2 cB)) (first | assumption | go_keep) (first
                | (go_at_call 160; refine (pick_any b SA sn sc szs k4 d4 8 (by omega) (by omega) (by omega) _ (by exact X1.src)).mono ?_; rintro e w7 ⟨rfl, s7, g7⟩; have X2 := X1.pick s7 g7; obtain ⟨p0, p1, p2⟩ := X2.pos.flat; have qj := X2.own2.cell (k := 0) rfl; have fj := X2.own2.free 0))
              go_upto_region 16 with fail
              refine wp_namedG (fun w' => DSt w b rb ro ⟨(m : Int), s, st, sk, re, fe, ag, c, sl⟩ SA sn sc szs w.heap.size w1.heap.size gA cA gB cB (m + m) w' zs (pk szs k4 d4 8).1 0 0 (pk szs k4 d4 8).2.1 (pk szs k4 d4 8).2.2) ?_ ?_
              · exact X2.setStore 0 _ _ _ rfl
              clear X0 X1 X2 p0 p1 p2 qj fj s7 g7 D9
              rintro w8 Y0
              generalize (pk szs k4 d4 8).1 = e0 at *
              generalize (pk szs k4 d4 8).2.1 = k5 at *
              generalize (pk szs k4 d4 8).2.2 = d5 at *
              have bq1 := (pk_bd szs k5 d5 8 (by omega)).2.2
              obtain ⟨p0, p1, p2⟩ := Y0.pos.flat
              have Y1 := Y0.drew
              go_wp2_with fail
              go_region_held3 (fun w' => w'.cell? ⟨w1.heap.size, 1, none⟩ = some (.slice (some ⟨gB, 0, none⟩) 2 cB)) (first | assumption | go_keep) (first
                | (go_at_call 160; refine (pick_any b SA sn sc szs k5 d5 8 (by omega) (by omega) (by omega) _ (by exact Y1.src)).mono ?_; rintro e w9 ⟨rfl, s9, g9⟩; have Y2 := Y1.pick s9 g9; obtain ⟨p0, p1, p2⟩ := Y2.pos.flat; have qj := Y2.own2.cell (k := 1) rfl; have fj := Y2.own2.free 1))
              go_upto_region 17 with fail
              refine wp_namedG (fun w' => DSt w b rb ro ⟨(m : Int), s, st, sk, re, fe, ag, c, sl⟩ SA sn sc szs w.heap.size w1.heap.size gA cA gB cB (m + m) w' zs e0 (pk szs k5 d5 8).1 0 (pk szs k5 d5 8).2.1 (pk szs k5 d5 8).2.2) ?_ ?_
              · exact Y2.setStore 1 _ _ _ rfl
              clear Y0 Y1 Y2 p0 p1 p2 qj fj s9 g9
              rintro w10 Z0
              generalize (pk szs k5 d5 8).1 = e1 at *
              generalize (pk szs k5 d5 8).2.1 = k6 at *
              generalize (pk szs k5 d5 8).2.2 = d6 at *
              go_wp2_with fail
              refine (pick_any b SA sn sc szs k6 d6 2 (by omega) (by omega) (by omega) _ (by exact Z0.src)).mono ?_
              rintro e w11 ⟨rfl, s11, g11⟩
              have Z1 := Z0.pick s11 g11
              obtain ⟨p0, p1, p2⟩ := Z1.pos.flat
              have fp := Z1.fro 2
              have bq2 := (pk_bd szs k6 d6 2 (by omega)).2.2
              generalize (pk szs k6 d6 2).1 = e2 at *
              generalize (pk szs k6 d6 2).2.1 = k7 at *
              generalize (pk szs k6 d6 2).2.2 = d7 at *
              go_upto_region 18 with fail
              refine wp_namedG (fun w' => DSt w b rb ro ⟨(m : Int), s, st, sk, re, fe, ag, c, sl⟩ SA sn sc szs w.heap.size w1.heap.size gA cA gB cB (m + m) w' zs e0 e1 e2 k7 d7) ?_ ?_
              · exact Z1.setPl _
              clear Z0 Z1 p0 p1 p2 fp s11 g11
              rintro w12 V0
              obtain ⟨p0, p1, p2⟩ := V0.pos.flat
              obtain ⟨f0, f1, f2, f3, f4, f5⟩ := V0.res.flat
              go_wp2_with fail
              refine l04Draw_ret (g := w.heap.size) (by rfl) (by rfl) (V0.res.set (some ⟨gA, 0, none⟩) (m + m) cA (some ⟨gB, 0, none⟩) 2 cB e2) ⟨gA, m + m, cA, gB, cB, zs, e0, e1, e2, rfl, ?_, ?_, by omega, ?_, by omega, V0.hAB, k7, d7, by omega, ((V0.src.other (p := ⟨w.heap.size, 0, none⟩) (by show b < w.heap.size; exact V0.hb) _).other (p := ⟨w.heap.size, 1, none⟩) (by show b < w.heap.size; exact V0.hb) _).other (p := ⟨w.heap.size, 2, none⟩) (by show b < w.heap.size; exact V0.hb) _⟩
              · exact (((V0.own.setBelow (by show w.heap.size < _; omega) _).setBelow (by show w.heap.size < _; omega) _).setBelow (by show w.heap.size < _; omega) _).lower (by omega)
              · exact (((V0.own2.setBelow (by show w.heap.size < _; omega) _).setBelow (by show w.heap.size < _; omega) _).setBelow (by show w.heap.size < _; omega) _).lower (by omega)
              · exact grown_set (grown_set (grown_set V0.gr _ (Nat.le_refl _) _) _ (Nat.le_refl _) _) _ (Nat.le_refl _) _
end Go.Proofs.Ytnanaldolnehiaa
