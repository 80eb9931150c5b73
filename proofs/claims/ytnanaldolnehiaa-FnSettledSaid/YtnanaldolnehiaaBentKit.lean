/-
  The memory of a function that draws rules and a position: two results' blocks, two variables' blocks, the lists, the source.
-/
import Derived.Test.YtnanaldolnehiaaOrderS
import Derived.Test.YtnanaldolnehiaaBent
import Derived.Test.YtnanaldolnehiaaRegion
import Derived.Test.YtnanaldolnehiaaAppend
set_option linter.unusedSimpArgs false
set_option linter.unusedVariables false
namespace Go.Proofs.Ytnanaldolnehiaa
open Go.ChangeShapes Go.WideShapes Go.RowKit Go.Deep

def z9 : List Value := [.int .i64 0, .int .i64 0, .bool false, .bool false, .bool false, .bool false, .bool false, .int .i64 0, .int .i64 0]
def z3 : List Value := [.slice none 0 0, .slice none 0 0, .int .i64 0]
theorem set_grown (w : World) (p : Addr) (u : Value) : w.grownBy (w.setCell p u) (some p.block) := ⟨rfl, rfl, rfl, by simp, fun k hk hne => Below.heap_setCell w p u k (fun e => hne (by rw [e]))⟩
structure BS (w0 W : World) (b : Nat) (SA : Option Addr) (sn sc : Nat) (szs : List Int) (k : Nat) (sd : Int) (R P rb pb base : Nat) (rc pc : List Value) (gA n cA : Nat) (zs : List Int) (A' : Option Addr) (n' c' : Nat) (ys : List Int) : Prop where
  kr : OutAt W R z9
  kp : OutAt W P z3
  kv : OutAt W rb rc
  kq : OutAt W pb pc
  oa : Own W base (some ⟨gA, 0, none⟩) n cA zs
  ob : Own W base A' n' c' ys
  sr : Src W b SA sn sc szs k sd
  gr : w0.grownBy W (some b)
  bR : ¬ (b = R)
  bP : ¬ (b = P)
  RP : ¬ (R = P)
  brb : b < rb
  Rrb : R < rb
  Prb : P < rb
  Rba : R < base
  Pba : P < base
  bba : b < base
  nrA : ¬ (gA = rb)
  nrq : A' ≠ some ⟨rb, 0, none⟩
  rpb : ¬ (rb = pb)
  bpb : base ≤ pb
  bgA : base ≤ gA
  gpb : ¬ (gA = pb)
  hR : w0.heap.size ≤ R
  hP : w0.heap.size ≤ P
  nA : n' = 2 → A' ≠ some ⟨gA, 0, none⟩
  nq : A' ≠ some ⟨pb, 0, none⟩
section
variable {w0 W W' : World} {b : Nat} {SA : Option Addr} {sn sc : Nat} {szs : List Int} {k k' : Nat} {sd sd' : Int} {R P rb pb base : Nat} {rc pc : List Value} {gA n cA : Nat} {zs : List Int} {A' : Option Addr} {n' c' : Nat} {ys : List Int}
theorem BS.gb (h : BS w0 W b SA sn sc szs k sd R P rb pb base rc pc gA n cA zs A' n' c' ys) {g : Nat} (e : A' = some ⟨g, 0, none⟩) : base ≤ g := by
  rcases h.ob.form with ⟨e', _⟩ | ⟨g', e', hb, _⟩
  · rw [e'] at e; cases e
  · rw [e'] at e; injection e with e; injection e with e; omega
theorem BS.size (h : BS w0 W b SA sn sc szs k sd R P rb pb base rc pc gA n cA zs A' n' c' ys) : base < W.heap.size := by have := h.bpb; have := h.kq.1.1; omega
theorem BS.drew (h : BS w0 W b SA sn sc szs k sd R P rb pb base rc pc gA n cA zs A' n' c' ys) : BS w0 W.drew b SA sn sc szs k sd R P rb pb base rc pc gA n cA zs A' n' c' ys :=
  ⟨h.kr, h.kp, h.kv, h.kq, h.oa, h.ob, h.sr, ⟨h.gr.os, h.gr.tape, h.gr.output, h.gr.size, h.gr.block⟩, h.bR, h.bP, h.RP, h.brb, h.Rrb, h.Prb, h.Rba, h.Pba, h.bba, h.nrA, h.nrq, h.rpb, h.bpb, h.bgA, h.gpb, h.hR, h.hP, h.nA, h.nq⟩
theorem BS.pick (h : BS w0 W b SA sn sc szs k sd R P rb pb base rc pc gA n cA zs A' n' c' ys) (hs : Src W' b SA sn sc szs k' sd') (hg : W.grownBy W' (some b)) : BS w0 W' b SA sn sc szs k' sd' R P rb pb base rc pc gA n cA zs A' n' c' ys := by
  have h1 := h.brb
  have h2 := h.bba
  have h7 := h.Rba
  have h8 := h.Pba
  have h9 := h.rpb
  have h3 := h.bpb
  exact ⟨h.kr.grown hg (fun e => h.bR e.symm), h.kp.grown hg (fun e => h.bP e.symm), h.kv.grown hg (by omega), h.kq.grown hg (by omega), h.oa.src hg (by omega), h.ob.src hg (by omega), hs, gr_trans h.gr hg, h.bR, h.bP, h.RP, h.brb, h.Rrb, h.Prb, h.Rba, h.Pba, h.bba, h.nrA, h.nrq, h.rpb, h.bpb, h.bgA, h.gpb, h.hR, h.hP, h.nA, h.nq⟩
theorem BS.below (h : BS w0 W b SA sn sc szs k sd R P rb pb base rc pc gA n cA zs A' n' c' ys) (hb : Below W.heap.size W W') : BS w0 W' b SA sn sc szs k sd R P rb pb base rc pc gA n cA zs A' n' c' ys :=
  ⟨h.kr.sub hb, h.kp.sub hb, h.kv.sub hb, h.kq.sub hb, h.oa.below hb (Nat.le_refl _), h.ob.below hb (Nat.le_refl _), h.sr.below hb h.sr.lt, gr_trans h.gr (grown_below hb), h.bR, h.bP, h.RP, h.brb, h.Rrb, h.Prb, h.Rba, h.Pba, h.bba, h.nrA, h.nrq, h.rpb, h.bpb, h.bgA, h.gpb, h.hR, h.hP, h.nA, h.nq⟩
theorem BS.alloc (h : BS w0 W b SA sn sc szs k sd R P rb pb base rc pc gA n cA zs A' n' c' ys) (o : Obj) : BS w0 (W.alloc o) b SA sn sc szs k sd R P rb pb base rc pc gA n cA zs A' n' c' ys := h.below ((Below.refl _ _).alloc (Nat.le_refl _) o)
theorem BS.setPit (h : BS w0 W b SA sn sc szs k sd R P rb pb base rc pc gA n cA zs A' n' c' ys) (h2' : n' = 2) (j : Nat) (x : Int) : BS w0 (W.setCell ⟨gA, j, none⟩ (.int .i64 x)) b SA sn sc szs k sd R P rb pb base rc pc gA n cA (zs.set j x) A' n' c' ys := by
  have h1 := h.brb
  have h2 := h.bba
  have h7 := h.Rba
  have h8 := h.Pba
  have h9 := h.rpb
  have h3 := h.bgA
  have h4 := h.Rrb
  have h5 := h.Prb
  have h6 := h.hR
  exact ⟨h.kr.other _ (by show ¬ (gA = R); omega) _, h.kp.other _ (by show ¬ (gA = P); omega) _, h.kv.other _ (by show ¬ (gA = rb); exact h.nrA) _, h.kq.other _ (by show ¬ (gA = pb); exact h.gpb) _, (h.oa.stored j x).1, h.ob.setNe (h.nA h2') _, h.sr.other (p := ⟨gA, j, none⟩) (by show b < gA; omega) _, grown_set h.gr ⟨gA, j, none⟩ (by show w0.heap.size ≤ gA; omega) _, h.bR, h.bP, h.RP, h.brb, h.Rrb, h.Prb, h.Rba, h.Pba, h.bba, h.nrA, h.nrq, h.rpb, h.bpb, h.bgA, h.gpb, h.hR, h.hP, h.nA, h.nq⟩
theorem BS.setPos (h : BS w0 W b SA sn sc szs k sd R P rb pb base rc pc gA n cA zs A' n' c' ys) (i : Nat) (v : Value) (hi : i < pc.length) : BS w0 (W.setCell ⟨pb, i, none⟩ v) b SA sn sc szs k sd R P rb pb base rc (pc.set i v) gA n cA zs A' n' c' ys := by
  have h1 := h.brb
  have h2 := h.bba
  have h7 := h.Rba
  have h8 := h.Pba
  have h9 := h.rpb
  have h3 := h.bpb
  have h4 := h.Rrb
  have h5 := h.Prb
  have h6 := h.hR
  exact ⟨h.kr.other _ (by show ¬ (pb = R); omega) _, h.kp.other _ (by show ¬ (pb = P); omega) _, h.kv.other _ (by show ¬ (pb = rb); omega) _, h.kq.set i v hi, h.oa.setNe (by simpa using h.gpb) _, h.ob.setNe h.nq _, h.sr.other (p := ⟨pb, i, none⟩) (by show b < pb; omega) _, grown_set h.gr ⟨pb, i, none⟩ (by show w0.heap.size ≤ pb; omega) _, h.bR, h.bP, h.RP, h.brb, h.Rrb, h.Prb, h.Rba, h.Pba, h.bba, h.nrA, h.nrq, h.rpb, h.bpb, h.bgA, h.gpb, h.hR, h.hP, h.nA, h.nq⟩
theorem BS.setRu (h : BS w0 W b SA sn sc szs k sd R P rb pb base rc pc gA n cA zs A' n' c' ys) (i : Nat) (v : Value) (hi : i < rc.length) : BS w0 (W.setCell ⟨rb, i, none⟩ v) b SA sn sc szs k sd R P rb pb base (rc.set i v) pc gA n cA zs A' n' c' ys := by
  have h1 := h.brb
  have h2 := h.bba
  have h7 := h.Rba
  have h8 := h.Pba
  have h9 := h.rpb
  have h3 := h.bpb
  have h4 := h.Rrb
  have h5 := h.Prb
  have h6 := h.hR
  exact ⟨h.kr.other _ (by show ¬ (rb = R); omega) _, h.kp.other _ (by show ¬ (rb = P); omega) _, h.kv.set i v hi, h.kq.other _ (by show ¬ (rb = pb); omega) _, h.oa.setNe (by simpa using h.nrA) _, h.ob.setNe h.nrq _, h.sr.other (p := ⟨rb, i, none⟩) (by show b < rb; omega) _, grown_set h.gr ⟨rb, i, none⟩ (by show w0.heap.size ≤ rb; omega) _, h.bR, h.bP, h.RP, h.brb, h.Rrb, h.Prb, h.Rba, h.Pba, h.bba, h.nrA, h.nrq, h.rpb, h.bpb, h.bgA, h.gpb, h.hR, h.hP, h.nA, h.nq⟩
end
theorem BS.setStore {w0 W : World} {b : Nat} {SA : Option Addr} {sn sc : Nat} {szs : List Int} {k : Nat} {sd : Int} {R P rb pb base : Nat} {rc pc : List Value} {gA n cA : Nat} {zs : List Int} {gB : Nat} {n' c' : Nat} {ys : List Int}
    (h : BS w0 W b SA sn sc szs k sd R P rb pb base rc pc gA n cA zs (some ⟨gB, 0, none⟩) n' c' ys) (h2' : n' = 2) (j : Nat) (x : Int) : BS w0 (W.setCell ⟨gB, j, none⟩ (.int .i64 x)) b SA sn sc szs k sd R P rb pb base rc pc gA n cA zs (some ⟨gB, 0, none⟩) n' c' (ys.set j x) := by
  have h1 := h.brb
  have h2 := h.bba
  have h7 := h.Rba
  have h8 := h.Pba
  have h9 := h.rpb
  have h3 := h.gb rfl
  have h4 := h.Rrb
  have h5 := h.Prb
  have h6 := h.hR
  exact ⟨h.kr.other _ (by show ¬ (gB = R); omega) _, h.kp.other _ (by show ¬ (gB = P); omega) _, h.kv.other _ (by show ¬ (gB = rb); intro e; exact h.nrq (by rw [e])) _, h.kq.other _ (by show ¬ (gB = pb); intro e; exact h.nq (by rw [e])) _, h.oa.setNe (by intro e; exact h.nA h2' e.symm) _, (h.ob.stored j x).1, h.sr.other (p := ⟨gB, j, none⟩) (by show b < gB; omega) _, grown_set h.gr ⟨gB, j, none⟩ (by show w0.heap.size ≤ gB; omega) _, h.bR, h.bP, h.RP, h.brb, h.Rrb, h.Prb, h.Rba, h.Pba, h.bba, h.nrA, h.nrq, h.rpb, h.bpb, h.bgA, h.gpb, h.hR, h.hP, h.nA, h.nq⟩
/-- The stores are another list of the call's own, grown out of the old one. -/
theorem BS.grow {w0 W W' : World} {b : Nat} {SA : Option Addr} {sn sc : Nat} {szs : List Int} {k : Nat} {sd : Int} {R P rb pb base : Nat} {rc pc : List Value} {gA n cA : Nat} {zs : List Int} {gB : Nat} {n' c' : Nat} {ys : List Int} {A2 : Option Addr} {n2 c2 : Nat} {ys2 : List Int}
    (h : BS w0 W b SA sn sc szs k sd R P rb pb base rc pc gA n cA zs (some ⟨gB, 0, none⟩) n' c' ys) (h2' : n' = 2) (ho : Own W' base A2 n2 c2 ys2) (hg : W.grownBy W' (some gB)) (hn2 : ¬ (n2 = 2)) (hrb : rb < base) {D : Option Addr} {dn dc : Nat} (hp : pc[0]? = some (.slice D dn dc)) {y : Int} (hy : ys2[0]? = some y) : BS w0 W' b SA sn sc szs k sd R P rb pb base rc pc gA n cA zs A2 n2 c2 ys2 := by
  have h1 := h.brb
  have h2 := h.bba
  have h7 := h.Rba
  have h8 := h.Pba
  have h9 := h.rpb
  have h3 := h.gb rfl
  have h4 := h.Rrb
  have h5 := h.Prb
  have h6 := h.hR
  have e1 : ¬ (gA = gB) := fun e => h.nA h2' (by rw [e])
  have e2 : ¬ (gB = pb) := fun e => h.nq (by rw [e])
  have kq := h.kq.grown hg (fun e => e2 e.symm)
  refine ⟨h.kr.grown hg (by omega), h.kp.grown hg (by omega), h.kv.grown hg (by omega), kq, h.oa.kept hg (fun g e => .inr (by injection e with e; subst e; intro e; injection e with e; injection e with e; exact e1 e)), ho, ?_, ?_, h.bR, h.bP, h.RP, h.brb, h.Rrb, h.Prb, h.Rba, h.Pba, h.bba, h.nrA, ?_, h.rpb, h.bpb, h.bgA, h.gpb, h.hR, h.hP, fun e => absurd e hn2, ?_⟩
  · have hb : Below (b + 1) W W' := (Below.refl _ _).grown hg (by have := h.sr.lt; omega) (fun g e => by injection e with e; omega)
    exact h.sr.below hb (by omega)
  · exact ⟨hg.os.trans h.gr.os, hg.tape.trans h.gr.tape, hg.output.trans h.gr.output, Nat.le_trans h.gr.size hg.size, fun k hk hne => (hg.block k (Nat.lt_of_lt_of_le hk h.gr.size) (fun e => by injection e with e; omega)).trans (h.gr.block k hk hne)⟩
  · intro e
    rcases ho.form with ⟨e', _⟩ | ⟨g', e', x1, x2⟩
    · rw [e'] at e; cases e
    · rw [e'] at e; injection e with e; injection e with e; omega
  · intro e
    subst e
    have c1 := kq.1.at_ 0 hp
    rw [ho.cell hy] at c1
    cases c1
end Go.Proofs.Ytnanaldolnehiaa
