/-
  The law FnSettled, walked.
-/
import Derived.Test.YtnanaldolnehiaaAsk
import Derived.Test.YtnanaldolnehiaaSetPlain
import Derived.Test.YtnanaldolnehiaaSetR
import Derived.Test.YtnanaldolnehiaaSetT
set_option linter.unusedSimpArgs false
set_option linter.unusedVariables false
namespace Go.Proofs.Ytnanaldolnehiaa
open Go.ChangeShapes Go.WideShapes Go.RowKit Go.Deep

theorem f6big_any (A : Option Addr) (n c : Nat) (v : Bool) (hv : decide (4096 < n) = v) (w : World) (h : n ≤ 9223372036854775807) : Calls Try.prog 88 #[.slice A n c] w fun e w' => e = .returned (.bool v) ∧ w = w' := by
  subst hv
  by_cases h0 : 4096 < n
  · have j0 : (4096 : Int) < (n : Int) := by omega
    rw [decide_eq_true h0]
    clear h0
    go_enter Try.func88, Try.ntmps88
    go_wp2_with fail
    go_ret
    exact ⟨rfl, rfl⟩
  · have j0 : ¬ ((4096 : Int) < (n : Int)) := by omega
    rw [decide_eq_false h0]
    clear h0
    go_enter Try.func88, Try.ntmps88
    go_wp2_with fail
    go_ret
    exact ⟨rfl, rfl⟩
set_option maxRecDepth 100000 in
set_option maxHeartbeats 16000000 in
theorem FnSettled_walk (A0 : Option Addr) (n0 c0 : Nat) (bs : List Int) (w : World) (h : Bys w w.heap.size A0 n0 c0 bs) : Calls Try.prog 17 #[.slice A0 n0 c0] w fun e w' => e = .returned (.bool true) ∧ Below w.heap.size w w' := by
  have hle := h.le
  cases hv : decide (4096 < n0)
  rotate_left
  · clear h
    go_enter Try.func17, Try.ntmps17
    go_wp2_with fail
    refine (f6big_any A0 n0 c0 true hv _ hle).mono ?_
    rintro e w' ⟨rfl, rfl⟩
    go_wp2_with fail
    go_ret
    exact ⟨rfl, Below.refl _ _⟩
  have hn0 : n0 ≤ 4096 := by simpa using hv
  have H := Lib.hid h
  have HV := Lib.hid hv
  clear h hv
  go_enter Try.func17, Try.ntmps17
  go_wp2_with fail
  refine (f6big_any A0 n0 c0 false HV.out _ hle).mono ?_
  rintro e w' ⟨rfl, rfl⟩
  go_wp2_with fail
  refine (DrawGivePosition_any A0 n0 c0 bs _ (by exact H.out) hn0).mono ?_
  rintro e w1 ⟨r, gA, j, n, cA, zs, A', n', c', ys, pl, q, rfl, hj, hn2, hn16, oA, oB, bt⟩
  have i1 := oA.ints.tail j (by omega)
  have i2 := oB.ints
  have hl1 : n - j ≤ 16 := by omega
  clear oA oB H HV
  generalize (some ⟨gA, j, none⟩ : Option Addr) = A at i1 ⊢
  generalize n - j = n1 at i1 hl1 ⊢
  generalize cA - j = u1 at i1 ⊢
  generalize zs.drop j = xs at i1
  obtain ⟨p, s, st, sk, re, fe, ag, c, sl⟩ := r
  have I1 := Lib.hid i1
  have I2 := Lib.hid i2
  have BT := Lib.hid bt
  clear i1 i2 bt hj hn2 hn16
  rw [show (Value.agg (Ru.cells ⟨p, s, st, sk, re, fe, ag, c, sl⟩).toArray) = .agg #[.int .i64 p, .int .i64 s, .bool st, .bool sk, .bool re, .bool fe, .bool ag, .int .i64 c, .int .i64 sl] from rfl]
  go_upto_region 4 with fail
  refine wp_namedS (fun W => Has W w1.heap.size [.int .i64 p, .int .i64 s, .bool st, .bool sk, .bool re, .bool fe, .bool ag, .int .i64 c, .int .i64 sl] ∧ Has W (w1.heap.size + 1) [.slice A n1 u1, .slice A' n' c', .int .i64 pl] ∧ Ints W W.heap.size A n1 u1 xs ∧ Ints W W.heap.size A' n' c' ys ∧ Below w.heap.size w W) ?_ ?_
  · have b0 : Below w1.heap.size w1 ((w1.alloc (.cells #[.int .i64 p, .int .i64 s, .bool st, .bool sk, .bool re, .bool fe, .bool ag, .int .i64 c, .int .i64 sl] 31)).alloc (.cells #[.slice A n1 u1, .slice A' n' c', .int .i64 pl] 28)) := (by repeat (first | with_reducible exact Below.refl _ _ | with_reducible assumption | with_reducible refine sub_alloc ?_ _ | (with_reducible refine sub_setCell2 ?_ ?_ _; (focus (first | (simp; done) | (simp <;> omega)))) | with_reducible refine sub_drew ?_ | with_reducible refine below_drewN ?_ _ | with_reducible refine sub_step (by assumption) ?_ (by first | rfl | (simp; done)) | exact Below.refl _ _ | assumption | refine sub_alloc ?_ _ | refine sub_setCell ?_ (by simp <;> omega) _ | refine sub_drew ?_ | refine below_drewN ?_ _ | refine sub_step (by assumption) ?_ (by first | rfl | (simp; done))))
    exact ⟨(Has.box w1 [.int .i64 p, .int .i64 s, .bool st, .bool sk, .bool re, .bool fe, .bool ag, .int .i64 c, .int .i64 sl] 31 w1.heap.size rfl).alloc _, Has.box _ [.slice A n1 u1, .slice A' n' c', .int .i64 pl] 28 (w1.heap.size + 1) (by simp), I1.out.sub b0, I2.out.sub b0, BT.out.trans (b0.mono BT.out.size)⟩
  generalize w1.heap.size + 1 = pa
  generalize w1.heap.size = ra
  clear I1 I2 BT
  rintro W ⟨hr, hp, h1, h2, bt⟩
  go_upto_region 4 with fail
  refine setReg4 p s st sk re fe ag c sl A n1 u1 A' n' c' pl xs ys q _ ra pa (by exact hr) (by exact hp) (by exact h1) (by exact h2) (by omega) ?_
  intro u42 u43 u44 u45 u46 u47 u48 gD D mD eD D' mD' eD' w' hD iD iD' lD hb
  have bt := bt.trans (hb.mono bt.size)
  have hr := hr.sub hb
  have hp := hp.sub hb
  have h1 := h1.sub hb
  have h2 := h2.sub hb
  clear hb
  go_upto_region 5 with fail
  refine setReg5 p s st sk re fe ag c sl A n1 u1 A' n' c' pl xs ys q _ ra pa (by exact hr) (by exact hp) (by exact h1) (by exact h2) (by omega) ?_
  intro u49 u50 u51 u52 u53 u54 u55 gE E mE eE E' mE' eE' w' hE iE iE' lE hb
  have bt := bt.trans (hb.mono bt.size)
  have hr := hr.sub hb
  have hp := hp.sub hb
  have h1 := h1.sub hb
  have h2 := h2.sub hb
  have hD := hD.sub hb
  have iD := iD.sub hb
  have iD' := iD'.sub hb
  clear hb
  go_upto_region 6 with fail
  refine setReg6 p s st sk re fe ag c sl A n1 u1 A' n' c' pl xs ys _ ra pa (by exact hr) (by exact hp) (by exact h1) (by exact h2) (by omega) ?_
  intro u56 u57 u58 u59 u60 u61 gG G mG eG G' mG' eG' w' hG iG iG' lG hb
  have bt := bt.trans (hb.mono bt.size)
  have hr := hr.sub hb
  have hp := hp.sub hb
  have h1 := h1.sub hb
  have h2 := h2.sub hb
  have hD := hD.sub hb
  have iD := iD.sub hb
  have iD' := iD'.sub hb
  have hE := hE.sub hb
  have iE := iE.sub hb
  have iE' := iE'.sub hb
  clear hb
  go_upto_region 7 with fail
  refine setReg7 p s st sk re fe ag c sl A n1 u1 A' n' c' pl xs ys _ ra pa (by exact hr) (by exact hp) (by exact h1) (by exact h2) (by omega) ?_
  intro u62 u63 u64 u65 u66 u67 gH H mH eH H' mH' eH' w' hH iH iH' lH hb
  have bt := bt.trans (hb.mono bt.size)
  have hr := hr.sub hb
  have hp := hp.sub hb
  have h1 := h1.sub hb
  have h2 := h2.sub hb
  have hD := hD.sub hb
  have iD := iD.sub hb
  have iD' := iD'.sub hb
  have hE := hE.sub hb
  have iE := iE.sub hb
  have iE' := iE'.sub hb
  have hG := hG.sub hb
  have iG := iG.sub hb
  have iG' := iG'.sub hb
  clear hb
  go_upto_region 8 with fail
  refine setReg8 p s st sk re fe ag c sl A n1 u1 A' n' c' pl xs ys q _ ra pa (by exact hr) (by exact hp) (by exact h1) (by exact h2) (by omega) ?_
  intro u68 u69 u70 u71 u72 u73 u74 w' hb
  have bt := bt.trans (hb.mono bt.size)
  have hr := hr.sub hb
  have hp := hp.sub hb
  have h1 := h1.sub hb
  have h2 := h2.sub hb
  have hD := hD.sub hb
  have iD := iD.sub hb
  have iD' := iD'.sub hb
  have hE := hE.sub hb
  have iE := iE.sub hb
  have iE' := iE'.sub hb
  have hG := hG.sub hb
  have iG := iG.sub hb
  have iG' := iG'.sub hb
  have hH := hH.sub hb
  have iH := iH.sub hb
  have iH' := iH'.sub hb
  clear hb
  go_upto_region 9 with fail
  refine setReg9 p s st sk re fe ag c sl A n1 u1 A' n' c' pl xs ys q _ ra pa (by exact hr) (by exact hp) (by exact h1) (by exact h2) (by omega) ?_
  intro u75 u76 u77 u78 u79 u80 u81 w' hb
  have bt := bt.trans (hb.mono bt.size)
  have hr := hr.sub hb
  have hp := hp.sub hb
  have h1 := h1.sub hb
  have h2 := h2.sub hb
  have hD := hD.sub hb
  have iD := iD.sub hb
  have iD' := iD'.sub hb
  have hE := hE.sub hb
  have iE := iE.sub hb
  have iE' := iE'.sub hb
  have hG := hG.sub hb
  have iG := iG.sub hb
  have iG' := iG'.sub hb
  have hH := hH.sub hb
  have iH := iH.sub hb
  have iH' := iH'.sub hb
  clear hb
  go_upto_region 10 with fail
  refine setReg10 p s st sk re fe ag c sl A n1 u1 A' n' c' pl xs ys _ ra pa (by exact hr) (by exact hp) (by exact h1) (by exact h2) (by omega) ?_
  intro u82 u83 u84 u85 u86 u87 w' hb
  have bt := bt.trans (hb.mono bt.size)
  have hr := hr.sub hb
  have hp := hp.sub hb
  have h1 := h1.sub hb
  have h2 := h2.sub hb
  have hD := hD.sub hb
  have iD := iD.sub hb
  have iD' := iD'.sub hb
  have hE := hE.sub hb
  have iE := iE.sub hb
  have iE' := iE'.sub hb
  have hG := hG.sub hb
  have iG := iG.sub hb
  have iG' := iG'.sub hb
  have hH := hH.sub hb
  have iH := iH.sub hb
  have iH' := iH'.sub hb
  clear hb
  go_upto_region 11 with fail
  refine setReg11 p s st sk re fe ag c sl A n1 u1 A' n' c' pl xs ys _ ra pa (by exact hr) (by exact hp) (by exact h1) (by exact h2) (by omega) ?_
  intro u88 u89 u90 u91 u92 u93 w' hb
  have bt := bt.trans (hb.mono bt.size)
  have hr := hr.sub hb
  have hp := hp.sub hb
  have h1 := h1.sub hb
  have h2 := h2.sub hb
  have hD := hD.sub hb
  have iD := iD.sub hb
  have iD' := iD'.sub hb
  have hE := hE.sub hb
  have iE := iE.sub hb
  have iE' := iE'.sub hb
  have hG := hG.sub hb
  have iG := iG.sub hb
  have iG' := iG'.sub hb
  have hH := hH.sub hb
  have iH := iH.sub hb
  have iH' := iH'.sub hb
  clear hb
  go_upto_region 12 with fail
  refine setReg12 p s st sk re fe ag c sl A n1 u1 A' n' c' pl xs ys _ ra pa (by exact hr) (by exact hp) (by exact h1) (by exact h2) (by omega) ?_
  intro u94 u95 u96 u97 u98 u99 w' hb
  have bt := bt.trans (hb.mono bt.size)
  have hr := hr.sub hb
  have hp := hp.sub hb
  have h1 := h1.sub hb
  have h2 := h2.sub hb
  have hD := hD.sub hb
  have iD := iD.sub hb
  have iD' := iD'.sub hb
  have hE := hE.sub hb
  have iE := iE.sub hb
  have iE' := iE'.sub hb
  have hG := hG.sub hb
  have iG := iG.sub hb
  have iG' := iG'.sub hb
  have hH := hH.sub hb
  have iH := iH.sub hb
  have iH' := iH'.sub hb
  clear hb
  go_upto_region 13 with fail
  refine setReg13 p s st sk re fe ag c sl A n1 u1 A' n' c' pl xs ys _ ra pa (by exact hr) (by exact hp) (by exact h1) (by exact h2) (by omega) ?_
  intro u100 u101 u102 u103 u104 u105 w' hb
  have bt := bt.trans (hb.mono bt.size)
  have hr := hr.sub hb
  have hp := hp.sub hb
  have h1 := h1.sub hb
  have h2 := h2.sub hb
  have hD := hD.sub hb
  have iD := iD.sub hb
  have iD' := iD'.sub hb
  have hE := hE.sub hb
  have iE := iE.sub hb
  have iE' := iE'.sub hb
  have hG := hG.sub hb
  have iG := iG.sub hb
  have iG' := iG'.sub hb
  have hH := hH.sub hb
  have iH := iH.sub hb
  have iH' := iH'.sub hb
  clear hb
  go_upto_region 14 with fail
  refine setReg14 _ _ _ _ _ _ _ _ _ _ _ _ _ _ gD gE gG gH D D' mD eD mD' eD' E E' mE eE mE' eE' G G' mG eG mG' eG' H H' mH eH mH' eH' _ (by exact hD) (by exact iD) (by exact iD') (by exact hE) (by exact iE) (by exact iE') (by exact hG) (by exact iG) (by exact iG') (by exact hH) (by exact iH) (by exact iH') ?_
  intro u106 u107 u108 u109 u110 u111 u112 u113 u114 u115 u116 u117 u118 u119 u120 u121 u122 u123 u124 u125 u126 u127 u128 u129 u130 u131 u132 u133 u134 u135 u136 u137 u138 u139 u140 u141 u142 u143 u144 u145 u146 u147 u148 u149 u150 u151 u152 u153 u154 w' hb
  have bt := bt.trans (hb.mono bt.size)
  have hr := hr.sub hb
  have hp := hp.sub hb
  have h1 := h1.sub hb
  have h2 := h2.sub hb
  have hD := hD.sub hb
  have iD := iD.sub hb
  have iD' := iD'.sub hb
  have hE := hE.sub hb
  have iE := iE.sub hb
  have iE' := iE'.sub hb
  have hG := hG.sub hb
  have iG := iG.sub hb
  have iG' := iG'.sub hb
  have hH := hH.sub hb
  have iH := iH.sub hb
  have iH' := iH'.sub hb
  clear hb
  clear hE iE iE' hH iH iH'
  cases hok : okP ⟨p, s, st, sk, re, fe, ag, c, sl⟩ xs ys pl
  · rw [show codP false = 1 from rfl, show gvC false q = 1 from rfl]
    clear hok
    go_wp2_with fail
    go_ret
    exact ⟨rfl, bt⟩
  obtain ⟨y0, y1, rfl⟩ := okP_two hok
  have hok2 := settle_ok hok
  obtain ⟨z1, z2, z3, z4, z5, z6, z7⟩ := okP_nums hok
  dsimp only at hok2 z5 z6 z7
  have nm := need_major (q := q) hok
  rw [hok] at hD iD iD' hG iG iG'
  have HOK := Lib.hid hok
  clear hok
  rw [show codP true = 0 from rfl, show ∀ v, valP true v = v from fun _ => rfl, show ∀ v, valP true v = v from fun _ => rfl] 
  rw [show seP true pl = pl from rfl] at hG
  rw [show seX true xs = List.replicate xs.length 0 from rfl] at iG
  rw [show seY true p xs [y0, y1] = [y0 + sideV p xs 0, y1 + sideV p xs 1] from rfl] at iG'
  obtain ⟨s0, hs0⟩ : ∃ v, y0 + sideV p xs 0 = v := ⟨_, rfl⟩
  obtain ⟨s1, hs1⟩ : ∃ v, y1 + sideV p xs 1 = v := ⟨_, rfl⟩
  rw [hs0, hs1] at iG' hok2
  have ns0 : 0 ≤ s0 := by omega
  have ns1 : 0 ≤ s1 := by omega
  clear hs0 hs1
  obtain ⟨Xr, hXr⟩ : ∃ v, List.replicate xs.length (0 : Int) = v := ⟨_, rfl⟩
  have sm := settle_major (n := xs.length) ns0 ns1
  have ag := settle_again (r := ⟨p, s, st, sk, re, fe, ag, c, sl⟩) (xs := xs) (y0 := s0) (y1 := s1) (pl := pl) p
  have sx : Xr.sum = 0 := by rw [← hXr]; exact rep_sum0 _
  rw [hXr] at iG hok2 sm ag
  have HXR := Lib.hid hXr
  have HSM := Lib.hid sm
  have HAG := Lib.hid ag
  have HSX := Lib.hid sx
  have HNM := Lib.hid nm
  have HOK2 := Lib.hid hok2
  clear hXr sm ag sx nm hok2
  go_upto_region 17 with fail
  refine setReg17 p s st sk re fe ag c sl G mG eG G' mG' eG' pl Xr [s0, s1] _ ra gG (by exact hr) (by exact hG) (by exact iG) (by exact iG') (by omega) ?_
  intro u158 u159 u160 u161 u162 u163 gJ J mJ eJ J' mJ' eJ' w' hJ iJ iJ' lJ hb
  have bt := bt.trans (hb.mono bt.size)
  have hr := hr.sub hb
  have hp := hp.sub hb
  have h1 := h1.sub hb
  have h2 := h2.sub hb
  have hD := hD.sub hb
  have iD := iD.sub hb
  have iD' := iD'.sub hb
  have hG := hG.sub hb
  have iG := iG.sub hb
  have iG' := iG'.sub hb
  clear hb
  rw [HOK2.out] at hJ iJ iJ' ⊢
  rw [show codP true = 0 from rfl]
  rw [show seP true pl = pl from rfl] at hJ
  rw [HAG.out.1] at iJ
  rw [HAG.out.2] at iJ'
  go_upto_region 18 with fail
  refine setReg18 p s st sk re fe ag c sl G mG eG G' mG' eG' pl Xr [s0, s1] _ ra gG (by exact hr) (by exact hG) (by exact iG) (by exact iG') (by omega) ?_
  intro u164 u165 u166 u167 u168 u169 w' hb
  have bt := bt.trans (hb.mono bt.size)
  have hr := hr.sub hb
  have hp := hp.sub hb
  have h1 := h1.sub hb
  have h2 := h2.sub hb
  have hD := hD.sub hb
  have iD := iD.sub hb
  have iD' := iD'.sub hb
  have hG := hG.sub hb
  have iG := iG.sub hb
  have iG' := iG'.sub hb
  have hJ := hJ.sub hb
  have iJ := iJ.sub hb
  have iJ' := iJ'.sub hb
  clear hb
  rw [HOK2.out]
  rw [show codP true = 0 from rfl, show valP true Xr.sum = Xr.sum from rfl, HSX.out]
  go_upto_region 19 with fail
  refine setReg19 p s st sk re fe ag c sl G mG eG G' mG' eG' pl Xr [s0, s1] _ ra gG (by exact hr) (by exact hG) (by exact iG) (by exact iG') (by omega) ?_
  intro u170 u171 u172 u173 u174 u175 w' hb
  have bt := bt.trans (hb.mono bt.size)
  have hr := hr.sub hb
  have hp := hp.sub hb
  have h1 := h1.sub hb
  have h2 := h2.sub hb
  have hD := hD.sub hb
  have iD := iD.sub hb
  have iD' := iD'.sub hb
  have hG := hG.sub hb
  have iG := iG.sub hb
  have iG' := iG'.sub hb
  have hJ := hJ.sub hb
  have iJ := iJ.sub hb
  have iJ' := iJ'.sub hb
  clear hb
  rw [HOK2.out]
  rw [show codP true = 0 from rfl, show ∀ v, valP true v = v from fun _ => rfl]
  go_upto_region 20 with fail
  refine setReg20 pl Xr [s0, s1] gJ gG J J' mJ eJ mJ' eJ' G G' mG eG mG' eG' _ (by exact hJ) (by exact iJ) (by exact iJ') (by exact hG) (by exact iG) (by exact iG') ?_
  intro u176 u177 u178 u179 u180 u181 u182 u183 u184 u185 u186 u187 u188 u189 u190 u191 u192 u193 u194 w' hb
  have bt := bt.trans (hb.mono bt.size)
  have hr := hr.sub hb
  have hp := hp.sub hb
  have h1 := h1.sub hb
  have h2 := h2.sub hb
  have hD := hD.sub hb
  have iD := iD.sub hb
  have iD' := iD'.sub hb
  have hG := hG.sub hb
  have iG := iG.sub hb
  have iG' := iG'.sub hb
  have hJ := hJ.sub hb
  have iJ := iJ.sub hb
  have iJ' := iJ'.sub hb
  clear hb
  go_upto_region 22 with fail
  refine setReg22 p s st sk re fe ag c sl G mG eG G' mG' eG' pl Xr [s0, s1] _ ra gG (by exact hr) (by exact hG) (by exact iG) (by exact iG') (by omega) ?_
  intro u196 u197 u198 u199 u200 u201 w' hb
  have bt := bt.trans (hb.mono bt.size)
  have hr := hr.sub hb
  have hp := hp.sub hb
  have h1 := h1.sub hb
  have h2 := h2.sub hb
  have hD := hD.sub hb
  have iD := iD.sub hb
  have iD' := iD'.sub hb
  have hG := hG.sub hb
  have iG := iG.sub hb
  have iG' := iG'.sub hb
  have hJ := hJ.sub hb
  have iJ := iJ.sub hb
  have iJ' := iJ'.sub hb
  clear hb
  rw [HOK2.out]
  rw [show codP true = 0 from rfl, show ∀ v, valP true v = v from fun _ => rfl]
  go_upto_region 23 with fail
  refine setReg23 _ _ _ HSM.out ?_
  intro u202 u203 u204 u205 u206 u207 u208 u209 u210 u211 u212 u213 u214 u215 u216
  cases hin : inB q 0 1
  · rw [show gvC true q = 2 by simp [gvC, hin]]
    clear hin
    go_wp2_with fail
    go_ret
    exact ⟨rfl, bt⟩
  have hq01 : q = 0 ∨ q = 1 := by simp [inB] at hin; omega
  have NM := Lib.hid (HNM.out hq01)
  rw [show gvC true q = 0 by simp [gvC, hin]]
  have hy : ∃ x0 x1, gvY true q xs [y0, y1] = [x0, x1] ∧ ((q = 0 ∧ x1 = y1 ∧ y0 ≤ x0) ∨ (q = 1 ∧ x0 = y0 ∧ y1 ≤ x1)) := by
    rcases hq01 with rfl | rfl
    · exact ⟨y0 + xs.sum, y1, by simp [gvY, hin], Or.inl ⟨rfl, rfl, by omega⟩⟩
    · exact ⟨y0, y1 + xs.sum, by simp [gvY, hin], Or.inr ⟨rfl, rfl, by omega⟩⟩
  obtain ⟨x0, x1, hy1, hy2⟩ := hy
  rw [hy1] at iD'
  have HY2 := Lib.hid hy2
  clear hy1 hy2 hin
  obtain rfl : mD' = 2 := by have := iD'.len; simpa using this.symm
  obtain rfl : n' = 2 := by have := h2.len; simpa using this.symm
  go_upto_region 27 with fail
  refine setReg27 _ _ q _ _ D A mD eD n1 u1 D' A' eD' c' x0 x1 y0 y1 _ gD pa (by exact hD) (by exact hp) (by exact iD') (by exact h2) NM.out HY2.out ?_
  intro u220 u221 u222 u223 u224 u225 u226 u227 u228 u229 u230 u231 u232 u233 u234 u235 u236 u237 u238 u239 u240 u241 u242 u243 u244 u245 u246 u247 u248 u249 u250 u251 u252 u253 kk
  go_wp2_with fail
  go_ret
  exact ⟨rfl, below_drewN bt kk⟩
end Go.Proofs.Ytnanaldolnehiaa
