/-
  Regions of FnSettled, each alone.
-/
import Derived.Test.YtnanaldolnehiaaBentKit
import Derived.Test.YtnanaldolnehiaaGiveTop
import Derived.Test.YtnanaldolnehiaaSettleTop
import Derived.Test.YtnanaldolnehiaaMajor
import Derived.Test.YtnanaldolnehiaaLead
import Derived.Test.YtnanaldolnehiaaEnds
import Derived.Test.YtnanaldolnehiaaSame
set_option linter.unusedSimpArgs false
set_option linter.unusedVariables false
namespace Go.Proofs.Ytnanaldolnehiaa
open Go.ChangeShapes Go.WideShapes Go.RowKit Go.Deep

set_option maxRecDepth 100000 in
set_option maxHeartbeats 16000000 in
theorem setReg4 (p s : Int) (st sk re fe ag : Bool) (c sl : Int) (A : Option Addr) (n u : Nat) (A' : Option Addr) (n' u' : Nat) (pl : Int) (xs ys : List Int) (q : Int) (W : World) (ra pa : Nat) (hr : Has W ra [.int .i64 p, .int .i64 s, .bool st, .bool sk, .bool re, .bool fe, .bool ag, .int .i64 c, .int .i64 sl]) (hp : Has W pa [.slice A n u, .slice A' n' u', .int .i64 pl]) (h1 : Ints W W.heap.size A n u xs) (h2 : Ints W W.heap.size A' n' u' ys) (hn : n ≤ 4294967296) {K : Act → World → Prop} {Q' : Exit → Act → World → Prop} {t0 t1 t2 t6 t7 t8 t9 t10 t11 t12 t13 t14 t15 t16 t17 t18 t19 t20 t21 t22 t23 t24 t25 t26 t27 t28 t29 t30 t31 t32 t33 t34 t35 t36 t37 t38 t39 t40 t41 t42 t43 t44 t45 t46 t47 t48 t49 t50 t51 t52 t53 t54 t55 t56 t57 t58 t59 t60 t61 t62 t63 t64 t65 t66 t67 t68 t69 t70 t71 t72 t73 t74 t75 t76 t77 t78 t79 t80 t81 t82 t83 t84 t85 t86 t87 t88 t89 t90 t91 t92 t93 t94 t95 t96 t97 t98 t99 t100 t101 t102 t103 t104 t105 t106 t107 t108 t109 t110 t111 t112 t113 t114 t115 t116 t117 t118 t119 t120 t121 t122 t123 t124 t125 t126 t127 t128 t129 t130 t131 t132 t133 t134 t135 t136 t137 t138 t139 t140 t141 t142 t143 t144 t145 t146 t147 t148 t149 t150 t151 t152 t153 t154 t155 t156 t157 t158 t159 t160 t161 t162 t163 t164 t165 t166 t167 t168 t169 t170 t171 t172 t173 t174 t175 t176 t177 t178 t179 t180 t181 t182 t183 t184 t185 t186 t187 t188 t189 t190 t191 t192 t193 t194 t195 t196 t197 t198 t199 t200 t201 t202 t203 t204 t205 t206 t207 t208 t209 t210 t211 t212 t213 t214 t215 t216 t217 t218 t219 t220 t221 t222 t223 t224 t225 t226 t227 t228 t229 t230 t231 t232 t233 t234 t235 t236 t237 t238 t239 t240 t241 t242 t243 t244 t245 t246 t247 t248 t249 t250 t251 t252 t253 : Value} {ds : List Deferred}
    (hK : ∀ (u42 u43 u44 u45 u46 u47 u48 : Value) (g : Nat) (D : Option Addr) (m e : Nat) (D' : Option Addr) (m' e' : Nat) w', Has w' g [.slice D m e, .slice D' m' e', .int .i64 (gvP (okP ⟨p, s, st, sk, re, fe, ag, c, sl⟩ xs ys pl) q pl)] → Ints w' w'.heap.size D m e (gvX (okP ⟨p, s, st, sk, re, fe, ag, c, sl⟩ xs ys pl) q xs) → Ints w' w'.heap.size D' m' e' (gvY (okP ⟨p, s, st, sk, re, fe, ag, c, sl⟩ xs ys pl) q xs ys) → m ≤ 4294967296 → Below W.heap.size W w' → K ⟨#[t0, t1, t2, .pointer (some ⟨ra, 0, none⟩), .pointer (some ⟨pa, 0, none⟩), .int .i64 q, .pointer (some ⟨g, 0, none⟩), .int .i64 (gvC (okP ⟨p, s, st, sk, re, fe, ag, c, sl⟩ xs ys pl) q), t8, t9, t10, t11, t12, t13, t14, t15, t16, t17, t18, t19, t20, t21, t22, t23, t24, t25, t26, t27, t28, t29, t30, t31, t32, t33, t34, t35, t36, t37, t38, t39, t40, t41, u42, u43, u44, u45, u46, u47, u48, t49, t50, t51, t52, t53, t54, t55, t56, t57, t58, t59, t60, t61, t62, t63, t64, t65, t66, t67, t68, t69, t70, t71, t72, t73, t74, t75, t76, t77, t78, t79, t80, t81, t82, t83, t84, t85, t86, t87, t88, t89, t90, t91, t92, t93, t94, t95, t96, t97, t98, t99, t100, t101, t102, t103, t104, t105, t106, t107, t108, t109, t110, t111, t112, t113, t114, t115, t116, t117, t118, t119, t120, t121, t122, t123, t124, t125, t126, t127, t128, t129, t130, t131, t132, t133, t134, t135, t136, t137, t138, t139, t140, t141, t142, t143, t144, t145, t146, t147, t148, t149, t150, t151, t152, t153, t154, t155, t156, t157, t158, t159, t160, t161, t162, t163, t164, t165, t166, t167, t168, t169, t170, t171, t172, t173, t174, t175, t176, t177, t178, t179, t180, t181, t182, t183, t184, t185, t186, t187, t188, t189, t190, t191, t192, t193, t194, t195, t196, t197, t198, t199, t200, t201, t202, t203, t204, t205, t206, t207, t208, t209, t210, t211, t212, t213, t214, t215, t216, t217, t218, t219, t220, t221, t222, t223, t224, t225, t226, t227, t228, t229, t230, t231, t232, t233, t234, t235, t236, t237, t238, t239, t240, t241, t242, t243, t244, t245, t246, t247, t248, t249, t250, t251, t252, t253], ds⟩ w') :
    Code.wp Try.prog (findRegion 4 (Try.f17.body.getD .skip)) (Exit.then K Q') ⟨#[t0, t1, t2, .pointer (some ⟨ra, 0, none⟩), .pointer (some ⟨pa, 0, none⟩), .int .i64 q, t6, t7, t8, t9, t10, t11, t12, t13, t14, t15, t16, t17, t18, t19, t20, t21, t22, t23, t24, t25, t26, t27, t28, t29, t30, t31, t32, t33, t34, t35, t36, t37, t38, t39, t40, t41, t42, t43, t44, t45, t46, t47, t48, t49, t50, t51, t52, t53, t54, t55, t56, t57, t58, t59, t60, t61, t62, t63, t64, t65, t66, t67, t68, t69, t70, t71, t72, t73, t74, t75, t76, t77, t78, t79, t80, t81, t82, t83, t84, t85, t86, t87, t88, t89, t90, t91, t92, t93, t94, t95, t96, t97, t98, t99, t100, t101, t102, t103, t104, t105, t106, t107, t108, t109, t110, t111, t112, t113, t114, t115, t116, t117, t118, t119, t120, t121, t122, t123, t124, t125, t126, t127, t128, t129, t130, t131, t132, t133, t134, t135, t136, t137, t138, t139, t140, t141, t142, t143, t144, t145, t146, t147, t148, t149, t150, t151, t152, t153, t154, t155, t156, t157, t158, t159, t160, t161, t162, t163, t164, t165, t166, t167, t168, t169, t170, t171, t172, t173, t174, t175, t176, t177, t178, t179, t180, t181, t182, t183, t184, t185, t186, t187, t188, t189, t190, t191, t192, t193, t194, t195, t196, t197, t198, t199, t200, t201, t202, t203, t204, t205, t206, t207, t208, t209, t210, t211, t212, t213, t214, t215, t216, t217, t218, t219, t220, t221, t222, t223, t224, t225, t226, t227, t228, t229, t230, t231, t232, t233, t234, t235, t236, t237, t238, t239, t240, t241, t242, t243, t244, t245, t246, t247, t248, t249, t250, t251, t252, t253], ds⟩ W := by
  simp only [Try.f17, findRegion, Option.getD, Nat.reduceEqDiff, if_true, if_false]
  have r0 := hr.at_ 0 rfl
  have r1 := hr.at_ 1 rfl
  have r2 := hr.at_ 2 rfl
  have r3 := hr.at_ 3 rfl
  have r4 := hr.at_ 4 rfl
  have r5 := hr.at_ 5 rfl
  have r6 := hr.at_ 6 rfl
  have r7 := hr.at_ 7 rfl
  have r8 := hr.at_ 8 rfl
  have p0 := hp.at_ 0 rfl
  have p1 := hp.at_ 1 rfl
  have p2 := hp.at_ 2 rfl
  have H1 := Lib.hid h1
  have H2 := Lib.hid h2
  have HK := Lib.hid hK
  clear hr hp h1 h2 hK
  go_wp2_with fail
  refine (GivePosition_any p s st sk re fe ag c sl A A' n u n' u' xs ys pl q _ (by exact H1.out) (by exact H2.out) hn).mono ?_
  rintro e w1 ⟨D, e1, D', e1', m, m', rfl, o1, o2, -, hm, -, b1⟩
  have O1 := Lib.hid o1
  have O2 := Lib.hid o2
  have B1 := Lib.hid b1
  clear o1 o2 b1 r0 r1 r2 r3 r4 r5 r6 r7 r8 p0 p1 p2
  go_wp2_with fail
  exact HK.out _ _ _ _ _ _ _ _ _ _ _ _ _ _ _ (Has.box _ _ _ _ rfl) (O1.out.ints.sub ((Below.refl _ _).alloc (Nat.le_refl _) _)) (O2.out.ints.sub ((Below.refl _ _).alloc (Nat.le_refl _) _)) (by omega) (B1.out.alloc B1.out.size _)
set_option maxRecDepth 100000 in
set_option maxHeartbeats 16000000 in
theorem setReg5 (p s : Int) (st sk re fe ag : Bool) (c sl : Int) (A : Option Addr) (n u : Nat) (A' : Option Addr) (n' u' : Nat) (pl : Int) (xs ys : List Int) (q : Int) (W : World) (ra pa : Nat) (hr : Has W ra [.int .i64 p, .int .i64 s, .bool st, .bool sk, .bool re, .bool fe, .bool ag, .int .i64 c, .int .i64 sl]) (hp : Has W pa [.slice A n u, .slice A' n' u', .int .i64 pl]) (h1 : Ints W W.heap.size A n u xs) (h2 : Ints W W.heap.size A' n' u' ys) (hn : n ≤ 4294967296) {K : Act → World → Prop} {Q' : Exit → Act → World → Prop} {t0 t1 t2 t6 t7 t8 t9 t10 t11 t12 t13 t14 t15 t16 t17 t18 t19 t20 t21 t22 t23 t24 t25 t26 t27 t28 t29 t30 t31 t32 t33 t34 t35 t36 t37 t38 t39 t40 t41 t42 t43 t44 t45 t46 t47 t48 t49 t50 t51 t52 t53 t54 t55 t56 t57 t58 t59 t60 t61 t62 t63 t64 t65 t66 t67 t68 t69 t70 t71 t72 t73 t74 t75 t76 t77 t78 t79 t80 t81 t82 t83 t84 t85 t86 t87 t88 t89 t90 t91 t92 t93 t94 t95 t96 t97 t98 t99 t100 t101 t102 t103 t104 t105 t106 t107 t108 t109 t110 t111 t112 t113 t114 t115 t116 t117 t118 t119 t120 t121 t122 t123 t124 t125 t126 t127 t128 t129 t130 t131 t132 t133 t134 t135 t136 t137 t138 t139 t140 t141 t142 t143 t144 t145 t146 t147 t148 t149 t150 t151 t152 t153 t154 t155 t156 t157 t158 t159 t160 t161 t162 t163 t164 t165 t166 t167 t168 t169 t170 t171 t172 t173 t174 t175 t176 t177 t178 t179 t180 t181 t182 t183 t184 t185 t186 t187 t188 t189 t190 t191 t192 t193 t194 t195 t196 t197 t198 t199 t200 t201 t202 t203 t204 t205 t206 t207 t208 t209 t210 t211 t212 t213 t214 t215 t216 t217 t218 t219 t220 t221 t222 t223 t224 t225 t226 t227 t228 t229 t230 t231 t232 t233 t234 t235 t236 t237 t238 t239 t240 t241 t242 t243 t244 t245 t246 t247 t248 t249 t250 t251 t252 t253 : Value} {ds : List Deferred}
    (hK : ∀ (u49 u50 u51 u52 u53 u54 u55 : Value) (g : Nat) (D : Option Addr) (m e : Nat) (D' : Option Addr) (m' e' : Nat) w', Has w' g [.slice D m e, .slice D' m' e', .int .i64 (gvP (okP ⟨p, s, st, sk, re, fe, ag, c, sl⟩ xs ys pl) q pl)] → Ints w' w'.heap.size D m e (gvX (okP ⟨p, s, st, sk, re, fe, ag, c, sl⟩ xs ys pl) q xs) → Ints w' w'.heap.size D' m' e' (gvY (okP ⟨p, s, st, sk, re, fe, ag, c, sl⟩ xs ys pl) q xs ys) → m ≤ 4294967296 → Below W.heap.size W w' → K ⟨#[t0, t1, t2, .pointer (some ⟨ra, 0, none⟩), .pointer (some ⟨pa, 0, none⟩), .int .i64 q, t6, t7, .pointer (some ⟨g, 0, none⟩), .int .i64 (gvC (okP ⟨p, s, st, sk, re, fe, ag, c, sl⟩ xs ys pl) q), t10, t11, t12, t13, t14, t15, t16, t17, t18, t19, t20, t21, t22, t23, t24, t25, t26, t27, t28, t29, t30, t31, t32, t33, t34, t35, t36, t37, t38, t39, t40, t41, t42, t43, t44, t45, t46, t47, t48, u49, u50, u51, u52, u53, u54, u55, t56, t57, t58, t59, t60, t61, t62, t63, t64, t65, t66, t67, t68, t69, t70, t71, t72, t73, t74, t75, t76, t77, t78, t79, t80, t81, t82, t83, t84, t85, t86, t87, t88, t89, t90, t91, t92, t93, t94, t95, t96, t97, t98, t99, t100, t101, t102, t103, t104, t105, t106, t107, t108, t109, t110, t111, t112, t113, t114, t115, t116, t117, t118, t119, t120, t121, t122, t123, t124, t125, t126, t127, t128, t129, t130, t131, t132, t133, t134, t135, t136, t137, t138, t139, t140, t141, t142, t143, t144, t145, t146, t147, t148, t149, t150, t151, t152, t153, t154, t155, t156, t157, t158, t159, t160, t161, t162, t163, t164, t165, t166, t167, t168, t169, t170, t171, t172, t173, t174, t175, t176, t177, t178, t179, t180, t181, t182, t183, t184, t185, t186, t187, t188, t189, t190, t191, t192, t193, t194, t195, t196, t197, t198, t199, t200, t201, t202, t203, t204, t205, t206, t207, t208, t209, t210, t211, t212, t213, t214, t215, t216, t217, t218, t219, t220, t221, t222, t223, t224, t225, t226, t227, t228, t229, t230, t231, t232, t233, t234, t235, t236, t237, t238, t239, t240, t241, t242, t243, t244, t245, t246, t247, t248, t249, t250, t251, t252, t253], ds⟩ w') :
    Code.wp Try.prog (findRegion 5 (Try.f17.body.getD .skip)) (Exit.then K Q') ⟨#[t0, t1, t2, .pointer (some ⟨ra, 0, none⟩), .pointer (some ⟨pa, 0, none⟩), .int .i64 q, t6, t7, t8, t9, t10, t11, t12, t13, t14, t15, t16, t17, t18, t19, t20, t21, t22, t23, t24, t25, t26, t27, t28, t29, t30, t31, t32, t33, t34, t35, t36, t37, t38, t39, t40, t41, t42, t43, t44, t45, t46, t47, t48, t49, t50, t51, t52, t53, t54, t55, t56, t57, t58, t59, t60, t61, t62, t63, t64, t65, t66, t67, t68, t69, t70, t71, t72, t73, t74, t75, t76, t77, t78, t79, t80, t81, t82, t83, t84, t85, t86, t87, t88, t89, t90, t91, t92, t93, t94, t95, t96, t97, t98, t99, t100, t101, t102, t103, t104, t105, t106, t107, t108, t109, t110, t111, t112, t113, t114, t115, t116, t117, t118, t119, t120, t121, t122, t123, t124, t125, t126, t127, t128, t129, t130, t131, t132, t133, t134, t135, t136, t137, t138, t139, t140, t141, t142, t143, t144, t145, t146, t147, t148, t149, t150, t151, t152, t153, t154, t155, t156, t157, t158, t159, t160, t161, t162, t163, t164, t165, t166, t167, t168, t169, t170, t171, t172, t173, t174, t175, t176, t177, t178, t179, t180, t181, t182, t183, t184, t185, t186, t187, t188, t189, t190, t191, t192, t193, t194, t195, t196, t197, t198, t199, t200, t201, t202, t203, t204, t205, t206, t207, t208, t209, t210, t211, t212, t213, t214, t215, t216, t217, t218, t219, t220, t221, t222, t223, t224, t225, t226, t227, t228, t229, t230, t231, t232, t233, t234, t235, t236, t237, t238, t239, t240, t241, t242, t243, t244, t245, t246, t247, t248, t249, t250, t251, t252, t253], ds⟩ W := by
  simp only [Try.f17, findRegion, Option.getD, Nat.reduceEqDiff, if_true, if_false]
  have r0 := hr.at_ 0 rfl
  have r1 := hr.at_ 1 rfl
  have r2 := hr.at_ 2 rfl
  have r3 := hr.at_ 3 rfl
  have r4 := hr.at_ 4 rfl
  have r5 := hr.at_ 5 rfl
  have r6 := hr.at_ 6 rfl
  have r7 := hr.at_ 7 rfl
  have r8 := hr.at_ 8 rfl
  have p0 := hp.at_ 0 rfl
  have p1 := hp.at_ 1 rfl
  have p2 := hp.at_ 2 rfl
  have H1 := Lib.hid h1
  have H2 := Lib.hid h2
  have HK := Lib.hid hK
  clear hr hp h1 h2 hK
  go_wp2_with fail
  refine (specGivePosition_any p s st sk re fe ag c sl A A' n u n' u' xs ys pl q _ (by exact H1.out) (by exact H2.out) hn).mono ?_
  rintro e w1 ⟨D, e1, D', e1', m, m', rfl, o1, o2, -, hm, -, b1⟩
  have O1 := Lib.hid o1
  have O2 := Lib.hid o2
  have B1 := Lib.hid b1
  clear o1 o2 b1 r0 r1 r2 r3 r4 r5 r6 r7 r8 p0 p1 p2
  go_wp2_with fail
  exact HK.out _ _ _ _ _ _ _ _ _ _ _ _ _ _ _ (Has.box _ _ _ _ rfl) (O1.out.ints.sub ((Below.refl _ _).alloc (Nat.le_refl _) _)) (O2.out.ints.sub ((Below.refl _ _).alloc (Nat.le_refl _) _)) (by omega) (B1.out.alloc B1.out.size _)
set_option maxRecDepth 100000 in
set_option maxHeartbeats 16000000 in
theorem setReg6 (p s : Int) (st sk re fe ag : Bool) (c sl : Int) (A : Option Addr) (n u : Nat) (A' : Option Addr) (n' u' : Nat) (pl : Int) (xs ys : List Int) (W : World) (ra pa : Nat) (hr : Has W ra [.int .i64 p, .int .i64 s, .bool st, .bool sk, .bool re, .bool fe, .bool ag, .int .i64 c, .int .i64 sl]) (hp : Has W pa [.slice A n u, .slice A' n' u', .int .i64 pl]) (h1 : Ints W W.heap.size A n u xs) (h2 : Ints W W.heap.size A' n' u' ys) (hn : n ≤ 4294967296) {K : Act → World → Prop} {Q' : Exit → Act → World → Prop} {t0 t1 t2 t5 t6 t7 t8 t9 t10 t11 t12 t13 t14 t15 t16 t17 t18 t19 t20 t21 t22 t23 t24 t25 t26 t27 t28 t29 t30 t31 t32 t33 t34 t35 t36 t37 t38 t39 t40 t41 t42 t43 t44 t45 t46 t47 t48 t49 t50 t51 t52 t53 t54 t55 t56 t57 t58 t59 t60 t61 t62 t63 t64 t65 t66 t67 t68 t69 t70 t71 t72 t73 t74 t75 t76 t77 t78 t79 t80 t81 t82 t83 t84 t85 t86 t87 t88 t89 t90 t91 t92 t93 t94 t95 t96 t97 t98 t99 t100 t101 t102 t103 t104 t105 t106 t107 t108 t109 t110 t111 t112 t113 t114 t115 t116 t117 t118 t119 t120 t121 t122 t123 t124 t125 t126 t127 t128 t129 t130 t131 t132 t133 t134 t135 t136 t137 t138 t139 t140 t141 t142 t143 t144 t145 t146 t147 t148 t149 t150 t151 t152 t153 t154 t155 t156 t157 t158 t159 t160 t161 t162 t163 t164 t165 t166 t167 t168 t169 t170 t171 t172 t173 t174 t175 t176 t177 t178 t179 t180 t181 t182 t183 t184 t185 t186 t187 t188 t189 t190 t191 t192 t193 t194 t195 t196 t197 t198 t199 t200 t201 t202 t203 t204 t205 t206 t207 t208 t209 t210 t211 t212 t213 t214 t215 t216 t217 t218 t219 t220 t221 t222 t223 t224 t225 t226 t227 t228 t229 t230 t231 t232 t233 t234 t235 t236 t237 t238 t239 t240 t241 t242 t243 t244 t245 t246 t247 t248 t249 t250 t251 t252 t253 : Value} {ds : List Deferred}
    (hK : ∀ (u56 u57 u58 u59 u60 u61 : Value) (g : Nat) (D : Option Addr) (m e : Nat) (D' : Option Addr) (m' e' : Nat) w', Has w' g [.slice D m e, .slice D' m' e', .int .i64 (seP (okP ⟨p, s, st, sk, re, fe, ag, c, sl⟩ xs ys pl) pl)] → Ints w' w'.heap.size D m e (seX (okP ⟨p, s, st, sk, re, fe, ag, c, sl⟩ xs ys pl) xs) → Ints w' w'.heap.size D' m' e' (seY (okP ⟨p, s, st, sk, re, fe, ag, c, sl⟩ xs ys pl) p xs ys) → m ≤ 4294967296 → Below W.heap.size W w' → K ⟨#[t0, t1, t2, .pointer (some ⟨ra, 0, none⟩), .pointer (some ⟨pa, 0, none⟩), t5, t6, t7, t8, t9, .pointer (some ⟨g, 0, none⟩), .int .i64 (codP (okP ⟨p, s, st, sk, re, fe, ag, c, sl⟩ xs ys pl)), t12, t13, t14, t15, t16, t17, t18, t19, t20, t21, t22, t23, t24, t25, t26, t27, t28, t29, t30, t31, t32, t33, t34, t35, t36, t37, t38, t39, t40, t41, t42, t43, t44, t45, t46, t47, t48, t49, t50, t51, t52, t53, t54, t55, u56, u57, u58, u59, u60, u61, t62, t63, t64, t65, t66, t67, t68, t69, t70, t71, t72, t73, t74, t75, t76, t77, t78, t79, t80, t81, t82, t83, t84, t85, t86, t87, t88, t89, t90, t91, t92, t93, t94, t95, t96, t97, t98, t99, t100, t101, t102, t103, t104, t105, t106, t107, t108, t109, t110, t111, t112, t113, t114, t115, t116, t117, t118, t119, t120, t121, t122, t123, t124, t125, t126, t127, t128, t129, t130, t131, t132, t133, t134, t135, t136, t137, t138, t139, t140, t141, t142, t143, t144, t145, t146, t147, t148, t149, t150, t151, t152, t153, t154, t155, t156, t157, t158, t159, t160, t161, t162, t163, t164, t165, t166, t167, t168, t169, t170, t171, t172, t173, t174, t175, t176, t177, t178, t179, t180, t181, t182, t183, t184, t185, t186, t187, t188, t189, t190, t191, t192, t193, t194, t195, t196, t197, t198, t199, t200, t201, t202, t203, t204, t205, t206, t207, t208, t209, t210, t211, t212, t213, t214, t215, t216, t217, t218, t219, t220, t221, t222, t223, t224, t225, t226, t227, t228, t229, t230, t231, t232, t233, t234, t235, t236, t237, t238, t239, t240, t241, t242, t243, t244, t245, t246, t247, t248, t249, t250, t251, t252, t253], ds⟩ w') :
    Code.wp Try.prog (findRegion 6 (Try.f17.body.getD .skip)) (Exit.then K Q') ⟨#[t0, t1, t2, .pointer (some ⟨ra, 0, none⟩), .pointer (some ⟨pa, 0, none⟩), t5, t6, t7, t8, t9, t10, t11, t12, t13, t14, t15, t16, t17, t18, t19, t20, t21, t22, t23, t24, t25, t26, t27, t28, t29, t30, t31, t32, t33, t34, t35, t36, t37, t38, t39, t40, t41, t42, t43, t44, t45, t46, t47, t48, t49, t50, t51, t52, t53, t54, t55, t56, t57, t58, t59, t60, t61, t62, t63, t64, t65, t66, t67, t68, t69, t70, t71, t72, t73, t74, t75, t76, t77, t78, t79, t80, t81, t82, t83, t84, t85, t86, t87, t88, t89, t90, t91, t92, t93, t94, t95, t96, t97, t98, t99, t100, t101, t102, t103, t104, t105, t106, t107, t108, t109, t110, t111, t112, t113, t114, t115, t116, t117, t118, t119, t120, t121, t122, t123, t124, t125, t126, t127, t128, t129, t130, t131, t132, t133, t134, t135, t136, t137, t138, t139, t140, t141, t142, t143, t144, t145, t146, t147, t148, t149, t150, t151, t152, t153, t154, t155, t156, t157, t158, t159, t160, t161, t162, t163, t164, t165, t166, t167, t168, t169, t170, t171, t172, t173, t174, t175, t176, t177, t178, t179, t180, t181, t182, t183, t184, t185, t186, t187, t188, t189, t190, t191, t192, t193, t194, t195, t196, t197, t198, t199, t200, t201, t202, t203, t204, t205, t206, t207, t208, t209, t210, t211, t212, t213, t214, t215, t216, t217, t218, t219, t220, t221, t222, t223, t224, t225, t226, t227, t228, t229, t230, t231, t232, t233, t234, t235, t236, t237, t238, t239, t240, t241, t242, t243, t244, t245, t246, t247, t248, t249, t250, t251, t252, t253], ds⟩ W := by
  simp only [Try.f17, findRegion, Option.getD, Nat.reduceEqDiff, if_true, if_false]
  have r0 := hr.at_ 0 rfl
  have r1 := hr.at_ 1 rfl
  have r2 := hr.at_ 2 rfl
  have r3 := hr.at_ 3 rfl
  have r4 := hr.at_ 4 rfl
  have r5 := hr.at_ 5 rfl
  have r6 := hr.at_ 6 rfl
  have r7 := hr.at_ 7 rfl
  have r8 := hr.at_ 8 rfl
  have p0 := hp.at_ 0 rfl
  have p1 := hp.at_ 1 rfl
  have p2 := hp.at_ 2 rfl
  have H1 := Lib.hid h1
  have H2 := Lib.hid h2
  have HK := Lib.hid hK
  clear hr hp h1 h2 hK
  go_wp2_with fail
  refine (SettlePosition_any p s st sk re fe ag c sl A A' n u n' u' xs ys pl _ (by exact H1.out) (by exact H2.out) hn).mono ?_
  rintro e w1 ⟨D, e1, D', e1', m, m', rfl, o1, o2, -, hm, -, b1⟩
  have O1 := Lib.hid o1
  have O2 := Lib.hid o2
  have B1 := Lib.hid b1
  clear o1 o2 b1 r0 r1 r2 r3 r4 r5 r6 r7 r8 p0 p1 p2
  go_wp2_with fail
  exact HK.out _ _ _ _ _ _ _ _ _ _ _ _ _ _ (Has.box _ _ _ _ rfl) (O1.out.ints.sub ((Below.refl _ _).alloc (Nat.le_refl _) _)) (O2.out.ints.sub ((Below.refl _ _).alloc (Nat.le_refl _) _)) (by omega) (B1.out.alloc B1.out.size _)
set_option maxRecDepth 100000 in
set_option maxHeartbeats 16000000 in
theorem setReg7 (p s : Int) (st sk re fe ag : Bool) (c sl : Int) (A : Option Addr) (n u : Nat) (A' : Option Addr) (n' u' : Nat) (pl : Int) (xs ys : List Int) (W : World) (ra pa : Nat) (hr : Has W ra [.int .i64 p, .int .i64 s, .bool st, .bool sk, .bool re, .bool fe, .bool ag, .int .i64 c, .int .i64 sl]) (hp : Has W pa [.slice A n u, .slice A' n' u', .int .i64 pl]) (h1 : Ints W W.heap.size A n u xs) (h2 : Ints W W.heap.size A' n' u' ys) (hn : n ≤ 4294967296) {K : Act → World → Prop} {Q' : Exit → Act → World → Prop} {t0 t1 t2 t5 t6 t7 t8 t9 t10 t11 t12 t13 t14 t15 t16 t17 t18 t19 t20 t21 t22 t23 t24 t25 t26 t27 t28 t29 t30 t31 t32 t33 t34 t35 t36 t37 t38 t39 t40 t41 t42 t43 t44 t45 t46 t47 t48 t49 t50 t51 t52 t53 t54 t55 t56 t57 t58 t59 t60 t61 t62 t63 t64 t65 t66 t67 t68 t69 t70 t71 t72 t73 t74 t75 t76 t77 t78 t79 t80 t81 t82 t83 t84 t85 t86 t87 t88 t89 t90 t91 t92 t93 t94 t95 t96 t97 t98 t99 t100 t101 t102 t103 t104 t105 t106 t107 t108 t109 t110 t111 t112 t113 t114 t115 t116 t117 t118 t119 t120 t121 t122 t123 t124 t125 t126 t127 t128 t129 t130 t131 t132 t133 t134 t135 t136 t137 t138 t139 t140 t141 t142 t143 t144 t145 t146 t147 t148 t149 t150 t151 t152 t153 t154 t155 t156 t157 t158 t159 t160 t161 t162 t163 t164 t165 t166 t167 t168 t169 t170 t171 t172 t173 t174 t175 t176 t177 t178 t179 t180 t181 t182 t183 t184 t185 t186 t187 t188 t189 t190 t191 t192 t193 t194 t195 t196 t197 t198 t199 t200 t201 t202 t203 t204 t205 t206 t207 t208 t209 t210 t211 t212 t213 t214 t215 t216 t217 t218 t219 t220 t221 t222 t223 t224 t225 t226 t227 t228 t229 t230 t231 t232 t233 t234 t235 t236 t237 t238 t239 t240 t241 t242 t243 t244 t245 t246 t247 t248 t249 t250 t251 t252 t253 : Value} {ds : List Deferred}
    (hK : ∀ (u62 u63 u64 u65 u66 u67 : Value) (g : Nat) (D : Option Addr) (m e : Nat) (D' : Option Addr) (m' e' : Nat) w', Has w' g [.slice D m e, .slice D' m' e', .int .i64 (seP (okP ⟨p, s, st, sk, re, fe, ag, c, sl⟩ xs ys pl) pl)] → Ints w' w'.heap.size D m e (seX (okP ⟨p, s, st, sk, re, fe, ag, c, sl⟩ xs ys pl) xs) → Ints w' w'.heap.size D' m' e' (seY (okP ⟨p, s, st, sk, re, fe, ag, c, sl⟩ xs ys pl) p xs ys) → m ≤ 4294967296 → Below W.heap.size W w' → K ⟨#[t0, t1, t2, .pointer (some ⟨ra, 0, none⟩), .pointer (some ⟨pa, 0, none⟩), t5, t6, t7, t8, t9, t10, t11, .pointer (some ⟨g, 0, none⟩), .int .i64 (codP (okP ⟨p, s, st, sk, re, fe, ag, c, sl⟩ xs ys pl)), t14, t15, t16, t17, t18, t19, t20, t21, t22, t23, t24, t25, t26, t27, t28, t29, t30, t31, t32, t33, t34, t35, t36, t37, t38, t39, t40, t41, t42, t43, t44, t45, t46, t47, t48, t49, t50, t51, t52, t53, t54, t55, t56, t57, t58, t59, t60, t61, u62, u63, u64, u65, u66, u67, t68, t69, t70, t71, t72, t73, t74, t75, t76, t77, t78, t79, t80, t81, t82, t83, t84, t85, t86, t87, t88, t89, t90, t91, t92, t93, t94, t95, t96, t97, t98, t99, t100, t101, t102, t103, t104, t105, t106, t107, t108, t109, t110, t111, t112, t113, t114, t115, t116, t117, t118, t119, t120, t121, t122, t123, t124, t125, t126, t127, t128, t129, t130, t131, t132, t133, t134, t135, t136, t137, t138, t139, t140, t141, t142, t143, t144, t145, t146, t147, t148, t149, t150, t151, t152, t153, t154, t155, t156, t157, t158, t159, t160, t161, t162, t163, t164, t165, t166, t167, t168, t169, t170, t171, t172, t173, t174, t175, t176, t177, t178, t179, t180, t181, t182, t183, t184, t185, t186, t187, t188, t189, t190, t191, t192, t193, t194, t195, t196, t197, t198, t199, t200, t201, t202, t203, t204, t205, t206, t207, t208, t209, t210, t211, t212, t213, t214, t215, t216, t217, t218, t219, t220, t221, t222, t223, t224, t225, t226, t227, t228, t229, t230, t231, t232, t233, t234, t235, t236, t237, t238, t239, t240, t241, t242, t243, t244, t245, t246, t247, t248, t249, t250, t251, t252, t253], ds⟩ w') :
    Code.wp Try.prog (findRegion 7 (Try.f17.body.getD .skip)) (Exit.then K Q') ⟨#[t0, t1, t2, .pointer (some ⟨ra, 0, none⟩), .pointer (some ⟨pa, 0, none⟩), t5, t6, t7, t8, t9, t10, t11, t12, t13, t14, t15, t16, t17, t18, t19, t20, t21, t22, t23, t24, t25, t26, t27, t28, t29, t30, t31, t32, t33, t34, t35, t36, t37, t38, t39, t40, t41, t42, t43, t44, t45, t46, t47, t48, t49, t50, t51, t52, t53, t54, t55, t56, t57, t58, t59, t60, t61, t62, t63, t64, t65, t66, t67, t68, t69, t70, t71, t72, t73, t74, t75, t76, t77, t78, t79, t80, t81, t82, t83, t84, t85, t86, t87, t88, t89, t90, t91, t92, t93, t94, t95, t96, t97, t98, t99, t100, t101, t102, t103, t104, t105, t106, t107, t108, t109, t110, t111, t112, t113, t114, t115, t116, t117, t118, t119, t120, t121, t122, t123, t124, t125, t126, t127, t128, t129, t130, t131, t132, t133, t134, t135, t136, t137, t138, t139, t140, t141, t142, t143, t144, t145, t146, t147, t148, t149, t150, t151, t152, t153, t154, t155, t156, t157, t158, t159, t160, t161, t162, t163, t164, t165, t166, t167, t168, t169, t170, t171, t172, t173, t174, t175, t176, t177, t178, t179, t180, t181, t182, t183, t184, t185, t186, t187, t188, t189, t190, t191, t192, t193, t194, t195, t196, t197, t198, t199, t200, t201, t202, t203, t204, t205, t206, t207, t208, t209, t210, t211, t212, t213, t214, t215, t216, t217, t218, t219, t220, t221, t222, t223, t224, t225, t226, t227, t228, t229, t230, t231, t232, t233, t234, t235, t236, t237, t238, t239, t240, t241, t242, t243, t244, t245, t246, t247, t248, t249, t250, t251, t252, t253], ds⟩ W := by
  simp only [Try.f17, findRegion, Option.getD, Nat.reduceEqDiff, if_true, if_false]
  have r0 := hr.at_ 0 rfl
  have r1 := hr.at_ 1 rfl
  have r2 := hr.at_ 2 rfl
  have r3 := hr.at_ 3 rfl
  have r4 := hr.at_ 4 rfl
  have r5 := hr.at_ 5 rfl
  have r6 := hr.at_ 6 rfl
  have r7 := hr.at_ 7 rfl
  have r8 := hr.at_ 8 rfl
  have p0 := hp.at_ 0 rfl
  have p1 := hp.at_ 1 rfl
  have p2 := hp.at_ 2 rfl
  have H1 := Lib.hid h1
  have H2 := Lib.hid h2
  have HK := Lib.hid hK
  clear hr hp h1 h2 hK
  go_wp2_with fail
  refine (specSettlePosition_any p s st sk re fe ag c sl A A' n u n' u' xs ys pl _ (by exact H1.out) (by exact H2.out) hn).mono ?_
  rintro e w1 ⟨D, e1, D', e1', m, m', rfl, o1, o2, -, hm, -, b1⟩
  have O1 := Lib.hid o1
  have O2 := Lib.hid o2
  have B1 := Lib.hid b1
  clear o1 o2 b1 r0 r1 r2 r3 r4 r5 r6 r7 r8 p0 p1 p2
  go_wp2_with fail
  exact HK.out _ _ _ _ _ _ _ _ _ _ _ _ _ _ (Has.box _ _ _ _ rfl) (O1.out.ints.sub ((Below.refl _ _).alloc (Nat.le_refl _) _)) (O2.out.ints.sub ((Below.refl _ _).alloc (Nat.le_refl _) _)) (by omega) (B1.out.alloc B1.out.size _)
set_option maxRecDepth 100000 in
set_option maxHeartbeats 16000000 in
theorem setReg8 (p s : Int) (st sk re fe ag : Bool) (c sl : Int) (A : Option Addr) (n u : Nat) (A' : Option Addr) (n' u' : Nat) (pl : Int) (xs ys : List Int) (q : Int) (W : World) (ra pa : Nat) (hr : Has W ra [.int .i64 p, .int .i64 s, .bool st, .bool sk, .bool re, .bool fe, .bool ag, .int .i64 c, .int .i64 sl]) (hp : Has W pa [.slice A n u, .slice A' n' u', .int .i64 pl]) (h1 : Ints W W.heap.size A n u xs) (h2 : Ints W W.heap.size A' n' u' ys) (hn : n ≤ 4294967296) {K : Act → World → Prop} {Q' : Exit → Act → World → Prop} {t0 t1 t2 t6 t7 t8 t9 t10 t11 t12 t13 t14 t15 t16 t17 t18 t19 t20 t21 t22 t23 t24 t25 t26 t27 t28 t29 t30 t31 t32 t33 t34 t35 t36 t37 t38 t39 t40 t41 t42 t43 t44 t45 t46 t47 t48 t49 t50 t51 t52 t53 t54 t55 t56 t57 t58 t59 t60 t61 t62 t63 t64 t65 t66 t67 t68 t69 t70 t71 t72 t73 t74 t75 t76 t77 t78 t79 t80 t81 t82 t83 t84 t85 t86 t87 t88 t89 t90 t91 t92 t93 t94 t95 t96 t97 t98 t99 t100 t101 t102 t103 t104 t105 t106 t107 t108 t109 t110 t111 t112 t113 t114 t115 t116 t117 t118 t119 t120 t121 t122 t123 t124 t125 t126 t127 t128 t129 t130 t131 t132 t133 t134 t135 t136 t137 t138 t139 t140 t141 t142 t143 t144 t145 t146 t147 t148 t149 t150 t151 t152 t153 t154 t155 t156 t157 t158 t159 t160 t161 t162 t163 t164 t165 t166 t167 t168 t169 t170 t171 t172 t173 t174 t175 t176 t177 t178 t179 t180 t181 t182 t183 t184 t185 t186 t187 t188 t189 t190 t191 t192 t193 t194 t195 t196 t197 t198 t199 t200 t201 t202 t203 t204 t205 t206 t207 t208 t209 t210 t211 t212 t213 t214 t215 t216 t217 t218 t219 t220 t221 t222 t223 t224 t225 t226 t227 t228 t229 t230 t231 t232 t233 t234 t235 t236 t237 t238 t239 t240 t241 t242 t243 t244 t245 t246 t247 t248 t249 t250 t251 t252 t253 : Value} {ds : List Deferred}
    (hK : ∀ (u68 u69 u70 u71 u72 u73 u74 : Value) w', Below W.heap.size W w' → K ⟨#[t0, t1, t2, .pointer (some ⟨ra, 0, none⟩), .pointer (some ⟨pa, 0, none⟩), .int .i64 q, t6, t7, t8, t9, t10, t11, t12, t13, .int .i64 ((needR ⟨p, s, st, sk, re, fe, ag, c, sl⟩ xs ys pl q).1), .int .i64 ((needR ⟨p, s, st, sk, re, fe, ag, c, sl⟩ xs ys pl q).2), t16, t17, t18, t19, t20, t21, t22, t23, t24, t25, t26, t27, t28, t29, t30, t31, t32, t33, t34, t35, t36, t37, t38, t39, t40, t41, t42, t43, t44, t45, t46, t47, t48, t49, t50, t51, t52, t53, t54, t55, t56, t57, t58, t59, t60, t61, t62, t63, t64, t65, t66, t67, u68, u69, u70, u71, u72, u73, u74, t75, t76, t77, t78, t79, t80, t81, t82, t83, t84, t85, t86, t87, t88, t89, t90, t91, t92, t93, t94, t95, t96, t97, t98, t99, t100, t101, t102, t103, t104, t105, t106, t107, t108, t109, t110, t111, t112, t113, t114, t115, t116, t117, t118, t119, t120, t121, t122, t123, t124, t125, t126, t127, t128, t129, t130, t131, t132, t133, t134, t135, t136, t137, t138, t139, t140, t141, t142, t143, t144, t145, t146, t147, t148, t149, t150, t151, t152, t153, t154, t155, t156, t157, t158, t159, t160, t161, t162, t163, t164, t165, t166, t167, t168, t169, t170, t171, t172, t173, t174, t175, t176, t177, t178, t179, t180, t181, t182, t183, t184, t185, t186, t187, t188, t189, t190, t191, t192, t193, t194, t195, t196, t197, t198, t199, t200, t201, t202, t203, t204, t205, t206, t207, t208, t209, t210, t211, t212, t213, t214, t215, t216, t217, t218, t219, t220, t221, t222, t223, t224, t225, t226, t227, t228, t229, t230, t231, t232, t233, t234, t235, t236, t237, t238, t239, t240, t241, t242, t243, t244, t245, t246, t247, t248, t249, t250, t251, t252, t253], ds⟩ w') :
    Code.wp Try.prog (findRegion 8 (Try.f17.body.getD .skip)) (Exit.then K Q') ⟨#[t0, t1, t2, .pointer (some ⟨ra, 0, none⟩), .pointer (some ⟨pa, 0, none⟩), .int .i64 q, t6, t7, t8, t9, t10, t11, t12, t13, t14, t15, t16, t17, t18, t19, t20, t21, t22, t23, t24, t25, t26, t27, t28, t29, t30, t31, t32, t33, t34, t35, t36, t37, t38, t39, t40, t41, t42, t43, t44, t45, t46, t47, t48, t49, t50, t51, t52, t53, t54, t55, t56, t57, t58, t59, t60, t61, t62, t63, t64, t65, t66, t67, t68, t69, t70, t71, t72, t73, t74, t75, t76, t77, t78, t79, t80, t81, t82, t83, t84, t85, t86, t87, t88, t89, t90, t91, t92, t93, t94, t95, t96, t97, t98, t99, t100, t101, t102, t103, t104, t105, t106, t107, t108, t109, t110, t111, t112, t113, t114, t115, t116, t117, t118, t119, t120, t121, t122, t123, t124, t125, t126, t127, t128, t129, t130, t131, t132, t133, t134, t135, t136, t137, t138, t139, t140, t141, t142, t143, t144, t145, t146, t147, t148, t149, t150, t151, t152, t153, t154, t155, t156, t157, t158, t159, t160, t161, t162, t163, t164, t165, t166, t167, t168, t169, t170, t171, t172, t173, t174, t175, t176, t177, t178, t179, t180, t181, t182, t183, t184, t185, t186, t187, t188, t189, t190, t191, t192, t193, t194, t195, t196, t197, t198, t199, t200, t201, t202, t203, t204, t205, t206, t207, t208, t209, t210, t211, t212, t213, t214, t215, t216, t217, t218, t219, t220, t221, t222, t223, t224, t225, t226, t227, t228, t229, t230, t231, t232, t233, t234, t235, t236, t237, t238, t239, t240, t241, t242, t243, t244, t245, t246, t247, t248, t249, t250, t251, t252, t253], ds⟩ W := by
  simp only [Try.f17, findRegion, Option.getD, Nat.reduceEqDiff, if_true, if_false]
  have r0 := hr.at_ 0 rfl
  have r1 := hr.at_ 1 rfl
  have r2 := hr.at_ 2 rfl
  have r3 := hr.at_ 3 rfl
  have r4 := hr.at_ 4 rfl
  have r5 := hr.at_ 5 rfl
  have r6 := hr.at_ 6 rfl
  have r7 := hr.at_ 7 rfl
  have r8 := hr.at_ 8 rfl
  have p0 := hp.at_ 0 rfl
  have p1 := hp.at_ 1 rfl
  have p2 := hp.at_ 2 rfl
  have H1 := Lib.hid h1
  have H2 := Lib.hid h2
  have HK := Lib.hid hK
  clear hr hp h1 h2 hK
  go_wp2_with fail
  refine (NeededFor_any p s st sk re fe ag c sl A A' n u n' u' xs ys pl q _ (by exact H1.out) (by exact H2.out) hn).mono ?_
  rintro e w1 ⟨rfl, b1⟩
  have B1 := Lib.hid b1
  clear b1 r0 r1 r2 r3 r4 r5 r6 r7 r8 p0 p1 p2
  go_wp2_with fail
  exact HK.out _ _ _ _ _ _ _ _ B1.out
set_option maxRecDepth 100000 in
set_option maxHeartbeats 16000000 in
theorem setReg9 (p s : Int) (st sk re fe ag : Bool) (c sl : Int) (A : Option Addr) (n u : Nat) (A' : Option Addr) (n' u' : Nat) (pl : Int) (xs ys : List Int) (q : Int) (W : World) (ra pa : Nat) (hr : Has W ra [.int .i64 p, .int .i64 s, .bool st, .bool sk, .bool re, .bool fe, .bool ag, .int .i64 c, .int .i64 sl]) (hp : Has W pa [.slice A n u, .slice A' n' u', .int .i64 pl]) (h1 : Ints W W.heap.size A n u xs) (h2 : Ints W W.heap.size A' n' u' ys) (hn : n ≤ 4294967296) {K : Act → World → Prop} {Q' : Exit → Act → World → Prop} {t0 t1 t2 t6 t7 t8 t9 t10 t11 t12 t13 t14 t15 t16 t17 t18 t19 t20 t21 t22 t23 t24 t25 t26 t27 t28 t29 t30 t31 t32 t33 t34 t35 t36 t37 t38 t39 t40 t41 t42 t43 t44 t45 t46 t47 t48 t49 t50 t51 t52 t53 t54 t55 t56 t57 t58 t59 t60 t61 t62 t63 t64 t65 t66 t67 t68 t69 t70 t71 t72 t73 t74 t75 t76 t77 t78 t79 t80 t81 t82 t83 t84 t85 t86 t87 t88 t89 t90 t91 t92 t93 t94 t95 t96 t97 t98 t99 t100 t101 t102 t103 t104 t105 t106 t107 t108 t109 t110 t111 t112 t113 t114 t115 t116 t117 t118 t119 t120 t121 t122 t123 t124 t125 t126 t127 t128 t129 t130 t131 t132 t133 t134 t135 t136 t137 t138 t139 t140 t141 t142 t143 t144 t145 t146 t147 t148 t149 t150 t151 t152 t153 t154 t155 t156 t157 t158 t159 t160 t161 t162 t163 t164 t165 t166 t167 t168 t169 t170 t171 t172 t173 t174 t175 t176 t177 t178 t179 t180 t181 t182 t183 t184 t185 t186 t187 t188 t189 t190 t191 t192 t193 t194 t195 t196 t197 t198 t199 t200 t201 t202 t203 t204 t205 t206 t207 t208 t209 t210 t211 t212 t213 t214 t215 t216 t217 t218 t219 t220 t221 t222 t223 t224 t225 t226 t227 t228 t229 t230 t231 t232 t233 t234 t235 t236 t237 t238 t239 t240 t241 t242 t243 t244 t245 t246 t247 t248 t249 t250 t251 t252 t253 : Value} {ds : List Deferred}
    (hK : ∀ (u75 u76 u77 u78 u79 u80 u81 : Value) w', Below W.heap.size W w' → K ⟨#[t0, t1, t2, .pointer (some ⟨ra, 0, none⟩), .pointer (some ⟨pa, 0, none⟩), .int .i64 q, t6, t7, t8, t9, t10, t11, t12, t13, t14, t15, .int .i64 ((needR ⟨p, s, st, sk, re, fe, ag, c, sl⟩ xs ys pl q).1), .int .i64 ((needR ⟨p, s, st, sk, re, fe, ag, c, sl⟩ xs ys pl q).2), t18, t19, t20, t21, t22, t23, t24, t25, t26, t27, t28, t29, t30, t31, t32, t33, t34, t35, t36, t37, t38, t39, t40, t41, t42, t43, t44, t45, t46, t47, t48, t49, t50, t51, t52, t53, t54, t55, t56, t57, t58, t59, t60, t61, t62, t63, t64, t65, t66, t67, t68, t69, t70, t71, t72, t73, t74, u75, u76, u77, u78, u79, u80, u81, t82, t83, t84, t85, t86, t87, t88, t89, t90, t91, t92, t93, t94, t95, t96, t97, t98, t99, t100, t101, t102, t103, t104, t105, t106, t107, t108, t109, t110, t111, t112, t113, t114, t115, t116, t117, t118, t119, t120, t121, t122, t123, t124, t125, t126, t127, t128, t129, t130, t131, t132, t133, t134, t135, t136, t137, t138, t139, t140, t141, t142, t143, t144, t145, t146, t147, t148, t149, t150, t151, t152, t153, t154, t155, t156, t157, t158, t159, t160, t161, t162, t163, t164, t165, t166, t167, t168, t169, t170, t171, t172, t173, t174, t175, t176, t177, t178, t179, t180, t181, t182, t183, t184, t185, t186, t187, t188, t189, t190, t191, t192, t193, t194, t195, t196, t197, t198, t199, t200, t201, t202, t203, t204, t205, t206, t207, t208, t209, t210, t211, t212, t213, t214, t215, t216, t217, t218, t219, t220, t221, t222, t223, t224, t225, t226, t227, t228, t229, t230, t231, t232, t233, t234, t235, t236, t237, t238, t239, t240, t241, t242, t243, t244, t245, t246, t247, t248, t249, t250, t251, t252, t253], ds⟩ w') :
    Code.wp Try.prog (findRegion 9 (Try.f17.body.getD .skip)) (Exit.then K Q') ⟨#[t0, t1, t2, .pointer (some ⟨ra, 0, none⟩), .pointer (some ⟨pa, 0, none⟩), .int .i64 q, t6, t7, t8, t9, t10, t11, t12, t13, t14, t15, t16, t17, t18, t19, t20, t21, t22, t23, t24, t25, t26, t27, t28, t29, t30, t31, t32, t33, t34, t35, t36, t37, t38, t39, t40, t41, t42, t43, t44, t45, t46, t47, t48, t49, t50, t51, t52, t53, t54, t55, t56, t57, t58, t59, t60, t61, t62, t63, t64, t65, t66, t67, t68, t69, t70, t71, t72, t73, t74, t75, t76, t77, t78, t79, t80, t81, t82, t83, t84, t85, t86, t87, t88, t89, t90, t91, t92, t93, t94, t95, t96, t97, t98, t99, t100, t101, t102, t103, t104, t105, t106, t107, t108, t109, t110, t111, t112, t113, t114, t115, t116, t117, t118, t119, t120, t121, t122, t123, t124, t125, t126, t127, t128, t129, t130, t131, t132, t133, t134, t135, t136, t137, t138, t139, t140, t141, t142, t143, t144, t145, t146, t147, t148, t149, t150, t151, t152, t153, t154, t155, t156, t157, t158, t159, t160, t161, t162, t163, t164, t165, t166, t167, t168, t169, t170, t171, t172, t173, t174, t175, t176, t177, t178, t179, t180, t181, t182, t183, t184, t185, t186, t187, t188, t189, t190, t191, t192, t193, t194, t195, t196, t197, t198, t199, t200, t201, t202, t203, t204, t205, t206, t207, t208, t209, t210, t211, t212, t213, t214, t215, t216, t217, t218, t219, t220, t221, t222, t223, t224, t225, t226, t227, t228, t229, t230, t231, t232, t233, t234, t235, t236, t237, t238, t239, t240, t241, t242, t243, t244, t245, t246, t247, t248, t249, t250, t251, t252, t253], ds⟩ W := by
  simp only [Try.f17, findRegion, Option.getD, Nat.reduceEqDiff, if_true, if_false]
  have r0 := hr.at_ 0 rfl
  have r1 := hr.at_ 1 rfl
  have r2 := hr.at_ 2 rfl
  have r3 := hr.at_ 3 rfl
  have r4 := hr.at_ 4 rfl
  have r5 := hr.at_ 5 rfl
  have r6 := hr.at_ 6 rfl
  have r7 := hr.at_ 7 rfl
  have r8 := hr.at_ 8 rfl
  have p0 := hp.at_ 0 rfl
  have p1 := hp.at_ 1 rfl
  have p2 := hp.at_ 2 rfl
  have H1 := Lib.hid h1
  have H2 := Lib.hid h2
  have HK := Lib.hid hK
  clear hr hp h1 h2 hK
  go_wp2_with fail
  refine (specNeededFor_any p s st sk re fe ag c sl A A' n u n' u' xs ys pl q _ (by exact H1.out) (by exact H2.out) hn).mono ?_
  rintro e w1 ⟨rfl, b1⟩
  have B1 := Lib.hid b1
  clear b1 r0 r1 r2 r3 r4 r5 r6 r7 r8 p0 p1 p2
  go_wp2_with fail
  exact HK.out _ _ _ _ _ _ _ _ B1.out
set_option maxRecDepth 100000 in
set_option maxHeartbeats 16000000 in
theorem setReg10 (p s : Int) (st sk re fe ag : Bool) (c sl : Int) (A : Option Addr) (n u : Nat) (A' : Option Addr) (n' u' : Nat) (pl : Int) (xs ys : List Int) (W : World) (ra pa : Nat) (hr : Has W ra [.int .i64 p, .int .i64 s, .bool st, .bool sk, .bool re, .bool fe, .bool ag, .int .i64 c, .int .i64 sl]) (hp : Has W pa [.slice A n u, .slice A' n' u', .int .i64 pl]) (h1 : Ints W W.heap.size A n u xs) (h2 : Ints W W.heap.size A' n' u' ys) (hn : n ≤ 4294967296) {K : Act → World → Prop} {Q' : Exit → Act → World → Prop} {t0 t1 t2 t5 t6 t7 t8 t9 t10 t11 t12 t13 t14 t15 t16 t17 t18 t19 t20 t21 t22 t23 t24 t25 t26 t27 t28 t29 t30 t31 t32 t33 t34 t35 t36 t37 t38 t39 t40 t41 t42 t43 t44 t45 t46 t47 t48 t49 t50 t51 t52 t53 t54 t55 t56 t57 t58 t59 t60 t61 t62 t63 t64 t65 t66 t67 t68 t69 t70 t71 t72 t73 t74 t75 t76 t77 t78 t79 t80 t81 t82 t83 t84 t85 t86 t87 t88 t89 t90 t91 t92 t93 t94 t95 t96 t97 t98 t99 t100 t101 t102 t103 t104 t105 t106 t107 t108 t109 t110 t111 t112 t113 t114 t115 t116 t117 t118 t119 t120 t121 t122 t123 t124 t125 t126 t127 t128 t129 t130 t131 t132 t133 t134 t135 t136 t137 t138 t139 t140 t141 t142 t143 t144 t145 t146 t147 t148 t149 t150 t151 t152 t153 t154 t155 t156 t157 t158 t159 t160 t161 t162 t163 t164 t165 t166 t167 t168 t169 t170 t171 t172 t173 t174 t175 t176 t177 t178 t179 t180 t181 t182 t183 t184 t185 t186 t187 t188 t189 t190 t191 t192 t193 t194 t195 t196 t197 t198 t199 t200 t201 t202 t203 t204 t205 t206 t207 t208 t209 t210 t211 t212 t213 t214 t215 t216 t217 t218 t219 t220 t221 t222 t223 t224 t225 t226 t227 t228 t229 t230 t231 t232 t233 t234 t235 t236 t237 t238 t239 t240 t241 t242 t243 t244 t245 t246 t247 t248 t249 t250 t251 t252 t253 : Value} {ds : List Deferred}
    (hK : ∀ (u82 u83 u84 u85 u86 u87 : Value) w', Below W.heap.size W w' → K ⟨#[t0, t1, t2, .pointer (some ⟨ra, 0, none⟩), .pointer (some ⟨pa, 0, none⟩), t5, t6, t7, t8, t9, t10, t11, t12, t13, t14, t15, t16, t17, .int .i64 (valP (okP ⟨p, s, st, sk, re, fe, ag, c, sl⟩ xs ys pl) (majP xs ys)), .int .i64 (codP (okP ⟨p, s, st, sk, re, fe, ag, c, sl⟩ xs ys pl)), t20, t21, t22, t23, t24, t25, t26, t27, t28, t29, t30, t31, t32, t33, t34, t35, t36, t37, t38, t39, t40, t41, t42, t43, t44, t45, t46, t47, t48, t49, t50, t51, t52, t53, t54, t55, t56, t57, t58, t59, t60, t61, t62, t63, t64, t65, t66, t67, t68, t69, t70, t71, t72, t73, t74, t75, t76, t77, t78, t79, t80, t81, u82, u83, u84, u85, u86, u87, t88, t89, t90, t91, t92, t93, t94, t95, t96, t97, t98, t99, t100, t101, t102, t103, t104, t105, t106, t107, t108, t109, t110, t111, t112, t113, t114, t115, t116, t117, t118, t119, t120, t121, t122, t123, t124, t125, t126, t127, t128, t129, t130, t131, t132, t133, t134, t135, t136, t137, t138, t139, t140, t141, t142, t143, t144, t145, t146, t147, t148, t149, t150, t151, t152, t153, t154, t155, t156, t157, t158, t159, t160, t161, t162, t163, t164, t165, t166, t167, t168, t169, t170, t171, t172, t173, t174, t175, t176, t177, t178, t179, t180, t181, t182, t183, t184, t185, t186, t187, t188, t189, t190, t191, t192, t193, t194, t195, t196, t197, t198, t199, t200, t201, t202, t203, t204, t205, t206, t207, t208, t209, t210, t211, t212, t213, t214, t215, t216, t217, t218, t219, t220, t221, t222, t223, t224, t225, t226, t227, t228, t229, t230, t231, t232, t233, t234, t235, t236, t237, t238, t239, t240, t241, t242, t243, t244, t245, t246, t247, t248, t249, t250, t251, t252, t253], ds⟩ w') :
    Code.wp Try.prog (findRegion 10 (Try.f17.body.getD .skip)) (Exit.then K Q') ⟨#[t0, t1, t2, .pointer (some ⟨ra, 0, none⟩), .pointer (some ⟨pa, 0, none⟩), t5, t6, t7, t8, t9, t10, t11, t12, t13, t14, t15, t16, t17, t18, t19, t20, t21, t22, t23, t24, t25, t26, t27, t28, t29, t30, t31, t32, t33, t34, t35, t36, t37, t38, t39, t40, t41, t42, t43, t44, t45, t46, t47, t48, t49, t50, t51, t52, t53, t54, t55, t56, t57, t58, t59, t60, t61, t62, t63, t64, t65, t66, t67, t68, t69, t70, t71, t72, t73, t74, t75, t76, t77, t78, t79, t80, t81, t82, t83, t84, t85, t86, t87, t88, t89, t90, t91, t92, t93, t94, t95, t96, t97, t98, t99, t100, t101, t102, t103, t104, t105, t106, t107, t108, t109, t110, t111, t112, t113, t114, t115, t116, t117, t118, t119, t120, t121, t122, t123, t124, t125, t126, t127, t128, t129, t130, t131, t132, t133, t134, t135, t136, t137, t138, t139, t140, t141, t142, t143, t144, t145, t146, t147, t148, t149, t150, t151, t152, t153, t154, t155, t156, t157, t158, t159, t160, t161, t162, t163, t164, t165, t166, t167, t168, t169, t170, t171, t172, t173, t174, t175, t176, t177, t178, t179, t180, t181, t182, t183, t184, t185, t186, t187, t188, t189, t190, t191, t192, t193, t194, t195, t196, t197, t198, t199, t200, t201, t202, t203, t204, t205, t206, t207, t208, t209, t210, t211, t212, t213, t214, t215, t216, t217, t218, t219, t220, t221, t222, t223, t224, t225, t226, t227, t228, t229, t230, t231, t232, t233, t234, t235, t236, t237, t238, t239, t240, t241, t242, t243, t244, t245, t246, t247, t248, t249, t250, t251, t252, t253], ds⟩ W := by
  simp only [Try.f17, findRegion, Option.getD, Nat.reduceEqDiff, if_true, if_false]
  have r0 := hr.at_ 0 rfl
  have r1 := hr.at_ 1 rfl
  have r2 := hr.at_ 2 rfl
  have r3 := hr.at_ 3 rfl
  have r4 := hr.at_ 4 rfl
  have r5 := hr.at_ 5 rfl
  have r6 := hr.at_ 6 rfl
  have r7 := hr.at_ 7 rfl
  have r8 := hr.at_ 8 rfl
  have p0 := hp.at_ 0 rfl
  have p1 := hp.at_ 1 rfl
  have p2 := hp.at_ 2 rfl
  have H1 := Lib.hid h1
  have H2 := Lib.hid h2
  have HK := Lib.hid hK
  clear hr hp h1 h2 hK
  go_wp2_with fail
  refine (MajorityOf_any p s st sk re fe ag c sl A A' n u n' u' xs ys pl _ (by exact H1.out) (by exact H2.out) hn).mono ?_
  rintro e w1 ⟨rfl, b1⟩
  have B1 := Lib.hid b1
  clear b1 r0 r1 r2 r3 r4 r5 r6 r7 r8 p0 p1 p2
  go_wp2_with fail
  exact HK.out _ _ _ _ _ _ _ B1.out
set_option maxRecDepth 100000 in
set_option maxHeartbeats 16000000 in
theorem setReg11 (p s : Int) (st sk re fe ag : Bool) (c sl : Int) (A : Option Addr) (n u : Nat) (A' : Option Addr) (n' u' : Nat) (pl : Int) (xs ys : List Int) (W : World) (ra pa : Nat) (hr : Has W ra [.int .i64 p, .int .i64 s, .bool st, .bool sk, .bool re, .bool fe, .bool ag, .int .i64 c, .int .i64 sl]) (hp : Has W pa [.slice A n u, .slice A' n' u', .int .i64 pl]) (h1 : Ints W W.heap.size A n u xs) (h2 : Ints W W.heap.size A' n' u' ys) (hn : n ≤ 4294967296) {K : Act → World → Prop} {Q' : Exit → Act → World → Prop} {t0 t1 t2 t5 t6 t7 t8 t9 t10 t11 t12 t13 t14 t15 t16 t17 t18 t19 t20 t21 t22 t23 t24 t25 t26 t27 t28 t29 t30 t31 t32 t33 t34 t35 t36 t37 t38 t39 t40 t41 t42 t43 t44 t45 t46 t47 t48 t49 t50 t51 t52 t53 t54 t55 t56 t57 t58 t59 t60 t61 t62 t63 t64 t65 t66 t67 t68 t69 t70 t71 t72 t73 t74 t75 t76 t77 t78 t79 t80 t81 t82 t83 t84 t85 t86 t87 t88 t89 t90 t91 t92 t93 t94 t95 t96 t97 t98 t99 t100 t101 t102 t103 t104 t105 t106 t107 t108 t109 t110 t111 t112 t113 t114 t115 t116 t117 t118 t119 t120 t121 t122 t123 t124 t125 t126 t127 t128 t129 t130 t131 t132 t133 t134 t135 t136 t137 t138 t139 t140 t141 t142 t143 t144 t145 t146 t147 t148 t149 t150 t151 t152 t153 t154 t155 t156 t157 t158 t159 t160 t161 t162 t163 t164 t165 t166 t167 t168 t169 t170 t171 t172 t173 t174 t175 t176 t177 t178 t179 t180 t181 t182 t183 t184 t185 t186 t187 t188 t189 t190 t191 t192 t193 t194 t195 t196 t197 t198 t199 t200 t201 t202 t203 t204 t205 t206 t207 t208 t209 t210 t211 t212 t213 t214 t215 t216 t217 t218 t219 t220 t221 t222 t223 t224 t225 t226 t227 t228 t229 t230 t231 t232 t233 t234 t235 t236 t237 t238 t239 t240 t241 t242 t243 t244 t245 t246 t247 t248 t249 t250 t251 t252 t253 : Value} {ds : List Deferred}
    (hK : ∀ (u88 u89 u90 u91 u92 u93 : Value) w', Below W.heap.size W w' → K ⟨#[t0, t1, t2, .pointer (some ⟨ra, 0, none⟩), .pointer (some ⟨pa, 0, none⟩), t5, t6, t7, t8, t9, t10, t11, t12, t13, t14, t15, t16, t17, t18, t19, .int .i64 (valP (okP ⟨p, s, st, sk, re, fe, ag, c, sl⟩ xs ys pl) (majP xs ys)), .int .i64 (codP (okP ⟨p, s, st, sk, re, fe, ag, c, sl⟩ xs ys pl)), t22, t23, t24, t25, t26, t27, t28, t29, t30, t31, t32, t33, t34, t35, t36, t37, t38, t39, t40, t41, t42, t43, t44, t45, t46, t47, t48, t49, t50, t51, t52, t53, t54, t55, t56, t57, t58, t59, t60, t61, t62, t63, t64, t65, t66, t67, t68, t69, t70, t71, t72, t73, t74, t75, t76, t77, t78, t79, t80, t81, t82, t83, t84, t85, t86, t87, u88, u89, u90, u91, u92, u93, t94, t95, t96, t97, t98, t99, t100, t101, t102, t103, t104, t105, t106, t107, t108, t109, t110, t111, t112, t113, t114, t115, t116, t117, t118, t119, t120, t121, t122, t123, t124, t125, t126, t127, t128, t129, t130, t131, t132, t133, t134, t135, t136, t137, t138, t139, t140, t141, t142, t143, t144, t145, t146, t147, t148, t149, t150, t151, t152, t153, t154, t155, t156, t157, t158, t159, t160, t161, t162, t163, t164, t165, t166, t167, t168, t169, t170, t171, t172, t173, t174, t175, t176, t177, t178, t179, t180, t181, t182, t183, t184, t185, t186, t187, t188, t189, t190, t191, t192, t193, t194, t195, t196, t197, t198, t199, t200, t201, t202, t203, t204, t205, t206, t207, t208, t209, t210, t211, t212, t213, t214, t215, t216, t217, t218, t219, t220, t221, t222, t223, t224, t225, t226, t227, t228, t229, t230, t231, t232, t233, t234, t235, t236, t237, t238, t239, t240, t241, t242, t243, t244, t245, t246, t247, t248, t249, t250, t251, t252, t253], ds⟩ w') :
    Code.wp Try.prog (findRegion 11 (Try.f17.body.getD .skip)) (Exit.then K Q') ⟨#[t0, t1, t2, .pointer (some ⟨ra, 0, none⟩), .pointer (some ⟨pa, 0, none⟩), t5, t6, t7, t8, t9, t10, t11, t12, t13, t14, t15, t16, t17, t18, t19, t20, t21, t22, t23, t24, t25, t26, t27, t28, t29, t30, t31, t32, t33, t34, t35, t36, t37, t38, t39, t40, t41, t42, t43, t44, t45, t46, t47, t48, t49, t50, t51, t52, t53, t54, t55, t56, t57, t58, t59, t60, t61, t62, t63, t64, t65, t66, t67, t68, t69, t70, t71, t72, t73, t74, t75, t76, t77, t78, t79, t80, t81, t82, t83, t84, t85, t86, t87, t88, t89, t90, t91, t92, t93, t94, t95, t96, t97, t98, t99, t100, t101, t102, t103, t104, t105, t106, t107, t108, t109, t110, t111, t112, t113, t114, t115, t116, t117, t118, t119, t120, t121, t122, t123, t124, t125, t126, t127, t128, t129, t130, t131, t132, t133, t134, t135, t136, t137, t138, t139, t140, t141, t142, t143, t144, t145, t146, t147, t148, t149, t150, t151, t152, t153, t154, t155, t156, t157, t158, t159, t160, t161, t162, t163, t164, t165, t166, t167, t168, t169, t170, t171, t172, t173, t174, t175, t176, t177, t178, t179, t180, t181, t182, t183, t184, t185, t186, t187, t188, t189, t190, t191, t192, t193, t194, t195, t196, t197, t198, t199, t200, t201, t202, t203, t204, t205, t206, t207, t208, t209, t210, t211, t212, t213, t214, t215, t216, t217, t218, t219, t220, t221, t222, t223, t224, t225, t226, t227, t228, t229, t230, t231, t232, t233, t234, t235, t236, t237, t238, t239, t240, t241, t242, t243, t244, t245, t246, t247, t248, t249, t250, t251, t252, t253], ds⟩ W := by
  simp only [Try.f17, findRegion, Option.getD, Nat.reduceEqDiff, if_true, if_false]
  have r0 := hr.at_ 0 rfl
  have r1 := hr.at_ 1 rfl
  have r2 := hr.at_ 2 rfl
  have r3 := hr.at_ 3 rfl
  have r4 := hr.at_ 4 rfl
  have r5 := hr.at_ 5 rfl
  have r6 := hr.at_ 6 rfl
  have r7 := hr.at_ 7 rfl
  have r8 := hr.at_ 8 rfl
  have p0 := hp.at_ 0 rfl
  have p1 := hp.at_ 1 rfl
  have p2 := hp.at_ 2 rfl
  have H1 := Lib.hid h1
  have H2 := Lib.hid h2
  have HK := Lib.hid hK
  clear hr hp h1 h2 hK
  go_wp2_with fail
  refine (specMajorityOf_any p s st sk re fe ag c sl A A' n u n' u' xs ys pl _ (by exact H1.out) (by exact H2.out) hn).mono ?_
  rintro e w1 ⟨rfl, b1⟩
  have B1 := Lib.hid b1
  clear b1 r0 r1 r2 r3 r4 r5 r6 r7 r8 p0 p1 p2
  go_wp2_with fail
  exact HK.out _ _ _ _ _ _ _ B1.out
set_option maxRecDepth 100000 in
set_option maxHeartbeats 16000000 in
theorem setReg12 (p s : Int) (st sk re fe ag : Bool) (c sl : Int) (A : Option Addr) (n u : Nat) (A' : Option Addr) (n' u' : Nat) (pl : Int) (xs ys : List Int) (W : World) (ra pa : Nat) (hr : Has W ra [.int .i64 p, .int .i64 s, .bool st, .bool sk, .bool re, .bool fe, .bool ag, .int .i64 c, .int .i64 sl]) (hp : Has W pa [.slice A n u, .slice A' n' u', .int .i64 pl]) (h1 : Ints W W.heap.size A n u xs) (h2 : Ints W W.heap.size A' n' u' ys) (hn : n ≤ 4294967296) {K : Act → World → Prop} {Q' : Exit → Act → World → Prop} {t0 t1 t2 t5 t6 t7 t8 t9 t10 t11 t12 t13 t14 t15 t16 t17 t18 t19 t20 t21 t22 t23 t24 t25 t26 t27 t28 t29 t30 t31 t32 t33 t34 t35 t36 t37 t38 t39 t40 t41 t42 t43 t44 t45 t46 t47 t48 t49 t50 t51 t52 t53 t54 t55 t56 t57 t58 t59 t60 t61 t62 t63 t64 t65 t66 t67 t68 t69 t70 t71 t72 t73 t74 t75 t76 t77 t78 t79 t80 t81 t82 t83 t84 t85 t86 t87 t88 t89 t90 t91 t92 t93 t94 t95 t96 t97 t98 t99 t100 t101 t102 t103 t104 t105 t106 t107 t108 t109 t110 t111 t112 t113 t114 t115 t116 t117 t118 t119 t120 t121 t122 t123 t124 t125 t126 t127 t128 t129 t130 t131 t132 t133 t134 t135 t136 t137 t138 t139 t140 t141 t142 t143 t144 t145 t146 t147 t148 t149 t150 t151 t152 t153 t154 t155 t156 t157 t158 t159 t160 t161 t162 t163 t164 t165 t166 t167 t168 t169 t170 t171 t172 t173 t174 t175 t176 t177 t178 t179 t180 t181 t182 t183 t184 t185 t186 t187 t188 t189 t190 t191 t192 t193 t194 t195 t196 t197 t198 t199 t200 t201 t202 t203 t204 t205 t206 t207 t208 t209 t210 t211 t212 t213 t214 t215 t216 t217 t218 t219 t220 t221 t222 t223 t224 t225 t226 t227 t228 t229 t230 t231 t232 t233 t234 t235 t236 t237 t238 t239 t240 t241 t242 t243 t244 t245 t246 t247 t248 t249 t250 t251 t252 t253 : Value} {ds : List Deferred}
    (hK : ∀ (u94 u95 u96 u97 u98 u99 : Value) w', Below W.heap.size W w' → K ⟨#[t0, t1, t2, .pointer (some ⟨ra, 0, none⟩), .pointer (some ⟨pa, 0, none⟩), t5, t6, t7, t8, t9, t10, t11, t12, t13, t14, t15, t16, t17, t18, t19, t20, t21, .int .i64 (valP (okP ⟨p, s, st, sk, re, fe, ag, c, sl⟩ xs ys pl) (leadP ys)), .int .i64 (codP (okP ⟨p, s, st, sk, re, fe, ag, c, sl⟩ xs ys pl)), t24, t25, t26, t27, t28, t29, t30, t31, t32, t33, t34, t35, t36, t37, t38, t39, t40, t41, t42, t43, t44, t45, t46, t47, t48, t49, t50, t51, t52, t53, t54, t55, t56, t57, t58, t59, t60, t61, t62, t63, t64, t65, t66, t67, t68, t69, t70, t71, t72, t73, t74, t75, t76, t77, t78, t79, t80, t81, t82, t83, t84, t85, t86, t87, t88, t89, t90, t91, t92, t93, u94, u95, u96, u97, u98, u99, t100, t101, t102, t103, t104, t105, t106, t107, t108, t109, t110, t111, t112, t113, t114, t115, t116, t117, t118, t119, t120, t121, t122, t123, t124, t125, t126, t127, t128, t129, t130, t131, t132, t133, t134, t135, t136, t137, t138, t139, t140, t141, t142, t143, t144, t145, t146, t147, t148, t149, t150, t151, t152, t153, t154, t155, t156, t157, t158, t159, t160, t161, t162, t163, t164, t165, t166, t167, t168, t169, t170, t171, t172, t173, t174, t175, t176, t177, t178, t179, t180, t181, t182, t183, t184, t185, t186, t187, t188, t189, t190, t191, t192, t193, t194, t195, t196, t197, t198, t199, t200, t201, t202, t203, t204, t205, t206, t207, t208, t209, t210, t211, t212, t213, t214, t215, t216, t217, t218, t219, t220, t221, t222, t223, t224, t225, t226, t227, t228, t229, t230, t231, t232, t233, t234, t235, t236, t237, t238, t239, t240, t241, t242, t243, t244, t245, t246, t247, t248, t249, t250, t251, t252, t253], ds⟩ w') :
    Code.wp Try.prog (findRegion 12 (Try.f17.body.getD .skip)) (Exit.then K Q') ⟨#[t0, t1, t2, .pointer (some ⟨ra, 0, none⟩), .pointer (some ⟨pa, 0, none⟩), t5, t6, t7, t8, t9, t10, t11, t12, t13, t14, t15, t16, t17, t18, t19, t20, t21, t22, t23, t24, t25, t26, t27, t28, t29, t30, t31, t32, t33, t34, t35, t36, t37, t38, t39, t40, t41, t42, t43, t44, t45, t46, t47, t48, t49, t50, t51, t52, t53, t54, t55, t56, t57, t58, t59, t60, t61, t62, t63, t64, t65, t66, t67, t68, t69, t70, t71, t72, t73, t74, t75, t76, t77, t78, t79, t80, t81, t82, t83, t84, t85, t86, t87, t88, t89, t90, t91, t92, t93, t94, t95, t96, t97, t98, t99, t100, t101, t102, t103, t104, t105, t106, t107, t108, t109, t110, t111, t112, t113, t114, t115, t116, t117, t118, t119, t120, t121, t122, t123, t124, t125, t126, t127, t128, t129, t130, t131, t132, t133, t134, t135, t136, t137, t138, t139, t140, t141, t142, t143, t144, t145, t146, t147, t148, t149, t150, t151, t152, t153, t154, t155, t156, t157, t158, t159, t160, t161, t162, t163, t164, t165, t166, t167, t168, t169, t170, t171, t172, t173, t174, t175, t176, t177, t178, t179, t180, t181, t182, t183, t184, t185, t186, t187, t188, t189, t190, t191, t192, t193, t194, t195, t196, t197, t198, t199, t200, t201, t202, t203, t204, t205, t206, t207, t208, t209, t210, t211, t212, t213, t214, t215, t216, t217, t218, t219, t220, t221, t222, t223, t224, t225, t226, t227, t228, t229, t230, t231, t232, t233, t234, t235, t236, t237, t238, t239, t240, t241, t242, t243, t244, t245, t246, t247, t248, t249, t250, t251, t252, t253], ds⟩ W := by
  simp only [Try.f17, findRegion, Option.getD, Nat.reduceEqDiff, if_true, if_false]
  have r0 := hr.at_ 0 rfl
  have r1 := hr.at_ 1 rfl
  have r2 := hr.at_ 2 rfl
  have r3 := hr.at_ 3 rfl
  have r4 := hr.at_ 4 rfl
  have r5 := hr.at_ 5 rfl
  have r6 := hr.at_ 6 rfl
  have r7 := hr.at_ 7 rfl
  have r8 := hr.at_ 8 rfl
  have p0 := hp.at_ 0 rfl
  have p1 := hp.at_ 1 rfl
  have p2 := hp.at_ 2 rfl
  have H1 := Lib.hid h1
  have H2 := Lib.hid h2
  have HK := Lib.hid hK
  clear hr hp h1 h2 hK
  go_wp2_with fail
  refine (LeadOf_any p s st sk re fe ag c sl A A' n u n' u' xs ys pl _ (by exact H1.out) (by exact H2.out) hn).mono ?_
  rintro e w1 ⟨rfl, b1⟩
  have B1 := Lib.hid b1
  clear b1 r0 r1 r2 r3 r4 r5 r6 r7 r8 p0 p1 p2
  go_wp2_with fail
  exact HK.out _ _ _ _ _ _ _ B1.out
set_option maxRecDepth 100000 in
set_option maxHeartbeats 16000000 in
theorem setReg13 (p s : Int) (st sk re fe ag : Bool) (c sl : Int) (A : Option Addr) (n u : Nat) (A' : Option Addr) (n' u' : Nat) (pl : Int) (xs ys : List Int) (W : World) (ra pa : Nat) (hr : Has W ra [.int .i64 p, .int .i64 s, .bool st, .bool sk, .bool re, .bool fe, .bool ag, .int .i64 c, .int .i64 sl]) (hp : Has W pa [.slice A n u, .slice A' n' u', .int .i64 pl]) (h1 : Ints W W.heap.size A n u xs) (h2 : Ints W W.heap.size A' n' u' ys) (hn : n ≤ 4294967296) {K : Act → World → Prop} {Q' : Exit → Act → World → Prop} {t0 t1 t2 t5 t6 t7 t8 t9 t10 t11 t12 t13 t14 t15 t16 t17 t18 t19 t20 t21 t22 t23 t24 t25 t26 t27 t28 t29 t30 t31 t32 t33 t34 t35 t36 t37 t38 t39 t40 t41 t42 t43 t44 t45 t46 t47 t48 t49 t50 t51 t52 t53 t54 t55 t56 t57 t58 t59 t60 t61 t62 t63 t64 t65 t66 t67 t68 t69 t70 t71 t72 t73 t74 t75 t76 t77 t78 t79 t80 t81 t82 t83 t84 t85 t86 t87 t88 t89 t90 t91 t92 t93 t94 t95 t96 t97 t98 t99 t100 t101 t102 t103 t104 t105 t106 t107 t108 t109 t110 t111 t112 t113 t114 t115 t116 t117 t118 t119 t120 t121 t122 t123 t124 t125 t126 t127 t128 t129 t130 t131 t132 t133 t134 t135 t136 t137 t138 t139 t140 t141 t142 t143 t144 t145 t146 t147 t148 t149 t150 t151 t152 t153 t154 t155 t156 t157 t158 t159 t160 t161 t162 t163 t164 t165 t166 t167 t168 t169 t170 t171 t172 t173 t174 t175 t176 t177 t178 t179 t180 t181 t182 t183 t184 t185 t186 t187 t188 t189 t190 t191 t192 t193 t194 t195 t196 t197 t198 t199 t200 t201 t202 t203 t204 t205 t206 t207 t208 t209 t210 t211 t212 t213 t214 t215 t216 t217 t218 t219 t220 t221 t222 t223 t224 t225 t226 t227 t228 t229 t230 t231 t232 t233 t234 t235 t236 t237 t238 t239 t240 t241 t242 t243 t244 t245 t246 t247 t248 t249 t250 t251 t252 t253 : Value} {ds : List Deferred}
    (hK : ∀ (u100 u101 u102 u103 u104 u105 : Value) w', Below W.heap.size W w' → K ⟨#[t0, t1, t2, .pointer (some ⟨ra, 0, none⟩), .pointer (some ⟨pa, 0, none⟩), t5, t6, t7, t8, t9, t10, t11, t12, t13, t14, t15, t16, t17, t18, t19, t20, t21, t22, t23, .int .i64 (valP (okP ⟨p, s, st, sk, re, fe, ag, c, sl⟩ xs ys pl) (leadP ys)), .int .i64 (codP (okP ⟨p, s, st, sk, re, fe, ag, c, sl⟩ xs ys pl)), t26, t27, t28, t29, t30, t31, t32, t33, t34, t35, t36, t37, t38, t39, t40, t41, t42, t43, t44, t45, t46, t47, t48, t49, t50, t51, t52, t53, t54, t55, t56, t57, t58, t59, t60, t61, t62, t63, t64, t65, t66, t67, t68, t69, t70, t71, t72, t73, t74, t75, t76, t77, t78, t79, t80, t81, t82, t83, t84, t85, t86, t87, t88, t89, t90, t91, t92, t93, t94, t95, t96, t97, t98, t99, u100, u101, u102, u103, u104, u105, t106, t107, t108, t109, t110, t111, t112, t113, t114, t115, t116, t117, t118, t119, t120, t121, t122, t123, t124, t125, t126, t127, t128, t129, t130, t131, t132, t133, t134, t135, t136, t137, t138, t139, t140, t141, t142, t143, t144, t145, t146, t147, t148, t149, t150, t151, t152, t153, t154, t155, t156, t157, t158, t159, t160, t161, t162, t163, t164, t165, t166, t167, t168, t169, t170, t171, t172, t173, t174, t175, t176, t177, t178, t179, t180, t181, t182, t183, t184, t185, t186, t187, t188, t189, t190, t191, t192, t193, t194, t195, t196, t197, t198, t199, t200, t201, t202, t203, t204, t205, t206, t207, t208, t209, t210, t211, t212, t213, t214, t215, t216, t217, t218, t219, t220, t221, t222, t223, t224, t225, t226, t227, t228, t229, t230, t231, t232, t233, t234, t235, t236, t237, t238, t239, t240, t241, t242, t243, t244, t245, t246, t247, t248, t249, t250, t251, t252, t253], ds⟩ w') :
    Code.wp Try.prog (findRegion 13 (Try.f17.body.getD .skip)) (Exit.then K Q') ⟨#[t0, t1, t2, .pointer (some ⟨ra, 0, none⟩), .pointer (some ⟨pa, 0, none⟩), t5, t6, t7, t8, t9, t10, t11, t12, t13, t14, t15, t16, t17, t18, t19, t20, t21, t22, t23, t24, t25, t26, t27, t28, t29, t30, t31, t32, t33, t34, t35, t36, t37, t38, t39, t40, t41, t42, t43, t44, t45, t46, t47, t48, t49, t50, t51, t52, t53, t54, t55, t56, t57, t58, t59, t60, t61, t62, t63, t64, t65, t66, t67, t68, t69, t70, t71, t72, t73, t74, t75, t76, t77, t78, t79, t80, t81, t82, t83, t84, t85, t86, t87, t88, t89, t90, t91, t92, t93, t94, t95, t96, t97, t98, t99, t100, t101, t102, t103, t104, t105, t106, t107, t108, t109, t110, t111, t112, t113, t114, t115, t116, t117, t118, t119, t120, t121, t122, t123, t124, t125, t126, t127, t128, t129, t130, t131, t132, t133, t134, t135, t136, t137, t138, t139, t140, t141, t142, t143, t144, t145, t146, t147, t148, t149, t150, t151, t152, t153, t154, t155, t156, t157, t158, t159, t160, t161, t162, t163, t164, t165, t166, t167, t168, t169, t170, t171, t172, t173, t174, t175, t176, t177, t178, t179, t180, t181, t182, t183, t184, t185, t186, t187, t188, t189, t190, t191, t192, t193, t194, t195, t196, t197, t198, t199, t200, t201, t202, t203, t204, t205, t206, t207, t208, t209, t210, t211, t212, t213, t214, t215, t216, t217, t218, t219, t220, t221, t222, t223, t224, t225, t226, t227, t228, t229, t230, t231, t232, t233, t234, t235, t236, t237, t238, t239, t240, t241, t242, t243, t244, t245, t246, t247, t248, t249, t250, t251, t252, t253], ds⟩ W := by
  simp only [Try.f17, findRegion, Option.getD, Nat.reduceEqDiff, if_true, if_false]
  have r0 := hr.at_ 0 rfl
  have r1 := hr.at_ 1 rfl
  have r2 := hr.at_ 2 rfl
  have r3 := hr.at_ 3 rfl
  have r4 := hr.at_ 4 rfl
  have r5 := hr.at_ 5 rfl
  have r6 := hr.at_ 6 rfl
  have r7 := hr.at_ 7 rfl
  have r8 := hr.at_ 8 rfl
  have p0 := hp.at_ 0 rfl
  have p1 := hp.at_ 1 rfl
  have p2 := hp.at_ 2 rfl
  have H1 := Lib.hid h1
  have H2 := Lib.hid h2
  have HK := Lib.hid hK
  clear hr hp h1 h2 hK
  go_wp2_with fail
  refine (specLeadOf_any p s st sk re fe ag c sl A A' n u n' u' xs ys pl _ (by exact H1.out) (by exact H2.out) hn).mono ?_
  rintro e w1 ⟨rfl, b1⟩
  have B1 := Lib.hid b1
  clear b1 r0 r1 r2 r3 r4 r5 r6 r7 r8 p0 p1 p2
  go_wp2_with fail
  exact HK.out _ _ _ _ _ _ _ B1.out
set_option maxRecDepth 100000 in
set_option maxHeartbeats 16000000 in
theorem setReg17 (p s : Int) (st sk re fe ag : Bool) (c sl : Int) (A : Option Addr) (n u : Nat) (A' : Option Addr) (n' u' : Nat) (pl : Int) (xs ys : List Int) (W : World) (ra pa : Nat) (hr : Has W ra [.int .i64 p, .int .i64 s, .bool st, .bool sk, .bool re, .bool fe, .bool ag, .int .i64 c, .int .i64 sl]) (hp : Has W pa [.slice A n u, .slice A' n' u', .int .i64 pl]) (h1 : Ints W W.heap.size A n u xs) (h2 : Ints W W.heap.size A' n' u' ys) (hn : n ≤ 4294967296) {K : Act → World → Prop} {Q' : Exit → Act → World → Prop} {t0 t1 t2 t4 t5 t6 t7 t8 t9 t11 t12 t13 t14 t15 t16 t17 t18 t19 t20 t21 t22 t23 t24 t25 t26 t27 t28 t29 t30 t31 t32 t33 t34 t35 t36 t37 t38 t39 t40 t41 t42 t43 t44 t45 t46 t47 t48 t49 t50 t51 t52 t53 t54 t55 t56 t57 t58 t59 t60 t61 t62 t63 t64 t65 t66 t67 t68 t69 t70 t71 t72 t73 t74 t75 t76 t77 t78 t79 t80 t81 t82 t83 t84 t85 t86 t87 t88 t89 t90 t91 t92 t93 t94 t95 t96 t97 t98 t99 t100 t101 t102 t103 t104 t105 t106 t107 t108 t109 t110 t111 t112 t113 t114 t115 t116 t117 t118 t119 t120 t121 t122 t123 t124 t125 t126 t127 t128 t129 t130 t131 t132 t133 t134 t135 t136 t137 t138 t139 t140 t141 t142 t143 t144 t145 t146 t147 t148 t149 t150 t151 t152 t153 t154 t155 t156 t157 t158 t159 t160 t161 t162 t163 t164 t165 t166 t167 t168 t169 t170 t171 t172 t173 t174 t175 t176 t177 t178 t179 t180 t181 t182 t183 t184 t185 t186 t187 t188 t189 t190 t191 t192 t193 t194 t195 t196 t197 t198 t199 t200 t201 t202 t203 t204 t205 t206 t207 t208 t209 t210 t211 t212 t213 t214 t215 t216 t217 t218 t219 t220 t221 t222 t223 t224 t225 t226 t227 t228 t229 t230 t231 t232 t233 t234 t235 t236 t237 t238 t239 t240 t241 t242 t243 t244 t245 t246 t247 t248 t249 t250 t251 t252 t253 : Value} {ds : List Deferred}
    (hK : ∀ (u158 u159 u160 u161 u162 u163 : Value) (g : Nat) (D : Option Addr) (m e : Nat) (D' : Option Addr) (m' e' : Nat) w', Has w' g [.slice D m e, .slice D' m' e', .int .i64 (seP (okP ⟨p, s, st, sk, re, fe, ag, c, sl⟩ xs ys pl) pl)] → Ints w' w'.heap.size D m e (seX (okP ⟨p, s, st, sk, re, fe, ag, c, sl⟩ xs ys pl) xs) → Ints w' w'.heap.size D' m' e' (seY (okP ⟨p, s, st, sk, re, fe, ag, c, sl⟩ xs ys pl) p xs ys) → m ≤ 4294967296 → Below W.heap.size W w' → K ⟨#[t0, t1, t2, .pointer (some ⟨ra, 0, none⟩), t4, t5, t6, t7, t8, t9, .pointer (some ⟨pa, 0, none⟩), t11, t12, t13, t14, t15, t16, t17, t18, t19, t20, t21, t22, t23, t24, t25, .pointer (some ⟨g, 0, none⟩), .int .i64 (codP (okP ⟨p, s, st, sk, re, fe, ag, c, sl⟩ xs ys pl)), t28, t29, t30, t31, t32, t33, t34, t35, t36, t37, t38, t39, t40, t41, t42, t43, t44, t45, t46, t47, t48, t49, t50, t51, t52, t53, t54, t55, t56, t57, t58, t59, t60, t61, t62, t63, t64, t65, t66, t67, t68, t69, t70, t71, t72, t73, t74, t75, t76, t77, t78, t79, t80, t81, t82, t83, t84, t85, t86, t87, t88, t89, t90, t91, t92, t93, t94, t95, t96, t97, t98, t99, t100, t101, t102, t103, t104, t105, t106, t107, t108, t109, t110, t111, t112, t113, t114, t115, t116, t117, t118, t119, t120, t121, t122, t123, t124, t125, t126, t127, t128, t129, t130, t131, t132, t133, t134, t135, t136, t137, t138, t139, t140, t141, t142, t143, t144, t145, t146, t147, t148, t149, t150, t151, t152, t153, t154, t155, t156, t157, u158, u159, u160, u161, u162, u163, t164, t165, t166, t167, t168, t169, t170, t171, t172, t173, t174, t175, t176, t177, t178, t179, t180, t181, t182, t183, t184, t185, t186, t187, t188, t189, t190, t191, t192, t193, t194, t195, t196, t197, t198, t199, t200, t201, t202, t203, t204, t205, t206, t207, t208, t209, t210, t211, t212, t213, t214, t215, t216, t217, t218, t219, t220, t221, t222, t223, t224, t225, t226, t227, t228, t229, t230, t231, t232, t233, t234, t235, t236, t237, t238, t239, t240, t241, t242, t243, t244, t245, t246, t247, t248, t249, t250, t251, t252, t253], ds⟩ w') :
    Code.wp Try.prog (findRegion 17 (Try.f17.body.getD .skip)) (Exit.then K Q') ⟨#[t0, t1, t2, .pointer (some ⟨ra, 0, none⟩), t4, t5, t6, t7, t8, t9, .pointer (some ⟨pa, 0, none⟩), t11, t12, t13, t14, t15, t16, t17, t18, t19, t20, t21, t22, t23, t24, t25, t26, t27, t28, t29, t30, t31, t32, t33, t34, t35, t36, t37, t38, t39, t40, t41, t42, t43, t44, t45, t46, t47, t48, t49, t50, t51, t52, t53, t54, t55, t56, t57, t58, t59, t60, t61, t62, t63, t64, t65, t66, t67, t68, t69, t70, t71, t72, t73, t74, t75, t76, t77, t78, t79, t80, t81, t82, t83, t84, t85, t86, t87, t88, t89, t90, t91, t92, t93, t94, t95, t96, t97, t98, t99, t100, t101, t102, t103, t104, t105, t106, t107, t108, t109, t110, t111, t112, t113, t114, t115, t116, t117, t118, t119, t120, t121, t122, t123, t124, t125, t126, t127, t128, t129, t130, t131, t132, t133, t134, t135, t136, t137, t138, t139, t140, t141, t142, t143, t144, t145, t146, t147, t148, t149, t150, t151, t152, t153, t154, t155, t156, t157, t158, t159, t160, t161, t162, t163, t164, t165, t166, t167, t168, t169, t170, t171, t172, t173, t174, t175, t176, t177, t178, t179, t180, t181, t182, t183, t184, t185, t186, t187, t188, t189, t190, t191, t192, t193, t194, t195, t196, t197, t198, t199, t200, t201, t202, t203, t204, t205, t206, t207, t208, t209, t210, t211, t212, t213, t214, t215, t216, t217, t218, t219, t220, t221, t222, t223, t224, t225, t226, t227, t228, t229, t230, t231, t232, t233, t234, t235, t236, t237, t238, t239, t240, t241, t242, t243, t244, t245, t246, t247, t248, t249, t250, t251, t252, t253], ds⟩ W := by
  simp only [Try.f17, findRegion, Option.getD, Nat.reduceEqDiff, if_true, if_false]
  have r0 := hr.at_ 0 rfl
  have r1 := hr.at_ 1 rfl
  have r2 := hr.at_ 2 rfl
  have r3 := hr.at_ 3 rfl
  have r4 := hr.at_ 4 rfl
  have r5 := hr.at_ 5 rfl
  have r6 := hr.at_ 6 rfl
  have r7 := hr.at_ 7 rfl
  have r8 := hr.at_ 8 rfl
  have p0 := hp.at_ 0 rfl
  have p1 := hp.at_ 1 rfl
  have p2 := hp.at_ 2 rfl
  have H1 := Lib.hid h1
  have H2 := Lib.hid h2
  have HK := Lib.hid hK
  clear hr hp h1 h2 hK
  go_wp2_with fail
  refine (SettlePosition_any p s st sk re fe ag c sl A A' n u n' u' xs ys pl _ (by exact H1.out) (by exact H2.out) hn).mono ?_
  rintro e w1 ⟨D, e1, D', e1', m, m', rfl, o1, o2, -, hm, -, b1⟩
  have O1 := Lib.hid o1
  have O2 := Lib.hid o2
  have B1 := Lib.hid b1
  clear o1 o2 b1 r0 r1 r2 r3 r4 r5 r6 r7 r8 p0 p1 p2
  go_wp2_with fail
  exact HK.out _ _ _ _ _ _ _ _ _ _ _ _ _ _ (Has.box _ _ _ _ rfl) (O1.out.ints.sub ((Below.refl _ _).alloc (Nat.le_refl _) _)) (O2.out.ints.sub ((Below.refl _ _).alloc (Nat.le_refl _) _)) (by omega) (B1.out.alloc B1.out.size _)
set_option maxRecDepth 100000 in
set_option maxHeartbeats 16000000 in
theorem setReg18 (p s : Int) (st sk re fe ag : Bool) (c sl : Int) (A : Option Addr) (n u : Nat) (A' : Option Addr) (n' u' : Nat) (pl : Int) (xs ys : List Int) (W : World) (ra pa : Nat) (hr : Has W ra [.int .i64 p, .int .i64 s, .bool st, .bool sk, .bool re, .bool fe, .bool ag, .int .i64 c, .int .i64 sl]) (hp : Has W pa [.slice A n u, .slice A' n' u', .int .i64 pl]) (h1 : Ints W W.heap.size A n u xs) (h2 : Ints W W.heap.size A' n' u' ys) (hn : n ≤ 4294967296) {K : Act → World → Prop} {Q' : Exit → Act → World → Prop} {t0 t1 t2 t4 t5 t6 t7 t8 t9 t11 t12 t13 t14 t15 t16 t17 t18 t19 t20 t21 t22 t23 t24 t25 t26 t27 t28 t29 t30 t31 t32 t33 t34 t35 t36 t37 t38 t39 t40 t41 t42 t43 t44 t45 t46 t47 t48 t49 t50 t51 t52 t53 t54 t55 t56 t57 t58 t59 t60 t61 t62 t63 t64 t65 t66 t67 t68 t69 t70 t71 t72 t73 t74 t75 t76 t77 t78 t79 t80 t81 t82 t83 t84 t85 t86 t87 t88 t89 t90 t91 t92 t93 t94 t95 t96 t97 t98 t99 t100 t101 t102 t103 t104 t105 t106 t107 t108 t109 t110 t111 t112 t113 t114 t115 t116 t117 t118 t119 t120 t121 t122 t123 t124 t125 t126 t127 t128 t129 t130 t131 t132 t133 t134 t135 t136 t137 t138 t139 t140 t141 t142 t143 t144 t145 t146 t147 t148 t149 t150 t151 t152 t153 t154 t155 t156 t157 t158 t159 t160 t161 t162 t163 t164 t165 t166 t167 t168 t169 t170 t171 t172 t173 t174 t175 t176 t177 t178 t179 t180 t181 t182 t183 t184 t185 t186 t187 t188 t189 t190 t191 t192 t193 t194 t195 t196 t197 t198 t199 t200 t201 t202 t203 t204 t205 t206 t207 t208 t209 t210 t211 t212 t213 t214 t215 t216 t217 t218 t219 t220 t221 t222 t223 t224 t225 t226 t227 t228 t229 t230 t231 t232 t233 t234 t235 t236 t237 t238 t239 t240 t241 t242 t243 t244 t245 t246 t247 t248 t249 t250 t251 t252 t253 : Value} {ds : List Deferred}
    (hK : ∀ (u164 u165 u166 u167 u168 u169 : Value) w', Below W.heap.size W w' → K ⟨#[t0, t1, t2, .pointer (some ⟨ra, 0, none⟩), t4, t5, t6, t7, t8, t9, .pointer (some ⟨pa, 0, none⟩), t11, t12, t13, t14, t15, t16, t17, t18, t19, t20, t21, t22, t23, t24, t25, t26, t27, .int .i64 (valP (okP ⟨p, s, st, sk, re, fe, ag, c, sl⟩ xs ys pl) xs.sum), .int .i64 (codP (okP ⟨p, s, st, sk, re, fe, ag, c, sl⟩ xs ys pl)), t30, t31, t32, t33, t34, t35, t36, t37, t38, t39, t40, t41, t42, t43, t44, t45, t46, t47, t48, t49, t50, t51, t52, t53, t54, t55, t56, t57, t58, t59, t60, t61, t62, t63, t64, t65, t66, t67, t68, t69, t70, t71, t72, t73, t74, t75, t76, t77, t78, t79, t80, t81, t82, t83, t84, t85, t86, t87, t88, t89, t90, t91, t92, t93, t94, t95, t96, t97, t98, t99, t100, t101, t102, t103, t104, t105, t106, t107, t108, t109, t110, t111, t112, t113, t114, t115, t116, t117, t118, t119, t120, t121, t122, t123, t124, t125, t126, t127, t128, t129, t130, t131, t132, t133, t134, t135, t136, t137, t138, t139, t140, t141, t142, t143, t144, t145, t146, t147, t148, t149, t150, t151, t152, t153, t154, t155, t156, t157, t158, t159, t160, t161, t162, t163, u164, u165, u166, u167, u168, u169, t170, t171, t172, t173, t174, t175, t176, t177, t178, t179, t180, t181, t182, t183, t184, t185, t186, t187, t188, t189, t190, t191, t192, t193, t194, t195, t196, t197, t198, t199, t200, t201, t202, t203, t204, t205, t206, t207, t208, t209, t210, t211, t212, t213, t214, t215, t216, t217, t218, t219, t220, t221, t222, t223, t224, t225, t226, t227, t228, t229, t230, t231, t232, t233, t234, t235, t236, t237, t238, t239, t240, t241, t242, t243, t244, t245, t246, t247, t248, t249, t250, t251, t252, t253], ds⟩ w') :
    Code.wp Try.prog (findRegion 18 (Try.f17.body.getD .skip)) (Exit.then K Q') ⟨#[t0, t1, t2, .pointer (some ⟨ra, 0, none⟩), t4, t5, t6, t7, t8, t9, .pointer (some ⟨pa, 0, none⟩), t11, t12, t13, t14, t15, t16, t17, t18, t19, t20, t21, t22, t23, t24, t25, t26, t27, t28, t29, t30, t31, t32, t33, t34, t35, t36, t37, t38, t39, t40, t41, t42, t43, t44, t45, t46, t47, t48, t49, t50, t51, t52, t53, t54, t55, t56, t57, t58, t59, t60, t61, t62, t63, t64, t65, t66, t67, t68, t69, t70, t71, t72, t73, t74, t75, t76, t77, t78, t79, t80, t81, t82, t83, t84, t85, t86, t87, t88, t89, t90, t91, t92, t93, t94, t95, t96, t97, t98, t99, t100, t101, t102, t103, t104, t105, t106, t107, t108, t109, t110, t111, t112, t113, t114, t115, t116, t117, t118, t119, t120, t121, t122, t123, t124, t125, t126, t127, t128, t129, t130, t131, t132, t133, t134, t135, t136, t137, t138, t139, t140, t141, t142, t143, t144, t145, t146, t147, t148, t149, t150, t151, t152, t153, t154, t155, t156, t157, t158, t159, t160, t161, t162, t163, t164, t165, t166, t167, t168, t169, t170, t171, t172, t173, t174, t175, t176, t177, t178, t179, t180, t181, t182, t183, t184, t185, t186, t187, t188, t189, t190, t191, t192, t193, t194, t195, t196, t197, t198, t199, t200, t201, t202, t203, t204, t205, t206, t207, t208, t209, t210, t211, t212, t213, t214, t215, t216, t217, t218, t219, t220, t221, t222, t223, t224, t225, t226, t227, t228, t229, t230, t231, t232, t233, t234, t235, t236, t237, t238, t239, t240, t241, t242, t243, t244, t245, t246, t247, t248, t249, t250, t251, t252, t253], ds⟩ W := by
  simp only [Try.f17, findRegion, Option.getD, Nat.reduceEqDiff, if_true, if_false]
  have r0 := hr.at_ 0 rfl
  have r1 := hr.at_ 1 rfl
  have r2 := hr.at_ 2 rfl
  have r3 := hr.at_ 3 rfl
  have r4 := hr.at_ 4 rfl
  have r5 := hr.at_ 5 rfl
  have r6 := hr.at_ 6 rfl
  have r7 := hr.at_ 7 rfl
  have r8 := hr.at_ 8 rfl
  have p0 := hp.at_ 0 rfl
  have p1 := hp.at_ 1 rfl
  have p2 := hp.at_ 2 rfl
  have H1 := Lib.hid h1
  have H2 := Lib.hid h2
  have HK := Lib.hid hK
  clear hr hp h1 h2 hK
  go_wp2_with fail
  refine (SeedsOn_any p s st sk re fe ag c sl A A' n u n' u' xs ys pl _ (by exact H1.out) (by exact H2.out) hn).mono ?_
  rintro e w1 ⟨rfl, b1⟩
  have B1 := Lib.hid b1
  clear b1 r0 r1 r2 r3 r4 r5 r6 r7 r8 p0 p1 p2
  go_wp2_with fail
  exact HK.out _ _ _ _ _ _ _ B1.out
set_option maxRecDepth 100000 in
set_option maxHeartbeats 16000000 in
theorem setReg19 (p s : Int) (st sk re fe ag : Bool) (c sl : Int) (A : Option Addr) (n u : Nat) (A' : Option Addr) (n' u' : Nat) (pl : Int) (xs ys : List Int) (W : World) (ra pa : Nat) (hr : Has W ra [.int .i64 p, .int .i64 s, .bool st, .bool sk, .bool re, .bool fe, .bool ag, .int .i64 c, .int .i64 sl]) (hp : Has W pa [.slice A n u, .slice A' n' u', .int .i64 pl]) (h1 : Ints W W.heap.size A n u xs) (h2 : Ints W W.heap.size A' n' u' ys) (hn : n ≤ 4294967296) {K : Act → World → Prop} {Q' : Exit → Act → World → Prop} {t0 t1 t2 t4 t5 t6 t7 t8 t9 t11 t12 t13 t14 t15 t16 t17 t18 t19 t20 t21 t22 t23 t24 t25 t26 t27 t28 t29 t30 t31 t32 t33 t34 t35 t36 t37 t38 t39 t40 t41 t42 t43 t44 t45 t46 t47 t48 t49 t50 t51 t52 t53 t54 t55 t56 t57 t58 t59 t60 t61 t62 t63 t64 t65 t66 t67 t68 t69 t70 t71 t72 t73 t74 t75 t76 t77 t78 t79 t80 t81 t82 t83 t84 t85 t86 t87 t88 t89 t90 t91 t92 t93 t94 t95 t96 t97 t98 t99 t100 t101 t102 t103 t104 t105 t106 t107 t108 t109 t110 t111 t112 t113 t114 t115 t116 t117 t118 t119 t120 t121 t122 t123 t124 t125 t126 t127 t128 t129 t130 t131 t132 t133 t134 t135 t136 t137 t138 t139 t140 t141 t142 t143 t144 t145 t146 t147 t148 t149 t150 t151 t152 t153 t154 t155 t156 t157 t158 t159 t160 t161 t162 t163 t164 t165 t166 t167 t168 t169 t170 t171 t172 t173 t174 t175 t176 t177 t178 t179 t180 t181 t182 t183 t184 t185 t186 t187 t188 t189 t190 t191 t192 t193 t194 t195 t196 t197 t198 t199 t200 t201 t202 t203 t204 t205 t206 t207 t208 t209 t210 t211 t212 t213 t214 t215 t216 t217 t218 t219 t220 t221 t222 t223 t224 t225 t226 t227 t228 t229 t230 t231 t232 t233 t234 t235 t236 t237 t238 t239 t240 t241 t242 t243 t244 t245 t246 t247 t248 t249 t250 t251 t252 t253 : Value} {ds : List Deferred}
    (hK : ∀ (u170 u171 u172 u173 u174 u175 : Value) w', Below W.heap.size W w' → K ⟨#[t0, t1, t2, .pointer (some ⟨ra, 0, none⟩), t4, t5, t6, t7, t8, t9, .pointer (some ⟨pa, 0, none⟩), t11, t12, t13, t14, t15, t16, t17, t18, t19, t20, t21, t22, t23, t24, t25, t26, t27, t28, t29, .int .i64 (valP (okP ⟨p, s, st, sk, re, fe, ag, c, sl⟩ xs ys pl) (leadP ys)), .int .i64 (codP (okP ⟨p, s, st, sk, re, fe, ag, c, sl⟩ xs ys pl)), t32, t33, t34, t35, t36, t37, t38, t39, t40, t41, t42, t43, t44, t45, t46, t47, t48, t49, t50, t51, t52, t53, t54, t55, t56, t57, t58, t59, t60, t61, t62, t63, t64, t65, t66, t67, t68, t69, t70, t71, t72, t73, t74, t75, t76, t77, t78, t79, t80, t81, t82, t83, t84, t85, t86, t87, t88, t89, t90, t91, t92, t93, t94, t95, t96, t97, t98, t99, t100, t101, t102, t103, t104, t105, t106, t107, t108, t109, t110, t111, t112, t113, t114, t115, t116, t117, t118, t119, t120, t121, t122, t123, t124, t125, t126, t127, t128, t129, t130, t131, t132, t133, t134, t135, t136, t137, t138, t139, t140, t141, t142, t143, t144, t145, t146, t147, t148, t149, t150, t151, t152, t153, t154, t155, t156, t157, t158, t159, t160, t161, t162, t163, t164, t165, t166, t167, t168, t169, u170, u171, u172, u173, u174, u175, t176, t177, t178, t179, t180, t181, t182, t183, t184, t185, t186, t187, t188, t189, t190, t191, t192, t193, t194, t195, t196, t197, t198, t199, t200, t201, t202, t203, t204, t205, t206, t207, t208, t209, t210, t211, t212, t213, t214, t215, t216, t217, t218, t219, t220, t221, t222, t223, t224, t225, t226, t227, t228, t229, t230, t231, t232, t233, t234, t235, t236, t237, t238, t239, t240, t241, t242, t243, t244, t245, t246, t247, t248, t249, t250, t251, t252, t253], ds⟩ w') :
    Code.wp Try.prog (findRegion 19 (Try.f17.body.getD .skip)) (Exit.then K Q') ⟨#[t0, t1, t2, .pointer (some ⟨ra, 0, none⟩), t4, t5, t6, t7, t8, t9, .pointer (some ⟨pa, 0, none⟩), t11, t12, t13, t14, t15, t16, t17, t18, t19, t20, t21, t22, t23, t24, t25, t26, t27, t28, t29, t30, t31, t32, t33, t34, t35, t36, t37, t38, t39, t40, t41, t42, t43, t44, t45, t46, t47, t48, t49, t50, t51, t52, t53, t54, t55, t56, t57, t58, t59, t60, t61, t62, t63, t64, t65, t66, t67, t68, t69, t70, t71, t72, t73, t74, t75, t76, t77, t78, t79, t80, t81, t82, t83, t84, t85, t86, t87, t88, t89, t90, t91, t92, t93, t94, t95, t96, t97, t98, t99, t100, t101, t102, t103, t104, t105, t106, t107, t108, t109, t110, t111, t112, t113, t114, t115, t116, t117, t118, t119, t120, t121, t122, t123, t124, t125, t126, t127, t128, t129, t130, t131, t132, t133, t134, t135, t136, t137, t138, t139, t140, t141, t142, t143, t144, t145, t146, t147, t148, t149, t150, t151, t152, t153, t154, t155, t156, t157, t158, t159, t160, t161, t162, t163, t164, t165, t166, t167, t168, t169, t170, t171, t172, t173, t174, t175, t176, t177, t178, t179, t180, t181, t182, t183, t184, t185, t186, t187, t188, t189, t190, t191, t192, t193, t194, t195, t196, t197, t198, t199, t200, t201, t202, t203, t204, t205, t206, t207, t208, t209, t210, t211, t212, t213, t214, t215, t216, t217, t218, t219, t220, t221, t222, t223, t224, t225, t226, t227, t228, t229, t230, t231, t232, t233, t234, t235, t236, t237, t238, t239, t240, t241, t242, t243, t244, t245, t246, t247, t248, t249, t250, t251, t252, t253], ds⟩ W := by
  simp only [Try.f17, findRegion, Option.getD, Nat.reduceEqDiff, if_true, if_false]
  have r0 := hr.at_ 0 rfl
  have r1 := hr.at_ 1 rfl
  have r2 := hr.at_ 2 rfl
  have r3 := hr.at_ 3 rfl
  have r4 := hr.at_ 4 rfl
  have r5 := hr.at_ 5 rfl
  have r6 := hr.at_ 6 rfl
  have r7 := hr.at_ 7 rfl
  have r8 := hr.at_ 8 rfl
  have p0 := hp.at_ 0 rfl
  have p1 := hp.at_ 1 rfl
  have p2 := hp.at_ 2 rfl
  have H1 := Lib.hid h1
  have H2 := Lib.hid h2
  have HK := Lib.hid hK
  clear hr hp h1 h2 hK
  go_wp2_with fail
  refine (LeadOf_any p s st sk re fe ag c sl A A' n u n' u' xs ys pl _ (by exact H1.out) (by exact H2.out) hn).mono ?_
  rintro e w1 ⟨rfl, b1⟩
  have B1 := Lib.hid b1
  clear b1 r0 r1 r2 r3 r4 r5 r6 r7 r8 p0 p1 p2
  go_wp2_with fail
  exact HK.out _ _ _ _ _ _ _ B1.out
set_option maxRecDepth 100000 in
set_option maxHeartbeats 16000000 in
theorem setReg22 (p s : Int) (st sk re fe ag : Bool) (c sl : Int) (A : Option Addr) (n u : Nat) (A' : Option Addr) (n' u' : Nat) (pl : Int) (xs ys : List Int) (W : World) (ra pa : Nat) (hr : Has W ra [.int .i64 p, .int .i64 s, .bool st, .bool sk, .bool re, .bool fe, .bool ag, .int .i64 c, .int .i64 sl]) (hp : Has W pa [.slice A n u, .slice A' n' u', .int .i64 pl]) (h1 : Ints W W.heap.size A n u xs) (h2 : Ints W W.heap.size A' n' u' ys) (hn : n ≤ 4294967296) {K : Act → World → Prop} {Q' : Exit → Act → World → Prop} {t0 t1 t2 t4 t5 t6 t7 t8 t9 t11 t12 t13 t14 t15 t16 t17 t18 t19 t20 t21 t22 t23 t24 t25 t26 t27 t28 t29 t30 t31 t32 t33 t34 t35 t36 t37 t38 t39 t40 t41 t42 t43 t44 t45 t46 t47 t48 t49 t50 t51 t52 t53 t54 t55 t56 t57 t58 t59 t60 t61 t62 t63 t64 t65 t66 t67 t68 t69 t70 t71 t72 t73 t74 t75 t76 t77 t78 t79 t80 t81 t82 t83 t84 t85 t86 t87 t88 t89 t90 t91 t92 t93 t94 t95 t96 t97 t98 t99 t100 t101 t102 t103 t104 t105 t106 t107 t108 t109 t110 t111 t112 t113 t114 t115 t116 t117 t118 t119 t120 t121 t122 t123 t124 t125 t126 t127 t128 t129 t130 t131 t132 t133 t134 t135 t136 t137 t138 t139 t140 t141 t142 t143 t144 t145 t146 t147 t148 t149 t150 t151 t152 t153 t154 t155 t156 t157 t158 t159 t160 t161 t162 t163 t164 t165 t166 t167 t168 t169 t170 t171 t172 t173 t174 t175 t176 t177 t178 t179 t180 t181 t182 t183 t184 t185 t186 t187 t188 t189 t190 t191 t192 t193 t194 t195 t196 t197 t198 t199 t200 t201 t202 t203 t204 t205 t206 t207 t208 t209 t210 t211 t212 t213 t214 t215 t216 t217 t218 t219 t220 t221 t222 t223 t224 t225 t226 t227 t228 t229 t230 t231 t232 t233 t234 t235 t236 t237 t238 t239 t240 t241 t242 t243 t244 t245 t246 t247 t248 t249 t250 t251 t252 t253 : Value} {ds : List Deferred}
    (hK : ∀ (u196 u197 u198 u199 u200 u201 : Value) w', Below W.heap.size W w' → K ⟨#[t0, t1, t2, .pointer (some ⟨ra, 0, none⟩), t4, t5, t6, t7, t8, t9, .pointer (some ⟨pa, 0, none⟩), t11, t12, t13, t14, t15, t16, t17, t18, t19, t20, t21, t22, t23, t24, t25, t26, t27, t28, t29, t30, t31, .int .i64 (valP (okP ⟨p, s, st, sk, re, fe, ag, c, sl⟩ xs ys pl) (majP xs ys)), .int .i64 (codP (okP ⟨p, s, st, sk, re, fe, ag, c, sl⟩ xs ys pl)), t34, t35, t36, t37, t38, t39, t40, t41, t42, t43, t44, t45, t46, t47, t48, t49, t50, t51, t52, t53, t54, t55, t56, t57, t58, t59, t60, t61, t62, t63, t64, t65, t66, t67, t68, t69, t70, t71, t72, t73, t74, t75, t76, t77, t78, t79, t80, t81, t82, t83, t84, t85, t86, t87, t88, t89, t90, t91, t92, t93, t94, t95, t96, t97, t98, t99, t100, t101, t102, t103, t104, t105, t106, t107, t108, t109, t110, t111, t112, t113, t114, t115, t116, t117, t118, t119, t120, t121, t122, t123, t124, t125, t126, t127, t128, t129, t130, t131, t132, t133, t134, t135, t136, t137, t138, t139, t140, t141, t142, t143, t144, t145, t146, t147, t148, t149, t150, t151, t152, t153, t154, t155, t156, t157, t158, t159, t160, t161, t162, t163, t164, t165, t166, t167, t168, t169, t170, t171, t172, t173, t174, t175, t176, t177, t178, t179, t180, t181, t182, t183, t184, t185, t186, t187, t188, t189, t190, t191, t192, t193, t194, t195, u196, u197, u198, u199, u200, u201, t202, t203, t204, t205, t206, t207, t208, t209, t210, t211, t212, t213, t214, t215, t216, t217, t218, t219, t220, t221, t222, t223, t224, t225, t226, t227, t228, t229, t230, t231, t232, t233, t234, t235, t236, t237, t238, t239, t240, t241, t242, t243, t244, t245, t246, t247, t248, t249, t250, t251, t252, t253], ds⟩ w') :
    Code.wp Try.prog (findRegion 22 (Try.f17.body.getD .skip)) (Exit.then K Q') ⟨#[t0, t1, t2, .pointer (some ⟨ra, 0, none⟩), t4, t5, t6, t7, t8, t9, .pointer (some ⟨pa, 0, none⟩), t11, t12, t13, t14, t15, t16, t17, t18, t19, t20, t21, t22, t23, t24, t25, t26, t27, t28, t29, t30, t31, t32, t33, t34, t35, t36, t37, t38, t39, t40, t41, t42, t43, t44, t45, t46, t47, t48, t49, t50, t51, t52, t53, t54, t55, t56, t57, t58, t59, t60, t61, t62, t63, t64, t65, t66, t67, t68, t69, t70, t71, t72, t73, t74, t75, t76, t77, t78, t79, t80, t81, t82, t83, t84, t85, t86, t87, t88, t89, t90, t91, t92, t93, t94, t95, t96, t97, t98, t99, t100, t101, t102, t103, t104, t105, t106, t107, t108, t109, t110, t111, t112, t113, t114, t115, t116, t117, t118, t119, t120, t121, t122, t123, t124, t125, t126, t127, t128, t129, t130, t131, t132, t133, t134, t135, t136, t137, t138, t139, t140, t141, t142, t143, t144, t145, t146, t147, t148, t149, t150, t151, t152, t153, t154, t155, t156, t157, t158, t159, t160, t161, t162, t163, t164, t165, t166, t167, t168, t169, t170, t171, t172, t173, t174, t175, t176, t177, t178, t179, t180, t181, t182, t183, t184, t185, t186, t187, t188, t189, t190, t191, t192, t193, t194, t195, t196, t197, t198, t199, t200, t201, t202, t203, t204, t205, t206, t207, t208, t209, t210, t211, t212, t213, t214, t215, t216, t217, t218, t219, t220, t221, t222, t223, t224, t225, t226, t227, t228, t229, t230, t231, t232, t233, t234, t235, t236, t237, t238, t239, t240, t241, t242, t243, t244, t245, t246, t247, t248, t249, t250, t251, t252, t253], ds⟩ W := by
  simp only [Try.f17, findRegion, Option.getD, Nat.reduceEqDiff, if_true, if_false]
  have r0 := hr.at_ 0 rfl
  have r1 := hr.at_ 1 rfl
  have r2 := hr.at_ 2 rfl
  have r3 := hr.at_ 3 rfl
  have r4 := hr.at_ 4 rfl
  have r5 := hr.at_ 5 rfl
  have r6 := hr.at_ 6 rfl
  have r7 := hr.at_ 7 rfl
  have r8 := hr.at_ 8 rfl
  have p0 := hp.at_ 0 rfl
  have p1 := hp.at_ 1 rfl
  have p2 := hp.at_ 2 rfl
  have H1 := Lib.hid h1
  have H2 := Lib.hid h2
  have HK := Lib.hid hK
  clear hr hp h1 h2 hK
  go_wp2_with fail
  refine (MajorityOf_any p s st sk re fe ag c sl A A' n u n' u' xs ys pl _ (by exact H1.out) (by exact H2.out) hn).mono ?_
  rintro e w1 ⟨rfl, b1⟩
  have B1 := Lib.hid b1
  clear b1 r0 r1 r2 r3 r4 r5 r6 r7 r8 p0 p1 p2
  go_wp2_with fail
  exact HK.out _ _ _ _ _ _ _ B1.out
end Go.Proofs.Ytnanaldolnehiaa
