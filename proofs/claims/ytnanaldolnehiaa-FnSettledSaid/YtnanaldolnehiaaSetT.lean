/-
  Regions of FnSettled, each alone.
-/
import Derived.Test.YtnanaldolnehiaaBentKit
import Derived.Test.YtnanaldolnehiaaGiveTop
import Derived.Test.YtnanaldolnehiaaSettleTop
import Derived.Test.YtnanaldolnehiaaMajor
import Derived.Test.YtnanaldolnehiaaLead
import Derived.Test.YtnanaldolnehiaaEnds
import Derived.Test.YtnanaldolnehiaaSame
set_option linter.unusedSimpArgs false
set_option linter.unusedVariables false
namespace Go.Proofs.Ytnanaldolnehiaa
open Go.ChangeShapes Go.WideShapes Go.RowKit Go.Deep

set_option maxRecDepth 100000 in
set_option maxHeartbeats 16000000 in
theorem setReg14 (c1 c2 v1 v2 v3 v4 v5 v6 P P2 : Int) (X Y X2 Y2 : List Int) (g6 g8 ga gb : Nat) (D D' : Option Addr) (mD eD mD' eD' : Nat) (E E' : Option Addr) (mE eE mE' eE' : Nat) (G G' : Option Addr) (mG eG mG' eG' : Nat) (H H' : Option Addr) (mH eH mH' eH' : Nat) (W : World) (hD : Has W g6 [.slice D mD eD, .slice D' mD' eD', .int .i64 P]) (iD : Ints W W.heap.size D mD eD X) (iD' : Ints W W.heap.size D' mD' eD' Y) (hE : Has W g8 [.slice E mE eE, .slice E' mE' eE', .int .i64 P]) (iE : Ints W W.heap.size E mE eE X) (iE' : Ints W W.heap.size E' mE' eE' Y) (hG : Has W ga [.slice G mG eG, .slice G' mG' eG', .int .i64 P2]) (iG : Ints W W.heap.size G mG eG X2) (iG' : Ints W W.heap.size G' mG' eG' Y2) (hH : Has W gb [.slice H mH eH, .slice H' mH' eH', .int .i64 P2]) (iH : Ints W W.heap.size H mH eH X2) (iH' : Ints W W.heap.size H' mH' eH' Y2) {K : Act → World → Prop} {Q' : Exit → Act → World → Prop} {t0 t1 t2 t3 t4 t5 t26 t27 t28 t29 t30 t31 t32 t33 t34 t35 t36 t37 t38 t39 t40 t41 t42 t43 t44 t45 t46 t47 t48 t49 t50 t51 t52 t53 t54 t55 t56 t57 t58 t59 t60 t61 t62 t63 t64 t65 t66 t67 t68 t69 t70 t71 t72 t73 t74 t75 t76 t77 t78 t79 t80 t81 t82 t83 t84 t85 t86 t87 t88 t89 t90 t91 t92 t93 t94 t95 t96 t97 t98 t99 t100 t101 t102 t103 t104 t105 t106 t107 t108 t109 t110 t111 t112 t113 t114 t115 t116 t117 t118 t119 t120 t121 t122 t123 t124 t125 t126 t127 t128 t129 t130 t131 t132 t133 t134 t135 t136 t137 t138 t139 t140 t141 t142 t143 t144 t145 t146 t147 t148 t149 t150 t151 t152 t153 t154 t155 t156 t157 t158 t159 t160 t161 t162 t163 t164 t165 t166 t167 t168 t169 t170 t171 t172 t173 t174 t175 t176 t177 t178 t179 t180 t181 t182 t183 t184 t185 t186 t187 t188 t189 t190 t191 t192 t193 t194 t195 t196 t197 t198 t199 t200 t201 t202 t203 t204 t205 t206 t207 t208 t209 t210 t211 t212 t213 t214 t215 t216 t217 t218 t219 t220 t221 t222 t223 t224 t225 t226 t227 t228 t229 t230 t231 t232 t233 t234 t235 t236 t237 t238 t239 t240 t241 t242 t243 t244 t245 t246 t247 t248 t249 t250 t251 t252 t253 : Value} {ds : List Deferred}
    (hK : ∀ (u106 u107 u108 u109 u110 u111 u112 u113 u114 u115 u116 u117 u118 u119 u120 u121 u122 u123 u124 u125 u126 u127 u128 u129 u130 u131 u132 u133 u134 u135 u136 u137 u138 u139 u140 u141 u142 u143 u144 u145 u146 u147 u148 u149 u150 u151 u152 u153 u154 : Value) w', Below W.heap.size W w' → K ⟨#[t0, t1, t2, t3, t4, t5, .pointer (some ⟨g6, 0, none⟩), .int .i64 c1, .pointer (some ⟨g8, 0, none⟩), .int .i64 c1, .pointer (some ⟨ga, 0, none⟩), .int .i64 c2, .pointer (some ⟨gb, 0, none⟩), .int .i64 c2, .int .i64 v1, .int .i64 v2, .int .i64 v1, .int .i64 v2, .int .i64 v3, .int .i64 v4, .int .i64 v3, .int .i64 v4, .int .i64 v5, .int .i64 v6, .int .i64 v5, .int .i64 v6, t26, t27, t28, t29, t30, t31, t32, t33, t34, t35, t36, t37, t38, t39, t40, t41, t42, t43, t44, t45, t46, t47, t48, t49, t50, t51, t52, t53, t54, t55, t56, t57, t58, t59, t60, t61, t62, t63, t64, t65, t66, t67, t68, t69, t70, t71, t72, t73, t74, t75, t76, t77, t78, t79, t80, t81, t82, t83, t84, t85, t86, t87, t88, t89, t90, t91, t92, t93, t94, t95, t96, t97, t98, t99, t100, t101, t102, t103, t104, t105, u106, u107, u108, u109, u110, u111, u112, u113, u114, u115, u116, u117, u118, u119, u120, u121, u122, u123, u124, u125, u126, u127, u128, u129, u130, u131, u132, u133, u134, u135, u136, u137, u138, u139, u140, u141, u142, u143, u144, u145, u146, u147, u148, u149, u150, u151, u152, u153, u154, .bool false, t156, t157, t158, t159, t160, t161, t162, t163, t164, t165, t166, t167, t168, t169, t170, t171, t172, t173, t174, t175, t176, t177, t178, t179, t180, t181, t182, t183, t184, t185, t186, t187, t188, t189, t190, t191, t192, t193, t194, t195, t196, t197, t198, t199, t200, t201, t202, t203, t204, t205, t206, t207, t208, t209, t210, t211, t212, t213, t214, t215, t216, t217, t218, t219, t220, t221, t222, t223, t224, t225, t226, t227, t228, t229, t230, t231, t232, t233, t234, t235, t236, t237, t238, t239, t240, t241, t242, t243, t244, t245, t246, t247, t248, t249, t250, t251, t252, t253], ds⟩ w') :
    Code.wp Try.prog (findRegion 14 (Try.f17.body.getD .skip)) (Exit.then K Q') ⟨#[t0, t1, t2, t3, t4, t5, .pointer (some ⟨g6, 0, none⟩), .int .i64 c1, .pointer (some ⟨g8, 0, none⟩), .int .i64 c1, .pointer (some ⟨ga, 0, none⟩), .int .i64 c2, .pointer (some ⟨gb, 0, none⟩), .int .i64 c2, .int .i64 v1, .int .i64 v2, .int .i64 v1, .int .i64 v2, .int .i64 v3, .int .i64 v4, .int .i64 v3, .int .i64 v4, .int .i64 v5, .int .i64 v6, .int .i64 v5, .int .i64 v6, t26, t27, t28, t29, t30, t31, t32, t33, t34, t35, t36, t37, t38, t39, t40, t41, t42, t43, t44, t45, t46, t47, t48, t49, t50, t51, t52, t53, t54, t55, t56, t57, t58, t59, t60, t61, t62, t63, t64, t65, t66, t67, t68, t69, t70, t71, t72, t73, t74, t75, t76, t77, t78, t79, t80, t81, t82, t83, t84, t85, t86, t87, t88, t89, t90, t91, t92, t93, t94, t95, t96, t97, t98, t99, t100, t101, t102, t103, t104, t105, t106, t107, t108, t109, t110, t111, t112, t113, t114, t115, t116, t117, t118, t119, t120, t121, t122, t123, t124, t125, t126, t127, t128, t129, t130, t131, t132, t133, t134, t135, t136, t137, t138, t139, t140, t141, t142, t143, t144, t145, t146, t147, t148, t149, t150, t151, t152, t153, t154, t155, t156, t157, t158, t159, t160, t161, t162, t163, t164, t165, t166, t167, t168, t169, t170, t171, t172, t173, t174, t175, t176, t177, t178, t179, t180, t181, t182, t183, t184, t185, t186, t187, t188, t189, t190, t191, t192, t193, t194, t195, t196, t197, t198, t199, t200, t201, t202, t203, t204, t205, t206, t207, t208, t209, t210, t211, t212, t213, t214, t215, t216, t217, t218, t219, t220, t221, t222, t223, t224, t225, t226, t227, t228, t229, t230, t231, t232, t233, t234, t235, t236, t237, t238, t239, t240, t241, t242, t243, t244, t245, t246, t247, t248, t249, t250, t251, t252, t253], ds⟩ W := by
  simp only [Try.f17, findRegion, Option.getD, Nat.reduceEqDiff, if_true, if_false]
  have d_0 := hD.at_ 0 rfl
  have d_1 := hD.at_ 1 rfl
  have d_2 := hD.at_ 2 rfl
  have e_0 := hE.at_ 0 rfl
  have e_1 := hE.at_ 1 rfl
  have e_2 := hE.at_ 2 rfl
  have ID := Lib.hid (show _ ∧ _ from ⟨iD, iD'⟩)
  have IE := Lib.hid (show _ ∧ _ from ⟨iE, iE'⟩)
  have IG := Lib.hid (show _ ∧ _ from ⟨iG, iG'⟩)
  have IH := Lib.hid (show _ ∧ _ from ⟨iH, iH'⟩)
  have HK := Lib.hid hK
  have rfl0 := Below.refl W.heap.size W
  have HG := Lib.hid hG
  have HH := Lib.hid hH
  clear hD hE hG hH iD iD' iE iE' iG iG' iH iH' hK
  go_wp2_with fail
  refine (specSamePosition_any _ _ _ _ _ _ _ _ _ _ _ _ X Y X Y _ _ _ (by exact ID.out.1.sub rfl0) (by exact ID.out.2.sub rfl0) (by exact IE.out.1.sub rfl0) (by exact IE.out.2.sub rfl0)).mono ?_
  rintro e w_ ⟨rfl, b_⟩
  rw [show sameP X Y P X Y P = true by simp [sameP]]
  have hG := HG.out.sub b_
  have hH := HH.out.sub b_
  have g_0 := hG.at_ 0 rfl
  have g_1 := hG.at_ 1 rfl
  have g_2 := hG.at_ 2 rfl
  have h_0 := hH.at_ 0 rfl
  have h_1 := hH.at_ 1 rfl
  have h_2 := hH.at_ 2 rfl
  clear hG hH d_0 d_1 d_2 e_0 e_1 e_2
  have B1 := Lib.hid b_
  clear b_
  go_wp2_with fail
  refine (specSamePosition_any _ _ _ _ _ _ _ _ _ _ _ _ X2 Y2 X2 Y2 _ _ _ (by exact IG.out.1.sub B1.out) (by exact IG.out.2.sub B1.out) (by exact IH.out.1.sub B1.out) (by exact IH.out.2.sub B1.out)).mono ?_
  rintro e w_ ⟨rfl, b_⟩
  rw [show sameP X2 Y2 P2 X2 Y2 P2 = true by simp [sameP]]
  have B2 := Lib.hid (B1.out.trans (b_.mono B1.out.size))
  clear b_ g_0 g_1 g_2 h_0 h_1 h_2
  go_wp2_with fail
  exact HK.out _ _ _ _ _ _ _ _ _ _ _ _ _ _ _ _ _ _ _ _ _ _ _ _ _ _ _ _ _ _ _ _ _ _ _ _ _ _ _ _ _ _ _ _ _ _ _ _ _ _ B2.out
set_option maxRecDepth 100000 in
set_option maxHeartbeats 16000000 in
theorem setReg20 (P : Int) (X Y : List Int) (g6 g8 : Nat) (D D' : Option Addr) (mD eD mD' eD' : Nat) (E E' : Option Addr) (mE eE mE' eE' : Nat) (W : World) (hD : Has W g6 [.slice D mD eD, .slice D' mD' eD', .int .i64 P]) (iD : Ints W W.heap.size D mD eD X) (iD' : Ints W W.heap.size D' mD' eD' Y) (hE : Has W g8 [.slice E mE eE, .slice E' mE' eE', .int .i64 P]) (iE : Ints W W.heap.size E mE eE X) (iE' : Ints W W.heap.size E' mE' eE' Y) {K : Act → World → Prop} {Q' : Exit → Act → World → Prop} {t0 t1 t2 t3 t4 t5 t6 t7 t8 t9 t11 t12 t13 t14 t15 t16 t17 t18 t19 t20 t21 t22 t23 t24 t25 t30 t32 t33 t34 t35 t36 t37 t38 t39 t40 t41 t42 t43 t44 t45 t46 t47 t48 t49 t50 t51 t52 t53 t54 t55 t56 t57 t58 t59 t60 t61 t62 t63 t64 t65 t66 t67 t68 t69 t70 t71 t72 t73 t74 t75 t76 t77 t78 t79 t80 t81 t82 t83 t84 t85 t86 t87 t88 t89 t90 t91 t92 t93 t94 t95 t96 t97 t98 t99 t100 t101 t102 t103 t104 t105 t106 t107 t108 t109 t110 t111 t112 t113 t114 t115 t116 t117 t118 t119 t120 t121 t122 t123 t124 t125 t126 t127 t128 t129 t130 t131 t132 t133 t134 t135 t136 t137 t138 t139 t140 t141 t142 t143 t144 t145 t146 t147 t148 t149 t150 t151 t152 t153 t154 t155 t156 t157 t158 t159 t160 t161 t162 t163 t164 t165 t166 t167 t168 t169 t170 t171 t172 t173 t174 t175 t176 t177 t178 t179 t180 t181 t182 t183 t184 t185 t186 t187 t188 t189 t190 t191 t192 t193 t194 t195 t196 t197 t198 t199 t200 t201 t202 t203 t204 t205 t206 t207 t208 t209 t210 t211 t212 t213 t214 t215 t216 t217 t218 t219 t220 t221 t222 t223 t224 t225 t226 t227 t228 t229 t230 t231 t232 t233 t234 t235 t236 t237 t238 t239 t240 t241 t242 t243 t244 t245 t246 t247 t248 t249 t250 t251 t252 t253 : Value} {ds : List Deferred}
    (hK : ∀ (u176 u177 u178 u179 u180 u181 u182 u183 u184 u185 u186 u187 u188 u189 u190 u191 u192 u193 u194 : Value) w', Below W.heap.size W w' → K ⟨#[t0, t1, t2, t3, t4, t5, t6, t7, t8, t9, .pointer (some ⟨g8, 0, none⟩), t11, t12, t13, t14, t15, t16, t17, t18, t19, t20, t21, t22, t23, t24, t25, .pointer (some ⟨g6, 0, none⟩), .int .i64 0, .int .i64 0, .int .i64 0, t30, .int .i64 0, t32, t33, t34, t35, t36, t37, t38, t39, t40, t41, t42, t43, t44, t45, t46, t47, t48, t49, t50, t51, t52, t53, t54, t55, t56, t57, t58, t59, t60, t61, t62, t63, t64, t65, t66, t67, t68, t69, t70, t71, t72, t73, t74, t75, t76, t77, t78, t79, t80, t81, t82, t83, t84, t85, t86, t87, t88, t89, t90, t91, t92, t93, t94, t95, t96, t97, t98, t99, t100, t101, t102, t103, t104, t105, t106, t107, t108, t109, t110, t111, t112, t113, t114, t115, t116, t117, t118, t119, t120, t121, t122, t123, t124, t125, t126, t127, t128, t129, t130, t131, t132, t133, t134, t135, t136, t137, t138, t139, t140, t141, t142, t143, t144, t145, t146, t147, t148, t149, t150, t151, t152, t153, t154, t155, t156, t157, t158, t159, t160, t161, t162, t163, t164, t165, t166, t167, t168, t169, t170, t171, t172, t173, t174, t175, u176, u177, u178, u179, u180, u181, u182, u183, u184, u185, u186, u187, u188, u189, u190, u191, u192, u193, u194, .bool false, t196, t197, t198, t199, t200, t201, t202, t203, t204, t205, t206, t207, t208, t209, t210, t211, t212, t213, t214, t215, t216, t217, t218, t219, t220, t221, t222, t223, t224, t225, t226, t227, t228, t229, t230, t231, t232, t233, t234, t235, t236, t237, t238, t239, t240, t241, t242, t243, t244, t245, t246, t247, t248, t249, t250, t251, t252, t253], ds⟩ w') :
    Code.wp Try.prog (findRegion 20 (Try.f17.body.getD .skip)) (Exit.then K Q') ⟨#[t0, t1, t2, t3, t4, t5, t6, t7, t8, t9, .pointer (some ⟨g8, 0, none⟩), t11, t12, t13, t14, t15, t16, t17, t18, t19, t20, t21, t22, t23, t24, t25, .pointer (some ⟨g6, 0, none⟩), .int .i64 0, .int .i64 0, .int .i64 0, t30, .int .i64 0, t32, t33, t34, t35, t36, t37, t38, t39, t40, t41, t42, t43, t44, t45, t46, t47, t48, t49, t50, t51, t52, t53, t54, t55, t56, t57, t58, t59, t60, t61, t62, t63, t64, t65, t66, t67, t68, t69, t70, t71, t72, t73, t74, t75, t76, t77, t78, t79, t80, t81, t82, t83, t84, t85, t86, t87, t88, t89, t90, t91, t92, t93, t94, t95, t96, t97, t98, t99, t100, t101, t102, t103, t104, t105, t106, t107, t108, t109, t110, t111, t112, t113, t114, t115, t116, t117, t118, t119, t120, t121, t122, t123, t124, t125, t126, t127, t128, t129, t130, t131, t132, t133, t134, t135, t136, t137, t138, t139, t140, t141, t142, t143, t144, t145, t146, t147, t148, t149, t150, t151, t152, t153, t154, t155, t156, t157, t158, t159, t160, t161, t162, t163, t164, t165, t166, t167, t168, t169, t170, t171, t172, t173, t174, t175, t176, t177, t178, t179, t180, t181, t182, t183, t184, t185, t186, t187, t188, t189, t190, t191, t192, t193, t194, t195, t196, t197, t198, t199, t200, t201, t202, t203, t204, t205, t206, t207, t208, t209, t210, t211, t212, t213, t214, t215, t216, t217, t218, t219, t220, t221, t222, t223, t224, t225, t226, t227, t228, t229, t230, t231, t232, t233, t234, t235, t236, t237, t238, t239, t240, t241, t242, t243, t244, t245, t246, t247, t248, t249, t250, t251, t252, t253], ds⟩ W := by
  simp only [Try.f17, findRegion, Option.getD, Nat.reduceEqDiff, if_true, if_false]
  have d_0 := hD.at_ 0 rfl
  have d_1 := hD.at_ 1 rfl
  have d_2 := hD.at_ 2 rfl
  have e_0 := hE.at_ 0 rfl
  have e_1 := hE.at_ 1 rfl
  have e_2 := hE.at_ 2 rfl
  have ID := Lib.hid (show _ ∧ _ from ⟨iD, iD'⟩)
  have IE := Lib.hid (show _ ∧ _ from ⟨iE, iE'⟩)
  have HK := Lib.hid hK
  have rfl0 := Below.refl W.heap.size W
  clear hD hE iD iD' iE iE' hK
  go_wp2_with fail
  refine (specSamePosition_any _ _ _ _ _ _ _ _ _ _ _ _ X Y X Y _ _ _ (by exact ID.out.1.sub rfl0) (by exact ID.out.2.sub rfl0) (by exact IE.out.1.sub rfl0) (by exact IE.out.2.sub rfl0)).mono ?_
  rintro e w_ ⟨rfl, b_⟩
  rw [show sameP X Y P X Y P = true by simp [sameP]]
  have B1 := Lib.hid b_
  clear b_ d_0 d_1 d_2 e_0 e_1 e_2
  go_wp2_with fail
  exact HK.out _ _ _ _ _ _ _ _ _ _ _ _ _ _ _ _ _ _ _ _ B1.out
set_option maxRecDepth 100000 in
set_option maxHeartbeats 16000000 in
theorem setReg23 (m a : Int) (W : World) (hw : (m = 0 ∧ 0 < a) ∨ (m = 1 ∧ a < 0) ∨ (m = -1 ∧ a = 0)) {K : Act → World → Prop} {Q' : Exit → Act → World → Prop} {t0 t1 t2 t3 t4 t5 t6 t7 t8 t9 t10 t11 t12 t13 t14 t15 t16 t17 t18 t19 t20 t21 t22 t23 t24 t25 t26 t27 t28 t29 t31 t34 t35 t36 t37 t38 t39 t40 t41 t42 t43 t44 t45 t46 t47 t48 t49 t50 t51 t52 t53 t54 t55 t56 t57 t58 t59 t60 t61 t62 t63 t64 t65 t66 t67 t68 t69 t70 t71 t72 t73 t74 t75 t76 t77 t78 t79 t80 t81 t82 t83 t84 t85 t86 t87 t88 t89 t90 t91 t92 t93 t94 t95 t96 t97 t98 t99 t100 t101 t102 t103 t104 t105 t106 t107 t108 t109 t110 t111 t112 t113 t114 t115 t116 t117 t118 t119 t120 t121 t122 t123 t124 t125 t126 t127 t128 t129 t130 t131 t132 t133 t134 t135 t136 t137 t138 t139 t140 t141 t142 t143 t144 t145 t146 t147 t148 t149 t150 t151 t152 t153 t154 t155 t156 t157 t158 t159 t160 t161 t162 t163 t164 t165 t166 t167 t168 t169 t170 t171 t172 t173 t174 t175 t176 t177 t178 t179 t180 t181 t182 t183 t184 t185 t186 t187 t188 t189 t190 t191 t192 t193 t194 t195 t196 t197 t198 t199 t200 t201 t202 t203 t204 t205 t206 t207 t208 t209 t210 t211 t212 t213 t214 t215 t216 t217 t218 t219 t220 t221 t222 t223 t224 t225 t226 t227 t228 t229 t230 t231 t232 t233 t234 t235 t236 t237 t238 t239 t240 t241 t242 t243 t244 t245 t246 t247 t248 t249 t250 t251 t252 t253 : Value} {ds : List Deferred}
    (hK : ∀ (u202 u203 u204 u205 u206 u207 u208 u209 u210 u211 u212 u213 u214 u215 u216 : Value), K ⟨#[t0, t1, t2, t3, t4, t5, t6, t7, t8, t9, t10, t11, t12, t13, t14, t15, t16, t17, t18, t19, t20, t21, t22, t23, t24, t25, t26, t27, t28, t29, .int .i64 a, t31, .int .i64 m, .int .i64 0, t34, t35, t36, t37, t38, t39, t40, t41, t42, t43, t44, t45, t46, t47, t48, t49, t50, t51, t52, t53, t54, t55, t56, t57, t58, t59, t60, t61, t62, t63, t64, t65, t66, t67, t68, t69, t70, t71, t72, t73, t74, t75, t76, t77, t78, t79, t80, t81, t82, t83, t84, t85, t86, t87, t88, t89, t90, t91, t92, t93, t94, t95, t96, t97, t98, t99, t100, t101, t102, t103, t104, t105, t106, t107, t108, t109, t110, t111, t112, t113, t114, t115, t116, t117, t118, t119, t120, t121, t122, t123, t124, t125, t126, t127, t128, t129, t130, t131, t132, t133, t134, t135, t136, t137, t138, t139, t140, t141, t142, t143, t144, t145, t146, t147, t148, t149, t150, t151, t152, t153, t154, t155, t156, t157, t158, t159, t160, t161, t162, t163, t164, t165, t166, t167, t168, t169, t170, t171, t172, t173, t174, t175, t176, t177, t178, t179, t180, t181, t182, t183, t184, t185, t186, t187, t188, t189, t190, t191, t192, t193, t194, t195, t196, t197, t198, t199, t200, t201, u202, u203, u204, u205, u206, u207, u208, u209, u210, u211, u212, u213, u214, u215, u216, .bool false, t218, t219, t220, t221, t222, t223, t224, t225, t226, t227, t228, t229, t230, t231, t232, t233, t234, t235, t236, t237, t238, t239, t240, t241, t242, t243, t244, t245, t246, t247, t248, t249, t250, t251, t252, t253], ds⟩ W) :
    Code.wp Try.prog (findRegion 23 (Try.f17.body.getD .skip)) (Exit.then K Q') ⟨#[t0, t1, t2, t3, t4, t5, t6, t7, t8, t9, t10, t11, t12, t13, t14, t15, t16, t17, t18, t19, t20, t21, t22, t23, t24, t25, t26, t27, t28, t29, .int .i64 a, t31, .int .i64 m, .int .i64 0, t34, t35, t36, t37, t38, t39, t40, t41, t42, t43, t44, t45, t46, t47, t48, t49, t50, t51, t52, t53, t54, t55, t56, t57, t58, t59, t60, t61, t62, t63, t64, t65, t66, t67, t68, t69, t70, t71, t72, t73, t74, t75, t76, t77, t78, t79, t80, t81, t82, t83, t84, t85, t86, t87, t88, t89, t90, t91, t92, t93, t94, t95, t96, t97, t98, t99, t100, t101, t102, t103, t104, t105, t106, t107, t108, t109, t110, t111, t112, t113, t114, t115, t116, t117, t118, t119, t120, t121, t122, t123, t124, t125, t126, t127, t128, t129, t130, t131, t132, t133, t134, t135, t136, t137, t138, t139, t140, t141, t142, t143, t144, t145, t146, t147, t148, t149, t150, t151, t152, t153, t154, t155, t156, t157, t158, t159, t160, t161, t162, t163, t164, t165, t166, t167, t168, t169, t170, t171, t172, t173, t174, t175, t176, t177, t178, t179, t180, t181, t182, t183, t184, t185, t186, t187, t188, t189, t190, t191, t192, t193, t194, t195, t196, t197, t198, t199, t200, t201, t202, t203, t204, t205, t206, t207, t208, t209, t210, t211, t212, t213, t214, t215, t216, t217, t218, t219, t220, t221, t222, t223, t224, t225, t226, t227, t228, t229, t230, t231, t232, t233, t234, t235, t236, t237, t238, t239, t240, t241, t242, t243, t244, t245, t246, t247, t248, t249, t250, t251, t252, t253], ds⟩ W := by
  simp only [Try.f17, findRegion, Option.getD, Nat.reduceEqDiff, if_true, if_false]
  have HK := Lib.hid hK
  clear hK
  rcases hw with ⟨rfl, ha⟩ | ⟨rfl, ha⟩ | ⟨rfl, rfl⟩
  · have ha2 : ¬ a < 0 := by omega
    go_wp2_with fail
    exact HK.out _ _ _ _ _ _ _ _ _ _ _ _ _ _ _
  · have ha2 : ¬ 0 < a := by omega
    go_wp2_with fail
    exact HK.out _ _ _ _ _ _ _ _ _ _ _ _ _ _ _
  · go_wp2_with fail
    exact HK.out _ _ _ _ _ _ _ _ _ _ _ _ _ _ _
set_option maxRecDepth 100000 in
set_option maxHeartbeats 16000000 in
theorem setReg27 (n m q P P2 : Int) (D E : Option Addr) (mD eD mE eE : Nat) (D' E' : Option Addr) (eD' eE' : Nat) (x0 x1 y0 y1 : Int) (W : World) (g6 pa : Nat) (hD : Has W g6 [.slice D mD eD, .slice D' 2 eD', .int .i64 P]) (hE : Has W pa [.slice E mE eE, .slice E' 2 eE', .int .i64 P2]) (iD : Ints W W.heap.size D' 2 eD' [x0, x1]) (iE : Ints W W.heap.size E' 2 eE' [y0, y1]) (hnm : (n = 0 ∧ m = q) ∨ (¬ n = 0 ∧ ¬ m = q)) (hq : (q = 0 ∧ x1 = y1 ∧ y0 ≤ x0) ∨ (q = 1 ∧ x0 = y0 ∧ y1 ≤ x1)) {K : Act → World → Prop} {Q' : Exit → Act → World → Prop} {t0 t1 t2 t3 t7 t8 t9 t10 t11 t12 t13 t15 t16 t17 t19 t20 t21 t22 t23 t24 t25 t26 t27 t28 t29 t30 t31 t32 t33 t34 t35 t36 t37 t38 t39 t40 t41 t42 t43 t44 t45 t46 t47 t48 t49 t50 t51 t52 t53 t54 t55 t56 t57 t58 t59 t60 t61 t62 t63 t64 t65 t66 t67 t68 t69 t70 t71 t72 t73 t74 t75 t76 t77 t78 t79 t80 t81 t82 t83 t84 t85 t86 t87 t88 t89 t90 t91 t92 t93 t94 t95 t96 t97 t98 t99 t100 t101 t102 t103 t104 t105 t106 t107 t108 t109 t110 t111 t112 t113 t114 t115 t116 t117 t118 t119 t120 t121 t122 t123 t124 t125 t126 t127 t128 t129 t130 t131 t132 t133 t134 t135 t136 t137 t138 t139 t140 t141 t142 t143 t144 t145 t146 t147 t148 t149 t150 t151 t152 t153 t154 t155 t156 t157 t158 t159 t160 t161 t162 t163 t164 t165 t166 t167 t168 t169 t170 t171 t172 t173 t174 t175 t176 t177 t178 t179 t180 t181 t182 t183 t184 t185 t186 t187 t188 t189 t190 t191 t192 t193 t194 t195 t196 t197 t198 t199 t200 t201 t202 t203 t204 t205 t206 t207 t208 t209 t210 t211 t212 t213 t214 t215 t216 t217 t218 t219 t220 t221 t222 t223 t224 t225 t226 t227 t228 t229 t230 t231 t232 t233 t234 t235 t236 t237 t238 t239 t240 t241 t242 t243 t244 t245 t246 t247 t248 t249 t250 t251 t252 t253 : Value} {ds : List Deferred}
    (hK : ∀ (u220 u221 u222 u223 u224 u225 u226 u227 u228 u229 u230 u231 u232 u233 u234 u235 u236 u237 u238 u239 u240 u241 u242 u243 u244 u245 u246 u247 u248 u249 u250 u251 u252 u253 : Value) (k : Nat), K ⟨#[t0, t1, .bool true, t3, .pointer (some ⟨pa, 0, none⟩), .int .i64 q, .pointer (some ⟨g6, 0, none⟩), t7, t8, t9, t10, t11, t12, t13, .int .i64 n, t15, t16, t17, .int .i64 m, t19, t20, t21, t22, t23, t24, t25, t26, t27, t28, t29, t30, t31, t32, t33, t34, t35, t36, t37, t38, t39, t40, t41, t42, t43, t44, t45, t46, t47, t48, t49, t50, t51, t52, t53, t54, t55, t56, t57, t58, t59, t60, t61, t62, t63, t64, t65, t66, t67, t68, t69, t70, t71, t72, t73, t74, t75, t76, t77, t78, t79, t80, t81, t82, t83, t84, t85, t86, t87, t88, t89, t90, t91, t92, t93, t94, t95, t96, t97, t98, t99, t100, t101, t102, t103, t104, t105, t106, t107, t108, t109, t110, t111, t112, t113, t114, t115, t116, t117, t118, t119, t120, t121, t122, t123, t124, t125, t126, t127, t128, t129, t130, t131, t132, t133, t134, t135, t136, t137, t138, t139, t140, t141, t142, t143, t144, t145, t146, t147, t148, t149, t150, t151, t152, t153, t154, t155, t156, t157, t158, t159, t160, t161, t162, t163, t164, t165, t166, t167, t168, t169, t170, t171, t172, t173, t174, t175, t176, t177, t178, t179, t180, t181, t182, t183, t184, t185, t186, t187, t188, t189, t190, t191, t192, t193, t194, t195, t196, t197, t198, t199, t200, t201, t202, t203, t204, t205, t206, t207, t208, t209, t210, t211, t212, t213, t214, t215, t216, t217, t218, t219, u220, u221, u222, u223, u224, u225, u226, u227, u228, u229, u230, u231, u232, u233, u234, u235, u236, u237, u238, u239, u240, u241, u242, u243, u244, u245, u246, u247, u248, u249, u250, u251, u252, u253], ds⟩ (W.drewN k)) :
    Code.wp Try.prog (findRegion 27 (Try.f17.body.getD .skip)) (Exit.then K Q') ⟨#[t0, t1, t2, t3, .pointer (some ⟨pa, 0, none⟩), .int .i64 q, .pointer (some ⟨g6, 0, none⟩), t7, t8, t9, t10, t11, t12, t13, .int .i64 n, t15, t16, t17, .int .i64 m, t19, t20, t21, t22, t23, t24, t25, t26, t27, t28, t29, t30, t31, t32, t33, t34, t35, t36, t37, t38, t39, t40, t41, t42, t43, t44, t45, t46, t47, t48, t49, t50, t51, t52, t53, t54, t55, t56, t57, t58, t59, t60, t61, t62, t63, t64, t65, t66, t67, t68, t69, t70, t71, t72, t73, t74, t75, t76, t77, t78, t79, t80, t81, t82, t83, t84, t85, t86, t87, t88, t89, t90, t91, t92, t93, t94, t95, t96, t97, t98, t99, t100, t101, t102, t103, t104, t105, t106, t107, t108, t109, t110, t111, t112, t113, t114, t115, t116, t117, t118, t119, t120, t121, t122, t123, t124, t125, t126, t127, t128, t129, t130, t131, t132, t133, t134, t135, t136, t137, t138, t139, t140, t141, t142, t143, t144, t145, t146, t147, t148, t149, t150, t151, t152, t153, t154, t155, t156, t157, t158, t159, t160, t161, t162, t163, t164, t165, t166, t167, t168, t169, t170, t171, t172, t173, t174, t175, t176, t177, t178, t179, t180, t181, t182, t183, t184, t185, t186, t187, t188, t189, t190, t191, t192, t193, t194, t195, t196, t197, t198, t199, t200, t201, t202, t203, t204, t205, t206, t207, t208, t209, t210, t211, t212, t213, t214, t215, t216, t217, t218, t219, t220, t221, t222, t223, t224, t225, t226, t227, t228, t229, t230, t231, t232, t233, t234, t235, t236, t237, t238, t239, t240, t241, t242, t243, t244, t245, t246, t247, t248, t249, t250, t251, t252, t253], ds⟩ W := by
  simp only [Try.f17, findRegion, Option.getD, Nat.reduceEqDiff, if_true, if_false]
  have d_0 := hD.at_ 0 rfl
  have d_1 := hD.at_ 1 rfl
  have d_2 := hD.at_ 2 rfl
  have e_0 := hE.at_ 0 rfl
  have e_1 := hE.at_ 1 rfl
  have e_2 := hE.at_ 2 rfl
  obtain ⟨bb, oo, rfl, -, -⟩ := iD.at_ (by omega)
  obtain ⟨b2, o2, rfl, -, -⟩ := iE.at_ (by omega)
  obtain ⟨xx0, xx1⟩ := iD.two
  obtain ⟨yy0, yy1⟩ := iE.two
  have HK := Lib.hid hK
  clear hD hE iD iE hK
  rcases hq with ⟨rfl, rfl, hle⟩ | ⟨rfl, rfl, hle⟩
  · rcases hnm with ⟨rfl, rfl⟩ | ⟨hn0, hm0⟩
    · go_quiet (fail)
      exact HK.out _ _ _ _ _ _ _ _ _ _ _ _ _ _ _ _ _ _ _ _ _ _ _ _ _ _ _ _ _ _ _ _ _ _ _
    · have hn1 : (n == 0) = false := by simpa using hn0
      have hm1 : (m == 0) = false := by simpa using hm0
      go_quiet (fail)
      exact HK.out _ _ _ _ _ _ _ _ _ _ _ _ _ _ _ _ _ _ _ _ _ _ _ _ _ _ _ _ _ _ _ _ _ _ _
  · rcases hnm with ⟨rfl, rfl⟩ | ⟨hn0, hm0⟩
    · go_quiet (fail)
      exact HK.out _ _ _ _ _ _ _ _ _ _ _ _ _ _ _ _ _ _ _ _ _ _ _ _ _ _ _ _ _ _ _ _ _ _ _
    · have hn1 : (n == 0) = false := by simpa using hn0
      have hm1 : (m == 1) = false := by simpa using hm0
      go_quiet (fail)
      exact HK.out _ _ _ _ _ _ _ _ _ _ _ _ _ _ _ _ _ _ _ _ _ _ _ _ _ _ _ _ _ _ _ _ _ _ _
end Go.Proofs.Ytnanaldolnehiaa
