import Derived.Test.YthaokoopmhgfiaaSnpK1
import Derived.Test.YthaokoopmhgfiaaSnpK2
import Derived.Test.YthaokoopmhgfiaaSnpK3
import Derived.Test.YthaokoopmhgfiaaSnpK4
set_option linter.unusedVariables false
set_option linter.unusedSimpArgs false
set_option linter.defProp false
noncomputable section
namespace Go.Proofs.Ythaokoopmhgfiaa
open Go.Sym Go.Abu Go.Pev
noncomputable def tabL : List (Nat × (K × List Sh)) := [(2, (k2, [])), (3, (k3, [.g, .g])), (4, (k4, [.g, .c, .c])), (5, (k5, [.g, .c])), (6, (k6, [])), (7, (k7, [.g])), (8, (k8, [.g])), (9, (k9, [.g])), (10, (k10, [.g, .g])), (11, (k11, [.g])), (12, (k12, [.g])), (13, (k13, [.c])), (14, (k14, [.c])), (15, (k15, [.c])), (16, (k16, [.c])), (17, (k17, [.g])), (18, (k18, [.c])), (19, (k19, [.g, .c])), (20, (k20, [.c, .c, .c])), (21, (k21, [.g])), (22, (k22, [.g, .g])), (23, (k23, [.g])), (24, (k24, [.g])), (25, (k25, [.c, .c])), (27, (k27, [.c])), (28, (k28, [.g])), (29, (k29, [.g])), (30, (k30, [.g])), (31, (k31, [.g, .g])), (32, (k32, [.g])), (33, (k33, [.g])), (35, (k35, [.c])), (36, (k36, [.c])), (37, (k37, [.g])), (38, (k38, [.g])), (39, (k39, [.g])), (40, (k40, [.g])), (41, (k41, [.c, .c])), (42, (k42, [.c])), (43, (k43, [.g])), (44, (k44, [.g])), (45, (k45, [.c])), (46, (k46, [.g])), (47, (k47, [.c, .c])), (48, (k48, [.c])), (49, (k49, [.c, .c, .c])), (50, (k50, [.c, .c])), (51, (k51, [.c]))]
noncomputable def tab : FuncId → Option (K × List Sh) := Go.Sym.look tabL
theorem tab_ok : TabOk D tab := by
 refine TabOk.look ?_;intro p hp;simp only [tabL, List.mem_cons, List.not_mem_nil, or_false] at hp;rcases hp with rfl | rfl | rfl | rfl | rfl | rfl | rfl | rfl | rfl | rfl | rfl | rfl | rfl | rfl | rfl | rfl | rfl | rfl | rfl | rfl | rfl | rfl | rfl | rfl | rfl | rfl | rfl | rfl | rfl | rfl | rfl | rfl | rfl | rfl | rfl | rfl | rfl | rfl | rfl | rfl | rfl | rfl | rfl | rfl | rfl | rfl | rfl | rfl
 ·exact ⟨⟨_, _, k2_ok⟩, s2⟩
 ·exact ⟨⟨_, _, k3_ok⟩, s3⟩
 ·exact ⟨⟨_, _, k4_ok⟩, s4⟩
 ·exact ⟨⟨_, _, k5_ok⟩, s5⟩
 ·exact ⟨⟨_, _, k6_ok⟩, s6⟩
 ·exact ⟨⟨_, _, k7_ok⟩, s7⟩
 ·exact ⟨⟨_, _, k8_ok⟩, s8⟩
 ·exact ⟨⟨_, _, k9_ok⟩, s9⟩
 ·exact ⟨⟨_, _, k10_ok⟩, s10⟩
 ·exact ⟨⟨_, _, k11_ok⟩, s11⟩
 ·exact ⟨⟨_, _, k12_ok⟩, s12⟩
 ·exact ⟨⟨_, _, k13_ok⟩, s13⟩
 ·exact ⟨⟨_, _, k14_ok⟩, s14⟩
 ·exact ⟨⟨_, _, k15_ok⟩, s15⟩
 ·exact ⟨⟨_, _, k16_ok⟩, s16⟩
 ·exact ⟨⟨_, _, k17_ok⟩, s17⟩
 ·exact ⟨⟨_, _, k18_ok⟩, s18⟩
 ·exact ⟨⟨_, _, k19_ok⟩, s19⟩
 ·exact ⟨⟨_, _, k20_ok⟩, s20⟩
 ·exact ⟨⟨_, _, k21_ok⟩, s21⟩
 ·exact ⟨⟨_, _, k22_ok⟩, s22⟩
 ·exact ⟨⟨_, _, k23_ok⟩, s23⟩
 ·exact ⟨⟨_, _, k24_ok⟩, s24⟩
 ·exact ⟨⟨_, _, k25_ok⟩, s25⟩
 ·exact ⟨⟨_, _, k27_ok⟩, s27⟩
 ·exact ⟨⟨_, _, k28_ok⟩, s28⟩
 ·exact ⟨⟨_, _, k29_ok⟩, s29⟩
 ·exact ⟨⟨_, _, k30_ok⟩, s30⟩
 ·exact ⟨⟨_, _, k31_ok⟩, s31⟩
 ·exact ⟨⟨_, _, k32_ok⟩, s32⟩
 ·exact ⟨⟨_, _, k33_ok⟩, s33⟩
 ·exact ⟨⟨_, _, k35_ok⟩, s35⟩
 ·exact ⟨⟨_, _, k36_ok⟩, s36⟩
 ·exact ⟨⟨_, _, k37_ok⟩, s37⟩
 ·exact ⟨⟨_, _, k38_ok⟩, s38⟩
 ·exact ⟨⟨_, _, k39_ok⟩, s39⟩
 ·exact ⟨⟨_, _, k40_ok⟩, s40⟩
 ·exact ⟨⟨_, _, k41_ok⟩, s41⟩
 ·exact ⟨⟨_, _, k42_ok⟩, s42⟩
 ·exact ⟨⟨_, _, k43_ok⟩, s43⟩
 ·exact ⟨⟨_, _, k44_ok⟩, s44⟩
 ·exact ⟨⟨_, _, k45_ok⟩, s45⟩
 ·exact ⟨⟨_, _, k46_ok⟩, s46⟩
 ·exact ⟨⟨_, _, k47_ok⟩, s47⟩
 ·exact ⟨⟨_, _, k48_ok⟩, s48⟩
 ·exact ⟨⟨_, _, k49_ok⟩, s49⟩
 ·exact ⟨⟨_, _, k50_ok⟩, s50⟩
 ·exact ⟨⟨_, _, k51_ok⟩, s51⟩
end Go.Proofs.Ythaokoopmhgfiaa
