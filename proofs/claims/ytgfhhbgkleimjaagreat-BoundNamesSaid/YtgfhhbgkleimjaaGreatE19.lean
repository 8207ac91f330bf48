/- What the machine finds at some of the calls, part 19. -/
import Derived.Test.YtgfhhbgkleimjaaGreatChk
namespace Go.Proofs.YtgfhhbgkleimjaaGreat

theorem e189_c : chk [e186] e189 = true := by kernel_rfl
theorem e190_c : chk [e189, e57] e190 = true := by kernel_rfl
theorem e191_c : chk [e190, e53] e191 = true := by kernel_rfl
theorem e192_c : chk [e188, e62, e61, e64, e191] e192 = true := by kernel_rfl
theorem e193_c : chk [e189, e57, e53] e193 = true := by kernel_rfl
theorem e194_c : chk [] e194 = true := by kernel_rfl
theorem e195_c : chk [] e195 = true := by kernel_rfl
theorem e196_c : chk [e194, e195] e196 = true := by kernel_rfl
theorem e197_c : chk [e42, e43, e75, e20, e76, e184, e185, e192, e193, e24, e189, e196] e197 = true := by kernel_rfl
theorem e198_c : chk [e2, e38, e41, e44, e197] e198 = true := by kernel_rfl
theorem e199_c : chk [e72, e74, e96, e105, e116, e125, e153, e154, e28, e34, e181, e104, e198] e199 = true := by kernel_rfl
theorem e200_c : chk [e0, e28, e34, e46, e47, e48, e70, e199] e200 = true := by kernel_rfl

end Go.Proofs.YtgfhhbgkleimjaaGreat
