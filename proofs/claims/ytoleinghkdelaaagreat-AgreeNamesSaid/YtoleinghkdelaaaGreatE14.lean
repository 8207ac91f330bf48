/- What the machine finds at some of the calls, part 14. -/
import Derived.Test.YtoleinghkdelaaaGreatChk
namespace Go.Proofs.YtoleinghkdelaaaGreat

theorem e207_c : chk [e21] e207 = true := by kernel_rfl
theorem e208_c : chk [e207] e208 = true := by kernel_rfl
theorem e209_c : chk [e208] e209 = true := by kernel_rfl
theorem e210_c : chk [] e210 = true := by kernel_rfl
theorem e211_c : chk [e210] e211 = true := by kernel_rfl
theorem e212_c : chk [e209, e211] e212 = true := by kernel_rfl
theorem e213_c : chk [e186, e188, e185, e202, e206, e212] e213 = true := by kernel_rfl

end Go.Proofs.YtoleinghkdelaaaGreat
