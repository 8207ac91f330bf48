/- What the machine finds at some of the calls, part 17. -/
import Derived.Test.YtoleinghkdelaaaGreatChk
namespace Go.Proofs.YtoleinghkdelaaaGreat

theorem e246_c : chk [] e246 = true := by kernel_rfl
theorem e247_c : chk [] e247 = true := by kernel_rfl
theorem e248_c : chk [] e248 = true := by kernel_rfl
theorem e249_c : chk [e245, e246, e247, e248] e249 = true := by kernel_rfl
theorem e250_c : chk [e249] e250 = true := by kernel_rfl
theorem e251_c : chk [e245, e246, e247, e248] e251 = true := by kernel_rfl
theorem e252_c : chk [e251] e252 = true := by kernel_rfl
theorem e253_c : chk [e245, e246, e247, e248] e253 = true := by kernel_rfl
theorem e254_c : chk [e253] e254 = true := by kernel_rfl
theorem e255_c : chk [e245, e246, e247, e248] e255 = true := by kernel_rfl
theorem e256_c : chk [e255] e256 = true := by kernel_rfl

end Go.Proofs.YtoleinghkdelaaaGreat
