/- What the machine finds at some of the calls, part 11. -/
import Derived.Test.YtfmbgbicbpoolaaGreatChk
namespace Go.Proofs.YtfmbgbicbpoolaaGreat

theorem e216_c : chk [e7] e216 = true := by kernel_rfl
theorem e217_c : chk [e216] e217 = true := by kernel_rfl
theorem e218_c : chk [e217, e138] e218 = true := by kernel_rfl
theorem e219_c : chk [e216] e219 = true := by kernel_rfl
theorem e220_c : chk [e219, e138] e220 = true := by kernel_rfl
theorem e221_c : chk [e220, e134] e221 = true := by kernel_rfl
theorem e222_c : chk [e218, e61, e60, e62, e221] e222 = true := by kernel_rfl
theorem e223_c : chk [e219, e138, e134] e223 = true := by kernel_rfl
theorem e224_c : chk [e209, e120, e213, e214, e215, e222, e223, e121, e219] e224 = true := by kernel_rfl
theorem e225_c : chk [e223, e214, e215] e225 = true := by kernel_rfl
theorem e226_c : chk [e225] e226 = true := by kernel_rfl

end Go.Proofs.YtfmbgbicbpoolaaGreat
