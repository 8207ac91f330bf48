/- What the machine finds at some of the calls, part 9. -/
import Derived.Test.YtfmbgbicbpoolaaGreatChk
namespace Go.Proofs.YtfmbgbicbpoolaaGreat

theorem e168_c : chk [e167] e168 = true := by kernel_rfl
theorem e169_c : chk [e168, e127] e169 = true := by kernel_rfl
theorem e170_c : chk [e167] e170 = true := by kernel_rfl
theorem e171_c : chk [e170, e127] e171 = true := by kernel_rfl
theorem e172_c : chk [e170, e167] e172 = true := by kernel_rfl
theorem e173_c : chk [e171, e172] e173 = true := by kernel_rfl
theorem e174_c : chk [e7] e174 = true := by kernel_rfl
theorem e175_c : chk [e174] e175 = true := by kernel_rfl
theorem e176_c : chk [e175] e176 = true := by kernel_rfl
theorem e177_c : chk [e176, e138] e177 = true := by kernel_rfl
theorem e178_c : chk [e174] e178 = true := by kernel_rfl
theorem e179_c : chk [e178, e138] e179 = true := by kernel_rfl
theorem e180_c : chk [e179, e134] e180 = true := by kernel_rfl
theorem e181_c : chk [e169, e62, e60, e61, e173, e177, e180] e181 = true := by kernel_rfl
theorem e182_c : chk [e178, e138, e134] e182 = true := by kernel_rfl

end Go.Proofs.YtfmbgbicbpoolaaGreat
