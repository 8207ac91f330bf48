/- What the machine finds at some of the calls, part 12. -/
import Derived.Test.YtfmbgbicbpoolaaGreatChk
namespace Go.Proofs.YtfmbgbicbpoolaaGreat

theorem e227_c : chk [e0, e23, e38, e39, e49, e58, e64, e63, e65, e66, e67, e68, e69, e70, e9, e77, e82, e81, e84, e86, e85, e88, e89, e90, e95, e94, e83, e97, e96, e98, e100, e99, e101, e15, e113, e119, e118, e141, e145, e144, e156, e162, e161, e159, e183, e185, e184, e79, e189, e192, e191, e200, e202, e201, e207, e210, e209, e224, e226, e225] e227 = true := by kernel_rfl

end Go.Proofs.YtfmbgbicbpoolaaGreat
