/- What the machine finds at some of the calls, part 2. -/
import Derived.Test.YtkghjjgefjjmmaaGreatChk
namespace Go.Proofs.YtkghjjgefjjmmaaGreat

theorem e9_c : chk [e8] e9 = true := by kernel_rfl

end Go.Proofs.YtkghjjgefjjmmaaGreat
