/- Each call has its answer. -/
import Derived.Test.YtghlchpignpibaaGreatE1
import Derived.Test.YtghlchpignpibaaGreatE2
import Derived.Test.YtghlchpignpibaaGreatE3
import Derived.Test.YtghlchpignpibaaGreatE4
import Derived.Test.YtghlchpignpibaaGreatE5
import Derived.Test.YtghlchpignpibaaGreatE6
import Derived.Test.YtghlchpignpibaaGreatE7
import Derived.Test.YtghlchpignpibaaGreatE8
import Derived.Test.YtghlchpignpibaaGreatE9
import Derived.Test.YtghlchpignpibaaGreatE10
import Derived.Test.YtghlchpignpibaaGreatE11
namespace Go.Proofs.YtghlchpignpibaaGreat

theorem e0_ok : Ok e0 := ent (nil) e0_c
theorem e1_ok : Ok e1 := ent (cons e0_ok nil) e1_c
theorem e2_ok : Ok e2 := ent (nil) e2_c
theorem e3_ok : Ok e3 := ent (nil) e3_c
theorem e4_ok : Ok e4 := ent (cons e3_ok nil) e4_c
theorem e5_ok : Ok e5 := ent (cons e2_ok (cons e4_ok nil)) e5_c
theorem e6_ok : Ok e6 := ent (nil) e6_c
theorem e7_ok : Ok e7 := ent (cons e6_ok nil) e7_c
theorem e8_ok : Ok e8 := ent (cons e7_ok nil) e8_c
theorem e9_ok : Ok e9 := ent (nil) e9_c
theorem e10_ok : Ok e10 := ent (nil) e10_c
theorem e11_ok : Ok e11 := ent (cons e6_ok nil) e11_c
theorem e12_ok : Ok e12 := ent (cons e11_ok nil) e12_c
theorem e13_ok : Ok e13 := ent (nil) e13_c
theorem e14_ok : Ok e14 := ent (cons e13_ok nil) e14_c
theorem e15_ok : Ok e15 := ent (cons e12_ok (cons e14_ok (cons e11_ok nil))) e15_c
theorem e16_ok : Ok e16 := ent (cons e8_ok (cons e9_ok (cons e10_ok (cons e15_ok nil)))) e16_c
theorem e17_ok : Ok e17 := ent (cons e1_ok (cons e5_ok (cons e16_ok nil))) e17_c
theorem e18_ok : Ok e18 := ent (nil) e18_c
theorem e19_ok : Ok e19 := ent (cons e18_ok nil) e19_c
theorem e20_ok : Ok e20 := ent (cons e8_ok (cons e14_ok (cons e7_ok nil))) e20_c
theorem e21_ok : Ok e21 := ent (cons e17_ok (cons e1_ok (cons e19_ok (cons e20_ok nil)))) e21_c
theorem e22_ok : Ok e22 := ent (cons e0_ok nil) e22_c
theorem e23_ok : Ok e23 := ent (cons e8_ok nil) e23_c
theorem e24_ok : Ok e24 := ent (cons e22_ok (cons e23_ok nil)) e24_c
theorem e25_ok : Ok e25 := ent (nil) e25_c
theorem e26_ok : Ok e26 := ent (cons e6_ok nil) e26_c
theorem e27_ok : Ok e27 := ent (cons e26_ok nil) e27_c
theorem e28_ok : Ok e28 := ent (cons e27_ok (cons e14_ok nil)) e28_c
theorem e29_ok : Ok e29 := ent (nil) e29_c
theorem e30_ok : Ok e30 := ent (cons e3_ok nil) e30_c
theorem e31_ok : Ok e31 := ent (cons e29_ok (cons e30_ok nil)) e31_c
theorem e32_ok : Ok e32 := ent (cons e28_ok (cons e31_ok nil)) e32_c
theorem e33_ok : Ok e33 := ent (cons e32_ok nil) e33_c
theorem e34_ok : Ok e34 := ent (cons e18_ok nil) e34_c
theorem e35_ok : Ok e35 := ent (cons e28_ok (cons e34_ok nil)) e35_c
theorem e36_ok : Ok e36 := ent (nil) e36_c
theorem e37_ok : Ok e37 := ent (cons e28_ok (cons e31_ok nil)) e37_c
theorem e38_ok : Ok e38 := ent (cons e37_ok nil) e38_c
theorem e39_ok : Ok e39 := ent (cons e28_ok (cons e34_ok nil)) e39_c
theorem e40_ok : Ok e40 := ent (nil) e40_c
theorem e41_ok : Ok e41 := ent (nil) e41_c
theorem e42_ok : Ok e42 := ent (cons e37_ok nil) e42_c
theorem e43_ok : Ok e43 := ent (nil) e43_c
theorem e44_ok : Ok e44 := ent (nil) e44_c
theorem e45_ok : Ok e45 := ent (cons e38_ok (cons e39_ok (cons e40_ok (cons e41_ok (cons e42_ok (cons e43_ok (cons e44_ok nil))))))) e45_c
theorem e46_ok : Ok e46 := ent (cons e33_ok (cons e35_ok (cons e36_ok (cons e45_ok nil)))) e46_c
theorem e47_ok : Ok e47 := ent (cons e12_ok nil) e47_c
theorem e48_ok : Ok e48 := ent (cons e8_ok nil) e48_c
theorem e49_ok : Ok e49 := ent (nil) e49_c
theorem e50_ok : Ok e50 := ent (cons e33_ok (cons e35_ok (cons e36_ok (cons e49_ok nil)))) e50_c
theorem e51_ok : Ok e51 := ent (cons e33_ok (cons e35_ok (cons e36_ok nil))) e51_c
theorem e52_ok : Ok e52 := ent (cons e47_ok (cons e48_ok nil)) e52_c
theorem e53_ok : Ok e53 := ent (nil) e53_c
theorem e54_ok : Ok e54 := ent (cons e12_ok nil) e54_c
theorem e55_ok : Ok e55 := ent (nil) e55_c
theorem e56_ok : Ok e56 := ent (cons e47_ok (cons e54_ok (cons e55_ok nil))) e56_c
theorem e57_ok : Ok e57 := ent (cons e47_ok (cons e48_ok (cons e53_ok (cons e56_ok nil)))) e57_c
theorem e58_ok : Ok e58 := ent (nil) e58_c
theorem e59_ok : Ok e59 := ent (nil) e59_c
theorem e60_ok : Ok e60 := ent (nil) e60_c
theorem e61_ok : Ok e61 := ent (nil) e61_c
theorem e62_ok : Ok e62 := ent (cons e58_ok (cons e59_ok (cons e60_ok (cons e61_ok nil)))) e62_c
theorem e63_ok : Ok e63 := ent (cons e62_ok nil) e63_c
theorem e64_ok : Ok e64 := ent (cons e58_ok (cons e59_ok (cons e60_ok (cons e61_ok nil)))) e64_c
theorem e65_ok : Ok e65 := ent (cons e33_ok (cons e35_ok (cons e36_ok (cons e41_ok (cons e38_ok (cons e42_ok (cons e43_ok (cons e44_ok (cons e39_ok nil))))))))) e65_c
theorem e66_ok : Ok e66 := ent (nil) e66_c
theorem e67_ok : Ok e67 := ent (cons e66_ok nil) e67_c
theorem e68_ok : Ok e68 := ent (nil) e68_c
theorem e69_ok : Ok e69 := ent (cons e27_ok (cons e26_ok nil)) e69_c
theorem e70_ok : Ok e70 := ent (cons e69_ok nil) e70_c
theorem e71_ok : Ok e71 := ent (nil) e71_c
theorem e72_ok : Ok e72 := ent (cons e71_ok nil) e72_c
theorem e73_ok : Ok e73 := ent (cons e29_ok (cons e72_ok nil)) e73_c
theorem e74_ok : Ok e74 := ent (cons e6_ok nil) e74_c
theorem e75_ok : Ok e75 := ent (cons e74_ok nil) e75_c
theorem e76_ok : Ok e76 := ent (cons e75_ok nil) e76_c
theorem e77_ok : Ok e77 := ent (nil) e77_c
theorem e78_ok : Ok e78 := ent (cons e74_ok nil) e78_c
theorem e79_ok : Ok e79 := ent (cons e78_ok nil) e79_c
theorem e80_ok : Ok e80 := ent (nil) e80_c
theorem e81_ok : Ok e81 := ent (cons e80_ok nil) e81_c
theorem e82_ok : Ok e82 := ent (cons e79_ok (cons e81_ok nil)) e82_c
theorem e83_ok : Ok e83 := ent (cons e76_ok (cons e43_ok (cons e77_ok (cons e82_ok nil)))) e83_c
theorem e84_ok : Ok e84 := ent (cons e78_ok (cons e81_ok nil)) e84_c
theorem e85_ok : Ok e85 := ent (nil) e85_c
theorem e86_ok : Ok e86 := ent (nil) e86_c
theorem e87_ok : Ok e87 := ent (cons e86_ok nil) e87_c
theorem e88_ok : Ok e88 := ent (cons e29_ok (cons e87_ok nil)) e88_c
theorem e89_ok : Ok e89 := ent (cons e37_ok (cons e66_ok (cons e28_ok (cons e27_ok (cons e68_ok (cons e70_ok (cons e73_ok (cons e83_ok (cons e84_ok (cons e85_ok (cons e78_ok (cons e88_ok nil)))))))))))) e89_c
theorem e90_ok : Ok e90 := ent (cons e76_ok (cons e81_ok nil)) e90_c
theorem e91_ok : Ok e91 := ent (cons e39_ok (cons e28_ok (cons e66_ok (cons e27_ok (cons e68_ok (cons e70_ok (cons e90_ok (cons e84_ok (cons e85_ok (cons e78_ok nil)))))))))) e91_c
theorem e92_ok : Ok e92 := ent (nil) e92_c
theorem e93_ok : Ok e93 := ent (nil) e93_c
theorem e94_ok : Ok e94 := ent (nil) e94_c
theorem e95_ok : Ok e95 := ent (cons e92_ok (cons e93_ok (cons e94_ok (cons e68_ok nil)))) e95_c
theorem e96_ok : Ok e96 := ent (nil) e96_c
theorem e97_ok : Ok e97 := ent (cons e96_ok nil) e97_c
theorem e98_ok : Ok e98 := ent (cons e78_ok (cons e97_ok nil)) e98_c
theorem e99_ok : Ok e99 := ent (cons e98_ok (cons e88_ok nil)) e99_c
theorem e100_ok : Ok e100 := ent (cons e99_ok nil) e100_c
theorem e101_ok : Ok e101 := ent (nil) e101_c
theorem e102_ok : Ok e102 := ent (cons e101_ok nil) e102_c
theorem e103_ok : Ok e103 := ent (cons e98_ok (cons e102_ok nil)) e103_c
theorem e104_ok : Ok e104 := ent (cons e33_ok (cons e35_ok (cons e36_ok (cons e67_ok (cons e38_ok (cons e89_ok (cons e91_ok (cons e95_ok (cons e100_ok (cons e103_ok nil)))))))))) e104_c
theorem e105_ok : Ok e105 := ent (cons e32_ok (cons e66_ok (cons e28_ok (cons e27_ok (cons e68_ok (cons e70_ok (cons e73_ok (cons e83_ok (cons e84_ok (cons e85_ok (cons e78_ok (cons e88_ok nil)))))))))))) e105_c
theorem e106_ok : Ok e106 := ent (cons e35_ok (cons e28_ok (cons e66_ok (cons e27_ok (cons e68_ok (cons e70_ok (cons e90_ok (cons e84_ok (cons e85_ok (cons e78_ok nil)))))))))) e106_c
theorem e107_ok : Ok e107 := ent (cons e38_ok (cons e39_ok (cons e40_ok (cons e67_ok (cons e89_ok (cons e91_ok (cons e95_ok (cons e100_ok (cons e103_ok nil))))))))) e107_c
theorem e108_ok : Ok e108 := ent (cons e33_ok (cons e35_ok (cons e36_ok (cons e45_ok (cons e107_ok (cons e38_ok (cons e89_ok (cons e91_ok nil)))))))) e108_c
theorem e109_ok : Ok e109 := ent (cons e21_ok (cons e65_ok (cons e104_ok (cons e33_ok (cons e105_ok (cons e106_ok (cons e35_ok (cons e108_ok nil)))))))) e109_c
theorem e110_ok : Ok e110 := ent (cons e21_ok (cons e24_ok (cons e25_ok (cons e33_ok (cons e35_ok (cons e36_ok (cons e46_ok (cons e47_ok (cons e48_ok (cons e50_ok (cons e51_ok (cons e52_ok (cons e53_ok (cons e57_ok (cons e63_ok (cons e64_ok (cons e109_ok nil))))))))))))))))) e110_c

end Go.Proofs.YtghlchpignpibaaGreat
