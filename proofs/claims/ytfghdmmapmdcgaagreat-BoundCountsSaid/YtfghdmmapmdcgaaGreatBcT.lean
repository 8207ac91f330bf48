import Derived.Test.YtfghdmmapmdcgaaGreatK1
import Derived.Test.YtfghdmmapmdcgaaGreatK2
import Derived.Test.YtfghdmmapmdcgaaGreatK3
import Derived.Test.YtfghdmmapmdcgaaGreatK4
set_option linter.unusedVariables false
set_option linter.unusedSimpArgs false
set_option linter.defProp false
noncomputable section
namespace Go.Proofs.YtfghdmmapmdcgaaGreat
open Go.Sym
def tab : List (Nat × K) := [(3,k3),(7,k7),(8,k8),(9,k9),(10,k10),(11,k11),(13,k13),(19,k19),(26,k26),(27,k27),(28,k28),(35,k35),(36,k36),(37,k37),(38,k38),(43,k43),(44,k44),(51,k51),(52,k52),(53,k53),(54,k54),(64,k64),(66,k66),(76,k76),(77,k77),(78,k78),(79,k79),(80,k80),(81,k81),(82,k82),(83,k83),(84,k84),(109,k109),(110,k110),(111,k111),(115,k115),(116,k116),(117,k117),(120,k120),(123,k123),(125,k125),(127,k127),(128,k128),(134,k134),(135,k135),(136,k136),(137,k137),(141,k141),(143,k143),(151,k151),(152,k152),(153,k153),(154,k154),(155,k155),(156,k156),(157,k157),(163,k163),(165,k165),(167,k167),(168,k168),(169,k169),(170,k170),(171,k171),(172,k172),(173,k173),(174,k174),(175,k175),(176,k176),(177,k177),(178,k178),(179,k179),(180,k180),(206,k206),(210,k210),(211,k211),(212,k212),(213,k213),(218,k218),(220,k220),(221,k221),(222,k222),(223,k223),(224,k224),(229,k229),(230,k230),(231,k231),(239,k239),(242,k242),(243,k243),(244,k244),(245,k245),(246,k246),(247,k247),(248,k248),(249,k249),(250,k250),(258,k258),(259,k259),(260,k260),(261,k261),(262,k262),(263,k263),(264,k264),(265,k265),(266,k266),(267,k267),(268,k268),(269,k269),(270,k270),(271,k271),(281,k281),(285,k285),(287,k287),(288,k288),(289,k289),(294,k294),(300,k300),(301,k301),(302,k302),(303,k303),(304,k304),(305,k305),(306,k306),(312,k312),(313,k313),(315,k315),(323,k323),(324,k324),(325,k325),(326,k326),(327,k327),(328,k328),(329,k329),(344,k344),(345,k345),(346,k346),(347,k347),(348,k348),(349,k349),(350,k350),(354,k354),(359,k359),(367,k367),(368,k368),(376,k376),(384,k384),(386,k386),(387,k387),(388,k388),(389,k389),(395,k395),(396,k396),(397,k397),(414,k414),(415,k415),(416,k416),(419,k419),(423,k423),(424,k424),(425,k425)]
theorem tab_ok : TabL D0 tab := .cons q3 (.cons q7 (.cons q8 (.cons q9 (.cons q10 (.cons q11 (.cons q13 (.cons q19 (.cons q26 (.cons q27 (.cons q28 (.cons q35 (.cons q36 (.cons q37 (.cons q38 (.cons q43 (.cons q44 (.cons q51 (.cons q52 (.cons q53 (.cons q54 (.cons q64 (.cons q66 (.cons q76 (.cons q77 (.cons q78 (.cons q79 (.cons q80 (.cons q81 (.cons q82 (.cons q83 (.cons q84 (.cons q109 (.cons q110 (.cons q111 (.cons q115 (.cons q116 (.cons q117 (.cons q120 (.cons q123 (.cons q125 (.cons q127 (.cons q128 (.cons q134 (.cons q135 (.cons q136 (.cons q137 (.cons q141 (.cons q143 (.cons q151 (.cons q152 (.cons q153 (.cons q154 (.cons q155 (.cons q156 (.cons q157 (.cons q163 (.cons q165 (.cons q167 (.cons q168 (.cons q169 (.cons q170 (.cons q171 (.cons q172 (.cons q173 (.cons q174 (.cons q175 (.cons q176 (.cons q177 (.cons q178 (.cons q179 (.cons q180 (.cons q206 (.cons q210 (.cons q211 (.cons q212 (.cons q213 (.cons q218 (.cons q220 (.cons q221 (.cons q222 (.cons q223 (.cons q224 (.cons q229 (.cons q230 (.cons q231 (.cons q239 (.cons q242 (.cons q243 (.cons q244 (.cons q245 (.cons q246 (.cons q247 (.cons q248 (.cons q249 (.cons q250 (.cons q258 (.cons q259 (.cons q260 (.cons q261 (.cons q262 (.cons q263 (.cons q264 (.cons q265 (.cons q266 (.cons q267 (.cons q268 (.cons q269 (.cons q270 (.cons q271 (.cons q281 (.cons q285 (.cons q287 (.cons q288 (.cons q289 (.cons q294 (.cons q300 (.cons q301 (.cons q302 (.cons q303 (.cons q304 (.cons q305 (.cons q306 (.cons q312 (.cons q313 (.cons q315 (.cons q323 (.cons q324 (.cons q325 (.cons q326 (.cons q327 (.cons q328 (.cons q329 (.cons q344 (.cons q345 (.cons q346 (.cons q347 (.cons q348 (.cons q349 (.cons q350 (.cons q354 (.cons q359 (.cons q367 (.cons q368 (.cons q376 (.cons q384 (.cons q386 (.cons q387 (.cons q388 (.cons q389 (.cons q395 (.cons q396 (.cons q397 (.cons q414 (.cons q415 (.cons q416 (.cons q419 (.cons q423 (.cons q424 (.cons q425 (.nil))))))))))))))))))))))))))))))))))))))))))))))))))))))))))))))))))))))))))))))))))))))))))))))))))))))))))))))))))))))))))))))))))))))))))))))))))))))))))))))))
def D : Dt := { D0 with T := Go.Sym.look tab, X := sortX 160 }
theorem tk {g : FuncId} {k : K} (h : Go.Sym.look tab g = some k) : Kok D g k := h
theorem k3_ok : Kok D 3 k3 := tk (by kernel_rfl)
theorem s3 : shs D.toDcf 3 = some ([.c, .g], 1) := by kernel_rfl
theorem k7_ok : Kok D 7 k7 := tk (by kernel_rfl)
theorem s7 : shs D.toDcf 7 = some ([.g], 1) := by kernel_rfl
theorem k8_ok : Kok D 8 k8 := tk (by kernel_rfl)
theorem s8 : shs D.toDcf 8 = some ([.c], 2) := by kernel_rfl
theorem k9_ok : Kok D 9 k9 := tk (by kernel_rfl)
theorem s9 : shs D.toDcf 9 = some ([.c], 2) := by kernel_rfl
theorem k10_ok : Kok D 10 k10 := tk (by kernel_rfl)
theorem s10 : shs D.toDcf 10 = some ([.g], 2) := by kernel_rfl
theorem k11_ok : Kok D 11 k11 := tk (by kernel_rfl)
theorem s11 : shs D.toDcf 11 = some ([.g], 2) := by kernel_rfl
theorem k13_ok : Kok D 13 k13 := tk (by kernel_rfl)
theorem s13 : shs D.toDcf 13 = some ([.g], 1) := by kernel_rfl
theorem k19_ok : Kok D 19 k19 := tk (by kernel_rfl)
theorem s19 : shs D.toDcf 19 = some ([.g], 1) := by kernel_rfl
theorem k26_ok : Kok D 26 k26 := tk (by kernel_rfl)
theorem s26 : shs D.toDcf 26 = some ([.g], 1) := by kernel_rfl
theorem k27_ok : Kok D 27 k27 := tk (by kernel_rfl)
theorem s27 : shs D.toDcf 27 = some ([.g], 1) := by kernel_rfl
theorem k28_ok : Kok D 28 k28 := tk (by kernel_rfl)
theorem s28 : shs D.toDcf 28 = some ([.g, .g], 1) := by kernel_rfl
theorem k35_ok : Kok D 35 k35 := tk (by kernel_rfl)
theorem s35 : shs D.toDcf 35 = some ([.g], 1) := by kernel_rfl
theorem k36_ok : Kok D 36 k36 := tk (by kernel_rfl)
theorem s36 : shs D.toDcf 36 = some ([.g], 1) := by kernel_rfl
theorem k37_ok : Kok D 37 k37 := tk (by kernel_rfl)
theorem s37 : shs D.toDcf 37 = some ([.g], 1) := by kernel_rfl
theorem k38_ok : Kok D 38 k38 := tk (by kernel_rfl)
theorem s38 : shs D.toDcf 38 = some ([.g], 1) := by kernel_rfl
theorem k43_ok : Kok D 43 k43 := tk (by kernel_rfl)
theorem s43 : shs D.toDcf 43 = some ([.g], 1) := by kernel_rfl
theorem k44_ok : Kok D 44 k44 := tk (by kernel_rfl)
theorem s44 : shs D.toDcf 44 = some ([.g], 1) := by kernel_rfl
theorem k51_ok : Kok D 51 k51 := tk (by kernel_rfl)
theorem s51 : shs D.toDcf 51 = some ([.g, .g], 1) := by kernel_rfl
theorem k52_ok : Kok D 52 k52 := tk (by kernel_rfl)
theorem s52 : shs D.toDcf 52 = some ([.g, .g], 1) := by kernel_rfl
theorem k53_ok : Kok D 53 k53 := tk (by kernel_rfl)
theorem s53 : shs D.toDcf 53 = some ([.g, .g], 1) := by kernel_rfl
theorem k54_ok : Kok D 54 k54 := tk (by kernel_rfl)
theorem s54 : shs D.toDcf 54 = some ([.g, .g], 1) := by kernel_rfl
theorem k64_ok : Kok D 64 k64 := tk (by kernel_rfl)
theorem s64 : shs D.toDcf 64 = some ([.g], 1) := by kernel_rfl
theorem k66_ok : Kok D 66 k66 := tk (by kernel_rfl)
theorem s66 : shs D.toDcf 66 = some ([.g], 1) := by kernel_rfl
theorem k76_ok : Kok D 76 k76 := tk (by kernel_rfl)
theorem s76 : shs D.toDcf 76 = some ([.g], 1) := by kernel_rfl
theorem k77_ok : Kok D 77 k77 := tk (by kernel_rfl)
theorem s77 : shs D.toDcf 77 = some ([.g], 1) := by kernel_rfl
theorem k78_ok : Kok D 78 k78 := tk (by kernel_rfl)
theorem s78 : shs D.toDcf 78 = some ([.g], 1) := by kernel_rfl
theorem k79_ok : Kok D 79 k79 := tk (by kernel_rfl)
theorem s79 : shs D.toDcf 79 = some ([.g], 1) := by kernel_rfl
theorem k80_ok : Kok D 80 k80 := tk (by kernel_rfl)
theorem s80 : shs D.toDcf 80 = some ([.g], 1) := by kernel_rfl
theorem k81_ok : Kok D 81 k81 := tk (by kernel_rfl)
theorem s81 : shs D.toDcf 81 = some ([.g], 1) := by kernel_rfl
theorem k82_ok : Kok D 82 k82 := tk (by kernel_rfl)
theorem s82 : shs D.toDcf 82 = some ([.g], 1) := by kernel_rfl
theorem k83_ok : Kok D 83 k83 := tk (by kernel_rfl)
theorem s83 : shs D.toDcf 83 = some ([.g], 1) := by kernel_rfl
theorem k84_ok : Kok D 84 k84 := tk (by kernel_rfl)
theorem s84 : shs D.toDcf 84 = some ([.g], 1) := by kernel_rfl
theorem k109_ok : Kok D 109 k109 := tk (by kernel_rfl)
theorem s109 : shs D.toDcf 109 = some ([.g], 1) := by kernel_rfl
theorem k110_ok : Kok D 110 k110 := tk (by kernel_rfl)
theorem s110 : shs D.toDcf 110 = some ([.g], 1) := by kernel_rfl
theorem k111_ok : Kok D 111 k111 := tk (by kernel_rfl)
theorem s111 : shs D.toDcf 111 = some ([.g], 1) := by kernel_rfl
theorem k115_ok : Kok D 115 k115 := tk (by kernel_rfl)
theorem s115 : shs D.toDcf 115 = some ([.c, .c], 1) := by kernel_rfl
theorem k116_ok : Kok D 116 k116 := tk (by kernel_rfl)
theorem s116 : shs D.toDcf 116 = some ([.c], 1) := by kernel_rfl
theorem k117_ok : Kok D 117 k117 := tk (by kernel_rfl)
theorem s117 : shs D.toDcf 117 = some ([.g, .g], 2) := by kernel_rfl
theorem k120_ok : Kok D 120 k120 := tk (by kernel_rfl)
theorem s120 : shs D.toDcf 120 = some ([.c], 1) := by kernel_rfl
theorem k123_ok : Kok D 123 k123 := tk (by kernel_rfl)
theorem s123 : shs D.toDcf 123 = some ([.g, .g, .c], 2) := by kernel_rfl
theorem k125_ok : Kok D 125 k125 := tk (by kernel_rfl)
theorem s125 : shs D.toDcf 125 = some ([.g, .g], 2) := by kernel_rfl
theorem k127_ok : Kok D 127 k127 := tk (by kernel_rfl)
theorem s127 : shs D.toDcf 127 = some ([.g, .g], 2) := by kernel_rfl
theorem k128_ok : Kok D 128 k128 := tk (by kernel_rfl)
theorem s128 : shs D.toDcf 128 = some ([.g], 1) := by kernel_rfl
theorem k134_ok : Kok D 134 k134 := tk (by kernel_rfl)
theorem s134 : shs D.toDcf 134 = some ([.g, .g], 1) := by kernel_rfl
theorem k135_ok : Kok D 135 k135 := tk (by kernel_rfl)
theorem s135 : shs D.toDcf 135 = some ([.c, .c], 1) := by kernel_rfl
theorem k136_ok : Kok D 136 k136 := tk (by kernel_rfl)
theorem s136 : shs D.toDcf 136 = some ([.g, .g], 1) := by kernel_rfl
theorem k137_ok : Kok D 137 k137 := tk (by kernel_rfl)
theorem s137 : shs D.toDcf 137 = some ([.g, .g], 1) := by kernel_rfl
theorem k141_ok : Kok D 141 k141 := tk (by kernel_rfl)
theorem s141 : shs D.toDcf 141 = some ([.c], 1) := by kernel_rfl
theorem k143_ok : Kok D 143 k143 := tk (by kernel_rfl)
theorem s143 : shs D.toDcf 143 = some ([.g], 1) := by kernel_rfl
theorem k151_ok : Kok D 151 k151 := tk (by kernel_rfl)
theorem s151 : shs D.toDcf 151 = some ([.c, .c], 1) := by kernel_rfl
theorem k152_ok : Kok D 152 k152 := tk (by kernel_rfl)
theorem s152 : shs D.toDcf 152 = some ([.g, .g], 1) := by kernel_rfl
theorem k153_ok : Kok D 153 k153 := tk (by kernel_rfl)
theorem s153 : shs D.toDcf 153 = some ([.g], 1) := by kernel_rfl
theorem k154_ok : Kok D 154 k154 := tk (by kernel_rfl)
theorem s154 : shs D.toDcf 154 = some ([.c, .c], 1) := by kernel_rfl
theorem k155_ok : Kok D 155 k155 := tk (by kernel_rfl)
theorem s155 : shs D.toDcf 155 = some ([.c, .g], 1) := by kernel_rfl
theorem k156_ok : Kok D 156 k156 := tk (by kernel_rfl)
theorem s156 : shs D.toDcf 156 = some ([.g, .g, .c, .c], 1) := by kernel_rfl
theorem k157_ok : Kok D 157 k157 := tk (by kernel_rfl)
theorem s157 : shs D.toDcf 157 = some ([.g], 1) := by kernel_rfl
theorem k163_ok : Kok D 163 k163 := tk (by kernel_rfl)
theorem s163 : shs D.toDcf 163 = some ([.c, .c], 1) := by kernel_rfl
theorem k165_ok : Kok D 165 k165 := tk (by kernel_rfl)
theorem s165 : shs D.toDcf 165 = some ([.c, .c], 1) := by kernel_rfl
theorem k167_ok : Kok D 167 k167 := tk (by kernel_rfl)
theorem s167 : shs D.toDcf 167 = some ([.g], 1) := by kernel_rfl
theorem k168_ok : Kok D 168 k168 := tk (by kernel_rfl)
theorem s168 : shs D.toDcf 168 = some ([.g, .c], 1) := by kernel_rfl
theorem k169_ok : Kok D 169 k169 := tk (by kernel_rfl)
theorem s169 : shs D.toDcf 169 = some ([.g, .c], 1) := by kernel_rfl
theorem k170_ok : Kok D 170 k170 := tk (by kernel_rfl)
theorem s170 : shs D.toDcf 170 = some ([.c], 1) := by kernel_rfl
theorem k171_ok : Kok D 171 k171 := tk (by kernel_rfl)
theorem s171 : shs D.toDcf 171 = some ([.g], 1) := by kernel_rfl
theorem k172_ok : Kok D 172 k172 := tk (by kernel_rfl)
theorem s172 : shs D.toDcf 172 = some ([.c], 1) := by kernel_rfl
theorem k173_ok : Kok D 173 k173 := tk (by kernel_rfl)
theorem s173 : shs D.toDcf 173 = some ([.g, .c], 1) := by kernel_rfl
theorem k174_ok : Kok D 174 k174 := tk (by kernel_rfl)
theorem s174 : shs D.toDcf 174 = some ([.c], 1) := by kernel_rfl
theorem k175_ok : Kok D 175 k175 := tk (by kernel_rfl)
theorem s175 : shs D.toDcf 175 = some ([.g, .g, .g], 1) := by kernel_rfl
theorem k176_ok : Kok D 176 k176 := tk (by kernel_rfl)
theorem s176 : shs D.toDcf 176 = some ([.g], 1) := by kernel_rfl
theorem k177_ok : Kok D 177 k177 := tk (by kernel_rfl)
theorem s177 : shs D.toDcf 177 = some ([.g, .g], 1) := by kernel_rfl
theorem k178_ok : Kok D 178 k178 := tk (by kernel_rfl)
theorem s178 : shs D.toDcf 178 = some ([.g], 1) := by kernel_rfl
theorem k179_ok : Kok D 179 k179 := tk (by kernel_rfl)
theorem s179 : shs D.toDcf 179 = some ([.g, .g], 1) := by kernel_rfl
theorem k180_ok : Kok D 180 k180 := tk (by kernel_rfl)
theorem s180 : shs D.toDcf 180 = some ([.g, .c], 1) := by kernel_rfl
theorem k206_ok : Kok D 206 k206 := tk (by kernel_rfl)
theorem s206 : shs D.toDcf 206 = some ([.g], 1) := by kernel_rfl
theorem k210_ok : Kok D 210 k210 := tk (by kernel_rfl)
theorem s210 : shs D.toDcf 210 = some ([.g, .g], 1) := by kernel_rfl
theorem k211_ok : Kok D 211 k211 := tk (by kernel_rfl)
theorem s211 : shs D.toDcf 211 = some ([.c, .c], 1) := by kernel_rfl
theorem k212_ok : Kok D 212 k212 := tk (by kernel_rfl)
theorem s212 : shs D.toDcf 212 = some ([.g, .g], 1) := by kernel_rfl
theorem k213_ok : Kok D 213 k213 := tk (by kernel_rfl)
theorem s213 : shs D.toDcf 213 = some ([.c, .c], 1) := by kernel_rfl
theorem k218_ok : Kok D 218 k218 := tk (by kernel_rfl)
theorem s218 : shs D.toDcf 218 = some ([.g, .g, .c], 2) := by kernel_rfl
theorem k220_ok : Kok D 220 k220 := tk (by kernel_rfl)
theorem s220 : shs D.toDcf 220 = some ([.g, .g], 2) := by kernel_rfl
theorem k221_ok : Kok D 221 k221 := tk (by kernel_rfl)
theorem s221 : shs D.toDcf 221 = some ([.c, .g, .c, .c, .c, .c], 1) := by kernel_rfl
theorem k222_ok : Kok D 222 k222 := tk (by kernel_rfl)
theorem s222 : shs D.toDcf 222 = some ([.c, .c], 1) := by kernel_rfl
theorem k223_ok : Kok D 223 k223 := tk (by kernel_rfl)
theorem s223 : shs D.toDcf 223 = some ([.c], 1) := by kernel_rfl
theorem k224_ok : Kok D 224 k224 := tk (by kernel_rfl)
theorem s224 : shs D.toDcf 224 = some ([.g, .g], 1) := by kernel_rfl
theorem k229_ok : Kok D 229 k229 := tk (by kernel_rfl)
theorem s229 : shs D.toDcf 229 = some ([.g, .g], 1) := by kernel_rfl
theorem k230_ok : Kok D 230 k230 := tk (by kernel_rfl)
theorem s230 : shs D.toDcf 230 = some ([.g, .g], 1) := by kernel_rfl
theorem k231_ok : Kok D 231 k231 := tk (by kernel_rfl)
theorem s231 : shs D.toDcf 231 = some ([.g], 1) := by kernel_rfl
theorem k239_ok : Kok D 239 k239 := tk (by kernel_rfl)
theorem s239 : shs D.toDcf 239 = some ([.g], 1) := by kernel_rfl
theorem k242_ok : Kok D 242 k242 := tk (by kernel_rfl)
theorem s242 : shs D.toDcf 242 = some ([.g, .c], 1) := by kernel_rfl
theorem k243_ok : Kok D 243 k243 := tk (by kernel_rfl)
theorem s243 : shs D.toDcf 243 = some ([.g, .g, .g], 1) := by kernel_rfl
theorem k244_ok : Kok D 244 k244 := tk (by kernel_rfl)
theorem s244 : shs D.toDcf 244 = some ([.g], 1) := by kernel_rfl
theorem k245_ok : Kok D 245 k245 := tk (by kernel_rfl)
theorem s245 : shs D.toDcf 245 = some ([.g], 1) := by kernel_rfl
theorem k246_ok : Kok D 246 k246 := tk (by kernel_rfl)
theorem s246 : shs D.toDcf 246 = some ([.g, .g, .g], 3) := by kernel_rfl
theorem k247_ok : Kok D 247 k247 := tk (by kernel_rfl)
theorem s247 : shs D.toDcf 247 = some ([.c, .g], 1) := by kernel_rfl
theorem k248_ok : Kok D 248 k248 := tk (by kernel_rfl)
theorem s248 : shs D.toDcf 248 = some ([.g, .c], 2) := by kernel_rfl
theorem k249_ok : Kok D 249 k249 := tk (by kernel_rfl)
theorem s249 : shs D.toDcf 249 = some ([.g, .g, .g], 2) := by kernel_rfl
theorem k250_ok : Kok D 250 k250 := tk (by kernel_rfl)
theorem s250 : shs D.toDcf 250 = some ([.c], 1) := by kernel_rfl
theorem k258_ok : Kok D 258 k258 := tk (by kernel_rfl)
theorem s258 : shs D.toDcf 258 = some ([.g], 1) := by kernel_rfl
theorem k259_ok : Kok D 259 k259 := tk (by kernel_rfl)
theorem s259 : shs D.toDcf 259 = some ([.g, .g], 1) := by kernel_rfl
theorem k260_ok : Kok D 260 k260 := tk (by kernel_rfl)
theorem s260 : shs D.toDcf 260 = some ([.g], 1) := by kernel_rfl
theorem k261_ok : Kok D 261 k261 := tk (by kernel_rfl)
theorem s261 : shs D.toDcf 261 = some ([.g, .g, .g], 2) := by kernel_rfl
theorem k262_ok : Kok D 262 k262 := tk (by kernel_rfl)
theorem s262 : shs D.toDcf 262 = some ([.g, .g], 2) := by kernel_rfl
theorem k263_ok : Kok D 263 k263 := tk (by kernel_rfl)
theorem s263 : shs D.toDcf 263 = some ([.g, .g], 1) := by kernel_rfl
theorem k264_ok : Kok D 264 k264 := tk (by kernel_rfl)
theorem s264 : shs D.toDcf 264 = some ([.g, .g, .g], 1) := by kernel_rfl
theorem k265_ok : Kok D 265 k265 := tk (by kernel_rfl)
theorem s265 : shs D.toDcf 265 = some ([.c], 1) := by kernel_rfl
theorem k266_ok : Kok D 266 k266 := tk (by kernel_rfl)
theorem s266 : shs D.toDcf 266 = some ([.g, .c], 1) := by kernel_rfl
theorem k267_ok : Kok D 267 k267 := tk (by kernel_rfl)
theorem s267 : shs D.toDcf 267 = some ([.g, .g, .c, .c], 1) := by kernel_rfl
theorem k268_ok : Kok D 268 k268 := tk (by kernel_rfl)
theorem s268 : shs D.toDcf 268 = some ([.g, .g], 1) := by kernel_rfl
theorem k269_ok : Kok D 269 k269 := tk (by kernel_rfl)
theorem s269 : shs D.toDcf 269 = some ([.c, .c, .c], 1) := by kernel_rfl
theorem k270_ok : Kok D 270 k270 := tk (by kernel_rfl)
theorem s270 : shs D.toDcf 270 = some ([.g], 1) := by kernel_rfl
theorem k271_ok : Kok D 271 k271 := tk (by kernel_rfl)
theorem s271 : shs D.toDcf 271 = some ([.g, .c], 2) := by kernel_rfl
theorem k281_ok : Kok D 281 k281 := tk (by kernel_rfl)
theorem s281 : shs D.toDcf 281 = some ([.g, .c], 2) := by kernel_rfl
theorem k285_ok : Kok D 285 k285 := tk (by kernel_rfl)
theorem s285 : shs D.toDcf 285 = some ([.g], 1) := by kernel_rfl
theorem k287_ok : Kok D 287 k287 := tk (by kernel_rfl)
theorem s287 : shs D.toDcf 287 = some ([.c], 1) := by kernel_rfl
theorem k288_ok : Kok D 288 k288 := tk (by kernel_rfl)
theorem s288 : shs D.toDcf 288 = some ([.c, .c], 1) := by kernel_rfl
theorem k289_ok : Kok D 289 k289 := tk (by kernel_rfl)
theorem s289 : shs D.toDcf 289 = some ([.c, .c], 2) := by kernel_rfl
theorem k294_ok : Kok D 294 k294 := tk (by kernel_rfl)
theorem s294 : shs D.toDcf 294 = some ([.c], 1) := by kernel_rfl
theorem k300_ok : Kok D 300 k300 := tk (by kernel_rfl)
theorem s300 : shs D.toDcf 300 = some ([.g, .g], 1) := by kernel_rfl
theorem k301_ok : Kok D 301 k301 := tk (by kernel_rfl)
theorem s301 : shs D.toDcf 301 = some ([.g, .c], 1) := by kernel_rfl
theorem k302_ok : Kok D 302 k302 := tk (by kernel_rfl)
theorem s302 : shs D.toDcf 302 = some ([.g, .g, .c, .c], 1) := by kernel_rfl
theorem k303_ok : Kok D 303 k303 := tk (by kernel_rfl)
theorem s303 : shs D.toDcf 303 = some ([.g, .g], 1) := by kernel_rfl
theorem k304_ok : Kok D 304 k304 := tk (by kernel_rfl)
theorem s304 : shs D.toDcf 304 = some ([.c, .c], 1) := by kernel_rfl
theorem k305_ok : Kok D 305 k305 := tk (by kernel_rfl)
theorem s305 : shs D.toDcf 305 = some ([.g], 1) := by kernel_rfl
theorem k306_ok : Kok D 306 k306 := tk (by kernel_rfl)
theorem s306 : shs D.toDcf 306 = some ([.g, .g], 1) := by kernel_rfl
theorem k312_ok : Kok D 312 k312 := tk (by kernel_rfl)
theorem s312 : shs D.toDcf 312 = some ([.g, .g], 1) := by kernel_rfl
theorem k313_ok : Kok D 313 k313 := tk (by kernel_rfl)
theorem s313 : shs D.toDcf 313 = some ([.c, .c], 1) := by kernel_rfl
theorem k315_ok : Kok D 315 k315 := tk (by kernel_rfl)
theorem s315 : shs D.toDcf 315 = some ([.g, .c], 1) := by kernel_rfl
theorem k323_ok : Kok D 323 k323 := tk (by kernel_rfl)
theorem s323 : shs D.toDcf 323 = some ([.g, .g, .g], 1) := by kernel_rfl
theorem k324_ok : Kok D 324 k324 := tk (by kernel_rfl)
theorem s324 : shs D.toDcf 324 = some ([.g], 1) := by kernel_rfl
theorem k325_ok : Kok D 325 k325 := tk (by kernel_rfl)
theorem s325 : shs D.toDcf 325 = some ([.g], 1) := by kernel_rfl
theorem k326_ok : Kok D 326 k326 := tk (by kernel_rfl)
theorem s326 : shs D.toDcf 326 = some ([.g, .g], 1) := by kernel_rfl
theorem k327_ok : Kok D 327 k327 := tk (by kernel_rfl)
theorem s327 : shs D.toDcf 327 = some ([.g, .g, .g], 3) := by kernel_rfl
theorem k328_ok : Kok D 328 k328 := tk (by kernel_rfl)
theorem s328 : shs D.toDcf 328 = some ([.g, .g, .g], 1) := by kernel_rfl
theorem k329_ok : Kok D 329 k329 := tk (by kernel_rfl)
theorem s329 : shs D.toDcf 329 = some ([.g, .g, .g], 1) := by kernel_rfl
theorem k344_ok : Kok D 344 k344 := tk (by kernel_rfl)
theorem s344 : shs D.toDcf 344 = some ([.g], 1) := by kernel_rfl
theorem k345_ok : Kok D 345 k345 := tk (by kernel_rfl)
theorem s345 : shs D.toDcf 345 = some ([.g], 1) := by kernel_rfl
theorem k346_ok : Kok D 346 k346 := tk (by kernel_rfl)
theorem s346 : shs D.toDcf 346 = some ([.g], 1) := by kernel_rfl
theorem k347_ok : Kok D 347 k347 := tk (by kernel_rfl)
theorem s347 : shs D.toDcf 347 = some ([.g, .g], 1) := by kernel_rfl
theorem k348_ok : Kok D 348 k348 := tk (by kernel_rfl)
theorem s348 : shs D.toDcf 348 = some ([.g, .g, .g], 2) := by kernel_rfl
theorem k349_ok : Kok D 349 k349 := tk (by kernel_rfl)
theorem s349 : shs D.toDcf 349 = some ([.g, .g], 1) := by kernel_rfl
theorem k350_ok : Kok D 350 k350 := tk (by kernel_rfl)
theorem s350 : shs D.toDcf 350 = some ([.g, .g, .g, .c, .c, .c], 2) := by kernel_rfl
theorem k354_ok : Kok D 354 k354 := tk (by kernel_rfl)
theorem s354 : shs D.toDcf 354 = some ([.c, .c], 1) := by kernel_rfl
theorem k359_ok : Kok D 359 k359 := tk (by kernel_rfl)
theorem s359 : shs D.toDcf 359 = some ([.c], 1) := by kernel_rfl
theorem k367_ok : Kok D 367 k367 := tk (by kernel_rfl)
theorem s367 : shs D.toDcf 367 = some ([.g, .c], 2) := by kernel_rfl
theorem k368_ok : Kok D 368 k368 := tk (by kernel_rfl)
theorem s368 : shs D.toDcf 368 = some ([.c, .c], 1) := by kernel_rfl
theorem k376_ok : Kok D 376 k376 := tk (by kernel_rfl)
theorem s376 : shs D.toDcf 376 = some ([.c, .c], 1) := by kernel_rfl
theorem k384_ok : Kok D 384 k384 := tk (by kernel_rfl)
theorem s384 : shs D.toDcf 384 = some ([.g, .g, .g], 1) := by kernel_rfl
theorem k386_ok : Kok D 386 k386 := tk (by kernel_rfl)
theorem s386 : shs D.toDcf 386 = some ([.c, .c], 1) := by kernel_rfl
theorem k387_ok : Kok D 387 k387 := tk (by kernel_rfl)
theorem s387 : shs D.toDcf 387 = some ([.c], 1) := by kernel_rfl
theorem k388_ok : Kok D 388 k388 := tk (by kernel_rfl)
theorem s388 : shs D.toDcf 388 = some ([.g, .g], 2) := by kernel_rfl
theorem k389_ok : Kok D 389 k389 := tk (by kernel_rfl)
theorem s389 : shs D.toDcf 389 = some ([.g], 1) := by kernel_rfl
theorem k395_ok : Kok D 395 k395 := tk (by kernel_rfl)
theorem s395 : shs D.toDcf 395 = some ([.c], 1) := by kernel_rfl
theorem k396_ok : Kok D 396 k396 := tk (by kernel_rfl)
theorem s396 : shs D.toDcf 396 = some ([.g, .g], 1) := by kernel_rfl
theorem k397_ok : Kok D 397 k397 := tk (by kernel_rfl)
theorem s397 : shs D.toDcf 397 = some ([.g, .g, .c, .c], 1) := by kernel_rfl
theorem k414_ok : Kok D 414 k414 := tk (by kernel_rfl)
theorem s414 : shs D.toDcf 414 = some ([.g, .g], 1) := by kernel_rfl
theorem k415_ok : Kok D 415 k415 := tk (by kernel_rfl)
theorem s415 : shs D.toDcf 415 = some ([.c, .c], 1) := by kernel_rfl
theorem k416_ok : Kok D 416 k416 := tk (by kernel_rfl)
theorem s416 : shs D.toDcf 416 = some ([.c, .c], 2) := by kernel_rfl
theorem k419_ok : Kok D 419 k419 := tk (by kernel_rfl)
theorem s419 : shs D.toDcf 419 = some ([.c, .c], 2) := by kernel_rfl
theorem k423_ok : Kok D 423 k423 := tk (by kernel_rfl)
theorem s423 : shs D.toDcf 423 = some ([.g, .g], 1) := by kernel_rfl
theorem k424_ok : Kok D 424 k424 := tk (by kernel_rfl)
theorem s424 : shs D.toDcf 424 = some ([.g, .c, .c], 2) := by kernel_rfl
theorem k425_ok : Kok D 425 k425 := tk (by kernel_rfl)
theorem s425 : shs D.toDcf 425 = some ([.c, .g, .g], 2) := by kernel_rfl
end Go.Proofs.YtfghdmmapmdcgaaGreat
