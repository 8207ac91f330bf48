import Derived.Test.YtfghdmmapmdcgaaGreatBcD
set_option linter.unusedVariables false
set_option linter.unusedSimpArgs false
set_option linter.defProp false
noncomputable section
namespace Go.Proofs.YtfghdmmapmdcgaaGreat
open Go.Sym Go.Sym.KP
def k3_1 : K :=
.ret [x 12]
def k3 : K :=
 l (.shape 51) [x 1]<|
 c 7 [x 2]<|
 b (x 3) (.ret [.c (.v (.bool true))])<|
 c 8 [x 0]<|
 c 9 [x 0]<|
 c 10 [x 2]<|
 c 11 [x 2]<|
.jp k3_1<|
 l oE [x 4,x 6]<|
 b (x 12) (l oE [x 5,x 7]<|
 b (x 13) (l oE [x 8,x 10]<|
 b (x 14) (l oE [x 9,x 11]<|
 j 0 [x 15])<|
 j 0 [.c (.v (.bool false))])<|
 j 0 [.c (.v (.bool false))])<|
 j 0 [.c (.v (.bool false))]
def h3 : List Hint := [.no,(.j ⟨1,[(4,(w 12))],[],0⟩)]
theorem q3 : symF D0 100000 3 h3 = some k3 := by kernel_rfl
def k7_1 : K :=
.ret [x 2]
def k7 : K :=
 l (.shape 51) [x 0]<|
.jp k7_1<|
 l (.part 1 12) [x 1]<|
 c 35 [x 2]<|
 b (x 3) (j 0 [.c (.v (.bool true))])<|
 l (.part 13 13) [x 1]<|
 c 36 [x 4]<|
 b (x 5) (j 0 [.c (.v (.bool true))])<|
 l (.part 26 13) [x 1]<|
 c 37 [x 6]<|
 b (x 7) (j 0 [.c (.v (.bool true))])<|
 l (.part 39 12) [x 1]<|
 c 38 [x 8]<|
 j 0 [x 9]
def h7 : List Hint := [(.j ⟨1,[(2,(w 2))],[],0⟩)]
theorem q7 : symF D0 100000 7 h7 = some k7 := by kernel_rfl
def k8 : K :=
 l oL [x 0,i 0]<|
 b (x 1) (.ret [i 0,i 2])<|
 l oG [x 0,i 64]<|
 b (x 2) (.ret [i 0,i 2])<|
 l oS [x 0,i 1]<|
 l oM [x 0,x 3]<|
 l (.bin .quo) [x 4,i 2]<|
.ret [x 5,i 0]
def h8 : List Hint := [.no,.no]
theorem q8 : symF D0 100000 8 h8 = some k8 := by kernel_rfl
def k9_1 : K :=
.ret [x 3,i 0]
def k9_2 : K :=
 l oL [x 4,x 0]<|
 b (x 5) (l oA [x 3,x 4]<|
 l oA [x 4,i 1]<|
 j 1 [x 6,x 7])<|
 j 0 [x 3]
def k9 : K :=
 l oL [x 0,i 0]<|
 b (x 1) (.ret [i 0,i 2])<|
 l oG [x 0,i 64]<|
 b (x 2) (.ret [i 0,i 2])<|
.jp k9_1<|
.loop k9_2<|
 j 1 [i 0,i 0]
def h9 : List Hint := [.no,.no,(.j ⟨1,[(4,(w 3)),(3,(wi 0)),(2,(wi 0))],[],0⟩),(.j ⟨2,[(0,(w 0)),(2,(wi 0)),(3,(wi 0)),(4,(w 3)),(5,(w 4))],[],0⟩),.no,.no]
theorem q9 : symF D0 100000 9 h9 = some k9 := by kernel_rfl
def k10 : K :=
 l (.shape 51) [x 0]<|
 c 26 [x 1]<|
 l oN [x 2,i 0]<|
 b (x 3) (.ret [i 0,x 2])<|
 l (.cell 5) [x 1]<|
 l .len [x 4]<|
 l (.cell 17) [x 1]<|
 l .len [x 6]<|
 l oA [x 5,x 7]<|
 l (.cell 30) [x 1]<|
 l .len [x 9]<|
 l oA [x 8,x 10]<|
 l (.cell 43) [x 1]<|
 l .len [x 12]<|
 l oA [x 11,x 13]<|
.ret [x 14,i 0]
def h10 : List Hint := [.no]
theorem q10 : symF D0 100000 10 h10 = some k10 := by kernel_rfl
def k11 : K :=
 l (.shape 51) [x 0]<|
 c 27 [x 1]<|
 l oN [x 2,i 0]<|
 b (x 3) (c 27 [x 1]<|
.ret [i 0,x 4])<|
 c 13 [x 1]<|
 l (.part 3 2) [x 4]<|
 l (.cell 1) [x 5]<|
 l .len [x 6]<|
.ret [x 7,i 0]
def h11 : List Hint := [.no]
theorem q11 : symF D0 100000 11 h11 = some k11 := by kernel_rfl
def k13 : K :=
 l (.shape 51) [x 0]<|
 l (.cell 0) [x 1]<|
 l oE [x 2,.c (.v (.int .u8 1))]<|
 b (x 3) (l (.part 1 11) [x 1]<|
.ret [x 4])<|
 l (.cell 0) [x 1]<|
 l oE [x 4,.c (.v (.int .u8 2))]<|
 b (x 5) (l (.part 13 11) [x 1]<|
.ret [x 6])<|
 l (.cell 0) [x 1]<|
 l oE [x 6,.c (.v (.int .u8 3))]<|
 b (x 7) (l (.part 26 11) [x 1]<|
.ret [x 8])<|
 l (.part 39 11) [x 1]<|
.ret [x 8]
def h13 : List Hint := [.no,.no,.no,.no]
theorem q13 : symF D0 100000 13 h13 = some k13 := by kernel_rfl
def k19_1 : K :=
.ret [x 2]
def k19 : K :=
 l (.shape 1) [x 0]<|
.jp k19_1<|
 l (.cell 0) [x 1]<|
 l .len [x 2]<|
 l oG [x 3,i 16]<|
 b (x 4) (l (.cell 0) [x 1]<|
 l .len [x 5]<|
 l oL [x 6,i 64]<|
 b (x 7) (j 0 [.c (.v (.bool true))])<|
 l (.cell 0) [x 1]<|
 l .len [x 8]<|
 l oG [x 9,i 70]<|
 j 0 [x 10])<|
 l (.cell 0) [x 1]<|
 l .len [x 5]<|
 l oG [x 6,i 70]<|
 j 0 [x 7]
def h19 : List Hint := [(.j ⟨1,[(2,(w 2))],[],0⟩)]
theorem q19 : symF D0 100000 19 h19 = some k19 := by kernel_rfl
def k26_1 : K :=
 l oN [x 8,i 0]<|
 b (x 9) (.ret [i 8])<|
 c 66 [x 1]<|
 l (.part 0 2) [x 10]<|
 c 44 [x 11]<|
 l oN [x 12,i 0]<|
 b (x 13) (.ret [i 8])<|
.ret [i 0]
def k26_2 : K :=
 j 0 [x 10]
def k26_3 : K :=
 j 1 [x 12]
def k26_4 : K :=
 j 2 [x 14]
def k26_5 : K :=
 l (.cell 0) [x 1]<|
 l oE [x 6,.c (.v (.int .u8 1))]<|
.jp k26_1<|
 b (x 7) (l (.part 1 12) [x 1]<|
 c 77 [x 8]<|
 j 0 [x 9])<|
 l (.cell 0) [x 1]<|
 l oE [x 8,.c (.v (.int .u8 2))]<|
.jp k26_2<|
 b (x 9) (l (.part 13 13) [x 1]<|
 c 78 [x 10]<|
 j 1 [x 11])<|
 l (.cell 0) [x 1]<|
 l oE [x 10,.c (.v (.int .u8 3))]<|
.jp k26_3<|
 b (x 11) (l (.part 26 13) [x 1]<|
 c 79 [x 12]<|
 j 2 [x 13])<|
 l (.cell 0) [x 1]<|
 l oE [x 12,.c (.v (.int .u8 4))]<|
.jp k26_4<|
 b (x 13) (l (.part 39 12) [x 1]<|
 c 80 [x 14]<|
 j 3 [x 15])<|
 j 3 [i 8]
def k26_6 : K :=
 b (x 10) (.ret [i 8])<|
 l oA [x 6,i 1]<|
 j 1 [x 11]
def k26_7 : K :=
 l oL [x 6,i 4]<|
 b (x 7) (l .agg [x 2,x 3,x 4,x 5]<|
 l (.aix 1 4 0) [x 8,x 6]<|
.jp k26_6<|
 b (x 9) (l oA [x 6,i 1]<|
 l (.cell 0) [x 1]<|
 l (.conv .i64) [x 11]<|
 l oN [x 10,x 12]<|
 j 2 [x 13])<|
 j 2 [.c (.v (.bool false))])<|
 j 0 []
def k26_8 : K :=
.jp k26_5<|
.loop k26_7<|
 j 1 [i 0]
def k26 : K :=
 l (.shape 51) [x 0]<|
.jp k26_8<|
 l (.part 1 11) [x 1]<|
 c 76 [x 2]<|
 l (.un .not) [x 3]<|
 b (x 4) (l (.part 13 11) [x 1]<|
 c 76 [x 5]<|
 l (.un .not) [x 6]<|
 b (x 7) (l (.part 26 11) [x 1]<|
 c 76 [x 8]<|
 l (.un .not) [x 9]<|
 b (x 10) (l (.part 39 11) [x 1]<|
 c 76 [x 11]<|
 l (.un .not) [x 12]<|
 b (x 13) (j 0 [.c (.v (.bool true)),.c (.v (.bool true)),.c (.v (.bool true)),.c (.v (.bool true))])<|
 l (.cell 50) [x 1]<|
 l .len [x 14]<|
 l oG [x 15,i 0]<|
 j 0 [.c (.v (.bool true)),.c (.v (.bool true)),.c (.v (.bool true)),x 16])<|
 l (.cell 37) [x 1]<|
 l oN [x 11,i 0]<|
 b (x 12) (l (.part 39 11) [x 1]<|
 c 76 [x 13]<|
 l (.un .not) [x 14]<|
 b (x 15) (j 0 [.c (.v (.bool true)),.c (.v (.bool true)),.c (.v (.bool true)),.c (.v (.bool true))])<|
 l (.cell 50) [x 1]<|
 l .len [x 16]<|
 l oG [x 17,i 0]<|
 j 0 [.c (.v (.bool true)),.c (.v (.bool true)),.c (.v (.bool true)),x 18])<|
 l (.cell 38) [x 1]<|
 l .len [x 13]<|
 l oG [x 14,i 0]<|
 l (.part 39 11) [x 1]<|
 c 76 [x 16]<|
 l (.un .not) [x 17]<|
 b (x 18) (j 0 [.c (.v (.bool true)),.c (.v (.bool true)),x 15,.c (.v (.bool true))])<|
 l (.cell 50) [x 1]<|
 l .len [x 19]<|
 l oG [x 20,i 0]<|
 j 0 [.c (.v (.bool true)),.c (.v (.bool true)),x 15,x 21])<|
 l (.cell 24) [x 1]<|
 l .len [x 8]<|
 l (.cell 25) [x 1]<|
 l .len [x 10]<|
 l oA [x 9,x 11]<|
 l oG [x 12,i 0]<|
 l (.part 26 11) [x 1]<|
 c 76 [x 14]<|
 l (.un .not) [x 15]<|
 b (x 16) (l (.part 39 11) [x 1]<|
 c 76 [x 17]<|
 l (.un .not) [x 18]<|
 b (x 19) (j 0 [.c (.v (.bool true)),x 13,.c (.v (.bool true)),.c (.v (.bool true))])<|
 l (.cell 50) [x 1]<|
 l .len [x 20]<|
 l oG [x 21,i 0]<|
 j 0 [.c (.v (.bool true)),x 13,.c (.v (.bool true)),x 22])<|
 l (.cell 37) [x 1]<|
 l oN [x 17,i 0]<|
 b (x 18) (l (.part 39 11) [x 1]<|
 c 76 [x 19]<|
 l (.un .not) [x 20]<|
 b (x 21) (j 0 [.c (.v (.bool true)),x 13,.c (.v (.bool true)),.c (.v (.bool true))])<|
 l (.cell 50) [x 1]<|
 l .len [x 22]<|
 l oG [x 23,i 0]<|
 j 0 [.c (.v (.bool true)),x 13,.c (.v (.bool true)),x 24])<|
 l (.cell 38) [x 1]<|
 l .len [x 19]<|
 l oG [x 20,i 0]<|
 l (.part 39 11) [x 1]<|
 c 76 [x 22]<|
 l (.un .not) [x 23]<|
 b (x 24) (j 0 [.c (.v (.bool true)),x 13,x 21,.c (.v (.bool true))])<|
 l (.cell 50) [x 1]<|
 l .len [x 25]<|
 l oG [x 26,i 0]<|
 j 0 [.c (.v (.bool true)),x 13,x 21,x 27])<|
 l (.cell 12) [x 1]<|
 l .len [x 5]<|
 l oG [x 6,i 0]<|
 l (.part 13 11) [x 1]<|
 c 76 [x 8]<|
 l (.un .not) [x 9]<|
 b (x 10) (l (.part 26 11) [x 1]<|
 c 76 [x 11]<|
 l (.un .not) [x 12]<|
 b (x 13) (l (.part 39 11) [x 1]<|
 c 76 [x 14]<|
 l (.un .not) [x 15]<|
 b (x 16) (j 0 [x 7,.c (.v (.bool true)),.c (.v (.bool true)),.c (.v (.bool true))])<|
 l (.cell 50) [x 1]<|
 l .len [x 17]<|
 l oG [x 18,i 0]<|
 j 0 [x 7,.c (.v (.bool true)),.c (.v (.bool true)),x 19])<|
 l (.cell 37) [x 1]<|
 l oN [x 14,i 0]<|
 b (x 15) (l (.part 39 11) [x 1]<|
 c 76 [x 16]<|
 l (.un .not) [x 17]<|
 b (x 18) (j 0 [x 7,.c (.v (.bool true)),.c (.v (.bool true)),.c (.v (.bool true))])<|
 l (.cell 50) [x 1]<|
 l .len [x 19]<|
 l oG [x 20,i 0]<|
 j 0 [x 7,.c (.v (.bool true)),.c (.v (.bool true)),x 21])<|
 l (.cell 38) [x 1]<|
 l .len [x 16]<|
 l oG [x 17,i 0]<|
 l (.part 39 11) [x 1]<|
 c 76 [x 19]<|
 l (.un .not) [x 20]<|
 b (x 21) (j 0 [x 7,.c (.v (.bool true)),x 18,.c (.v (.bool true))])<|
 l (.cell 50) [x 1]<|
 l .len [x 22]<|
 l oG [x 23,i 0]<|
 j 0 [x 7,.c (.v (.bool true)),x 18,x 24])<|
 l (.cell 24) [x 1]<|
 l .len [x 11]<|
 l (.cell 25) [x 1]<|
 l .len [x 13]<|
 l oA [x 12,x 14]<|
 l oG [x 15,i 0]<|
 l (.part 26 11) [x 1]<|
 c 76 [x 17]<|
 l (.un .not) [x 18]<|
 b (x 19) (l (.part 39 11) [x 1]<|
 c 76 [x 20]<|
 l (.un .not) [x 21]<|
 b (x 22) (j 0 [x 7,x 16,.c (.v (.bool true)),.c (.v (.bool true))])<|
 l (.cell 50) [x 1]<|
 l .len [x 23]<|
 l oG [x 24,i 0]<|
 j 0 [x 7,x 16,.c (.v (.bool true)),x 25])<|
 l (.cell 37) [x 1]<|
 l oN [x 20,i 0]<|
 b (x 21) (l (.part 39 11) [x 1]<|
 c 76 [x 22]<|
 l (.un .not) [x 23]<|
 b (x 24) (j 0 [x 7,x 16,.c (.v (.bool true)),.c (.v (.bool true))])<|
 l (.cell 50) [x 1]<|
 l .len [x 25]<|
 l oG [x 26,i 0]<|
 j 0 [x 7,x 16,.c (.v (.bool true)),x 27])<|
 l (.cell 38) [x 1]<|
 l .len [x 22]<|
 l oG [x 23,i 0]<|
 l (.part 39 11) [x 1]<|
 c 76 [x 25]<|
 l (.un .not) [x 26]<|
 b (x 27) (j 0 [x 7,x 16,x 24,.c (.v (.bool true))])<|
 l (.cell 50) [x 1]<|
 l .len [x 28]<|
 l oG [x 29,i 0]<|
 j 0 [x 7,x 16,x 24,x 30]
def h26 : List Hint := [(.j ⟨4,[(1,(p 0 0)),(2,(wi 0)),(3,(p 1 0))],[(0,(.box (pcs (x 1) 0 51))),(1,(.box [(a 2),(a 3),(a 4),(a 5)]))],2⟩),(.j ⟨0,[(1,(p 0 0)),(2,(wi 0))],[(0,(.box (pcs (x 1) 0 51)))],1⟩),(.j ⟨1,[(2,(wi 0)),(1,(p 0 0)),(71,(.w (.agg [(a 2),(a 3),(a 4),(a 5)]))),(72,(w 6))],[(0,(.box (pcs (x 1) 0 51)))],1⟩),.no,.no,(.j ⟨1,[(72,(w 6)),(71,(.w (.agg [(a 2),(a 3),(a 4),(a 5)]))),(1,(p 0 0)),(2,(wi 0)),(73,(w 7)),(74,(w 6)),(75,(w 9)),(4,(w 6)),(5,(w 9)),(76,(w 9)),(77,(w 9)),(84,(w 10))],[(0,(.box (pcs (x 1) 0 51)))],1⟩),.no,.no,(.j ⟨1,[(2,(wi 0)),(1,(p 0 0)),(6,(w 8))],[(0,(.box (pcs (x 1) 0 51)))],1⟩),(.j ⟨1,[(2,(wi 0)),(1,(p 0 0)),(6,(w 10))],[(0,(.box (pcs (x 1) 0 51)))],1⟩),(.j ⟨1,[(2,(wi 0)),(1,(p 0 0)),(6,(w 12))],[(0,(.box (pcs (x 1) 0 51)))],1⟩),(.j ⟨1,[(2,(wi 0)),(1,(p 0 0)),(6,(w 14))],[(0,(.box (pcs (x 1) 0 51)))],1⟩),.no,.no]
theorem q26 : symF D0 100000 26 h26 = some k26 := by kernel_rfl
def k27_1 : K :=
 l oN [x 5,i 0]<|
 b (x 6) (.ret [i 8])<|
 c 13 [x 1]<|
 l (.part 0 2) [x 7]<|
 c 64 [x 8]<|
 l oN [x 9,i 0]<|
 b (x 10) (.ret [i 8])<|
.ret [i 0]
def k27_2 : K :=
 j 0 [x 7]
def k27_3 : K :=
 j 1 [x 9]
def k27_4 : K :=
 j 2 [x 11]
def k27_5 : K :=
 b (x 2) (.ret [i 8])<|
 l (.cell 0) [x 1]<|
 l oE [x 3,.c (.v (.int .u8 1))]<|
.jp k27_1<|
 b (x 4) (l (.part 1 12) [x 1]<|
 c 81 [x 5]<|
 j 0 [x 6])<|
 l (.cell 0) [x 1]<|
 l oE [x 5,.c (.v (.int .u8 2))]<|
.jp k27_2<|
 b (x 6) (l (.part 13 13) [x 1]<|
 c 82 [x 7]<|
 j 1 [x 8])<|
 l (.cell 0) [x 1]<|
 l oE [x 7,.c (.v (.int .u8 3))]<|
.jp k27_3<|
 b (x 8) (l (.part 26 13) [x 1]<|
 c 83 [x 9]<|
 j 2 [x 10])<|
 l (.cell 0) [x 1]<|
 l oE [x 9,.c (.v (.int .u8 4))]<|
.jp k27_4<|
 b (x 10) (l (.part 39 12) [x 1]<|
 c 84 [x 11]<|
 j 3 [x 12])<|
 j 3 [i 8]
def k27 : K :=
 l (.shape 51) [x 0]<|
.jp k27_5<|
 l (.cell 0) [x 1]<|
 l oN [x 2,.c (.v (.int .u8 1))]<|
 b (x 3) (l (.part 1 12) [x 1]<|
 l .agg [i 0,i 0,.c (.sl []),i 0,.c (.sl []),.c (.sl []),.c (.sl []),.c (.sl []),.c (.sl []),.c (.sl []),.c (.sl []),.c (.sl [])]<|
 c 51 [x 4,x 5]<|
 l (.un .not) [x 6]<|
 b (x 7) (j 0 [.c (.v (.bool true))])<|
 l (.cell 0) [x 1]<|
 l oN [x 8,.c (.v (.int .u8 2))]<|
 b (x 9) (l (.part 13 13) [x 1]<|
 l .agg [i 0,i 0,.c (.sl []),i 0,.c (.sl []),.c (.sl []),.c (.sl []),.c (.sl []),.c (.sl []),.c (.sl []),.c (.sl []),.c (.sl []),.c (.sl [])]<|
 c 52 [x 10,x 11]<|
 l (.un .not) [x 12]<|
 b (x 13) (j 0 [.c (.v (.bool true))])<|
 l (.cell 0) [x 1]<|
 l oN [x 14,.c (.v (.int .u8 3))]<|
 b (x 15) (l (.part 26 13) [x 1]<|
 l .agg [i 0,i 0,.c (.sl []),i 0,.c (.sl []),.c (.sl []),.c (.sl []),.c (.sl []),.c (.sl []),.c (.sl []),.c (.sl []),i 0,.c (.sl [])]<|
 c 53 [x 16,x 17]<|
 l (.un .not) [x 18]<|
 b (x 19) (j 0 [.c (.v (.bool true))])<|
 l (.cell 0) [x 1]<|
 l oN [x 20,.c (.v (.int .u8 4))]<|
 b (x 21) (l (.part 39 12) [x 1]<|
 l .agg [i 0,i 0,.c (.sl []),i 0,.c (.sl []),.c (.sl []),.c (.sl []),.c (.sl []),.c (.sl []),.c (.sl []),.c (.sl []),.c (.sl [])]<|
 c 54 [x 22,x 23]<|
 l (.un .not) [x 24]<|
 j 0 [x 25])<|
 j 0 [.c (.v (.bool false))])<|
 l (.cell 0) [x 1]<|
 l oN [x 16,.c (.v (.int .u8 4))]<|
 b (x 17) (l (.part 39 12) [x 1]<|
 l .agg [i 0,i 0,.c (.sl []),i 0,.c (.sl []),.c (.sl []),.c (.sl []),.c (.sl []),.c (.sl []),.c (.sl []),.c (.sl []),.c (.sl [])]<|
 c 54 [x 18,x 19]<|
 l (.un .not) [x 20]<|
 j 0 [x 21])<|
 j 0 [.c (.v (.bool false))])<|
 l (.cell 0) [x 1]<|
 l oN [x 10,.c (.v (.int .u8 3))]<|
 b (x 11) (l (.part 26 13) [x 1]<|
 l .agg [i 0,i 0,.c (.sl []),i 0,.c (.sl []),.c (.sl []),.c (.sl []),.c (.sl []),.c (.sl []),.c (.sl []),.c (.sl []),i 0,.c (.sl [])]<|
 c 53 [x 12,x 13]<|
 l (.un .not) [x 14]<|
 b (x 15) (j 0 [.c (.v (.bool true))])<|
 l (.cell 0) [x 1]<|
 l oN [x 16,.c (.v (.int .u8 4))]<|
 b (x 17) (l (.part 39 12) [x 1]<|
 l .agg [i 0,i 0,.c (.sl []),i 0,.c (.sl []),.c (.sl []),.c (.sl []),.c (.sl []),.c (.sl []),.c (.sl []),.c (.sl []),.c (.sl [])]<|
 c 54 [x 18,x 19]<|
 l (.un .not) [x 20]<|
 j 0 [x 21])<|
 j 0 [.c (.v (.bool false))])<|
 l (.cell 0) [x 1]<|
 l oN [x 12,.c (.v (.int .u8 4))]<|
 b (x 13) (l (.part 39 12) [x 1]<|
 l .agg [i 0,i 0,.c (.sl []),i 0,.c (.sl []),.c (.sl []),.c (.sl []),.c (.sl []),.c (.sl []),.c (.sl []),.c (.sl []),.c (.sl [])]<|
 c 54 [x 14,x 15]<|
 l (.un .not) [x 16]<|
 j 0 [x 17])<|
 j 0 [.c (.v (.bool false))])<|
 l (.cell 0) [x 1]<|
 l oN [x 4,.c (.v (.int .u8 2))]<|
 b (x 5) (l (.part 13 13) [x 1]<|
 l .agg [i 0,i 0,.c (.sl []),i 0,.c (.sl []),.c (.sl []),.c (.sl []),.c (.sl []),.c (.sl []),.c (.sl []),.c (.sl []),.c (.sl []),.c (.sl [])]<|
 c 52 [x 6,x 7]<|
 l (.un .not) [x 8]<|
 b (x 9) (j 0 [.c (.v (.bool true))])<|
 l (.cell 0) [x 1]<|
 l oN [x 10,.c (.v (.int .u8 3))]<|
 b (x 11) (l (.part 26 13) [x 1]<|
 l .agg [i 0,i 0,.c (.sl []),i 0,.c (.sl []),.c (.sl []),.c (.sl []),.c (.sl []),.c (.sl []),.c (.sl []),.c (.sl []),i 0,.c (.sl [])]<|
 c 53 [x 12,x 13]<|
 l (.un .not) [x 14]<|
 b (x 15) (j 0 [.c (.v (.bool true))])<|
 l (.cell 0) [x 1]<|
 l oN [x 16,.c (.v (.int .u8 4))]<|
 b (x 17) (l (.part 39 12) [x 1]<|
 l .agg [i 0,i 0,.c (.sl []),i 0,.c (.sl []),.c (.sl []),.c (.sl []),.c (.sl []),.c (.sl []),.c (.sl []),.c (.sl []),.c (.sl [])]<|
 c 54 [x 18,x 19]<|
 l (.un .not) [x 20]<|
 j 0 [x 21])<|
 j 0 [.c (.v (.bool false))])<|
 l (.cell 0) [x 1]<|
 l oN [x 12,.c (.v (.int .u8 4))]<|
 b (x 13) (l (.part 39 12) [x 1]<|
 l .agg [i 0,i 0,.c (.sl []),i 0,.c (.sl []),.c (.sl []),.c (.sl []),.c (.sl []),.c (.sl []),.c (.sl []),.c (.sl []),.c (.sl [])]<|
 c 54 [x 14,x 15]<|
 l (.un .not) [x 16]<|
 j 0 [x 17])<|
 j 0 [.c (.v (.bool false))])<|
 l (.cell 0) [x 1]<|
 l oN [x 6,.c (.v (.int .u8 3))]<|
 b (x 7) (l (.part 26 13) [x 1]<|
 l .agg [i 0,i 0,.c (.sl []),i 0,.c (.sl []),.c (.sl []),.c (.sl []),.c (.sl []),.c (.sl []),.c (.sl []),.c (.sl []),i 0,.c (.sl [])]<|
 c 53 [x 8,x 9]<|
 l (.un .not) [x 10]<|
 b (x 11) (j 0 [.c (.v (.bool true))])<|
 l (.cell 0) [x 1]<|
 l oN [x 12,.c (.v (.int .u8 4))]<|
 b (x 13) (l (.part 39 12) [x 1]<|
 l .agg [i 0,i 0,.c (.sl []),i 0,.c (.sl []),.c (.sl []),.c (.sl []),.c (.sl []),.c (.sl []),.c (.sl []),.c (.sl []),.c (.sl [])]<|
 c 54 [x 14,x 15]<|
 l (.un .not) [x 16]<|
 j 0 [x 17])<|
 j 0 [.c (.v (.bool false))])<|
 l (.cell 0) [x 1]<|
 l oN [x 8,.c (.v (.int .u8 4))]<|
 b (x 9) (l (.part 39 12) [x 1]<|
 l .agg [i 0,i 0,.c (.sl []),i 0,.c (.sl []),.c (.sl []),.c (.sl []),.c (.sl []),.c (.sl []),.c (.sl []),.c (.sl []),.c (.sl [])]<|
 c 54 [x 10,x 11]<|
 l (.un .not) [x 12]<|
 j 0 [x 13])<|
 j 0 [.c (.v (.bool false))]
def h27 : List Hint := [(.j ⟨1,[(1,(p 0 0)),(2,(wi 0)),(49,(w 2))],[(0,(.box (pcs (x 1) 0 51)))],1⟩),.no,.no,(.j ⟨1,[(2,(wi 0)),(1,(p 0 0)),(3,(w 5))],[(0,(.box (pcs (x 1) 0 51)))],1⟩),(.j ⟨1,[(2,(wi 0)),(1,(p 0 0)),(3,(w 7))],[(0,(.box (pcs (x 1) 0 51)))],1⟩),(.j ⟨1,[(2,(wi 0)),(1,(p 0 0)),(3,(w 9))],[(0,(.box (pcs (x 1) 0 51)))],1⟩),(.j ⟨1,[(2,(wi 0)),(1,(p 0 0)),(3,(w 11))],[(0,(.box (pcs (x 1) 0 51)))],1⟩),.no,.no]
theorem q27 : symF D0 100000 27 h27 = some k27 := by kernel_rfl
def k28_1 : K :=
.ret [.c (.v (.bool true))]
def k28_2 : K :=
 l (.cell 0) [x 2]<|
 l .len [x 10]<|
 l oL [x 9,x 11]<|
 b (x 12) (l (.cell 0) [x 2]<|
 l (.tix 3) [x 13,x 9]<|
 l (.elt 0 3) [x 13,x 14]<|
 l (.cell 0) [x 3]<|
 l (.tix 3) [x 16,x 9]<|
 l (.elt 0 3) [x 16,x 17]<|
 l (.eqv [.i,.i,.i]) [x 15,x 18]<|
 l (.un .not) [x 19]<|
 b (x 20) (.ret [.c (.v (.bool false))])<|
 l oA [x 9,i 1]<|
 j 1 [x 21])<|
 j 0 []
def k28 : K :=
 l (.shape 1) [x 0]<|
 l (.shape 1) [x 1]<|
 l (.cell 0) [x 2]<|
 l .len [x 4]<|
 l (.cell 0) [x 3]<|
 l .len [x 6]<|
 l oN [x 5,x 7]<|
 b (x 8) (.ret [.c (.v (.bool false))])<|
.jp k28_1<|
.loop k28_2<|
 j 1 [i 0]
def h28 : List Hint := [.no,(.j ⟨0,[(4,(.w (.c (.a (.c (.v (.bool false)))))))],[],0⟩),(.j ⟨1,[(2,(p 0 0)),(3,(p 1 0)),(4,(.w (.c (.a (.c (.v (.bool false))))))),(5,(w 9))],[(0,(.box [(r 2 0)])),(1,(.box [(r 3 0)]))],2⟩),.no,.no,.no]
theorem q28 : symF D0 100000 28 h28 = some k28 := by kernel_rfl
def k35_1 : K :=
.ret [x 2]
def k35 : K :=
 l (.shape 12) [x 0]<|
.jp k35_1<|
 l (.part 0 11) [x 1]<|
 c 109 [x 2]<|
 b (x 3) (j 0 [.c (.v (.bool true))])<|
 l (.cell 11) [x 1]<|
 l .len [x 4]<|
 l oG [x 5,i 70]<|
 j 0 [x 6]
def h35 : List Hint := [(.j ⟨1,[(2,(w 2))],[],0⟩)]
theorem q35 : symF D0 100000 35 h35 = some k35 := by kernel_rfl
end Go.Proofs.YtfghdmmapmdcgaaGreat
namespace Go.Proofs.YtfghdmmapmdcgaaGreat
open Go.Sym Go.Sym.KP
def k36_1 : K :=
.ret [x 2]
def k36 : K :=
 l (.shape 13) [x 0]<|
.jp k36_1<|
 l (.part 0 11) [x 1]<|
 c 109 [x 2]<|
 b (x 3) (j 0 [.c (.v (.bool true))])<|
 l (.part 11 2) [x 1]<|
 c 110 [x 4]<|
 j 0 [x 5]
def h36 : List Hint := [(.j ⟨1,[(2,(w 2))],[],0⟩)]
theorem q36 : symF D0 100000 36 h36 = some k36 := by kernel_rfl
def k37_1 : K :=
.ret [x 2]
def k37 : K :=
 l (.shape 13) [x 0]<|
.jp k37_1<|
 l (.part 0 11) [x 1]<|
 c 109 [x 2]<|
 b (x 3) (j 0 [.c (.v (.bool true))])<|
 l (.part 11 2) [x 1]<|
 c 111 [x 4]<|
 j 0 [x 5]
def h37 : List Hint := [(.j ⟨1,[(2,(w 2))],[],0⟩)]
theorem q37 : symF D0 100000 37 h37 = some k37 := by kernel_rfl
def k38_1 : K :=
.ret [x 2]
def k38 : K :=
 l (.shape 12) [x 0]<|
.jp k38_1<|
 l (.part 0 11) [x 1]<|
 c 109 [x 2]<|
 b (x 3) (j 0 [.c (.v (.bool true))])<|
 l (.cell 11) [x 1]<|
 l .len [x 4]<|
 l oG [x 5,i 70]<|
 j 0 [x 6]
def h38 : List Hint := [(.j ⟨1,[(2,(w 2))],[],0⟩)]
theorem q38 : symF D0 100000 38 h38 = some k38 := by kernel_rfl
def k43 : K :=
 l (.shape 2) [x 0]<|
 l (.cell 1) [x 1]<|
 l oL [x 2,i 1]<|
 b (x 3) (.ret [i 8])<|
 l (.cell 0) [x 1]<|
 l oE [x 4,i (-9223372036854775808)]<|
 b (x 5) (.ret [i 8])<|
 l (.cell 1) [x 1]<|
 l (.conv .u64) [x 6]<|
 l (.cell 0) [x 1]<|
 c 116 [x 8]<|
 c 115 [x 7,x 9]<|
 l oG [x 10,.c (.v (.int .u64 1))]<|
 b (x 11) (.ret [i 8])<|
.ret [i 0]
def h43 : List Hint := [.no,.no]
theorem q43 : symF D0 100000 43 h43 = some k43 := by kernel_rfl
def k44 : K :=
 l (.shape 2) [x 0]<|
 c 43 [x 1]<|
 l oN [x 2,i 0]<|
 b (x 3) (.ret [x 2])<|
 l (.cell 0) [x 1]<|
 c 116 [x 4]<|
 l oG [x 5,.c (.v (.int .u64 1073741824))]<|
 b (x 6) (.ret [i 2])<|
 l (.cell 1) [x 1]<|
 l oG [x 7,i 1024]<|
 b (x 8) (.ret [i 2])<|
.ret [i 0]
def h44 : List Hint := [.no,.no,.no]
theorem q44 : symF D0 100000 44 h44 = some k44 := by kernel_rfl
def k51_1 : K :=
.ret [x 4]
def k51 : K :=
 l (.shape 12) [x 0]<|
 l (.shape 12) [x 1]<|
.jp k51_1<|
 l (.part 0 11) [x 2]<|
 l (.part 0 11) [x 3]<|
 c 134 [x 4,x 5]<|
 b (x 6) (l (.cell 11) [x 2]<|
 l (.cell 11) [x 3]<|
 c 135 [x 7,x 8]<|
 j 0 [x 9])<|
 j 0 [.c (.v (.bool false))]
def h51 : List Hint := [(.j ⟨1,[(4,(w 4))],[],0⟩)]
theorem q51 : symF D0 100000 51 h51 = some k51 := by kernel_rfl
def k52_1 : K :=
.ret [x 4]
def k52 : K :=
 l (.shape 13) [x 0]<|
 l (.shape 13) [x 1]<|
.jp k52_1<|
 l (.part 0 11) [x 2]<|
 l (.part 0 11) [x 3]<|
 c 134 [x 4,x 5]<|
 b (x 6) (l (.part 11 2) [x 2]<|
 l (.part 11 2) [x 3]<|
 c 136 [x 7,x 8]<|
 j 0 [x 9])<|
 j 0 [.c (.v (.bool false))]
def h52 : List Hint := [(.j ⟨1,[(4,(w 4))],[],0⟩)]
theorem q52 : symF D0 100000 52 h52 = some k52 := by kernel_rfl
def k53_1 : K :=
.ret [x 4]
def k53 : K :=
 l (.shape 13) [x 0]<|
 l (.shape 13) [x 1]<|
.jp k53_1<|
 l (.part 0 11) [x 2]<|
 l (.part 0 11) [x 3]<|
 c 134 [x 4,x 5]<|
 b (x 6) (l (.part 11 2) [x 2]<|
 l (.part 11 2) [x 3]<|
 c 137 [x 7,x 8]<|
 j 0 [x 9])<|
 j 0 [.c (.v (.bool false))]
def h53 : List Hint := [(.j ⟨1,[(4,(w 4))],[],0⟩)]
theorem q53 : symF D0 100000 53 h53 = some k53 := by kernel_rfl
def k54_1 : K :=
.ret [x 4]
def k54 : K :=
 l (.shape 12) [x 0]<|
 l (.shape 12) [x 1]<|
.jp k54_1<|
 l (.part 0 11) [x 2]<|
 l (.part 0 11) [x 3]<|
 c 134 [x 4,x 5]<|
 b (x 6) (l (.cell 11) [x 2]<|
 l (.cell 11) [x 3]<|
 c 135 [x 7,x 8]<|
 j 0 [x 9])<|
 j 0 [.c (.v (.bool false))]
def h54 : List Hint := [(.j ⟨1,[(4,(w 4))],[],0⟩)]
theorem q54 : symF D0 100000 54 h54 = some k54 := by kernel_rfl
def k64 : K :=
 l (.shape 2) [x 0]<|
 c 128 [x 1]<|
 l oN [x 2,i 0]<|
 b (x 3) (c 128 [x 1]<|
.ret [x 4])<|
 l (.cell 0) [x 1]<|
 l oG [x 4,i 1073741824]<|
 b (x 5) (.ret [i 2])<|
 l (.cell 0) [x 1]<|
 l oL [x 6,i (-1073741824)]<|
 b (x 7) (.ret [i 2])<|
 l (.cell 1) [x 1]<|
 l oG [x 8,i 1024]<|
 b (x 9) (.ret [i 2])<|
.ret [i 0]
def h64 : List Hint := [.no,.no,.no]
theorem q64 : symF D0 100000 64 h64 = some k64 := by kernel_rfl
def k66 : K :=
 l (.shape 51) [x 0]<|
 l (.cell 0) [x 1]<|
 l oE [x 2,.c (.v (.int .u8 1))]<|
 b (x 3) (l (.part 1 11) [x 1]<|
.ret [x 4])<|
 l (.cell 0) [x 1]<|
 l oE [x 4,.c (.v (.int .u8 2))]<|
 b (x 5) (l (.part 13 11) [x 1]<|
.ret [x 6])<|
 l (.cell 0) [x 1]<|
 l oE [x 6,.c (.v (.int .u8 3))]<|
 b (x 7) (l (.part 26 11) [x 1]<|
.ret [x 8])<|
 l (.part 39 11) [x 1]<|
.ret [x 8]
def h66 : List Hint := [.no,.no,.no,.no]
theorem q66 : symF D0 100000 66 h66 = some k66 := by kernel_rfl
def k76_1 : K :=
.ret [x 6]
def k76 : K :=
 l (.shape 11) [x 0]<|
 l (.part 5 5) [x 1]<|
 l (.part 5 3) [x 1]<|
 l (.shape 5) [x 2]<|
 l (.shape 3) [x 3]<|
.jp k76_1<|
 l (.part 0 2) [x 1]<|
 l .agg [i 0,i 0]<|
 l (.eqv [.i,.i]) [x 6,x 7]<|
 b (x 8) (l (.cell 3) [x 1]<|
 l oE [x 9,i 0]<|
 b (x 10) (l (.cell 2) [x 1]<|
 l .len [x 11]<|
 l (.cell 4) [x 1]<|
 l .len [x 13]<|
 l oA [x 12,x 14]<|
 l (.cell 3) [x 4]<|
 l .len [x 16]<|
 l oA [x 15,x 17]<|
 l (.cell 4) [x 4]<|
 l .len [x 19]<|
 l oA [x 18,x 20]<|
 l (.cell 0) [x 5]<|
 l .len [x 22]<|
 l oA [x 21,x 23]<|
 l (.cell 1) [x 5]<|
 l .len [x 25]<|
 l oA [x 24,x 26]<|
 l (.cell 2) [x 5]<|
 l .len [x 28]<|
 l oA [x 27,x 29]<|
 l (.cell 10) [x 1]<|
 l .len [x 31]<|
 l oA [x 30,x 32]<|
 l oE [x 33,i 0]<|
 j 0 [x 34])<|
 j 0 [.c (.v (.bool false))])<|
 j 0 [.c (.v (.bool false))]
def h76 : List Hint := [(.j ⟨1,[(2,(w 6))],[],0⟩)]
theorem q76 : symF D0 100000 76 h76 = some k76 := by kernel_rfl
end Go.Proofs.YtfghdmmapmdcgaaGreat
namespace Go.Proofs.YtfghdmmapmdcgaaGreat
open Go.Sym Go.Sym.KP
def k77_1 : K :=
.ret [i 0]
def k77_2 : K :=
 l oL [x 20,x 19]<|
 b (x 21) (l (.cell 4) [x 1]<|
 l (.tix 3) [x 22,x 20]<|
 l (.elt 0 3) [x 22,x 23]<|
 l (.part 1 2) [x 24]<|
 c 155 [x 13,x 25]<|
 l (.un .not) [x 26]<|
 b (x 27) (.ret [i 8])<|
 l (.part 2 1) [x 1]<|
 l (.part 0 2) [x 1]<|
 l (.cell 2) [x 24]<|
 l (.cell 1) [x 24]<|
 c 156 [x 28,x 29,x 30,x 31]<|
 l (.un .not) [x 32]<|
 b (x 33) (.ret [i 8])<|
 l oA [x 20,i 1]<|
 j 1 [x 34])<|
 j 0 []
def k77_3 : K :=
 l (.cell 11) [x 1]<|
 c 141 [x 12]<|
 l .len [x 13]<|
 l (.cell 4) [x 1]<|
 l .len [x 15]<|
 l oN [x 14,x 16]<|
 b (x 17) (.ret [i 8])<|
 l (.cell 4) [x 1]<|
 l .len [x 18]<|
.jp k77_1<|
.loop k77_2<|
 j 1 [i 0]
def k77_4 : K :=
 l oL [x 12,x 11]<|
 b (x 13) (l (.cell 2) [x 1]<|
 l (.tix 3) [x 14,x 12]<|
 l (.elt 0 3) [x 14,x 15]<|
 l (.cell 11) [x 1]<|
 l (.cell 0) [x 16]<|
 c 154 [x 17,x 18]<|
 l (.un .not) [x 19]<|
 b (x 20) (.ret [i 8])<|
 l oA [x 12,i 1]<|
 j 1 [x 21])<|
 j 0 []
def k77 : K :=
 l (.shape 12) [x 0]<|
 l (.part 0 11) [x 1]<|
 c 153 [x 2]<|
 l oN [x 3,i 0]<|
 b (x 4) (.ret [i 8])<|
 l (.cell 11) [x 1]<|
 l .len [x 5]<|
 l (.cell 2) [x 1]<|
 l .len [x 7]<|
 l oN [x 6,x 8]<|
 b (x 9) (.ret [i 8])<|
 l (.cell 2) [x 1]<|
 l .len [x 10]<|
.jp k77_3<|
.loop k77_4<|
 j 1 [i 0]
def h77 : List Hint := [.no,.no,(.j ⟨0,[(2,(wi 0)),(1,(p 0 0))],[(0,(.box (pcs (x 1) 0 12)))],1⟩),(.j ⟨1,[(1,(p 0 0)),(2,(wi 0)),(26,(.w (.c (r 1 2)))),(27,(w 11)),(28,(w 12))],[(0,(.box (pcs (x 1) 0 12)))],1⟩),.no,.no,.no,.no,(.j ⟨0,[(2,(wi 0))],[],0⟩),(.j ⟨1,[(1,(p 0 0)),(2,(wi 0)),(5,(w 13)),(53,(.w (.c (r 1 4)))),(54,(w 19)),(55,(w 20))],[(0,(.box (pcs (x 1) 0 12)))],1⟩),.no,.no,.no,.no]
theorem q77 : symF D0 100000 77 h77 = some k77 := by kernel_rfl
def k78_1 : K :=
 l (.un .not) [x 35]<|
 b (x 36) (.ret [i 8])<|
.ret [i 0]
def k78_2 : K :=
 l oH [i (-1),i 0]<|
 l (.un .not) [x 41]<|
 j 0 [x 42]
def k78_3 : K :=
 l oL [x 41,x 40]<|
 b (x 42) (l (.cell 4) [x 34]<|
 l (.tix 3) [x 43,x 41]<|
 l (.elt 0 3) [x 43,x 44]<|
 l (.part 1 2) [x 45]<|
 c 155 [x 28,x 46]<|
 l (.un .not) [x 47]<|
 b (x 48) (l oH [x 41,i 0]<|
 l (.un .not) [x 49]<|
 j 0 [x 50])<|
 l oA [x 41,i 1]<|
 j 2 [x 49])<|
 j 1 []
def k78_4 : K :=
 l (.un .not) [x 35]<|
 b (x 36) (.ret [i 8])<|
.ret [i 0]
def k78_5 : K :=
 l oH [i (-1),i 0]<|
 l (.un .not) [x 41]<|
 j 0 [x 42]
def k78_6 : K :=
 l oL [x 41,x 40]<|
 b (x 42) (l (.cell 4) [x 34]<|
 l (.tix 3) [x 43,x 41]<|
 l (.elt 0 3) [x 43,x 44]<|
 l (.part 1 2) [x 45]<|
 c 155 [x 28,x 46]<|
 l (.un .not) [x 47]<|
 b (x 48) (l oH [x 41,i 0]<|
 l (.un .not) [x 49]<|
 j 0 [x 50])<|
 l oA [x 41,i 1]<|
 j 2 [x 49])<|
 j 1 []
def k78_7 : K :=
 l (.un .not) [.c (.v (.bool true))]<|
 b (x 23) (.ret [i 8])<|
 l (.part 2 1) [x 1]<|
 l (.part 0 2) [x 1]<|
 l (.cell 11) [x 1]<|
 c 123 [x 24,x 25,x 26]<|
 l (.shape 2) [x 27]<|
 l (.cell 1) [x 29]<|
 l (.cell 12) [x 1]<|
 c 163 [x 30,x 31]<|
 l (.un .not) [x 32]<|
 b (x 33) (.ret [i 8])<|
 l (.part 0 11) [x 1]<|
.jp k78_4<|
 l .len [x 28]<|
 l (.cell 4) [x 34]<|
 l .len [x 36]<|
 l oE [x 35,x 37]<|
 b (x 38) (l (.cell 4) [x 34]<|
 l .len [x 39]<|
.jp k78_5<|
.loop k78_6<|
 j 2 [i 0])<|
 j 0 [.c (.v (.bool false))]
def k78_8 : K :=
 l (.un .not) [x 45]<|
 b (x 46) (.ret [i 8])<|
.ret [i 0]
def k78_9 : K :=
 l oH [i (-1),i 0]<|
 l (.un .not) [x 51]<|
 j 2 [x 52]
def k78_10 : K :=
 l oL [x 51,x 50]<|
 b (x 52) (l (.cell 4) [x 44]<|
 l (.tix 3) [x 53,x 51]<|
 l (.elt 0 3) [x 53,x 54]<|
 l (.part 1 2) [x 55]<|
 c 155 [x 38,x 56]<|
 l (.un .not) [x 57]<|
 b (x 58) (l oH [x 51,i 0]<|
 l (.un .not) [x 59]<|
 j 2 [x 60])<|
 l oA [x 51,i 1]<|
 j 4 [x 59])<|
 j 3 []
def k78_11 : K :=
 l oL [x 23,x 15]<|
 b (x 24) (l .ix [x 23,x 15]<|
 l (.elt 0 0) [x 19,x 25]<|
 l (.cell 2) [x 1]<|
 l (.tix 3) [x 27,x 23]<|
 l (.elt 0 3) [x 27,x 28]<|
 l (.cell 0) [x 29]<|
 l oE [x 26,x 30]<|
 l (.un .not) [x 31]<|
 b (x 32) (l (.un .not) [.c (.v (.bool false))]<|
 b (x 33) (.ret [i 8])<|
 l (.part 2 1) [x 1]<|
 l (.part 0 2) [x 1]<|
 l (.cell 11) [x 1]<|
 c 123 [x 34,x 35,x 36]<|
 l (.shape 2) [x 37]<|
 l (.cell 1) [x 39]<|
 l (.cell 12) [x 1]<|
 c 163 [x 40,x 41]<|
 l (.un .not) [x 42]<|
 b (x 43) (.ret [i 8])<|
 l (.part 0 11) [x 1]<|
.jp k78_8<|
 l .len [x 38]<|
 l (.cell 4) [x 44]<|
 l .len [x 46]<|
 l oE [x 45,x 47]<|
 b (x 48) (l (.cell 4) [x 44]<|
 l .len [x 49]<|
.jp k78_9<|
.loop k78_10<|
 j 4 [i 0])<|
 j 2 [.c (.v (.bool false))])<|
 l oA [x 23,i 1]<|
 j 1 [x 33])<|
 j 0 []
def k78_12 : K :=
 l (.un .not) [x 43]<|
 b (x 44) (.ret [i 8])<|
.ret [i 0]
def k78_13 : K :=
 l oH [i (-1),i 0]<|
 l (.un .not) [x 49]<|
 j 0 [x 50]
def k78_14 : K :=
 l oL [x 49,x 48]<|
 b (x 50) (l (.cell 4) [x 42]<|
 l (.tix 3) [x 51,x 49]<|
 l (.elt 0 3) [x 51,x 52]<|
 l (.part 1 2) [x 53]<|
 c 155 [x 36,x 54]<|
 l (.un .not) [x 55]<|
 b (x 56) (l oH [x 49,i 0]<|
 l (.un .not) [x 57]<|
 j 0 [x 58])<|
 l oA [x 49,i 1]<|
 j 2 [x 57])<|
 j 1 []
def k78_15 : K :=
 l (.un .not) [x 43]<|
 b (x 44) (.ret [i 8])<|
.ret [i 0]
def k78_16 : K :=
 l oH [i (-1),i 0]<|
 l (.un .not) [x 49]<|
 j 0 [x 50]
def k78_17 : K :=
 l oL [x 49,x 48]<|
 b (x 50) (l (.cell 4) [x 42]<|
 l (.tix 3) [x 51,x 49]<|
 l (.elt 0 3) [x 51,x 52]<|
 l (.part 1 2) [x 53]<|
 c 155 [x 36,x 54]<|
 l (.un .not) [x 55]<|
 b (x 56) (l oH [x 49,i 0]<|
 l (.un .not) [x 57]<|
 j 0 [x 58])<|
 l oA [x 49,i 1]<|
 j 2 [x 57])<|
 j 1 []
def k78_18 : K :=
 l (.un .not) [.c (.v (.bool true))]<|
 b (x 31) (.ret [i 8])<|
 l (.part 2 1) [x 1]<|
 l (.part 0 2) [x 1]<|
 l (.cell 11) [x 1]<|
 c 123 [x 32,x 33,x 34]<|
 l (.shape 2) [x 35]<|
 l (.cell 1) [x 37]<|
 l (.cell 12) [x 1]<|
 c 163 [x 38,x 39]<|
 l (.un .not) [x 40]<|
 b (x 41) (.ret [i 8])<|
 l (.part 0 11) [x 1]<|
.jp k78_15<|
 l .len [x 36]<|
 l (.cell 4) [x 42]<|
 l .len [x 44]<|
 l oE [x 43,x 45]<|
 b (x 46) (l (.cell 4) [x 42]<|
 l .len [x 47]<|
.jp k78_16<|
.loop k78_17<|
 j 2 [i 0])<|
 j 0 [.c (.v (.bool false))]
def k78_19 : K :=
 l (.un .not) [x 53]<|
 b (x 54) (.ret [i 8])<|
.ret [i 0]
def k78_20 : K :=
 l oH [i (-1),i 0]<|
 l (.un .not) [x 59]<|
 j 2 [x 60]
def k78_21 : K :=
 l oL [x 59,x 58]<|
 b (x 60) (l (.cell 4) [x 52]<|
 l (.tix 3) [x 61,x 59]<|
 l (.elt 0 3) [x 61,x 62]<|
 l (.part 1 2) [x 63]<|
 c 155 [x 46,x 64]<|
 l (.un .not) [x 65]<|
 b (x 66) (l oH [x 59,i 0]<|
 l (.un .not) [x 67]<|
 j 2 [x 68])<|
 l oA [x 59,i 1]<|
 j 4 [x 67])<|
 j 3 []
def k78_22 : K :=
 l oL [x 31,x 24]<|
 b (x 32) (l .ix [x 31,x 24]<|
 l (.elt 0 0) [x 27,x 33]<|
 l (.cell 2) [x 1]<|
 l (.tix 3) [x 35,x 31]<|
 l (.elt 0 3) [x 35,x 36]<|
 l (.cell 0) [x 37]<|
 l oE [x 34,x 38]<|
 l (.un .not) [x 39]<|
 b (x 40) (l (.un .not) [.c (.v (.bool false))]<|
 b (x 41) (.ret [i 8])<|
 l (.part 2 1) [x 1]<|
 l (.part 0 2) [x 1]<|
 l (.cell 11) [x 1]<|
 c 123 [x 42,x 43,x 44]<|
 l (.shape 2) [x 45]<|
 l (.cell 1) [x 47]<|
 l (.cell 12) [x 1]<|
 c 163 [x 48,x 49]<|
 l (.un .not) [x 50]<|
 b (x 51) (.ret [i 8])<|
 l (.part 0 11) [x 1]<|
.jp k78_19<|
 l .len [x 46]<|
 l (.cell 4) [x 52]<|
 l .len [x 54]<|
 l oE [x 53,x 55]<|
 b (x 56) (l (.cell 4) [x 52]<|
 l .len [x 57]<|
.jp k78_20<|
.loop k78_21<|
 j 4 [i 0])<|
 j 2 [.c (.v (.bool false))])<|
 l oA [x 31,i 1]<|
 j 1 [x 41])<|
 j 0 []
def k78_23 : K :=
 l .bnd [x 18,x 15]<|
 l .sum [i 0,x 20]<|
 l .dif [x 15,x 20]<|
 l (.clr [z]) [x 19,x 21,x 22]<|
 l .bnd [x 18,x 15]<|
 l .sub [x 23,i 0,x 24]<|
 c 160 [.c (.sl []),x 25]<|
 l (.appK 0 1) [x 23,i 0,x 26]<|
 l (.cell 2) [x 1]<|
 l .len [x 28]<|
 l oN [x 24,x 29]<|
 b (x 30) (l (.un .not) [.c (.v (.bool false))]<|
 b (x 31) (.ret [i 8])<|
 l (.part 2 1) [x 1]<|
 l (.part 0 2) [x 1]<|
 l (.cell 11) [x 1]<|
 c 123 [x 32,x 33,x 34]<|
 l (.shape 2) [x 35]<|
 l (.cell 1) [x 37]<|
 l (.cell 12) [x 1]<|
 c 163 [x 38,x 39]<|
 l (.un .not) [x 40]<|
 b (x 41) (.ret [i 8])<|
 l (.part 0 11) [x 1]<|
.jp k78_12<|
 l .len [x 36]<|
 l (.cell 4) [x 42]<|
 l .len [x 44]<|
 l oE [x 43,x 45]<|
 b (x 46) (l (.cell 4) [x 42]<|
 l .len [x 47]<|
.jp k78_13<|
.loop k78_14<|
 j 2 [i 0])<|
 j 0 [.c (.v (.bool false))])<|
.jp k78_18<|
.loop k78_22<|
 j 1 [i 0]
def k78_24 : K :=
 l oA [x 20,i 1]<|
 j 1 [x 26,x 27,x 28]
def k78_25 : K :=
 l oL [x 20,x 15]<|
 b (x 21) (l .ix [x 20,x 15]<|
 l (.elt 0 0) [x 18,x 22]<|
 l oL [x 23,i 0]<|
 l (.un .not) [x 24]<|
.jp k78_24<|
 b (x 25) (l .ix [x 19,x 15]<|
 l (.set 0) [x 18,x 26,x 23]<|
 l oA [x 19,i 1]<|
 j 2 [x 27,x 28])<|
 j 2 [x 18,x 19])<|
 j 0 [x 19,x 18]
def k78_26 : K :=
 l oE [i (-1),i (-1)]<|
 b (x 16) (l .sub [x 14,i 0,x 15]<|
 c 160 [.c (.sl []),x 17]<|
 l (.appK 0 1) [x 14,i 0,x 18]<|
 l (.cell 2) [x 1]<|
 l .len [x 20]<|
 l oN [x 15,x 21]<|
 b (x 22) (l (.un .not) [.c (.v (.bool false))]<|
 b (x 23) (.ret [i 8])<|
 l (.part 2 1) [x 1]<|
 l (.part 0 2) [x 1]<|
 l (.cell 11) [x 1]<|
 c 123 [x 24,x 25,x 26]<|
 l (.shape 2) [x 27]<|
 l (.cell 1) [x 29]<|
 l (.cell 12) [x 1]<|
 c 163 [x 30,x 31]<|
 l (.un .not) [x 32]<|
 b (x 33) (.ret [i 8])<|
 l (.part 0 11) [x 1]<|
.jp k78_1<|
 l .len [x 28]<|
 l (.cell 4) [x 34]<|
 l .len [x 36]<|
 l oE [x 35,x 37]<|
 b (x 38) (l (.cell 4) [x 34]<|
 l .len [x 39]<|
.jp k78_2<|
.loop k78_3<|
 j 2 [i 0])<|
 j 0 [.c (.v (.bool false))])<|
.jp k78_7<|
.loop k78_11<|
 j 1 [i 0])<|
 l oA [i (-1),i 1]<|
.jp k78_23<|
.loop k78_25<|
 j 1 [x 14,i (-1),x 17]
def k78_27 : K :=
 l (.un .not) [x 40]<|
 b (x 41) (.ret [i 8])<|
.ret [i 0]
def k78_28 : K :=
 l oH [i (-1),i 0]<|
 l (.un .not) [x 46]<|
 j 2 [x 47]
def k78_29 : K :=
 l oL [x 46,x 45]<|
 b (x 47) (l (.cell 4) [x 39]<|
 l (.tix 3) [x 48,x 46]<|
 l (.elt 0 3) [x 48,x 49]<|
 l (.part 1 2) [x 50]<|
 c 155 [x 33,x 51]<|
 l (.un .not) [x 52]<|
 b (x 53) (l oH [x 46,i 0]<|
 l (.un .not) [x 54]<|
 j 2 [x 55])<|
 l oA [x 46,i 1]<|
 j 4 [x 54])<|
 j 3 []
def k78_30 : K :=
 l (.un .not) [x 40]<|
 b (x 41) (.ret [i 8])<|
.ret [i 0]
def k78_31 : K :=
 l oH [i (-1),i 0]<|
 l (.un .not) [x 46]<|
 j 2 [x 47]
def k78_32 : K :=
 l oL [x 46,x 45]<|
 b (x 47) (l (.cell 4) [x 39]<|
 l (.tix 3) [x 48,x 46]<|
 l (.elt 0 3) [x 48,x 49]<|
 l (.part 1 2) [x 50]<|
 c 155 [x 33,x 51]<|
 l (.un .not) [x 52]<|
 b (x 53) (l oH [x 46,i 0]<|
 l (.un .not) [x 54]<|
 j 2 [x 55])<|
 l oA [x 46,i 1]<|
 j 4 [x 54])<|
 j 3 []
def k78_33 : K :=
 l (.un .not) [.c (.v (.bool true))]<|
 b (x 28) (.ret [i 8])<|
 l (.part 2 1) [x 1]<|
 l (.part 0 2) [x 1]<|
 l (.cell 11) [x 1]<|
 c 123 [x 29,x 30,x 31]<|
 l (.shape 2) [x 32]<|
 l (.cell 1) [x 34]<|
 l (.cell 12) [x 1]<|
 c 163 [x 35,x 36]<|
 l (.un .not) [x 37]<|
 b (x 38) (.ret [i 8])<|
 l (.part 0 11) [x 1]<|
.jp k78_30<|
 l .len [x 33]<|
 l (.cell 4) [x 39]<|
 l .len [x 41]<|
 l oE [x 40,x 42]<|
 b (x 43) (l (.cell 4) [x 39]<|
 l .len [x 44]<|
.jp k78_31<|
.loop k78_32<|
 j 4 [i 0])<|
 j 2 [.c (.v (.bool false))]
def k78_34 : K :=
 l (.un .not) [x 50]<|
 b (x 51) (.ret [i 8])<|
.ret [i 0]
def k78_35 : K :=
 l oH [i (-1),i 0]<|
 l (.un .not) [x 56]<|
 j 4 [x 57]
def k78_36 : K :=
 l oL [x 56,x 55]<|
 b (x 57) (l (.cell 4) [x 49]<|
 l (.tix 3) [x 58,x 56]<|
 l (.elt 0 3) [x 58,x 59]<|
 l (.part 1 2) [x 60]<|
 c 155 [x 43,x 61]<|
 l (.un .not) [x 62]<|
 b (x 63) (l oH [x 56,i 0]<|
 l (.un .not) [x 64]<|
 j 4 [x 65])<|
 l oA [x 56,i 1]<|
 j 6 [x 64])<|
 j 5 []
def k78_37 : K :=
 l oL [x 28,x 15]<|
 b (x 29) (l .ix [x 28,x 15]<|
 l (.elt 0 0) [x 24,x 30]<|
 l (.cell 2) [x 1]<|
 l (.tix 3) [x 32,x 28]<|
 l (.elt 0 3) [x 32,x 33]<|
 l (.cell 0) [x 34]<|
 l oE [x 31,x 35]<|
 l (.un .not) [x 36]<|
 b (x 37) (l (.un .not) [.c (.v (.bool false))]<|
 b (x 38) (.ret [i 8])<|
 l (.part 2 1) [x 1]<|
 l (.part 0 2) [x 1]<|
 l (.cell 11) [x 1]<|
 c 123 [x 39,x 40,x 41]<|
 l (.shape 2) [x 42]<|
 l (.cell 1) [x 44]<|
 l (.cell 12) [x 1]<|
 c 163 [x 45,x 46]<|
 l (.un .not) [x 47]<|
 b (x 48) (.ret [i 8])<|
 l (.part 0 11) [x 1]<|
.jp k78_34<|
 l .len [x 43]<|
 l (.cell 4) [x 49]<|
 l .len [x 51]<|
 l oE [x 50,x 52]<|
 b (x 53) (l (.cell 4) [x 49]<|
 l .len [x 54]<|
.jp k78_35<|
.loop k78_36<|
 j 6 [i 0])<|
 j 4 [.c (.v (.bool false))])<|
 l oA [x 28,i 1]<|
 j 3 [x 38])<|
 j 2 []
def k78_38 : K :=
 l (.un .not) [x 48]<|
 b (x 49) (.ret [i 8])<|
.ret [i 0]
def k78_39 : K :=
 l oH [i (-1),i 0]<|
 l (.un .not) [x 54]<|
 j 2 [x 55]
def k78_40 : K :=
 l oL [x 54,x 53]<|
 b (x 55) (l (.cell 4) [x 47]<|
 l (.tix 3) [x 56,x 54]<|
 l (.elt 0 3) [x 56,x 57]<|
 l (.part 1 2) [x 58]<|
 c 155 [x 41,x 59]<|
 l (.un .not) [x 60]<|
 b (x 61) (l oH [x 54,i 0]<|
 l (.un .not) [x 62]<|
 j 2 [x 63])<|
 l oA [x 54,i 1]<|
 j 4 [x 62])<|
 j 3 []
def k78_41 : K :=
 l (.un .not) [x 48]<|
 b (x 49) (.ret [i 8])<|
.ret [i 0]
def k78_42 : K :=
 l oH [i (-1),i 0]<|
 l (.un .not) [x 54]<|
 j 2 [x 55]
def k78_43 : K :=
 l oL [x 54,x 53]<|
 b (x 55) (l (.cell 4) [x 47]<|
 l (.tix 3) [x 56,x 54]<|
 l (.elt 0 3) [x 56,x 57]<|
 l (.part 1 2) [x 58]<|
 c 155 [x 41,x 59]<|
 l (.un .not) [x 60]<|
 b (x 61) (l oH [x 54,i 0]<|
 l (.un .not) [x 62]<|
 j 2 [x 63])<|
 l oA [x 54,i 1]<|
 j 4 [x 62])<|
 j 3 []
def k78_44 : K :=
 l (.un .not) [.c (.v (.bool true))]<|
 b (x 36) (.ret [i 8])<|
 l (.part 2 1) [x 1]<|
 l (.part 0 2) [x 1]<|
 l (.cell 11) [x 1]<|
 c 123 [x 37,x 38,x 39]<|
 l (.shape 2) [x 40]<|
 l (.cell 1) [x 42]<|
 l (.cell 12) [x 1]<|
 c 163 [x 43,x 44]<|
 l (.un .not) [x 45]<|
 b (x 46) (.ret [i 8])<|
 l (.part 0 11) [x 1]<|
.jp k78_41<|
 l .len [x 41]<|
 l (.cell 4) [x 47]<|
 l .len [x 49]<|
 l oE [x 48,x 50]<|
 b (x 51) (l (.cell 4) [x 47]<|
 l .len [x 52]<|
.jp k78_42<|
.loop k78_43<|
 j 4 [i 0])<|
 j 2 [.c (.v (.bool false))]
def k78_45 : K :=
 l (.un .not) [x 58]<|
 b (x 59) (.ret [i 8])<|
.ret [i 0]
def k78_46 : K :=
 l oH [i (-1),i 0]<|
 l (.un .not) [x 64]<|
 j 4 [x 65]
def k78_47 : K :=
 l oL [x 64,x 63]<|
 b (x 65) (l (.cell 4) [x 57]<|
 l (.tix 3) [x 66,x 64]<|
 l (.elt 0 3) [x 66,x 67]<|
 l (.part 1 2) [x 68]<|
 c 155 [x 51,x 69]<|
 l (.un .not) [x 70]<|
 b (x 71) (l oH [x 64,i 0]<|
 l (.un .not) [x 72]<|
 j 4 [x 73])<|
 l oA [x 64,i 1]<|
 j 6 [x 72])<|
 j 5 []
def k78_48 : K :=
 l oL [x 36,x 29]<|
 b (x 37) (l .ix [x 36,x 29]<|
 l (.elt 0 0) [x 32,x 38]<|
 l (.cell 2) [x 1]<|
 l (.tix 3) [x 40,x 36]<|
 l (.elt 0 3) [x 40,x 41]<|
 l (.cell 0) [x 42]<|
 l oE [x 39,x 43]<|
 l (.un .not) [x 44]<|
 b (x 45) (l (.un .not) [.c (.v (.bool false))]<|
 b (x 46) (.ret [i 8])<|
 l (.part 2 1) [x 1]<|
 l (.part 0 2) [x 1]<|
 l (.cell 11) [x 1]<|
 c 123 [x 47,x 48,x 49]<|
 l (.shape 2) [x 50]<|
 l (.cell 1) [x 52]<|
 l (.cell 12) [x 1]<|
 c 163 [x 53,x 54]<|
 l (.un .not) [x 55]<|
 b (x 56) (.ret [i 8])<|
 l (.part 0 11) [x 1]<|
.jp k78_45<|
 l .len [x 51]<|
 l (.cell 4) [x 57]<|
 l .len [x 59]<|
 l oE [x 58,x 60]<|
 b (x 61) (l (.cell 4) [x 57]<|
 l .len [x 62]<|
.jp k78_46<|
.loop k78_47<|
 j 6 [i 0])<|
 j 4 [.c (.v (.bool false))])<|
 l oA [x 36,i 1]<|
 j 3 [x 46])<|
 j 2 []
def k78_49 : K :=
 l .bnd [x 23,x 15]<|
 l .sum [i 0,x 25]<|
 l .dif [x 15,x 25]<|
 l (.clr [z]) [x 24,x 26,x 27]<|
 l .bnd [x 23,x 15]<|
 l .sub [x 28,i 0,x 29]<|
 c 160 [.c (.sl []),x 30]<|
 l (.appK 0 1) [x 28,i 0,x 31]<|
 l (.cell 2) [x 1]<|
 l .len [x 33]<|
 l oN [x 29,x 34]<|
 b (x 35) (l (.un .not) [.c (.v (.bool false))]<|
 b (x 36) (.ret [i 8])<|
 l (.part 2 1) [x 1]<|
 l (.part 0 2) [x 1]<|
 l (.cell 11) [x 1]<|
 c 123 [x 37,x 38,x 39]<|
 l (.shape 2) [x 40]<|
 l (.cell 1) [x 42]<|
 l (.cell 12) [x 1]<|
 c 163 [x 43,x 44]<|
 l (.un .not) [x 45]<|
 b (x 46) (.ret [i 8])<|
 l (.part 0 11) [x 1]<|
.jp k78_38<|
 l .len [x 41]<|
 l (.cell 4) [x 47]<|
 l .len [x 49]<|
 l oE [x 48,x 50]<|
 b (x 51) (l (.cell 4) [x 47]<|
 l .len [x 52]<|
.jp k78_39<|
.loop k78_40<|
 j 4 [i 0])<|
 j 2 [.c (.v (.bool false))])<|
.jp k78_44<|
.loop k78_48<|
 j 3 [i 0]
def k78_50 : K :=
 l oA [x 25,i 1]<|
 j 3 [x 31,x 32,x 33]
def k78_51 : K :=
 l oL [x 25,x 15]<|
 b (x 26) (l .ix [x 25,x 15]<|
 l (.elt 0 0) [x 23,x 27]<|
 l oL [x 28,i 0]<|
 l (.un .not) [x 29]<|
.jp k78_50<|
 b (x 30) (l .ix [x 24,x 15]<|
 l (.set 0) [x 23,x 31,x 28]<|
 l oA [x 24,i 1]<|
 j 4 [x 32,x 33])<|
 j 4 [x 23,x 24])<|
 j 2 [x 24,x 23]
def k78_52 : K :=
 l oL [x 16,x 15]<|
 b (x 17) (l .ix [x 16,x 15]<|
 l (.elt 0 0) [x 14,x 18]<|
 l oL [x 19,i 0]<|
 b (x 20) (l oE [x 16,i (-1)]<|
 b (x 21) (l .sub [x 14,i 0,x 15]<|
 c 160 [.c (.sl []),x 22]<|
 l (.appK 0 1) [x 14,i 0,x 23]<|
 l (.cell 2) [x 1]<|
 l .len [x 25]<|
 l oN [x 15,x 26]<|
 b (x 27) (l (.un .not) [.c (.v (.bool false))]<|
 b (x 28) (.ret [i 8])<|
 l (.part 2 1) [x 1]<|
 l (.part 0 2) [x 1]<|
 l (.cell 11) [x 1]<|
 c 123 [x 29,x 30,x 31]<|
 l (.shape 2) [x 32]<|
 l (.cell 1) [x 34]<|
 l (.cell 12) [x 1]<|
 c 163 [x 35,x 36]<|
 l (.un .not) [x 37]<|
 b (x 38) (.ret [i 8])<|
 l (.part 0 11) [x 1]<|
.jp k78_27<|
 l .len [x 33]<|
 l (.cell 4) [x 39]<|
 l .len [x 41]<|
 l oE [x 40,x 42]<|
 b (x 43) (l (.cell 4) [x 39]<|
 l .len [x 44]<|
.jp k78_28<|
.loop k78_29<|
 j 4 [i 0])<|
 j 2 [.c (.v (.bool false))])<|
.jp k78_33<|
.loop k78_37<|
 j 3 [i 0])<|
 l oA [x 16,i 1]<|
.jp k78_49<|
.loop k78_51<|
 j 3 [x 14,x 16,x 22])<|
 l oA [x 16,i 1]<|
 j 1 [x 21])<|
 j 0 []
def k78 : K :=
 l (.shape 13) [x 0]<|
 l (.cell 11) [x 1]<|
 l .len [x 2]<|
 l (.part 0 11) [x 1]<|
 c 153 [x 4]<|
 l oN [x 5,i 0]<|
 b (x 6) (.ret [i 8])<|
 l (.part 11 2) [x 1]<|
 c 157 [x 7]<|
 l oN [x 8,i 0]<|
 b (x 9) (.ret [i 8])<|
 l oS [x 3,i 1]<|
 l (.bin .and) [x 3,x 10]<|
 l oN [x 11,i 0]<|
 b (x 12) (.ret [i 8])<|
 l (.cell 11) [x 1]<|
 c 120 [x 13]<|
 l .len [x 14]<|
.jp k78_26<|
.loop k78_52<|
 j 1 [i 0]
def h78 : List Hint := [.no,.no,(.j ⟨0,[(4,(wi 0))],[(0,(.box (pcs (x 1) 0 13))),(1,(.lst (x 14) (x 15) 1 false))],2⟩),(.j ⟨1,[(1,(.w (.c (.fn 159 [] [])))),(0,(.w (.c (o 1 15)))),(4,(wi 0)),(7,(w 15)),(8,(w 16))],[(0,(.box (pcs (x 1) 0 13))),(1,(.lst (x 14) (x 15) 1 false))],2⟩),.no,.no,.no,.no,.no,.no,.no,(.j ⟨1,[(4,(w 40))],[(0,(.box (pcs (x 1) 0 13))),(1,(.lst (x 24) (x 15) 1 false)),(2,(.box [(r 34 0),(r 34 1)]))],3⟩),(.j ⟨0,[(4,(wi 0))],[(0,(.box (pcs (x 1) 0 13))),(1,(.lst (x 24) (x 15) 1 false)),(2,(.box [(r 34 0),(r 34 1)])),(3,(.box (pcs (x 39) 0 11))),(4,(.box [(a 33)]))],5⟩),(.j ⟨1,[(1,(.w (.c (.fn 256 [] [(.ptr 4 0)])))),(0,(.w (.c (r 39 4)))),(4,(wi 0)),(7,(w 45)),(8,(w 46))],[(0,(.box (pcs (x 1) 0 13))),(1,(.lst (x 24) (x 15) 1 false)),(2,(.box [(r 34 0),(r 34 1)])),(3,(.box (pcs (x 39) 0 11))),(4,(.box [(a 33)]))],5⟩),.no,.no,.no,.no,(.j ⟨0,[(6,(.w (.c (.a (.c (.v (.bool false)))))))],[(0,(.box (pcs (x 1) 0 13))),(1,(.lst (x 24) (x 15) 1 false))],2⟩),(.j ⟨1,[(2,(.w (.c (.fn 162 [] [])))),(1,(.w (.c (r 1 2)))),(6,(.w (.c (.a (.c (.v (.bool false))))))),(15,(.w (.c (o 1 15)))),(16,(w 15)),(17,(w 28))],[(0,(.box (pcs (x 1) 0 13))),(1,(.lst (x 24) (x 15) 1 false))],2⟩),.no,.no,.no,.no,.no,(.j ⟨1,[(4,(w 50))],[(0,(.box (pcs (x 1) 0 13))),(1,(.lst (x 24) (x 15) 1 false)),(2,(.box (pcs (x 34) 0 3))),(3,(.box (pcs (x 34) 0 3))),(4,(.box [(r 44 0),(r 44 1)]))],5⟩),(.j ⟨0,[(4,(wi 0))],[(0,(.box (pcs (x 1) 0 13))),(1,(.lst (x 24) (x 15) 1 false)),(2,(.box (pcs (x 34) 0 3))),(3,(.box (pcs (x 34) 0 3))),(4,(.box [(r 44 0),(r 44 1)])),(5,(.box (pcs (x 49) 0 11))),(6,(.box [(a 43)]))],7⟩),(.j ⟨1,[(1,(.w (.c (.fn 256 [] [(.ptr 6 0)])))),(0,(.w (.c (r 49 4)))),(4,(wi 0)),(7,(w 55)),(8,(w 56))],[(0,(.box (pcs (x 1) 0 13))),(1,(.lst (x 24) (x 15) 1 false)),(2,(.box (pcs (x 34) 0 3))),(3,(.box (pcs (x 34) 0 3))),(4,(.box [(r 44 0),(r 44 1)])),(5,(.box (pcs (x 49) 0 11))),(6,(.box [(a 43)]))],7⟩),.no,.no,.no,.no,.no,.no,(.j ⟨1,[(4,(w 40))],[(0,(.box (pcs (x 1) 0 13))),(1,(.lst (x 24) (x 15) 1 false)),(2,(.box [(r 34 0),(r 34 1)]))],3⟩),(.j ⟨0,[(4,(wi 0))],[(0,(.box (pcs (x 1) 0 13))),(1,(.lst (x 24) (x 15) 1 false)),(2,(.box [(r 34 0),(r 34 1)])),(3,(.box (pcs (x 39) 0 11))),(4,(.box [(a 33)]))],5⟩),(.j ⟨1,[(1,(.w (.c (.fn 256 [] [(.ptr 4 0)])))),(0,(.w (.c (r 39 4)))),(4,(wi 0)),(7,(w 45)),(8,(w 46))],[(0,(.box (pcs (x 1) 0 13))),(1,(.lst (x 24) (x 15) 1 false)),(2,(.box [(r 34 0),(r 34 1)])),(3,(.box (pcs (x 39) 0 11))),(4,(.box [(a 33)]))],5⟩),.no,.no,.no,.no,(.j ⟨2,[(5,(w 23)),(4,(.w (.c .nil))),(0,(.w (.c (o 1 15))))],[(0,(.box (pcs (x 1) 0 13))),(1,(.lst (x 24) (x 15) 1 false))],2⟩),(.j ⟨3,[(1,(.w (.c (.fn 159 [] [])))),(0,(.w (.c (o 1 15)))),(4,(.w (.c .nil))),(5,(w 24)),(6,(w 25))],[(0,(.box (pcs (x 1) 0 13))),(1,(.lst (x 23) (x 15) 1 false))],2⟩),.no,.no,(.j ⟨2,[(6,(w 25)),(4,(.w (.c .nil))),(0,(.w (.c (o 1 15)))),(1,(.w (.c (.fn 159 [] [])))),(16,(w 25)),(17,(.w (.c (o 1 15)))),(18,(w 15)),(19,(w 26)),(22,(.w (.c (o 1 15)))),(23,(w 25)),(24,(.w (.c (.ep 1 (x 27) 0)))),(25,(w 28)),(7,(w 28)),(26,(.w (.c (.fn 159 [] [])))),(27,(w 28)),(28,(w 29)),(29,(w 30)),(5,(w 32))],[(0,(.box (pcs (x 1) 0 13))),(1,(.lst (x 31) (x 15) 1 false))],2⟩),.no,.no,.no,(.j ⟨1,[(4,(w 48))],[(0,(.box (pcs (x 1) 0 13))),(1,(.lst (x 32) (x 15) 1 false)),(2,(.box [(r 42 0),(r 42 1)]))],3⟩),(.j ⟨0,[(4,(wi 0))],[(0,(.box (pcs (x 1) 0 13))),(1,(.lst (x 32) (x 15) 1 false)),(2,(.box [(r 42 0),(r 42 1)])),(3,(.box (pcs (x 47) 0 11))),(4,(.box [(a 41)]))],5⟩),(.j ⟨1,[(1,(.w (.c (.fn 256 [] [(.ptr 4 0)])))),(0,(.w (.c (r 47 4)))),(4,(wi 0)),(7,(w 53)),(8,(w 54))],[(0,(.box (pcs (x 1) 0 13))),(1,(.lst (x 32) (x 15) 1 false)),(2,(.box [(r 42 0),(r 42 1)])),(3,(.box (pcs (x 47) 0 11))),(4,(.box [(a 41)]))],5⟩),.no,.no,.no,.no,(.j ⟨0,[(6,(.w (.c (.a (.c (.v (.bool false)))))))],[(0,(.box (pcs (x 1) 0 13))),(1,(.lst (x 32) (x 15) 1 false))],2⟩),(.j ⟨1,[(2,(.w (.c (.fn 162 [] [])))),(1,(.w (.c (r 1 2)))),(6,(.w (.c (.a (.c (.v (.bool false))))))),(15,(.w (.c (o 1 29)))),(16,(w 29)),(17,(w 36))],[(0,(.box (pcs (x 1) 0 13))),(1,(.lst (x 32) (x 15) 1 false))],2⟩),.no,.no,.no,.no,.no,(.j ⟨1,[(4,(w 58))],[(0,(.box (pcs (x 1) 0 13))),(1,(.lst (x 32) (x 15) 1 false)),(2,(.box (pcs (x 42) 0 3))),(3,(.box (pcs (x 42) 0 3))),(4,(.box [(r 52 0),(r 52 1)]))],5⟩),(.j ⟨0,[(4,(wi 0))],[(0,(.box (pcs (x 1) 0 13))),(1,(.lst (x 32) (x 15) 1 false)),(2,(.box (pcs (x 42) 0 3))),(3,(.box (pcs (x 42) 0 3))),(4,(.box [(r 52 0),(r 52 1)])),(5,(.box (pcs (x 57) 0 11))),(6,(.box [(a 51)]))],7⟩),(.j ⟨1,[(1,(.w (.c (.fn 256 [] [(.ptr 6 0)])))),(0,(.w (.c (r 57 4)))),(4,(wi 0)),(7,(w 63)),(8,(w 64))],[(0,(.box (pcs (x 1) 0 13))),(1,(.lst (x 32) (x 15) 1 false)),(2,(.box (pcs (x 42) 0 3))),(3,(.box (pcs (x 42) 0 3))),(4,(.box [(r 52 0),(r 52 1)])),(5,(.box (pcs (x 57) 0 11))),(6,(.box [(a 51)]))],7⟩),.no,.no,.no,.no,.no,.no,(.j ⟨1,[(4,(w 48))],[(0,(.box (pcs (x 1) 0 13))),(1,(.lst (x 32) (x 15) 1 false)),(2,(.box [(r 42 0),(r 42 1)]))],3⟩),(.j ⟨0,[(4,(wi 0))],[(0,(.box (pcs (x 1) 0 13))),(1,(.lst (x 32) (x 15) 1 false)),(2,(.box [(r 42 0),(r 42 1)])),(3,(.box (pcs (x 47) 0 11))),(4,(.box [(a 41)]))],5⟩),(.j ⟨1,[(1,(.w (.c (.fn 256 [] [(.ptr 4 0)])))),(0,(.w (.c (r 47 4)))),(4,(wi 0)),(7,(w 53)),(8,(w 54))],[(0,(.box (pcs (x 1) 0 13))),(1,(.lst (x 32) (x 15) 1 false)),(2,(.box [(r 42 0),(r 42 1)])),(3,(.box (pcs (x 47) 0 11))),(4,(.box [(a 41)]))],5⟩),.no,.no,.no,.no,.no,.no,.no,.no,(.j ⟨1,[(4,(w 35))],[(0,(.box (pcs (x 1) 0 13))),(1,(.lst (x 19) (x 15) 1 false)),(2,(.box [(r 29 0),(r 29 1)]))],3⟩),(.j ⟨0,[(4,(wi 0))],[(0,(.box (pcs (x 1) 0 13))),(1,(.lst (x 19) (x 15) 1 false)),(2,(.box [(r 29 0),(r 29 1)])),(3,(.box (pcs (x 34) 0 11))),(4,(.box [(a 28)]))],5⟩),(.j ⟨1,[(1,(.w (.c (.fn 256 [] [(.ptr 4 0)])))),(0,(.w (.c (r 34 4)))),(4,(wi 0)),(7,(w 40)),(8,(w 41))],[(0,(.box (pcs (x 1) 0 13))),(1,(.lst (x 19) (x 15) 1 false)),(2,(.box [(r 29 0),(r 29 1)])),(3,(.box (pcs (x 34) 0 11))),(4,(.box [(a 28)]))],5⟩),.no,.no,.no,.no,(.j ⟨0,[(6,(.w (.c (.a (.c (.v (.bool false)))))))],[(0,(.box (pcs (x 1) 0 13))),(1,(.lst (x 19) (x 15) 1 false))],2⟩),(.j ⟨1,[(2,(.w (.c (.fn 162 [] [])))),(1,(.w (.c (r 1 2)))),(6,(.w (.c (.a (.c (.v (.bool false))))))),(15,(.w (.c (o 1 15)))),(16,(w 15)),(17,(w 23))],[(0,(.box (pcs (x 1) 0 13))),(1,(.lst (x 19) (x 15) 1 false))],2⟩),.no,.no,.no,.no,.no,(.j ⟨1,[(4,(w 45))],[(0,(.box (pcs (x 1) 0 13))),(1,(.lst (x 19) (x 15) 1 false)),(2,(.box (pcs (x 29) 0 3))),(3,(.box (pcs (x 29) 0 3))),(4,(.box [(r 39 0),(r 39 1)]))],5⟩),(.j ⟨0,[(4,(wi 0))],[(0,(.box (pcs (x 1) 0 13))),(1,(.lst (x 19) (x 15) 1 false)),(2,(.box (pcs (x 29) 0 3))),(3,(.box (pcs (x 29) 0 3))),(4,(.box [(r 39 0),(r 39 1)])),(5,(.box (pcs (x 44) 0 11))),(6,(.box [(a 38)]))],7⟩),(.j ⟨1,[(1,(.w (.c (.fn 256 [] [(.ptr 6 0)])))),(0,(.w (.c (r 44 4)))),(4,(wi 0)),(7,(w 50)),(8,(w 51))],[(0,(.box (pcs (x 1) 0 13))),(1,(.lst (x 19) (x 15) 1 false)),(2,(.box (pcs (x 29) 0 3))),(3,(.box (pcs (x 29) 0 3))),(4,(.box [(r 39 0),(r 39 1)])),(5,(.box (pcs (x 44) 0 11))),(6,(.box [(a 38)]))],7⟩),.no,.no,.no,.no,.no,.no,(.j ⟨1,[(4,(w 35))],[(0,(.box (pcs (x 1) 0 13))),(1,(.lst (x 19) (x 15) 1 false)),(2,(.box [(r 29 0),(r 29 1)]))],3⟩),(.j ⟨0,[(4,(wi 0))],[(0,(.box (pcs (x 1) 0 13))),(1,(.lst (x 19) (x 15) 1 false)),(2,(.box [(r 29 0),(r 29 1)])),(3,(.box (pcs (x 34) 0 11))),(4,(.box [(a 28)]))],5⟩),(.j ⟨1,[(1,(.w (.c (.fn 256 [] [(.ptr 4 0)])))),(0,(.w (.c (r 34 4)))),(4,(wi 0)),(7,(w 40)),(8,(w 41))],[(0,(.box (pcs (x 1) 0 13))),(1,(.lst (x 19) (x 15) 1 false)),(2,(.box [(r 29 0),(r 29 1)])),(3,(.box (pcs (x 34) 0 11))),(4,(.box [(a 28)]))],5⟩),.no,.no,.no,.no,(.j ⟨2,[(5,(w 18)),(4,(.w (.c .nil))),(0,(.w (.c (o 1 15))))],[(0,(.box (pcs (x 1) 0 13))),(1,(.lst (x 19) (x 15) 1 false))],2⟩),(.j ⟨3,[(1,(.w (.c (.fn 159 [] [])))),(0,(.w (.c (o 1 15)))),(4,(.w (.c .nil))),(5,(w 19)),(6,(w 20))],[(0,(.box (pcs (x 1) 0 13))),(1,(.lst (x 18) (x 15) 1 false))],2⟩),.no,.no,(.j ⟨2,[(6,(w 20)),(4,(.w (.c .nil))),(0,(.w (.c (o 1 15)))),(1,(.w (.c (.fn 159 [] [])))),(16,(w 20)),(17,(.w (.c (o 1 15)))),(18,(w 15)),(19,(w 21)),(22,(.w (.c (o 1 15)))),(23,(w 20)),(24,(.w (.c (.ep 1 (x 22) 0)))),(25,(w 23)),(7,(w 23)),(26,(.w (.c (.fn 159 [] [])))),(27,(w 23)),(28,(w 24)),(29,(w 25)),(5,(w 27))],[(0,(.box (pcs (x 1) 0 13))),(1,(.lst (x 26) (x 15) 1 false))],2⟩),.no,.no,.no,(.j ⟨1,[(4,(w 43))],[(0,(.box (pcs (x 1) 0 13))),(1,(.lst (x 27) (x 15) 1 false)),(2,(.box [(r 37 0),(r 37 1)]))],3⟩),(.j ⟨0,[(4,(wi 0))],[(0,(.box (pcs (x 1) 0 13))),(1,(.lst (x 27) (x 15) 1 false)),(2,(.box [(r 37 0),(r 37 1)])),(3,(.box (pcs (x 42) 0 11))),(4,(.box [(a 36)]))],5⟩),(.j ⟨1,[(1,(.w (.c (.fn 256 [] [(.ptr 4 0)])))),(0,(.w (.c (r 42 4)))),(4,(wi 0)),(7,(w 48)),(8,(w 49))],[(0,(.box (pcs (x 1) 0 13))),(1,(.lst (x 27) (x 15) 1 false)),(2,(.box [(r 37 0),(r 37 1)])),(3,(.box (pcs (x 42) 0 11))),(4,(.box [(a 36)]))],5⟩),.no,.no,.no,.no,(.j ⟨0,[(6,(.w (.c (.a (.c (.v (.bool false)))))))],[(0,(.box (pcs (x 1) 0 13))),(1,(.lst (x 27) (x 15) 1 false))],2⟩),(.j ⟨1,[(2,(.w (.c (.fn 162 [] [])))),(1,(.w (.c (r 1 2)))),(6,(.w (.c (.a (.c (.v (.bool false))))))),(15,(.w (.c (o 1 24)))),(16,(w 24)),(17,(w 31))],[(0,(.box (pcs (x 1) 0 13))),(1,(.lst (x 27) (x 15) 1 false))],2⟩),.no,.no,.no,.no,.no,(.j ⟨1,[(4,(w 53))],[(0,(.box (pcs (x 1) 0 13))),(1,(.lst (x 27) (x 15) 1 false)),(2,(.box (pcs (x 37) 0 3))),(3,(.box (pcs (x 37) 0 3))),(4,(.box [(r 47 0),(r 47 1)]))],5⟩),(.j ⟨0,[(4,(wi 0))],[(0,(.box (pcs (x 1) 0 13))),(1,(.lst (x 27) (x 15) 1 false)),(2,(.box (pcs (x 37) 0 3))),(3,(.box (pcs (x 37) 0 3))),(4,(.box [(r 47 0),(r 47 1)])),(5,(.box (pcs (x 52) 0 11))),(6,(.box [(a 46)]))],7⟩),(.j ⟨1,[(1,(.w (.c (.fn 256 [] [(.ptr 6 0)])))),(0,(.w (.c (r 52 4)))),(4,(wi 0)),(7,(w 58)),(8,(w 59))],[(0,(.box (pcs (x 1) 0 13))),(1,(.lst (x 27) (x 15) 1 false)),(2,(.box (pcs (x 37) 0 3))),(3,(.box (pcs (x 37) 0 3))),(4,(.box [(r 47 0),(r 47 1)])),(5,(.box (pcs (x 52) 0 11))),(6,(.box [(a 46)]))],7⟩),.no,.no,.no,.no,.no,.no,(.j ⟨1,[(4,(w 43))],[(0,(.box (pcs (x 1) 0 13))),(1,(.lst (x 27) (x 15) 1 false)),(2,(.box [(r 37 0),(r 37 1)]))],3⟩),(.j ⟨0,[(4,(wi 0))],[(0,(.box (pcs (x 1) 0 13))),(1,(.lst (x 27) (x 15) 1 false)),(2,(.box [(r 37 0),(r 37 1)])),(3,(.box (pcs (x 42) 0 11))),(4,(.box [(a 36)]))],5⟩),(.j ⟨1,[(1,(.w (.c (.fn 256 [] [(.ptr 4 0)])))),(0,(.w (.c (r 42 4)))),(4,(wi 0)),(7,(w 48)),(8,(w 49))],[(0,(.box (pcs (x 1) 0 13))),(1,(.lst (x 27) (x 15) 1 false)),(2,(.box [(r 37 0),(r 37 1)])),(3,(.box (pcs (x 42) 0 11))),(4,(.box [(a 36)]))],5⟩),.no,.no,.no,.no]
theorem q78 : symF D0 100000 78 h78 = some k78 := by kernel_rfl
def k79_1 : K :=
 l (.un .not) [x 18]<|
 b (x 19) (.ret [i 8])<|
.ret [i 0]
def k79_2 : K :=
 l oH [i (-1),i 0]<|
 l (.un .not) [x 24]<|
 j 0 [x 25]
def k79_3 : K :=
 l oL [x 24,x 23]<|
 b (x 25) (l (.cell 4) [x 17]<|
 l (.tix 3) [x 26,x 24]<|
 l (.elt 0 3) [x 26,x 27]<|
 l (.part 1 2) [x 28]<|
 c 155 [x 8,x 29]<|
 l (.un .not) [x 30]<|
 b (x 31) (l oH [x 24,i 0]<|
 l (.un .not) [x 32]<|
 j 0 [x 33])<|
 l oA [x 24,i 1]<|
 j 2 [x 32])<|
 j 1 []
def k79 : K :=
 l (.shape 13) [x 0]<|
 l (.part 0 11) [x 1]<|
 c 153 [x 2]<|
 l oN [x 3,i 0]<|
 b (x 4) (.ret [i 8])<|
 l (.part 2 1) [x 1]<|
 l (.part 0 2) [x 1]<|
 c 125 [x 5,x 6]<|
 l (.shape 2) [x 7]<|
 l (.cell 0) [x 9]<|
 l (.cell 11) [x 1]<|
 l oN [x 10,x 11]<|
 b (x 12) (.ret [i 8])<|
 l (.cell 1) [x 9]<|
 l (.cell 12) [x 1]<|
 c 165 [x 13,x 14]<|
 l (.un .not) [x 15]<|
 b (x 16) (.ret [i 8])<|
 l (.part 0 11) [x 1]<|
.jp k79_1<|
 l .len [x 8]<|
 l (.cell 4) [x 17]<|
 l .len [x 19]<|
 l oE [x 18,x 20]<|
 b (x 21) (l (.cell 4) [x 17]<|
 l .len [x 22]<|
.jp k79_2<|
.loop k79_3<|
 j 2 [i 0])<|
 j 0 [.c (.v (.bool false))]
def h79 : List Hint := [.no,.no,(.j ⟨1,[(4,(w 18))],[(0,(.box (pcs (x 1) 0 13))),(1,(.box [(r 9 0),(r 9 1)]))],2⟩),(.j ⟨0,[(4,(wi 0))],[(0,(.box (pcs (x 1) 0 13))),(1,(.box [(r 9 0),(r 9 1)])),(2,(.box (pcs (x 17) 0 11))),(3,(.box [(a 8)]))],4⟩),(.j ⟨1,[(1,(.w (.c (.fn 257 [] [(.ptr 3 0)])))),(0,(.w (.c (r 17 4)))),(4,(wi 0)),(7,(w 23)),(8,(w 24))],[(0,(.box (pcs (x 1) 0 13))),(1,(.box [(r 9 0),(r 9 1)])),(2,(.box (pcs (x 17) 0 11))),(3,(.box [(a 8)]))],4⟩),.no,.no,.no,.no]
theorem q79 : symF D0 100000 79 h79 = some k79 := by kernel_rfl
def k80_1 : K :=
.ret [i 0]
def k80_2 : K :=
 l oL [x 18,x 17]<|
 b (x 19) (l (.cell 4) [x 1]<|
 l (.tix 3) [x 20,x 18]<|
 l (.elt 0 3) [x 20,x 21]<|
 l (.part 1 2) [x 22]<|
 c 155 [x 8,x 23]<|
 l (.un .not) [x 24]<|
 b (x 25) (.ret [i 8])<|
 l oA [x 18,i 1]<|
 j 1 [x 26])<|
 j 0 []
def k80 : K :=
 l (.shape 12) [x 0]<|
 l (.part 0 11) [x 1]<|
 c 153 [x 2]<|
 l oN [x 3,i 0]<|
 b (x 4) (.ret [i 8])<|
 l (.part 2 1) [x 1]<|
 l (.part 0 2) [x 1]<|
 c 127 [x 5,x 6]<|
 l (.cell 11) [x 1]<|
 c 163 [x 7,x 9]<|
 l (.un .not) [x 10]<|
 b (x 11) (.ret [i 8])<|
 l .len [x 8]<|
 l (.cell 4) [x 1]<|
 l .len [x 13]<|
 l oN [x 12,x 14]<|
 b (x 15) (.ret [i 8])<|
 l (.cell 4) [x 1]<|
 l .len [x 16]<|
.jp k80_1<|
.loop k80_2<|
 j 1 [i 0]
def h80 : List Hint := [.no,.no,.no,(.j ⟨0,[(2,(wi 0))],[],0⟩),(.j ⟨1,[(2,(wi 0)),(4,(w 8)),(39,(.w (.c (r 1 4)))),(40,(w 17)),(41,(w 18))],[],0⟩),.no,.no,.no]
theorem q80 : symF D0 100000 80 h80 = some k80 := by kernel_rfl
def k81_1 : K :=
 l (.part 0 11) [x 1]<|
 l (.cell 11) [x 1]<|
 c 170 [x 11]<|
 c 169 [x 10,x 12]<|
 l (.un .not) [x 13]<|
 b (x 14) (.ret [i 8])<|
.ret [i 0]
def k81_2 : K :=
 l oA [x 10,i 1]<|
 j 1 [x 22]
def k81_3 : K :=
 l oL [x 20,x 10]<|
 b (x 21) (l (.cell 11) [x 1]<|
 l (.tix 1) [x 22,x 20]<|
 l (.elt 0 0) [x 22,x 23]<|
 l (.cell 11) [x 1]<|
 l (.tix 1) [x 25,x 10]<|
 l (.elt 0 0) [x 25,x 26]<|
 l oE [x 24,x 27]<|
 b (x 28) (.ret [i 8])<|
 l oA [x 20,i 1]<|
 j 3 [x 29])<|
 j 2 [x 20,x 21]
def k81_4 : K :=
 l (.cell 11) [x 1]<|
 l .len [x 11]<|
 l oL [x 10,x 12]<|
 b (x 13) (l (.part 2 1) [x 1]<|
 l (.cell 11) [x 1]<|
 l (.tix 1) [x 15,x 10]<|
 l (.elt 0 0) [x 15,x 16]<|
 c 168 [x 14,x 17]<|
 l oL [x 18,i 0]<|
 b (x 19) (.ret [i 8])<|
.jp k81_2<|
.loop k81_3<|
 j 3 [i 0])<|
 j 0 []
def k81 : K :=
 l (.shape 12) [x 0]<|
 l (.part 0 11) [x 1]<|
 c 167 [x 2]<|
 l oN [x 3,i 0]<|
 b (x 4) (.ret [i 8])<|
 l (.cell 11) [x 1]<|
 l .len [x 5]<|
 l (.cell 2) [x 1]<|
 l .len [x 7]<|
 l oN [x 6,x 8]<|
 b (x 9) (.ret [i 8])<|
.jp k81_1<|
.loop k81_4<|
 j 1 [i 0]
def h81 : List Hint := [.no,.no,(.j ⟨0,[(2,(wi 0)),(1,(p 0 0))],[(0,(.box (pcs (x 1) 0 12)))],1⟩),(.j ⟨1,[(1,(p 0 0)),(2,(wi 0)),(3,(w 10))],[(0,(.box (pcs (x 1) 0 12)))],1⟩),.no,.no,.no,(.j ⟨2,[(4,(w 20)),(36,(w 19)),(35,(w 18)),(34,(w 17)),(33,(.w (.c (.tp (x 15) (x 16) 0)))),(32,(w 10)),(31,(.w (.c (r 1 11)))),(30,(p 0 11)),(29,(v 14)),(28,(p 0 2)),(27,(p 0 0)),(24,(w 13)),(23,(w 12)),(22,(.w (.c (r 1 11)))),(21,(p 0 11)),(20,(w 10)),(1,(p 0 0)),(2,(wi 0)),(3,(w 10)),(37,(w 20)),(38,(w 10)),(39,(w 21))],[(0,(.box (pcs (x 1) 0 12)))],1⟩),(.j ⟨1,[(3,(w 10)),(2,(wi 0)),(1,(p 0 0)),(20,(w 10)),(21,(p 0 11)),(22,(.w (.c (r 1 11)))),(23,(w 12)),(24,(w 13)),(27,(p 0 0)),(28,(p 0 2)),(29,(v 14)),(30,(p 0 11)),(31,(.w (.c (r 1 11)))),(32,(w 10)),(33,(.w (.c (.tp (x 15) (x 16) 0)))),(34,(w 17)),(35,(w 18)),(36,(w 19)),(4,(w 20))],[(0,(.box (pcs (x 1) 0 12)))],1⟩),.no,.no,.no,.no]
theorem q81 : symF D0 100000 81 h81 = some k81 := by kernel_rfl
def k82 : K :=
 l (.shape 13) [x 0]<|
 l (.part 0 11) [x 1]<|
 c 167 [x 2]<|
 l oN [x 3,i 0]<|
 b (x 4) (.ret [i 8])<|
 l (.part 11 2) [x 1]<|
 c 171 [x 5]<|
 l oN [x 6,i 0]<|
 b (x 7) (.ret [i 8])<|
 l (.cell 11) [x 1]<|
 l .len [x 8]<|
 c 172 [x 9]<|
 l (.un .not) [x 10]<|
 b (x 11) (.ret [i 8])<|
 l (.part 2 1) [x 1]<|
 l (.cell 11) [x 1]<|
 c 173 [x 12,x 13]<|
 l (.un .not) [x 14]<|
 b (x 15) (.ret [i 8])<|
 l (.cell 11) [x 1]<|
 c 174 [x 16]<|
 l .len [x 17]<|
 l (.cell 0) [x 12]<|
 l .len [x 19]<|
 l oN [x 18,x 20]<|
 b (x 21) (.ret [i 8])<|
 l (.part 11 2) [x 1]<|
 l (.part 0 2) [x 1]<|
 c 175 [x 22,x 12,x 23]<|
 l (.un .not) [x 24]<|
 b (x 25) (.ret [i 8])<|
 l (.part 0 11) [x 1]<|
 l (.part 11 2) [x 1]<|
 c 176 [x 27]<|
 c 169 [x 26,x 28]<|
 l (.un .not) [x 29]<|
 b (x 30) (.ret [i 8])<|
.ret [i 0]
def h82 : List Hint := [.no,.no,.no,.no,.no,.no]
theorem q82 : symF D0 100000 82 h82 = some k82 := by kernel_rfl
def k83 : K :=
 l (.shape 13) [x 0]<|
 l (.part 0 11) [x 1]<|
 c 167 [x 2]<|
 l oN [x 3,i 0]<|
 b (x 4) (.ret [i 8])<|
 l (.part 2 1) [x 1]<|
 l (.part 0 2) [x 1]<|
 c 177 [x 5,x 6]<|
 l (.shape 2) [x 7]<|
 l (.part 11 2) [x 1]<|
 c 137 [x 8,x 9]<|
 l (.un .not) [x 10]<|
 b (x 11) (.ret [i 8])<|
 l (.part 0 11) [x 1]<|
 c 178 [x 8]<|
 c 169 [x 12,x 13]<|
 l (.un .not) [x 14]<|
 b (x 15) (.ret [i 8])<|
.ret [i 0]
def h83 : List Hint := [.no,.no,.no]
theorem q83 : symF D0 100000 83 h83 = some k83 := by kernel_rfl
def k84 : K :=
 l (.shape 12) [x 0]<|
 l (.part 0 11) [x 1]<|
 c 167 [x 2]<|
 l oN [x 3,i 0]<|
 b (x 4) (.ret [i 8])<|
 l (.part 2 1) [x 1]<|
 l (.part 0 2) [x 1]<|
 c 179 [x 5,x 6]<|
 l (.cell 11) [x 1]<|
 c 135 [x 7,x 8]<|
 l (.un .not) [x 9]<|
 b (x 10) (.ret [i 8])<|
 l (.part 0 11) [x 1]<|
 c 180 [x 5,x 7]<|
 c 169 [x 11,x 12]<|
 l (.un .not) [x 13]<|
 b (x 14) (.ret [i 8])<|
.ret [i 0]
def h84 : List Hint := [.no,.no,.no]
theorem q84 : symF D0 100000 84 h84 = some k84 := by kernel_rfl
def k109_1 : K :=
.ret [x 2]
def k109 : K :=
 l (.shape 11) [x 0]<|
.jp k109_1<|
 l (.cell 4) [x 1]<|
 l .len [x 2]<|
 l oG [x 3,i 40]<|
 b (x 4) (j 0 [.c (.v (.bool true))])<|
 l (.cell 10) [x 1]<|
 l .len [x 5]<|
 l oG [x 6,i 40]<|
 b (x 7) (j 0 [.c (.v (.bool true))])<|
 l (.part 2 1) [x 1]<|
 c 19 [x 8]<|
 b (x 9) (j 0 [.c (.v (.bool true))])<|
 l (.part 5 5) [x 1]<|
 c 206 [x 10]<|
 j 0 [x 11]
def h109 : List Hint := [(.j ⟨1,[(2,(w 2))],[],0⟩)]
theorem q109 : symF D0 100000 109 h109 = some k109 := by kernel_rfl
def k110_1 : K :=
.ret [x 2]
def k110 : K :=
 l (.shape 2) [x 0]<|
.jp k110_1<|
 l (.cell 0) [x 1]<|
 l .len [x 2]<|
 l oG [x 3,i 70]<|
 b (x 4) (j 0 [.c (.v (.bool true))])<|
 l (.cell 1) [x 1]<|
 l .len [x 5]<|
 l oG [x 6,i 70]<|
 j 0 [x 7]
def h110 : List Hint := [(.j ⟨1,[(2,(w 2))],[],0⟩)]
theorem q110 : symF D0 100000 110 h110 = some k110 := by kernel_rfl
def k111 : K :=
 l (.shape 2) [x 0]<|
 l (.cell 1) [x 1]<|
 l .len [x 2]<|
 l oG [x 3,i 70]<|
.ret [x 4]
def h111 : List Hint := []
theorem q111 : symF D0 100000 111 h111 = some k111 := by kernel_rfl
def k115_1 : K :=
.ret [x 2]
def k115_2 : K :=
 l oG [x 2,.c (.v (.int .u64 0))]<|
 b (x 4) (l (.bin .rem) [x 3,x 2]<|
 j 1 [x 5,x 2])<|
 j 0 [x 3]
def k115 : K :=
.jp k115_1<|
.loop k115_2<|
 j 1 [x 1,x 0]
def h115 : List Hint := [(.j ⟨1,[(4,(.w (.c (.a (.c (.v (.int .u64 0))))))),(0,(w 2))],[],0⟩),(.j ⟨2,[(1,(w 2)),(0,(w 3)),(4,(.w (.c (.a (.c (.v (.int .u64 0)))))))],[],0⟩),.no,.no]
theorem q115 : symF D0 100000 115 h115 = some k115 := by kernel_rfl
end Go.Proofs.YtfghdmmapmdcgaaGreat
