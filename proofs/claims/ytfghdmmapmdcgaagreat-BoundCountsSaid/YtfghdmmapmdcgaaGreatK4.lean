import Derived.Test.YtfghdmmapmdcgaaGreatBcD
set_option linter.unusedVariables false
set_option linter.unusedSimpArgs false
set_option linter.defProp false
noncomputable section
namespace Go.Proofs.YtfghdmmapmdcgaaGreat
open Go.Sym Go.Sym.KP
def k419_1 : K :=
 l .agg [x 6,x 7]<|
.ret [x 9,x 8]
def k419 : K :=
 l oE [x 1,i 0]<|
 b (x 2) (l .agg [i 0,i 0]<|
.ret [x 3,i 26])<|
 c 223 [x 0]<|
 c 223 [x 1]<|
 c 222 [x 3,x 4]<|
.jp k419_1<|
 l oL [x 0,i 0]<|
 l oL [x 1,i 0]<|
 l (.bbin .neq) [x 6,x 7]<|
 b (x 8) (l oN [x 0,i 0]<|
 c 223 [x 0]<|
 l (.bin .quo) [x 10,x 5]<|
 c 223 [x 1]<|
 l (.bin .quo) [x 12,x 5]<|
 l .agg [.c (.v (.bool false)),.c (.v (.int .u64 0)),x 11]<|
 l .agg [.c (.v (.bool false)),.c (.v (.int .u64 0)),x 13]<|
 c 425 [x 9,x 14,x 15]<|
 l (.shape 2) [x 16]<|
 l (.cell 0) [x 18]<|
 l (.cell 1) [x 18]<|
 j 0 [x 19,x 20,x 17])<|
 c 223 [x 0]<|
 l (.bin .quo) [x 9,x 5]<|
 c 223 [x 1]<|
 l (.bin .quo) [x 11,x 5]<|
 l .agg [.c (.v (.bool false)),.c (.v (.int .u64 0)),x 10]<|
 l .agg [.c (.v (.bool false)),.c (.v (.int .u64 0)),x 12]<|
 c 425 [.c (.v (.bool false)),x 13,x 14]<|
 l (.shape 2) [x 15]<|
 l (.cell 0) [x 17]<|
 l (.cell 1) [x 17]<|
 j 0 [x 18,x 19,x 16]
def h419 : List Hint := [.no,(.j ⟨3,[(4,(p 0 0)),(5,(w 8))],[(0,(.box [(a 6),(a 7)]))],1⟩)]
theorem q419 : symF D0 100000 419 h419 = some k419 := by kernel_rfl
def k423_1 : K :=
 l .agg [.c (.v (.bool false)),x 13,x 9]<|
.ret [x 14]
def k423 : K :=
 l (.shape 3) [x 0]<|
 l (.shape 3) [x 1]<|
 l (.cell 1) [x 2]<|
 l (.cell 1) [x 3]<|
 l oS [x 4,x 5]<|
 l (.cell 2) [x 2]<|
 l (.cell 2) [x 3]<|
 l oS [x 7,x 8]<|
 l (.cell 2) [x 2]<|
 l (.cell 2) [x 3]<|
 l oL [x 10,x 11]<|
.jp k423_1<|
 b (x 12) (l oS [x 6,.c (.v (.int .u64 1))]<|
 j 0 [x 13])<|
 j 0 [x 6]
def h423 : List Hint := [(.j ⟨1,[(4,(p 0 0)),(5,(p 1 0))],[(0,(.box [(.a (.c (.v (.bool false)))),(.a (.c (.v (.int .u64 0)))),(.a (.c (.v (.int .u64 0))))])),(1,(.box [(.a (.c (.v (.bool false)))),(a 13),(a 9)]))],2⟩)]
theorem q423 : symF D0 100000 423 h423 = some k423 := by kernel_rfl
def k424_1 : K :=
 l .agg [x 14,x 12]<|
.ret [x 15,i 0]
def k424 : K :=
 l (.shape 3) [x 0]<|
 l (.cell 1) [x 3]<|
 l oG [x 4,.c (.v (.int .u64 0))]<|
 b (x 5) (l .agg [i 0,i 0]<|
.ret [x 6,i 16])<|
 l (.cell 2) [x 3]<|
 l oG [x 6,.c (.v (.int .u64 9223372036854775807))]<|
 b (x 7) (l .agg [i 0,i 0]<|
.ret [x 8,i 16])<|
 l oG [x 1,.c (.v (.int .u64 0))]<|
 b (x 8) (l .agg [i 0,i 0]<|
.ret [x 9,i 16])<|
 l oG [x 2,.c (.v (.int .u64 9223372036854775807))]<|
 b (x 9) (l .agg [i 0,i 0]<|
.ret [x 10,i 16])<|
 l (.cell 2) [x 3]<|
 l (.conv .i64) [x 10]<|
 l (.conv .i64) [x 2]<|
 l (.cell 0) [x 3]<|
.jp k424_1<|
 b (x 13) (l (.un .neg) [x 11]<|
 j 0 [x 14])<|
 j 0 [x 11]
def h424 : List Hint := [.no,.no,(.j ⟨1,[(6,(p 0 0)),(7,(wi 0)),(8,(p 1 0))],[(0,(.box [(.a (i 0)),(.a (i 0))])),(1,(.box [(a 14),(a 12)]))],2⟩)]
theorem q424 : symF D0 100000 424 h424 = some k424 := by kernel_rfl
def k425 : K :=
 l (.shape 3) [x 1]<|
 l (.shape 3) [x 2]<|
 l (.cell 1) [x 3]<|
 l oG [x 5,.c (.v (.int .u64 0))]<|
 b (x 6) (l .agg [i 0,i 0]<|
.ret [x 7,i 16])<|
 l (.cell 2) [x 3]<|
 l oG [x 7,.c (.v (.int .u64 9223372036854775807))]<|
 b (x 8) (l .agg [i 0,i 0]<|
.ret [x 9,i 16])<|
 l (.cell 1) [x 4]<|
 l oG [x 9,.c (.v (.int .u64 0))]<|
 b (x 10) (l .agg [i 0,i 0]<|
.ret [x 11,i 16])<|
 l (.cell 2) [x 4]<|
 l oG [x 11,.c (.v (.int .u64 9223372036854775807))]<|
 b (x 12) (l .agg [i 0,i 0]<|
.ret [x 13,i 16])<|
 b (x 0) (l (.cell 2) [x 3]<|
 l (.conv .i64) [x 13]<|
 l (.un .neg) [x 14]<|
 l (.cell 2) [x 4]<|
 l (.conv .i64) [x 16]<|
 l .agg [x 15,x 17]<|
.ret [x 18,i 0])<|
 l (.cell 2) [x 3]<|
 l (.conv .i64) [x 13]<|
 l (.cell 2) [x 4]<|
 l (.conv .i64) [x 15]<|
 l .agg [x 14,x 16]<|
.ret [x 17,i 0]
def h425 : List Hint := [.no,.no,.no]
theorem q425 : symF D0 100000 425 h425 = some k425 := by kernel_rfl
end Go.Proofs.YtfghdmmapmdcgaaGreat
