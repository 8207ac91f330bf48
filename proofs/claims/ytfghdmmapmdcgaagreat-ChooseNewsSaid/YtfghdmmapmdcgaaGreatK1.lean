import Derived.Test.YtfghdmmapmdcgaaGreatBcD
set_option linter.unusedVariables false
set_option linter.unusedSimpArgs false
set_option linter.defProp false
noncomputable section
namespace Go.Proofs.YtfghdmmapmdcgaaGreat
open Go.Sym Go.Sym.KP
def k5_1:K:=
.ret [x 29]
def k5:K:=
 l (.shape 1) [x 1]<|
 l (.shape 2) [x 2]<|
 l (.shape 51) [x 3]<|
 c 19 [x 4]<|
 b (x 7) (.ret [.c (.v (.bool true))])<|
 c 7 [x 6]<|
 b (x 8) (.ret [.c (.v (.bool true))])<|
 c 20 [x 0,x 4,x 5]<|
 l (.shape 51) [x 9]<|
 c 21 [x 0,x 4,x 5]<|
 l (.shape 51) [x 12]<|
 c 22 [x 6]<|
 l (.shape 2) [x 15]<|
 l (.shape 1) [x 16]<|
 c 23 [x 6]<|
 l (.shape 2) [x 20]<|
 l (.shape 1) [x 21]<|
 c 24 [x 6]<|
 c 25 [x 6]<|
.jp k5_1<|
 c 17 [x 11,x 14]<|
 b (x 29) (l oE [x 10,x 13]<|
 b (x 30) (c 26 [x 6]<|
 c 27 [x 6]<|
 l oE [x 31,x 32]<|
 b (x 33) (l (.eqv [.i,.i]) [x 18,x 23]<|
 b (x 34) (c 28 [x 19,x 24]<|
 b (x 35) (l oE [x 17,x 22]<|
 b (x 36) (l oE [x 25,x 27]<|
 b (x 37) (l oE [x 26,x 28]<|
 j 0 [x 38])<|
 j 0 [.c (.v (.bool false))])<|
 j 0 [.c (.v (.bool false))])<|
 j 0 [.c (.v (.bool false))])<|
 j 0 [.c (.v (.bool false))])<|
 j 0 [.c (.v (.bool false))])<|
 j 0 [.c (.v (.bool false))])<|
 j 0 [.c (.v (.bool false))]
def h5:List Hint:=[.no,.no,(.j ⟨1,[(8,(w 29))],[],0⟩)]
theorem q5:symF D0 100000 5 h5=some k5:=by kernel_rfl
def Jb:K:=
.ret [x 2]
def k7:K:=
 l (.shape 51) [x 0]<|
.jp Jb<|
 l (.part 1 12) [x 1]<|
 c 35 [x 2]<|
 b (x 3) (j 0 [.c (.v (.bool true))])<|
 l (.part 13 13) [x 1]<|
 c 36 [x 4]<|
 b (x 5) (j 0 [.c (.v (.bool true))])<|
 l (.part 26 13) [x 1]<|
 c 37 [x 6]<|
 b (x 7) (j 0 [.c (.v (.bool true))])<|
 l (.part 39 12) [x 1]<|
 c 38 [x 8]<|
 j 0 [x 9]
def h7:List Hint:=[(.j ⟨1,[(2,(w 2))],[],0⟩)]
theorem q7:symF D0 100000 7 h7=some k7:=by kernel_rfl
def k13:K:=
 l (.shape 51) [x 0]<|
 l (.cell 0) [x 1]<|
 l oE [x 2,.c (.v (.int .u8 1))]<|
 b (x 3) (l (.part 1 11) [x 1]<|
.ret [x 4])<|
 l (.cell 0) [x 1]<|
 l oE [x 4,.c (.v (.int .u8 2))]<|
 b (x 5) (l (.part 13 11) [x 1]<|
.ret [x 6])<|
 l (.cell 0) [x 1]<|
 l oE [x 6,.c (.v (.int .u8 3))]<|
 b (x 7) (l (.part 26 11) [x 1]<|
.ret [x 8])<|
 l (.part 39 11) [x 1]<|
.ret [x 8]
def h13:List Hint:=[.no,.no,.no,.no]
theorem q13:symF D0 100000 13 h13=some k13:=by kernel_rfl
def k17_1:K:=
.ret [x 4]
def k17:K:=
 l (.shape 51) [x 0]<|
 l (.shape 51) [x 1]<|
.jp k17_1<|
 l (.cell 0) [x 2]<|
 l (.cell 0) [x 3]<|
 l oE [x 4,x 5]<|
 b (x 6) (l (.part 1 12) [x 2]<|
 l (.part 1 12) [x 3]<|
 c 51 [x 7,x 8]<|
 b (x 9) (l (.part 13 13) [x 2]<|
 l (.part 13 13) [x 3]<|
 c 52 [x 10,x 11]<|
 b (x 12) (l (.part 26 13) [x 2]<|
 l (.part 26 13) [x 3]<|
 c 53 [x 13,x 14]<|
 b (x 15) (l (.part 39 12) [x 2]<|
 l (.part 39 12) [x 3]<|
 c 54 [x 16,x 17]<|
 j 0 [x 18])<|
 j 0 [.c (.v (.bool false))])<|
 j 0 [.c (.v (.bool false))])<|
 j 0 [.c (.v (.bool false))])<|
 j 0 [.c (.v (.bool false))]
def h17:List Hint:=[(.j ⟨1,[(4,(w 4))],[],0⟩)]
theorem q17:symF D0 100000 17 h17=some k17:=by kernel_rfl
def C6:K:=
.ret [x 2]
def k19:K:=
 l (.shape 1) [x 0]<|
.jp C6<|
 l (.cell 0) [x 1]<|
 l .len [x 2]<|
 l oG [x 3,i 16]<|
 b (x 4) (l (.cell 0) [x 1]<|
 l .len [x 5]<|
 l oL [x 6,i 64]<|
 b (x 7) (j 0 [.c (.v (.bool true))])<|
 l (.cell 0) [x 1]<|
 l .len [x 8]<|
 l oG [x 9,i 70]<|
 j 0 [x 10])<|
 l (.cell 0) [x 1]<|
 l .len [x 5]<|
 l oG [x 6,i 70]<|
 j 0 [x 7]
def h19:List Hint:=[(.j ⟨1,[(2,(w 2))],[],0⟩)]
theorem q19:symF D0 100000 19 h19=some k19:=by kernel_rfl
def dM:K:=
 l .agg [x 0,x 6,x 7,x 8,x 9,x 10,x 11,x 12,x 13,x 14,x 15,x 16,x 17,x 18,x 19,x 20,x 21,x 22,x 23,x 24,x 25,x 26,x 27,x 28,x 29,x 30,x 31,x 32,x 33,x 34,x 35,x 36,x 37,x 38,x 39,x 40,x 41,x 42,x 43,x 44,x 45,x 46,x 47,x 48,x 49,x 50,x 51,x 52,x 53,x 54,x 55]<|
 c 59 [x 59,x 58]<|
 l (.shape 51) [x 60]<|
.ret [x 62,x 61]
def jz:K:=
 l oE [x 56,i 0]<|
.jp dM<|
 b (x 57) (c 44 [x 4]<|
 j 0 [x 58])<|
 j 0 [x 56]
def mw:K:=
 j 0 [i 0,i 0,.c (.sl []),i 0,.c (.sl []),.c (.sl []),.c (.sl []),.c (.sl []),.c (.sl []),.c (.sl []),.c (.sl []),.c (.sl []),x 7,x 8,x 9,x 10,x 11,x 12,x 13,x 14,x 15,x 16,x 17,x 18,x 19,x 20,x 21,x 22,x 23,x 24,x 25,x 26,x 27,x 28,x 29,x 30,x 31,x 32,x 33,x 34,x 35,x 36,x 37,x 38,x 39,x 40,x 41,x 42,x 43,x 44,x 45]
def sV:K:=
 j 1 [i 0,i 0,.c (.sl []),i 0,.c (.sl []),.c (.sl []),.c (.sl []),.c (.sl []),.c (.sl []),.c (.sl []),.c (.sl []),.c (.sl []),.c (.sl []),x 8,x 9,x 10,x 11,x 12,x 13,x 14,x 15,x 16,x 17,x 18,x 19,x 20,x 21,x 22,x 23,x 24,x 25,x 26,x 27,x 28,x 29,x 30,x 31,x 32,x 33]
def k20:K:=
 l (.shape 1) [x 1]<|
 l (.shape 2) [x 2]<|
 l oE [x 0,.c (.v (.int .u8 1))]<|
.jp jz<|
 b (x 5) (c 55 [x 3,x 4]<|
 l (.shape 12) [x 6]<|
 l (.cell 0) [x 8]<|
 l (.cell 1) [x 8]<|
 l (.cell 2) [x 8]<|
 l (.cell 3) [x 8]<|
 l (.cell 4) [x 8]<|
 l (.cell 5) [x 8]<|
 l (.cell 6) [x 8]<|
 l (.cell 7) [x 8]<|
 l (.cell 8) [x 8]<|
 l (.cell 9) [x 8]<|
 l (.cell 10) [x 8]<|
 l (.cell 11) [x 8]<|
 j 0 [x 9,x 10,x 11,x 12,x 13,x 14,x 15,x 16,x 17,x 18,x 19,x 20,i 0,i 0,.c (.sl []),i 0,.c (.sl []),.c (.sl []),.c (.sl []),.c (.sl []),.c (.sl []),.c (.sl []),.c (.sl []),.c (.sl []),.c (.sl []),i 0,i 0,.c (.sl []),i 0,.c (.sl []),.c (.sl []),.c (.sl []),.c (.sl []),.c (.sl []),.c (.sl []),.c (.sl []),i 0,.c (.sl []),i 0,i 0,.c (.sl []),i 0,.c (.sl []),.c (.sl []),.c (.sl []),.c (.sl []),.c (.sl []),.c (.sl []),.c (.sl []),.c (.sl []),x 7])<|
 l oE [x 0,.c (.v (.int .u8 2))]<|
.jp mw<|
 b (x 6) (c 56 [x 3,x 4]<|
 l (.shape 13) [x 7]<|
 l (.cell 0) [x 9]<|
 l (.cell 1) [x 9]<|
 l (.cell 2) [x 9]<|
 l (.cell 3) [x 9]<|
 l (.cell 4) [x 9]<|
 l (.cell 5) [x 9]<|
 l (.cell 6) [x 9]<|
 l (.cell 7) [x 9]<|
 l (.cell 8) [x 9]<|
 l (.cell 9) [x 9]<|
 l (.cell 10) [x 9]<|
 l (.cell 11) [x 9]<|
 l (.cell 12) [x 9]<|
 j 1 [x 10,x 11,x 12,x 13,x 14,x 15,x 16,x 17,x 18,x 19,x 20,x 21,x 22,i 0,i 0,.c (.sl []),i 0,.c (.sl []),.c (.sl []),.c (.sl []),.c (.sl []),.c (.sl []),.c (.sl []),.c (.sl []),i 0,.c (.sl []),i 0,i 0,.c (.sl []),i 0,.c (.sl []),.c (.sl []),.c (.sl []),.c (.sl []),.c (.sl []),.c (.sl []),.c (.sl []),.c (.sl []),x 8])<|
 l oE [x 0,.c (.v (.int .u8 3))]<|
.jp sV<|
 b (x 7) (c 57 [x 3,x 4]<|
 l (.shape 13) [x 8]<|
 l (.cell 0) [x 10]<|
 l (.cell 1) [x 10]<|
 l (.cell 2) [x 10]<|
 l (.cell 3) [x 10]<|
 l (.cell 4) [x 10]<|
 l (.cell 5) [x 10]<|
 l (.cell 6) [x 10]<|
 l (.cell 7) [x 10]<|
 l (.cell 8) [x 10]<|
 l (.cell 9) [x 10]<|
 l (.cell 10) [x 10]<|
 l (.cell 11) [x 10]<|
 l (.cell 12) [x 10]<|
 j 2 [x 11,x 12,x 13,x 14,x 15,x 16,x 17,x 18,x 19,x 20,x 21,x 22,x 23,i 0,i 0,.c (.sl []),i 0,.c (.sl []),.c (.sl []),.c (.sl []),.c (.sl []),.c (.sl []),.c (.sl []),.c (.sl []),.c (.sl []),x 9])<|
 l oE [x 0,.c (.v (.int .u8 4))]<|
 b (x 8) (c 58 [x 3,x 4]<|
 l (.shape 12) [x 9]<|
 l (.cell 0) [x 11]<|
 l (.cell 1) [x 11]<|
 l (.cell 2) [x 11]<|
 l (.cell 3) [x 11]<|
 l (.cell 4) [x 11]<|
 l (.cell 5) [x 11]<|
 l (.cell 6) [x 11]<|
 l (.cell 7) [x 11]<|
 l (.cell 8) [x 11]<|
 l (.cell 9) [x 11]<|
 l (.cell 10) [x 11]<|
 l (.cell 11) [x 11]<|
 j 2 [i 0,i 0,.c (.sl []),i 0,.c (.sl []),.c (.sl []),.c (.sl []),.c (.sl []),.c (.sl []),.c (.sl []),.c (.sl []),i 0,.c (.sl []),x 12,x 13,x 14,x 15,x 16,x 17,x 18,x 19,x 20,x 21,x 22,x 23,x 10])<|
 l .agg [.c (.v (.int .u8 0)),i 0,i 0,.c (.sl []),i 0,.c (.sl []),.c (.sl []),.c (.sl []),.c (.sl []),.c (.sl []),.c (.sl []),.c (.sl []),.c (.sl []),i 0,i 0,.c (.sl []),i 0,.c (.sl []),.c (.sl []),.c (.sl []),.c (.sl []),.c (.sl []),.c (.sl []),.c (.sl []),.c (.sl []),.c (.sl []),i 0,i 0,.c (.sl []),i 0,.c (.sl []),.c (.sl []),.c (.sl []),.c (.sl []),.c (.sl []),.c (.sl []),.c (.sl []),i 0,.c (.sl []),i 0,i 0,.c (.sl []),i 0,.c (.sl []),.c (.sl []),.c (.sl []),.c (.sl []),.c (.sl []),.c (.sl []),.c (.sl []),.c (.sl [])]<|
.ret [x 9,i 2]
def h20:List Hint:=[.no,(.j ⟨51,[(5,(p 0 0)),(6,(p 1 0)),(7,(wi 0)),(8,(p 2 0)),(9,(w 56))],[(0,(.box [(r 4 0),(r 4 1)])),(1,(.box [(.a (.c (.v (.int .u8 0)))),(.a (i 0)),(.a (i 0)),.nil,(.a (i 0)),.nil,.nil,.nil,.nil,.nil,.nil,.nil,.nil,(.a (i 0)),(.a (i 0)),.nil,(.a (i 0)),.nil,.nil,.nil,.nil,.nil,.nil,.nil,.nil,.nil,(.a (i 0)),(.a (i 0)),.nil,(.a (i 0)),.nil,.nil,.nil,.nil,.nil,.nil,.nil,(.a (i 0)),.nil,(.a (i 0)),(.a (i 0)),.nil,(.a (i 0)),.nil,.nil,.nil,.nil,.nil,.nil,.nil,.nil])),(2,(.box [(a 0),(a 6),(a 7),(a 8),(a 9),(a 10),(a 11),(a 12),(a 13),(a 14),(a 15),(a 16),(a 17),(a 18),(a 19),(a 20),(a 21),(a 22),(a 23),(a 24),(a 25),(a 26),(a 27),(a 28),(a 29),(a 30),(a 31),(a 32),(a 33),(a 34),(a 35),(a 36),(a 37),(a 38),(a 39),(a 40),(a 41),(a 42),(a 43),(a 44),(a 45),(a 46),(a 47),(a 48),(a 49),(a 50),(a 51),(a 52),(a 53),(a 54),(a 55)]))],3⟩),(.j ⟨39,[(5,(p 0 0)),(6,(p 1 0)),(7,(wi 0)),(8,(p 2 0)),(9,(w 45))],[(0,(.box [(r 4 0),(r 4 1)])),(1,(.box [(.a (.c (.v (.int .u8 0)))),(.a (i 0)),(.a (i 0)),.nil,(.a (i 0)),.nil,.nil,.nil,.nil,.nil,.nil,.nil,.nil,(.a (i 0)),(.a (i 0)),.nil,(.a (i 0)),.nil,.nil,.nil,.nil,.nil,.nil,.nil,.nil,.nil,(.a (i 0)),(.a (i 0)),.nil,(.a (i 0)),.nil,.nil,.nil,.nil,.nil,.nil,.nil,(.a (i 0)),.nil,(.a (i 0)),(.a (i 0)),.nil,(.a (i 0)),.nil,.nil,.nil,.nil,.nil,.nil,.nil,.nil])),(2,(.box [(a 0),(.a (i 0)),(.a (i 0)),.nil,(.a (i 0)),.nil,.nil,.nil,.nil,.nil,.nil,.nil,.nil,(a 7),(a 8),(a 9),(a 10),(a 11),(a 12),(a 13),(a 14),(a 15),(a 16),(a 17),(a 18),(a 19),(a 20),(a 21),(a 22),(a 23),(a 24),(a 25),(a 26),(a 27),(a 28),(a 29),(a 30),(a 31),(a 32),(a 33),(a 34),(a 35),(a 36),(a 37),(a 38),(a 39),(a 40),(a 41),(a 42),(a 43),(a 44)]))],3⟩),(.j ⟨26,[(5,(p 0 0)),(6,(p 1 0)),(7,(wi 0)),(8,(p 2 0)),(9,(w 33))],[(0,(.box [(r 4 0),(r 4 1)])),(1,(.box [(.a (.c (.v (.int .u8 0)))),(.a (i 0)),(.a (i 0)),.nil,(.a (i 0)),.nil,.nil,.nil,.nil,.nil,.nil,.nil,.nil,(.a (i 0)),(.a (i 0)),.nil,(.a (i 0)),.nil,.nil,.nil,.nil,.nil,.nil,.nil,.nil,.nil,(.a (i 0)),(.a (i 0)),.nil,(.a (i 0)),.nil,.nil,.nil,.nil,.nil,.nil,.nil,(.a (i 0)),.nil,(.a (i 0)),(.a (i 0)),.nil,(.a (i 0)),.nil,.nil,.nil,.nil,.nil,.nil,.nil,.nil])),(2,(.box [(a 0),(.a (i 0)),(.a (i 0)),.nil,(.a (i 0)),.nil,.nil,.nil,.nil,.nil,.nil,.nil,.nil,(.a (i 0)),(.a (i 0)),.nil,(.a (i 0)),.nil,.nil,.nil,.nil,.nil,.nil,.nil,.nil,.nil,(a 8),(a 9),(a 10),(a 11),(a 12),(a 13),(a 14),(a 15),(a 16),(a 17),(a 18),(a 19),(a 20),(a 21),(a 22),(a 23),(a 24),(a 25),(a 26),(a 27),(a 28),(a 29),(a 30),(a 31),(a 32)]))],3⟩),.no,(.j ⟨1,[(8,(p 0 0)),(7,(wi 0)),(6,(p 1 0)),(9,(w 58))],[(0,(.box [(a 0),(a 6),(a 7),(a 8),(a 9),(a 10),(a 11),(a 12),(a 13),(a 14),(a 15),(a 16),(a 17),(a 18),(a 19),(a 20),(a 21),(a 22),(a 23),(a 24),(a 25),(a 26),(a 27),(a 28),(a 29),(a 30),(a 31),(a 32),(a 33),(a 34),(a 35),(a 36),(a 37),(a 38),(a 39),(a 40),(a 41),(a 42),(a 43),(a 44),(a 45),(a 46),(a 47),(a 48),(a 49),(a 50),(a 51),(a 52),(a 53),(a 54),(a 55)])),(1,(.box [(.a (.c (.v (.int .u8 0)))),(.a (i 0)),(.a (i 0)),.nil,(.a (i 0)),.nil,.nil,.nil,.nil,.nil,.nil,.nil,.nil,(.a (i 0)),(.a (i 0)),.nil,(.a (i 0)),.nil,.nil,.nil,.nil,.nil,.nil,.nil,.nil,.nil,(.a (i 0)),(.a (i 0)),.nil,(.a (i 0)),.nil,.nil,.nil,.nil,.nil,.nil,.nil,(.a (i 0)),.nil,(.a (i 0)),(.a (i 0)),.nil,(.a (i 0)),.nil,.nil,.nil,.nil,.nil,.nil,.nil,.nil]))],2⟩)]
theorem q20:symF D0 100000 20 h20=some k20:=by kernel_rfl
def bV:K:=
 l .agg [x 0,x 6,x 7,x 8,x 9,x 10,x 11,x 12,x 13,x 14,x 15,x 16,x 17,x 18,x 19,x 20,x 21,x 22,x 23,x 24,x 25,x 26,x 27,x 28,x 29,x 30,x 31,x 32,x 33,x 34,x 35,x 36,x 37,x 38,x 39,x 40,x 41,x 42,x 43,x 44,x 45,x 46,x 47,x 48,x 49,x 50,x 51,x 52,x 53,x 54,x 55]<|
 c 65 [x 59,x 58]<|
 l (.shape 51) [x 60]<|
.ret [x 62,x 61]
def dw:K:=
.jp bV<|
 b (x 57) (j 0 [i 2])<|
 j 0 [x 56]
def ic:K:=
.jp dw<|
 l oE [x 56,i 0]<|
 b (x 57) (c 64 [x 4]<|
 l oN [x 58,i 0]<|
 j 0 [x 59])<|
 j 0 [.c (.v (.bool false))]
def jA:K:=
 j 0 [i 0,i 0,.c (.sl []),i 0,.c (.sl []),.c (.sl []),.c (.sl []),.c (.sl []),.c (.sl []),.c (.sl []),.c (.sl []),.c (.sl []),x 7,x 8,x 9,x 10,x 11,x 12,x 13,x 14,x 15,x 16,x 17,x 18,x 19,x 20,x 21,x 22,x 23,x 24,x 25,x 26,x 27,x 28,x 29,x 30,x 31,x 32,x 33,x 34,x 35,x 36,x 37,x 38,x 39,x 40,x 41,x 42,x 43,x 44,x 45]
def my:K:=
 j 1 [i 0,i 0,.c (.sl []),i 0,.c (.sl []),.c (.sl []),.c (.sl []),.c (.sl []),.c (.sl []),.c (.sl []),.c (.sl []),.c (.sl []),.c (.sl []),x 8,x 9,x 10,x 11,x 12,x 13,x 14,x 15,x 16,x 17,x 18,x 19,x 20,x 21,x 22,x 23,x 24,x 25,x 26,x 27,x 28,x 29,x 30,x 31,x 32,x 33]
def sW:K:=
 j 2 [i 0,i 0,.c (.sl []),i 0,.c (.sl []),.c (.sl []),.c (.sl []),.c (.sl []),.c (.sl []),.c (.sl []),.c (.sl []),i 0,.c (.sl []),x 9,x 10,x 11,x 12,x 13,x 14,x 15,x 16,x 17,x 18,x 19,x 20,x 21]
def k21:K:=
 l (.shape 1) [x 1]<|
 l (.shape 2) [x 2]<|
 l oE [x 0,.c (.v (.int .u8 1))]<|
.jp ic<|
 b (x 5) (c 60 [x 3,x 4]<|
 l (.shape 12) [x 6]<|
 l (.cell 0) [x 8]<|
 l (.cell 1) [x 8]<|
 l (.cell 2) [x 8]<|
 l (.cell 3) [x 8]<|
 l (.cell 4) [x 8]<|
 l (.cell 5) [x 8]<|
 l (.cell 6) [x 8]<|
 l (.cell 7) [x 8]<|
 l (.cell 8) [x 8]<|
 l (.cell 9) [x 8]<|
 l (.cell 10) [x 8]<|
 l (.cell 11) [x 8]<|
 j 0 [x 9,x 10,x 11,x 12,x 13,x 14,x 15,x 16,x 17,x 18,x 19,x 20,i 0,i 0,.c (.sl []),i 0,.c (.sl []),.c (.sl []),.c (.sl []),.c (.sl []),.c (.sl []),.c (.sl []),.c (.sl []),.c (.sl []),.c (.sl []),i 0,i 0,.c (.sl []),i 0,.c (.sl []),.c (.sl []),.c (.sl []),.c (.sl []),.c (.sl []),.c (.sl []),.c (.sl []),i 0,.c (.sl []),i 0,i 0,.c (.sl []),i 0,.c (.sl []),.c (.sl []),.c (.sl []),.c (.sl []),.c (.sl []),.c (.sl []),.c (.sl []),.c (.sl []),x 7])<|
 l oE [x 0,.c (.v (.int .u8 2))]<|
.jp jA<|
 b (x 6) (c 61 [x 3,x 4]<|
 l (.shape 13) [x 7]<|
 l (.cell 0) [x 9]<|
 l (.cell 1) [x 9]<|
 l (.cell 2) [x 9]<|
 l (.cell 3) [x 9]<|
 l (.cell 4) [x 9]<|
 l (.cell 5) [x 9]<|
 l (.cell 6) [x 9]<|
 l (.cell 7) [x 9]<|
 l (.cell 8) [x 9]<|
 l (.cell 9) [x 9]<|
 l (.cell 10) [x 9]<|
 l (.cell 11) [x 9]<|
 l (.cell 12) [x 9]<|
 j 1 [x 10,x 11,x 12,x 13,x 14,x 15,x 16,x 17,x 18,x 19,x 20,x 21,x 22,i 0,i 0,.c (.sl []),i 0,.c (.sl []),.c (.sl []),.c (.sl []),.c (.sl []),.c (.sl []),.c (.sl []),.c (.sl []),i 0,.c (.sl []),i 0,i 0,.c (.sl []),i 0,.c (.sl []),.c (.sl []),.c (.sl []),.c (.sl []),.c (.sl []),.c (.sl []),.c (.sl []),.c (.sl []),x 8])<|
 l oE [x 0,.c (.v (.int .u8 3))]<|
.jp my<|
 b (x 7) (c 62 [x 3,x 4]<|
 l (.shape 13) [x 8]<|
 l (.cell 0) [x 10]<|
 l (.cell 1) [x 10]<|
 l (.cell 2) [x 10]<|
 l (.cell 3) [x 10]<|
 l (.cell 4) [x 10]<|
 l (.cell 5) [x 10]<|
 l (.cell 6) [x 10]<|
 l (.cell 7) [x 10]<|
 l (.cell 8) [x 10]<|
 l (.cell 9) [x 10]<|
 l (.cell 10) [x 10]<|
 l (.cell 11) [x 10]<|
 l (.cell 12) [x 10]<|
 j 2 [x 11,x 12,x 13,x 14,x 15,x 16,x 17,x 18,x 19,x 20,x 21,x 22,x 23,i 0,i 0,.c (.sl []),i 0,.c (.sl []),.c (.sl []),.c (.sl []),.c (.sl []),.c (.sl []),.c (.sl []),.c (.sl []),.c (.sl []),x 9])<|
 l oE [x 0,.c (.v (.int .u8 4))]<|
.jp sW<|
 b (x 8) (c 63 [x 3,x 4]<|
 l (.shape 12) [x 9]<|
 l (.cell 0) [x 11]<|
 l (.cell 1) [x 11]<|
 l (.cell 2) [x 11]<|
 l (.cell 3) [x 11]<|
 l (.cell 4) [x 11]<|
 l (.cell 5) [x 11]<|
 l (.cell 6) [x 11]<|
 l (.cell 7) [x 11]<|
 l (.cell 8) [x 11]<|
 l (.cell 9) [x 11]<|
 l (.cell 10) [x 11]<|
 l (.cell 11) [x 11]<|
 j 3 [x 12,x 13,x 14,x 15,x 16,x 17,x 18,x 19,x 20,x 21,x 22,x 23,x 10])<|
 j 3 [i 0,i 0,.c (.sl []),i 0,.c (.sl []),.c (.sl []),.c (.sl []),.c (.sl []),.c (.sl []),.c (.sl []),.c (.sl []),.c (.sl []),i 2]
def h21:List Hint:=[.no,(.j ⟨51,[(5,(p 0 0)),(6,(p 1 0)),(7,(wi 0)),(8,(p 2 0)),(9,(w 56))],[(0,(.box [(r 4 0),(r 4 1)])),(1,(.box [(.a (.c (.v (.int .u8 0)))),(.a (i 0)),(.a (i 0)),.nil,(.a (i 0)),.nil,.nil,.nil,.nil,.nil,.nil,.nil,.nil,(.a (i 0)),(.a (i 0)),.nil,(.a (i 0)),.nil,.nil,.nil,.nil,.nil,.nil,.nil,.nil,.nil,(.a (i 0)),(.a (i 0)),.nil,(.a (i 0)),.nil,.nil,.nil,.nil,.nil,.nil,.nil,(.a (i 0)),.nil,(.a (i 0)),(.a (i 0)),.nil,(.a (i 0)),.nil,.nil,.nil,.nil,.nil,.nil,.nil,.nil])),(2,(.box [(a 0),(a 6),(a 7),(a 8),(a 9),(a 10),(a 11),(a 12),(a 13),(a 14),(a 15),(a 16),(a 17),(a 18),(a 19),(a 20),(a 21),(a 22),(a 23),(a 24),(a 25),(a 26),(a 27),(a 28),(a 29),(a 30),(a 31),(a 32),(a 33),(a 34),(a 35),(a 36),(a 37),(a 38),(a 39),(a 40),(a 41),(a 42),(a 43),(a 44),(a 45),(a 46),(a 47),(a 48),(a 49),(a 50),(a 51),(a 52),(a 53),(a 54),(a 55)]))],3⟩),(.j ⟨39,[(5,(p 0 0)),(6,(p 1 0)),(7,(wi 0)),(8,(p 2 0)),(9,(w 45))],[(0,(.box [(r 4 0),(r 4 1)])),(1,(.box [(.a (.c (.v (.int .u8 0)))),(.a (i 0)),(.a (i 0)),.nil,(.a (i 0)),.nil,.nil,.nil,.nil,.nil,.nil,.nil,.nil,(.a (i 0)),(.a (i 0)),.nil,(.a (i 0)),.nil,.nil,.nil,.nil,.nil,.nil,.nil,.nil,.nil,(.a (i 0)),(.a (i 0)),.nil,(.a (i 0)),.nil,.nil,.nil,.nil,.nil,.nil,.nil,(.a (i 0)),.nil,(.a (i 0)),(.a (i 0)),.nil,(.a (i 0)),.nil,.nil,.nil,.nil,.nil,.nil,.nil,.nil])),(2,(.box [(a 0),(.a (i 0)),(.a (i 0)),.nil,(.a (i 0)),.nil,.nil,.nil,.nil,.nil,.nil,.nil,.nil,(a 7),(a 8),(a 9),(a 10),(a 11),(a 12),(a 13),(a 14),(a 15),(a 16),(a 17),(a 18),(a 19),(a 20),(a 21),(a 22),(a 23),(a 24),(a 25),(a 26),(a 27),(a 28),(a 29),(a 30),(a 31),(a 32),(a 33),(a 34),(a 35),(a 36),(a 37),(a 38),(a 39),(a 40),(a 41),(a 42),(a 43),(a 44)]))],3⟩),(.j ⟨26,[(5,(p 0 0)),(6,(p 1 0)),(7,(wi 0)),(8,(p 2 0)),(9,(w 33))],[(0,(.box [(r 4 0),(r 4 1)])),(1,(.box [(.a (.c (.v (.int .u8 0)))),(.a (i 0)),(.a (i 0)),.nil,(.a (i 0)),.nil,.nil,.nil,.nil,.nil,.nil,.nil,.nil,(.a (i 0)),(.a (i 0)),.nil,(.a (i 0)),.nil,.nil,.nil,.nil,.nil,.nil,.nil,.nil,.nil,(.a (i 0)),(.a (i 0)),.nil,(.a (i 0)),.nil,.nil,.nil,.nil,.nil,.nil,.nil,(.a (i 0)),.nil,(.a (i 0)),(.a (i 0)),.nil,(.a (i 0)),.nil,.nil,.nil,.nil,.nil,.nil,.nil,.nil])),(2,(.box [(a 0),(.a (i 0)),(.a (i 0)),.nil,(.a (i 0)),.nil,.nil,.nil,.nil,.nil,.nil,.nil,.nil,(.a (i 0)),(.a (i 0)),.nil,(.a (i 0)),.nil,.nil,.nil,.nil,.nil,.nil,.nil,.nil,.nil,(a 8),(a 9),(a 10),(a 11),(a 12),(a 13),(a 14),(a 15),(a 16),(a 17),(a 18),(a 19),(a 20),(a 21),(a 22),(a 23),(a 24),(a 25),(a 26),(a 27),(a 28),(a 29),(a 30),(a 31),(a 32)]))],3⟩),(.j ⟨13,[(5,(p 0 0)),(6,(p 1 0)),(7,(wi 0)),(8,(p 2 0)),(9,(w 21))],[(0,(.box [(r 4 0),(r 4 1)])),(1,(.box [(.a (.c (.v (.int .u8 0)))),(.a (i 0)),(.a (i 0)),.nil,(.a (i 0)),.nil,.nil,.nil,.nil,.nil,.nil,.nil,.nil,(.a (i 0)),(.a (i 0)),.nil,(.a (i 0)),.nil,.nil,.nil,.nil,.nil,.nil,.nil,.nil,.nil,(.a (i 0)),(.a (i 0)),.nil,(.a (i 0)),.nil,.nil,.nil,.nil,.nil,.nil,.nil,(.a (i 0)),.nil,(.a (i 0)),(.a (i 0)),.nil,(.a (i 0)),.nil,.nil,.nil,.nil,.nil,.nil,.nil,.nil])),(2,(.box [(a 0),(.a (i 0)),(.a (i 0)),.nil,(.a (i 0)),.nil,.nil,.nil,.nil,.nil,.nil,.nil,.nil,(.a (i 0)),(.a (i 0)),.nil,(.a (i 0)),.nil,.nil,.nil,.nil,.nil,.nil,.nil,.nil,.nil,(.a (i 0)),(.a (i 0)),.nil,(.a (i 0)),.nil,.nil,.nil,.nil,.nil,.nil,.nil,(.a (i 0)),.nil,(a 9),(a 10),(a 11),(a 12),(a 13),(a 14),(a 15),(a 16),(a 17),(a 18),(a 19),(a 20)]))],3⟩),(.j ⟨1,[(9,(w 56)),(8,(p 0 0)),(7,(wi 0)),(6,(p 1 0)),(55,(w 57))],[(0,(.box [(a 0),(a 6),(a 7),(a 8),(a 9),(a 10),(a 11),(a 12),(a 13),(a 14),(a 15),(a 16),(a 17),(a 18),(a 19),(a 20),(a 21),(a 22),(a 23),(a 24),(a 25),(a 26),(a 27),(a 28),(a 29),(a 30),(a 31),(a 32),(a 33),(a 34),(a 35),(a 36),(a 37),(a 38),(a 39),(a 40),(a 41),(a 42),(a 43),(a 44),(a 45),(a 46),(a 47),(a 48),(a 49),(a 50),(a 51),(a 52),(a 53),(a 54),(a 55)])),(1,(.box [(.a (.c (.v (.int .u8 0)))),(.a (i 0)),(.a (i 0)),.nil,(.a (i 0)),.nil,.nil,.nil,.nil,.nil,.nil,.nil,.nil,(.a (i 0)),(.a (i 0)),.nil,(.a (i 0)),.nil,.nil,.nil,.nil,.nil,.nil,.nil,.nil,.nil,(.a (i 0)),(.a (i 0)),.nil,(.a (i 0)),.nil,.nil,.nil,.nil,.nil,.nil,.nil,(.a (i 0)),.nil,(.a (i 0)),(.a (i 0)),.nil,(.a (i 0)),.nil,.nil,.nil,.nil,.nil,.nil,.nil,.nil]))],2⟩),(.j ⟨1,[(6,(p 0 0)),(7,(wi 0)),(8,(p 1 0)),(9,(w 58))],[(0,(.box [(.a (.c (.v (.int .u8 0)))),(.a (i 0)),(.a (i 0)),.nil,(.a (i 0)),.nil,.nil,.nil,.nil,.nil,.nil,.nil,.nil,(.a (i 0)),(.a (i 0)),.nil,(.a (i 0)),.nil,.nil,.nil,.nil,.nil,.nil,.nil,.nil,.nil,(.a (i 0)),(.a (i 0)),.nil,(.a (i 0)),.nil,.nil,.nil,.nil,.nil,.nil,.nil,(.a (i 0)),.nil,(.a (i 0)),(.a (i 0)),.nil,(.a (i 0)),.nil,.nil,.nil,.nil,.nil,.nil,.nil,.nil])),(1,(.box [(a 0),(a 6),(a 7),(a 8),(a 9),(a 10),(a 11),(a 12),(a 13),(a 14),(a 15),(a 16),(a 17),(a 18),(a 19),(a 20),(a 21),(a 22),(a 23),(a 24),(a 25),(a 26),(a 27),(a 28),(a 29),(a 30),(a 31),(a 32),(a 33),(a 34),(a 35),(a 36),(a 37),(a 38),(a 39),(a 40),(a 41),(a 42),(a 43),(a 44),(a 45),(a 46),(a 47),(a 48),(a 49),(a 50),(a 51),(a 52),(a 53),(a 54),(a 55)]))],2⟩)]
theorem q21:symF D0 100000 21 h21=some k21:=by kernel_rfl
def k22:K:=
 l (.shape 51) [x 0]<|
 c 26 [x 1]<|
 l oN [x 2,i 0]<|
 b (x 3) (l .agg [i 0,i 0]<|
 l .agg [.c (.sl [])]<|
.ret [x 4,x 5,x 2])<|
 c 66 [x 1]<|
 l (.shape 11) [x 4]<|
 l (.part 0 2) [x 5]<|
 l (.cell 2) [x 5]<|
 c 67 [x 7]<|
 l .len [x 8]<|
 l (.shape 2) [x 6]<|
 l (.part 0 2) [x 10]<|
 l .sub [x 8,i 0,x 9]<|
 l .agg [x 12]<|
.ret [x 11,x 13,i 0]
def h22:List Hint:=[.no]
theorem q22:symF D0 100000 22 h22=some k22:=by kernel_rfl
def k23:K:=
 l (.shape 51) [x 0]<|
 c 27 [x 1]<|
 l oN [x 2,i 0]<|
 b (x 3) (c 27 [x 1]<|
 l .agg [i 0,i 0]<|
 l .agg [.c (.sl [])]<|
.ret [x 5,x 6,x 4])<|
 c 13 [x 1]<|
 l (.part 0 2) [x 4]<|
 c 13 [x 1]<|
 l (.part 2 1) [x 6]<|
 l (.shape 2) [x 5]<|
 l (.shape 1) [x 7]<|
 l (.part 0 2) [x 8]<|
 l (.part 0 1) [x 9]<|
.ret [x 10,x 11,i 0]
def h23:List Hint:=[.no]
theorem q23:symF D0 100000 23 h23=some k23:=by kernel_rfl
def k24:K:=
 l (.shape 51) [x 0]<|
 c 26 [x 1]<|
 l oN [x 2,i 0]<|
 b (x 3) (.ret [i 0,x 2])<|
 l (.cell 0) [x 1]<|
 l oE [x 4,.c (.v (.int .u8 1))]<|
 b (x 5) (l (.part 1 12) [x 1]<|
 c 68 [x 6]<|
.ret [x 7,x 8])<|
 l (.cell 0) [x 1]<|
 l oE [x 6,.c (.v (.int .u8 2))]<|
 b (x 7) (l (.part 13 13) [x 1]<|
 c 69 [x 8]<|
.ret [x 9,x 10])<|
 l (.cell 0) [x 1]<|
 l oE [x 8,.c (.v (.int .u8 3))]<|
 b (x 9) (l (.part 26 13) [x 1]<|
 c 70 [x 10]<|
.ret [x 11,x 12])<|
 l (.part 39 12) [x 1]<|
 c 71 [x 10]<|
.ret [x 11,x 12]
def h24:List Hint:=[.no,.no,.no,.no,.no]
theorem q24:symF D0 100000 24 h24=some k24:=by kernel_rfl
def k25:K:=
 l (.shape 51) [x 0]<|
 c 27 [x 1]<|
 l oN [x 2,i 0]<|
 b (x 3) (c 27 [x 1]<|
.ret [i 0,x 4])<|
 l (.cell 0) [x 1]<|
 l oE [x 4,.c (.v (.int .u8 1))]<|
 b (x 5) (l (.part 1 12) [x 1]<|
 c 72 [x 6]<|
.ret [x 7,x 8])<|
 l (.cell 0) [x 1]<|
 l oE [x 6,.c (.v (.int .u8 2))]<|
 b (x 7) (l (.part 13 13) [x 1]<|
 c 73 [x 8]<|
.ret [x 9,x 10])<|
 l (.cell 0) [x 1]<|
 l oE [x 8,.c (.v (.int .u8 3))]<|
 b (x 9) (l (.part 26 13) [x 1]<|
 c 74 [x 10]<|
.ret [x 11,x 12])<|
 l (.part 39 12) [x 1]<|
 c 75 [x 10]<|
.ret [x 11,x 12]
def h25:List Hint:=[.no,.no,.no,.no,.no]
theorem q25:symF D0 100000 25 h25=some k25:=by kernel_rfl
def sX:K:=
 l oN [x 8,i 0]<|
 b (x 9) (.ret [i 8])<|
 c 66 [x 1]<|
 l (.part 0 2) [x 10]<|
 c 44 [x 11]<|
 l oN [x 12,i 0]<|
 b (x 13) (.ret [i 8])<|
.ret [i 0]
def C7:K:=
 j 0 [x 10]
def C8:K:=
 j 1 [x 12]
def C9:K:=
 j 2 [x 14]
def sY:K:=
 l (.cell 0) [x 1]<|
 l oE [x 6,.c (.v (.int .u8 1))]<|
.jp sX<|
 b (x 7) (l (.part 1 12) [x 1]<|
 c 77 [x 8]<|
 j 0 [x 9])<|
 l (.cell 0) [x 1]<|
 l oE [x 8,.c (.v (.int .u8 2))]<|
.jp C7<|
 b (x 9) (l (.part 13 13) [x 1]<|
 c 78 [x 10]<|
 j 1 [x 11])<|
 l (.cell 0) [x 1]<|
 l oE [x 10,.c (.v (.int .u8 3))]<|
.jp C8<|
 b (x 11) (l (.part 26 13) [x 1]<|
 c 79 [x 12]<|
 j 2 [x 13])<|
 l (.cell 0) [x 1]<|
 l oE [x 12,.c (.v (.int .u8 4))]<|
.jp C9<|
 b (x 13) (l (.part 39 12) [x 1]<|
 c 80 [x 14]<|
 j 3 [x 15])<|
 j 3 [i 8]
def Da:K:=
 b (x 10) (.ret [i 8])<|
 l oA [x 6,i 1]<|
 j 1 [x 11]
def sZ:K:=
 l oL [x 6,i 4]<|
 b (x 7) (l .agg [x 2,x 3,x 4,x 5]<|
 l (.aix 1 4 0) [x 8,x 6]<|
.jp Da<|
 b (x 9) (l oA [x 6,i 1]<|
 l (.cell 0) [x 1]<|
 l (.conv .i64) [x 11]<|
 l oN [x 10,x 12]<|
 j 2 [x 13])<|
 j 2 [.c (.v (.bool false))])<|
 j 0 []
def s8:K:=
.jp sY<|
.loop sZ<|
 j 1 [i 0]
def k26:K:=
 l (.shape 51) [x 0]<|
.jp s8<|
 l (.part 1 11) [x 1]<|
 c 76 [x 2]<|
 l (.un .not) [x 3]<|
 b (x 4) (l (.part 13 11) [x 1]<|
 c 76 [x 5]<|
 l (.un .not) [x 6]<|
 b (x 7) (l (.part 26 11) [x 1]<|
 c 76 [x 8]<|
 l (.un .not) [x 9]<|
 b (x 10) (l (.part 39 11) [x 1]<|
 c 76 [x 11]<|
 l (.un .not) [x 12]<|
 b (x 13) (j 0 [.c (.v (.bool true)),.c (.v (.bool true)),.c (.v (.bool true)),.c (.v (.bool true))])<|
 l (.cell 50) [x 1]<|
 l .len [x 14]<|
 l oG [x 15,i 0]<|
 j 0 [.c (.v (.bool true)),.c (.v (.bool true)),.c (.v (.bool true)),x 16])<|
 l (.cell 37) [x 1]<|
 l oN [x 11,i 0]<|
 b (x 12) (l (.part 39 11) [x 1]<|
 c 76 [x 13]<|
 l (.un .not) [x 14]<|
 b (x 15) (j 0 [.c (.v (.bool true)),.c (.v (.bool true)),.c (.v (.bool true)),.c (.v (.bool true))])<|
 l (.cell 50) [x 1]<|
 l .len [x 16]<|
 l oG [x 17,i 0]<|
 j 0 [.c (.v (.bool true)),.c (.v (.bool true)),.c (.v (.bool true)),x 18])<|
 l (.cell 38) [x 1]<|
 l .len [x 13]<|
 l oG [x 14,i 0]<|
 l (.part 39 11) [x 1]<|
 c 76 [x 16]<|
 l (.un .not) [x 17]<|
 b (x 18) (j 0 [.c (.v (.bool true)),.c (.v (.bool true)),x 15,.c (.v (.bool true))])<|
 l (.cell 50) [x 1]<|
 l .len [x 19]<|
 l oG [x 20,i 0]<|
 j 0 [.c (.v (.bool true)),.c (.v (.bool true)),x 15,x 21])<|
 l (.cell 24) [x 1]<|
 l .len [x 8]<|
 l (.cell 25) [x 1]<|
 l .len [x 10]<|
 l oA [x 9,x 11]<|
 l oG [x 12,i 0]<|
 l (.part 26 11) [x 1]<|
 c 76 [x 14]<|
 l (.un .not) [x 15]<|
 b (x 16) (l (.part 39 11) [x 1]<|
 c 76 [x 17]<|
 l (.un .not) [x 18]<|
 b (x 19) (j 0 [.c (.v (.bool true)),x 13,.c (.v (.bool true)),.c (.v (.bool true))])<|
 l (.cell 50) [x 1]<|
 l .len [x 20]<|
 l oG [x 21,i 0]<|
 j 0 [.c (.v (.bool true)),x 13,.c (.v (.bool true)),x 22])<|
 l (.cell 37) [x 1]<|
 l oN [x 17,i 0]<|
 b (x 18) (l (.part 39 11) [x 1]<|
 c 76 [x 19]<|
 l (.un .not) [x 20]<|
 b (x 21) (j 0 [.c (.v (.bool true)),x 13,.c (.v (.bool true)),.c (.v (.bool true))])<|
 l (.cell 50) [x 1]<|
 l .len [x 22]<|
 l oG [x 23,i 0]<|
 j 0 [.c (.v (.bool true)),x 13,.c (.v (.bool true)),x 24])<|
 l (.cell 38) [x 1]<|
 l .len [x 19]<|
 l oG [x 20,i 0]<|
 l (.part 39 11) [x 1]<|
 c 76 [x 22]<|
 l (.un .not) [x 23]<|
 b (x 24) (j 0 [.c (.v (.bool true)),x 13,x 21,.c (.v (.bool true))])<|
 l (.cell 50) [x 1]<|
 l .len [x 25]<|
 l oG [x 26,i 0]<|
 j 0 [.c (.v (.bool true)),x 13,x 21,x 27])<|
 l (.cell 12) [x 1]<|
 l .len [x 5]<|
 l oG [x 6,i 0]<|
 l (.part 13 11) [x 1]<|
 c 76 [x 8]<|
 l (.un .not) [x 9]<|
 b (x 10) (l (.part 26 11) [x 1]<|
 c 76 [x 11]<|
 l (.un .not) [x 12]<|
 b (x 13) (l (.part 39 11) [x 1]<|
 c 76 [x 14]<|
 l (.un .not) [x 15]<|
 b (x 16) (j 0 [x 7,.c (.v (.bool true)),.c (.v (.bool true)),.c (.v (.bool true))])<|
 l (.cell 50) [x 1]<|
 l .len [x 17]<|
 l oG [x 18,i 0]<|
 j 0 [x 7,.c (.v (.bool true)),.c (.v (.bool true)),x 19])<|
 l (.cell 37) [x 1]<|
 l oN [x 14,i 0]<|
 b (x 15) (l (.part 39 11) [x 1]<|
 c 76 [x 16]<|
 l (.un .not) [x 17]<|
 b (x 18) (j 0 [x 7,.c (.v (.bool true)),.c (.v (.bool true)),.c (.v (.bool true))])<|
 l (.cell 50) [x 1]<|
 l .len [x 19]<|
 l oG [x 20,i 0]<|
 j 0 [x 7,.c (.v (.bool true)),.c (.v (.bool true)),x 21])<|
 l (.cell 38) [x 1]<|
 l .len [x 16]<|
 l oG [x 17,i 0]<|
 l (.part 39 11) [x 1]<|
 c 76 [x 19]<|
 l (.un .not) [x 20]<|
 b (x 21) (j 0 [x 7,.c (.v (.bool true)),x 18,.c (.v (.bool true))])<|
 l (.cell 50) [x 1]<|
 l .len [x 22]<|
 l oG [x 23,i 0]<|
 j 0 [x 7,.c (.v (.bool true)),x 18,x 24])<|
 l (.cell 24) [x 1]<|
 l .len [x 11]<|
 l (.cell 25) [x 1]<|
 l .len [x 13]<|
 l oA [x 12,x 14]<|
 l oG [x 15,i 0]<|
 l (.part 26 11) [x 1]<|
 c 76 [x 17]<|
 l (.un .not) [x 18]<|
 b (x 19) (l (.part 39 11) [x 1]<|
 c 76 [x 20]<|
 l (.un .not) [x 21]<|
 b (x 22) (j 0 [x 7,x 16,.c (.v (.bool true)),.c (.v (.bool true))])<|
 l (.cell 50) [x 1]<|
 l .len [x 23]<|
 l oG [x 24,i 0]<|
 j 0 [x 7,x 16,.c (.v (.bool true)),x 25])<|
 l (.cell 37) [x 1]<|
 l oN [x 20,i 0]<|
 b (x 21) (l (.part 39 11) [x 1]<|
 c 76 [x 22]<|
 l (.un .not) [x 23]<|
 b (x 24) (j 0 [x 7,x 16,.c (.v (.bool true)),.c (.v (.bool true))])<|
 l (.cell 50) [x 1]<|
 l .len [x 25]<|
 l oG [x 26,i 0]<|
 j 0 [x 7,x 16,.c (.v (.bool true)),x 27])<|
 l (.cell 38) [x 1]<|
 l .len [x 22]<|
 l oG [x 23,i 0]<|
 l (.part 39 11) [x 1]<|
 c 76 [x 25]<|
 l (.un .not) [x 26]<|
 b (x 27) (j 0 [x 7,x 16,x 24,.c (.v (.bool true))])<|
 l (.cell 50) [x 1]<|
 l .len [x 28]<|
 l oG [x 29,i 0]<|
 j 0 [x 7,x 16,x 24,x 30]
def h26:List Hint:=[(.j ⟨4,[(1,(p 0 0)),(2,(wi 0)),(3,(p 1 0))],[(0,(.box (pcs (x 1) 0 51))),(1,(.box [(a 2),(a 3),(a 4),(a 5)]))],2⟩),(.j ⟨0,[(1,(p 0 0)),(2,(wi 0))],[(0,(.box (pcs (x 1) 0 51)))],1⟩),(.j ⟨1,[(2,(wi 0)),(1,(p 0 0)),(71,(.w (.agg [(a 2),(a 3),(a 4),(a 5)]))),(72,(w 6))],[(0,(.box (pcs (x 1) 0 51)))],1⟩),.no,.no,(.j ⟨1,[(72,(w 6)),(71,(.w (.agg [(a 2),(a 3),(a 4),(a 5)]))),(1,(p 0 0)),(2,(wi 0)),(73,(w 7)),(74,(w 6)),(75,(w 9)),(4,(w 6)),(5,(w 9)),(76,(w 9)),(77,(w 9)),(84,(w 10))],[(0,(.box (pcs (x 1) 0 51)))],1⟩),.no,.no,(.j ⟨1,[(2,(wi 0)),(1,(p 0 0)),(6,(w 8))],[(0,(.box (pcs (x 1) 0 51)))],1⟩),(.j ⟨1,[(2,(wi 0)),(1,(p 0 0)),(6,(w 10))],[(0,(.box (pcs (x 1) 0 51)))],1⟩),(.j ⟨1,[(2,(wi 0)),(1,(p 0 0)),(6,(w 12))],[(0,(.box (pcs (x 1) 0 51)))],1⟩),(.j ⟨1,[(2,(wi 0)),(1,(p 0 0)),(6,(w 14))],[(0,(.box (pcs (x 1) 0 51)))],1⟩),.no,.no]
theorem q26:symF D0 100000 26 h26=some k26:=by kernel_rfl
def tc:K:=
 l oN [x 5,i 0]<|
 b (x 6) (.ret [i 8])<|
 c 13 [x 1]<|
 l (.part 0 2) [x 7]<|
 c 64 [x 8]<|
 l oN [x 9,i 0]<|
 b (x 10) (.ret [i 8])<|
.ret [i 0]
def Db:K:=
 j 0 [x 7]
def Dc:K:=
 j 1 [x 9]
def Dd:K:=
 j 2 [x 11]
def td:K:=
 b (x 2) (.ret [i 8])<|
 l (.cell 0) [x 1]<|
 l oE [x 3,.c (.v (.int .u8 1))]<|
.jp tc<|
 b (x 4) (l (.part 1 12) [x 1]<|
 c 81 [x 5]<|
 j 0 [x 6])<|
 l (.cell 0) [x 1]<|
 l oE [x 5,.c (.v (.int .u8 2))]<|
.jp Db<|
 b (x 6) (l (.part 13 13) [x 1]<|
 c 82 [x 7]<|
 j 1 [x 8])<|
 l (.cell 0) [x 1]<|
 l oE [x 7,.c (.v (.int .u8 3))]<|
.jp Dc<|
 b (x 8) (l (.part 26 13) [x 1]<|
 c 83 [x 9]<|
 j 2 [x 10])<|
 l (.cell 0) [x 1]<|
 l oE [x 9,.c (.v (.int .u8 4))]<|
.jp Dd<|
 b (x 10) (l (.part 39 12) [x 1]<|
 c 84 [x 11]<|
 j 3 [x 12])<|
 j 3 [i 8]
def k27:K:=
 l (.shape 51) [x 0]<|
.jp td<|
 l (.cell 0) [x 1]<|
 l oN [x 2,.c (.v (.int .u8 1))]<|
 b (x 3) (l (.part 1 12) [x 1]<|
 l .agg [i 0,i 0,.c (.sl []),i 0,.c (.sl []),.c (.sl []),.c (.sl []),.c (.sl []),.c (.sl []),.c (.sl []),.c (.sl []),.c (.sl [])]<|
 c 51 [x 4,x 5]<|
 l (.un .not) [x 6]<|
 b (x 7) (j 0 [.c (.v (.bool true))])<|
 l (.cell 0) [x 1]<|
 l oN [x 8,.c (.v (.int .u8 2))]<|
 b (x 9) (l (.part 13 13) [x 1]<|
 l .agg [i 0,i 0,.c (.sl []),i 0,.c (.sl []),.c (.sl []),.c (.sl []),.c (.sl []),.c (.sl []),.c (.sl []),.c (.sl []),.c (.sl []),.c (.sl [])]<|
 c 52 [x 10,x 11]<|
 l (.un .not) [x 12]<|
 b (x 13) (j 0 [.c (.v (.bool true))])<|
 l (.cell 0) [x 1]<|
 l oN [x 14,.c (.v (.int .u8 3))]<|
 b (x 15) (l (.part 26 13) [x 1]<|
 l .agg [i 0,i 0,.c (.sl []),i 0,.c (.sl []),.c (.sl []),.c (.sl []),.c (.sl []),.c (.sl []),.c (.sl []),.c (.sl []),i 0,.c (.sl [])]<|
 c 53 [x 16,x 17]<|
 l (.un .not) [x 18]<|
 b (x 19) (j 0 [.c (.v (.bool true))])<|
 l (.cell 0) [x 1]<|
 l oN [x 20,.c (.v (.int .u8 4))]<|
 b (x 21) (l (.part 39 12) [x 1]<|
 l .agg [i 0,i 0,.c (.sl []),i 0,.c (.sl []),.c (.sl []),.c (.sl []),.c (.sl []),.c (.sl []),.c (.sl []),.c (.sl []),.c (.sl [])]<|
 c 54 [x 22,x 23]<|
 l (.un .not) [x 24]<|
 j 0 [x 25])<|
 j 0 [.c (.v (.bool false))])<|
 l (.cell 0) [x 1]<|
 l oN [x 16,.c (.v (.int .u8 4))]<|
 b (x 17) (l (.part 39 12) [x 1]<|
 l .agg [i 0,i 0,.c (.sl []),i 0,.c (.sl []),.c (.sl []),.c (.sl []),.c (.sl []),.c (.sl []),.c (.sl []),.c (.sl []),.c (.sl [])]<|
 c 54 [x 18,x 19]<|
 l (.un .not) [x 20]<|
 j 0 [x 21])<|
 j 0 [.c (.v (.bool false))])<|
 l (.cell 0) [x 1]<|
 l oN [x 10,.c (.v (.int .u8 3))]<|
 b (x 11) (l (.part 26 13) [x 1]<|
 l .agg [i 0,i 0,.c (.sl []),i 0,.c (.sl []),.c (.sl []),.c (.sl []),.c (.sl []),.c (.sl []),.c (.sl []),.c (.sl []),i 0,.c (.sl [])]<|
 c 53 [x 12,x 13]<|
 l (.un .not) [x 14]<|
 b (x 15) (j 0 [.c (.v (.bool true))])<|
 l (.cell 0) [x 1]<|
 l oN [x 16,.c (.v (.int .u8 4))]<|
 b (x 17) (l (.part 39 12) [x 1]<|
 l .agg [i 0,i 0,.c (.sl []),i 0,.c (.sl []),.c (.sl []),.c (.sl []),.c (.sl []),.c (.sl []),.c (.sl []),.c (.sl []),.c (.sl [])]<|
 c 54 [x 18,x 19]<|
 l (.un .not) [x 20]<|
 j 0 [x 21])<|
 j 0 [.c (.v (.bool false))])<|
 l (.cell 0) [x 1]<|
 l oN [x 12,.c (.v (.int .u8 4))]<|
 b (x 13) (l (.part 39 12) [x 1]<|
 l .agg [i 0,i 0,.c (.sl []),i 0,.c (.sl []),.c (.sl []),.c (.sl []),.c (.sl []),.c (.sl []),.c (.sl []),.c (.sl []),.c (.sl [])]<|
 c 54 [x 14,x 15]<|
 l (.un .not) [x 16]<|
 j 0 [x 17])<|
 j 0 [.c (.v (.bool false))])<|
 l (.cell 0) [x 1]<|
 l oN [x 4,.c (.v (.int .u8 2))]<|
 b (x 5) (l (.part 13 13) [x 1]<|
 l .agg [i 0,i 0,.c (.sl []),i 0,.c (.sl []),.c (.sl []),.c (.sl []),.c (.sl []),.c (.sl []),.c (.sl []),.c (.sl []),.c (.sl []),.c (.sl [])]<|
 c 52 [x 6,x 7]<|
 l (.un .not) [x 8]<|
 b (x 9) (j 0 [.c (.v (.bool true))])<|
 l (.cell 0) [x 1]<|
 l oN [x 10,.c (.v (.int .u8 3))]<|
 b (x 11) (l (.part 26 13) [x 1]<|
 l .agg [i 0,i 0,.c (.sl []),i 0,.c (.sl []),.c (.sl []),.c (.sl []),.c (.sl []),.c (.sl []),.c (.sl []),.c (.sl []),i 0,.c (.sl [])]<|
 c 53 [x 12,x 13]<|
 l (.un .not) [x 14]<|
 b (x 15) (j 0 [.c (.v (.bool true))])<|
 l (.cell 0) [x 1]<|
 l oN [x 16,.c (.v (.int .u8 4))]<|
 b (x 17) (l (.part 39 12) [x 1]<|
 l .agg [i 0,i 0,.c (.sl []),i 0,.c (.sl []),.c (.sl []),.c (.sl []),.c (.sl []),.c (.sl []),.c (.sl []),.c (.sl []),.c (.sl [])]<|
 c 54 [x 18,x 19]<|
 l (.un .not) [x 20]<|
 j 0 [x 21])<|
 j 0 [.c (.v (.bool false))])<|
 l (.cell 0) [x 1]<|
 l oN [x 12,.c (.v (.int .u8 4))]<|
 b (x 13) (l (.part 39 12) [x 1]<|
 l .agg [i 0,i 0,.c (.sl []),i 0,.c (.sl []),.c (.sl []),.c (.sl []),.c (.sl []),.c (.sl []),.c (.sl []),.c (.sl []),.c (.sl [])]<|
 c 54 [x 14,x 15]<|
 l (.un .not) [x 16]<|
 j 0 [x 17])<|
 j 0 [.c (.v (.bool false))])<|
 l (.cell 0) [x 1]<|
 l oN [x 6,.c (.v (.int .u8 3))]<|
 b (x 7) (l (.part 26 13) [x 1]<|
 l .agg [i 0,i 0,.c (.sl []),i 0,.c (.sl []),.c (.sl []),.c (.sl []),.c (.sl []),.c (.sl []),.c (.sl []),.c (.sl []),i 0,.c (.sl [])]<|
 c 53 [x 8,x 9]<|
 l (.un .not) [x 10]<|
 b (x 11) (j 0 [.c (.v (.bool true))])<|
 l (.cell 0) [x 1]<|
 l oN [x 12,.c (.v (.int .u8 4))]<|
 b (x 13) (l (.part 39 12) [x 1]<|
 l .agg [i 0,i 0,.c (.sl []),i 0,.c (.sl []),.c (.sl []),.c (.sl []),.c (.sl []),.c (.sl []),.c (.sl []),.c (.sl []),.c (.sl [])]<|
 c 54 [x 14,x 15]<|
 l (.un .not) [x 16]<|
 j 0 [x 17])<|
 j 0 [.c (.v (.bool false))])<|
 l (.cell 0) [x 1]<|
 l oN [x 8,.c (.v (.int .u8 4))]<|
 b (x 9) (l (.part 39 12) [x 1]<|
 l .agg [i 0,i 0,.c (.sl []),i 0,.c (.sl []),.c (.sl []),.c (.sl []),.c (.sl []),.c (.sl []),.c (.sl []),.c (.sl []),.c (.sl [])]<|
 c 54 [x 10,x 11]<|
 l (.un .not) [x 12]<|
 j 0 [x 13])<|
 j 0 [.c (.v (.bool false))]
def h27:List Hint:=[(.j ⟨1,[(1,(p 0 0)),(2,(wi 0)),(49,(w 2))],[(0,(.box (pcs (x 1) 0 51)))],1⟩),.no,.no,(.j ⟨1,[(2,(wi 0)),(1,(p 0 0)),(3,(w 5))],[(0,(.box (pcs (x 1) 0 51)))],1⟩),(.j ⟨1,[(2,(wi 0)),(1,(p 0 0)),(3,(w 7))],[(0,(.box (pcs (x 1) 0 51)))],1⟩),(.j ⟨1,[(2,(wi 0)),(1,(p 0 0)),(3,(w 9))],[(0,(.box (pcs (x 1) 0 51)))],1⟩),(.j ⟨1,[(2,(wi 0)),(1,(p 0 0)),(3,(w 11))],[(0,(.box (pcs (x 1) 0 51)))],1⟩),.no,.no]
theorem q27:symF D0 100000 27 h27=some k27:=by kernel_rfl
def De:K:=
.ret [.c (.v (.bool true))]
def te:K:=
 l (.cell 0) [x 2]<|
 l .len [x 10]<|
 l oL [x 9,x 11]<|
 b (x 12) (l (.cell 0) [x 2]<|
 l (.tix 3) [x 13,x 9]<|
 l (.elt 0 3) [x 13,x 14]<|
 l (.cell 0) [x 3]<|
 l (.tix 3) [x 16,x 9]<|
 l (.elt 0 3) [x 16,x 17]<|
 l (.eqv [.i,.i,.i]) [x 15,x 18]<|
 l (.un .not) [x 19]<|
 b (x 20) (.ret [.c (.v (.bool false))])<|
 l oA [x 9,i 1]<|
 j 1 [x 21])<|
 j 0 []
def k28:K:=
 l (.shape 1) [x 0]<|
 l (.shape 1) [x 1]<|
 l (.cell 0) [x 2]<|
 l .len [x 4]<|
 l (.cell 0) [x 3]<|
 l .len [x 6]<|
 l oN [x 5,x 7]<|
 b (x 8) (.ret [.c (.v (.bool false))])<|
.jp De<|
.loop te<|
 j 1 [i 0]
def h28:List Hint:=[.no,(.j ⟨0,[(4,(.w (.c (.a (.c (.v (.bool false)))))))],[],0⟩),(.j ⟨1,[(2,(p 0 0)),(3,(p 1 0)),(4,(.w (.c (.a (.c (.v (.bool false))))))),(5,(w 9))],[(0,(.box [(r 2 0)])),(1,(.box [(r 3 0)]))],2⟩),.no,.no,.no]
theorem q28:symF D0 100000 28 h28=some k28:=by kernel_rfl
def Df:K:=
.ret [x 2]
def k35:K:=
 l (.shape 12) [x 0]<|
.jp Df<|
 l (.part 0 11) [x 1]<|
 c 109 [x 2]<|
 b (x 3) (j 0 [.c (.v (.bool true))])<|
 l (.cell 11) [x 1]<|
 l .len [x 4]<|
 l oG [x 5,i 70]<|
 j 0 [x 6]
def h35:List Hint:=[(.j ⟨1,[(2,(w 2))],[],0⟩)]
theorem q35:symF D0 100000 35 h35=some k35:=by kernel_rfl
def Dg:K:=
.ret [x 2]
def k36:K:=
 l (.shape 13) [x 0]<|
.jp Dg<|
 l (.part 0 11) [x 1]<|
 c 109 [x 2]<|
 b (x 3) (j 0 [.c (.v (.bool true))])<|
 l (.part 11 2) [x 1]<|
 c 110 [x 4]<|
 j 0 [x 5]
def h36:List Hint:=[(.j ⟨1,[(2,(w 2))],[],0⟩)]
theorem q36:symF D0 100000 36 h36=some k36:=by kernel_rfl
def Dh:K:=
.ret [x 2]
def k37:K:=
 l (.shape 13) [x 0]<|
.jp Dh<|
 l (.part 0 11) [x 1]<|
 c 109 [x 2]<|
 b (x 3) (j 0 [.c (.v (.bool true))])<|
 l (.part 11 2) [x 1]<|
 c 111 [x 4]<|
 j 0 [x 5]
def h37:List Hint:=[(.j ⟨1,[(2,(w 2))],[],0⟩)]
theorem q37:symF D0 100000 37 h37=some k37:=by kernel_rfl
def Lh:K:=
.ret [x 2]
def k38:K:=
 l (.shape 12) [x 0]<|
.jp Lh<|
 l (.part 0 11) [x 1]<|
 c 109 [x 2]<|
 b (x 3) (j 0 [.c (.v (.bool true))])<|
 l (.cell 11) [x 1]<|
 l .len [x 4]<|
 l oG [x 5,i 70]<|
 j 0 [x 6]
def h38:List Hint:=[(.j ⟨1,[(2,(w 2))],[],0⟩)]
theorem q38:symF D0 100000 38 h38=some k38:=by kernel_rfl
def k43:K:=
 l (.shape 2) [x 0]<|
 l (.cell 1) [x 1]<|
 l oL [x 2,i 1]<|
 b (x 3) (.ret [i 8])<|
 l (.cell 0) [x 1]<|
 l oE [x 4,i (-9223372036854775808)]<|
 b (x 5) (.ret [i 8])<|
 l (.cell 1) [x 1]<|
 l (.conv .u64) [x 6]<|
 l (.cell 0) [x 1]<|
 c 116 [x 8]<|
 c 115 [x 7,x 9]<|
 l oG [x 10,.c (.v (.int .u64 1))]<|
 b (x 11) (.ret [i 8])<|
.ret [i 0]
def h43:List Hint:=[.no,.no]
theorem q43:symF D0 100000 43 h43=some k43:=by kernel_rfl
def k44:K:=
 l (.shape 2) [x 0]<|
 c 43 [x 1]<|
 l oN [x 2,i 0]<|
 b (x 3) (.ret [x 2])<|
 l (.cell 0) [x 1]<|
 c 116 [x 4]<|
 l oG [x 5,.c (.v (.int .u64 1073741824))]<|
 b (x 6) (.ret [i 2])<|
 l (.cell 1) [x 1]<|
 l oG [x 7,i 1024]<|
 b (x 8) (.ret [i 2])<|
.ret [i 0]
def h44:List Hint:=[.no,.no,.no]
theorem q44:symF D0 100000 44 h44=some k44:=by kernel_rfl
def k51_1:K:=
.ret [x 4]
def k51:K:=
 l (.shape 12) [x 0]<|
 l (.shape 12) [x 1]<|
.jp k51_1<|
 l (.part 0 11) [x 2]<|
 l (.part 0 11) [x 3]<|
 c 134 [x 4,x 5]<|
 b (x 6) (l (.cell 11) [x 2]<|
 l (.cell 11) [x 3]<|
 c 135 [x 7,x 8]<|
 j 0 [x 9])<|
 j 0 [.c (.v (.bool false))]
def h51:List Hint:=[(.j ⟨1,[(4,(w 4))],[],0⟩)]
theorem q51:symF D0 100000 51 h51=some k51:=by kernel_rfl
def k52_1:K:=
.ret [x 4]
def k52:K:=
 l (.shape 13) [x 0]<|
 l (.shape 13) [x 1]<|
.jp k52_1<|
 l (.part 0 11) [x 2]<|
 l (.part 0 11) [x 3]<|
 c 134 [x 4,x 5]<|
 b (x 6) (l (.part 11 2) [x 2]<|
 l (.part 11 2) [x 3]<|
 c 136 [x 7,x 8]<|
 j 0 [x 9])<|
 j 0 [.c (.v (.bool false))]
def h52:List Hint:=[(.j ⟨1,[(4,(w 4))],[],0⟩)]
theorem q52:symF D0 100000 52 h52=some k52:=by kernel_rfl
def k53_1:K:=
.ret [x 4]
def k53:K:=
 l (.shape 13) [x 0]<|
 l (.shape 13) [x 1]<|
.jp k53_1<|
 l (.part 0 11) [x 2]<|
 l (.part 0 11) [x 3]<|
 c 134 [x 4,x 5]<|
 b (x 6) (l (.part 11 2) [x 2]<|
 l (.part 11 2) [x 3]<|
 c 137 [x 7,x 8]<|
 j 0 [x 9])<|
 j 0 [.c (.v (.bool false))]
def h53:List Hint:=[(.j ⟨1,[(4,(w 4))],[],0⟩)]
theorem q53:symF D0 100000 53 h53=some k53:=by kernel_rfl
def Li:K:=
.ret [x 4]
def k54:K:=
 l (.shape 12) [x 0]<|
 l (.shape 12) [x 1]<|
.jp Li<|
 l (.part 0 11) [x 2]<|
 l (.part 0 11) [x 3]<|
 c 134 [x 4,x 5]<|
 b (x 6) (l (.cell 11) [x 2]<|
 l (.cell 11) [x 3]<|
 c 135 [x 7,x 8]<|
 j 0 [x 9])<|
 j 0 [.c (.v (.bool false))]
def h54:List Hint:=[(.j ⟨1,[(4,(w 4))],[],0⟩)]
theorem q54:symF D0 100000 54 h54=some k54:=by kernel_rfl
def Di:K:=
 l .sub [x 10,i 0,x 11]<|
 c 141 [x 12]<|
 c 140 [x 6,x 2,x 13]<|
 l (.shape 11) [x 14]<|
 l (.part 0 11) [x 16]<|
 l .sub [x 10,i 0,x 11]<|
 l .agg [x 17,x 18]<|
.ret [x 19,x 15]
def Dj:K:=
 l oA [x 12,i 1]<|
 j 1 [x 22,x 21,x 23]
def k55_3:K:=
 l oG [x 22,i 0]<|
 b (x 24) (l .ix [x 22,x 21]<|
 l (.elt 0 0) [x 23,x 25]<|
 l oS [x 22,i 1]<|
 l (.bin .quo) [x 27,i 2]<|
 l .ix [x 28,x 21]<|
 l (.elt 0 0) [x 23,x 29]<|
 c 156 [x 2,x 3,x 26,x 30]<|
 b (x 31) (l oS [x 22,i 1]<|
 l (.bin .quo) [x 32,i 2]<|
 l oS [x 22,i 1]<|
 l (.bin .quo) [x 34,i 2]<|
 l .ix [x 35,x 21]<|
 l (.elt 0 0) [x 23,x 36]<|
 l .ix [x 22,x 21]<|
 l (.elt 0 0) [x 23,x 38]<|
 l .ix [x 22,x 21]<|
 l (.set 0) [x 23,x 40,x 37]<|
 l .ix [x 33,x 21]<|
 l (.set 0) [x 41,x 42,x 39]<|
 l oS [x 22,i 1]<|
 l (.bin .quo) [x 44,i 2]<|
 j 3 [x 45,x 43])<|
 j 2 [x 23])<|
 j 2 [x 23]
def tf:K:=
 l oL [x 12,x 9]<|
 b (x 13) (l (.cell 0) [x 2]<|
 l (.tix 3) [x 14,x 12]<|
 l (.elt 0 3) [x 14,x 15]<|
 l (.cell 0) [x 16]<|
 l (.bs 1 [z] [0]) [x 17]<|
 l .sub [x 18,i 0,i 1]<|
 l (.app 8 1) [x 10,x 11,x 19]<|
 l .len [x 20]<|
.jp Dj<|
.loop k55_3<|
 j 3 [x 12,x 20])<|
 j 0 [x 10,x 11]
def k55:K:=
 l (.shape 1) [x 0]<|
 l (.shape 2) [x 1]<|
 c 138 [x 2,x 3]<|
 l (.shape 11) [x 4]<|
 l oN [x 5,i 0]<|
 b (x 7) (l .agg [i 0,i 0,.c (.sl []),i 0,.c (.sl []),.c (.sl []),.c (.sl []),.c (.sl []),.c (.sl []),.c (.sl []),.c (.sl []),.c (.sl [])]<|
.ret [x 8,x 5])<|
 l (.cell 0) [x 2]<|
 l .len [x 8]<|
.jp Di<|
.loop tf<|
 j 1 [.c (.sl []),i 0,i 0]
def h55:List Hint:=[.no,(.j ⟨2,[(8,(p 0 0)),(7,(w 5)),(6,(p 2 0)),(5,(wi 0)),(4,(p 3 0)),(2,(p 4 0))],[(0,(.box [(.a (i 0)),(.a (i 0)),.nil,(.a (i 0)),.nil,.nil,.nil,.nil,.nil,.nil,.nil,(o 1 11)])),(1,(.lst (x 10) (x 11) 1 false)),(2,(.box (pcs (x 6) 0 11))),(3,(.box [(.a (i 0)),(.a (i 0)),.nil,(.a (i 0)),.nil,.nil,.nil,.nil,.nil,.nil,.nil,.nil])),(4,(.box [(r 2 0)]))],5⟩),(.j ⟨3,[(2,(p 0 0)),(3,(p 1 0)),(4,(p 2 0)),(5,(wi 0)),(6,(p 3 0)),(7,(w 5)),(8,(p 4 0)),(22,(.w (.c (r 2 0)))),(23,(w 9)),(24,(w 12))],[(0,(.box [(r 2 0)])),(1,(.box [(r 3 0),(r 3 1)])),(2,(.box [(.a (i 0)),(.a (i 0)),.nil,(.a (i 0)),.nil,.nil,.nil,.nil,.nil,.nil,.nil,.nil])),(3,(.box (pcs (x 6) 0 11))),(4,(.box [(.a (i 0)),(.a (i 0)),.nil,(.a (i 0)),.nil,.nil,.nil,.nil,.nil,.nil,.nil,(o 5 11)])),(5,(.lst (x 10) (x 11) 1 false))],6⟩),.no,.no,(.j ⟨1,[],[(0,(.box [(r 2 0)])),(1,(.box [(r 3 0),(r 3 1)])),(2,(.box [(.a (i 0)),(.a (i 0)),.nil,(.a (i 0)),.nil,.nil,.nil,.nil,.nil,.nil,.nil,.nil])),(3,(.box (pcs (x 6) 0 11))),(4,(.box [(.a (i 0)),(.a (i 0)),.nil,(.a (i 0)),.nil,.nil,.nil,.nil,.nil,.nil,.nil,(o 8 21)])),(6,(.box (pcs (x 16) 0 3))),(7,(.lst (x 18) (i 1) 1 false)),(8,(.lst (x 22) (x 21) 1 false))],9⟩),(.j ⟨2,[(3,(w 22)),(2,(.w (.c (o 8 21)))),(4,(p 9 0)),(5,(p 10 0))],[(0,(.box [(r 2 0)])),(1,(.box [(r 3 0),(r 3 1)])),(2,(.box [(.a (i 0)),(.a (i 0)),.nil,(.a (i 0)),.nil,.nil,.nil,.nil,.nil,.nil,.nil,.nil])),(3,(.box (pcs (x 6) 0 11))),(4,(.box [(.a (i 0)),(.a (i 0)),.nil,(.a (i 0)),.nil,.nil,.nil,.nil,.nil,.nil,.nil,(o 8 21)])),(6,(.box (pcs (x 16) 0 3))),(7,(.lst (x 18) (i 1) 1 false)),(8,(.lst (x 23) (x 21) 1 false)),(9,(.box [(r 2 0)])),(10,(.box [(r 3 0),(r 3 1)]))],11⟩),.no,.no,.no]
theorem q55:symF D0 100000 55 h55=some k55:=by kernel_rfl
def k56:K:=
 l (.shape 1) [x 0]<|
 l (.shape 2) [x 1]<|
 c 138 [x 2,x 3]<|
 l (.shape 11) [x 4]<|
 l oN [x 5,i 0]<|
 b (x 7) (l .agg [i 0,i 0,.c (.sl []),i 0,.c (.sl []),.c (.sl []),.c (.sl []),.c (.sl []),.c (.sl []),.c (.sl []),.c (.sl []),.c (.sl []),.c (.sl [])]<|
.ret [x 8,x 5])<|
 c 142 [x 2]<|
 c 122 [x 6,x 2,x 8]<|
 l (.shape 13) [x 9]<|
 l (.part 0 13) [x 11]<|
.ret [x 12,x 10]
def h56:List Hint:=[.no]
theorem q56:symF D0 100000 56 h56=some k56:=by kernel_rfl
def k57:K:=
 l (.shape 1) [x 0]<|
 l (.shape 2) [x 1]<|
 c 138 [x 2,x 3]<|
 l (.shape 11) [x 4]<|
 l oN [x 5,i 0]<|
 b (x 7) (l .agg [i 0,i 0,.c (.sl []),i 0,.c (.sl []),.c (.sl []),.c (.sl []),.c (.sl []),.c (.sl []),.c (.sl []),.c (.sl []),i 0,.c (.sl [])]<|
.ret [x 8,x 5])<|
 c 124 [x 6,x 2]<|
 l (.shape 13) [x 8]<|
.ret [x 10,x 9]
def h57:List Hint:=[.no]
theorem q57:symF D0 100000 57 h57=some k57:=by kernel_rfl
def k58:K:=
 l (.shape 1) [x 0]<|
 l (.shape 2) [x 1]<|
 c 138 [x 2,x 3]<|
 l (.shape 11) [x 4]<|
 l oN [x 5,i 0]<|
 b (x 7) (l .agg [i 0,i 0,.c (.sl []),i 0,.c (.sl []),.c (.sl []),.c (.sl []),.c (.sl []),.c (.sl []),.c (.sl []),.c (.sl []),.c (.sl [])]<|
.ret [x 8,x 5])<|
 c 126 [x 6,x 2]<|
 l (.shape 12) [x 8]<|
.ret [x 10,x 9]
def h58:List Hint:=[.no]
theorem q58:symF D0 100000 58 h58=some k58:=by kernel_rfl
def k59:K:=
 l (.shape 51) [x 0]<|
 l oN [x 1,i 0]<|
 b (x 3) (l .agg [.c (.v (.int .u8 0)),i 0,i 0,.c (.sl []),i 0,.c (.sl []),.c (.sl []),.c (.sl []),.c (.sl []),.c (.sl []),.c (.sl []),.c (.sl []),.c (.sl []),i 0,i 0,.c (.sl []),i 0,.c (.sl []),.c (.sl []),.c (.sl []),.c (.sl []),.c (.sl []),.c (.sl []),.c (.sl []),.c (.sl []),.c (.sl []),i 0,i 0,.c (.sl []),i 0,.c (.sl []),.c (.sl []),.c (.sl []),.c (.sl []),.c (.sl []),.c (.sl []),.c (.sl []),i 0,.c (.sl []),i 0,i 0,.c (.sl []),i 0,.c (.sl []),.c (.sl []),.c (.sl []),.c (.sl []),.c (.sl []),.c (.sl []),.c (.sl []),.c (.sl [])]<|
.ret [x 4,x 1])<|
.ret [x 2,i 0]
def h59:List Hint:=[.no]
theorem q59:symF D0 100000 59 h59=some k59:=by kernel_rfl
def k60:K:=
 l (.shape 1) [x 0]<|
 l (.shape 2) [x 1]<|
 c 143 [x 2]<|
 l oN [x 4,i 0]<|
 b (x 5) (c 143 [x 2]<|
 l .agg [i 0,i 0,.c (.sl []),i 0,.c (.sl []),.c (.sl []),.c (.sl []),.c (.sl []),.c (.sl []),.c (.sl []),.c (.sl []),.c (.sl [])]<|
.ret [x 7,x 6])<|
 c 128 [x 3]<|
 l oN [x 6,i 0]<|
 b (x 7) (l .agg [i 0,i 0,.c (.sl []),i 0,.c (.sl []),.c (.sl []),.c (.sl []),.c (.sl []),.c (.sl []),.c (.sl []),.c (.sl []),.c (.sl [])]<|
.ret [x 8,i 8])<|
 c 144 [x 2,x 3]<|
 l (.shape 12) [x 8]<|
.ret [x 9,i 0]
def h60:List Hint:=[.no,.no]
theorem q60:symF D0 100000 60 h60=some k60:=by kernel_rfl
def k61:K:=
 l (.shape 1) [x 0]<|
 l (.shape 2) [x 1]<|
 c 143 [x 2]<|
 l oN [x 4,i 0]<|
 b (x 5) (c 143 [x 2]<|
 l .agg [i 0,i 0,.c (.sl []),i 0,.c (.sl []),.c (.sl []),.c (.sl []),.c (.sl []),.c (.sl []),.c (.sl []),.c (.sl []),.c (.sl []),.c (.sl [])]<|
.ret [x 7,x 6])<|
 c 128 [x 3]<|
 l oN [x 6,i 0]<|
 b (x 7) (l .agg [i 0,i 0,.c (.sl []),i 0,.c (.sl []),.c (.sl []),.c (.sl []),.c (.sl []),.c (.sl []),.c (.sl []),.c (.sl []),.c (.sl []),.c (.sl [])]<|
.ret [x 8,i 8])<|
 c 146 [x 2,x 3]<|
 c 147 [x 2]<|
 c 145 [x 8,x 2,x 9]<|
 l (.shape 13) [x 10]<|
 l (.part 0 13) [x 12]<|
.ret [x 13,x 11]
def h61:List Hint:=[.no,.no]
theorem q61:symF D0 100000 61 h61=some k61:=by kernel_rfl
def k62:K:=
 l (.shape 1) [x 0]<|
 l (.shape 2) [x 1]<|
 c 143 [x 2]<|
 l oN [x 4,i 0]<|
 b (x 5) (c 143 [x 2]<|
 l .agg [i 0,i 0,.c (.sl []),i 0,.c (.sl []),.c (.sl []),.c (.sl []),.c (.sl []),.c (.sl []),.c (.sl []),.c (.sl []),i 0,.c (.sl [])]<|
.ret [x 7,x 6])<|
 c 128 [x 3]<|
 l oN [x 6,i 0]<|
 b (x 7) (l .agg [i 0,i 0,.c (.sl []),i 0,.c (.sl []),.c (.sl []),.c (.sl []),.c (.sl []),.c (.sl []),.c (.sl []),.c (.sl []),i 0,.c (.sl [])]<|
.ret [x 8,i 8])<|
 c 146 [x 2,x 3]<|
 c 148 [x 8,x 2]<|
 l (.shape 13) [x 9]<|
 l (.part 0 13) [x 11]<|
.ret [x 12,x 10]
def h62:List Hint:=[.no,.no]
theorem q62:symF D0 100000 62 h62=some k62:=by kernel_rfl
def k63:K:=
 l (.shape 1) [x 0]<|
 l (.shape 2) [x 1]<|
 c 143 [x 2]<|
 l oN [x 4,i 0]<|
 b (x 5) (c 143 [x 2]<|
 l .agg [i 0,i 0,.c (.sl []),i 0,.c (.sl []),.c (.sl []),.c (.sl []),.c (.sl []),.c (.sl []),.c (.sl []),.c (.sl []),.c (.sl [])]<|
.ret [x 7,x 6])<|
 c 128 [x 3]<|
 l oN [x 6,i 0]<|
 b (x 7) (l .agg [i 0,i 0,.c (.sl []),i 0,.c (.sl []),.c (.sl []),.c (.sl []),.c (.sl []),.c (.sl []),.c (.sl []),.c (.sl []),.c (.sl [])]<|
.ret [x 8,i 8])<|
 c 146 [x 2,x 3]<|
 c 149 [x 8,x 2]<|
 l (.shape 12) [x 9]<|
 l (.part 0 12) [x 11]<|
.ret [x 12,x 10]
def h63:List Hint:=[.no,.no]
theorem q63:symF D0 100000 63 h63=some k63:=by kernel_rfl
def k64:K:=
 l (.shape 2) [x 0]<|
 c 128 [x 1]<|
 l oN [x 2,i 0]<|
 b (x 3) (c 128 [x 1]<|
.ret [x 4])<|
 l (.cell 0) [x 1]<|
 l oG [x 4,i 1073741824]<|
 b (x 5) (.ret [i 2])<|
 l (.cell 0) [x 1]<|
 l oL [x 6,i (-1073741824)]<|
 b (x 7) (.ret [i 2])<|
 l (.cell 1) [x 1]<|
 l oG [x 8,i 1024]<|
 b (x 9) (.ret [i 2])<|
.ret [i 0]
def h64:List Hint:=[.no,.no,.no]
theorem q64:symF D0 100000 64 h64=some k64:=by kernel_rfl
def k65:K:=
 l (.shape 51) [x 0]<|
 l oN [x 1,i 0]<|
 b (x 3) (l .agg [.c (.v (.int .u8 0)),i 0,i 0,.c (.sl []),i 0,.c (.sl []),.c (.sl []),.c (.sl []),.c (.sl []),.c (.sl []),.c (.sl []),.c (.sl []),.c (.sl []),i 0,i 0,.c (.sl []),i 0,.c (.sl []),.c (.sl []),.c (.sl []),.c (.sl []),.c (.sl []),.c (.sl []),.c (.sl []),.c (.sl []),.c (.sl []),i 0,i 0,.c (.sl []),i 0,.c (.sl []),.c (.sl []),.c (.sl []),.c (.sl []),.c (.sl []),.c (.sl []),.c (.sl []),i 0,.c (.sl []),i 0,i 0,.c (.sl []),i 0,.c (.sl []),.c (.sl []),.c (.sl []),.c (.sl []),.c (.sl []),.c (.sl []),.c (.sl []),.c (.sl [])]<|
.ret [x 4,x 1])<|
.ret [x 2,i 0]
def h65:List Hint:=[.no]
theorem q65:symF D0 100000 65 h65=some k65:=by kernel_rfl
def k66:K:=
 l (.shape 51) [x 0]<|
 l (.cell 0) [x 1]<|
 l oE [x 2,.c (.v (.int .u8 1))]<|
 b (x 3) (l (.part 1 11) [x 1]<|
.ret [x 4])<|
 l (.cell 0) [x 1]<|
 l oE [x 4,.c (.v (.int .u8 2))]<|
 b (x 5) (l (.part 13 11) [x 1]<|
.ret [x 6])<|
 l (.cell 0) [x 1]<|
 l oE [x 6,.c (.v (.int .u8 3))]<|
 b (x 7) (l (.part 26 11) [x 1]<|
.ret [x 8])<|
 l (.part 39 11) [x 1]<|
.ret [x 8]
def h66:List Hint:=[.no,.no,.no,.no]
theorem q66:symF D0 100000 66 h66=some k66:=by kernel_rfl
def tg:K:=
 l (.app 24 3) [.c (.sl []),i 0,x 0]<|
 l .len [x 3]<|
 l .sub [x 3,i 0,x 4]<|
.ret [x 5]
def k67:K:=
 l .len [x 0]<|
 l oE [x 1,i 0]<|
.jp tg<|
 b (x 2) (.amb (.ret [.c (.sl [])])<|
 j 0 [])<|
 j 0 []
def h67:List Hint:=[(.j ⟨0,[(0,(w 0)),(2,(.w (.c .nil)))],[],0⟩)]
theorem q67:symF D0 100000 67 h67=some k67:=by kernel_rfl
def k68:K:=
 l (.shape 12) [x 0]<|
 c 77 [x 1]<|
 l oN [x 2,i 0]<|
 b (x 3) (.ret [i 0,x 2])<|
 l (.cell 11) [x 1]<|
 l .len [x 4]<|
 l oE [x 5,i 0]<|
 b (x 6) (.ret [i 0,i 42])<|
 l (.cell 11) [x 1]<|
 l (.tix 1) [x 7,i 0]<|
 l (.elt 0 0) [x 7,x 8]<|
.ret [x 9,i 0]
def h68:List Hint:=[.no,.no]
theorem q68:symF D0 100000 68 h68=some k68:=by kernel_rfl
def k69:K:=
 l (.shape 13) [x 0]<|
 c 78 [x 1]<|
 l oN [x 2,i 0]<|
 b (x 3) (.ret [i 0,x 2])<|
 l (.part 11 2) [x 1]<|
 c 150 [x 4]<|
.ret [x 5,x 6]
def h69:List Hint:=[.no]
theorem q69:symF D0 100000 69 h69=some k69:=by kernel_rfl
def k70:K:=
 l (.shape 13) [x 0]<|
 c 79 [x 1]<|
 l oN [x 2,i 0]<|
 b (x 3) (.ret [i 0,x 2])<|
 l (.cell 11) [x 1]<|
 l oL [x 4,i 0]<|
 b (x 5) (.ret [i 0,i 42])<|
 l (.cell 12) [x 1]<|
 l (.cell 11) [x 1]<|
 l (.tix 3) [x 6,x 7]<|
 l (.elt 0 0) [x 6,x 8]<|
.ret [x 9,i 0]
def h70:List Hint:=[.no,.no]
theorem q70:symF D0 100000 70 h70=some k70:=by kernel_rfl
def k71:K:=
 l (.shape 12) [x 0]<|
 c 80 [x 1]<|
 l oN [x 2,i 0]<|
 b (x 3) (.ret [i 0,x 2])<|
 l (.cell 11) [x 1]<|
 c 151 [x 4,i (-1)]<|
 l oL [x 5,i 0]<|
 b (x 6) (.ret [i 0,i 42])<|
 l (.cell 2) [x 1]<|
 l (.tix 3) [x 7,x 5]<|
 l (.elt 0 0) [x 7,x 8]<|
.ret [x 9,i 0]
def h71:List Hint:=[.no,.no]
theorem q71:symF D0 100000 71 h71=some k71:=by kernel_rfl
def k72:K:=
 l (.shape 12) [x 0]<|
 c 81 [x 1]<|
 l oN [x 2,i 0]<|
 b (x 3) (c 81 [x 1]<|
.ret [i 0,x 4])<|
 l (.cell 11) [x 1]<|
 l .len [x 4]<|
 l oE [x 5,i 0]<|
 b (x 6) (.ret [i 0,i 42])<|
 l (.cell 11) [x 1]<|
 l (.tix 1) [x 7,i 0]<|
 l (.elt 0 0) [x 7,x 8]<|
.ret [x 9,i 0]
def h72:List Hint:=[.no,.no]
theorem q72:symF D0 100000 72 h72=some k72:=by kernel_rfl
def k73:K:=
 l (.shape 13) [x 0]<|
 c 82 [x 1]<|
 l oN [x 2,i 0]<|
 b (x 3) (c 82 [x 1]<|
.ret [i 0,x 4])<|
 l (.cell 2) [x 1]<|
 l .len [x 4]<|
 l oE [x 5,i 0]<|
 b (x 6) (.ret [i 0,i 42])<|
 l (.part 2 1) [x 1]<|
 l (.part 0 2) [x 1]<|
 c 152 [x 7,x 8]<|
 l (.tix 1) [x 9,i 0]<|
 l (.elt 0 0) [x 9,x 10]<|
.ret [x 11,i 0]
def h73:List Hint:=[.no,.no]
theorem q73:symF D0 100000 73 h73=some k73:=by kernel_rfl
def k74:K:=
 l (.shape 13) [x 0]<|
 c 83 [x 1]<|
 l oN [x 2,i 0]<|
 b (x 3) (c 83 [x 1]<|
.ret [i 0,x 4])<|
 l (.cell 2) [x 1]<|
 l .len [x 4]<|
 l oE [x 5,i 0]<|
 b (x 6) (.ret [i 0,i 42])<|
 l (.part 2 1) [x 1]<|
 l (.part 0 2) [x 1]<|
 c 152 [x 7,x 8]<|
 l (.tix 1) [x 9,i 0]<|
 l (.elt 0 0) [x 9,x 10]<|
.ret [x 11,i 0]
def h74:List Hint:=[.no,.no]
theorem q74:symF D0 100000 74 h74=some k74:=by kernel_rfl
def k75:K:=
 l (.shape 12) [x 0]<|
 c 84 [x 1]<|
 l oN [x 2,i 0]<|
 b (x 3) (c 84 [x 1]<|
.ret [i 0,x 4])<|
 l (.cell 11) [x 1]<|
 l .len [x 4]<|
 l oE [x 5,i 0]<|
 b (x 6) (.ret [i 0,i 42])<|
 l (.part 2 1) [x 1]<|
 l (.part 0 2) [x 1]<|
 c 152 [x 7,x 8]<|
 l (.tix 1) [x 9,i 0]<|
 l (.elt 0 0) [x 9,x 10]<|
.ret [x 11,i 0]
def h75:List Hint:=[.no,.no]
theorem q75:symF D0 100000 75 h75=some k75:=by kernel_rfl
def Dk:K:=
.ret [x 6]
def k76:K:=
 l (.shape 11) [x 0]<|
 l (.part 5 5) [x 1]<|
 l (.part 5 3) [x 1]<|
 l (.shape 5) [x 2]<|
 l (.shape 3) [x 3]<|
.jp Dk<|
 l (.part 0 2) [x 1]<|
 l .agg [i 0,i 0]<|
 l (.eqv [.i,.i]) [x 6,x 7]<|
 b (x 8) (l (.cell 3) [x 1]<|
 l oE [x 9,i 0]<|
 b (x 10) (l (.cell 2) [x 1]<|
 l .len [x 11]<|
 l (.cell 4) [x 1]<|
 l .len [x 13]<|
 l oA [x 12,x 14]<|
 l (.cell 3) [x 4]<|
 l .len [x 16]<|
 l oA [x 15,x 17]<|
 l (.cell 4) [x 4]<|
 l .len [x 19]<|
 l oA [x 18,x 20]<|
 l (.cell 0) [x 5]<|
 l .len [x 22]<|
 l oA [x 21,x 23]<|
 l (.cell 1) [x 5]<|
 l .len [x 25]<|
 l oA [x 24,x 26]<|
 l (.cell 2) [x 5]<|
 l .len [x 28]<|
 l oA [x 27,x 29]<|
 l (.cell 10) [x 1]<|
 l .len [x 31]<|
 l oA [x 30,x 32]<|
 l oE [x 33,i 0]<|
 j 0 [x 34])<|
 j 0 [.c (.v (.bool false))])<|
 j 0 [.c (.v (.bool false))]
def h76:List Hint:=[(.j ⟨1,[(2,(w 6))],[],0⟩)]
theorem q76:symF D0 100000 76 h76=some k76:=by kernel_rfl
def Dl:K:=
.ret [i 0]
def th:K:=
 l oL [x 20,x 19]<|
 b (x 21) (l (.cell 4) [x 1]<|
 l (.tix 3) [x 22,x 20]<|
 l (.elt 0 3) [x 22,x 23]<|
 l (.part 1 2) [x 24]<|
 c 155 [x 13,x 25]<|
 l (.un .not) [x 26]<|
 b (x 27) (.ret [i 8])<|
 l (.part 2 1) [x 1]<|
 l (.part 0 2) [x 1]<|
 l (.cell 2) [x 24]<|
 l (.cell 1) [x 24]<|
 c 156 [x 28,x 29,x 30,x 31]<|
 l (.un .not) [x 32]<|
 b (x 33) (.ret [i 8])<|
 l oA [x 20,i 1]<|
 j 1 [x 34])<|
 j 0 []
def Dm:K:=
 l (.cell 11) [x 1]<|
 c 141 [x 12]<|
 l .len [x 13]<|
 l (.cell 4) [x 1]<|
 l .len [x 15]<|
 l oN [x 14,x 16]<|
 b (x 17) (.ret [i 8])<|
 l (.cell 4) [x 1]<|
 l .len [x 18]<|
.jp Dl<|
.loop th<|
 j 1 [i 0]
def ti:K:=
 l oL [x 12,x 11]<|
 b (x 13) (l (.cell 2) [x 1]<|
 l (.tix 3) [x 14,x 12]<|
 l (.elt 0 3) [x 14,x 15]<|
 l (.cell 11) [x 1]<|
 l (.cell 0) [x 16]<|
 c 154 [x 17,x 18]<|
 l (.un .not) [x 19]<|
 b (x 20) (.ret [i 8])<|
 l oA [x 12,i 1]<|
 j 1 [x 21])<|
 j 0 []
def k77:K:=
 l (.shape 12) [x 0]<|
 l (.part 0 11) [x 1]<|
 c 153 [x 2]<|
 l oN [x 3,i 0]<|
 b (x 4) (.ret [i 8])<|
 l (.cell 11) [x 1]<|
 l .len [x 5]<|
 l (.cell 2) [x 1]<|
 l .len [x 7]<|
 l oN [x 6,x 8]<|
 b (x 9) (.ret [i 8])<|
 l (.cell 2) [x 1]<|
 l .len [x 10]<|
.jp Dm<|
.loop ti<|
 j 1 [i 0]
def h77:List Hint:=[.no,.no,(.j ⟨0,[(2,(wi 0)),(1,(p 0 0))],[(0,(.box (pcs (x 1) 0 12)))],1⟩),(.j ⟨1,[(1,(p 0 0)),(2,(wi 0)),(26,(.w (.c (r 1 2)))),(27,(w 11)),(28,(w 12))],[(0,(.box (pcs (x 1) 0 12)))],1⟩),.no,.no,.no,.no,(.j ⟨0,[(2,(wi 0))],[],0⟩),(.j ⟨1,[(1,(p 0 0)),(2,(wi 0)),(5,(w 13)),(53,(.w (.c (r 1 4)))),(54,(w 19)),(55,(w 20))],[(0,(.box (pcs (x 1) 0 12)))],1⟩),.no,.no,.no,.no]
theorem q77:symF D0 100000 77 h77=some k77:=by kernel_rfl
def Lj:K:=
 l (.un .not) [x 35]<|
 b (x 36) (.ret [i 8])<|
.ret [i 0]
def Lk:K:=
 l oH [i (-1),i 0]<|
 l (.un .not) [x 41]<|
 j 0 [x 42]
def Ll:K:=
 l oL [x 41,x 40]<|
 b (x 42) (l (.cell 4) [x 34]<|
 l (.tix 3) [x 43,x 41]<|
 l (.elt 0 3) [x 43,x 44]<|
 l (.part 1 2) [x 45]<|
 c 155 [x 28,x 46]<|
 l (.un .not) [x 47]<|
 b (x 48) (l oH [x 41,i 0]<|
 l (.un .not) [x 49]<|
 j 0 [x 50])<|
 l oA [x 41,i 1]<|
 j 2 [x 49])<|
 j 1 []
def mz:K:=
 l (.un .not) [x 35]<|
 b (x 36) (.ret [i 8])<|
.ret [i 0]
def Dn:K:=
 l oH [i (-1),i 0]<|
 l (.un .not) [x 41]<|
 j 0 [x 42]
def tj:K:=
 l oL [x 41,x 40]<|
 b (x 42) (l (.cell 4) [x 34]<|
 l (.tix 3) [x 43,x 41]<|
 l (.elt 0 3) [x 43,x 44]<|
 l (.part 1 2) [x 45]<|
 c 155 [x 28,x 46]<|
 l (.un .not) [x 47]<|
 b (x 48) (l oH [x 41,i 0]<|
 l (.un .not) [x 49]<|
 j 0 [x 50])<|
 l oA [x 41,i 1]<|
 j 2 [x 49])<|
 j 1 []
def Do:K:=
 l (.un .not) [.c (.v (.bool true))]<|
 b (x 23) (.ret [i 8])<|
 l (.part 2 1) [x 1]<|
 l (.part 0 2) [x 1]<|
 l (.cell 11) [x 1]<|
 c 123 [x 24,x 25,x 26]<|
 l (.shape 2) [x 27]<|
 l (.cell 1) [x 29]<|
 l (.cell 12) [x 1]<|
 c 163 [x 30,x 31]<|
 l (.un .not) [x 32]<|
 b (x 33) (.ret [i 8])<|
 l (.part 0 11) [x 1]<|
.jp mz<|
 l .len [x 28]<|
 l (.cell 4) [x 34]<|
 l .len [x 36]<|
 l oE [x 35,x 37]<|
 b (x 38) (l (.cell 4) [x 34]<|
 l .len [x 39]<|
.jp Dn<|
.loop tj<|
 j 2 [i 0])<|
 j 0 [.c (.v (.bool false))]
def Lm:K:=
 l (.un .not) [x 45]<|
 b (x 46) (.ret [i 8])<|
.ret [i 0]
def Lo:K:=
 l oH [i (-1),i 0]<|
 l (.un .not) [x 51]<|
 j 2 [x 52]
def Jc:K:=
 l oL [x 51,x 50]<|
 b (x 52) (l (.cell 4) [x 44]<|
 l (.tix 3) [x 53,x 51]<|
 l (.elt 0 3) [x 53,x 54]<|
 l (.part 1 2) [x 55]<|
 c 155 [x 38,x 56]<|
 l (.un .not) [x 57]<|
 b (x 58) (l oH [x 51,i 0]<|
 l (.un .not) [x 59]<|
 j 2 [x 60])<|
 l oA [x 51,i 1]<|
 j 4 [x 59])<|
 j 3 []
def nW:K:=
 l oL [x 23,x 15]<|
 b (x 24) (l .ix [x 23,x 15]<|
 l (.elt 0 0) [x 19,x 25]<|
 l (.cell 2) [x 1]<|
 l (.tix 3) [x 27,x 23]<|
 l (.elt 0 3) [x 27,x 28]<|
 l (.cell 0) [x 29]<|
 l oE [x 26,x 30]<|
 l (.un .not) [x 31]<|
 b (x 32) (l (.un .not) [.c (.v (.bool false))]<|
 b (x 33) (.ret [i 8])<|
 l (.part 2 1) [x 1]<|
 l (.part 0 2) [x 1]<|
 l (.cell 11) [x 1]<|
 c 123 [x 34,x 35,x 36]<|
 l (.shape 2) [x 37]<|
 l (.cell 1) [x 39]<|
 l (.cell 12) [x 1]<|
 c 163 [x 40,x 41]<|
 l (.un .not) [x 42]<|
 b (x 43) (.ret [i 8])<|
 l (.part 0 11) [x 1]<|
.jp Lm<|
 l .len [x 38]<|
 l (.cell 4) [x 44]<|
 l .len [x 46]<|
 l oE [x 45,x 47]<|
 b (x 48) (l (.cell 4) [x 44]<|
 l .len [x 49]<|
.jp Lo<|
.loop Jc<|
 j 4 [i 0])<|
 j 2 [.c (.v (.bool false))])<|
 l oA [x 23,i 1]<|
 j 1 [x 33])<|
 j 0 []
def Jd:K:=
 l (.un .not) [x 43]<|
 b (x 44) (.ret [i 8])<|
.ret [i 0]
def Je:K:=
 l oH [i (-1),i 0]<|
 l (.un .not) [x 49]<|
 j 0 [x 50]
def Jf:K:=
 l oL [x 49,x 48]<|
 b (x 50) (l (.cell 4) [x 42]<|
 l (.tix 3) [x 51,x 49]<|
 l (.elt 0 3) [x 51,x 52]<|
 l (.part 1 2) [x 53]<|
 c 155 [x 36,x 54]<|
 l (.un .not) [x 55]<|
 b (x 56) (l oH [x 49,i 0]<|
 l (.un .not) [x 57]<|
 j 0 [x 58])<|
 l oA [x 49,i 1]<|
 j 2 [x 57])<|
 j 1 []
def Jg:K:=
 l (.un .not) [x 43]<|
 b (x 44) (.ret [i 8])<|
.ret [i 0]
def Jh:K:=
 l oH [i (-1),i 0]<|
 l (.un .not) [x 49]<|
 j 0 [x 50]
def Ji:K:=
 l oL [x 49,x 48]<|
 b (x 50) (l (.cell 4) [x 42]<|
 l (.tix 3) [x 51,x 49]<|
 l (.elt 0 3) [x 51,x 52]<|
 l (.part 1 2) [x 53]<|
 c 155 [x 36,x 54]<|
 l (.un .not) [x 55]<|
 b (x 56) (l oH [x 49,i 0]<|
 l (.un .not) [x 57]<|
 j 0 [x 58])<|
 l oA [x 49,i 1]<|
 j 2 [x 57])<|
 j 1 []
def Jj:K:=
 l (.un .not) [.c (.v (.bool true))]<|
 b (x 31) (.ret [i 8])<|
 l (.part 2 1) [x 1]<|
 l (.part 0 2) [x 1]<|
 l (.cell 11) [x 1]<|
 c 123 [x 32,x 33,x 34]<|
 l (.shape 2) [x 35]<|
 l (.cell 1) [x 37]<|
 l (.cell 12) [x 1]<|
 c 163 [x 38,x 39]<|
 l (.un .not) [x 40]<|
 b (x 41) (.ret [i 8])<|
 l (.part 0 11) [x 1]<|
.jp Jg<|
 l .len [x 36]<|
 l (.cell 4) [x 42]<|
 l .len [x 44]<|
 l oE [x 43,x 45]<|
 b (x 46) (l (.cell 4) [x 42]<|
 l .len [x 47]<|
.jp Jh<|
.loop Ji<|
 j 2 [i 0])<|
 j 0 [.c (.v (.bool false))]
def Jk:K:=
 l (.un .not) [x 53]<|
 b (x 54) (.ret [i 8])<|
.ret [i 0]
def Jl:K:=
 l oH [i (-1),i 0]<|
 l (.un .not) [x 59]<|
 j 2 [x 60]
def Jm:K:=
 l oL [x 59,x 58]<|
 b (x 60) (l (.cell 4) [x 52]<|
 l (.tix 3) [x 61,x 59]<|
 l (.elt 0 3) [x 61,x 62]<|
 l (.part 1 2) [x 63]<|
 c 155 [x 46,x 64]<|
 l (.un .not) [x 65]<|
 b (x 66) (l oH [x 59,i 0]<|
 l (.un .not) [x 67]<|
 j 2 [x 68])<|
 l oA [x 59,i 1]<|
 j 4 [x 67])<|
 j 3 []
def Jn:K:=
 l oL [x 31,x 24]<|
 b (x 32) (l .ix [x 31,x 24]<|
 l (.elt 0 0) [x 27,x 33]<|
 l (.cell 2) [x 1]<|
 l (.tix 3) [x 35,x 31]<|
 l (.elt 0 3) [x 35,x 36]<|
 l (.cell 0) [x 37]<|
 l oE [x 34,x 38]<|
 l (.un .not) [x 39]<|
 b (x 40) (l (.un .not) [.c (.v (.bool false))]<|
 b (x 41) (.ret [i 8])<|
 l (.part 2 1) [x 1]<|
 l (.part 0 2) [x 1]<|
 l (.cell 11) [x 1]<|
 c 123 [x 42,x 43,x 44]<|
 l (.shape 2) [x 45]<|
 l (.cell 1) [x 47]<|
 l (.cell 12) [x 1]<|
 c 163 [x 48,x 49]<|
 l (.un .not) [x 50]<|
 b (x 51) (.ret [i 8])<|
 l (.part 0 11) [x 1]<|
.jp Jk<|
 l .len [x 46]<|
 l (.cell 4) [x 52]<|
 l .len [x 54]<|
 l oE [x 53,x 55]<|
 b (x 56) (l (.cell 4) [x 52]<|
 l .len [x 57]<|
.jp Jl<|
.loop Jm<|
 j 4 [i 0])<|
 j 2 [.c (.v (.bool false))])<|
 l oA [x 31,i 1]<|
 j 1 [x 41])<|
 j 0 []
def Jo:K:=
 l .bnd [x 18,x 15]<|
 l .sum [i 0,x 20]<|
 l .dif [x 15,x 20]<|
 l (.clr [z]) [x 19,x 21,x 22]<|
 l .bnd [x 18,x 15]<|
 l .sub [x 23,i 0,x 24]<|
 c 160 [.c (.sl []),x 25]<|
 l (.appK 0 1) [x 23,i 0,x 26]<|
 l (.cell 2) [x 1]<|
 l .len [x 28]<|
 l oN [x 24,x 29]<|
 b (x 30) (l (.un .not) [.c (.v (.bool false))]<|
 b (x 31) (.ret [i 8])<|
 l (.part 2 1) [x 1]<|
 l (.part 0 2) [x 1]<|
 l (.cell 11) [x 1]<|
 c 123 [x 32,x 33,x 34]<|
 l (.shape 2) [x 35]<|
 l (.cell 1) [x 37]<|
 l (.cell 12) [x 1]<|
 c 163 [x 38,x 39]<|
 l (.un .not) [x 40]<|
 b (x 41) (.ret [i 8])<|
 l (.part 0 11) [x 1]<|
.jp Jd<|
 l .len [x 36]<|
 l (.cell 4) [x 42]<|
 l .len [x 44]<|
 l oE [x 43,x 45]<|
 b (x 46) (l (.cell 4) [x 42]<|
 l .len [x 47]<|
.jp Je<|
.loop Jf<|
 j 2 [i 0])<|
 j 0 [.c (.v (.bool false))])<|
.jp Jj<|
.loop Jn<|
 j 1 [i 0]
def Jp:K:=
 l oA [x 20,i 1]<|
 j 1 [x 26,x 27,x 28]
def Jq:K:=
 l oL [x 20,x 15]<|
 b (x 21) (l .ix [x 20,x 15]<|
 l (.elt 0 0) [x 18,x 22]<|
 l oL [x 23,i 0]<|
 l (.un .not) [x 24]<|
.jp Jp<|
 b (x 25) (l .ix [x 19,x 15]<|
 l (.set 0) [x 18,x 26,x 23]<|
 l oA [x 19,i 1]<|
 j 2 [x 27,x 28])<|
 j 2 [x 18,x 19])<|
 j 0 [x 19,x 18]
def xZ:K:=
 l oE [i (-1),i (-1)]<|
 b (x 16) (l .sub [x 14,i 0,x 15]<|
 c 160 [.c (.sl []),x 17]<|
 l (.appK 0 1) [x 14,i 0,x 18]<|
 l (.cell 2) [x 1]<|
 l .len [x 20]<|
 l oN [x 15,x 21]<|
 b (x 22) (l (.un .not) [.c (.v (.bool false))]<|
 b (x 23) (.ret [i 8])<|
 l (.part 2 1) [x 1]<|
 l (.part 0 2) [x 1]<|
 l (.cell 11) [x 1]<|
 c 123 [x 24,x 25,x 26]<|
 l (.shape 2) [x 27]<|
 l (.cell 1) [x 29]<|
 l (.cell 12) [x 1]<|
 c 163 [x 30,x 31]<|
 l (.un .not) [x 32]<|
 b (x 33) (.ret [i 8])<|
 l (.part 0 11) [x 1]<|
.jp Lj<|
 l .len [x 28]<|
 l (.cell 4) [x 34]<|
 l .len [x 36]<|
 l oE [x 35,x 37]<|
 b (x 38) (l (.cell 4) [x 34]<|
 l .len [x 39]<|
.jp Lk<|
.loop Ll<|
 j 2 [i 0])<|
 j 0 [.c (.v (.bool false))])<|
.jp Do<|
.loop nW<|
 j 1 [i 0])<|
 l oA [i (-1),i 1]<|
.jp Jo<|
.loop Jq<|
 j 1 [x 14,i (-1),x 17]
def Jr:K:=
 l (.un .not) [x 40]<|
 b (x 41) (.ret [i 8])<|
.ret [i 0]
def Jt:K:=
 l oH [i (-1),i 0]<|
 l (.un .not) [x 46]<|
 j 2 [x 47]
def Ju:K:=
 l oL [x 46,x 45]<|
 b (x 47) (l (.cell 4) [x 39]<|
 l (.tix 3) [x 48,x 46]<|
 l (.elt 0 3) [x 48,x 49]<|
 l (.part 1 2) [x 50]<|
 c 155 [x 33,x 51]<|
 l (.un .not) [x 52]<|
 b (x 53) (l oH [x 46,i 0]<|
 l (.un .not) [x 54]<|
 j 2 [x 55])<|
 l oA [x 46,i 1]<|
 j 4 [x 54])<|
 j 3 []
def Jv:K:=
 l (.un .not) [x 40]<|
 b (x 41) (.ret [i 8])<|
.ret [i 0]
def Jw:K:=
 l oH [i (-1),i 0]<|
 l (.un .not) [x 46]<|
 j 2 [x 47]
def Jx:K:=
 l oL [x 46,x 45]<|
 b (x 47) (l (.cell 4) [x 39]<|
 l (.tix 3) [x 48,x 46]<|
 l (.elt 0 3) [x 48,x 49]<|
 l (.part 1 2) [x 50]<|
 c 155 [x 33,x 51]<|
 l (.un .not) [x 52]<|
 b (x 53) (l oH [x 46,i 0]<|
 l (.un .not) [x 54]<|
 j 2 [x 55])<|
 l oA [x 46,i 1]<|
 j 4 [x 54])<|
 j 3 []
def Jy:K:=
 l (.un .not) [.c (.v (.bool true))]<|
 b (x 28) (.ret [i 8])<|
 l (.part 2 1) [x 1]<|
 l (.part 0 2) [x 1]<|
 l (.cell 11) [x 1]<|
 c 123 [x 29,x 30,x 31]<|
 l (.shape 2) [x 32]<|
 l (.cell 1) [x 34]<|
 l (.cell 12) [x 1]<|
 c 163 [x 35,x 36]<|
 l (.un .not) [x 37]<|
 b (x 38) (.ret [i 8])<|
 l (.part 0 11) [x 1]<|
.jp Jv<|
 l .len [x 33]<|
 l (.cell 4) [x 39]<|
 l .len [x 41]<|
 l oE [x 40,x 42]<|
 b (x 43) (l (.cell 4) [x 39]<|
 l .len [x 44]<|
.jp Jw<|
.loop Jx<|
 j 4 [i 0])<|
 j 2 [.c (.v (.bool false))]
def Jz:K:=
 l (.un .not) [x 50]<|
 b (x 51) (.ret [i 8])<|
.ret [i 0]
def JA:K:=
 l oH [i (-1),i 0]<|
 l (.un .not) [x 56]<|
 j 4 [x 57]
def JB:K:=
 l oL [x 56,x 55]<|
 b (x 57) (l (.cell 4) [x 49]<|
 l (.tix 3) [x 58,x 56]<|
 l (.elt 0 3) [x 58,x 59]<|
 l (.part 1 2) [x 60]<|
 c 155 [x 43,x 61]<|
 l (.un .not) [x 62]<|
 b (x 63) (l oH [x 56,i 0]<|
 l (.un .not) [x 64]<|
 j 4 [x 65])<|
 l oA [x 56,i 1]<|
 j 6 [x 64])<|
 j 5 []
def JC:K:=
 l oL [x 28,x 15]<|
 b (x 29) (l .ix [x 28,x 15]<|
 l (.elt 0 0) [x 24,x 30]<|
 l (.cell 2) [x 1]<|
 l (.tix 3) [x 32,x 28]<|
 l (.elt 0 3) [x 32,x 33]<|
 l (.cell 0) [x 34]<|
 l oE [x 31,x 35]<|
 l (.un .not) [x 36]<|
 b (x 37) (l (.un .not) [.c (.v (.bool false))]<|
 b (x 38) (.ret [i 8])<|
 l (.part 2 1) [x 1]<|
 l (.part 0 2) [x 1]<|
 l (.cell 11) [x 1]<|
 c 123 [x 39,x 40,x 41]<|
 l (.shape 2) [x 42]<|
 l (.cell 1) [x 44]<|
 l (.cell 12) [x 1]<|
 c 163 [x 45,x 46]<|
 l (.un .not) [x 47]<|
 b (x 48) (.ret [i 8])<|
 l (.part 0 11) [x 1]<|
.jp Jz<|
 l .len [x 43]<|
 l (.cell 4) [x 49]<|
 l .len [x 51]<|
 l oE [x 50,x 52]<|
 b (x 53) (l (.cell 4) [x 49]<|
 l .len [x 54]<|
.jp JA<|
.loop JB<|
 j 6 [i 0])<|
 j 4 [.c (.v (.bool false))])<|
 l oA [x 28,i 1]<|
 j 3 [x 38])<|
 j 2 []
def JD:K:=
 l (.un .not) [x 48]<|
 b (x 49) (.ret [i 8])<|
.ret [i 0]
def JE:K:=
 l oH [i (-1),i 0]<|
 l (.un .not) [x 54]<|
 j 2 [x 55]
def JF:K:=
 l oL [x 54,x 53]<|
 b (x 55) (l (.cell 4) [x 47]<|
 l (.tix 3) [x 56,x 54]<|
 l (.elt 0 3) [x 56,x 57]<|
 l (.part 1 2) [x 58]<|
 c 155 [x 41,x 59]<|
 l (.un .not) [x 60]<|
 b (x 61) (l oH [x 54,i 0]<|
 l (.un .not) [x 62]<|
 j 2 [x 63])<|
 l oA [x 54,i 1]<|
 j 4 [x 62])<|
 j 3 []
def jB:K:=
 l (.un .not) [x 48]<|
 b (x 49) (.ret [i 8])<|
.ret [i 0]
def x0:K:=
 l oH [i (-1),i 0]<|
 l (.un .not) [x 54]<|
 j 2 [x 55]
def nX:K:=
 l oL [x 54,x 53]<|
 b (x 55) (l (.cell 4) [x 47]<|
 l (.tix 3) [x 56,x 54]<|
 l (.elt 0 3) [x 56,x 57]<|
 l (.part 1 2) [x 58]<|
 c 155 [x 41,x 59]<|
 l (.un .not) [x 60]<|
 b (x 61) (l oH [x 54,i 0]<|
 l (.un .not) [x 62]<|
 j 2 [x 63])<|
 l oA [x 54,i 1]<|
 j 4 [x 62])<|
 j 3 []
def x6:K:=
 l (.un .not) [.c (.v (.bool true))]<|
 b (x 36) (.ret [i 8])<|
 l (.part 2 1) [x 1]<|
 l (.part 0 2) [x 1]<|
 l (.cell 11) [x 1]<|
 c 123 [x 37,x 38,x 39]<|
 l (.shape 2) [x 40]<|
 l (.cell 1) [x 42]<|
 l (.cell 12) [x 1]<|
 c 163 [x 43,x 44]<|
 l (.un .not) [x 45]<|
 b (x 46) (.ret [i 8])<|
 l (.part 0 11) [x 1]<|
.jp jB<|
 l .len [x 41]<|
 l (.cell 4) [x 47]<|
 l .len [x 49]<|
 l oE [x 48,x 50]<|
 b (x 51) (l (.cell 4) [x 47]<|
 l .len [x 52]<|
.jp x0<|
.loop nX<|
 j 4 [i 0])<|
 j 2 [.c (.v (.bool false))]
def JG:K:=
 l (.un .not) [x 58]<|
 b (x 59) (.ret [i 8])<|
.ret [i 0]
def JH:K:=
 l oH [i (-1),i 0]<|
 l (.un .not) [x 64]<|
 j 4 [x 65]
def JI:K:=
 l oL [x 64,x 63]<|
 b (x 65) (l (.cell 4) [x 57]<|
 l (.tix 3) [x 66,x 64]<|
 l (.elt 0 3) [x 66,x 67]<|
 l (.part 1 2) [x 68]<|
 c 155 [x 51,x 69]<|
 l (.un .not) [x 70]<|
 b (x 71) (l oH [x 64,i 0]<|
 l (.un .not) [x 72]<|
 j 4 [x 73])<|
 l oA [x 64,i 1]<|
 j 6 [x 72])<|
 j 5 []
def nY:K:=
 l oL [x 36,x 29]<|
 b (x 37) (l .ix [x 36,x 29]<|
 l (.elt 0 0) [x 32,x 38]<|
 l (.cell 2) [x 1]<|
 l (.tix 3) [x 40,x 36]<|
 l (.elt 0 3) [x 40,x 41]<|
 l (.cell 0) [x 42]<|
 l oE [x 39,x 43]<|
 l (.un .not) [x 44]<|
 b (x 45) (l (.un .not) [.c (.v (.bool false))]<|
 b (x 46) (.ret [i 8])<|
 l (.part 2 1) [x 1]<|
 l (.part 0 2) [x 1]<|
 l (.cell 11) [x 1]<|
 c 123 [x 47,x 48,x 49]<|
 l (.shape 2) [x 50]<|
 l (.cell 1) [x 52]<|
 l (.cell 12) [x 1]<|
 c 163 [x 53,x 54]<|
 l (.un .not) [x 55]<|
 b (x 56) (.ret [i 8])<|
 l (.part 0 11) [x 1]<|
.jp JG<|
 l .len [x 51]<|
 l (.cell 4) [x 57]<|
 l .len [x 59]<|
 l oE [x 58,x 60]<|
 b (x 61) (l (.cell 4) [x 57]<|
 l .len [x 62]<|
.jp JH<|
.loop JI<|
 j 6 [i 0])<|
 j 4 [.c (.v (.bool false))])<|
 l oA [x 36,i 1]<|
 j 3 [x 46])<|
 j 2 []
def x7:K:=
 l .bnd [x 23,x 15]<|
 l .sum [i 0,x 25]<|
 l .dif [x 15,x 25]<|
 l (.clr [z]) [x 24,x 26,x 27]<|
 l .bnd [x 23,x 15]<|
 l .sub [x 28,i 0,x 29]<|
 c 160 [.c (.sl []),x 30]<|
 l (.appK 0 1) [x 28,i 0,x 31]<|
 l (.cell 2) [x 1]<|
 l .len [x 33]<|
 l oN [x 29,x 34]<|
 b (x 35) (l (.un .not) [.c (.v (.bool false))]<|
 b (x 36) (.ret [i 8])<|
 l (.part 2 1) [x 1]<|
 l (.part 0 2) [x 1]<|
 l (.cell 11) [x 1]<|
 c 123 [x 37,x 38,x 39]<|
 l (.shape 2) [x 40]<|
 l (.cell 1) [x 42]<|
 l (.cell 12) [x 1]<|
 c 163 [x 43,x 44]<|
 l (.un .not) [x 45]<|
 b (x 46) (.ret [i 8])<|
 l (.part 0 11) [x 1]<|
.jp JD<|
 l .len [x 41]<|
 l (.cell 4) [x 47]<|
 l .len [x 49]<|
 l oE [x 48,x 50]<|
 b (x 51) (l (.cell 4) [x 47]<|
 l .len [x 52]<|
.jp JE<|
.loop JF<|
 j 4 [i 0])<|
 j 2 [.c (.v (.bool false))])<|
.jp x6<|
.loop nY<|
 j 3 [i 0]
def x8:K:=
 l oA [x 25,i 1]<|
 j 3 [x 31,x 32,x 33]
def k78_51:K:=
 l oL [x 25,x 15]<|
 b (x 26) (l .ix [x 25,x 15]<|
 l (.elt 0 0) [x 23,x 27]<|
 l oL [x 28,i 0]<|
 l (.un .not) [x 29]<|
.jp x8<|
 b (x 30) (l .ix [x 24,x 15]<|
 l (.set 0) [x 23,x 31,x 28]<|
 l oA [x 24,i 1]<|
 j 4 [x 32,x 33])<|
 j 4 [x 23,x 24])<|
 j 2 [x 24,x 23]
def nZ:K:=
 l oL [x 16,x 15]<|
 b (x 17) (l .ix [x 16,x 15]<|
 l (.elt 0 0) [x 14,x 18]<|
 l oL [x 19,i 0]<|
 b (x 20) (l oE [x 16,i (-1)]<|
 b (x 21) (l .sub [x 14,i 0,x 15]<|
 c 160 [.c (.sl []),x 22]<|
 l (.appK 0 1) [x 14,i 0,x 23]<|
 l (.cell 2) [x 1]<|
 l .len [x 25]<|
 l oN [x 15,x 26]<|
 b (x 27) (l (.un .not) [.c (.v (.bool false))]<|
 b (x 28) (.ret [i 8])<|
 l (.part 2 1) [x 1]<|
 l (.part 0 2) [x 1]<|
 l (.cell 11) [x 1]<|
 c 123 [x 29,x 30,x 31]<|
 l (.shape 2) [x 32]<|
 l (.cell 1) [x 34]<|
 l (.cell 12) [x 1]<|
 c 163 [x 35,x 36]<|
 l (.un .not) [x 37]<|
 b (x 38) (.ret [i 8])<|
 l (.part 0 11) [x 1]<|
.jp Jr<|
 l .len [x 33]<|
 l (.cell 4) [x 39]<|
 l .len [x 41]<|
 l oE [x 40,x 42]<|
 b (x 43) (l (.cell 4) [x 39]<|
 l .len [x 44]<|
.jp Jt<|
.loop Ju<|
 j 4 [i 0])<|
 j 2 [.c (.v (.bool false))])<|
.jp Jy<|
.loop JC<|
 j 3 [i 0])<|
 l oA [x 16,i 1]<|
.jp x7<|
.loop k78_51<|
 j 3 [x 14,x 16,x 22])<|
 l oA [x 16,i 1]<|
 j 1 [x 21])<|
 j 0 []
def k78:K:=
 l (.shape 13) [x 0]<|
 l (.cell 11) [x 1]<|
 l .len [x 2]<|
 l (.part 0 11) [x 1]<|
 c 153 [x 4]<|
 l oN [x 5,i 0]<|
 b (x 6) (.ret [i 8])<|
 l (.part 11 2) [x 1]<|
 c 157 [x 7]<|
 l oN [x 8,i 0]<|
 b (x 9) (.ret [i 8])<|
 l oS [x 3,i 1]<|
 l (.bin .and) [x 3,x 10]<|
 l oN [x 11,i 0]<|
 b (x 12) (.ret [i 8])<|
 l (.cell 11) [x 1]<|
 c 120 [x 13]<|
 l .len [x 14]<|
.jp xZ<|
.loop nZ<|
 j 1 [i 0]
def h78:List Hint:=[.no,.no,(.j ⟨0,[(4,(wi 0))],[(0,(.box (pcs (x 1) 0 13))),(1,(.lst (x 14) (x 15) 1 false))],2⟩),(.j ⟨1,[(1,(.w (.c (.fn 159 [] [])))),(0,(.w (.c (o 1 15)))),(4,(wi 0)),(7,(w 15)),(8,(w 16))],[(0,(.box (pcs (x 1) 0 13))),(1,(.lst (x 14) (x 15) 1 false))],2⟩),.no,.no,.no,.no,.no,.no,.no,(.j ⟨1,[(4,(w 40))],[(0,(.box (pcs (x 1) 0 13))),(1,(.lst (x 24) (x 15) 1 false)),(2,(.box [(r 34 0),(r 34 1)]))],3⟩),(.j ⟨0,[(4,(wi 0))],[(0,(.box (pcs (x 1) 0 13))),(1,(.lst (x 24) (x 15) 1 false)),(2,(.box [(r 34 0),(r 34 1)])),(3,(.box (pcs (x 39) 0 11))),(4,(.box [(a 33)]))],5⟩),(.j ⟨1,[(1,(.w (.c (.fn 256 [] [(.ptr 4 0)])))),(0,(.w (.c (r 39 4)))),(4,(wi 0)),(7,(w 45)),(8,(w 46))],[(0,(.box (pcs (x 1) 0 13))),(1,(.lst (x 24) (x 15) 1 false)),(2,(.box [(r 34 0),(r 34 1)])),(3,(.box (pcs (x 39) 0 11))),(4,(.box [(a 33)]))],5⟩),.no,.no,.no,.no,(.j ⟨0,[(6,(.w (.c (.a (.c (.v (.bool false)))))))],[(0,(.box (pcs (x 1) 0 13))),(1,(.lst (x 24) (x 15) 1 false))],2⟩),(.j ⟨1,[(2,(.w (.c (.fn 162 [] [])))),(1,(.w (.c (r 1 2)))),(6,(.w (.c (.a (.c (.v (.bool false))))))),(15,(.w (.c (o 1 15)))),(16,(w 15)),(17,(w 28))],[(0,(.box (pcs (x 1) 0 13))),(1,(.lst (x 24) (x 15) 1 false))],2⟩),.no,.no,.no,.no,.no,(.j ⟨1,[(4,(w 50))],[(0,(.box (pcs (x 1) 0 13))),(1,(.lst (x 24) (x 15) 1 false)),(2,(.box (pcs (x 34) 0 3))),(3,(.box (pcs (x 34) 0 3))),(4,(.box [(r 44 0),(r 44 1)]))],5⟩),(.j ⟨0,[(4,(wi 0))],[(0,(.box (pcs (x 1) 0 13))),(1,(.lst (x 24) (x 15) 1 false)),(2,(.box (pcs (x 34) 0 3))),(3,(.box (pcs (x 34) 0 3))),(4,(.box [(r 44 0),(r 44 1)])),(5,(.box (pcs (x 49) 0 11))),(6,(.box [(a 43)]))],7⟩),(.j ⟨1,[(1,(.w (.c (.fn 256 [] [(.ptr 6 0)])))),(0,(.w (.c (r 49 4)))),(4,(wi 0)),(7,(w 55)),(8,(w 56))],[(0,(.box (pcs (x 1) 0 13))),(1,(.lst (x 24) (x 15) 1 false)),(2,(.box (pcs (x 34) 0 3))),(3,(.box (pcs (x 34) 0 3))),(4,(.box [(r 44 0),(r 44 1)])),(5,(.box (pcs (x 49) 0 11))),(6,(.box [(a 43)]))],7⟩),.no,.no,.no,.no,.no,.no,(.j ⟨1,[(4,(w 40))],[(0,(.box (pcs (x 1) 0 13))),(1,(.lst (x 24) (x 15) 1 false)),(2,(.box [(r 34 0),(r 34 1)]))],3⟩),(.j ⟨0,[(4,(wi 0))],[(0,(.box (pcs (x 1) 0 13))),(1,(.lst (x 24) (x 15) 1 false)),(2,(.box [(r 34 0),(r 34 1)])),(3,(.box (pcs (x 39) 0 11))),(4,(.box [(a 33)]))],5⟩),(.j ⟨1,[(1,(.w (.c (.fn 256 [] [(.ptr 4 0)])))),(0,(.w (.c (r 39 4)))),(4,(wi 0)),(7,(w 45)),(8,(w 46))],[(0,(.box (pcs (x 1) 0 13))),(1,(.lst (x 24) (x 15) 1 false)),(2,(.box [(r 34 0),(r 34 1)])),(3,(.box (pcs (x 39) 0 11))),(4,(.box [(a 33)]))],5⟩),.no,.no,.no,.no,(.j ⟨2,[(5,(w 23)),(4,(.w (.c .nil))),(0,(.w (.c (o 1 15))))],[(0,(.box (pcs (x 1) 0 13))),(1,(.lst (x 24) (x 15) 1 false))],2⟩),(.j ⟨3,[(1,(.w (.c (.fn 159 [] [])))),(0,(.w (.c (o 1 15)))),(4,(.w (.c .nil))),(5,(w 24)),(6,(w 25))],[(0,(.box (pcs (x 1) 0 13))),(1,(.lst (x 23) (x 15) 1 false))],2⟩),.no,.no,(.j ⟨2,[(6,(w 25)),(4,(.w (.c .nil))),(0,(.w (.c (o 1 15)))),(1,(.w (.c (.fn 159 [] [])))),(16,(w 25)),(17,(.w (.c (o 1 15)))),(18,(w 15)),(19,(w 26)),(22,(.w (.c (o 1 15)))),(23,(w 25)),(24,(.w (.c (.ep 1 (x 27) 0)))),(25,(w 28)),(7,(w 28)),(26,(.w (.c (.fn 159 [] [])))),(27,(w 28)),(28,(w 29)),(29,(w 30)),(5,(w 32))],[(0,(.box (pcs (x 1) 0 13))),(1,(.lst (x 31) (x 15) 1 false))],2⟩),.no,.no,.no,(.j ⟨1,[(4,(w 48))],[(0,(.box (pcs (x 1) 0 13))),(1,(.lst (x 32) (x 15) 1 false)),(2,(.box [(r 42 0),(r 42 1)]))],3⟩),(.j ⟨0,[(4,(wi 0))],[(0,(.box (pcs (x 1) 0 13))),(1,(.lst (x 32) (x 15) 1 false)),(2,(.box [(r 42 0),(r 42 1)])),(3,(.box (pcs (x 47) 0 11))),(4,(.box [(a 41)]))],5⟩),(.j ⟨1,[(1,(.w (.c (.fn 256 [] [(.ptr 4 0)])))),(0,(.w (.c (r 47 4)))),(4,(wi 0)),(7,(w 53)),(8,(w 54))],[(0,(.box (pcs (x 1) 0 13))),(1,(.lst (x 32) (x 15) 1 false)),(2,(.box [(r 42 0),(r 42 1)])),(3,(.box (pcs (x 47) 0 11))),(4,(.box [(a 41)]))],5⟩),.no,.no,.no,.no,(.j ⟨0,[(6,(.w (.c (.a (.c (.v (.bool false)))))))],[(0,(.box (pcs (x 1) 0 13))),(1,(.lst (x 32) (x 15) 1 false))],2⟩),(.j ⟨1,[(2,(.w (.c (.fn 162 [] [])))),(1,(.w (.c (r 1 2)))),(6,(.w (.c (.a (.c (.v (.bool false))))))),(15,(.w (.c (o 1 29)))),(16,(w 29)),(17,(w 36))],[(0,(.box (pcs (x 1) 0 13))),(1,(.lst (x 32) (x 15) 1 false))],2⟩),.no,.no,.no,.no,.no,(.j ⟨1,[(4,(w 58))],[(0,(.box (pcs (x 1) 0 13))),(1,(.lst (x 32) (x 15) 1 false)),(2,(.box (pcs (x 42) 0 3))),(3,(.box (pcs (x 42) 0 3))),(4,(.box [(r 52 0),(r 52 1)]))],5⟩),(.j ⟨0,[(4,(wi 0))],[(0,(.box (pcs (x 1) 0 13))),(1,(.lst (x 32) (x 15) 1 false)),(2,(.box (pcs (x 42) 0 3))),(3,(.box (pcs (x 42) 0 3))),(4,(.box [(r 52 0),(r 52 1)])),(5,(.box (pcs (x 57) 0 11))),(6,(.box [(a 51)]))],7⟩),(.j ⟨1,[(1,(.w (.c (.fn 256 [] [(.ptr 6 0)])))),(0,(.w (.c (r 57 4)))),(4,(wi 0)),(7,(w 63)),(8,(w 64))],[(0,(.box (pcs (x 1) 0 13))),(1,(.lst (x 32) (x 15) 1 false)),(2,(.box (pcs (x 42) 0 3))),(3,(.box (pcs (x 42) 0 3))),(4,(.box [(r 52 0),(r 52 1)])),(5,(.box (pcs (x 57) 0 11))),(6,(.box [(a 51)]))],7⟩),.no,.no,.no,.no,.no,.no,(.j ⟨1,[(4,(w 48))],[(0,(.box (pcs (x 1) 0 13))),(1,(.lst (x 32) (x 15) 1 false)),(2,(.box [(r 42 0),(r 42 1)]))],3⟩),(.j ⟨0,[(4,(wi 0))],[(0,(.box (pcs (x 1) 0 13))),(1,(.lst (x 32) (x 15) 1 false)),(2,(.box [(r 42 0),(r 42 1)])),(3,(.box (pcs (x 47) 0 11))),(4,(.box [(a 41)]))],5⟩),(.j ⟨1,[(1,(.w (.c (.fn 256 [] [(.ptr 4 0)])))),(0,(.w (.c (r 47 4)))),(4,(wi 0)),(7,(w 53)),(8,(w 54))],[(0,(.box (pcs (x 1) 0 13))),(1,(.lst (x 32) (x 15) 1 false)),(2,(.box [(r 42 0),(r 42 1)])),(3,(.box (pcs (x 47) 0 11))),(4,(.box [(a 41)]))],5⟩),.no,.no,.no,.no,.no,.no,.no,.no,(.j ⟨1,[(4,(w 35))],[(0,(.box (pcs (x 1) 0 13))),(1,(.lst (x 19) (x 15) 1 false)),(2,(.box [(r 29 0),(r 29 1)]))],3⟩),(.j ⟨0,[(4,(wi 0))],[(0,(.box (pcs (x 1) 0 13))),(1,(.lst (x 19) (x 15) 1 false)),(2,(.box [(r 29 0),(r 29 1)])),(3,(.box (pcs (x 34) 0 11))),(4,(.box [(a 28)]))],5⟩),(.j ⟨1,[(1,(.w (.c (.fn 256 [] [(.ptr 4 0)])))),(0,(.w (.c (r 34 4)))),(4,(wi 0)),(7,(w 40)),(8,(w 41))],[(0,(.box (pcs (x 1) 0 13))),(1,(.lst (x 19) (x 15) 1 false)),(2,(.box [(r 29 0),(r 29 1)])),(3,(.box (pcs (x 34) 0 11))),(4,(.box [(a 28)]))],5⟩),.no,.no,.no,.no,(.j ⟨0,[(6,(.w (.c (.a (.c (.v (.bool false)))))))],[(0,(.box (pcs (x 1) 0 13))),(1,(.lst (x 19) (x 15) 1 false))],2⟩),(.j ⟨1,[(2,(.w (.c (.fn 162 [] [])))),(1,(.w (.c (r 1 2)))),(6,(.w (.c (.a (.c (.v (.bool false))))))),(15,(.w (.c (o 1 15)))),(16,(w 15)),(17,(w 23))],[(0,(.box (pcs (x 1) 0 13))),(1,(.lst (x 19) (x 15) 1 false))],2⟩),.no,.no,.no,.no,.no,(.j ⟨1,[(4,(w 45))],[(0,(.box (pcs (x 1) 0 13))),(1,(.lst (x 19) (x 15) 1 false)),(2,(.box (pcs (x 29) 0 3))),(3,(.box (pcs (x 29) 0 3))),(4,(.box [(r 39 0),(r 39 1)]))],5⟩),(.j ⟨0,[(4,(wi 0))],[(0,(.box (pcs (x 1) 0 13))),(1,(.lst (x 19) (x 15) 1 false)),(2,(.box (pcs (x 29) 0 3))),(3,(.box (pcs (x 29) 0 3))),(4,(.box [(r 39 0),(r 39 1)])),(5,(.box (pcs (x 44) 0 11))),(6,(.box [(a 38)]))],7⟩),(.j ⟨1,[(1,(.w (.c (.fn 256 [] [(.ptr 6 0)])))),(0,(.w (.c (r 44 4)))),(4,(wi 0)),(7,(w 50)),(8,(w 51))],[(0,(.box (pcs (x 1) 0 13))),(1,(.lst (x 19) (x 15) 1 false)),(2,(.box (pcs (x 29) 0 3))),(3,(.box (pcs (x 29) 0 3))),(4,(.box [(r 39 0),(r 39 1)])),(5,(.box (pcs (x 44) 0 11))),(6,(.box [(a 38)]))],7⟩),.no,.no,.no,.no,.no,.no,(.j ⟨1,[(4,(w 35))],[(0,(.box (pcs (x 1) 0 13))),(1,(.lst (x 19) (x 15) 1 false)),(2,(.box [(r 29 0),(r 29 1)]))],3⟩),(.j ⟨0,[(4,(wi 0))],[(0,(.box (pcs (x 1) 0 13))),(1,(.lst (x 19) (x 15) 1 false)),(2,(.box [(r 29 0),(r 29 1)])),(3,(.box (pcs (x 34) 0 11))),(4,(.box [(a 28)]))],5⟩),(.j ⟨1,[(1,(.w (.c (.fn 256 [] [(.ptr 4 0)])))),(0,(.w (.c (r 34 4)))),(4,(wi 0)),(7,(w 40)),(8,(w 41))],[(0,(.box (pcs (x 1) 0 13))),(1,(.lst (x 19) (x 15) 1 false)),(2,(.box [(r 29 0),(r 29 1)])),(3,(.box (pcs (x 34) 0 11))),(4,(.box [(a 28)]))],5⟩),.no,.no,.no,.no,(.j ⟨2,[(5,(w 18)),(4,(.w (.c .nil))),(0,(.w (.c (o 1 15))))],[(0,(.box (pcs (x 1) 0 13))),(1,(.lst (x 19) (x 15) 1 false))],2⟩),(.j ⟨3,[(1,(.w (.c (.fn 159 [] [])))),(0,(.w (.c (o 1 15)))),(4,(.w (.c .nil))),(5,(w 19)),(6,(w 20))],[(0,(.box (pcs (x 1) 0 13))),(1,(.lst (x 18) (x 15) 1 false))],2⟩),.no,.no,(.j ⟨2,[(6,(w 20)),(4,(.w (.c .nil))),(0,(.w (.c (o 1 15)))),(1,(.w (.c (.fn 159 [] [])))),(16,(w 20)),(17,(.w (.c (o 1 15)))),(18,(w 15)),(19,(w 21)),(22,(.w (.c (o 1 15)))),(23,(w 20)),(24,(.w (.c (.ep 1 (x 22) 0)))),(25,(w 23)),(7,(w 23)),(26,(.w (.c (.fn 159 [] [])))),(27,(w 23)),(28,(w 24)),(29,(w 25)),(5,(w 27))],[(0,(.box (pcs (x 1) 0 13))),(1,(.lst (x 26) (x 15) 1 false))],2⟩),.no,.no,.no,(.j ⟨1,[(4,(w 43))],[(0,(.box (pcs (x 1) 0 13))),(1,(.lst (x 27) (x 15) 1 false)),(2,(.box [(r 37 0),(r 37 1)]))],3⟩),(.j ⟨0,[(4,(wi 0))],[(0,(.box (pcs (x 1) 0 13))),(1,(.lst (x 27) (x 15) 1 false)),(2,(.box [(r 37 0),(r 37 1)])),(3,(.box (pcs (x 42) 0 11))),(4,(.box [(a 36)]))],5⟩),(.j ⟨1,[(1,(.w (.c (.fn 256 [] [(.ptr 4 0)])))),(0,(.w (.c (r 42 4)))),(4,(wi 0)),(7,(w 48)),(8,(w 49))],[(0,(.box (pcs (x 1) 0 13))),(1,(.lst (x 27) (x 15) 1 false)),(2,(.box [(r 37 0),(r 37 1)])),(3,(.box (pcs (x 42) 0 11))),(4,(.box [(a 36)]))],5⟩),.no,.no,.no,.no,(.j ⟨0,[(6,(.w (.c (.a (.c (.v (.bool false)))))))],[(0,(.box (pcs (x 1) 0 13))),(1,(.lst (x 27) (x 15) 1 false))],2⟩),(.j ⟨1,[(2,(.w (.c (.fn 162 [] [])))),(1,(.w (.c (r 1 2)))),(6,(.w (.c (.a (.c (.v (.bool false))))))),(15,(.w (.c (o 1 24)))),(16,(w 24)),(17,(w 31))],[(0,(.box (pcs (x 1) 0 13))),(1,(.lst (x 27) (x 15) 1 false))],2⟩),.no,.no,.no,.no,.no,(.j ⟨1,[(4,(w 53))],[(0,(.box (pcs (x 1) 0 13))),(1,(.lst (x 27) (x 15) 1 false)),(2,(.box (pcs (x 37) 0 3))),(3,(.box (pcs (x 37) 0 3))),(4,(.box [(r 47 0),(r 47 1)]))],5⟩),(.j ⟨0,[(4,(wi 0))],[(0,(.box (pcs (x 1) 0 13))),(1,(.lst (x 27) (x 15) 1 false)),(2,(.box (pcs (x 37) 0 3))),(3,(.box (pcs (x 37) 0 3))),(4,(.box [(r 47 0),(r 47 1)])),(5,(.box (pcs (x 52) 0 11))),(6,(.box [(a 46)]))],7⟩),(.j ⟨1,[(1,(.w (.c (.fn 256 [] [(.ptr 6 0)])))),(0,(.w (.c (r 52 4)))),(4,(wi 0)),(7,(w 58)),(8,(w 59))],[(0,(.box (pcs (x 1) 0 13))),(1,(.lst (x 27) (x 15) 1 false)),(2,(.box (pcs (x 37) 0 3))),(3,(.box (pcs (x 37) 0 3))),(4,(.box [(r 47 0),(r 47 1)])),(5,(.box (pcs (x 52) 0 11))),(6,(.box [(a 46)]))],7⟩),.no,.no,.no,.no,.no,.no,(.j ⟨1,[(4,(w 43))],[(0,(.box (pcs (x 1) 0 13))),(1,(.lst (x 27) (x 15) 1 false)),(2,(.box [(r 37 0),(r 37 1)]))],3⟩),(.j ⟨0,[(4,(wi 0))],[(0,(.box (pcs (x 1) 0 13))),(1,(.lst (x 27) (x 15) 1 false)),(2,(.box [(r 37 0),(r 37 1)])),(3,(.box (pcs (x 42) 0 11))),(4,(.box [(a 36)]))],5⟩),(.j ⟨1,[(1,(.w (.c (.fn 256 [] [(.ptr 4 0)])))),(0,(.w (.c (r 42 4)))),(4,(wi 0)),(7,(w 48)),(8,(w 49))],[(0,(.box (pcs (x 1) 0 13))),(1,(.lst (x 27) (x 15) 1 false)),(2,(.box [(r 37 0),(r 37 1)])),(3,(.box (pcs (x 42) 0 11))),(4,(.box [(a 36)]))],5⟩),.no,.no,.no,.no]
theorem q78:symF D0 100000 78 h78=some k78:=by kernel_rfl
def mD:K:=
 l (.un .not) [x 18]<|
 b (x 19) (.ret [i 8])<|
.ret [i 0]
def Dp:K:=
 l oH [i (-1),i 0]<|
 l (.un .not) [x 24]<|
 j 0 [x 25]
def tq:K:=
 l oL [x 24,x 23]<|
 b (x 25) (l (.cell 4) [x 17]<|
 l (.tix 3) [x 26,x 24]<|
 l (.elt 0 3) [x 26,x 27]<|
 l (.part 1 2) [x 28]<|
 c 155 [x 8,x 29]<|
 l (.un .not) [x 30]<|
 b (x 31) (l oH [x 24,i 0]<|
 l (.un .not) [x 32]<|
 j 0 [x 33])<|
 l oA [x 24,i 1]<|
 j 2 [x 32])<|
 j 1 []
def k79:K:=
 l (.shape 13) [x 0]<|
 l (.part 0 11) [x 1]<|
 c 153 [x 2]<|
 l oN [x 3,i 0]<|
 b (x 4) (.ret [i 8])<|
 l (.part 2 1) [x 1]<|
 l (.part 0 2) [x 1]<|
 c 125 [x 5,x 6]<|
 l (.shape 2) [x 7]<|
 l (.cell 0) [x 9]<|
 l (.cell 11) [x 1]<|
 l oN [x 10,x 11]<|
 b (x 12) (.ret [i 8])<|
 l (.cell 1) [x 9]<|
 l (.cell 12) [x 1]<|
 c 165 [x 13,x 14]<|
 l (.un .not) [x 15]<|
 b (x 16) (.ret [i 8])<|
 l (.part 0 11) [x 1]<|
.jp mD<|
 l .len [x 8]<|
 l (.cell 4) [x 17]<|
 l .len [x 19]<|
 l oE [x 18,x 20]<|
 b (x 21) (l (.cell 4) [x 17]<|
 l .len [x 22]<|
.jp Dp<|
.loop tq<|
 j 2 [i 0])<|
 j 0 [.c (.v (.bool false))]
def h79:List Hint:=[.no,.no,(.j ⟨1,[(4,(w 18))],[(0,(.box (pcs (x 1) 0 13))),(1,(.box [(r 9 0),(r 9 1)]))],2⟩),(.j ⟨0,[(4,(wi 0))],[(0,(.box (pcs (x 1) 0 13))),(1,(.box [(r 9 0),(r 9 1)])),(2,(.box (pcs (x 17) 0 11))),(3,(.box [(a 8)]))],4⟩),(.j ⟨1,[(1,(.w (.c (.fn 257 [] [(.ptr 3 0)])))),(0,(.w (.c (r 17 4)))),(4,(wi 0)),(7,(w 23)),(8,(w 24))],[(0,(.box (pcs (x 1) 0 13))),(1,(.box [(r 9 0),(r 9 1)])),(2,(.box (pcs (x 17) 0 11))),(3,(.box [(a 8)]))],4⟩),.no,.no,.no,.no]
theorem q79:symF D0 100000 79 h79=some k79:=by kernel_rfl
def Dq:K:=
.ret [i 0]
def tr:K:=
 l oL [x 18,x 17]<|
 b (x 19) (l (.cell 4) [x 1]<|
 l (.tix 3) [x 20,x 18]<|
 l (.elt 0 3) [x 20,x 21]<|
 l (.part 1 2) [x 22]<|
 c 155 [x 8,x 23]<|
 l (.un .not) [x 24]<|
 b (x 25) (.ret [i 8])<|
 l oA [x 18,i 1]<|
 j 1 [x 26])<|
 j 0 []
def k80:K:=
 l (.shape 12) [x 0]<|
 l (.part 0 11) [x 1]<|
 c 153 [x 2]<|
 l oN [x 3,i 0]<|
 b (x 4) (.ret [i 8])<|
 l (.part 2 1) [x 1]<|
 l (.part 0 2) [x 1]<|
 c 127 [x 5,x 6]<|
 l (.cell 11) [x 1]<|
 c 163 [x 7,x 9]<|
 l (.un .not) [x 10]<|
 b (x 11) (.ret [i 8])<|
 l .len [x 8]<|
 l (.cell 4) [x 1]<|
 l .len [x 13]<|
 l oN [x 12,x 14]<|
 b (x 15) (.ret [i 8])<|
 l (.cell 4) [x 1]<|
 l .len [x 16]<|
.jp Dq<|
.loop tr<|
 j 1 [i 0]
def h80:List Hint:=[.no,.no,.no,(.j ⟨0,[(2,(wi 0))],[],0⟩),(.j ⟨1,[(2,(wi 0)),(4,(w 8)),(39,(.w (.c (r 1 4)))),(40,(w 17)),(41,(w 18))],[],0⟩),.no,.no,.no]
theorem q80:symF D0 100000 80 h80=some k80:=by kernel_rfl
def Dr:K:=
 l (.part 0 11) [x 1]<|
 l (.cell 11) [x 1]<|
 c 170 [x 11]<|
 c 169 [x 10,x 12]<|
 l (.un .not) [x 13]<|
 b (x 14) (.ret [i 8])<|
.ret [i 0]
def Ds:K:=
 l oA [x 10,i 1]<|
 j 1 [x 22]
def k81_3:K:=
 l oL [x 20,x 10]<|
 b (x 21) (l (.cell 11) [x 1]<|
 l (.tix 1) [x 22,x 20]<|
 l (.elt 0 0) [x 22,x 23]<|
 l (.cell 11) [x 1]<|
 l (.tix 1) [x 25,x 10]<|
 l (.elt 0 0) [x 25,x 26]<|
 l oE [x 24,x 27]<|
 b (x 28) (.ret [i 8])<|
 l oA [x 20,i 1]<|
 j 3 [x 29])<|
 j 2 [x 20,x 21]
def tu:K:=
 l (.cell 11) [x 1]<|
 l .len [x 11]<|
 l oL [x 10,x 12]<|
 b (x 13) (l (.part 2 1) [x 1]<|
 l (.cell 11) [x 1]<|
 l (.tix 1) [x 15,x 10]<|
 l (.elt 0 0) [x 15,x 16]<|
 c 168 [x 14,x 17]<|
 l oL [x 18,i 0]<|
 b (x 19) (.ret [i 8])<|
.jp Ds<|
.loop k81_3<|
 j 3 [i 0])<|
 j 0 []
def k81:K:=
 l (.shape 12) [x 0]<|
 l (.part 0 11) [x 1]<|
 c 167 [x 2]<|
 l oN [x 3,i 0]<|
 b (x 4) (.ret [i 8])<|
 l (.cell 11) [x 1]<|
 l .len [x 5]<|
 l (.cell 2) [x 1]<|
 l .len [x 7]<|
 l oN [x 6,x 8]<|
 b (x 9) (.ret [i 8])<|
.jp Dr<|
.loop tu<|
 j 1 [i 0]
def h81:List Hint:=[.no,.no,(.j ⟨0,[(2,(wi 0)),(1,(p 0 0))],[(0,(.box (pcs (x 1) 0 12)))],1⟩),(.j ⟨1,[(1,(p 0 0)),(2,(wi 0)),(3,(w 10))],[(0,(.box (pcs (x 1) 0 12)))],1⟩),.no,.no,.no,(.j ⟨2,[(4,(w 20)),(36,(w 19)),(35,(w 18)),(34,(w 17)),(33,(.w (.c (.tp (x 15) (x 16) 0)))),(32,(w 10)),(31,(.w (.c (r 1 11)))),(30,(p 0 11)),(29,(v 14)),(28,(p 0 2)),(27,(p 0 0)),(24,(w 13)),(23,(w 12)),(22,(.w (.c (r 1 11)))),(21,(p 0 11)),(20,(w 10)),(1,(p 0 0)),(2,(wi 0)),(3,(w 10)),(37,(w 20)),(38,(w 10)),(39,(w 21))],[(0,(.box (pcs (x 1) 0 12)))],1⟩),(.j ⟨1,[(3,(w 10)),(2,(wi 0)),(1,(p 0 0)),(20,(w 10)),(21,(p 0 11)),(22,(.w (.c (r 1 11)))),(23,(w 12)),(24,(w 13)),(27,(p 0 0)),(28,(p 0 2)),(29,(v 14)),(30,(p 0 11)),(31,(.w (.c (r 1 11)))),(32,(w 10)),(33,(.w (.c (.tp (x 15) (x 16) 0)))),(34,(w 17)),(35,(w 18)),(36,(w 19)),(4,(w 20))],[(0,(.box (pcs (x 1) 0 12)))],1⟩),.no,.no,.no,.no]
theorem q81:symF D0 100000 81 h81=some k81:=by kernel_rfl
def k82:K:=
 l (.shape 13) [x 0]<|
 l (.part 0 11) [x 1]<|
 c 167 [x 2]<|
 l oN [x 3,i 0]<|
 b (x 4) (.ret [i 8])<|
 l (.part 11 2) [x 1]<|
 c 171 [x 5]<|
 l oN [x 6,i 0]<|
 b (x 7) (.ret [i 8])<|
 l (.cell 11) [x 1]<|
 l .len [x 8]<|
 c 172 [x 9]<|
 l (.un .not) [x 10]<|
 b (x 11) (.ret [i 8])<|
 l (.part 2 1) [x 1]<|
 l (.cell 11) [x 1]<|
 c 173 [x 12,x 13]<|
 l (.un .not) [x 14]<|
 b (x 15) (.ret [i 8])<|
 l (.cell 11) [x 1]<|
 c 174 [x 16]<|
 l .len [x 17]<|
 l (.cell 0) [x 12]<|
 l .len [x 19]<|
 l oN [x 18,x 20]<|
 b (x 21) (.ret [i 8])<|
 l (.part 11 2) [x 1]<|
 l (.part 0 2) [x 1]<|
 c 175 [x 22,x 12,x 23]<|
 l (.un .not) [x 24]<|
 b (x 25) (.ret [i 8])<|
 l (.part 0 11) [x 1]<|
 l (.part 11 2) [x 1]<|
 c 176 [x 27]<|
 c 169 [x 26,x 28]<|
 l (.un .not) [x 29]<|
 b (x 30) (.ret [i 8])<|
.ret [i 0]
def h82:List Hint:=[.no,.no,.no,.no,.no,.no]
theorem q82:symF D0 100000 82 h82=some k82:=by kernel_rfl
def k83:K:=
 l (.shape 13) [x 0]<|
 l (.part 0 11) [x 1]<|
 c 167 [x 2]<|
 l oN [x 3,i 0]<|
 b (x 4) (.ret [i 8])<|
 l (.part 2 1) [x 1]<|
 l (.part 0 2) [x 1]<|
 c 177 [x 5,x 6]<|
 l (.shape 2) [x 7]<|
 l (.part 11 2) [x 1]<|
 c 137 [x 8,x 9]<|
 l (.un .not) [x 10]<|
 b (x 11) (.ret [i 8])<|
 l (.part 0 11) [x 1]<|
 c 178 [x 8]<|
 c 169 [x 12,x 13]<|
 l (.un .not) [x 14]<|
 b (x 15) (.ret [i 8])<|
.ret [i 0]
def h83:List Hint:=[.no,.no,.no]
theorem q83:symF D0 100000 83 h83=some k83:=by kernel_rfl
def k84:K:=
 l (.shape 12) [x 0]<|
 l (.part 0 11) [x 1]<|
 c 167 [x 2]<|
 l oN [x 3,i 0]<|
 b (x 4) (.ret [i 8])<|
 l (.part 2 1) [x 1]<|
 l (.part 0 2) [x 1]<|
 c 179 [x 5,x 6]<|
 l (.cell 11) [x 1]<|
 c 135 [x 7,x 8]<|
 l (.un .not) [x 9]<|
 b (x 10) (.ret [i 8])<|
 l (.part 0 11) [x 1]<|
 c 180 [x 5,x 7]<|
 c 169 [x 11,x 12]<|
 l (.un .not) [x 13]<|
 b (x 14) (.ret [i 8])<|
.ret [i 0]
def h84:List Hint:=[.no,.no,.no]
theorem q84:symF D0 100000 84 h84=some k84:=by kernel_rfl
def x9:K:=
.ret [x 2]
def tv:K:=
 l (.shape 11) [x 0]<|
.jp x9<|
 l (.cell 4) [x 1]<|
 l .len [x 2]<|
 l oG [x 3,i 40]<|
 b (x 4) (j 0 [.c (.v (.bool true))])<|
 l (.cell 10) [x 1]<|
 l .len [x 5]<|
 l oG [x 6,i 40]<|
 b (x 7) (j 0 [.c (.v (.bool true))])<|
 l (.part 2 1) [x 1]<|
 c 19 [x 8]<|
 b (x 9) (j 0 [.c (.v (.bool true))])<|
 l (.part 5 5) [x 1]<|
 c 206 [x 10]<|
 j 0 [x 11]
def Qr:List Hint:=[(.j ⟨1,[(2,(w 2))],[],0⟩)]
theorem Qs:symF D0 100000 109 Qr=some tv:=by kernel_rfl
def ya:K:=
.ret [x 2]
def tw:K:=
 l (.shape 2) [x 0]<|
.jp ya<|
 l (.cell 0) [x 1]<|
 l .len [x 2]<|
 l oG [x 3,i 70]<|
 b (x 4) (j 0 [.c (.v (.bool true))])<|
 l (.cell 1) [x 1]<|
 l .len [x 5]<|
 l oG [x 6,i 70]<|
 j 0 [x 7]
def Qt:List Hint:=[(.j ⟨1,[(2,(w 2))],[],0⟩)]
theorem Qu:symF D0 100000 110 Qt=some tw:=by kernel_rfl
def tz:K:=
 l (.shape 2) [x 0]<|
 l (.cell 1) [x 1]<|
 l .len [x 2]<|
 l oG [x 3,i 70]<|
.ret [x 4]
def Qv:List Hint:=[]
theorem Qw:symF D0 100000 111 Qv=some tz:=by kernel_rfl
def tA:K:=
 l (.shape 11) [x 0]<|
 l (.part 0 2) [x 1]<|
 l (.part 2 1) [x 1]<|
 c 207 [x 3]<|
 l (.shape 1) [x 4]<|
 l (.cell 0) [x 5]<|
 l .len [x 6]<|
 l (.part 3 2) [x 1]<|
 c 208 [x 8]<|
 l (.shape 2) [x 9]<|
 l (.cell 1) [x 10]<|
 l .len [x 11]<|
 l (.part 5 5) [x 1]<|
 c 209 [x 13]<|
 l (.shape 5) [x 14]<|
 l (.cell 0) [x 15]<|
 l .len [x 16]<|
 l (.cell 1) [x 15]<|
 l .len [x 18]<|
 l (.cell 2) [x 15]<|
 l .len [x 20]<|
 l (.cell 3) [x 15]<|
 l .len [x 22]<|
 l (.cell 4) [x 15]<|
 l .len [x 24]<|
 l (.cell 10) [x 1]<|
 l (.app 24 3) [.c (.sl []),i 0,x 26]<|
 l .len [x 27]<|
 l (.shape 2) [x 2]<|
 l (.cell 0) [x 29]<|
 l (.cell 1) [x 29]<|
 l .sub [x 6,i 0,x 7]<|
 l (.cell 0) [x 10]<|
 l .sub [x 11,i 0,x 12]<|
 l .sub [x 16,i 0,x 17]<|
 l .sub [x 18,i 0,x 19]<|
 l .sub [x 20,i 0,x 21]<|
 l .sub [x 22,i 0,x 23]<|
 l .sub [x 24,i 0,x 25]<|
 l .sub [x 27,i 0,x 28]<|
 l .agg [x 30,x 31,x 32,x 33,x 34,x 35,x 36,x 37,x 38,x 39,x 40]<|
.ret [x 41]
def Qx:List Hint:=[]
theorem Qy:symF D0 100000 112 Qx=some tA:=by kernel_rfl
def yb:K:=
.ret [x 2]
def jC:K:=
 l oG [x 2,.c (.v (.int .u64 0))]<|
 b (x 4) (l (.bin .rem) [x 3,x 2]<|
 j 1 [x 5,x 2])<|
 j 0 [x 3]
def tB:K:=
.jp yb<|
.loop jC<|
 j 1 [x 1,x 0]
def Qz:List Hint:=[(.j ⟨1,[(4,(.w (.c (.a (.c (.v (.int .u64 0))))))),(0,(w 2))],[],0⟩),(.j ⟨2,[(1,(w 2)),(0,(w 3)),(4,(.w (.c (.a (.c (.v (.int .u64 0)))))))],[],0⟩),.no,.no]
theorem QA:symF D0 100000 115 Qz=some tB:=by kernel_rfl
def tC:K:=
 l oL [x 0,i 0]<|
 b (x 1) (l (.conv .u64) [x 0]<|
 l (.un .neg) [x 2]<|
.ret [x 3])<|
 l (.conv .u64) [x 0]<|
.ret [x 2]
def QB:List Hint:=[.no]
theorem QC:symF D0 100000 116 QB=some tC:=by kernel_rfl
def yc:K:=
.ret [x 20,i 0]
def tD:K:=
 l (.shape 2) [x 0]<|
 l (.shape 2) [x 1]<|
 c 210 [x 2,x 3]<|
 l oN [x 4,i 0]<|
 b (x 5) (.ret [i 0,x 4])<|
 l (.cell 0) [x 2]<|
 l oL [x 6,i 0]<|
 l (.cell 0) [x 3]<|
 l oL [x 8,i 0]<|
 l (.bbin .neq) [x 7,x 9]<|
 b (x 10) (l (.cell 0) [x 2]<|
 l (.cell 0) [x 3]<|
 c 211 [x 11,x 12]<|
.ret [x 13,i 0])<|
 l (.cell 0) [x 2]<|
 l (.cell 1) [x 3]<|
 c 213 [x 11,x 12]<|
 l (.cell 0) [x 3]<|
 l (.cell 1) [x 2]<|
 c 213 [x 14,x 15]<|
 c 212 [x 13,x 16]<|
 l (.cell 0) [x 2]<|
 l oL [x 18,i 0]<|
.jp yc<|
 b (x 19) (l (.un .neg) [x 17]<|
 j 0 [x 20])<|
 j 0 [x 17]
def QD:List Hint:=[.no,.no,(.j ⟨1,[(4,(wi 0)),(5,(wi 0)),(7,(w 20))],[],0⟩)]
theorem QE:symF D0 100000 117 QD=some tD:=by kernel_rfl
def n7:K:=
 l (.app 8 1) [.c (.sl []),i 0,x 0]<|
 l .len [x 3]<|
 l .sub [x 3,i 0,x 4]<|
.ret [x 5]
def tE:K:=
 l .len [x 0]<|
 l oE [x 1,i 0]<|
.jp n7<|
 b (x 2) (.amb (.ret [.c (.sl [])])<|
 j 0 [])<|
 j 0 []
def QF:List Hint:=[(.j ⟨0,[(0,(w 0)),(2,(.w (.c .nil)))],[],0⟩)]
theorem QG:symF D0 100000 120 QF=some tE:=by kernel_rfl
def tF:K:=
 l (.shape 11) [x 0]<|
 l (.shape 1) [x 1]<|
 l (.part 0 2) [x 3]<|
 c 123 [x 4,x 5,x 2]<|
 l (.shape 2) [x 6]<|
 c 217 [x 3,x 4,x 7]<|
 l (.shape 11) [x 9]<|
 l oN [x 10,i 0]<|
 b (x 12) (l .agg [i 0,i 0,.c (.sl []),i 0,.c (.sl []),.c (.sl []),.c (.sl []),.c (.sl []),.c (.sl []),.c (.sl []),.c (.sl []),.c (.sl []),.c (.sl [])]<|
.ret [x 13,x 10])<|
 l (.part 0 11) [x 11]<|
 l (.part 0 2) [x 8]<|
 l .agg [x 13,x 14]<|
.ret [x 15,i 0]
def QH:List Hint:=[.no]
theorem QI:symF D0 100000 122 QH=some tF:=by kernel_rfl
def yd:K:=
 l .sub [x 10,i 0,x 11]<|
.ret [x 7,x 12]
def jD:K:=
 l oA [x 12,i 1]<|
 j 1 [x 14,x 15,x 27]
def ye:K:=
 j 2 [x 35,x 36,x 14,x 15,x 16,x 17,x 18,x 24,x 25,x 26,x 32,x 33,x 34]
def yf:K:=
.jp ye<|
 b (x 34) (l oA [x 24,x 32]<|
 l oS [x 35,x 16]<|
 l .agg [x 36,x 16]<|
 l (.bs 1 [z,z] [0]) [x 37]<|
 l .sub [x 38,i 0,i 1]<|
 l (.app 16 2) [x 10,x 11,x 39]<|
 l .len [x 40]<|
 j 3 [x 40,x 41])<|
 j 3 [x 10,x 11]
def yg:K:=
 j 2 [x 38,x 39,x 14,x 15,x 16,x 17,x 18,x 24,x 25,x 26,x 35,x 36,x 37]
def yh:K:=
.jp yg<|
 b (x 37) (l oA [x 24,x 35]<|
 l oS [x 38,x 16]<|
 l .agg [x 39,x 16]<|
 l (.bs 1 [z,z] [0]) [x 40]<|
 l .sub [x 41,i 0,i 1]<|
 l (.app 16 2) [x 10,x 11,x 42]<|
 l .len [x 43]<|
 j 3 [x 43,x 44])<|
 j 3 [x 10,x 11]
def JK:K:=
 j 2 [x 38,x 39,x 14,x 15,x 16,x 17,x 18,x 27,x 28,x 29,x 35,x 36,x 37]
def JL:K:=
.jp JK<|
 b (x 37) (l oA [x 27,x 35]<|
 l oS [x 38,x 16]<|
 l .agg [x 39,x 16]<|
 l (.bs 1 [z,z] [0]) [x 40]<|
 l .sub [x 41,i 0,i 1]<|
 l (.app 16 2) [x 10,x 11,x 42]<|
 l .len [x 43]<|
 j 3 [x 43,x 44])<|
 j 3 [x 10,x 11]
def yi:K:=
 j 2 [x 41,x 42,x 14,x 15,x 16,x 17,x 18,x 27,x 28,x 29,x 38,x 39,x 40]
def rN:K:=
.jp yi<|
 b (x 40) (l oA [x 27,x 38]<|
 l oS [x 41,x 16]<|
 l .agg [x 42,x 16]<|
 l (.bs 1 [z,z] [0]) [x 43]<|
 l .sub [x 44,i 0,i 1]<|
 l (.app 16 2) [x 10,x 11,x 45]<|
 l .len [x 46]<|
 j 3 [x 46,x 47])<|
 j 3 [x 10,x 11]
def kP:K:=
 l oL [x 12,x 9]<|
 b (x 13) (.jp jD<|
 l (.cell 1) [x 7]<|
 l (.tix 1) [x 14,x 12]<|
 l (.elt 0 0) [x 14,x 15]<|
 l oM [i 2,x 12]<|
 l oA [x 17,i 1]<|
 l (.cell 1) [x 7]<|
 l .len [x 19]<|
 l oL [x 18,x 20]<|
 b (x 21) (l (.cell 1) [x 7]<|
 l (.tix 1) [x 22,x 18]<|
 l (.elt 0 0) [x 22,x 23]<|
 l oM [i 2,x 12]<|
 l oA [x 25,i 2]<|
 l (.cell 1) [x 7]<|
 l .len [x 27]<|
 l oL [x 26,x 28]<|
 b (x 29) (l (.cell 1) [x 7]<|
 l (.tix 1) [x 30,x 26]<|
 l (.elt 0 0) [x 30,x 31]<|
.jp yf<|
 l oH [x 24,i 0]<|
 b (x 33) (l oH [x 32,i 0]<|
 j 3 [x 33,x 34])<|
 j 3 [x 33,.c (.v (.bool false))])<|
 l (.cell 1) [x 7]<|
 l .len [x 30]<|
 l oS [x 26,x 31]<|
 l (.cell 0) [x 7]<|
 l (.tix 1) [x 33,x 32]<|
 l (.elt 0 0) [x 33,x 34]<|
.jp yh<|
 l oH [x 24,i 0]<|
 b (x 36) (l oH [x 35,i 0]<|
 j 3 [x 36,x 37])<|
 j 3 [x 36,.c (.v (.bool false))])<|
 l (.cell 1) [x 7]<|
 l .len [x 22]<|
 l oS [x 18,x 23]<|
 l (.cell 0) [x 7]<|
 l (.tix 1) [x 25,x 24]<|
 l (.elt 0 0) [x 25,x 26]<|
 l oM [i 2,x 12]<|
 l oA [x 28,i 2]<|
 l (.cell 1) [x 7]<|
 l .len [x 30]<|
 l oL [x 29,x 31]<|
 b (x 32) (l (.cell 1) [x 7]<|
 l (.tix 1) [x 33,x 29]<|
 l (.elt 0 0) [x 33,x 34]<|
.jp JL<|
 l oH [x 27,i 0]<|
 b (x 36) (l oH [x 35,i 0]<|
 j 3 [x 36,x 37])<|
 j 3 [x 36,.c (.v (.bool false))])<|
 l (.cell 1) [x 7]<|
 l .len [x 33]<|
 l oS [x 29,x 34]<|
 l (.cell 0) [x 7]<|
 l (.tix 1) [x 36,x 35]<|
 l (.elt 0 0) [x 36,x 37]<|
.jp rN<|
 l oH [x 27,i 0]<|
 b (x 39) (l oH [x 38,i 0]<|
 j 3 [x 39,x 40])<|
 j 3 [x 39,.c (.v (.bool false))])<|
 j 0 [x 10,x 11]
def k123:K:=
 l (.shape 1) [x 0]<|
 l (.shape 2) [x 1]<|
 c 218 [x 3,x 4,x 2]<|
 l (.shape 2) [x 5]<|
 l (.cell 1) [x 7]<|
 l .len [x 8]<|
.jp yd<|
.loop kP<|
 j 1 [.c (.sl []),i 0,i 0]
def QJ:List Hint:=[(.j ⟨2,[(11,(.w (.c (o 0 11)))),(8,(p 1 0)),(7,(.w (.c .nil))),(6,(p 2 0))],[(0,(.lst (x 10) (x 11) 2 false)),(1,(.box [(r 7 0),(r 7 1)])),(2,(.box [.nil,.nil]))],3⟩),(.j ⟨3,[(6,(p 0 0)),(7,(.w (.c .nil))),(8,(p 1 0)),(10,(.w (.c (.fn 219 [] [(.ptr 1 0)])))),(11,(.w (.c (o 2 11)))),(25,(.w (.c (r 7 1)))),(26,(w 9)),(27,(w 12))],[(0,(.box [.nil,.nil])),(1,(.box [(r 7 0),(r 7 1)])),(2,(.lst (x 10) (x 11) 2 false))],3⟩),.no,(.j ⟨13,[(11,(.w (.c (o 0 15)))),(27,(w 12)),(26,(w 9)),(25,(.w (.c (r 7 1)))),(10,(.w (.c (.fn 219 [] [(.ptr 1 0)])))),(8,(p 1 0)),(7,(.w (.c .nil))),(6,(p 2 0)),(28,(w 13)),(29,(w 12)),(30,(.w (.c (.tp (x 16) (x 17) 0)))),(31,(w 18)),(12,(w 12)),(13,(w 18)),(32,(.w (.c (.fn 219 [] [(.ptr 1 0)])))),(33,(w 12)),(34,(w 19)),(35,(w 20)),(36,(w 21)),(37,(.w (.c (.fn 219 [] [(.ptr 1 0)])))),(38,(w 12)),(39,(w 22)),(40,(w 23)),(41,(w 24)),(14,(w 21)),(15,(w 24)),(42,(w 21)),(43,(w 25)),(44,(w 25)),(47,(w 26))],[(0,(.lst (x 14) (x 15) 2 false)),(1,(.box [(r 7 0),(r 7 1)])),(2,(.box [.nil,.nil]))],3⟩),.no,.no,(.j ⟨2,[(27,(w 12)),(26,(w 9)),(25,(.w (.c (r 7 1)))),(11,(.w (.c (o 0 11)))),(10,(.w (.c (.fn 219 [] [(.ptr 1 0)])))),(8,(p 1 0)),(7,(.w (.c .nil))),(6,(p 2 0)),(28,(w 13)),(29,(w 12)),(30,(.w (.c (.tp (x 14) (x 15) 0)))),(31,(w 16)),(12,(w 12)),(13,(w 16)),(32,(.w (.c (.fn 219 [] [(.ptr 1 0)])))),(33,(w 12)),(34,(w 17)),(35,(w 18)),(36,(w 24)),(37,(.w (.c (.fn 219 [] [(.ptr 1 0)])))),(38,(w 12)),(39,(w 25)),(40,(w 26)),(41,(w 32)),(14,(w 24)),(15,(w 32)),(42,(w 24)),(43,(w 33)),(44,(w 33)),(47,(w 34))],[(0,(.lst (x 10) (x 11) 2 false)),(1,(.box [(r 7 0),(r 7 1)])),(2,(.box [.nil,.nil]))],3⟩),(.j ⟨2,[(47,(w 34)),(44,(w 33)),(43,(w 33)),(42,(w 24)),(15,(w 32)),(14,(w 24)),(41,(w 32)),(40,(w 26)),(39,(w 25)),(38,(w 12)),(37,(.w (.c (.fn 219 [] [(.ptr 0 0)])))),(36,(w 24)),(35,(w 18)),(34,(w 17)),(33,(w 12)),(32,(.w (.c (.fn 219 [] [(.ptr 0 0)])))),(13,(w 16)),(12,(w 12)),(31,(w 16)),(30,(.w (.c (.tp (x 14) (x 15) 0)))),(29,(w 12)),(28,(w 13)),(6,(p 1 0)),(7,(.w (.c .nil))),(8,(p 0 0)),(10,(.w (.c (.fn 219 [] [(.ptr 0 0)])))),(25,(.w (.c (r 7 1)))),(26,(w 9)),(27,(w 12)),(11,(.w (.c (o 2 36))))],[(0,(.box [(r 7 0),(r 7 1)])),(1,(.box [.nil,.nil])),(2,(.lst (x 35) (x 36) 2 false))],3⟩),(.j ⟨2,[(27,(w 12)),(26,(w 9)),(25,(.w (.c (r 7 1)))),(11,(.w (.c (o 0 11)))),(10,(.w (.c (.fn 219 [] [(.ptr 1 0)])))),(8,(p 1 0)),(7,(.w (.c .nil))),(6,(p 2 0)),(28,(w 13)),(29,(w 12)),(30,(.w (.c (.tp (x 14) (x 15) 0)))),(31,(w 16)),(12,(w 12)),(13,(w 16)),(32,(.w (.c (.fn 219 [] [(.ptr 1 0)])))),(33,(w 12)),(34,(w 17)),(35,(w 18)),(36,(w 24)),(37,(.w (.c (.fn 219 [] [(.ptr 1 0)])))),(38,(w 12)),(39,(w 25)),(40,(w 26)),(41,(w 35)),(14,(w 24)),(15,(w 35)),(42,(w 24)),(43,(w 36)),(44,(w 36)),(47,(w 37))],[(0,(.lst (x 10) (x 11) 2 false)),(1,(.box [(r 7 0),(r 7 1)])),(2,(.box [.nil,.nil]))],3⟩),(.j ⟨2,[(47,(w 37)),(44,(w 36)),(43,(w 36)),(42,(w 24)),(15,(w 35)),(14,(w 24)),(41,(w 35)),(40,(w 26)),(39,(w 25)),(38,(w 12)),(37,(.w (.c (.fn 219 [] [(.ptr 0 0)])))),(36,(w 24)),(35,(w 18)),(34,(w 17)),(33,(w 12)),(32,(.w (.c (.fn 219 [] [(.ptr 0 0)])))),(13,(w 16)),(12,(w 12)),(31,(w 16)),(30,(.w (.c (.tp (x 14) (x 15) 0)))),(29,(w 12)),(28,(w 13)),(6,(p 1 0)),(7,(.w (.c .nil))),(8,(p 0 0)),(10,(.w (.c (.fn 219 [] [(.ptr 0 0)])))),(25,(.w (.c (r 7 1)))),(26,(w 9)),(27,(w 12)),(11,(.w (.c (o 2 39))))],[(0,(.box [(r 7 0),(r 7 1)])),(1,(.box [.nil,.nil])),(2,(.lst (x 38) (x 39) 2 false))],3⟩),.no,(.j ⟨2,[(27,(w 12)),(26,(w 9)),(25,(.w (.c (r 7 1)))),(11,(.w (.c (o 0 11)))),(10,(.w (.c (.fn 219 [] [(.ptr 1 0)])))),(8,(p 1 0)),(7,(.w (.c .nil))),(6,(p 2 0)),(28,(w 13)),(29,(w 12)),(30,(.w (.c (.tp (x 14) (x 15) 0)))),(31,(w 16)),(12,(w 12)),(13,(w 16)),(32,(.w (.c (.fn 219 [] [(.ptr 1 0)])))),(33,(w 12)),(34,(w 17)),(35,(w 18)),(36,(w 27)),(37,(.w (.c (.fn 219 [] [(.ptr 1 0)])))),(38,(w 12)),(39,(w 28)),(40,(w 29)),(41,(w 35)),(14,(w 27)),(15,(w 35)),(42,(w 27)),(43,(w 36)),(44,(w 36)),(47,(w 37))],[(0,(.lst (x 10) (x 11) 2 false)),(1,(.box [(r 7 0),(r 7 1)])),(2,(.box [.nil,.nil]))],3⟩),(.j ⟨2,[(47,(w 37)),(44,(w 36)),(43,(w 36)),(42,(w 27)),(15,(w 35)),(14,(w 27)),(41,(w 35)),(40,(w 29)),(39,(w 28)),(38,(w 12)),(37,(.w (.c (.fn 219 [] [(.ptr 0 0)])))),(36,(w 27)),(35,(w 18)),(34,(w 17)),(33,(w 12)),(32,(.w (.c (.fn 219 [] [(.ptr 0 0)])))),(13,(w 16)),(12,(w 12)),(31,(w 16)),(30,(.w (.c (.tp (x 14) (x 15) 0)))),(29,(w 12)),(28,(w 13)),(6,(p 1 0)),(7,(.w (.c .nil))),(8,(p 0 0)),(10,(.w (.c (.fn 219 [] [(.ptr 0 0)])))),(25,(.w (.c (r 7 1)))),(26,(w 9)),(27,(w 12)),(11,(.w (.c (o 2 39))))],[(0,(.box [(r 7 0),(r 7 1)])),(1,(.box [.nil,.nil])),(2,(.lst (x 38) (x 39) 2 false))],3⟩),(.j ⟨2,[(27,(w 12)),(26,(w 9)),(25,(.w (.c (r 7 1)))),(11,(.w (.c (o 0 11)))),(10,(.w (.c (.fn 219 [] [(.ptr 1 0)])))),(8,(p 1 0)),(7,(.w (.c .nil))),(6,(p 2 0)),(28,(w 13)),(29,(w 12)),(30,(.w (.c (.tp (x 14) (x 15) 0)))),(31,(w 16)),(12,(w 12)),(13,(w 16)),(32,(.w (.c (.fn 219 [] [(.ptr 1 0)])))),(33,(w 12)),(34,(w 17)),(35,(w 18)),(36,(w 27)),(37,(.w (.c (.fn 219 [] [(.ptr 1 0)])))),(38,(w 12)),(39,(w 28)),(40,(w 29)),(41,(w 38)),(14,(w 27)),(15,(w 38)),(42,(w 27)),(43,(w 39)),(44,(w 39)),(47,(w 40))],[(0,(.lst (x 10) (x 11) 2 false)),(1,(.box [(r 7 0),(r 7 1)])),(2,(.box [.nil,.nil]))],3⟩),(.j ⟨2,[(47,(w 40)),(44,(w 39)),(43,(w 39)),(42,(w 27)),(15,(w 38)),(14,(w 27)),(41,(w 38)),(40,(w 29)),(39,(w 28)),(38,(w 12)),(37,(.w (.c (.fn 219 [] [(.ptr 0 0)])))),(36,(w 27)),(35,(w 18)),(34,(w 17)),(33,(w 12)),(32,(.w (.c (.fn 219 [] [(.ptr 0 0)])))),(13,(w 16)),(12,(w 12)),(31,(w 16)),(30,(.w (.c (.tp (x 14) (x 15) 0)))),(29,(w 12)),(28,(w 13)),(6,(p 1 0)),(7,(.w (.c .nil))),(8,(p 0 0)),(10,(.w (.c (.fn 219 [] [(.ptr 0 0)])))),(25,(.w (.c (r 7 1)))),(26,(w 9)),(27,(w 12)),(11,(.w (.c (o 2 42))))],[(0,(.box [(r 7 0),(r 7 1)])),(1,(.box [.nil,.nil])),(2,(.lst (x 41) (x 42) 2 false))],3⟩)]
theorem QK:symF D0 100000 123 QJ=some k123:=by kernel_rfl
def tG:K:=
 l (.shape 11) [x 0]<|
 l (.shape 1) [x 1]<|
 l (.part 0 2) [x 2]<|
 c 125 [x 3,x 4]<|
 l (.shape 2) [x 5]<|
 c 217 [x 2,x 3,x 6]<|
 l (.shape 11) [x 8]<|
 l oN [x 9,i 0]<|
 b (x 11) (l .agg [i 0,i 0,.c (.sl []),i 0,.c (.sl []),.c (.sl []),.c (.sl []),.c (.sl []),.c (.sl []),.c (.sl []),.c (.sl []),i 0,.c (.sl [])]<|
.ret [x 12,x 9])<|
 l (.part 0 11) [x 10]<|
 l (.part 0 2) [x 7]<|
 l .agg [x 12,x 13]<|
.ret [x 14,i 0]
def QL:List Hint:=[.no]
theorem QM:symF D0 100000 124 QL=some tG:=by kernel_rfl
def yj:K:=
 l .sub [x 17,i 0,x 18]<|
.ret [x 6,x 19]
def k125_2:K:=
 l oA [x 19,i 1]<|
 j 1 [x 27,x 28,x 29]
def n9:K:=
 l oL [x 19,x 16]<|
 b (x 20) (l (.cell 1) [x 6]<|
 l (.tix 3) [x 21,x 19]<|
 l (.elt 0 3) [x 21,x 22]<|
 l .ix [x 19,x 10]<|
 l (.elt 0 0) [x 14,x 24]<|
 l oH [x 25,i 0]<|
.jp k125_2<|
 b (x 26) (l .ix [x 19,x 10]<|
 l (.elt 0 0) [x 14,x 27]<|
 l (.cell 1) [x 6]<|
 l (.tix 3) [x 29,x 28]<|
 l (.elt 0 0) [x 29,x 30]<|
 l (.cell 0) [x 23]<|
 l .agg [x 32,x 31]<|
 l (.bs 1 [z,z] [0]) [x 33]<|
 l .sub [x 34,i 0,i 1]<|
 l (.app 16 2) [x 17,x 18,x 35]<|
 l .len [x 36]<|
 j 2 [x 36,x 37])<|
 j 2 [x 17,x 18])<|
 j 0 [x 17,x 18]
def yl:K:=
 l (.cell 1) [x 6]<|
 l .len [x 15]<|
.jp yj<|
.loop n9<|
 j 1 [.c (.sl []),i 0,i 0]
def ym:K:=
 l oA [x 15,i 1]<|
 j 1 [x 22,x 24]
def oa:K:=
 l oA [x 22,i 1]<|
 j 3 [x 26,x 27]
def ob:K:=
 l oL [x 22,i 2]<|
 b (x 23) (l (.aix 1 2 0) [x 20,x 22]<|
 l oH [x 24,i 0]<|
.jp oa<|
 b (x 25) (l .ix [x 24,x 10]<|
 l (.set 0) [x 21,x 26,x 15]<|
 j 4 [x 27])<|
 j 4 [x 21])<|
 j 2 [x 22,x 21,x 23]
def oc:K:=
 l oL [x 15,x 13]<|
 b (x 16) (l (.cell 1) [x 6]<|
 l (.tix 3) [x 17,x 15]<|
 l (.elt 0 3) [x 17,x 18]<|
 l (.part 1 2) [x 19]<|
.jp ym<|
.loop ob<|
 j 3 [x 14,i 0])<|
 j 0 [x 14]
def yn:K:=
 l (.cell 1) [x 6]<|
 l .len [x 12]<|
.jp yl<|
.loop oc<|
 j 1 [x 11,i 0]
def kQ:K:=
 l oL [x 12,x 10]<|
 b (x 13) (l .ix [x 12,x 10]<|
 l (.set 0) [x 11,x 14,i (-1)]<|
 l oA [x 12,i 1]<|
 j 1 [x 15,x 16])<|
 j 0 [x 11]
def tH:K:=
 l (.shape 1) [x 0]<|
 l (.shape 2) [x 1]<|
 c 220 [x 2,x 3]<|
 l (.shape 2) [x 4]<|
 l (.cell 1) [x 6]<|
 l .len [x 7]<|
 l (.rep [z] 8) [x 8,x 8]<|
 l .len [x 9]<|
.jp yn<|
.loop kQ<|
 j 1 [x 9,i 0]
def QN:List Hint:=[(.j ⟨1,[(8,(.w (.c (o 0 10)))),(6,(p 1 0)),(5,(.w (.c .nil))),(4,(p 2 0))],[(0,(.lst (x 11) (x 10) 1 false)),(1,(.box [(r 6 0),(r 6 1)])),(2,(.box [(.a (i 0)),.nil]))],3⟩),(.j ⟨2,[(4,(p 0 0)),(5,(.w (.c .nil))),(6,(p 1 0)),(8,(.w (.c (o 2 10)))),(28,(w 10)),(29,(w 12))],[(0,(.box [(.a (i 0)),.nil])),(1,(.box [(r 6 0),(r 6 1)])),(2,(.lst (x 11) (x 10) 1 false))],3⟩),.no,.no,(.j ⟨1,[(8,(.w (.c (o 0 10)))),(6,(p 1 0)),(5,(.w (.c .nil))),(4,(p 2 0))],[(0,(.lst (x 14) (x 10) 1 false)),(1,(.box [(r 6 0),(r 6 1)])),(2,(.box [(.a (i 0)),.nil]))],3⟩),(.j ⟨2,[(4,(p 0 0)),(5,(.w (.c .nil))),(6,(p 1 0)),(8,(.w (.c (o 2 10)))),(37,(.w (.c (r 6 1)))),(38,(w 13)),(39,(w 15))],[(0,(.box [(.a (i 0)),.nil])),(1,(.box [(r 6 0),(r 6 1)])),(2,(.lst (x 14) (x 10) 1 false))],3⟩),.no,.no,(.j ⟨3,[(49,(w 21)),(48,(v 20)),(47,(.w (.c (r 19 2)))),(46,(p 0 2)),(45,(.w (.c (r 19 1)))),(44,(p 0 1)),(10,(w 15)),(11,(p 0 0)),(43,(v 19)),(42,(.w (.c (.tp (x 17) (x 18) 0)))),(41,(w 15)),(40,(w 16)),(4,(p 1 0)),(5,(.w (.c .nil))),(6,(p 2 0)),(8,(.w (.c (o 3 10)))),(37,(.w (.c (r 6 1)))),(38,(w 13)),(39,(w 15)),(50,(w 23))],[(0,(.box (pcs (x 19) 0 3))),(1,(.box [(.a (i 0)),.nil])),(2,(.box [(r 6 0),(r 6 1)])),(3,(.lst (x 22) (x 10) 1 false))],4⟩),(.j ⟨2,[(39,(w 15)),(38,(w 13)),(37,(.w (.c (r 6 1)))),(8,(.w (.c (o 0 10)))),(6,(p 1 0)),(5,(.w (.c .nil))),(4,(p 2 0)),(40,(w 16)),(41,(w 15)),(42,(.w (.c (.tp (x 17) (x 18) 0)))),(43,(v 19)),(11,(p 3 0)),(10,(w 15)),(44,(p 3 1)),(45,(.w (.c (r 19 1)))),(46,(p 3 2)),(47,(.w (.c (r 19 2)))),(48,(v 20)),(49,(w 22))],[(0,(.lst (x 21) (x 10) 1 false)),(1,(.box [(r 6 0),(r 6 1)])),(2,(.box [(.a (i 0)),.nil])),(3,(.box (pcs (x 19) 0 3)))],4⟩),.no,.no,(.j ⟨1,[(49,(w 22)),(48,(v 20)),(47,(.w (.c (r 19 2)))),(46,(p 0 2)),(45,(.w (.c (r 19 1)))),(44,(p 0 1)),(10,(w 15)),(11,(p 0 0)),(43,(v 19)),(42,(.w (.c (.tp (x 17) (x 18) 0)))),(41,(w 15)),(40,(w 16)),(4,(p 1 0)),(5,(.w (.c .nil))),(6,(p 2 0)),(8,(.w (.c (o 3 10)))),(37,(.w (.c (r 6 1)))),(38,(w 13)),(39,(w 15)),(50,(w 23)),(51,(w 24)),(13,(w 24)),(52,(w 24)),(53,(w 25))],[(0,(.box (pcs (x 19) 0 3))),(1,(.box [(.a (i 0)),.nil])),(2,(.box [(r 6 0),(r 6 1)])),(3,(.lst (x 26) (x 10) 1 false))],4⟩),(.j ⟨2,[(14,(.w (.c (o 0 18)))),(6,(p 1 0)),(5,(.w (.c .nil))),(4,(p 2 0))],[(0,(.lst (x 17) (x 18) 2 false)),(1,(.box [(r 6 0),(r 6 1)])),(2,(.box [(.a (i 0)),.nil]))],3⟩),(.j ⟨3,[(4,(p 0 0)),(5,(.w (.c .nil))),(6,(p 1 0)),(8,(.w (.c (o 2 10)))),(14,(.w (.c (o 3 18)))),(61,(.w (.c (r 6 1)))),(62,(w 16)),(63,(w 19))],[(0,(.box [(.a (i 0)),.nil])),(1,(.box [(r 6 0),(r 6 1)])),(2,(.lst (x 14) (x 10) 1 false)),(3,(.lst (x 17) (x 18) 2 false))],4⟩),.no,.no,(.j ⟨2,[(63,(w 19)),(62,(w 16)),(61,(.w (.c (r 6 1)))),(8,(.w (.c (o 0 10)))),(6,(p 1 0)),(5,(.w (.c .nil))),(4,(p 2 0)),(64,(w 20)),(65,(w 19)),(66,(.w (.c (.tp (x 21) (x 22) 0)))),(67,(v 23)),(16,(p 3 0)),(15,(w 19)),(68,(.w (.c (o 0 10)))),(69,(w 19)),(70,(.w (.c (.ep 0 (x 24) 0)))),(71,(w 25)),(72,(w 26)),(14,(.w (.c (o 4 28))))],[(0,(.lst (x 14) (x 10) 1 false)),(1,(.box [(r 6 0),(r 6 1)])),(2,(.box [(.a (i 0)),.nil])),(3,(.box (pcs (x 23) 0 3))),(4,(.lst (x 27) (x 28) 2 false))],5⟩)]
theorem QO:symF D0 100000 125 QN=some tH:=by kernel_rfl
def tI:K:=
 l (.shape 11) [x 0]<|
 l (.shape 1) [x 1]<|
 l (.part 0 2) [x 2]<|
 c 127 [x 3,x 4]<|
 c 217 [x 2,x 3,x 6]<|
 l (.shape 11) [x 7]<|
 l oN [x 8,i 0]<|
 b (x 10) (l .agg [i 0,i 0,.c (.sl []),i 0,.c (.sl []),.c (.sl []),.c (.sl []),.c (.sl []),.c (.sl []),.c (.sl []),.c (.sl []),.c (.sl [])]<|
.ret [x 11,x 8])<|
 l (.part 0 11) [x 9]<|
 l .agg [x 11,x 5]<|
.ret [x 12,i 0]
def QP:List Hint:=[.no]
theorem QQ:symF D0 100000 126 QP=some tI:=by kernel_rfl
def yp:K:=
 l .sub [x 10,i 0,x 11]<|
 l .sub [x 8,i 0,x 9]<|
.ret [x 12,x 13]
def od:K:=
 l oA [x 12,i 1]<|
 j 1 [x 21,x 22,x 26,x 27,x 28]
def oe:K:=
 l oL [x 12,x 7]<|
 b (x 13) (l (.cell 0) [x 2]<|
 l (.tix 3) [x 14,x 12]<|
 l (.elt 0 3) [x 14,x 15]<|
 l (.cell 0) [x 16]<|
 l (.mget [.i] [z]) [x 5,x 17]<|
 l (.bs 1 [z] [0]) [x 18]<|
 l .sub [x 19,i 0,i 1]<|
 l (.app 8 1) [x 8,x 9,x 20]<|
 l .len [x 21]<|
 l (.cell 0) [x 16]<|
 l (.mget [.i] [z]) [x 5,x 23]<|
 l oH [x 24,i 0]<|
.jp od<|
 b (x 25) (l (.cell 0) [x 16]<|
 l (.mget [.i] [z]) [x 5,x 26]<|
 l (.cell 0) [x 16]<|
 l .agg [x 28,x 27]<|
 l (.bs 1 [z,z] [0]) [x 29]<|
 l .sub [x 30,i 0,i 1]<|
 l (.app 16 2) [x 10,x 11,x 31]<|
 l .len [x 32]<|
 j 2 [x 32,x 33])<|
 j 2 [x 10,x 11])<|
 j 0 [x 10,x 11,x 8,x 9]
def tJ:K:=
 l (.shape 1) [x 0]<|
 l (.shape 2) [x 1]<|
 l (.cell 0) [x 2]<|
 c 221 [x 4,x 3,i (-1),i 0,.c (.sl []),.c (.sl [])]<|
 l (.cell 0) [x 2]<|
 l .len [x 6]<|
.jp yp<|
.loop oe<|
 j 1 [.c (.sl []),i 0,.c (.sl []),i 0,i 0]
def QR:List Hint:=[(.j ⟨4,[(8,(.w (.c (o 0 9)))),(7,(.w (.c (o 1 11)))),(5,(.w (.c .nil))),(4,(.w (.c .nil)))],[(0,(.lst (x 8) (x 9) 2 false)),(1,(.lst (x 10) (x 11) 1 false))],2⟩),(.j ⟨5,[(4,(.w (.c .nil))),(5,(.w (.c .nil))),(6,(.w (.c (.mp 0)))),(7,(.w (.c (o 1 9)))),(8,(.w (.c (o 2 11)))),(18,(.w (.c (r 2 0)))),(19,(w 7)),(20,(w 12))],[(0,(.map (x 5) false 1 false)),(1,(.lst (x 8) (x 9) 1 false)),(2,(.lst (x 10) (x 11) 2 false))],3⟩),.no,.no,(.j ⟨2,[(20,(w 12)),(19,(w 7)),(18,(.w (.c (r 2 0)))),(6,(.w (.c (.mp 0)))),(5,(.w (.c .nil))),(4,(.w (.c .nil))),(21,(w 13)),(22,(.w (.c (.tp (x 14) (x 15) 0)))),(23,(v 16)),(10,(p 1 0)),(25,(.w (.c (.mp 0)))),(26,(p 1 0)),(27,(.w (.c (r 16 0)))),(28,(w 18)),(29,(.w (.c (.lsl 2 (i 0) (i 1))))),(30,(.w (.c (o 3 22)))),(7,(.w (.c (o 3 22)))),(31,(.w (.c (.mp 0)))),(32,(p 1 0)),(33,(.w (.c (r 16 0)))),(34,(w 24)),(35,(w 25)),(8,(.w (.c (o 4 27))))],[(0,(.map (x 5) false 1 false)),(1,(.box (pcs (x 16) 0 3))),(2,(.lst (x 19) (i 1) 1 false)),(3,(.lst (x 21) (x 22) 1 false)),(4,(.lst (x 26) (x 27) 2 false))],5⟩)]
theorem QS:symF D0 100000 127 QR=some tJ:=by kernel_rfl
def tK:K:=
 l (.shape 2) [x 0]<|
 l (.cell 1) [x 1]<|
 l oL [x 2,i 1]<|
 b (x 3) (.ret [i 8])<|
 l (.cell 0) [x 1]<|
 l oE [x 4,i (-9223372036854775808)]<|
 b (x 5) (.ret [i 8])<|
 l (.cell 0) [x 1]<|
 c 223 [x 6]<|
 l (.cell 1) [x 1]<|
 l (.conv .u64) [x 8]<|
 c 222 [x 7,x 9]<|
 l oN [x 10,.c (.v (.int .u64 1))]<|
 b (x 11) (.ret [i 8])<|
.ret [i 0]
def QT:List Hint:=[.no,.no]
theorem QU:symF D0 100000 128 QT=some tK:=by kernel_rfl
def yq:K:=
.ret [.c (.v (.bool true))]
def og:K:=
 l (.cell 10) [x 2]<|
 l .len [x 26]<|
 l oL [x 25,x 27]<|
 b (x 28) (l (.cell 10) [x 2]<|
 l (.tix 3) [x 29,x 25]<|
 l (.elt 0 3) [x 29,x 30]<|
 l (.cell 10) [x 3]<|
 l (.tix 3) [x 32,x 25]<|
 l (.elt 0 3) [x 32,x 33]<|
 l (.eqv [.i,.i,.i]) [x 31,x 34]<|
 l (.un .not) [x 35]<|
 b (x 36) (.ret [.c (.v (.bool false))])<|
 l oA [x 25,i 1]<|
 j 1 [x 37])<|
 j 0 []
def k134:K:=
 l (.shape 11) [x 0]<|
 l (.shape 11) [x 1]<|
 l (.part 0 2) [x 2]<|
 l (.part 0 2) [x 3]<|
 l (.eqv [.i,.i]) [x 4,x 5]<|
 l (.un .not) [x 6]<|
 b (x 7) (.ret [.c (.v (.bool false))])<|
 l (.part 2 1) [x 2]<|
 l (.part 2 1) [x 3]<|
 c 28 [x 8,x 9]<|
 l (.un .not) [x 10]<|
 b (x 11) (.ret [.c (.v (.bool false))])<|
 l (.part 3 2) [x 2]<|
 l (.part 3 2) [x 3]<|
 c 229 [x 12,x 13]<|
 l (.un .not) [x 14]<|
 b (x 15) (.ret [.c (.v (.bool false))])<|
 l (.part 5 5) [x 2]<|
 l (.part 5 5) [x 3]<|
 c 230 [x 16,x 17]<|
 l (.un .not) [x 18]<|
 b (x 19) (.ret [.c (.v (.bool false))])<|
 l (.cell 10) [x 2]<|
 l .len [x 20]<|
 l (.cell 10) [x 3]<|
 l .len [x 22]<|
 l oN [x 21,x 23]<|
 b (x 24) (.ret [.c (.v (.bool false))])<|
.jp yq<|
.loop og<|
 j 1 [i 0]
def QV:List Hint:=[.no,.no,(.j ⟨0,[(4,(.w (.c (.a (.c (.v (.bool false)))))))],[],0⟩),(.j ⟨1,[(2,(p 0 0)),(3,(p 1 0)),(4,(.w (.c (.a (.c (.v (.bool false))))))),(5,(w 25))],[(0,(.box (pcs (x 2) 0 11))),(1,(.box (pcs (x 3) 0 11)))],2⟩),.no,.no,.no]
theorem QW:symF D0 100000 134 QV=some k134:=by kernel_rfl
def yr:K:=
.ret [.c (.v (.bool true))]
def oh:K:=
 l .len [x 0]<|
 l oL [x 5,x 6]<|
 b (x 7) (l (.tix 1) [x 0,x 5]<|
 l (.elt 0 0) [x 0,x 8]<|
 l (.tix 1) [x 1,x 5]<|
 l (.elt 0 0) [x 1,x 10]<|
 l oN [x 9,x 11]<|
 b (x 12) (.ret [.c (.v (.bool false))])<|
 l oA [x 5,i 1]<|
 j 1 [x 13])<|
 j 0 []
def k135:K:=
 l .len [x 0]<|
 l .len [x 1]<|
 l oN [x 2,x 3]<|
 b (x 4) (.ret [.c (.v (.bool false))])<|
.jp yr<|
.loop oh<|
 j 1 [i 0]
def QX:List Hint:=[.no,(.j ⟨0,[(4,(.w (.c (.a (.c (.v (.bool false)))))))],[],0⟩),(.j ⟨1,[(1,(w 1)),(0,(w 0)),(4,(.w (.c (.a (.c (.v (.bool false))))))),(5,(w 5))],[],0⟩),.no,.no,.no]
theorem QY:symF D0 100000 135 QX=some k135:=by kernel_rfl
def yu:K:=
.ret [x 4]
def tL:K:=
 l (.shape 2) [x 0]<|
 l (.shape 2) [x 1]<|
.jp yu<|
 l (.cell 0) [x 2]<|
 l (.cell 0) [x 3]<|
 c 135 [x 4,x 5]<|
 b (x 6) (l (.cell 1) [x 2]<|
 l (.cell 1) [x 3]<|
 c 135 [x 7,x 8]<|
 j 0 [x 9])<|
 j 0 [.c (.v (.bool false))]
def QZ:List Hint:=[(.j ⟨1,[(4,(w 4))],[],0⟩)]
theorem Q0:symF D0 100000 136 QZ=some tL:=by kernel_rfl
def yw:K:=
.ret [.c (.v (.bool true))]
def oj:K:=
 l (.cell 1) [x 2]<|
 l .len [x 13]<|
 l oL [x 12,x 14]<|
 b (x 15) (l (.cell 1) [x 2]<|
 l (.tix 3) [x 16,x 12]<|
 l (.elt 0 3) [x 16,x 17]<|
 l (.cell 1) [x 3]<|
 l (.tix 3) [x 19,x 12]<|
 l (.elt 0 3) [x 19,x 20]<|
 l (.eqv [.i,.i,.i]) [x 18,x 21]<|
 l (.un .not) [x 22]<|
 b (x 23) (.ret [.c (.v (.bool false))])<|
 l oA [x 12,i 1]<|
 j 1 [x 24])<|
 j 0 []
def tM:K:=
 l (.shape 2) [x 0]<|
 l (.shape 2) [x 1]<|
 l (.cell 0) [x 2]<|
 l (.cell 0) [x 3]<|
 l oN [x 4,x 5]<|
 b (x 6) (.ret [.c (.v (.bool false))])<|
 l (.cell 1) [x 2]<|
 l .len [x 7]<|
 l (.cell 1) [x 3]<|
 l .len [x 9]<|
 l oN [x 8,x 10]<|
 b (x 11) (.ret [.c (.v (.bool false))])<|
.jp yw<|
.loop oj<|
 j 1 [i 0]
def Q1:List Hint:=[.no,.no,(.j ⟨0,[(4,(.w (.c (.a (.c (.v (.bool false)))))))],[],0⟩),(.j ⟨1,[(2,(p 0 0)),(3,(p 1 0)),(4,(.w (.c (.a (.c (.v (.bool false))))))),(5,(w 12))],[(0,(.box [(r 2 0),(r 2 1)])),(1,(.box [(r 3 0),(r 3 1)]))],2⟩),.no,.no,.no]
theorem Q2:symF D0 100000 137 Q1=some tM:=by kernel_rfl
def ol:K:=
 l (.shape 1) [x 0]<|
 l (.shape 2) [x 1]<|
 c 231 [x 2]<|
 l oN [x 4,i 0]<|
 b (x 5) (l .agg [i 0,i 0,.c (.sl []),i 0,.c (.sl []),.c (.sl []),.c (.sl []),.c (.sl []),.c (.sl []),.c (.sl []),.c (.sl [])]<|
.ret [x 6,x 4])<|
 c 43 [x 3]<|
 l oN [x 6,i 0]<|
 b (x 7) (l .agg [i 0,i 0,.c (.sl []),i 0,.c (.sl []),.c (.sl []),.c (.sl []),.c (.sl []),.c (.sl []),.c (.sl []),.c (.sl [])]<|
.ret [x 8,x 6])<|
 c 232 [i 200]<|
 l (.shape 5) [x 8]<|
 l (.cell 0) [x 2]<|
 c 67 [x 11]<|
 l .len [x 12]<|
 l (.part 0 2) [x 3]<|
 l .sub [x 12,i 0,x 13]<|
 l (.part 0 5) [x 10]<|
 l .agg [x 14,x 15,i 0,.c (.sl []),x 16,.c (.sl [])]<|
.ret [x 17,x 9]
def Q3:List Hint:=[.no,.no]
theorem Q4:symF D0 100000 138 Q3=some ol:=by kernel_rfl
def yx:K:=
 l .agg [x 34,x 35,x 36,x 37,x 38,x 39,x 40,x 41,x 42,x 43,x 44]<|
.ret [x 45,i 0]
def yy:K:=
 l oA [x 46,i 1]<|
 j 1 [x 59,x 48,x 49,x 50,x 51,x 52,x 53,x 54,x 55,x 56,x 57,x 58,x 65]
def yz:K:=
 l oH [i (-1),i 0]<|
 b (x 51) (l (.cell 0) [x 49]<|
 l (.cell 1) [x 49]<|
 j 2 [x 35,x 36,x 37,x 38,x 39,x 40,x 41,x 42,x 43,x 44,x 45,x 34,x 48,x 49,x 52,x 53,x 51])<|
 l .agg [x 35,x 36,x 37,x 38,x 39,x 40,x 41,x 42,x 43,x 44,x 45]<|
 c 238 [x 52,x 49]<|
 l (.shape 11) [x 53]<|
 l oN [x 55,i 0]<|
 b (x 57) (l .agg [i 0,i 0,.c (.sl []),i 0,.c (.sl []),.c (.sl []),.c (.sl []),.c (.sl []),.c (.sl []),.c (.sl []),.c (.sl [])]<|
.ret [x 58,x 55])<|
 l (.cell 0) [x 56]<|
 l (.cell 1) [x 56]<|
 l (.cell 2) [x 56]<|
 l (.cell 3) [x 56]<|
 l (.cell 4) [x 56]<|
 l (.cell 5) [x 56]<|
 l (.cell 6) [x 56]<|
 l (.cell 7) [x 56]<|
 l (.cell 8) [x 56]<|
 l (.cell 9) [x 56]<|
 l (.cell 10) [x 56]<|
 l (.cell 0) [x 49]<|
 l (.cell 1) [x 49]<|
 j 2 [x 58,x 59,x 60,x 61,x 62,x 63,x 64,x 65,x 66,x 67,x 68,x 55,x 48,x 49,x 69,x 70,x 51]
def om:K:=
 l oL [x 51,x 50]<|
 b (x 52) (l (.tix 3) [x 39,x 51]<|
 l (.elt 0 3) [x 39,x 53]<|
 l (.part 1 2) [x 54]<|
 l (.eqv [.i,.i]) [x 55,x 49]<|
 b (x 56) (l oH [x 51,i 0]<|
 b (x 57) (l (.cell 0) [x 49]<|
 l (.cell 1) [x 49]<|
 j 2 [x 35,x 36,x 37,x 38,x 39,x 40,x 41,x 42,x 43,x 44,x 45,x 34,x 48,x 49,x 58,x 59,x 57])<|
 l .agg [x 35,x 36,x 37,x 38,x 39,x 40,x 41,x 42,x 43,x 44,x 45]<|
 c 238 [x 58,x 49]<|
 l (.shape 11) [x 59]<|
 l oN [x 61,i 0]<|
 b (x 63) (l .agg [i 0,i 0,.c (.sl []),i 0,.c (.sl []),.c (.sl []),.c (.sl []),.c (.sl []),.c (.sl []),.c (.sl []),.c (.sl [])]<|
.ret [x 64,x 61])<|
 l (.cell 0) [x 62]<|
 l (.cell 1) [x 62]<|
 l (.cell 2) [x 62]<|
 l (.cell 3) [x 62]<|
 l (.cell 4) [x 62]<|
 l (.cell 5) [x 62]<|
 l (.cell 6) [x 62]<|
 l (.cell 7) [x 62]<|
 l (.cell 8) [x 62]<|
 l (.cell 9) [x 62]<|
 l (.cell 10) [x 62]<|
 l (.cell 0) [x 49]<|
 l (.cell 1) [x 49]<|
 j 2 [x 64,x 65,x 66,x 67,x 68,x 69,x 70,x 71,x 72,x 73,x 74,x 61,x 48,x 49,x 75,x 76,x 57])<|
 l oA [x 51,i 1]<|
 j 4 [x 57])<|
 j 3 []
def jE:K:=
 l oL [x 46,x 33]<|
 b (x 47) (.jp yy<|
 l (.tix 2) [x 2,x 46]<|
 l (.elt 0 2) [x 2,x 48]<|
 l .len [x 39]<|
.jp yz<|
.loop om<|
 j 4 [i 0])<|
 j 0 [x 35,x 36,x 37,x 38,x 39,x 40,x 41,x 42,x 43,x 44,x 45]
def yA:K:=
 l .len [x 2]<|
.jp yx<|
.loop jE<|
 j 1 [x 32,x 21,x 22,x 23,x 24,x 25,x 26,x 27,x 28,x 29,x 30,x 31,i 0]
def yB:K:=
 l (.cell 0) [x 4]<|
 c 234 [x 9,x 18]<|
 l (.un .not) [x 19]<|
.jp yA<|
 b (x 20) (l .agg [x 7,x 8,x 9,x 10,x 11,x 12,x 13,x 14,x 15,x 16,x 17]<|
 c 235 [x 21,x 4]<|
 l (.shape 11) [x 22]<|
 l oN [x 23,i 0]<|
 b (x 25) (l .agg [i 0,i 0,.c (.sl []),i 0,.c (.sl []),.c (.sl []),.c (.sl []),.c (.sl []),.c (.sl []),.c (.sl []),.c (.sl [])]<|
.ret [x 26,x 23])<|
 l (.cell 0) [x 24]<|
 l (.cell 1) [x 24]<|
 l (.cell 2) [x 24]<|
 l (.cell 3) [x 24]<|
 l (.cell 4) [x 24]<|
 l (.cell 5) [x 24]<|
 l (.cell 6) [x 24]<|
 l (.cell 7) [x 24]<|
 l (.cell 8) [x 24]<|
 l (.cell 9) [x 24]<|
 l (.cell 10) [x 24]<|
 j 0 [x 26,x 27,x 28,x 29,x 30,x 31,x 32,x 33,x 34,x 35,x 36,x 23])<|
 j 0 [x 7,x 8,x 9,x 10,x 11,x 12,x 13,x 14,x 15,x 16,x 17,i 0]
def JM:K:=
 l oA [x 18,i 1]<|
 j 1 [x 26,x 27,x 28,x 29,x 30,x 31,x 32,x 33,x 34,x 35,x 36,x 37]
def yC:K:=
 l oL [x 18,x 6]<|
 b (x 19) (l (.cell 4) [x 3]<|
 l (.tix 3) [x 20,x 18]<|
 l (.elt 0 3) [x 20,x 21]<|
 l (.part 1 2) [x 22]<|
 c 155 [x 2,x 23]<|
 l (.un .not) [x 24]<|
.jp JM<|
 b (x 25) (l .agg [x 7,x 8,x 9,x 10,x 11,x 12,x 13,x 14,x 15,x 16,x 17]<|
 l (.cell 0) [x 22]<|
 c 233 [x 26,x 27]<|
 l (.shape 11) [x 28]<|
 l (.cell 0) [x 30]<|
 l (.cell 1) [x 30]<|
 l (.cell 2) [x 30]<|
 l (.cell 3) [x 30]<|
 l (.cell 4) [x 30]<|
 l (.cell 5) [x 30]<|
 l (.cell 6) [x 30]<|
 l (.cell 7) [x 30]<|
 l (.cell 8) [x 30]<|
 l (.cell 9) [x 30]<|
 l (.cell 10) [x 30]<|
 j 2 [x 31,x 32,x 33,x 34,x 35,x 36,x 37,x 38,x 39,x 40,x 41])<|
 j 2 [x 7,x 8,x 9,x 10,x 11,x 12,x 13,x 14,x 15,x 16,x 17])<|
 j 0 [x 7,x 8,x 9,x 10,x 11,x 12,x 13,x 14,x 15,x 16,x 17]
def tN:K:=
 l (.shape 11) [x 0]<|
 l (.shape 1) [x 1]<|
 l (.cell 4) [x 3]<|
 l .len [x 5]<|
.jp yB<|
.loop yC<|
 l (.cell 0) [x 3]<|
 l (.cell 1) [x 3]<|
 l (.cell 2) [x 3]<|
 l (.cell 3) [x 3]<|
 l (.cell 4) [x 3]<|
 l (.cell 5) [x 3]<|
 l (.cell 6) [x 3]<|
 l (.cell 7) [x 3]<|
 l (.cell 8) [x 3]<|
 l (.cell 9) [x 3]<|
 l (.cell 10) [x 3]<|
 j 1 [x 7,x 8,x 9,x 10,x 11,x 12,x 13,x 14,x 15,x 16,x 17,i 0]
def Q5:List Hint:=[(.j ⟨11,[(7,(wi 0)),(6,(p 0 0)),(4,(p 1 0)),(3,(p 2 0)),(2,(w 2))],[(0,(.box [(.a (i 0)),(.a (i 0)),.nil,(.a (i 0)),.nil,.nil,.nil,.nil,.nil,.nil,.nil])),(1,(.box [(r 4 0)])),(2,(.box [(a 7),(a 8),(a 9),(a 10),(a 11),(a 12),(a 13),(a 14),(a 15),(a 16),(a 17)]))],3⟩),(.j ⟨12,[(2,(w 2)),(3,(p 0 0)),(4,(p 1 0)),(6,(p 2 0)),(7,(wi 0)),(15,(.w (.c (r 3 4)))),(16,(w 6)),(17,(w 18))],[(0,(.box [(a 7),(a 8),(a 9),(a 10),(a 11),(a 12),(a 13),(a 14),(a 15),(a 16),(a 17)])),(1,(.box [(r 4 0)])),(2,(.box [(.a (i 0)),(.a (i 0)),.nil,(.a (i 0)),.nil,.nil,.nil,.nil,.nil,.nil,.nil]))],3⟩),.no,.no,(.j ⟨11,[(17,(w 18)),(16,(w 6)),(15,(.w (.c (r 3 4)))),(7,(wi 0)),(6,(p 0 0)),(4,(p 1 0)),(3,(p 2 0)),(2,(w 2)),(18,(w 19)),(19,(.w (.c (.tp (x 20) (x 21) 0)))),(20,(v 22)),(9,(p 3 0)),(21,(w 2)),(22,(p 3 1)),(23,(v 23)),(24,(w 24)),(25,(w 25))],[(0,(.box [(.a (i 0)),(.a (i 0)),.nil,(.a (i 0)),.nil,.nil,.nil,.nil,.nil,.nil,.nil])),(1,(.box [(r 4 0)])),(2,(.box [(a 26),(a 27),(a 28),(a 29),(a 30),(a 31),(a 32),(a 33),(a 34),(a 35),(a 36)])),(3,(.box (pcs (x 22) 0 3)))],4⟩),(.j ⟨12,[(2,(w 2)),(3,(p 0 0)),(6,(p 1 0)),(7,(wi 0)),(10,(w 32))],[(0,(.box [(a 21),(a 22),(a 23),(a 24),(a 25),(a 26),(a 27),(a 28),(a 29),(a 30),(a 31)])),(1,(.box [(.a (i 0)),(.a (i 0)),.nil,(.a (i 0)),.nil,.nil,.nil,.nil,.nil,.nil,.nil]))],2⟩),.no,(.j ⟨11,[(3,(p 0 0)),(6,(p 1 0)),(7,(wi 0))],[(0,(.box [(a 34),(a 35),(a 36),(a 37),(a 38),(a 39),(a 40),(a 41),(a 42),(a 43),(a 44)])),(1,(.box [(.a (i 0)),(.a (i 0)),.nil,(.a (i 0)),.nil,.nil,.nil,.nil,.nil,.nil,.nil]))],2⟩),(.j ⟨13,[(10,(w 34)),(7,(wi 0)),(6,(p 0 0)),(3,(p 1 0)),(51,(w 2)),(52,(w 33)),(53,(w 46))],[(0,(.box [(.a (i 0)),(.a (i 0)),.nil,(.a (i 0)),.nil,.nil,.nil,.nil,.nil,.nil,.nil])),(1,(.box [(a 35),(a 36),(a 37),(a 38),(a 39),(a 40),(a 41),(a 42),(a 43),(a 44),(a 45)]))],2⟩),.no,(.j ⟨17,[(53,(w 46)),(52,(w 33)),(51,(w 2)),(3,(p 0 0)),(6,(p 1 0)),(7,(wi 0)),(10,(w 59)),(54,(w 47)),(55,(.w (.c (.tp (x 2) (x 60) 0)))),(56,(v 61)),(12,(p 2 0)),(57,(p 0 3)),(58,(p 0 4)),(59,(w 39)),(60,(.w (.c (.fn 237 [] [(.ptr 2 0)])))),(61,(w 64))],[(0,(.box [(a 48),(a 49),(a 50),(a 51),(a 52),(a 53),(a 54),(a 55),(a 56),(a 57),(a 58)])),(1,(.box [(.a (i 0)),(.a (i 0)),.nil,(.a (i 0)),.nil,.nil,.nil,.nil,.nil,.nil,.nil])),(2,(.box [(a 62),(a 63)]))],3⟩),(.j ⟨0,[(4,(wi 0))],[(0,(.box [(.a (i 0)),(.a (i 0)),.nil,(.a (i 0)),.nil,.nil,.nil,.nil,.nil,.nil,.nil])),(1,(.box [(a 35),(a 36),(a 37),(a 38),(a 39),(a 40),(a 41),(a 42),(a 43),(a 44),(a 45)])),(2,(.box [(r 49 0),(r 49 1)]))],3⟩),(.j ⟨1,[(1,(.w (.c (.fn 237 [] [(.ptr 2 0)])))),(0,(w 39)),(4,(wi 0)),(7,(w 50)),(8,(w 51))],[(0,(.box [(.a (i 0)),(.a (i 0)),.nil,(.a (i 0)),.nil,.nil,.nil,.nil,.nil,.nil,.nil])),(1,(.box [(a 35),(a 36),(a 37),(a 38),(a 39),(a 40),(a 41),(a 42),(a 43),(a 44),(a 45)])),(2,(.box [(r 49 0),(r 49 1)]))],3⟩),.no,.no,.no,.no,.no,.no,.no]
theorem Q6:symF D0 100000 140 Q5=some tN:=by kernel_rfl
def yD:K:=
 l .sub [x 1,i 0,x 2]<|
.ret [x 3]
def oo:K:=
 l .len [x 0]<|
 l oL [x 3,x 4]<|
 b (x 5) (l (.tix 1) [x 0,x 3]<|
 l (.elt 0 0) [x 0,x 6]<|
 l oS [x 3,i 1]<|
 l (.bin .quo) [x 8,i 2]<|
 l (.tix 1) [x 0,x 9]<|
 l (.elt 0 0) [x 0,x 10]<|
 l .agg [x 7,x 11]<|
 l (.bs 1 [z,z] [0]) [x 12]<|
 l .sub [x 13,i 0,i 1]<|
 l (.app 16 2) [x 1,x 2,x 14]<|
 l .len [x 15]<|
 l oA [x 3,i 1]<|
 j 1 [x 15,x 16,x 17])<|
 j 0 [x 1,x 2]
def k141:K:=
.jp yD<|
.loop oo<|
 j 1 [.c (.sl []),i 0,i 1]
def Q7:List Hint:=[(.j ⟨2,[(3,(.w (.c (o 0 2)))),(2,(.w (.c .nil)))],[(0,(.lst (x 1) (x 2) 2 false))],1⟩),(.j ⟨3,[(0,(w 0)),(2,(.w (.c .nil))),(3,(.w (.c (o 0 2)))),(4,(w 3))],[(0,(.lst (x 1) (x 2) 2 false))],1⟩),.no,.no]
theorem Q8:symF D0 100000 141 Q7=some k141:=by kernel_rfl
def k142_1:K:=
 l .sub [x 9,i 0,x 6]<|
.ret [x 10]
def k142_2:K:=
 l oL [x 10,x 8]<|
 b (x 11) (l (.cell 0) [x 1]<|
 l (.tix 3) [x 12,x 10]<|
 l (.elt 0 3) [x 12,x 13]<|
 l .ix [x 10,x 6]<|
 l (.cell 0) [x 14]<|
 l (.set 0) [x 9,x 15,x 16]<|
 l oA [x 10,i 1]<|
 j 1 [x 17,x 18])<|
 j 0 [x 9]
def k142_3:K:=
 l (.bs 1 [z] [0]) [i (-1)]<|
 l .sub [x 3,i 0,i 1]<|
 c 184 [x 4,x 2]<|
 l .len [x 5]<|
 l (.cell 0) [x 1]<|
 l .len [x 7]<|
.jp k142_1<|
.loop k142_2<|
 j 1 [x 5,i 0]
def k142_4:K:=
 l (.cell 0) [x 1]<|
 l .len [x 3]<|
 l oL [x 2,x 4]<|
 b (x 5) (l oM [x 2,i 2]<|
 j 1 [x 6])<|
 j 0 [x 2]
def tO:K:=
 l (.shape 1) [x 0]<|
.jp k142_3<|
.loop k142_4<|
 j 1 [i 1]
def Q9:List Hint:=[(.j ⟨1,[(3,(w 2)),(2,(.w (.c .nil))),(1,(p 0 0))],[(0,(.box [(r 1 0)]))],1⟩),(.j ⟨1,[(1,(p 0 0)),(2,(.w (.c .nil))),(3,(w 2))],[(0,(.box [(r 1 0)]))],1⟩),.no,.no,(.j ⟨1,[(4,(.w (.c (o 0 6)))),(2,(.w (.c .nil)))],[(0,(.lst (x 9) (x 6) 1 false))],1⟩),(.j ⟨2,[(2,(.w (.c .nil))),(4,(.w (.c (o 0 6)))),(18,(.w (.c (r 1 0)))),(19,(w 8)),(20,(w 10))],[(0,(.lst (x 9) (x 6) 1 false))],1⟩),.no,.no]
theorem Ra:symF D0 100000 142 Q9=some tO:=by kernel_rfl
def yE:K:=
.ret [i 0]
def oq:K:=
 l (.cell 0) [x 1]<|
 l .len [x 6]<|
 l oL [x 5,x 7]<|
 b (x 8) (l oS [x 5,i 1]<|
 l (.cell 0) [x 1]<|
 l (.tix 3) [x 10,x 9]<|
 l (.elt 0 0) [x 10,x 11]<|
 l (.cell 0) [x 1]<|
 l (.tix 3) [x 13,x 5]<|
 l (.elt 0 0) [x 13,x 14]<|
 l oH [x 12,x 15]<|
 b (x 16) (.ret [i 32])<|
 l oA [x 5,i 1]<|
 j 1 [x 17])<|
 j 0 []
def yF:K:=
.jp yE<|
.loop oq<|
 j 1 [i 1]
def ot:K:=
 l (.cell 0) [x 1]<|
 l .len [x 6]<|
 l oL [x 5,x 7]<|
 b (x 8) (l (.cell 0) [x 1]<|
 l (.tix 3) [x 9,x 5]<|
 l (.elt 0 3) [x 9,x 10]<|
 c 239 [x 11]<|
 l oN [x 12,i 0]<|
 b (x 13) (.ret [i 8])<|
 l oA [x 5,i 1]<|
 j 1 [x 14])<|
 j 0 []
def tP:K:=
 l (.shape 1) [x 0]<|
 l (.cell 0) [x 1]<|
 l .len [x 2]<|
 l oG [x 3,i 64]<|
 b (x 4) (.ret [i 4])<|
.jp yF<|
.loop ot<|
 j 1 [i 0]
def Rb:List Hint:=[.no,(.j ⟨0,[(2,(wi 0)),(1,(p 0 0))],[(0,(.box [(r 1 0)]))],1⟩),(.j ⟨1,[(1,(p 0 0)),(2,(wi 0)),(3,(w 5))],[(0,(.box [(r 1 0)]))],1⟩),.no,.no,.no,(.j ⟨0,[(2,(wi 0))],[],0⟩),(.j ⟨1,[(1,(p 0 0)),(2,(wi 0)),(4,(w 5))],[(0,(.box [(r 1 0)]))],1⟩),.no,.no,.no]
theorem Rc:symF D0 100000 143 Rb=some tP:=by kernel_rfl
def yG:K:=
 c 146 [x 2,x 3]<|
 c 170 [x 4]<|
 c 227 [x 5,x 2,x 6]<|
 l (.shape 11) [x 7]<|
 l (.part 0 11) [x 9]<|
 l (.part 0 11) [x 10]<|
 l .agg [x 11,x 4]<|
.ret [x 12]
def k144_2:K:=
 l (.cell 0) [x 2]<|
 l .len [x 6]<|
 l oL [x 5,x 7]<|
 b (x 8) (l (.app 8 1) [.c (.sl []),i 0,x 4]<|
 l .len [x 9]<|
 l (.cell 0) [x 2]<|
 l (.tix 3) [x 11,x 5]<|
 l (.elt 0 0) [x 11,x 12]<|
 l (.bs 1 [z] [0]) [x 13]<|
 l .sub [x 14,i 0,i 1]<|
 l (.app 8 1) [x 9,x 10,x 15]<|
 l .len [x 16]<|
 l .sub [x 16,i 0,x 17]<|
 c 192 [x 2,x 3,x 18,x 5]<|
 l oA [x 5,i 1]<|
 j 1 [x 19,x 20])<|
 j 0 [x 4]
def tQ:K:=
 l (.shape 1) [x 0]<|
 l (.shape 2) [x 1]<|
.jp yG<|
.loop k144_2<|
 j 1 [.c (.sl []),i 0]
def Re:List Hint:=[(.j ⟨1,[(5,(w 4)),(4,(p 0 0)),(3,(p 1 0)),(2,(p 2 0))],[(0,(.box [(.a (i 0)),(.a (i 0)),.nil,(.a (i 0)),.nil,.nil,.nil,.nil,.nil,.nil,.nil,.nil])),(1,(.box [(r 3 0),(r 3 1)])),(2,(.box [(r 2 0)]))],3⟩),(.j ⟨2,[(2,(p 0 0)),(3,(p 1 0)),(4,(p 2 0)),(5,(w 4)),(6,(w 5))],[(0,(.box [(r 2 0)])),(1,(.box [(r 3 0),(r 3 1)])),(2,(.box [(.a (i 0)),(.a (i 0)),.nil,(.a (i 0)),.nil,.nil,.nil,.nil,.nil,.nil,.nil,.nil]))],3⟩),.no,.no]
theorem Rf:symF D0 100000 144 Re=some tQ:=by kernel_rfl
def tR:K:=
 l (.shape 11) [x 0]<|
 l (.shape 1) [x 1]<|
 l (.part 0 2) [x 3]<|
 c 240 [x 4,x 5,x 2]<|
 l (.shape 2) [x 6]<|
 c 176 [x 7]<|
 c 227 [x 3,x 4,x 8]<|
 l (.shape 11) [x 9]<|
 l oN [x 10,i 0]<|
 b (x 12) (l .agg [i 0,i 0,.c (.sl []),i 0,.c (.sl []),.c (.sl []),.c (.sl []),.c (.sl []),.c (.sl []),.c (.sl []),.c (.sl []),.c (.sl []),.c (.sl [])]<|
.ret [x 13,x 10])<|
 l (.part 0 11) [x 11]<|
 l (.part 0 11) [x 13]<|
 l (.part 0 2) [x 7]<|
 l .agg [x 14,x 15]<|
.ret [x 16,i 0]
def Rg:List Hint:=[.no]
theorem Rh:symF D0 100000 145 Rg=some tR:=by kernel_rfl
def tS:K:=
 l (.shape 1) [x 0]<|
 l (.shape 2) [x 1]<|
 c 207 [x 2]<|
 l (.shape 1) [x 4]<|
 l (.cell 0) [x 5]<|
 l .len [x 6]<|
 c 241 [i 200]<|
 l (.shape 5) [x 8]<|
 l (.part 0 2) [x 3]<|
 l .sub [x 6,i 0,x 7]<|
 l (.part 0 5) [x 9]<|
 l .agg [x 10,x 11,i 0,.c (.sl []),x 12,.c (.sl [])]<|
.ret [x 13]
def Ri:List Hint:=[]
theorem Rj:symF D0 100000 146 Ri=some tS:=by kernel_rfl
def yH:K:=
 l .sub [x 3,i 0,x 4]<|
.ret [x 5]
def ou:K:=
 l oA [x 5,i 1]<|
 j 1 [x 10,x 11,x 12]
def ov:K:=
 l oL [x 5,x 2]<|
 b (x 6) (l (.cell 0) [x 1]<|
 l .len [x 7]<|
 l oL [x 5,x 8]<|
.jp ou<|
 b (x 9) (l (.cell 0) [x 1]<|
 l (.tix 3) [x 10,x 5]<|
 l (.elt 0 0) [x 10,x 11]<|
 l (.bs 1 [z] [0]) [x 12]<|
 l .sub [x 13,i 0,i 1]<|
 l (.app 8 1) [x 3,x 4,x 14]<|
 l .len [x 15]<|
 j 2 [x 15,x 16])<|
 l (.bs 1 [z] [0]) [i (-1)]<|
 l .sub [x 10,i 0,i 1]<|
 l (.app 8 1) [x 3,x 4,x 11]<|
 l .len [x 12]<|
 j 2 [x 12,x 13])<|
 j 0 [x 3,x 4]
def k147_4:K:=
.jp yH<|
.loop ov<|
 j 1 [.c (.sl []),i 0,i 0]
def yI:K:=
 l (.cell 0) [x 1]<|
 l .len [x 3]<|
 l oL [x 2,x 4]<|
 b (x 5) (l oM [x 2,i 2]<|
 j 1 [x 6])<|
 j 0 [x 2]
def tT:K:=
 l (.shape 1) [x 0]<|
.jp k147_4<|
.loop yI<|
 j 1 [i 1]
def Rk:List Hint:=[(.j ⟨1,[(3,(w 2)),(2,(.w (.c .nil))),(1,(p 0 0))],[(0,(.box [(r 1 0)]))],1⟩),(.j ⟨1,[(1,(p 0 0)),(2,(.w (.c .nil))),(3,(w 2))],[(0,(.box [(r 1 0)]))],1⟩),.no,.no,(.j ⟨2,[(4,(.w (.c (o 0 4)))),(2,(.w (.c .nil)))],[(0,(.lst (x 3) (x 4) 1 false))],1⟩),(.j ⟨3,[(1,(p 0 0)),(2,(.w (.c .nil))),(3,(w 2)),(4,(.w (.c (o 1 4)))),(5,(w 5))],[(0,(.box [(r 1 0)])),(1,(.lst (x 3) (x 4) 1 false))],2⟩),.no,.no,(.j ⟨2,[(5,(w 5)),(3,(w 2)),(2,(.w (.c .nil))),(1,(p 0 0)),(13,(w 5)),(14,(w 2)),(15,(w 6)),(18,(w 5)),(19,(p 0 0)),(20,(.w (.c (r 1 0)))),(21,(w 8)),(22,(w 9)),(4,(.w (.c (o 1 11))))],[(0,(.box [(r 1 0)])),(1,(.lst (x 10) (x 11) 1 false))],2⟩)]
theorem Rl:symF D0 100000 147 Rk=some tT:=by kernel_rfl
def k148:K:=
 l (.shape 11) [x 0]<|
 l (.shape 1) [x 1]<|
 l (.part 0 2) [x 2]<|
 c 177 [x 3,x 4]<|
 l (.shape 2) [x 5]<|
 c 178 [x 6]<|
 c 227 [x 2,x 3,x 7]<|
 l (.shape 11) [x 8]<|
 l oN [x 9,i 0]<|
 b (x 11) (l .agg [i 0,i 0,.c (.sl []),i 0,.c (.sl []),.c (.sl []),.c (.sl []),.c (.sl []),.c (.sl []),.c (.sl []),.c (.sl []),i 0,.c (.sl [])]<|
.ret [x 12,x 9])<|
 l (.part 0 11) [x 10]<|
 l (.part 0 11) [x 12]<|
 l (.part 0 2) [x 6]<|
 l .agg [x 13,x 14]<|
.ret [x 15,i 0]
def Rm:List Hint:=[.no]
theorem Rn:symF D0 100000 148 Rm=some k148:=by kernel_rfl
def tU:K:=
 l (.shape 11) [x 0]<|
 l (.shape 1) [x 1]<|
 l (.part 0 2) [x 2]<|
 c 179 [x 3,x 4]<|
 c 180 [x 3,x 5]<|
 c 227 [x 2,x 3,x 6]<|
 l (.shape 11) [x 7]<|
 l oN [x 8,i 0]<|
 b (x 10) (l .agg [i 0,i 0,.c (.sl []),i 0,.c (.sl []),.c (.sl []),.c (.sl []),.c (.sl []),.c (.sl []),.c (.sl []),.c (.sl []),.c (.sl [])]<|
.ret [x 11,x 8])<|
 l (.part 0 11) [x 9]<|
 l (.part 0 11) [x 11]<|
 l .agg [x 12,x 5]<|
.ret [x 13,i 0]
def Ro:List Hint:=[.no]
theorem Rp:symF D0 100000 149 Ro=some tU:=by kernel_rfl
end Go.Proofs.YtfghdmmapmdcgaaGreat
