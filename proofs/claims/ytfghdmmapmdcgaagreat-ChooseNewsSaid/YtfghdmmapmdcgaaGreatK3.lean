import Derived.Test.YtfghdmmapmdcgaaGreatBcD
set_option linter.unusedVariables false
set_option linter.unusedSimpArgs false
set_option linter.defProp false
noncomputable section
namespace Go.Proofs.YtfghdmmapmdcgaaGreat
open Go.Sym Go.Sym.KP
def k311:K:=
 l (.shape 11) [x 0]<|
 l (.shape 2) [x 1]<|
 l (.part 3 2) [x 2]<|
 c 375 [x 4,x 3]<|
 l (.shape 2) [x 5]<|
 l oN [x 7,i 0]<|
 b (x 9) (l .agg [i 0,i 0,.c (.sl []),i 0,.c (.sl []),.c (.sl []),.c (.sl []),.c (.sl []),.c (.sl []),.c (.sl []),.c (.sl [])]<|
.ret [x 10,i 0,x 7])<|
 c 112 [x 2]<|
 l (.shape 11) [x 10]<|
 l (.cell 10) [x 11]<|
 l .len [x 12]<|
 l (.part 2 1) [x 2]<|
 l (.part 0 2) [x 2]<|
 c 261 [x 14,x 3,x 15]<|
 l (.shape 2) [x 16]<|
 l (.un .not) [x 17]<|
 b (x 19) (l (.cell 0) [x 11]<|
 l (.cell 1) [x 11]<|
 l (.cell 2) [x 11]<|
 l (.cell 0) [x 8]<|
 l (.cell 1) [x 8]<|
 l (.cell 5) [x 11]<|
 l (.cell 6) [x 11]<|
 l (.cell 7) [x 11]<|
 l (.cell 8) [x 11]<|
 l (.cell 9) [x 11]<|
 l .sub [x 12,i 0,x 13]<|
 l .agg [x 20,x 21,x 22,x 23,x 24,x 25,x 26,x 27,x 28,x 29,x 30]<|
.ret [x 31,x 6,i 0])<|
 l (.part 5 3) [x 2]<|
 c 373 [x 20]<|
 l (.un .not) [x 21]<|
 b (x 22) (l .agg [i 0,i 0,.c (.sl []),i 0,.c (.sl []),.c (.sl []),.c (.sl []),.c (.sl []),.c (.sl []),.c (.sl []),.c (.sl [])]<|
.ret [x 23,i 0,i 18])<|
 l (.part 5 5) [x 2]<|
 c 374 [x 23,x 18,x 6]<|
 l (.shape 5) [x 24]<|
 l (.shape 2) [x 25]<|
 l (.part 0 2) [x 27]<|
 l .agg [x 6,x 28]<|
 l (.bs 1 [z,z,z] [0]) [x 29]<|
 l .sub [x 30,i 0,i 1]<|
 l (.app 24 3) [x 12,x 13,x 31]<|
 l .len [x 32]<|
 l (.cell 0) [x 11]<|
 l (.cell 1) [x 11]<|
 l (.cell 2) [x 11]<|
 l (.cell 0) [x 8]<|
 l (.cell 1) [x 8]<|
 l (.cell 0) [x 26]<|
 l (.cell 1) [x 26]<|
 l (.cell 2) [x 26]<|
 l (.cell 3) [x 26]<|
 l (.cell 4) [x 26]<|
 l .sub [x 32,i 0,x 33]<|
 l .agg [x 34,x 35,x 36,x 37,x 38,x 39,x 40,x 41,x 42,x 43,x 44]<|
.ret [x 45,x 6,i 0]
def UV:List Hint:=[.no,.no,.no]
theorem UW:symF D0 100000 311 UV=some k311:=by kernel_rfl
def k312_1:K:=
.ret [x 4]
def k312:K:=
 l (.shape 3) [x 0]<|
 l (.shape 3) [x 1]<|
.jp k312_1<|
 l (.cell 0) [x 2]<|
 l (.cell 0) [x 3]<|
 c 313 [x 4,x 5]<|
 b (x 6) (l (.cell 1) [x 2]<|
 l (.cell 1) [x 3]<|
 c 376 [x 7,x 8]<|
 b (x 9) (l (.cell 2) [x 2]<|
 l (.cell 2) [x 3]<|
 c 313 [x 10,x 11]<|
 j 0 [x 12])<|
 j 0 [.c (.v (.bool false))])<|
 j 0 [.c (.v (.bool false))]
def UX:List Hint:=[(.j ⟨1,[(4,(w 4))],[],0⟩)]
theorem UY:symF D0 100000 312 UX=some k312:=by kernel_rfl
def JY:K:=
.ret [.c (.v (.bool true))]
def JZ:K:=
 l .len [x 0]<|
 l oL [x 5,x 6]<|
 b (x 7) (l (.tix 1) [x 0,x 5]<|
 l (.elt 0 0) [x 0,x 8]<|
 l (.tix 1) [x 1,x 5]<|
 l (.elt 0 0) [x 1,x 10]<|
 l oN [x 9,x 11]<|
 b (x 12) (.ret [.c (.v (.bool false))])<|
 l oA [x 5,i 1]<|
 j 1 [x 13])<|
 j 0 []
def BJ:K:=
 l .len [x 0]<|
 l .len [x 1]<|
 l oN [x 2,x 3]<|
 b (x 4) (.ret [.c (.v (.bool false))])<|
.jp JY<|
.loop JZ<|
 j 1 [i 0]
def UZ:List Hint:=[.no,(.j ⟨0,[(4,(.w (.c (.a (.c (.v (.bool false)))))))],[],0⟩),(.j ⟨1,[(1,(w 1)),(0,(w 0)),(4,(.w (.c (.a (.c (.v (.bool false))))))),(5,(w 5))],[],0⟩),.no,.no,.no]
theorem U1:symF D0 100000 313 UZ=some BJ:=by kernel_rfl
def k314_1:K:=
 l .sub [x 3,i 0,x 4]<|
 l .sub [x 5,i 0,x 6]<|
 l .sub [x 9,i 0,x 8]<|
 l .agg [x 10,x 11,x 12]<|
.ret [x 13,i 0]
def k314_2:K:=
 l oL [x 10,x 0]<|
 b (x 11) (l oS [x 0,i 1]<|
 l oS [x 12,x 10]<|
 l .ix [x 10,x 8]<|
 l (.set 0) [x 9,x 14,x 13]<|
 l oA [x 10,i 1]<|
 j 1 [x 15,x 16])<|
 j 0 [x 9]
def vO:K:=
 l oL [x 0,i 1]<|
 b (x 1) (l .agg [.c (.sl []),.c (.sl []),.c (.sl [])]<|
.ret [x 2,i 2])<|
 l oG [x 0,i 200]<|
 b (x 2) (l .agg [.c (.sl []),.c (.sl []),.c (.sl [])]<|
.ret [x 3,i 2])<|
 l (.rep [z] 8) [x 0,x 0]<|
 l .len [x 3]<|
 l (.rep [(.v (.bool false))] 1) [x 0,x 0]<|
 l .len [x 5]<|
 l (.rep [z] 8) [x 0,x 0]<|
 l .len [x 7]<|
.jp k314_1<|
.loop k314_2<|
 j 1 [x 7,i 0]
def U2:List Hint:=[.no,.no,(.j ⟨1,[(4,(p 0 0)),(3,(wi 0)),(2,(p 4 0))],[(0,(.box [(o 1 4),(o 2 6),(o 3 8)])),(1,(.lst (x 3) (x 4) 1 false)),(2,(.lst (x 5) (x 6) 1 false)),(3,(.lst (x 9) (x 8) 1 false)),(4,(.box [.nil,.nil,.nil]))],5⟩),(.j ⟨2,[(0,(w 0)),(2,(p 0 0)),(3,(wi 0)),(4,(p 1 0)),(20,(w 0)),(21,(w 10))],[(0,(.box [.nil,.nil,.nil])),(1,(.box [(o 2 4),(o 3 6),(o 4 8)])),(2,(.lst (x 3) (x 4) 1 false)),(3,(.lst (x 5) (x 6) 1 false)),(4,(.lst (x 9) (x 8) 1 false))],5⟩),.no,.no]
theorem U3:symF D0 100000 314 U2=some vO:=by kernel_rfl
def pU:K:=
 l (.un .not) [x 6]<|
 b (x 7) (l .agg [i (-1),i 0,i 0]<|
.ret [x 8])<|
 l (.cell 0) [x 2]<|
 l (.tix 3) [x 8,x 5]<|
 l (.elt 0 3) [x 8,x 9]<|
.ret [x 10]
def J0:K:=
.jp pU<|
 l oL [x 5,x 4]<|
 b (x 6) (l (.cell 0) [x 2]<|
 l (.tix 3) [x 7,x 5]<|
 l (.elt 0 3) [x 7,x 8]<|
 l (.cell 0) [x 9]<|
 c 354 [x 10,x 1]<|
 l oE [x 11,i 0]<|
 j 0 [x 12])<|
 j 0 [.c (.v (.bool false))]
def J1:K:=
 j 1 [x 19,x 18]
def J2:K:=
 l oL [x 5,x 6]<|
 b (x 7) (l oA [x 5,x 6]<|
 l (.conv .u64) [x 8]<|
 l (.bin .shr) [x 9,.c (.v (.int .u64 1))]<|
 l (.conv .i64) [x 10]<|
 l (.cell 0) [x 2]<|
 l (.tix 3) [x 12,x 11]<|
 l (.elt 0 3) [x 12,x 13]<|
 l (.cell 0) [x 14]<|
 c 354 [x 15,x 1]<|
 l oL [x 16,i 0]<|
.jp J1<|
 b (x 17) (l oA [x 11,i 1]<|
 j 2 [x 6,x 18])<|
 j 2 [x 11,x 5])<|
 j 0 [x 5]
def vP:K:=
 l (.shape 1) [x 0]<|
 l (.cell 0) [x 2]<|
 l .len [x 3]<|
.jp J0<|
.loop J2<|
 j 1 [i 0,x 4]
def U4:List Hint:=[(.j ⟨1,[(9,(w 5)),(8,(w 4)),(7,(.w (.c (.a (.c (.v (.bool false))))))),(6,(wi 0)),(0,(.w (.c (r 2 0)))),(1,(w 1)),(2,(.w (.c (.fn 377 [] []))))],[(0,(.box [(r 2 0)])),(1,(.box [(.a (i 0)),(.a (i 0)),(.a (i 0))]))],2⟩),(.j ⟨2,[(2,(.w (.c (.fn 377 [] [])))),(1,(w 1)),(0,(.w (.c (r 2 0)))),(6,(wi 0)),(7,(.w (.c (.a (.c (.v (.bool false))))))),(8,(w 4)),(9,(w 5)),(10,(w 6))],[(0,(.box [(r 2 0)])),(1,(.box [(.a (i 0)),(.a (i 0)),(.a (i 0))]))],2⟩),.no,.no,(.j ⟨2,[(10,(w 18)),(8,(w 4)),(7,(.w (.c (.a (.c (.v (.bool false))))))),(6,(wi 0)),(0,(.w (.c (r 2 0)))),(1,(w 1)),(2,(.w (.c (.fn 377 [] [])))),(15,(w 5)),(16,(w 6)),(17,(w 7)),(18,(w 5)),(19,(w 6)),(20,(w 8)),(21,(w 9)),(22,(w 10)),(23,(w 11)),(11,(w 11)),(24,(.w (.c (.fn 377 [] [])))),(25,(.w (.c (r 2 0)))),(26,(w 11)),(27,(.w (.c (.tp (x 12) (x 13) 0)))),(28,(v 14)),(29,(w 1)),(30,(w 16)),(31,(w 17)),(9,(w 19))],[(0,(.box [(r 2 0)])),(1,(.box [(.a (i 0)),(.a (i 0)),(.a (i 0))]))],2⟩),(.j ⟨1,[(6,(w 5)),(7,(w 6))],[(0,(.box [(r 2 0)])),(1,(.box [(.a (i 0)),(.a (i 0)),(.a (i 0))]))],2⟩),.no]
theorem U5:symF D0 100000 315 U4=some vP:=by kernel_rfl
def Aa:K:=
 l .ix [x 42,x 33]<|
 l (.part 0 2) [x 4]<|
 l (.part 0 2) [x 19]<|
 l .agg [x 44,x 2,x 45]<|
 l (.set 0) [x 40,x 43,x 46]<|
 l (.cell 0) [x 19]<|
 l .ix [x 48,x 26]<|
 l (.set 0) [x 41,x 49,x 42]<|
 l (.part 0 3) [x 18]<|
 l .sub [x 47,i 0,x 33]<|
 l .sub [x 50,i 0,x 26]<|
 l .agg [x 51,x 52,x 53]<|
.ret [x 54,x 19,i 0]
def pV:K:=
 l .ix [x 48,x 33]<|
 l (.elt 0 5) [x 41,x 49]<|
 l (.part 0 2) [x 4]<|
 l (.part 0 2) [x 19]<|
 l .agg [x 51,x 2,x 52]<|
 c 326 [x 50,x 53]<|
 l oH [x 54,i 0]<|
 b (x 55) (j 0 [x 41,x 42,x 40])<|
 l .ix [x 48,x 33]<|
 l (.elt 0 5) [x 41,x 56]<|
 l (.shape 5) [x 57]<|
 l .ix [x 40,x 33]<|
 l (.set 0) [x 41,x 59,x 58]<|
 l (.cell 3) [x 58]<|
 l .ix [x 61,x 26]<|
 l (.set 0) [x 42,x 62,x 40]<|
 l oM [i 2,x 48]<|
 l oA [x 64,i 1]<|
 j 1 [x 48,x 60,x 63,x 65]
def pX:K:=
.jp pV<|
 b (x 47) (l oA [x 43,i 1]<|
 j 2 [x 48])<|
 j 2 [x 43]
def pY:K:=
 l oL [x 43,x 33]<|
 b (x 44) (.jp pX<|
 l oA [x 43,i 1]<|
 l oL [x 45,x 33]<|
 b (x 46) (l oA [x 43,i 1]<|
 l .ix [x 47,x 33]<|
 l (.elt 0 5) [x 41,x 48]<|
 l .ix [x 43,x 33]<|
 l (.elt 0 5) [x 41,x 50]<|
 c 326 [x 49,x 51]<|
 l oL [x 52,i 0]<|
 j 2 [x 45,x 46,x 53])<|
 j 2 [x 45,x 46,.c (.v (.bool false))])<|
 j 0 [x 41,x 42,x 40]
def Ab:K:=
 l oM [i 2,x 37]<|
 l oA [x 38,i 1]<|
.jp Aa<|
.loop pY<|
 j 1 [x 37,x 35,x 36,x 39]
def k317_6:K:=
 l oG [x 35,i 0]<|
 b (x 38) (l oS [x 35,i 1]<|
 l (.bin .quo) [x 39,i 2]<|
 l .ix [x 40,x 33]<|
 l (.elt 0 5) [x 36,x 41]<|
 l (.part 0 2) [x 4]<|
 l (.part 0 2) [x 19]<|
 l .agg [x 43,x 2,x 44]<|
 c 326 [x 45,x 42]<|
 l oL [x 46,i 0]<|
 b (x 47) (l oS [x 35,i 1]<|
 l (.bin .quo) [x 48,i 2]<|
 l .ix [x 49,x 33]<|
 l (.elt 0 5) [x 36,x 50]<|
 l (.shape 5) [x 51]<|
 l .ix [x 35,x 33]<|
 l (.set 0) [x 36,x 53,x 52]<|
 l (.cell 3) [x 52]<|
 l .ix [x 55,x 26]<|
 l (.set 0) [x 37,x 56,x 35]<|
 l oS [x 35,i 1]<|
 l (.bin .quo) [x 58,i 2]<|
 j 1 [x 59,x 54,x 57])<|
 j 0 [x 36,x 37,x 35])<|
 j 0 [x 36,x 37,x 35]
def Ac:K:=
 l oH [i (-1),i 0]<|
 b (x 13) (l .agg [.c (.sl []),.c (.sl []),.c (.sl []),.c (.sl []),.c (.sl [])]<|
 l .agg [i 0,i 0]<|
.ret [x 14,x 15,i 14])<|
 l (.part 0 3) [x 3]<|
 c 382 [x 14]<|
 l (.shape 3) [x 15]<|
 l (.shape 2) [x 16]<|
 l oN [x 17,i 0]<|
 b (x 20) (l .agg [.c (.sl []),.c (.sl []),.c (.sl []),.c (.sl []),.c (.sl [])]<|
 l .agg [i 0,i 0]<|
.ret [x 21,x 22,x 17])<|
 c 378 [x 3]<|
 l (.shape 5) [x 21]<|
 l (.cell 3) [x 22]<|
 l .len [x 23]<|
 l (.cell 4) [x 22]<|
 l .len [x 25]<|
 l (.part 0 2) [x 4]<|
 l (.part 0 2) [x 19]<|
 l .agg [x 27,x 2,x 28]<|
 l (.bs 1 [z,z,z,z,z] [0]) [x 29]<|
 l .sub [x 30,i 0,i 1]<|
 l (.app 40 5) [x 23,x 24,x 31]<|
 l .len [x 32]<|
 l oS [x 33,i 1]<|
.jp Ab<|
.loop k317_6<|
 j 1 [x 34,x 32,x 25]
def J3:K:=
 l .ix [x 49,x 40]<|
 l (.part 0 2) [x 4]<|
 l (.part 0 2) [x 26]<|
 l .agg [x 51,x 2,x 52]<|
 l (.set 0) [x 47,x 50,x 53]<|
 l (.cell 0) [x 26]<|
 l .ix [x 55,x 33]<|
 l (.set 0) [x 48,x 56,x 49]<|
 l (.part 0 3) [x 25]<|
 l .sub [x 54,i 0,x 40]<|
 l .sub [x 57,i 0,x 33]<|
 l .agg [x 58,x 59,x 60]<|
.ret [x 61,x 26,i 0]
def J4:K:=
 l .ix [x 55,x 40]<|
 l (.elt 0 5) [x 48,x 56]<|
 l (.part 0 2) [x 4]<|
 l (.part 0 2) [x 26]<|
 l .agg [x 58,x 2,x 59]<|
 c 326 [x 57,x 60]<|
 l oH [x 61,i 0]<|
 b (x 62) (j 2 [x 48,x 49,x 47])<|
 l .ix [x 55,x 40]<|
 l (.elt 0 5) [x 48,x 63]<|
 l (.shape 5) [x 64]<|
 l .ix [x 47,x 40]<|
 l (.set 0) [x 48,x 66,x 65]<|
 l (.cell 3) [x 65]<|
 l .ix [x 68,x 33]<|
 l (.set 0) [x 49,x 69,x 47]<|
 l oM [i 2,x 55]<|
 l oA [x 71,i 1]<|
 j 3 [x 55,x 67,x 70,x 72]
def GF:K:=
.jp J4<|
 b (x 54) (l oA [x 50,i 1]<|
 j 4 [x 55])<|
 j 4 [x 50]
def GG:K:=
 l oL [x 50,x 40]<|
 b (x 51) (.jp GF<|
 l oA [x 50,i 1]<|
 l oL [x 52,x 40]<|
 b (x 53) (l oA [x 50,i 1]<|
 l .ix [x 54,x 40]<|
 l (.elt 0 5) [x 48,x 55]<|
 l .ix [x 50,x 40]<|
 l (.elt 0 5) [x 48,x 57]<|
 c 326 [x 56,x 58]<|
 l oL [x 59,i 0]<|
 j 4 [x 52,x 53,x 60])<|
 j 4 [x 52,x 53,.c (.v (.bool false))])<|
 j 2 [x 48,x 49,x 47]
def GH:K:=
 l oM [i 2,x 44]<|
 l oA [x 45,i 1]<|
.jp J3<|
.loop GG<|
 j 3 [x 44,x 42,x 43,x 46]
def GI:K:=
 l oG [x 42,i 0]<|
 b (x 45) (l oS [x 42,i 1]<|
 l (.bin .quo) [x 46,i 2]<|
 l .ix [x 47,x 40]<|
 l (.elt 0 5) [x 43,x 48]<|
 l (.part 0 2) [x 4]<|
 l (.part 0 2) [x 26]<|
 l .agg [x 50,x 2,x 51]<|
 c 326 [x 52,x 49]<|
 l oL [x 53,i 0]<|
 b (x 54) (l oS [x 42,i 1]<|
 l (.bin .quo) [x 55,i 2]<|
 l .ix [x 56,x 40]<|
 l (.elt 0 5) [x 43,x 57]<|
 l (.shape 5) [x 58]<|
 l .ix [x 42,x 40]<|
 l (.set 0) [x 43,x 60,x 59]<|
 l (.cell 3) [x 59]<|
 l .ix [x 62,x 33]<|
 l (.set 0) [x 44,x 63,x 42]<|
 l oS [x 42,i 1]<|
 l (.bin .quo) [x 65,i 2]<|
 j 3 [x 66,x 61,x 64])<|
 j 2 [x 43,x 44,x 42])<|
 j 2 [x 43,x 44,x 42]
def kT:K:=
 l oL [x 13,x 12]<|
 b (x 14) (l (.cell 3) [x 3]<|
 l (.tix 5) [x 15,x 13]<|
 l (.elt 0 5) [x 15,x 16]<|
 l (.cell 2) [x 17]<|
 l oE [x 18,x 2]<|
 b (x 19) (l oH [x 13,i 0]<|
 b (x 20) (l .agg [.c (.sl []),.c (.sl []),.c (.sl []),.c (.sl []),.c (.sl [])]<|
 l .agg [i 0,i 0]<|
.ret [x 21,x 22,i 14])<|
 l (.part 0 3) [x 3]<|
 c 382 [x 21]<|
 l (.shape 3) [x 22]<|
 l (.shape 2) [x 23]<|
 l oN [x 24,i 0]<|
 b (x 27) (l .agg [.c (.sl []),.c (.sl []),.c (.sl []),.c (.sl []),.c (.sl [])]<|
 l .agg [i 0,i 0]<|
.ret [x 28,x 29,x 24])<|
 c 378 [x 3]<|
 l (.shape 5) [x 28]<|
 l (.cell 3) [x 29]<|
 l .len [x 30]<|
 l (.cell 4) [x 29]<|
 l .len [x 32]<|
 l (.part 0 2) [x 4]<|
 l (.part 0 2) [x 26]<|
 l .agg [x 34,x 2,x 35]<|
 l (.bs 1 [z,z,z,z,z] [0]) [x 36]<|
 l .sub [x 37,i 0,i 1]<|
 l (.app 40 5) [x 30,x 31,x 38]<|
 l .len [x 39]<|
 l oS [x 40,i 1]<|
.jp GH<|
.loop GI<|
 j 3 [x 41,x 39,x 32])<|
 l oA [x 13,i 1]<|
 j 1 [x 20])<|
 j 0 []
def k317:K:=
 l (.shape 5) [x 0]<|
 l (.shape 2) [x 1]<|
 c 245 [x 3]<|
 c 43 [x 4]<|
 l (.mm true) [x 5,x 6]<|
 l oN [x 7,i 0]<|
 b (x 8) (l .agg [.c (.sl []),.c (.sl []),.c (.sl []),.c (.sl []),.c (.sl [])]<|
 l .agg [i 0,i 0]<|
.ret [x 9,x 10,x 7])<|
 l oL [x 2,i 0]<|
 b (x 9) (l .agg [.c (.sl []),.c (.sl []),.c (.sl []),.c (.sl []),.c (.sl [])]<|
 l .agg [i 0,i 0]<|
.ret [x 10,x 11,i 2])<|
 l oG [x 2,i 1000000]<|
 b (x 10) (l .agg [.c (.sl []),.c (.sl []),.c (.sl []),.c (.sl []),.c (.sl [])]<|
 l .agg [i 0,i 0]<|
.ret [x 11,x 12,i 2])<|
 l (.cell 3) [x 3]<|
 l .len [x 11]<|
.jp Ac<|
.loop kT<|
 j 1 [i 0]
def U6:List Hint:=[.no,.no,.no,(.j ⟨0,[(4,(wi 0))],[(0,(.box (pcs (x 3) 0 5))),(1,(.box [(r 4 0),(r 4 1)])),(2,(.box [(a 2)])),(3,(.box [.nil,.nil,.nil,.nil,.nil])),(4,(.box [(.a (i 0)),(.a (i 0))]))],5⟩),(.j ⟨1,[(1,(.w (.c (.fn 381 [] [(.ptr 2 0)])))),(0,(.w (.c (r 3 3)))),(4,(wi 0)),(7,(w 12)),(8,(w 13))],[(0,(.box (pcs (x 3) 0 5))),(1,(.box [(r 4 0),(r 4 1)])),(2,(.box [(a 2)])),(3,(.box [.nil,.nil,.nil,.nil,.nil])),(4,(.box [(.a (i 0)),(.a (i 0))]))],5⟩),.no,.no,.no,.no,.no,(.j ⟨3,[(5,(p 14 0)),(3,(p 15 0)),(1,(w 44))],[(0,(.box (pcs (x 3) 0 5))),(1,(.box [(r 4 0),(r 4 1)])),(2,(.box [(a 2)])),(3,(.box [.nil,.nil,.nil,.nil,.nil])),(4,(.box [(.a (i 0)),(.a (i 0))])),(5,(.box (pcs (x 17) 0 5))),(6,(.box (pcs (x 25) 0 3))),(7,(.box [(r 26 0),(r 26 1)])),(9,(.lst (x 43) (x 33) 1 false)),(10,(.box [(r 25 0),(r 25 1),(r 25 2),(o 13 40),(o 9 33)])),(11,(.box [(r 4 0),(r 4 1),(a 2),(r 26 0),(r 26 1)])),(12,(.lst (x 37) (i 1) 5 false)),(13,(.lst (x 42) (x 40) 5 false)),(14,(.box [(r 4 0),(r 4 1),(a 2),(r 26 0),(r 26 1)])),(15,(.box [(r 25 0),(r 25 1),(r 25 2),(o 13 40),(o 9 33)]))],16⟩),(.j ⟨3,[(1,(w 42)),(3,(p 14 0)),(5,(p 15 0))],[(0,(.box (pcs (x 3) 0 5))),(1,(.box [(r 4 0),(r 4 1)])),(2,(.box [(a 2)])),(3,(.box [.nil,.nil,.nil,.nil,.nil])),(4,(.box [(.a (i 0)),(.a (i 0))])),(5,(.box (pcs (x 17) 0 5))),(6,(.box (pcs (x 25) 0 3))),(7,(.box [(r 26 0),(r 26 1)])),(9,(.lst (x 44) (x 33) 1 false)),(10,(.box [(r 25 0),(r 25 1),(r 25 2),(o 13 40),(o 9 33)])),(11,(.box [(r 4 0),(r 4 1),(a 2),(r 26 0),(r 26 1)])),(12,(.lst (x 37) (i 1) 5 false)),(13,(.lst (x 43) (x 40) 5 false)),(14,(.box [(r 25 0),(r 25 1),(r 25 2),(o 13 40),(o 9 33)])),(15,(.box [(r 4 0),(r 4 1),(a 2),(r 26 0),(r 26 1)]))],16⟩),.no,.no,.no,(.j ⟨3,[(5,(p 14 0)),(3,(p 15 0)),(1,(w 49))],[(0,(.box (pcs (x 3) 0 5))),(1,(.box [(r 4 0),(r 4 1)])),(2,(.box [(a 2)])),(3,(.box [.nil,.nil,.nil,.nil,.nil])),(4,(.box [(.a (i 0)),(.a (i 0))])),(5,(.box (pcs (x 17) 0 5))),(6,(.box (pcs (x 25) 0 3))),(7,(.box [(r 26 0),(r 26 1)])),(9,(.lst (x 48) (x 33) 1 false)),(10,(.box [(r 25 0),(r 25 1),(r 25 2),(o 13 40),(o 9 33)])),(11,(.box [(r 4 0),(r 4 1),(a 2),(r 26 0),(r 26 1)])),(12,(.lst (x 37) (i 1) 5 false)),(13,(.lst (x 47) (x 40) 5 false)),(14,(.box [(r 4 0),(r 4 1),(a 2),(r 26 0),(r 26 1)])),(15,(.box [(r 25 0),(r 25 1),(r 25 2),(o 13 40),(o 9 33)]))],16⟩),(.j ⟨4,[(1,(w 47)),(3,(p 14 0)),(5,(p 15 0)),(6,(w 50))],[(0,(.box (pcs (x 3) 0 5))),(1,(.box [(r 4 0),(r 4 1)])),(2,(.box [(a 2)])),(3,(.box [.nil,.nil,.nil,.nil,.nil])),(4,(.box [(.a (i 0)),(.a (i 0))])),(5,(.box (pcs (x 17) 0 5))),(6,(.box (pcs (x 25) 0 3))),(7,(.box [(r 26 0),(r 26 1)])),(9,(.lst (x 49) (x 33) 1 false)),(10,(.box [(r 25 0),(r 25 1),(r 25 2),(o 13 40),(o 9 33)])),(11,(.box [(r 4 0),(r 4 1),(a 2),(r 26 0),(r 26 1)])),(12,(.lst (x 37) (i 1) 5 false)),(13,(.lst (x 48) (x 40) 5 false)),(14,(.box [(r 25 0),(r 25 1),(r 25 2),(o 13 40),(o 9 33)])),(15,(.box [(r 4 0),(r 4 1),(a 2),(r 26 0),(r 26 1)]))],16⟩),.no,.no,(.j ⟨3,[(6,(w 50)),(5,(p 14 0)),(3,(p 15 0)),(1,(w 47)),(37,(w 50)),(38,(p 15 3)),(39,(.w (.c (o 13 40)))),(40,(w 40)),(41,(w 51)),(45,(w 50)),(46,(w 52)),(47,(p 15 3)),(48,(.w (.c (o 13 40)))),(49,(w 40)),(50,(w 53)),(51,(w 53)),(65,(w 54))],[(0,(.box (pcs (x 3) 0 5))),(1,(.box [(r 4 0),(r 4 1)])),(2,(.box [(a 2)])),(3,(.box [.nil,.nil,.nil,.nil,.nil])),(4,(.box [(.a (i 0)),(.a (i 0))])),(5,(.box (pcs (x 17) 0 5))),(6,(.box (pcs (x 25) 0 3))),(7,(.box [(r 26 0),(r 26 1)])),(9,(.lst (x 49) (x 33) 1 false)),(10,(.box [(r 25 0),(r 25 1),(r 25 2),(o 13 40),(o 9 33)])),(11,(.box [(r 4 0),(r 4 1),(a 2),(r 26 0),(r 26 1)])),(12,(.lst (x 37) (i 1) 5 false)),(13,(.lst (x 48) (x 40) 5 false)),(14,(.box [(r 4 0),(r 4 1),(a 2),(r 26 0),(r 26 1)])),(15,(.box [(r 25 0),(r 25 1),(r 25 2),(o 13 40),(o 9 33)]))],16⟩),(.j ⟨1,[(65,(w 54)),(51,(w 53)),(50,(w 53)),(49,(w 40)),(48,(.w (.c (o 13 40)))),(47,(p 14 3)),(46,(w 52)),(45,(w 50)),(41,(w 51)),(40,(w 40)),(39,(.w (.c (o 13 40)))),(38,(p 14 3)),(37,(w 50)),(1,(w 47)),(3,(p 14 0)),(5,(p 15 0)),(6,(w 55))],[(0,(.box (pcs (x 3) 0 5))),(1,(.box [(r 4 0),(r 4 1)])),(2,(.box [(a 2)])),(3,(.box [.nil,.nil,.nil,.nil,.nil])),(4,(.box [(.a (i 0)),(.a (i 0))])),(5,(.box (pcs (x 17) 0 5))),(6,(.box (pcs (x 25) 0 3))),(7,(.box [(r 26 0),(r 26 1)])),(9,(.lst (x 49) (x 33) 1 false)),(10,(.box [(r 25 0),(r 25 1),(r 25 2),(o 13 40),(o 9 33)])),(11,(.box [(r 4 0),(r 4 1),(a 2),(r 26 0),(r 26 1)])),(12,(.lst (x 37) (i 1) 5 false)),(13,(.lst (x 48) (x 40) 5 false)),(14,(.box [(r 25 0),(r 25 1),(r 25 2),(o 13 40),(o 9 33)])),(15,(.box [(r 4 0),(r 4 1),(a 2),(r 26 0),(r 26 1)]))],16⟩),.no,.no,.no,(.j ⟨3,[(5,(p 13 0)),(3,(p 14 0)),(1,(w 37))],[(0,(.box (pcs (x 3) 0 5))),(1,(.box [(r 4 0),(r 4 1)])),(2,(.box [(a 2)])),(3,(.box [.nil,.nil,.nil,.nil,.nil])),(4,(.box [(.a (i 0)),(.a (i 0))])),(5,(.box (pcs (x 18) 0 3))),(6,(.box [(r 19 0),(r 19 1)])),(8,(.lst (x 36) (x 26) 1 false)),(9,(.box [(r 18 0),(r 18 1),(r 18 2),(o 12 33),(o 8 26)])),(10,(.box [(r 4 0),(r 4 1),(a 2),(r 19 0),(r 19 1)])),(11,(.lst (x 30) (i 1) 5 false)),(12,(.lst (x 35) (x 33) 5 false)),(13,(.box [(r 4 0),(r 4 1),(a 2),(r 19 0),(r 19 1)])),(14,(.box [(r 18 0),(r 18 1),(r 18 2),(o 12 33),(o 8 26)]))],15⟩),(.j ⟨3,[(1,(w 35)),(3,(p 13 0)),(5,(p 14 0))],[(0,(.box (pcs (x 3) 0 5))),(1,(.box [(r 4 0),(r 4 1)])),(2,(.box [(a 2)])),(3,(.box [.nil,.nil,.nil,.nil,.nil])),(4,(.box [(.a (i 0)),(.a (i 0))])),(5,(.box (pcs (x 18) 0 3))),(6,(.box [(r 19 0),(r 19 1)])),(8,(.lst (x 37) (x 26) 1 false)),(9,(.box [(r 18 0),(r 18 1),(r 18 2),(o 12 33),(o 8 26)])),(10,(.box [(r 4 0),(r 4 1),(a 2),(r 19 0),(r 19 1)])),(11,(.lst (x 30) (i 1) 5 false)),(12,(.lst (x 36) (x 33) 5 false)),(13,(.box [(r 18 0),(r 18 1),(r 18 2),(o 12 33),(o 8 26)])),(14,(.box [(r 4 0),(r 4 1),(a 2),(r 19 0),(r 19 1)]))],15⟩),.no,.no,.no,(.j ⟨3,[(5,(p 13 0)),(3,(p 14 0)),(1,(w 42))],[(0,(.box (pcs (x 3) 0 5))),(1,(.box [(r 4 0),(r 4 1)])),(2,(.box [(a 2)])),(3,(.box [.nil,.nil,.nil,.nil,.nil])),(4,(.box [(.a (i 0)),(.a (i 0))])),(5,(.box (pcs (x 18) 0 3))),(6,(.box [(r 19 0),(r 19 1)])),(8,(.lst (x 41) (x 26) 1 false)),(9,(.box [(r 18 0),(r 18 1),(r 18 2),(o 12 33),(o 8 26)])),(10,(.box [(r 4 0),(r 4 1),(a 2),(r 19 0),(r 19 1)])),(11,(.lst (x 30) (i 1) 5 false)),(12,(.lst (x 40) (x 33) 5 false)),(13,(.box [(r 4 0),(r 4 1),(a 2),(r 19 0),(r 19 1)])),(14,(.box [(r 18 0),(r 18 1),(r 18 2),(o 12 33),(o 8 26)]))],15⟩),(.j ⟨4,[(1,(w 40)),(3,(p 13 0)),(5,(p 14 0)),(6,(w 43))],[(0,(.box (pcs (x 3) 0 5))),(1,(.box [(r 4 0),(r 4 1)])),(2,(.box [(a 2)])),(3,(.box [.nil,.nil,.nil,.nil,.nil])),(4,(.box [(.a (i 0)),(.a (i 0))])),(5,(.box (pcs (x 18) 0 3))),(6,(.box [(r 19 0),(r 19 1)])),(8,(.lst (x 42) (x 26) 1 false)),(9,(.box [(r 18 0),(r 18 1),(r 18 2),(o 12 33),(o 8 26)])),(10,(.box [(r 4 0),(r 4 1),(a 2),(r 19 0),(r 19 1)])),(11,(.lst (x 30) (i 1) 5 false)),(12,(.lst (x 41) (x 33) 5 false)),(13,(.box [(r 18 0),(r 18 1),(r 18 2),(o 12 33),(o 8 26)])),(14,(.box [(r 4 0),(r 4 1),(a 2),(r 19 0),(r 19 1)]))],15⟩),.no,.no,(.j ⟨3,[(6,(w 43)),(5,(p 13 0)),(3,(p 14 0)),(1,(w 40)),(37,(w 43)),(38,(p 14 3)),(39,(.w (.c (o 12 33)))),(40,(w 33)),(41,(w 44)),(45,(w 43)),(46,(w 45)),(47,(p 14 3)),(48,(.w (.c (o 12 33)))),(49,(w 33)),(50,(w 46)),(51,(w 46)),(65,(w 47))],[(0,(.box (pcs (x 3) 0 5))),(1,(.box [(r 4 0),(r 4 1)])),(2,(.box [(a 2)])),(3,(.box [.nil,.nil,.nil,.nil,.nil])),(4,(.box [(.a (i 0)),(.a (i 0))])),(5,(.box (pcs (x 18) 0 3))),(6,(.box [(r 19 0),(r 19 1)])),(8,(.lst (x 42) (x 26) 1 false)),(9,(.box [(r 18 0),(r 18 1),(r 18 2),(o 12 33),(o 8 26)])),(10,(.box [(r 4 0),(r 4 1),(a 2),(r 19 0),(r 19 1)])),(11,(.lst (x 30) (i 1) 5 false)),(12,(.lst (x 41) (x 33) 5 false)),(13,(.box [(r 4 0),(r 4 1),(a 2),(r 19 0),(r 19 1)])),(14,(.box [(r 18 0),(r 18 1),(r 18 2),(o 12 33),(o 8 26)]))],15⟩),(.j ⟨1,[(65,(w 47)),(51,(w 46)),(50,(w 46)),(49,(w 33)),(48,(.w (.c (o 12 33)))),(47,(p 13 3)),(46,(w 45)),(45,(w 43)),(41,(w 44)),(40,(w 33)),(39,(.w (.c (o 12 33)))),(38,(p 13 3)),(37,(w 43)),(1,(w 40)),(3,(p 13 0)),(5,(p 14 0)),(6,(w 48))],[(0,(.box (pcs (x 3) 0 5))),(1,(.box [(r 4 0),(r 4 1)])),(2,(.box [(a 2)])),(3,(.box [.nil,.nil,.nil,.nil,.nil])),(4,(.box [(.a (i 0)),(.a (i 0))])),(5,(.box (pcs (x 18) 0 3))),(6,(.box [(r 19 0),(r 19 1)])),(8,(.lst (x 42) (x 26) 1 false)),(9,(.box [(r 18 0),(r 18 1),(r 18 2),(o 12 33),(o 8 26)])),(10,(.box [(r 4 0),(r 4 1),(a 2),(r 19 0),(r 19 1)])),(11,(.lst (x 30) (i 1) 5 false)),(12,(.lst (x 41) (x 33) 5 false)),(13,(.box [(r 18 0),(r 18 1),(r 18 2),(o 12 33),(o 8 26)])),(14,(.box [(r 4 0),(r 4 1),(a 2),(r 19 0),(r 19 1)]))],15⟩),.no]
theorem U7:symF D0 100000 317 U6=some k317:=by kernel_rfl
def Ad:K:=
 l oH [i (-1),i 0]<|
 b (x 10) (l .agg [i 0,.c (.sl [])]<|
.ret [x 11,i 0,i 14])<|
 l (.cell 1) [x 2]<|
 l .len [x 11]<|
 l oE [x 12,i 200]<|
 b (x 13) (l .agg [i 0,.c (.sl [])]<|
.ret [x 14,i 0,i 18])<|
 l (.cell 0) [x 2]<|
 l oE [x 14,i 1000000]<|
 b (x 15) (l .agg [i 0,.c (.sl [])]<|
.ret [x 16,i 0,i 18])<|
 l (.cell 1) [x 2]<|
 c 291 [x 16]<|
 l .len [x 17]<|
 l (.cell 0) [x 2]<|
 l (.part 0 2) [x 3]<|
 l .agg [x 19,x 20]<|
 l (.bs 1 [z,z,z] [0]) [x 21]<|
 l .sub [x 22,i 0,i 1]<|
 l (.app 24 3) [x 17,x 18,x 23]<|
 l .len [x 24]<|
 l (.cell 0) [x 2]<|
 l oA [x 26,i 1]<|
 l .sub [x 24,i 0,x 25]<|
 l .agg [x 27,x 28]<|
 l (.cell 0) [x 2]<|
.ret [x 29,x 30,i 0]
def pZ:K:=
 l oL [x 10,x 9]<|
 b (x 11) (l (.cell 1) [x 2]<|
 l (.tix 3) [x 12,x 10]<|
 l (.elt 0 3) [x 12,x 13]<|
 l (.part 1 2) [x 14]<|
 l (.eqv [.i,.i]) [x 15,x 3]<|
 b (x 16) (l oH [x 10,i 0]<|
 b (x 17) (l .agg [i 0,.c (.sl [])]<|
.ret [x 18,i 0,i 14])<|
 l (.cell 1) [x 2]<|
 l .len [x 18]<|
 l oE [x 19,i 200]<|
 b (x 20) (l .agg [i 0,.c (.sl [])]<|
.ret [x 21,i 0,i 18])<|
 l (.cell 0) [x 2]<|
 l oE [x 21,i 1000000]<|
 b (x 22) (l .agg [i 0,.c (.sl [])]<|
.ret [x 23,i 0,i 18])<|
 l (.cell 1) [x 2]<|
 c 291 [x 23]<|
 l .len [x 24]<|
 l (.cell 0) [x 2]<|
 l (.part 0 2) [x 3]<|
 l .agg [x 26,x 27]<|
 l (.bs 1 [z,z,z] [0]) [x 28]<|
 l .sub [x 29,i 0,i 1]<|
 l (.app 24 3) [x 24,x 25,x 30]<|
 l .len [x 31]<|
 l (.cell 0) [x 2]<|
 l oA [x 33,i 1]<|
 l .sub [x 31,i 0,x 32]<|
 l .agg [x 34,x 35]<|
 l (.cell 0) [x 2]<|
.ret [x 36,x 37,i 0])<|
 l oA [x 10,i 1]<|
 j 1 [x 17])<|
 j 0 []
def vQ:K:=
 l (.shape 2) [x 0]<|
 l (.shape 2) [x 1]<|
 c 244 [x 2]<|
 l oN [x 4,i 0]<|
 b (x 5) (l .agg [i 0,.c (.sl [])]<|
.ret [x 6,i 0,x 4])<|
 c 324 [x 3]<|
 l (.un .not) [x 6]<|
 b (x 7) (l .agg [i 0,.c (.sl [])]<|
.ret [x 8,i 0,i 8])<|
 l (.cell 1) [x 2]<|
 l .len [x 8]<|
.jp Ad<|
.loop pZ<|
 j 1 [i 0]
def U8:List Hint:=[.no,.no,(.j ⟨0,[(4,(wi 0))],[(0,(.box [(r 2 0),(r 2 1)])),(1,(.box [(r 3 0),(r 3 1)])),(2,(.box [(.a (i 0)),.nil]))],3⟩),(.j ⟨1,[(1,(.w (.c (.fn 383 [] [(.ptr 1 0)])))),(0,(.w (.c (r 2 1)))),(4,(wi 0)),(7,(w 9)),(8,(w 10))],[(0,(.box [(r 2 0),(r 2 1)])),(1,(.box [(r 3 0),(r 3 1)])),(2,(.box [(.a (i 0)),.nil]))],3⟩),.no,.no,.no,.no,.no,.no,.no,.no,.no]
theorem U9:symF D0 100000 320 U8=some vQ:=by kernel_rfl
def Ae:K:=
 l .sub [x 5,i 0,x 6]<|
 l .sub [x 12,i 0,x 10]<|
 l .agg [x 13,x 14]<|
.ret [x 15]
def p6:K:=
 l oH [x 13,i 0]<|
 b (x 14) (l oM [i 2,x 13]<|
 l oA [x 15,i 1]<|
 l .sub [x 5,i 0,x 6]<|
 l .sub [x 12,i 0,x 10]<|
 l .agg [x 17,x 18]<|
 c 266 [x 19,x 16]<|
 l .flat [x 20]<|
 l oM [i 2,x 13]<|
 l oA [x 22,i 2]<|
 l .sub [x 5,i 0,x 6]<|
 l .sub [x 12,i 0,x 10]<|
 l .agg [x 24,x 25]<|
 c 266 [x 26,x 23]<|
 l .flat [x 27]<|
 c 267 [x 3,x 4,x 21,x 28]<|
 l .ix [x 13,x 10]<|
 l (.set 0) [x 12,x 30,x 29]<|
 l oS [x 13,i 1]<|
 j 1 [x 31,x 32])<|
 j 0 [x 12]
def vR:K:=
 l (.shape 1) [x 0]<|
 l (.shape 2) [x 1]<|
 l (.app 8 1) [.c (.sl []),i 0,x 2]<|
 l .len [x 5]<|
 l .len [x 2]<|
 l oS [x 7,i 1]<|
 l (.rep [z] 8) [x 8,x 8]<|
 l .len [x 9]<|
 l oS [x 10,i 1]<|
.jp Ae<|
.loop p6<|
 j 1 [x 9,x 11]
def Va:List Hint:=[(.j ⟨1,[(7,(p 0 0)),(6,(p 3 0))],[(0,(.box [(o 1 6),(o 2 10)])),(1,(.lst (x 5) (x 6) 1 false)),(2,(.lst (x 12) (x 10) 1 false)),(3,(.box [.nil,.nil]))],4⟩),(.j ⟨2,[(3,(p 0 0)),(4,(p 1 0)),(6,(p 2 0)),(7,(p 3 0)),(8,(w 13))],[(0,(.box [(r 3 0)])),(1,(.box [(r 4 0),(r 4 1)])),(2,(.box [.nil,.nil])),(3,(.box [(o 4 6),(o 5 10)])),(4,(.lst (x 5) (x 6) 1 false)),(5,(.lst (x 12) (x 10) 1 false))],6⟩),.no,.no]
theorem Vb:symF D0 100000 321 Va=some vR:=by kernel_rfl
def Af:K:=
 l .sub [x 1,i 0,x 2]<|
 l .sub [x 3,i 0,x 4]<|
 l .sub [x 6,i 0,x 7]<|
 l .agg [x 8,x 9,x 10]<|
.ret [x 11]
def k322_2:K:=
 l oH [x 8,i 0]<|
 b (x 9) (l (.bs 1 [z] [0]) [x 8]<|
 l .sub [x 10,i 0,i 1]<|
 l (.app 8 1) [x 6,x 7,x 11]<|
 l .len [x 12]<|
 l oS [x 8,i 1]<|
 j 1 [x 12,x 13,x 14])<|
 j 0 [x 6,x 7]
def vS:K:=
 l (.rep [z] 8) [x 0,x 0]<|
 l .len [x 1]<|
 l (.rep [(.v (.bool false))] 1) [x 0,x 0]<|
 l .len [x 3]<|
 l oS [x 0,i 1]<|
.jp Af<|
.loop k322_2<|
 j 1 [.c (.sl []),i 0,x 5]
def Vc:List Hint:=[(.j ⟨2,[(3,(p 0 0)),(2,(p 4 0))],[(0,(.box [(o 1 2),(o 2 4),(o 3 7)])),(1,(.lst (x 1) (x 2) 1 false)),(2,(.lst (x 3) (x 4) 1 false)),(3,(.lst (x 6) (x 7) 1 false)),(4,(.box [.nil,.nil,.nil]))],5⟩),(.j ⟨3,[(2,(p 0 0)),(3,(p 1 0)),(4,(w 8))],[(0,(.box [.nil,.nil,.nil])),(1,(.box [(o 2 2),(o 3 4),(o 4 7)])),(2,(.lst (x 1) (x 2) 1 false)),(3,(.lst (x 3) (x 4) 1 false)),(4,(.lst (x 6) (x 7) 1 false))],5⟩),.no,.no]
theorem Vd:symF D0 100000 322 Vc=some vS:=by kernel_rfl
def vT:K:=
 l (.shape 3) [x 0]<|
 l (.shape 3) [x 1]<|
 l (.shape 2) [x 2]<|
 c 384 [x 3,x 4,x 5]<|
 l oN [x 6,i 0]<|
 b (x 7) (l oG [x 6,i 0]<|
.ret [x 8])<|
 l (.cell 2) [x 3]<|
 l (.cell 2) [x 4]<|
 l oN [x 8,x 9]<|
 b (x 10) (l (.cell 2) [x 3]<|
 l (.cell 2) [x 4]<|
 l oG [x 11,x 12]<|
.ret [x 13])<|
 l (.cell 0) [x 3]<|
 l (.cell 0) [x 4]<|
 l oL [x 11,x 12]<|
.ret [x 13]
def Ve:List Hint:=[.no,.no]
theorem Vf:symF D0 100000 323 Ve=some vT:=by kernel_rfl
def Ag:K:=
.ret [x 2]
def vU:K:=
 l (.shape 2) [x 0]<|
.jp Ag<|
 l (.cell 0) [x 1]<|
 l (.cell 1) [x 1]<|
 l (.mm false) [x 2,x 3]<|
 l oH [x 4,i 0]<|
 b (x 5) (l (.cell 0) [x 1]<|
 l (.cell 1) [x 1]<|
 l (.mm true) [x 6,x 7]<|
 l oK [x 8,i 65535]<|
 b (x 9) (l (.cell 0) [x 1]<|
 l (.cell 1) [x 1]<|
 l oN [x 10,x 11]<|
 j 0 [x 12])<|
 j 0 [.c (.v (.bool false))])<|
 j 0 [.c (.v (.bool false))]
def Vg:List Hint:=[(.j ⟨1,[(2,(w 2))],[],0⟩)]
theorem Vh:symF D0 100000 324 Vg=some vU:=by kernel_rfl
def Ah:K:=
.ret [i 0]
def Ai:K:=
 b (x 28) (.ret [i 8])<|
 l oA [x 21,i 1]<|
 j 1 [x 29]
def p7:K:=
 l oL [x 21,x 20]<|
 b (x 22) (l (.cell 0) [x 1]<|
 l (.tix 1) [x 23,x 21]<|
 l (.elt 0 0) [x 23,x 24]<|
.jp Ai<|
 l oL [x 25,i 0]<|
 b (x 26) (j 2 [x 26,.c (.v (.bool true)),.c (.v (.bool true))])<|
 l oG [x 25,i 1000000]<|
 b (x 27) (j 2 [x 26,x 27,.c (.v (.bool true))])<|
 l oE [x 25,i 0]<|
 b (x 28) (l (.cell 1) [x 1]<|
 l (.tix 1) [x 29,x 21]<|
 l (.elt 0 0) [x 29,x 30]<|
 j 2 [x 26,x 27,x 31])<|
 j 2 [x 26,x 27,.c (.v (.bool false))])<|
 j 0 []
def Aj:K:=
 l oH [i (-1),i 0]<|
 b (x 15) (.ret [i 8])<|
 l .sub [x 14,i 0,x 11]<|
 c 386 [x 16,.c (.v (.bool false))]<|
 l .flat [x 17]<|
 b (x 18) (.ret [i 8])<|
 l (.cell 0) [x 1]<|
 l .len [x 19]<|
.jp Ah<|
.loop p7<|
 j 1 [i 0]
def J5:K:=
.ret [i 0]
def J6:K:=
 b (x 34) (.ret [i 8])<|
 l oA [x 27,i 1]<|
 j 3 [x 35]
def J7:K:=
 l oL [x 27,x 26]<|
 b (x 28) (l (.cell 0) [x 1]<|
 l (.tix 1) [x 29,x 27]<|
 l (.elt 0 0) [x 29,x 30]<|
.jp J6<|
 l oL [x 31,i 0]<|
 b (x 32) (j 4 [x 32,.c (.v (.bool true)),.c (.v (.bool true))])<|
 l oG [x 31,i 1000000]<|
 b (x 33) (j 4 [x 32,x 33,.c (.v (.bool true))])<|
 l oE [x 31,i 0]<|
 b (x 34) (l (.cell 1) [x 1]<|
 l (.tix 1) [x 35,x 27]<|
 l (.elt 0 0) [x 35,x 36]<|
 j 4 [x 32,x 33,x 37])<|
 j 4 [x 32,x 33,.c (.v (.bool false))])<|
 j 2 []
def J8:K:=
.ret [i 0]
def J9:K:=
 b (x 35) (.ret [i 8])<|
 l oA [x 28,i 1]<|
 j 3 [x 36]
def GJ:K:=
 l oL [x 28,x 27]<|
 b (x 29) (l (.cell 0) [x 1]<|
 l (.tix 1) [x 30,x 28]<|
 l (.elt 0 0) [x 30,x 31]<|
.jp J9<|
 l oL [x 32,i 0]<|
 b (x 33) (j 4 [x 33,.c (.v (.bool true)),.c (.v (.bool true))])<|
 l oG [x 32,i 1000000]<|
 b (x 34) (j 4 [x 33,x 34,.c (.v (.bool true))])<|
 l oE [x 32,i 0]<|
 b (x 35) (l (.cell 1) [x 1]<|
 l (.tix 1) [x 36,x 28]<|
 l (.elt 0 0) [x 36,x 37]<|
 j 4 [x 33,x 34,x 38])<|
 j 4 [x 33,x 34,.c (.v (.bool false))])<|
 j 2 []
def GK:K:=
.ret [i 0]
def GL:K:=
 b (x 37) (.ret [i 8])<|
 l oA [x 30,i 1]<|
 j 3 [x 38]
def GM:K:=
 l oL [x 30,x 29]<|
 b (x 31) (l (.cell 0) [x 1]<|
 l (.tix 1) [x 32,x 30]<|
 l (.elt 0 0) [x 32,x 33]<|
.jp GL<|
 l oL [x 34,i 0]<|
 b (x 35) (j 4 [x 35,.c (.v (.bool true)),.c (.v (.bool true))])<|
 l oG [x 34,i 1000000]<|
 b (x 36) (j 4 [x 35,x 36,.c (.v (.bool true))])<|
 l oE [x 34,i 0]<|
 b (x 37) (l (.cell 1) [x 1]<|
 l (.tix 1) [x 38,x 30]<|
 l (.elt 0 0) [x 38,x 39]<|
 j 4 [x 35,x 36,x 40])<|
 j 4 [x 35,x 36,.c (.v (.bool false))])<|
 j 2 []
def kU:K:=
 l oL [x 15,x 13]<|
 b (x 16) (l (.cell 2) [x 1]<|
 l (.tix 1) [x 17,x 15]<|
 l (.elt 0 0) [x 17,x 18]<|
 l oL [x 19,i 0]<|
 b (x 20) (l oH [x 15,i 0]<|
 b (x 21) (.ret [i 8])<|
 l .sub [x 14,i 0,x 11]<|
 c 386 [x 22,.c (.v (.bool false))]<|
 l .flat [x 23]<|
 b (x 24) (.ret [i 8])<|
 l (.cell 0) [x 1]<|
 l .len [x 25]<|
.jp J5<|
.loop J7<|
 j 3 [i 0])<|
 l oH [x 19,x 3]<|
 b (x 21) (l oH [x 15,i 0]<|
 b (x 22) (.ret [i 8])<|
 l .sub [x 14,i 0,x 11]<|
 c 386 [x 23,.c (.v (.bool false))]<|
 l .flat [x 24]<|
 b (x 25) (.ret [i 8])<|
 l (.cell 0) [x 1]<|
 l .len [x 26]<|
.jp J8<|
.loop GJ<|
 j 3 [i 0])<|
 l .ix [x 19,x 11]<|
 l (.elt 0 0) [x 14,x 22]<|
 b (x 23) (l oH [x 15,i 0]<|
 b (x 24) (.ret [i 8])<|
 l .sub [x 14,i 0,x 11]<|
 c 386 [x 25,.c (.v (.bool false))]<|
 l .flat [x 26]<|
 b (x 27) (.ret [i 8])<|
 l (.cell 0) [x 1]<|
 l .len [x 28]<|
.jp GK<|
.loop GM<|
 j 3 [i 0])<|
 l .ix [x 19,x 11]<|
 l (.set 0) [x 14,x 24,.c (.v (.bool true))]<|
 l oA [x 15,i 1]<|
 j 1 [x 25,x 26])<|
 j 0 [x 14]
def vV:K:=
 l (.shape 3) [x 0]<|
 l (.cell 0) [x 1]<|
 l .len [x 2]<|
 l oL [x 3,i 1]<|
 b (x 4) (.ret [i 8])<|
 l oG [x 3,i 200]<|
 b (x 5) (.ret [i 8])<|
 l (.cell 1) [x 1]<|
 l .len [x 6]<|
 l oN [x 7,x 3]<|
 b (x 8) (.ret [i 8])<|
 l (.cell 1) [x 1]<|
 c 294 [x 9]<|
 l .len [x 10]<|
 l (.cell 2) [x 1]<|
 l .len [x 12]<|
.jp Aj<|
.loop kU<|
 j 1 [x 10,i 0]
def Vi:List Hint:=[.no,.no,(.j ⟨1,[(4,(wi 0))],[(0,(.box (pcs (x 1) 0 3))),(1,(.box [(a 3)])),(2,(.lst (x 14) (x 11) 1 false)),(3,(.box [(o 2 11)]))],4⟩),(.j ⟨2,[(1,(.w (.c (.fn 385 [] [(.ptr 1 0),(.ptr 3 0)])))),(0,(.w (.c (r 1 2)))),(4,(wi 0)),(7,(w 13)),(8,(w 15))],[(0,(.box (pcs (x 1) 0 3))),(1,(.box [(a 3)])),(2,(.lst (x 14) (x 11) 1 false)),(3,(.box [(o 2 11)]))],4⟩),.no,.no,.no,.no,.no,(.j ⟨0,[(2,(wi 0))],[],0⟩),(.j ⟨1,[(1,(p 0 0)),(2,(wi 0)),(37,(.w (.c (r 1 0)))),(38,(w 26)),(39,(w 27))],[(0,(.box (pcs (x 1) 0 3)))],1⟩),.no,.no,(.j ⟨3,[(39,(w 27)),(38,(w 26)),(37,(.w (.c (r 1 0)))),(2,(wi 0)),(1,(p 0 0)),(40,(w 28)),(41,(w 27)),(42,(.w (.c (.tp (x 29) (x 30) 0)))),(43,(w 31)),(6,(w 27)),(7,(w 31)),(44,(w 31)),(45,(w 32)),(46,(w 32)),(49,(w 33)),(50,(w 33)),(60,(w 34))],[(0,(.box (pcs (x 1) 0 3)))],1⟩),.no,.no,.no,(.j ⟨0,[(2,(wi 0))],[],0⟩),(.j ⟨1,[(1,(p 0 0)),(2,(wi 0)),(37,(.w (.c (r 1 0)))),(38,(w 27)),(39,(w 28))],[(0,(.box (pcs (x 1) 0 3)))],1⟩),.no,.no,(.j ⟨3,[(39,(w 28)),(38,(w 27)),(37,(.w (.c (r 1 0)))),(2,(wi 0)),(1,(p 0 0)),(40,(w 29)),(41,(w 28)),(42,(.w (.c (.tp (x 30) (x 31) 0)))),(43,(w 32)),(6,(w 28)),(7,(w 32)),(44,(w 32)),(45,(w 33)),(46,(w 33)),(49,(w 34)),(50,(w 34)),(60,(w 35))],[(0,(.box (pcs (x 1) 0 3)))],1⟩),.no,.no,.no,.no,(.j ⟨0,[(2,(wi 0))],[],0⟩),(.j ⟨1,[(1,(p 0 0)),(2,(wi 0)),(37,(.w (.c (r 1 0)))),(38,(w 29)),(39,(w 30))],[(0,(.box (pcs (x 1) 0 3)))],1⟩),.no,.no,(.j ⟨3,[(39,(w 30)),(38,(w 29)),(37,(.w (.c (r 1 0)))),(2,(wi 0)),(1,(p 0 0)),(40,(w 31)),(41,(w 30)),(42,(.w (.c (.tp (x 32) (x 33) 0)))),(43,(w 34)),(6,(w 30)),(7,(w 34)),(44,(w 34)),(45,(w 35)),(46,(w 35)),(49,(w 36)),(50,(w 36)),(60,(w 37))],[(0,(.box (pcs (x 1) 0 3)))],1⟩),.no,.no,.no,(.j ⟨0,[(2,(wi 0))],[],0⟩),(.j ⟨1,[(1,(p 0 0)),(2,(wi 0)),(37,(.w (.c (r 1 0)))),(38,(w 20)),(39,(w 21))],[(0,(.box (pcs (x 1) 0 3)))],1⟩),.no,.no,(.j ⟨3,[(39,(w 21)),(38,(w 20)),(37,(.w (.c (r 1 0)))),(2,(wi 0)),(1,(p 0 0)),(40,(w 22)),(41,(w 21)),(42,(.w (.c (.tp (x 23) (x 24) 0)))),(43,(w 25)),(6,(w 21)),(7,(w 25)),(44,(w 25)),(45,(w 26)),(46,(w 26)),(49,(w 27)),(50,(w 27)),(60,(w 28))],[(0,(.box (pcs (x 1) 0 3)))],1⟩),.no]
theorem Vj:symF D0 100000 325 Vi=some vV:=by kernel_rfl
def vW:K:=
 l (.shape 5) [x 0]<|
 l (.shape 5) [x 1]<|
 l (.part 0 2) [x 2]<|
 l (.part 0 2) [x 3]<|
 c 117 [x 4,x 5]<|
 l (.cell 2) [x 2]<|
 l (.cell 2) [x 3]<|
 c 354 [x 8,x 9]<|
 l (.bs 2 [z] [0,1]) [x 6,x 10]<|
 l .sub [x 11,i 0,i 2]<|
 c 387 [x 12]<|
 l .flat [x 13]<|
.ret [x 14]
def Vk:List Hint:=[]
theorem Vl:symF D0 100000 326 Vk=some vW:=by kernel_rfl
def vX:K:=
 l (.shape 3) [x 0]<|
 l (.shape 3) [x 1]<|
 l (.shape 2) [x 2]<|
 c 328 [x 3,x 4,x 5]<|
 l oN [x 6,i 0]<|
 b (x 7) (l .agg [i 0,i 0]<|
.ret [x 8,.c (.v (.bool false)),x 6])<|
 c 329 [x 4,x 3,x 5]<|
 l oG [x 8,i 0]<|
 b (x 9) (.ret [x 5,.c (.v (.bool true)),i 0])<|
 l (.cell 2) [x 4]<|
 l (.cell 2) [x 3]<|
 l oK [x 10,x 11]<|
 b (x 12) (l .agg [i 0,i 0]<|
.ret [x 13,.c (.v (.bool false)),i 0])<|
 c 388 [x 3,x 4]<|
 l (.shape 2) [x 13]<|
 l oE [x 14,i 0]<|
.ret [x 15,x 16,x 14]
def Vm:List Hint:=[.no,.no,.no]
theorem Vn:symF D0 100000 327 Vm=some vX:=by kernel_rfl
def vY:K:=
 l (.shape 3) [x 0]<|
 l (.shape 3) [x 1]<|
 l (.shape 2) [x 2]<|
 c 270 [x 3]<|
 c 270 [x 4]<|
 c 43 [x 5]<|
 l (.mm true) [x 6,x 7]<|
 l (.mm true) [x 9,x 8]<|
 l oN [x 10,i 0]<|
 b (x 11) (.ret [x 10])<|
 l (.cell 0) [x 3]<|
 l (.cell 0) [x 4]<|
 l oE [x 12,x 13]<|
 b (x 14) (.ret [i 2])<|
.ret [i 0]
def Vo:List Hint:=[.no,.no]
theorem Vp:symF D0 100000 328 Vo=some vY:=by kernel_rfl
def vZ:K:=
 l (.shape 3) [x 0]<|
 l (.shape 3) [x 1]<|
 l (.shape 2) [x 2]<|
 l (.cell 1) [x 3]<|
 l (.cell 1) [x 4]<|
 l oS [x 6,x 7]<|
 l (.cell 2) [x 3]<|
 l (.cell 2) [x 4]<|
 l oS [x 9,x 10]<|
 l (.cell 1) [x 5]<|
 l (.cell 0) [x 5]<|
 l .agg [x 8,x 12,x 11,x 13]<|
 c 389 [x 14]<|
 l (.shape 2) [x 15]<|
 l .agg [i 0,.c (.v (.int .u64 0))]<|
 l (.eqv [.i,.i]) [x 16,x 17]<|
 l (.un .not) [x 18]<|
 b (x 19) (l (.cell 0) [x 16]<|
 l oL [x 20,i 0]<|
 b (x 21) (.ret [i (-1)])<|
.ret [i 1])<|
 l (.cell 2) [x 3]<|
 l (.cell 2) [x 4]<|
 c 211 [x 20,x 21]<|
 l (.cell 0) [x 4]<|
 l (.cell 0) [x 3]<|
 c 354 [x 23,x 24]<|
 l (.bs 2 [z] [0,1]) [x 22,x 25]<|
 l .sub [x 26,i 0,i 2]<|
 c 387 [x 27]<|
 l .flat [x 28]<|
.ret [x 29]
def Vq:List Hint:=[.no,.no]
theorem Vr:symF D0 100000 329 Vq=some vZ:=by kernel_rfl
def Ak:K:=
.ret [x 2]
def v6:K:=
 l (.shape 2) [x 0]<|
.jp Ak<|
 l (.cell 0) [x 1]<|
 l oH [x 2,i 0]<|
 b (x 3) (l (.cell 0) [x 1]<|
 l oK [x 4,i 65535]<|
 b (x 5) (l (.cell 1) [x 1]<|
 l oH [x 6,i 0]<|
 b (x 7) (l (.cell 1) [x 1]<|
 l oK [x 8,i 65535]<|
 b (x 9) (l (.cell 0) [x 1]<|
 l (.cell 1) [x 1]<|
 l oN [x 10,x 11]<|
 j 0 [x 12])<|
 j 0 [.c (.v (.bool false))])<|
 j 0 [.c (.v (.bool false))])<|
 j 0 [.c (.v (.bool false))])<|
 j 0 [.c (.v (.bool false))]
def Vs:List Hint:=[(.j ⟨1,[(2,(w 2))],[],0⟩)]
theorem Vt:symF D0 100000 344 Vs=some v6:=by kernel_rfl
def Am:K:=
.ret [i 0]
def An:K:=
 b (x 23) (.ret [i 8])<|
 l oA [x 15,i 1]<|
 j 1 [x 24]
def p8:K:=
 l oL [x 15,x 3]<|
 b (x 16) (.jp An<|
 l (.cell 0) [x 1]<|
 l (.tix 1) [x 17,x 15]<|
 l (.elt 0 0) [x 17,x 18]<|
 l oL [x 19,i 0]<|
 b (x 20) (j 2 [x 17,x 18,x 19,x 20,.c (.v (.bool true)),.c (.v (.bool true)),.c (.v (.bool true))])<|
 l (.cell 0) [x 1]<|
 l (.tix 1) [x 21,x 15]<|
 l (.elt 0 0) [x 21,x 22]<|
 l oG [x 23,i 1000000]<|
 b (x 24) (j 2 [x 17,x 18,x 19,x 20,x 24,.c (.v (.bool true)),.c (.v (.bool true))])<|
 l (.cell 1) [x 1]<|
 l (.tix 1) [x 25,x 15]<|
 l (.elt 0 0) [x 25,x 26]<|
 l .ix [x 15,x 13]<|
 l (.elt 0 0) [x 14,x 28]<|
 l (.bbin .eql) [x 27,x 29]<|
 b (x 30) (j 2 [x 17,x 18,x 19,x 20,x 24,x 30,.c (.v (.bool true))])<|
 l (.cell 1) [x 1]<|
 l (.tix 1) [x 31,x 15]<|
 l (.elt 0 0) [x 31,x 32]<|
 b (x 33) (l (.cell 0) [x 1]<|
 l (.tix 1) [x 34,x 15]<|
 l (.elt 0 0) [x 34,x 35]<|
 l oL [x 36,i 1]<|
 j 2 [x 17,x 18,x 19,x 20,x 24,x 30,x 37])<|
 j 2 [x 17,x 18,x 19,x 20,x 24,x 30,.c (.v (.bool false))])<|
 j 0 []
def Ao:K:=
.jp Am<|
.loop p8<|
 j 1 [i 0]
def p9:K:=
 l (.cell 2) [x 1]<|
 l .len [x 16]<|
 l oL [x 15,x 17]<|
 b (x 18) (l (.cell 2) [x 1]<|
 l (.tix 1) [x 19,x 15]<|
 l (.elt 0 0) [x 19,x 20]<|
 l oL [x 21,i 0]<|
 b (x 22) (.ret [i 8])<|
 l (.cell 2) [x 1]<|
 l (.tix 1) [x 23,x 15]<|
 l (.elt 0 0) [x 23,x 24]<|
 l oH [x 25,x 3]<|
 b (x 26) (.ret [i 8])<|
 l (.cell 2) [x 1]<|
 l (.tix 1) [x 27,x 15]<|
 l (.elt 0 0) [x 27,x 28]<|
 l .ix [x 29,x 13]<|
 l (.elt 0 0) [x 14,x 30]<|
 b (x 31) (.ret [i 8])<|
 l (.cell 2) [x 1]<|
 l (.tix 1) [x 32,x 15]<|
 l (.elt 0 0) [x 32,x 33]<|
 l .ix [x 34,x 13]<|
 l (.set 0) [x 14,x 35,.c (.v (.bool true))]<|
 l oA [x 15,i 1]<|
 j 1 [x 36,x 37])<|
 j 0 [x 14]
def v7:K:=
 l (.shape 3) [x 0]<|
 l (.cell 0) [x 1]<|
 l .len [x 2]<|
 l oL [x 3,i 1]<|
 b (x 4) (.ret [i 8])<|
 l oG [x 3,i 200]<|
 b (x 5) (.ret [i 8])<|
 l (.cell 1) [x 1]<|
 l .len [x 6]<|
 l oN [x 7,x 3]<|
 b (x 8) (.ret [i 8])<|
 l (.cell 2) [x 1]<|
 l .len [x 9]<|
 l oG [x 10,x 3]<|
 b (x 11) (.ret [i 8])<|
 l (.rep [(.v (.bool false))] 1) [x 3,x 3]<|
 l .len [x 12]<|
.jp Ao<|
.loop p9<|
 j 1 [x 12,i 0]
def Vu:List Hint:=[.no,.no,(.j ⟨1,[(4,(.w (.c (o 0 13)))),(3,(w 3)),(2,(wi 0)),(1,(p 1 0))],[(0,(.lst (x 14) (x 13) 1 false)),(1,(.box (pcs (x 1) 0 3)))],2⟩),(.j ⟨2,[(1,(p 0 0)),(2,(wi 0)),(3,(w 3)),(4,(.w (.c (o 1 13)))),(5,(w 15))],[(0,(.box (pcs (x 1) 0 3))),(1,(.lst (x 14) (x 13) 1 false))],2⟩),.no,.no,.no,.no,(.j ⟨0,[(2,(wi 0))],[],0⟩),(.j ⟨1,[(1,(p 0 0)),(2,(wi 0)),(3,(w 3)),(4,(.w (.c (o 1 13)))),(6,(w 15))],[(0,(.box (pcs (x 1) 0 3))),(1,(.lst (x 14) (x 13) 1 false))],2⟩),.no,.no,(.j ⟨7,[(6,(w 15)),(4,(.w (.c (o 0 13)))),(3,(w 3)),(2,(wi 0)),(1,(p 1 0)),(71,(w 15)),(72,(w 3)),(73,(w 16)),(76,(p 1 0)),(77,(.w (.c (r 1 0)))),(78,(w 15)),(79,(.w (.c (.tp (x 17) (x 18) 0)))),(80,(w 19)),(81,(w 20)),(82,(w 20)),(89,(w 21)),(90,(w 21)),(101,(w 22)),(102,(w 22)),(116,(w 23))],[(0,(.lst (x 14) (x 13) 1 false)),(1,(.box (pcs (x 1) 0 3)))],2⟩),.no]
theorem Vv:symF D0 100000 345 Vu=some v7:=by kernel_rfl
def Ap:K:=
.ret [.c (.v (.bool true))]
def qa:K:=
 l oA [x 13,i 1]<|
 j 1 [x 19]
def qb:K:=
 l oL [x 13,x 3]<|
 b (x 14) (.jp qa<|
 l (.cell 1) [x 1]<|
 l (.tix 1) [x 15,x 13]<|
 l (.elt 0 0) [x 15,x 16]<|
 l (.un .not) [x 17]<|
 b (x 18) (l (.cell 4) [x 1]<|
 l (.tix 1) [x 19,x 13]<|
 l (.elt 0 0) [x 19,x 20]<|
 l oN [x 21,i (-1)]<|
 b (x 22) (.ret [.c (.v (.bool false))])<|
 j 2 [x 15,x 16,x 17,x 18])<|
 l (.cell 4) [x 1]<|
 l (.tix 1) [x 19,x 13]<|
 l (.elt 0 0) [x 19,x 20]<|
 l oL [x 21,i 0]<|
 b (x 22) (.ret [.c (.v (.bool false))])<|
 l (.cell 3) [x 1]<|
 l .len [x 23]<|
 l oH [x 21,x 24]<|
 b (x 25) (.ret [.c (.v (.bool false))])<|
 l (.cell 3) [x 1]<|
 l (.tix 5) [x 26,x 21]<|
 l (.elt 3 0) [x 26,x 27]<|
 l oN [x 28,x 13]<|
 b (x 29) (.ret [.c (.v (.bool false))])<|
 l (.part 0 3) [x 1]<|
 l (.cell 3) [x 1]<|
 l (.tix 5) [x 31,x 21]<|
 l (.elt 3 2) [x 31,x 32]<|
 c 349 [x 30,x 33]<|
 l (.un .not) [x 34]<|
 b (x 35) (.ret [.c (.v (.bool false))])<|
 j 2 [x 15,x 16,x 17,x 18])<|
 j 0 []
def v8:K:=
 l (.shape 5) [x 0]<|
 l (.cell 0) [x 1]<|
 l .len [x 2]<|
 l (.cell 4) [x 1]<|
 l .len [x 4]<|
 l oN [x 5,x 3]<|
 b (x 6) (.ret [.c (.v (.bool false))])<|
 l (.cell 3) [x 1]<|
 l .len [x 7]<|
 l (.cell 2) [x 1]<|
 l .len [x 9]<|
 l oS [x 3,x 10]<|
 l oN [x 8,x 11]<|
 b (x 12) (.ret [.c (.v (.bool false))])<|
.jp Ap<|
.loop qb<|
 j 1 [i 0]
def Vw:List Hint:=[.no,.no,(.j ⟨0,[(2,(.w (.c (.a (.c (.v (.bool false)))))))],[],0⟩),(.j ⟨1,[(1,(p 0 0)),(2,(.w (.c (.a (.c (.v (.bool false))))))),(3,(w 3)),(4,(w 13))],[(0,(.box (pcs (x 1) 0 5)))],1⟩),.no,(.j ⟨4,[(4,(w 13)),(3,(w 3)),(2,(.w (.c (.a (.c (.v (.bool false))))))),(1,(p 0 0)),(27,(w 13)),(28,(w 3)),(29,(w 14)),(32,(p 0 0)),(33,(p 0 1)),(34,(.w (.c (r 1 1)))),(35,(w 13)),(36,(.w (.c (.tp (x 15) (x 16) 0)))),(37,(w 17)),(38,(w 18))],[(0,(.box (pcs (x 1) 0 5)))],1⟩),.no,.no,.no,.no]
theorem Vx:symF D0 100000 346 Vw=some v8:=by kernel_rfl
def Aq:K:=
.ret [x 7]
def wa:K:=
 l (.shape 5) [x 0]<|
 l (.shape 5) [x 1]<|
 l (.part 0 2) [x 2]<|
 l (.part 0 2) [x 3]<|
 c 224 [x 4,x 5]<|
.jp Aq<|
 l oL [x 6,i 0]<|
 b (x 7) (j 0 [.c (.v (.bool true))])<|
 l oE [x 6,i 0]<|
 b (x 8) (l (.cell 2) [x 2]<|
 l (.cell 2) [x 3]<|
 l oL [x 9,x 10]<|
 j 0 [x 11])<|
 j 0 [.c (.v (.bool false))]
def Vy:List Hint:=[(.j ⟨1,[(4,(w 7))],[],0⟩)]
theorem Vz:symF D0 100000 347 Vy=some wa:=by kernel_rfl
def wb:K:=
 l (.shape 3) [x 0]<|
 l (.shape 3) [x 1]<|
 l (.shape 2) [x 2]<|
 c 323 [x 4,x 3,x 5]<|
 b (x 6) (.ret [x 5,.c (.v (.bool true))])<|
 l (.cell 2) [x 4]<|
 l (.cell 2) [x 3]<|
 l oG [x 7,x 8]<|
 b (x 9) (c 396 [x 3,x 4]<|
 l (.shape 2) [x 10]<|
.ret [x 11,.c (.v (.bool true))])<|
 l .agg [i 0,i 0]<|
.ret [x 10,.c (.v (.bool false))]
def VA:List Hint:=[.no,.no]
theorem VB:symF D0 100000 348 VA=some wb:=by kernel_rfl
def Ar:K:=
.ret [x 4]
def wc:K:=
 l (.shape 3) [x 0]<|
 l (.shape 2) [x 1]<|
.jp Ar<|
 l (.cell 0) [x 3]<|
 l oH [x 4,i 0]<|
 b (x 5) (l (.cell 0) [x 2]<|
 l .len [x 6]<|
 l (.cell 0) [x 3]<|
 l oL [x 8,x 7]<|
 b (x 9) (l (.cell 1) [x 2]<|
 l (.cell 0) [x 3]<|
 l (.tix 1) [x 10,x 11]<|
 l (.elt 0 0) [x 10,x 12]<|
 b (x 13) (l (.cell 0) [x 2]<|
 l (.cell 0) [x 3]<|
 l (.tix 1) [x 14,x 15]<|
 l (.elt 0 0) [x 14,x 16]<|
 l (.cell 1) [x 3]<|
 l oE [x 17,x 18]<|
 j 0 [x 19])<|
 j 0 [.c (.v (.bool false))])<|
 j 0 [.c (.v (.bool false))])<|
 j 0 [.c (.v (.bool false))]
def VC:List Hint:=[(.j ⟨1,[(4,(w 4))],[],0⟩)]
theorem VD:symF D0 100000 349 VC=some wc:=by kernel_rfl
def k350_1:K:=
.ret [x 10,x 12]
def wd:K:=
 l .len [x 5]<|
 l (.shape 2) [x 2]<|
 l (.shape 1) [x 0]<|
 l (.shape 2) [x 1]<|
 c 397 [x 8,x 9,x 3,x 4]<|
 l oH [x 10,i 0]<|
.jp k350_1<|
 b (x 11) (l (.cell 0) [x 7]<|
 l .agg [x 12,.c (.sl [])]<|
 c 350 [x 8,x 9,x 13,x 3,x 10,x 5]<|
 l .ix [x 10,x 6]<|
 l (.set 1) [x 15,x 16,x 14]<|
 l oA [x 10,i 1]<|
 l (.cell 0) [x 7]<|
 l .agg [x 19,.c (.sl [])]<|
 c 350 [x 8,x 9,x 20,x 18,x 4,x 17]<|
 l .ix [x 10,x 6]<|
 l (.set 2) [x 22,x 23,x 21]<|
 j 0 [x 24])<|
 j 0 [x 5]
def VE:List Hint:=[(.j ⟨1,[(10,(wi 0)),(11,(w 10))],[(0,(.lst (x 12) (x 6) 3 false))],1⟩)]
theorem VF:symF D0 100000 350 VE=some wd:=by kernel_rfl
def wg:K:=
 c 395 [x 0]<|
 c 395 [x 1]<|
 b (x 2) (b (x 3) (.ret [i 0])<|
.ret [i (-1)])<|
 b (x 3) (.ret [i 1])<|
 l oL [x 0,x 1]<|
 b (x 4) (.ret [i (-1)])<|
 l oG [x 0,x 1]<|
 b (x 5) (.ret [i 1])<|
.ret [i 0]
def VG:List Hint:=[.no,.no,.no,.no,.no]
theorem VH:symF D0 100000 354 VG=some wg:=by kernel_rfl
def wj:K:=
 l oN [x 0,x 0]<|
.ret [x 1]
def VI:List Hint:=[]
theorem VJ:symF D0 100000 359 VI=some wj:=by kernel_rfl
def gv:K:=
.ret [x 5,x 6]
def Ka:K:=
.jp gv<|
 l oL [x 5,x 4]<|
 b (x 6) (l (.cell 0) [x 2]<|
 l (.tix 3) [x 7,x 5]<|
 l (.elt 0 3) [x 7,x 8]<|
 l (.cell 0) [x 9]<|
 c 354 [x 10,x 1]<|
 l oE [x 11,i 0]<|
 j 0 [x 12])<|
 j 0 [.c (.v (.bool false))]
def Kb:K:=
 j 1 [x 19,x 18]
def Kc:K:=
 l oL [x 5,x 6]<|
 b (x 7) (l oA [x 5,x 6]<|
 l (.conv .u64) [x 8]<|
 l (.bin .shr) [x 9,.c (.v (.int .u64 1))]<|
 l (.conv .i64) [x 10]<|
 l (.cell 0) [x 2]<|
 l (.tix 3) [x 12,x 11]<|
 l (.elt 0 3) [x 12,x 13]<|
 l (.cell 0) [x 14]<|
 c 354 [x 15,x 1]<|
 l oL [x 16,i 0]<|
.jp Kb<|
 b (x 17) (l oA [x 11,i 1]<|
 j 2 [x 6,x 18])<|
 j 2 [x 11,x 5])<|
 j 0 [x 5]
def qc:K:=
 l (.shape 1) [x 0]<|
 l (.cell 0) [x 2]<|
 l .len [x 3]<|
.jp Ka<|
.loop Kc<|
 j 1 [i 0,x 4]
def VK:List Hint:=[(.j ⟨1,[(9,(w 5)),(8,(w 4)),(7,(.w (.c (.a (.c (.v (.bool false))))))),(6,(wi 0)),(0,(.w (.c (r 2 0)))),(1,(w 1)),(2,(.w (.c (.fn 404 [] []))))],[(0,(.box [(r 2 0)]))],1⟩),(.j ⟨2,[(2,(.w (.c (.fn 404 [] [])))),(1,(w 1)),(0,(.w (.c (r 2 0)))),(6,(wi 0)),(7,(.w (.c (.a (.c (.v (.bool false))))))),(8,(w 4)),(9,(w 5)),(10,(w 6))],[(0,(.box [(r 2 0)]))],1⟩),.no,.no,(.j ⟨2,[(10,(w 18)),(8,(w 4)),(7,(.w (.c (.a (.c (.v (.bool false))))))),(6,(wi 0)),(0,(.w (.c (r 2 0)))),(1,(w 1)),(2,(.w (.c (.fn 404 [] [])))),(15,(w 5)),(16,(w 6)),(17,(w 7)),(18,(w 5)),(19,(w 6)),(20,(w 8)),(21,(w 9)),(22,(w 10)),(23,(w 11)),(11,(w 11)),(24,(.w (.c (.fn 404 [] [])))),(25,(.w (.c (r 2 0)))),(26,(w 11)),(27,(.w (.c (.tp (x 12) (x 13) 0)))),(28,(v 14)),(29,(w 1)),(30,(w 16)),(31,(w 17)),(9,(w 19))],[(0,(.box [(r 2 0)]))],1⟩),(.j ⟨1,[(6,(w 5)),(7,(w 6))],[(0,(.box [(r 2 0)]))],1⟩)]
theorem VM:symF D0 100000 367 VK=some qc:=by kernel_rfl
def wl:K:=
 l (.bin .quo) [x 0,.c (.v (.int .u64 4294967296))]<|
 l (.bin .rem) [x 0,.c (.v (.int .u64 4294967296))]<|
 l (.bin .quo) [x 1,.c (.v (.int .u64 4294967296))]<|
 l (.bin .rem) [x 1,.c (.v (.int .u64 4294967296))]<|
 l oM [x 3,x 5]<|
 l oM [x 2,x 5]<|
 l (.bin .quo) [x 6,.c (.v (.int .u64 4294967296))]<|
 l oA [x 7,x 8]<|
 l oM [x 3,x 4]<|
 l (.bin .rem) [x 9,.c (.v (.int .u64 4294967296))]<|
 l oA [x 10,x 11]<|
 l oM [x 2,x 4]<|
 l (.bin .quo) [x 9,.c (.v (.int .u64 4294967296))]<|
 l oA [x 13,x 14]<|
 l (.bin .quo) [x 12,.c (.v (.int .u64 4294967296))]<|
 l oA [x 15,x 16]<|
 l (.bin .rem) [x 12,.c (.v (.int .u64 4294967296))]<|
 l oM [x 18,.c (.v (.int .u64 4294967296))]<|
 l (.bin .rem) [x 6,.c (.v (.int .u64 4294967296))]<|
 l oA [x 19,x 20]<|
 l .agg [.c (.v (.bool false)),x 17,x 21]<|
.ret [x 22]
def VN:List Hint:=[]
theorem VO:symF D0 100000 368 VN=some wl:=by kernel_rfl
def qd:K:=
.ret [x 4]
def wm:K:=
 l (.shape 3) [x 0]<|
 l (.cell 2) [x 1]<|
 l .len [x 2]<|
.jp qd<|
 l oG [x 3,i 0]<|
 b (x 4) (l oS [x 3,i 1]<|
 l (.cell 2) [x 1]<|
 l (.tix 1) [x 6,x 5]<|
 l (.elt 0 0) [x 6,x 7]<|
 l (.cell 0) [x 1]<|
 l (.tix 1) [x 9,x 8]<|
 l (.elt 0 0) [x 9,x 10]<|
 l oL [x 11,i 1000000]<|
 j 0 [x 12])<|
 j 0 [.c (.v (.bool false))]
def VP:List Hint:=[(.j ⟨1,[(2,(w 4))],[],0⟩)]
theorem VQ:symF D0 100000 373 VP=some wm:=by kernel_rfl
def As:K:=
 l (.part 0 3) [x 23]<|
 l .sub [x 39,i 0,x 31]<|
 l .sub [x 38,i 0,x 16]<|
 l .agg [x 40,x 41,x 42]<|
.ret [x 43,x 24]
def k374_2:K:=
 l oG [x 37,i 0]<|
 b (x 40) (l .ix [x 37,x 31]<|
 l (.elt 0 5) [x 38,x 41]<|
 l oS [x 37,i 1]<|
 l (.bin .quo) [x 43,i 2]<|
 l .ix [x 44,x 31]<|
 l (.elt 0 5) [x 38,x 45]<|
 c 347 [x 42,x 46]<|
 b (x 47) (l oS [x 37,i 1]<|
 l (.bin .quo) [x 48,i 2]<|
 l .ix [x 49,x 31]<|
 l (.elt 0 5) [x 38,x 50]<|
 l .ix [x 37,x 31]<|
 l (.elt 0 5) [x 38,x 52]<|
 l .ix [x 37,x 31]<|
 l (.shape 5) [x 51]<|
 l (.set 0) [x 38,x 54,x 55]<|
 l .ix [x 49,x 31]<|
 l (.shape 5) [x 53]<|
 l (.set 0) [x 56,x 57,x 58]<|
 l .ix [x 37,x 31]<|
 l (.elt 3 0) [x 59,x 60]<|
 l .ix [x 49,x 31]<|
 l (.elt 3 0) [x 59,x 62]<|
 l .ix [x 61,x 16]<|
 l (.set 0) [x 39,x 64,x 37]<|
 l .ix [x 63,x 16]<|
 l (.set 0) [x 65,x 66,x 49]<|
 l oS [x 37,i 1]<|
 l (.bin .quo) [x 68,i 2]<|
 j 1 [x 69,x 59,x 67])<|
 j 0 [x 37,x 39,x 38])<|
 j 0 [x 37,x 39,x 38]
def k374:K:=
 l (.shape 5) [x 0]<|
 l (.shape 2) [x 1]<|
 c 209 [x 3]<|
 l (.shape 5) [x 5]<|
 l (.cell 0) [x 6]<|
 l .len [x 7]<|
 l (.cell 1) [x 6]<|
 l .len [x 9]<|
 l (.cell 2) [x 6]<|
 l .len [x 11]<|
 l (.cell 3) [x 6]<|
 l .len [x 13]<|
 l (.cell 4) [x 6]<|
 l .len [x 15]<|
 l .sub [x 7,i 0,x 8]<|
 l .sub [x 9,i 0,x 10]<|
 l .sub [x 11,i 0,x 12]<|
 l .agg [x 17,x 18,x 19]<|
 c 409 [x 20]<|
 l (.shape 3) [x 21]<|
 l (.shape 2) [x 22]<|
 l (.part 0 2) [x 4]<|
 l (.part 0 2) [x 24]<|
 l .agg [x 25,x 2,x 26]<|
 l (.bs 1 [z,z,z,z,z] [0]) [x 27]<|
 l .sub [x 28,i 0,i 1]<|
 l (.app 40 5) [x 13,x 14,x 29]<|
 l .len [x 30]<|
 l oS [x 31,i 1]<|
 l (.cell 0) [x 24]<|
 l .ix [x 33,x 16]<|
 l (.set 0) [x 15,x 34,x 32]<|
 l oS [x 31,i 1]<|
.jp As<|
.loop k374_2<|
 j 1 [x 36,x 30,x 35]
def VS:List Hint:=[(.j ⟨3,[(4,(wi 0)),(1,(w 37))],[(0,(.box (pcs (x 3) 0 5))),(1,(.box [(r 4 0),(r 4 1)])),(2,(.box [.nil,.nil,.nil,.nil,.nil])),(3,(.box [(.a (i 0)),(.a (i 0))])),(4,(.lst (x 7) (x 8) 1 true)),(5,(.lst (x 9) (x 10) 1 true)),(6,(.lst (x 11) (x 12) 1 true)),(8,(.lst (x 38) (x 16) 1 false)),(9,(.box [(r 23 0),(r 23 1),(r 23 2),(o 13 31),(o 8 16)])),(10,(.box (pcs (x 23) 0 3))),(11,(.box [(r 24 0),(r 24 1)])),(12,(.lst (x 28) (i 1) 5 false)),(13,(.lst (x 39) (x 31) 5 false))],14⟩),(.j ⟨3,[(1,(w 37)),(2,(p 14 0)),(4,(wi 0))],[(0,(.box (pcs (x 3) 0 5))),(1,(.box [(r 4 0),(r 4 1)])),(2,(.box [.nil,.nil,.nil,.nil,.nil])),(3,(.box [(.a (i 0)),(.a (i 0))])),(4,(.lst (x 7) (x 8) 1 true)),(5,(.lst (x 9) (x 10) 1 true)),(6,(.lst (x 11) (x 12) 1 true)),(8,(.lst (x 39) (x 16) 1 false)),(9,(.box [(r 23 0),(r 23 1),(r 23 2),(o 13 31),(o 8 16)])),(10,(.box (pcs (x 23) 0 3))),(11,(.box [(r 24 0),(r 24 1)])),(12,(.lst (x 28) (i 1) 5 false)),(13,(.lst (x 38) (x 31) 5 false)),(14,(.box [(r 23 0),(r 23 1),(r 23 2),(o 13 31),(o 8 16)]))],15⟩),.no,.no,.no]
theorem VT:symF D0 100000 374 VS=some k374:=by kernel_rfl
def wo:K:=
 l (.shape 2) [x 0]<|
 l (.shape 2) [x 1]<|
 c 258 [x 2]<|
 l oN [x 4,i 0]<|
 b (x 5) (l .agg [i 0,.c (.sl [])]<|
.ret [x 6,i 0,i 8])<|
 c 344 [x 3]<|
 l (.un .not) [x 6]<|
 b (x 7) (l .agg [i 0,.c (.sl [])]<|
.ret [x 8,i 0,i 8])<|
 c 263 [x 2,x 3]<|
 b (x 8) (l .agg [i 0,.c (.sl [])]<|
.ret [x 9,i 0,i 14])<|
 l (.cell 1) [x 2]<|
 l .len [x 9]<|
 l oE [x 10,i 200]<|
 b (x 11) (l .agg [i 0,.c (.sl [])]<|
.ret [x 12,i 0,i 18])<|
 l (.cell 0) [x 2]<|
 l oE [x 12,i 1000000]<|
 b (x 13) (l .agg [i 0,.c (.sl [])]<|
.ret [x 14,i 0,i 18])<|
 c 208 [x 2]<|
 l (.shape 2) [x 14]<|
 l (.cell 1) [x 15]<|
 l .len [x 16]<|
 l (.cell 0) [x 2]<|
 l (.part 0 2) [x 3]<|
 l .agg [x 18,x 19]<|
 l (.bs 1 [z,z,z] [0]) [x 20]<|
 l .sub [x 21,i 0,i 1]<|
 l (.app 24 3) [x 16,x 17,x 22]<|
 l .len [x 23]<|
 l (.cell 0) [x 15]<|
 l oA [x 25,i 1]<|
 l .sub [x 23,i 0,x 24]<|
 l .agg [x 26,x 27]<|
 l (.cell 0) [x 2]<|
.ret [x 28,x 29,i 0]
def VU:List Hint:=[.no,.no,.no,.no,.no]
theorem VV:symF D0 100000 375 VU=some wo:=by kernel_rfl
def At:K:=
.ret [.c (.v (.bool true))]
def qe:K:=
 l .len [x 0]<|
 l oL [x 5,x 6]<|
 b (x 7) (l (.tix 1) [x 0,x 5]<|
 l (.elt 0 0) [x 0,x 8]<|
 l (.tix 1) [x 1,x 5]<|
 l (.elt 0 0) [x 1,x 10]<|
 l (.bbin .neq) [x 9,x 11]<|
 b (x 12) (.ret [.c (.v (.bool false))])<|
 l oA [x 5,i 1]<|
 j 1 [x 13])<|
 j 0 []
def wq:K:=
 l .len [x 0]<|
 l .len [x 1]<|
 l oN [x 2,x 3]<|
 b (x 4) (.ret [.c (.v (.bool false))])<|
.jp At<|
.loop qe<|
 j 1 [i 0]
def VW:List Hint:=[.no,(.j ⟨0,[(4,(.w (.c (.a (.c (.v (.bool false)))))))],[],0⟩),(.j ⟨1,[(1,(w 1)),(0,(w 0)),(4,(.w (.c (.a (.c (.v (.bool false))))))),(5,(w 5))],[],0⟩),.no,.no,.no]
theorem VX:symF D0 100000 376 VW=some wq:=by kernel_rfl
def wv:K:=
 l (.shape 5) [x 0]<|
 l (.cell 3) [x 1]<|
 c 293 [x 2]<|
 l .len [x 3]<|
 l (.cell 4) [x 1]<|
 c 120 [x 5]<|
 l .len [x 6]<|
 l (.cell 0) [x 1]<|
 l (.cell 1) [x 1]<|
 l (.cell 2) [x 1]<|
 l .sub [x 3,i 0,x 4]<|
 l .sub [x 6,i 0,x 7]<|
 l .agg [x 8,x 9,x 10,x 11,x 12]<|
.ret [x 13]
def VY:List Hint:=[]
theorem VZ:symF D0 100000 378 VY=some wv:=by kernel_rfl
def k382:K:=
 l (.shape 3) [x 0]<|
 c 325 [x 1]<|
 l oN [x 2,i 0]<|
 b (x 3) (l .agg [.c (.sl []),.c (.sl []),.c (.sl [])]<|
 l .agg [i 0,i 0]<|
.ret [x 4,x 5,x 2])<|
 l (.cell 2) [x 1]<|
 l .len [x 4]<|
 l oE [x 5,i 0]<|
 b (x 6) (l .agg [.c (.sl []),.c (.sl []),.c (.sl [])]<|
 l .agg [i 0,i 0]<|
.ret [x 7,x 8,i 18])<|
 l (.cell 2) [x 1]<|
 c 412 [x 7]<|
 l (.cell 0) [x 1]<|
 l (.tix 1) [x 10,x 9]<|
 l (.elt 0 0) [x 10,x 11]<|
 l oE [x 12,i 1000000]<|
 b (x 13) (l .agg [.c (.sl []),.c (.sl []),.c (.sl [])]<|
 l .agg [i 0,i 0]<|
.ret [x 14,x 15,i 18])<|
 c 413 [x 1]<|
 l (.shape 3) [x 14]<|
 l (.cell 0) [x 15]<|
 l .len [x 16]<|
 l (.cell 1) [x 15]<|
 l .len [x 18]<|
 l .ix [x 9,x 19]<|
 l (.set 0) [x 18,x 20,.c (.v (.bool true))]<|
 l .ix [x 9,x 17]<|
 l (.elt 0 0) [x 16,x 22]<|
 l oA [x 23,i 1]<|
 l .ix [x 9,x 17]<|
 l (.set 0) [x 16,x 25,x 24]<|
 l .ix [x 9,x 17]<|
 l (.elt 0 0) [x 26,x 27]<|
 l .sub [x 26,i 0,x 17]<|
 l .sub [x 21,i 0,x 19]<|
 l .agg [x 29,x 30,x 8]<|
 l .agg [x 9,x 28]<|
.ret [x 31,x 32,i 0]
def V0:List Hint:=[.no,.no,.no]
theorem V1:symF D0 100000 382 V0=some k382:=by kernel_rfl
def k384:K:=
 l (.shape 3) [x 0]<|
 l (.shape 3) [x 1]<|
 l (.shape 2) [x 2]<|
 l (.cell 1) [x 3]<|
 l (.cell 1) [x 4]<|
 l oS [x 6,x 7]<|
 l (.cell 1) [x 5]<|
 c 304 [x 8,x 9]<|
 l (.cell 2) [x 3]<|
 l (.cell 2) [x 4]<|
 l oS [x 11,x 12]<|
 l (.cell 0) [x 5]<|
 c 304 [x 13,x 14]<|
 c 414 [x 10,x 15]<|
 c 305 [x 16]<|
.ret [x 17]
def V2:List Hint:=[]
theorem V3:symF D0 100000 384 V2=some k384:=by kernel_rfl
def ww:K:=
 c 415 [x 0,x 1]<|
 l oH [x 2,i 0]<|
.ret [x 3]
def V4:List Hint:=[]
theorem V5:symF D0 100000 386 V4=some ww:=by kernel_rfl
def Au:K:=
.ret [i 0]
def Av:K:=
 l oL [x 2,x 1]<|
 b (x 3) (l (.tix 1) [x 0,x 2]<|
 l (.elt 0 0) [x 0,x 4]<|
 l oN [x 5,i 0]<|
 b (x 6) (.ret [x 5])<|
 l oA [x 2,i 1]<|
 j 1 [x 7])<|
 j 0 []
def wx:K:=
 l .len [x 0]<|
.jp Au<|
.loop Av<|
 j 1 [i 0]
def V6:List Hint:=[(.j ⟨0,[(3,(wi 0)),(2,(wi 0))],[],0⟩),(.j ⟨1,[(2,(wi 0)),(3,(wi 0)),(6,(w 0)),(7,(w 1)),(8,(w 2))],[],0⟩),.no,.no,.no]
theorem V7:symF D0 100000 387 V6=some wx:=by kernel_rfl
def k388:K:=
 l (.shape 3) [x 0]<|
 l (.shape 3) [x 1]<|
 l .agg [i 0,i 1]<|
 c 328 [x 2,x 3,x 4]<|
 l oN [x 5,i 0]<|
 b (x 6) (l .agg [i 0,i 0]<|
.ret [x 7,x 5])<|
 l (.cell 2) [x 2]<|
 l (.cell 2) [x 3]<|
 l oE [x 7,x 8]<|
 b (x 9) (l .agg [i 0,i 0]<|
.ret [x 10,i 6])<|
 l (.cell 1) [x 2]<|
 l (.cell 1) [x 3]<|
 l oS [x 10,x 11]<|
 l (.cell 2) [x 3]<|
 l (.cell 2) [x 2]<|
 l oS [x 13,x 14]<|
 c 416 [x 12,x 15]<|
 l (.shape 2) [x 16]<|
.ret [x 18,x 17]
def V8:List Hint:=[.no,.no]
theorem V9:symF D0 100000 388 V8=some k388:=by kernel_rfl
def jP:K:=
 l .agg [x 2,x 3]<|
.ret [x 4]
def Aw:K:=
 l .add64 [x 3,x 12,.c (.v (.int .u64 0))]<|
 l oA [x 2,x 19]<|
 l (.cell 1) [x 20]<|
 l (.conv .i64) [x 22]<|
 l oA [x 21,x 23]<|
 l oA [x 4,i 1]<|
 l (.cell 0) [x 20]<|
 j 1 [x 24,x 26,x 25]
def Ax:K:=
 l (.cell 1) [x 6]<|
 l oL [x 17,i 0]<|
.jp Aw<|
 b (x 18) (l (.cell 0) [x 6]<|
 l oS [x 16,x 19]<|
 j 2 [x 20])<|
 j 2 [x 16]
def jQ:K:=
 l oL [x 4,i 2]<|
 b (x 5) (l (.aix 2 2 2) [x 1,x 4]<|
 l (.cell 0) [x 6]<|
 l (.conv .u64) [x 7]<|
 l (.cell 1) [x 6]<|
 l (.conv .u64) [x 9]<|
 c 289 [x 8,x 10]<|
 l (.conv .i64) [x 11]<|
 l (.cell 0) [x 6]<|
 l oL [x 14,i 0]<|
.jp Ax<|
 b (x 15) (l (.cell 1) [x 6]<|
 l oS [x 13,x 16]<|
 j 2 [x 17])<|
 j 2 [x 13])<|
 j 0 [x 2,x 3]
def wy:K:=
 l (.shape 4) [x 0]<|
.jp jP<|
.loop jQ<|
 j 1 [i 0,.c (.v (.int .u64 0)),i 0]
def Wa:List Hint:=[(.j ⟨2,[(3,(p 0 0)),(2,(p 1 0))],[(0,(.box [(a 2),(a 3)])),(1,(.box [(.a (i 0)),(.a (.c (.v (.int .u64 0))))]))],2⟩),(.j ⟨3,[(2,(p 0 0)),(3,(p 1 0)),(11,(v 1)),(12,(w 4))],[(0,(.box [(.a (i 0)),(.a (.c (.v (.int .u64 0))))])),(1,(.box [(a 2),(a 3)]))],2⟩),.no,.no,(.j ⟨1,[(12,(w 4)),(11,(v 1)),(3,(p 0 0)),(2,(p 1 0)),(13,(w 5)),(14,(v 6)),(5,(p 2 0)),(16,(p 2 0)),(17,(.w (.c (r 6 0)))),(18,(w 8)),(19,(p 2 1)),(20,(.w (.c (r 6 1)))),(21,(w 10)),(22,(.tup [(.c (a 11)),(.c (a 12))])),(15,(.tup [(.c (a 11)),(.c (a 12))])),(23,(w 11)),(24,(w 12)),(6,(w 11)),(7,(w 12)),(25,(w 11)),(26,(w 13)),(27,(p 2 0)),(28,(.w (.c (r 6 0)))),(29,(w 15)),(8,(w 16))],[(0,(.box [(a 2),(a 3)])),(1,(.box [(.a (i 0)),(.a (.c (.v (.int .u64 0))))])),(2,(.box [(r 6 0),(r 6 1)]))],3⟩),(.j ⟨1,[(29,(w 15)),(28,(.w (.c (r 6 0)))),(27,(p 0 0)),(26,(w 13)),(25,(w 11)),(7,(w 12)),(6,(w 11)),(24,(w 12)),(23,(w 11)),(15,(.tup [(.c (a 11)),(.c (a 12))])),(22,(.tup [(.c (a 11)),(.c (a 12))])),(21,(w 10)),(20,(.w (.c (r 6 1)))),(19,(p 0 1)),(18,(w 8)),(17,(.w (.c (r 6 0)))),(16,(p 0 0)),(5,(p 0 0)),(14,(v 6)),(13,(w 5)),(2,(p 1 0)),(3,(p 2 0)),(11,(v 1)),(12,(w 4)),(34,(p 0 1)),(35,(.w (.c (r 6 1)))),(36,(w 18)),(8,(w 19))],[(0,(.box [(r 6 0),(r 6 1)])),(1,(.box [(.a (i 0)),(.a (.c (.v (.int .u64 0))))])),(2,(.box [(a 2),(a 3)]))],3⟩)]
theorem Wb:symF D0 100000 389 Wa=some wy:=by kernel_rfl
def wA:K:=
 l oN [x 0,x 0]<|
.ret [x 1]
def Wc:List Hint:=[]
theorem Wd:symF D0 100000 395 Wc=some wA:=by kernel_rfl
def wB:K:=
 l (.shape 3) [x 0]<|
 l (.shape 3) [x 1]<|
 l (.cell 1) [x 2]<|
 l (.cell 1) [x 3]<|
 l oS [x 4,x 5]<|
 l (.cell 2) [x 3]<|
 l (.cell 2) [x 2]<|
 l oS [x 7,x 8]<|
 c 419 [x 6,x 9]<|
 l (.shape 2) [x 10]<|
.ret [x 12]
def We:List Hint:=[]
theorem Wf:symF D0 100000 396 We=some wB:=by kernel_rfl
def Ay:K:=
.ret [x 6]
def k397_2:K:=
 l oA [x 7,i 1]<|
 j 1 [x 11,x 12]
def qf:K:=
.jp k397_2<|
 b (x 10) (j 2 [x 7])<|
 j 2 [x 6]
def k397_4:K:=
 l oL [x 7,x 3]<|
 b (x 8) (.jp qf<|
 l oL [x 6,i 0]<|
 b (x 9) (j 2 [x 9,.c (.v (.bool true))])<|
 l (.cell 0) [x 4]<|
 l (.tix 3) [x 10,x 7]<|
 l (.elt 0 3) [x 10,x 11]<|
 l (.cell 0) [x 4]<|
 l (.tix 3) [x 13,x 6]<|
 l (.elt 0 3) [x 13,x 14]<|
 c 323 [x 12,x 15,x 5]<|
 j 2 [x 9,x 16])<|
 j 0 [x 6]
def wC:K:=
 l (.shape 1) [x 0]<|
 l (.shape 2) [x 1]<|
.jp Ay<|
.loop k397_4<|
 j 1 [i (-1),x 2]
def Wg:List Hint:=[(.j ⟨1,[(9,(w 6)),(8,(wi 0))],[],0⟩),(.j ⟨2,[(3,(w 3)),(4,(p 0 0)),(5,(p 1 0)),(8,(wi 0)),(9,(w 6)),(10,(w 7))],[(0,(.box [(r 4 0)])),(1,(.box [(r 5 0),(r 5 1)]))],2⟩),.no,.no,(.j ⟨2,[(10,(w 7)),(9,(w 6)),(8,(wi 0)),(5,(p 0 0)),(4,(p 1 0)),(3,(w 3)),(12,(w 7)),(13,(w 3)),(14,(w 8)),(17,(w 6)),(18,(w 9)),(19,(w 9)),(32,(w 10))],[(0,(.box [(r 5 0),(r 5 1)])),(1,(.box [(r 4 0)]))],2⟩),(.j ⟨1,[(32,(w 10)),(19,(w 9)),(18,(w 9)),(17,(w 6)),(14,(w 8)),(13,(w 3)),(12,(w 7)),(3,(w 3)),(4,(p 0 0)),(5,(p 1 0)),(8,(wi 0)),(10,(w 7)),(9,(w 11))],[(0,(.box [(r 4 0)])),(1,(.box [(r 5 0),(r 5 1)]))],2⟩)]
theorem Wh:symF D0 100000 397 Wg=some wC:=by kernel_rfl
def k409:K:=
 l (.shape 3) [x 0]<|
 c 286 [x 1]<|
 l (.shape 3) [x 2]<|
 l (.cell 0) [x 3]<|
 l .len [x 4]<|
 l (.cell 1) [x 3]<|
 l .len [x 6]<|
 l (.cell 2) [x 3]<|
 l .len [x 8]<|
 l oS [x 9,i 1]<|
 l .ix [x 10,x 9]<|
 l (.elt 0 0) [x 8,x 11]<|
 l oS [x 9,i 1]<|
 l .bnd [x 13,x 9]<|
 l .ix [x 12,x 5]<|
 l (.elt 0 0) [x 4,x 15]<|
 l oA [x 16,i 1]<|
 l .ix [x 12,x 5]<|
 l (.set 0) [x 4,x 18,x 17]<|
 l .ix [x 12,x 7]<|
 l (.set 0) [x 6,x 20,.c (.v (.bool true))]<|
 l .ix [x 12,x 5]<|
 l (.elt 0 0) [x 19,x 22]<|
 l .sub [x 19,i 0,x 5]<|
 l .sub [x 21,i 0,x 7]<|
 l .sub [x 8,i 0,x 14]<|
 l .agg [x 24,x 25,x 26]<|
 l .agg [x 12,x 23]<|
.ret [x 27,x 28]
def Wi:List Hint:=[]
theorem Wj:symF D0 100000 409 Wi=some k409:=by kernel_rfl
def wD:K:=
 l .len [x 0]<|
 l oS [x 1,i 1]<|
 l .len [x 0]<|
 l .bnd [x 2,x 3]<|
 l (.tsub 1) [x 0,i 0,x 4]<|
 c 422 [x 5]<|
 l .len [x 6]<|
 l (.tix 1) [x 0,x 2]<|
 l (.elt 0 0) [x 0,x 8]<|
 l .sub [x 6,i 0,x 7]<|
.ret [x 10,x 9]
def Wk:List Hint:=[]
theorem Wl:symF D0 100000 412 Wk=some wD:=by kernel_rfl
def wE:K:=
 l (.shape 3) [x 0]<|
 l (.cell 0) [x 1]<|
 c 120 [x 2]<|
 l .len [x 3]<|
 l (.cell 1) [x 1]<|
 c 294 [x 5]<|
 l .len [x 6]<|
 l .sub [x 3,i 0,x 4]<|
 l .sub [x 6,i 0,x 7]<|
 l (.cell 2) [x 1]<|
 l .agg [x 8,x 9,x 10]<|
.ret [x 11]
def Wm:List Hint:=[]
theorem Wn:symF D0 100000 413 Wm=some wE:=by kernel_rfl
def Az:K:=
 l .agg [x 7,x 16,x 13]<|
.ret [x 17]
def eT:K:=
 l (.part 1 2) [x 10]<|
 l .agg [x 11,x 12]<|
.ret [x 13]
def kV:K:=
 l (.shape 3) [x 0]<|
 l (.shape 3) [x 1]<|
 l (.cell 0) [x 2]<|
 l (.cell 0) [x 3]<|
 l (.bbin .eql) [x 4,x 5]<|
 b (x 6) (l (.cell 0) [x 2]<|
 l (.cell 1) [x 2]<|
 l (.cell 1) [x 3]<|
 l oA [x 8,x 9]<|
 l (.cell 2) [x 2]<|
 l (.cell 2) [x 3]<|
 l oA [x 11,x 12]<|
 l (.cell 2) [x 2]<|
 l oL [x 13,x 14]<|
.jp Az<|
 b (x 15) (l oA [x 10,.c (.v (.int .u64 1))]<|
 j 0 [x 16])<|
 j 0 [x 10])<|
 c 306 [x 2,x 3]<|
 l oH [x 7,i 0]<|
 b (x 8) (c 423 [x 2,x 3]<|
 l (.shape 3) [x 9]<|
.jp eT<|
 l (.cell 0) [x 2]<|
 b (x 11) (l (.cell 1) [x 10]<|
 l oG [x 12,.c (.v (.int .u64 0))]<|
 b (x 13) (j 0 [.c (.v (.bool true))])<|
 l (.cell 2) [x 10]<|
 l oG [x 14,.c (.v (.int .u64 0))]<|
 j 0 [x 15])<|
 j 0 [.c (.v (.bool false))])<|
 c 423 [x 3,x 2]<|
 l (.shape 3) [x 9]<|
 l (.cell 0) [x 3]<|
 l (.part 1 2) [x 10]<|
 l .agg [x 11,x 12]<|
.ret [x 13]
def Wo:List Hint:=[.no,(.j ⟨1,[(2,(p 0 0)),(3,(p 1 0)),(4,(p 2 0)),(5,(p 3 0))],[(0,(.box (pcs (x 2) 0 3))),(1,(.box (pcs (x 3) 0 3))),(2,(.box [(.a (.c (.v (.bool false)))),(.a (.c (.v (.int .u64 0)))),(.a (.c (.v (.int .u64 0))))])),(3,(.box [(a 7),(a 16),(a 13)]))],4⟩),.no,(.j ⟨1,[(2,(p 0 0)),(3,(p 1 0)),(4,(p 2 0)),(6,(p 3 0))],[(0,(.box (pcs (x 2) 0 3))),(1,(.box (pcs (x 3) 0 3))),(2,(.box [(.a (.c (.v (.bool false)))),(.a (.c (.v (.int .u64 0)))),(.a (.c (.v (.int .u64 0))))])),(3,(.box [(a 11),(r 10 1),(r 10 2)]))],4⟩)]
theorem Wp:symF D0 100000 414 Wo=some kV:=by kernel_rfl
def AA:K:=
.ret [i (-1)]
def qg:K:=
 l oL [x 3,x 2]<|
 b (x 4) (l (.tix 1) [x 0,x 3]<|
 l (.elt 0 0) [x 0,x 5]<|
 l (.bbin .eql) [x 1,x 6]<|
 b (x 7) (.ret [x 3])<|
 l oA [x 3,i 1]<|
 j 1 [x 8])<|
 j 0 []
def wF:K:=
 l .len [x 0]<|
.jp AA<|
.loop qg<|
 j 1 [i 0]
def Wq:List Hint:=[(.j ⟨0,[(4,(wi 0))],[],0⟩),(.j ⟨1,[(1,(w 1)),(0,(w 0)),(4,(wi 0)),(7,(w 2)),(8,(w 3))],[],0⟩),.no,.no,.no]
theorem Wr:symF D0 100000 415 Wq=some wF:=by kernel_rfl
def k416:K:=
 l oE [x 1,i 0]<|
 b (x 2) (l .agg [i 0,i 0]<|
.ret [x 3,i 26])<|
 c 116 [x 0]<|
 c 116 [x 1]<|
 c 115 [x 3,x 4]<|
 l oL [x 0,i 0]<|
 l oL [x 1,i 0]<|
 l (.bbin .neq) [x 6,x 7]<|
 c 116 [x 0]<|
 l (.bin .quo) [x 9,x 5]<|
 c 116 [x 1]<|
 l (.bin .quo) [x 11,x 5]<|
 l .agg [x 8,.c (.v (.int .u64 0)),x 10]<|
 c 424 [x 13,.c (.v (.int .u64 0)),x 12]<|
 l (.shape 2) [x 14]<|
 l (.part 0 2) [x 16]<|
.ret [x 17,x 15]
def Ws:List Hint:=[.no]
theorem Wt:symF D0 100000 416 Ws=some k416:=by kernel_rfl
def AB:K:=
 l .agg [x 6,x 7]<|
.ret [x 9,x 8]
def wG:K:=
 l oE [x 1,i 0]<|
 b (x 2) (l .agg [i 0,i 0]<|
.ret [x 3,i 26])<|
 c 223 [x 0]<|
 c 223 [x 1]<|
 c 222 [x 3,x 4]<|
.jp AB<|
 l oL [x 0,i 0]<|
 l oL [x 1,i 0]<|
 l (.bbin .neq) [x 6,x 7]<|
 b (x 8) (l oN [x 0,i 0]<|
 c 223 [x 0]<|
 l (.bin .quo) [x 10,x 5]<|
 c 223 [x 1]<|
 l (.bin .quo) [x 12,x 5]<|
 l .agg [.c (.v (.bool false)),.c (.v (.int .u64 0)),x 11]<|
 l .agg [.c (.v (.bool false)),.c (.v (.int .u64 0)),x 13]<|
 c 425 [x 9,x 14,x 15]<|
 l (.shape 2) [x 16]<|
 l (.cell 0) [x 18]<|
 l (.cell 1) [x 18]<|
 j 0 [x 19,x 20,x 17])<|
 c 223 [x 0]<|
 l (.bin .quo) [x 9,x 5]<|
 c 223 [x 1]<|
 l (.bin .quo) [x 11,x 5]<|
 l .agg [.c (.v (.bool false)),.c (.v (.int .u64 0)),x 10]<|
 l .agg [.c (.v (.bool false)),.c (.v (.int .u64 0)),x 12]<|
 c 425 [.c (.v (.bool false)),x 13,x 14]<|
 l (.shape 2) [x 15]<|
 l (.cell 0) [x 17]<|
 l (.cell 1) [x 17]<|
 j 0 [x 18,x 19,x 16]
def Wu:List Hint:=[.no,(.j ⟨3,[(4,(p 0 0)),(5,(w 8))],[(0,(.box [(a 6),(a 7)]))],1⟩)]
theorem Wv:symF D0 100000 419 Wu=some wG:=by kernel_rfl
def qh:K:=
 l (.app 8 1) [.c (.sl []),i 0,x 0]<|
 l .len [x 3]<|
 l .sub [x 3,i 0,x 4]<|
.ret [x 5]
def wH:K:=
 l .len [x 0]<|
 l oE [x 1,i 0]<|
.jp qh<|
 b (x 2) (.amb (.ret [.c (.sl [])])<|
 j 0 [])<|
 j 0 []
def Ww:List Hint:=[(.j ⟨0,[(0,(w 0)),(2,(.w (.c .nil)))],[],0⟩)]
theorem Wx:symF D0 100000 422 Ww=some wH:=by kernel_rfl
def AC:K:=
 l .agg [.c (.v (.bool false)),x 13,x 9]<|
.ret [x 14]
def wI:K:=
 l (.shape 3) [x 0]<|
 l (.shape 3) [x 1]<|
 l (.cell 1) [x 2]<|
 l (.cell 1) [x 3]<|
 l oS [x 4,x 5]<|
 l (.cell 2) [x 2]<|
 l (.cell 2) [x 3]<|
 l oS [x 7,x 8]<|
 l (.cell 2) [x 2]<|
 l (.cell 2) [x 3]<|
 l oL [x 10,x 11]<|
.jp AC<|
 b (x 12) (l oS [x 6,.c (.v (.int .u64 1))]<|
 j 0 [x 13])<|
 j 0 [x 6]
def Wy:List Hint:=[(.j ⟨1,[(4,(p 0 0)),(5,(p 1 0))],[(0,(.box [(.a (.c (.v (.bool false)))),(.a (.c (.v (.int .u64 0)))),(.a (.c (.v (.int .u64 0))))])),(1,(.box [(.a (.c (.v (.bool false)))),(a 13),(a 9)]))],2⟩)]
theorem Wz:symF D0 100000 423 Wy=some wI:=by kernel_rfl
def AD:K:=
 l .agg [x 14,x 12]<|
.ret [x 15,i 0]
def wJ:K:=
 l (.shape 3) [x 0]<|
 l (.cell 1) [x 3]<|
 l oG [x 4,.c (.v (.int .u64 0))]<|
 b (x 5) (l .agg [i 0,i 0]<|
.ret [x 6,i 16])<|
 l (.cell 2) [x 3]<|
 l oG [x 6,.c (.v (.int .u64 9223372036854775807))]<|
 b (x 7) (l .agg [i 0,i 0]<|
.ret [x 8,i 16])<|
 l oG [x 1,.c (.v (.int .u64 0))]<|
 b (x 8) (l .agg [i 0,i 0]<|
.ret [x 9,i 16])<|
 l oG [x 2,.c (.v (.int .u64 9223372036854775807))]<|
 b (x 9) (l .agg [i 0,i 0]<|
.ret [x 10,i 16])<|
 l (.cell 2) [x 3]<|
 l (.conv .i64) [x 10]<|
 l (.conv .i64) [x 2]<|
 l (.cell 0) [x 3]<|
.jp AD<|
 b (x 13) (l (.un .neg) [x 11]<|
 j 0 [x 14])<|
 j 0 [x 11]
def WA:List Hint:=[.no,.no,(.j ⟨1,[(6,(p 0 0)),(7,(wi 0)),(8,(p 1 0))],[(0,(.box [(.a (i 0)),(.a (i 0))])),(1,(.box [(a 14),(a 12)]))],2⟩)]
theorem WC:symF D0 100000 424 WA=some wJ:=by kernel_rfl
def wK:K:=
 l (.shape 3) [x 1]<|
 l (.shape 3) [x 2]<|
 l (.cell 1) [x 3]<|
 l oG [x 5,.c (.v (.int .u64 0))]<|
 b (x 6) (l .agg [i 0,i 0]<|
.ret [x 7,i 16])<|
 l (.cell 2) [x 3]<|
 l oG [x 7,.c (.v (.int .u64 9223372036854775807))]<|
 b (x 8) (l .agg [i 0,i 0]<|
.ret [x 9,i 16])<|
 l (.cell 1) [x 4]<|
 l oG [x 9,.c (.v (.int .u64 0))]<|
 b (x 10) (l .agg [i 0,i 0]<|
.ret [x 11,i 16])<|
 l (.cell 2) [x 4]<|
 l oG [x 11,.c (.v (.int .u64 9223372036854775807))]<|
 b (x 12) (l .agg [i 0,i 0]<|
.ret [x 13,i 16])<|
 b (x 0) (l (.cell 2) [x 3]<|
 l (.conv .i64) [x 13]<|
 l (.un .neg) [x 14]<|
 l (.cell 2) [x 4]<|
 l (.conv .i64) [x 16]<|
 l .agg [x 15,x 17]<|
.ret [x 18,i 0])<|
 l (.cell 2) [x 3]<|
 l (.conv .i64) [x 13]<|
 l (.cell 2) [x 4]<|
 l (.conv .i64) [x 15]<|
 l .agg [x 14,x 16]<|
.ret [x 17,i 0]
def WD:List Hint:=[.no,.no,.no]
theorem WE:symF D0 100000 425 WD=some wK:=by kernel_rfl
end Go.Proofs.YtfghdmmapmdcgaaGreat
