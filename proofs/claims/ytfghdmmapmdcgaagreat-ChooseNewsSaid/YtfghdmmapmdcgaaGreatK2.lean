import Derived.Test.YtfghdmmapmdcgaaGreatBcD
set_option linter.unusedVariables false
set_option linter.unusedSimpArgs false
set_option linter.defProp false
noncomputable section
namespace Go.Proofs.YtfghdmmapmdcgaaGreat
open Go.Sym Go.Sym.KP
def tV:K:=
 l (.shape 2) [x 0]<|
 c 157 [x 1]<|
 l oN [x 2,i 0]<|
 b (x 3) (.ret [i 0,x 2])<|
 c 242 [x 1,i 0]<|
 l oH [x 4,i 0]<|
 b (x 5) (.ret [x 4,i 0])<|
.ret [i 0,i 42]
def Rq:List Hint:=[.no,.no]
theorem Rr:symF D0 100000 150 Rq=some tV:=by kernel_rfl
def yJ:K:=
.ret [i (-1)]
def ow:K:=
 l oL [x 3,x 2]<|
 b (x 4) (l (.tix 1) [x 0,x 3]<|
 l (.elt 0 0) [x 0,x 5]<|
 l oE [x 1,x 6]<|
 b (x 7) (.ret [x 3])<|
 l oA [x 3,i 1]<|
 j 1 [x 8])<|
 j 0 []
def tW:K:=
 l .len [x 0]<|
.jp yJ<|
.loop ow<|
 j 1 [i 0]
def Rs:List Hint:=[(.j ⟨0,[(4,(wi 0))],[],0⟩),(.j ⟨1,[(1,(w 1)),(0,(w 0)),(4,(wi 0)),(7,(w 2)),(8,(w 3))],[],0⟩),.no,.no,.no]
theorem Ru:symF D0 100000 151 Rs=some tW:=by kernel_rfl
def k152_1:K:=
 l .sub [x 8,i 0,x 7]<|
.ret [x 9]
def ox:K:=
 l (.cell 0) [x 2]<|
 l .len [x 10]<|
 l oL [x 9,x 11]<|
 b (x 12) (l (.cell 0) [x 2]<|
 l (.tix 3) [x 13,x 9]<|
 l (.elt 0 3) [x 13,x 14]<|
 c 243 [x 2,x 15,x 3]<|
 l (.cell 0) [x 2]<|
 l (.tix 3) [x 17,x 9]<|
 l (.elt 0 0) [x 17,x 18]<|
 l .ix [x 16,x 7]<|
 l (.set 0) [x 8,x 20,x 19]<|
 l oA [x 9,i 1]<|
 j 1 [x 21,x 22])<|
 j 0 [x 8]
def tX:K:=
 l (.shape 1) [x 0]<|
 l (.shape 2) [x 1]<|
 l (.cell 0) [x 2]<|
 l .len [x 4]<|
 l (.rep [z] 8) [x 5,x 5]<|
 l .len [x 6]<|
.jp k152_1<|
.loop ox<|
 j 1 [x 6,i 0]
def Rv:List Hint:=[(.j ⟨1,[(5,(.w (.c (o 0 7)))),(4,(.w (.c .nil)))],[(0,(.lst (x 8) (x 7) 1 false))],1⟩),(.j ⟨2,[(2,(p 0 0)),(3,(p 1 0)),(4,(.w (.c .nil))),(5,(.w (.c (o 2 7)))),(6,(w 9))],[(0,(.box [(r 2 0)])),(1,(.box [(r 3 0),(r 3 1)])),(2,(.lst (x 8) (x 7) 1 false))],3⟩),.no,.no]
theorem Rx:symF D0 100000 152 Rv=some tX:=by kernel_rfl
def yK:K:=
 l .len [x 21]<|
 l oG [x 22,i 0]<|
 b (x 23) (.ret [i 8])<|
.ret [i 0]
def oy:K:=
 l oA [x 22,i 1]<|
 j 1 [x 24,x 41]
def jG:K:=
 l oL [x 22,x 20]<|
 b (x 23) (.jp oy<|
 l (.cell 4) [x 1]<|
 l (.tix 3) [x 24,x 22]<|
 l (.elt 0 3) [x 24,x 25]<|
 l (.part 2 1) [x 1]<|
 l (.part 1 2) [x 26]<|
 l (.part 0 2) [x 1]<|
 c 246 [x 27,x 28,x 29]<|
 l (.shape 2) [x 30]<|
 l oN [x 32,i 0]<|
 b (x 34) (.ret [i 8])<|
 l (.un .not) [x 31]<|
 b (x 35) (l (.cell 0) [x 26]<|
 l (.cell 1) [x 26]<|
 l (.cell 2) [x 26]<|
 l (.cell 0) [x 33]<|
 l (.cell 1) [x 33]<|
 j 2 [x 21,x 24,x 25,x 26,x 36,x 37,x 38,x 27,x 28,x 29,x 30,x 31,x 32,x 39,x 40,x 34,x 35])<|
 l .len [x 21]<|
 l oE [x 36,i 0]<|
 b (x 37) (.ret [i 8])<|
 l (.tix 3) [x 21,i 0]<|
 l (.elt 0 0) [x 21,x 38]<|
 l (.cell 0) [x 26]<|
 l oN [x 39,x 40]<|
 b (x 41) (.ret [i 8])<|
 l (.tix 3) [x 21,i 0]<|
 l (.elt 1 2) [x 21,x 42]<|
 l (.cell 0) [x 43]<|
 l oL [x 44,i 0]<|
 b (x 45) (.ret [i 8])<|
 l (.cell 0) [x 43]<|
 l oH [x 46,i 200]<|
 b (x 47) (.ret [i 8])<|
 l (.cell 9) [x 1]<|
 l (.cell 0) [x 43]<|
 l (.tix 1) [x 48,x 49]<|
 l (.elt 0 0) [x 48,x 50]<|
 l oL [x 51,i 0]<|
 b (x 52) (.ret [i 8])<|
 l (.cell 9) [x 1]<|
 l (.cell 0) [x 43]<|
 l (.tix 1) [x 53,x 54]<|
 l (.elt 0 0) [x 53,x 55]<|
 l (.cell 8) [x 1]<|
 l (.tix 5) [x 57,x 56]<|
 l (.elt 0 5) [x 57,x 58]<|
 l (.part 0 2) [x 33]<|
 l (.cell 0) [x 26]<|
 l (.part 0 2) [x 43]<|
 l .agg [x 60,x 61,x 62]<|
 l (.eqv [.i,.i,.i,.i,.i]) [x 59,x 63]<|
 l (.un .not) [x 64]<|
 b (x 65) (.ret [i 8])<|
 l .len [x 21]<|
 l .bnd [i 1,x 66]<|
 l (.tsub 3) [x 21,x 67,x 66]<|
 l (.cell 0) [x 26]<|
 l (.cell 1) [x 26]<|
 l (.cell 2) [x 26]<|
 l (.cell 0) [x 33]<|
 l (.cell 1) [x 33]<|
 j 2 [x 68,x 24,x 25,x 26,x 69,x 70,x 71,x 27,x 28,x 29,x 30,x 31,x 32,x 72,x 73,x 34,x 35])<|
 j 0 [x 21]
def yL:K:=
 l (.cell 9) [x 1]<|
 l .len [x 11]<|
 l oN [x 12,i 200]<|
 b (x 13) (.ret [i 8])<|
 l (.cell 8) [x 1]<|
 l .len [x 14]<|
 l (.cell 10) [x 1]<|
 l .len [x 16]<|
 l oN [x 15,x 17]<|
 b (x 18) (.ret [i 8])<|
 l (.cell 4) [x 1]<|
 l .len [x 19]<|
.jp yK<|
.loop jG<|
 l (.cell 10) [x 1]<|
 j 1 [x 21,i 0]
def oz:K:=
 l oL [x 11,i 4]<|
 b (x 12) (l .ix [x 11,i 4]<|
 l (.elt 0 0) [x 10,x 13]<|
 l oN [x 14,i 0]<|
 b (x 15) (.ret [i 8])<|
 l oA [x 11,i 1]<|
 j 1 [x 16])<|
 j 0 []
def tY:K:=
 l (.shape 11) [x 0]<|
 l (.part 0 2) [x 1]<|
 c 43 [x 2]<|
 l (.part 2 1) [x 1]<|
 c 231 [x 4]<|
 l (.part 3 2) [x 1]<|
 c 244 [x 6]<|
 l (.part 5 5) [x 1]<|
 c 245 [x 8]<|
 l (.bs 4 [z] [0,1,2,3]) [x 3,x 5,x 7,x 9]<|
.jp yL<|
.loop oz<|
 j 1 [i 0]
def Ry:List Hint:=[(.j ⟨0,[(2,(wi 0)),(1,(p 0 0))],[(0,(.box (pcs (x 1) 0 11)))],1⟩),(.j ⟨1,[(1,(p 0 0)),(2,(wi 0)),(24,(.w (.c (.lsl 1 (i 0) (i 4))))),(25,(wi 4)),(26,(w 11))],[(0,(.box (pcs (x 1) 0 11))),(1,(.lst (x 10) (i 4) 1 false))],2⟩),.no,.no,.no,.no,.no,(.j ⟨1,[(5,(w 21)),(2,(wi 0))],[],0⟩),(.j ⟨2,[(1,(p 0 0)),(2,(wi 0)),(5,(w 21)),(52,(.w (.c (r 1 4)))),(53,(w 20)),(54,(w 22))],[(0,(.box (pcs (x 1) 0 11)))],1⟩),.no,(.j ⟨17,[(54,(w 22)),(53,(w 20)),(52,(.w (.c (r 1 4)))),(5,(w 24)),(2,(wi 0)),(1,(p 0 0)),(55,(w 23)),(56,(.w (.c (.tp (x 25) (x 26) 0)))),(57,(v 27)),(7,(p 1 0)),(59,(p 0 2)),(60,(v 31)),(61,(p 1 1)),(62,(v 32)),(63,(p 0 0)),(64,(v 33)),(65,(.tup [(.av (x 34)),(.c (a 35)),(.c (a 36))])),(58,(.tup [(.av (x 34)),(.c (a 35)),(.c (a 36))])),(66,(v 34)),(67,(w 35)),(68,(w 36)),(8,(p 2 0)),(9,(w 35)),(10,(w 36)),(69,(w 36)),(70,(w 39)),(71,(w 35)),(72,(w 40))],[(0,(.box (pcs (x 1) 0 11))),(1,(.box [(a 28),(a 29),(a 30)])),(2,(.box [(a 37),(a 38)]))],3⟩),.no,.no,.no,.no,.no,.no,.no]
theorem Rz:symF D0 100000 153 Ry=some tY:=by kernel_rfl
def tZ:K:=
 c 151 [x 0,x 1]<|
 l oH [x 2,i 0]<|
.ret [x 3]
def RA:List Hint:=[]
theorem RB:symF D0 100000 154 RA=some tZ:=by kernel_rfl
def t6:K:=
 l (.shape 2) [x 1]<|
 c 247 [x 0,x 2]<|
 l oH [x 3,i 0]<|
.ret [x 4]
def RC:List Hint:=[]
theorem RD:symF D0 100000 155 RC=some t6:=by kernel_rfl
def k156:K:=
 l (.shape 1) [x 0]<|
 l (.shape 2) [x 1]<|
 c 248 [x 4,x 2]<|
 l (.shape 3) [x 6]<|
 c 248 [x 4,x 3]<|
 l (.shape 3) [x 9]<|
 c 249 [x 8,x 11,x 5]<|
.ret [x 12]
def RE:List Hint:=[]
theorem RG:symF D0 100000 156 RE=some k156:=by kernel_rfl
def yM:K:=
.ret [i 0]
def yN:K:=
 b (x 33) (.ret [i 8])<|
 l oA [x 20,i 1]<|
 j 1 [x 34]
def oB:K:=
 l oL [x 20,x 19]<|
 b (x 21) (l (.cell 1) [x 1]<|
 l (.tix 1) [x 22,x 20]<|
 l (.elt 0 0) [x 22,x 23]<|
 l oM [i 2,x 20]<|
 l oA [x 25,i 1]<|
 c 242 [x 1,x 26]<|
 l oM [i 2,x 20]<|
 l oA [x 28,i 2]<|
 c 242 [x 1,x 29]<|
.jp yN<|
 l oN [x 24,x 27]<|
 b (x 31) (l oN [x 24,x 30]<|
 b (x 32) (j 2 [x 31,x 32,.c (.v (.bool true))])<|
 l oL [x 24,i 0]<|
 b (x 33) (l (.mm true) [x 27,x 30]<|
 l oH [x 34,i 0]<|
 j 2 [x 31,x 32,x 35])<|
 j 2 [x 31,x 32,.c (.v (.bool false))])<|
 l oL [x 24,i 0]<|
 b (x 32) (l (.mm true) [x 27,x 30]<|
 l oH [x 33,i 0]<|
 j 2 [x 31,.c (.v (.bool false)),x 34])<|
 j 2 [x 31,.c (.v (.bool false)),.c (.v (.bool false))])<|
 j 0 []
def k157_4:K:=
 l oH [i (-1),i 0]<|
 l (.un .not) [x 15]<|
 l (.un .not) [x 16]<|
 b (x 17) (.ret [i 8])<|
 l (.cell 1) [x 1]<|
 l .len [x 18]<|
.jp yM<|
.loop oB<|
 j 1 [i 0]
def JN:K:=
.ret [i 0]
def JO:K:=
 b (x 40) (.ret [i 8])<|
 l oA [x 27,i 1]<|
 j 3 [x 41]
def JP:K:=
 l oL [x 27,x 26]<|
 b (x 28) (l (.cell 1) [x 1]<|
 l (.tix 1) [x 29,x 27]<|
 l (.elt 0 0) [x 29,x 30]<|
 l oM [i 2,x 27]<|
 l oA [x 32,i 1]<|
 c 242 [x 1,x 33]<|
 l oM [i 2,x 27]<|
 l oA [x 35,i 2]<|
 c 242 [x 1,x 36]<|
.jp JO<|
 l oN [x 31,x 34]<|
 b (x 38) (l oN [x 31,x 37]<|
 b (x 39) (j 4 [x 38,x 39,.c (.v (.bool true))])<|
 l oL [x 31,i 0]<|
 b (x 40) (l (.mm true) [x 34,x 37]<|
 l oH [x 41,i 0]<|
 j 4 [x 38,x 39,x 42])<|
 j 4 [x 38,x 39,.c (.v (.bool false))])<|
 l oL [x 31,i 0]<|
 b (x 39) (l (.mm true) [x 34,x 37]<|
 l oH [x 40,i 0]<|
 j 4 [x 38,.c (.v (.bool false)),x 41])<|
 j 4 [x 38,.c (.v (.bool false)),.c (.v (.bool false))])<|
 j 2 []
def jH:K:=
 l (.un .not) [x 20]<|
 b (x 21) (l oH [x 15,i 0]<|
 l (.un .not) [x 22]<|
 l (.un .not) [x 23]<|
 b (x 24) (.ret [i 8])<|
 l (.cell 1) [x 1]<|
 l .len [x 25]<|
.jp JN<|
.loop JP<|
 j 3 [i 0])<|
 l oA [x 15,i 1]<|
 j 1 [x 22]
def k157_9:K:=
 l oL [x 15,x 14]<|
 b (x 16) (l (.cell 0) [x 1]<|
 l (.tix 1) [x 17,x 15]<|
 l (.elt 0 0) [x 17,x 18]<|
.jp jH<|
 l oH [x 19,i (-1)]<|
 b (x 20) (l oK [x 19,i 65535]<|
 j 2 [x 21])<|
 j 2 [.c (.v (.bool false))])<|
 j 0 []
def t7:K:=
 l (.shape 2) [x 0]<|
 l (.cell 0) [x 1]<|
 l .len [x 2]<|
 l oL [x 3,i 1]<|
 b (x 4) (.ret [i 8])<|
 l oG [x 3,i 64]<|
 b (x 5) (.ret [i 8])<|
 l (.cell 1) [x 1]<|
 l .len [x 6]<|
 l oS [x 3,i 1]<|
 l oN [x 7,x 8]<|
 b (x 9) (.ret [i 8])<|
 l (.cell 0) [x 1]<|
 c 250 [x 10]<|
 l (.un .not) [x 11]<|
 b (x 12) (.ret [i 8])<|
 l (.cell 0) [x 1]<|
 l .len [x 13]<|
.jp k157_4<|
.loop k157_9<|
 j 1 [i 0]
def RH:List Hint:=[.no,.no,(.j ⟨0,[(4,(wi 0))],[(0,(.box [(r 1 0),(r 1 1)])),(1,(.box [(.fn 252 [] [])]))],2⟩),(.j ⟨1,[(1,(.w (.c (.fn 332 [] [(.ptr 1 0)])))),(0,(.w (.c (r 1 0)))),(4,(wi 0)),(7,(w 14)),(8,(w 15))],[(0,(.box [(r 1 0),(r 1 1)])),(1,(.box [(.fn 252 [] [])]))],2⟩),.no,.no,(.j ⟨1,[(2,(w 20))],[(0,(.box [(r 1 0),(r 1 1)])),(1,(.box [(.fn 252 [] [])]))],2⟩),.no,.no,(.j ⟨0,[(2,(wi 0))],[],0⟩),(.j ⟨1,[(1,(p 0 0)),(2,(wi 0)),(36,(.w (.c (r 1 1)))),(37,(w 26)),(38,(w 27))],[(0,(.box [(r 1 0),(r 1 1)]))],1⟩),.no,.no,(.j ⟨3,[(38,(w 27)),(37,(w 26)),(36,(.w (.c (r 1 1)))),(2,(wi 0)),(1,(p 0 0)),(39,(w 28)),(40,(w 27)),(41,(.w (.c (.tp (x 29) (x 30) 0)))),(42,(w 31)),(4,(w 27)),(5,(w 31)),(43,(v 1)),(44,(w 27)),(45,(w 32)),(46,(w 33)),(47,(w 34)),(48,(v 1)),(49,(w 27)),(50,(w 35)),(51,(w 36)),(52,(w 37)),(6,(w 34)),(7,(w 37)),(53,(w 31)),(54,(w 34)),(55,(w 38)),(56,(w 38)),(60,(w 39)),(61,(w 39)),(70,(w 40))],[(0,(.box [(r 1 0),(r 1 1)]))],1⟩),.no,.no,(.j ⟨0,[(2,(wi 0))],[],0⟩),(.j ⟨1,[(1,(p 0 0)),(2,(wi 0)),(36,(.w (.c (r 1 1)))),(37,(w 19)),(38,(w 20))],[(0,(.box [(r 1 0),(r 1 1)]))],1⟩),.no,.no,(.j ⟨3,[(38,(w 20)),(37,(w 19)),(36,(.w (.c (r 1 1)))),(2,(wi 0)),(1,(p 0 0)),(39,(w 21)),(40,(w 20)),(41,(.w (.c (.tp (x 22) (x 23) 0)))),(42,(w 24)),(4,(w 20)),(5,(w 24)),(43,(v 1)),(44,(w 20)),(45,(w 25)),(46,(w 26)),(47,(w 27)),(48,(v 1)),(49,(w 20)),(50,(w 28)),(51,(w 29)),(52,(w 30)),(6,(w 27)),(7,(w 30)),(53,(w 24)),(54,(w 27)),(55,(w 31)),(56,(w 31)),(60,(w 32)),(61,(w 32)),(70,(w 33))],[(0,(.box [(r 1 0),(r 1 1)]))],1⟩),.no]
theorem RI:symF D0 100000 157 RH=some t7:=by kernel_rfl
def yO:K:=
.ret [.c (.v (.bool true))]
def oC:K:=
 l oL [x 6,x 5]<|
 b (x 7) (l (.tix 1) [x 0,x 6]<|
 l (.elt 0 0) [x 0,x 8]<|
 l (.tix 1) [x 1,x 6]<|
 l (.elt 0 0) [x 1,x 10]<|
 l oN [x 9,x 11]<|
 b (x 12) (.ret [.c (.v (.bool false))])<|
 l oA [x 6,i 1]<|
 j 1 [x 13])<|
 j 0 []
def t8:K:=
 l .len [x 0]<|
 l .len [x 1]<|
 l oN [x 2,x 3]<|
 b (x 4) (.ret [.c (.v (.bool false))])<|
 l .len [x 0]<|
.jp yO<|
.loop oC<|
 j 1 [i 0]
def RJ:List Hint:=[.no,(.j ⟨0,[(4,(.w (.c (.a (.c (.v (.bool false)))))))],[],0⟩),(.j ⟨1,[(1,(w 1)),(0,(w 0)),(4,(.w (.c (.a (.c (.v (.bool false))))))),(12,(w 5)),(13,(w 6))],[],0⟩),.no,.no,.no]
theorem RK:symF D0 100000 163 RJ=some t8:=by kernel_rfl
def yP:K:=
.ret [.c (.v (.bool true))]
def oD:K:=
 l oL [x 6,x 5]<|
 b (x 7) (l (.tix 3) [x 0,x 6]<|
 l (.elt 0 3) [x 0,x 8]<|
 l (.tix 3) [x 1,x 6]<|
 l (.elt 0 3) [x 1,x 10]<|
 l (.eqv [.i,.i,.i]) [x 9,x 11]<|
 l (.un .not) [x 12]<|
 b (x 13) (.ret [.c (.v (.bool false))])<|
 l oA [x 6,i 1]<|
 j 1 [x 14])<|
 j 0 []
def ug:K:=
 l .len [x 0]<|
 l .len [x 1]<|
 l oN [x 2,x 3]<|
 b (x 4) (.ret [.c (.v (.bool false))])<|
 l .len [x 0]<|
.jp yP<|
.loop oD<|
 j 1 [i 0]
def RL:List Hint:=[.no,(.j ⟨0,[(4,(.w (.c (.a (.c (.v (.bool false)))))))],[],0⟩),(.j ⟨1,[(1,(w 1)),(0,(w 0)),(4,(.w (.c (.a (.c (.v (.bool false))))))),(12,(w 5)),(13,(w 6))],[],0⟩),.no,.no,.no]
theorem RM:symF D0 100000 165 RL=some ug:=by kernel_rfl
def yQ:K:=
 l (.cell 10) [x 1]<|
 l .len [x 27]<|
 l oN [x 26,x 28]<|
 b (x 29) (.ret [i 8])<|
.ret [i 0]
def oF:K:=
 l oA [x 27,i 1]<|
 j 1 [x 31,x 46]
def k167_3:K:=
 l (.cell 4) [x 1]<|
 l .len [x 28]<|
 l oL [x 27,x 29]<|
 b (x 30) (.jp oF<|
 l (.cell 4) [x 1]<|
 l (.tix 3) [x 31,x 27]<|
 l (.elt 0 3) [x 31,x 32]<|
 l (.part 2 1) [x 1]<|
 l (.part 1 2) [x 33]<|
 l (.part 0 2) [x 1]<|
 c 261 [x 34,x 35,x 36]<|
 l (.shape 2) [x 37]<|
 l (.un .not) [x 38]<|
 b (x 40) (l (.cell 0) [x 33]<|
 l (.cell 1) [x 33]<|
 l (.cell 2) [x 33]<|
 l (.cell 0) [x 39]<|
 l (.cell 1) [x 39]<|
 j 2 [x 26,x 31,x 32,x 33,x 41,x 42,x 43,x 34,x 35,x 36,x 37,x 38,x 44,x 45,x 40])<|
 l (.cell 10) [x 1]<|
 l .len [x 41]<|
 l oH [x 26,x 42]<|
 b (x 43) (.ret [i 8])<|
 l (.cell 10) [x 1]<|
 l (.tix 3) [x 44,x 26]<|
 l (.elt 0 0) [x 44,x 45]<|
 l (.cell 0) [x 33]<|
 l oN [x 46,x 47]<|
 b (x 48) (.ret [i 8])<|
 l (.part 5 5) [x 1]<|
 l (.cell 10) [x 1]<|
 l (.tix 3) [x 50,x 26]<|
 l (.elt 1 2) [x 50,x 51]<|
 c 262 [x 49,x 52]<|
 l (.shape 5) [x 53]<|
 l oN [x 54,i 0]<|
 b (x 56) (.ret [i 8])<|
 l (.cell 2) [x 55]<|
 l (.cell 0) [x 33]<|
 l oN [x 57,x 58]<|
 b (x 59) (.ret [i 8])<|
 l (.part 0 2) [x 55]<|
 l (.eqv [.i,.i]) [x 60,x 39]<|
 l (.un .not) [x 61]<|
 b (x 62) (.ret [i 8])<|
 l oA [x 26,i 1]<|
 l (.cell 0) [x 33]<|
 l (.cell 1) [x 33]<|
 l (.cell 2) [x 33]<|
 l (.cell 0) [x 39]<|
 l (.cell 1) [x 39]<|
 j 2 [x 63,x 31,x 32,x 33,x 64,x 65,x 66,x 34,x 35,x 36,x 37,x 38,x 67,x 68,x 40])<|
 j 0 [x 26]
def uh:K:=
 l (.shape 11) [x 0]<|
 l (.part 0 2) [x 1]<|
 c 128 [x 2]<|
 l oN [x 3,i 0]<|
 b (x 4) (.ret [i 8])<|
 l (.part 2 1) [x 1]<|
 c 143 [x 5]<|
 l oN [x 6,i 0]<|
 b (x 7) (.ret [i 8])<|
 l (.part 3 2) [x 1]<|
 c 258 [x 8]<|
 l oN [x 9,i 0]<|
 b (x 10) (.ret [i 8])<|
 l (.part 3 2) [x 1]<|
 l (.part 2 1) [x 1]<|
 c 259 [x 11,x 12]<|
 l (.un .not) [x 13]<|
 b (x 14) (.ret [i 8])<|
 l (.part 5 5) [x 1]<|
 c 260 [x 15]<|
 l oN [x 16,i 0]<|
 b (x 17) (.ret [i 8])<|
 l (.cell 9) [x 1]<|
 l .len [x 18]<|
 l oN [x 19,i 200]<|
 b (x 20) (.ret [i 8])<|
 l (.cell 8) [x 1]<|
 l .len [x 21]<|
 l (.cell 10) [x 1]<|
 l .len [x 23]<|
 l oN [x 22,x 24]<|
 b (x 25) (.ret [i 8])<|
.jp yQ<|
.loop k167_3<|
 j 1 [i 0,i 0]
def RN:List Hint:=[.no,.no,(.j ⟨1,[(3,(w 26)),(2,(wi 0)),(1,(p 0 0))],[(0,(.box (pcs (x 1) 0 11)))],1⟩),(.j ⟨2,[(1,(p 0 0)),(2,(wi 0)),(3,(w 26)),(4,(w 27))],[(0,(.box (pcs (x 1) 0 11)))],1⟩),.no,(.j ⟨15,[(4,(w 27)),(3,(w 31)),(2,(wi 0)),(1,(p 0 0)),(57,(w 27)),(58,(p 0 3)),(59,(p 0 4)),(60,(.w (.c (r 1 4)))),(61,(w 29)),(62,(w 30)),(65,(p 0 3)),(66,(p 0 4)),(67,(.w (.c (r 1 4)))),(68,(w 27)),(69,(.w (.c (.tp (x 32) (x 33) 0)))),(70,(v 34)),(5,(p 1 0)),(72,(p 0 2)),(73,(v 38)),(74,(p 1 1)),(75,(v 39)),(76,(p 0 0)),(77,(v 40)),(78,(.tup [(.av (x 41)),(.c (a 42))])),(71,(.tup [(.av (x 41)),(.c (a 42))])),(79,(v 41)),(80,(w 42)),(6,(p 2 0)),(7,(w 42)),(81,(w 42)),(82,(w 45))],[(0,(.box (pcs (x 1) 0 11))),(1,(.box [(a 35),(a 36),(a 37)])),(2,(.box [(a 43),(a 44)]))],3⟩),.no,.no,.no,.no,.no,.no]
theorem RP:symF D0 100000 167 RN=some uh:=by kernel_rfl
def yR:K:=
.ret [i (-1)]
def oI:K:=
 l (.cell 0) [x 2]<|
 l .len [x 4]<|
 l oL [x 3,x 5]<|
 b (x 6) (l (.cell 0) [x 2]<|
 l (.tix 3) [x 7,x 3]<|
 l (.elt 0 0) [x 7,x 8]<|
 l oE [x 9,x 1]<|
 b (x 10) (.ret [x 3])<|
 l oA [x 3,i 1]<|
 j 1 [x 11])<|
 j 0 []
def ui:K:=
 l (.shape 1) [x 0]<|
.jp yR<|
.loop oI<|
 j 1 [i 0]
def RQ:List Hint:=[(.j ⟨0,[(4,(wi 0))],[],0⟩),(.j ⟨1,[(1,(w 1)),(2,(p 0 0)),(4,(wi 0)),(5,(w 3))],[(0,(.box [(r 2 0)]))],1⟩),.no,.no,.no]
theorem RS:symF D0 100000 168 RQ=some ui:=by kernel_rfl
def yS:K:=
.ret [.c (.v (.bool true))]
def oJ:K:=
 l .len [x 1]<|
 l oL [x 7,x 8]<|
 b (x 9) (l (.part 3 2) [x 2]<|
 l (.tix 2) [x 1,x 7]<|
 l (.elt 0 2) [x 1,x 11]<|
 c 263 [x 10,x 12]<|
 l (.un .not) [x 13]<|
 b (x 14) (.ret [.c (.v (.bool false))])<|
 l (.tix 2) [x 1,x 7]<|
 l (.elt 0 2) [x 1,x 15]<|
 l (.part 2 1) [x 2]<|
 l (.part 0 2) [x 2]<|
 c 264 [x 16,x 17,x 18]<|
 l (.un .not) [x 19]<|
 b (x 20) (.ret [.c (.v (.bool false))])<|
 l oA [x 7,i 1]<|
 j 1 [x 21])<|
 j 0 []
def uj:K:=
 l (.shape 11) [x 0]<|
 l (.cell 4) [x 2]<|
 l .len [x 3]<|
 l .len [x 1]<|
 l oN [x 4,x 5]<|
 b (x 6) (.ret [.c (.v (.bool false))])<|
.jp yS<|
.loop oJ<|
 j 1 [i 0]
def RU:List Hint:=[.no,(.j ⟨0,[(4,(.w (.c (.a (.c (.v (.bool false)))))))],[],0⟩),(.j ⟨1,[(1,(w 1)),(2,(p 0 0)),(4,(.w (.c (.a (.c (.v (.bool false))))))),(5,(w 7))],[(0,(.box (pcs (x 2) 0 11)))],1⟩),.no,.no,.no,.no]
theorem RV:symF D0 100000 169 RU=some uj:=by kernel_rfl
def JQ:K:=
 l .sub [x 1,i 0,x 2]<|
.ret [x 3]
def JR:K:=
 l .len [x 0]<|
 l oL [x 3,x 4]<|
 b (x 5) (l (.tix 1) [x 0,x 3]<|
 l (.elt 0 0) [x 0,x 6]<|
 l oS [x 3,i 1]<|
 l (.bin .quo) [x 8,i 2]<|
 l (.tix 1) [x 0,x 9]<|
 l (.elt 0 0) [x 0,x 10]<|
 l .agg [x 7,x 11]<|
 l (.bs 1 [z,z] [0]) [x 12]<|
 l .sub [x 13,i 0,i 1]<|
 l (.app 16 2) [x 1,x 2,x 14]<|
 l .len [x 15]<|
 l oA [x 3,i 1]<|
 j 1 [x 15,x 16,x 17])<|
 j 0 [x 1,x 2]
def BI:K:=
.jp JQ<|
.loop JR<|
 j 1 [.c (.sl []),i 0,i 1]
def RW:List Hint:=[(.j ⟨2,[(3,(.w (.c (o 0 2)))),(2,(.w (.c .nil)))],[(0,(.lst (x 1) (x 2) 2 false))],1⟩),(.j ⟨3,[(0,(w 0)),(2,(.w (.c .nil))),(3,(.w (.c (o 0 2)))),(4,(w 3))],[(0,(.lst (x 1) (x 2) 2 false))],1⟩),.no,.no]
theorem RX:symF D0 100000 170 RW=some BI:=by kernel_rfl
def yT:K:=
.ret [i 0]
def yU:K:=
 b (x 27) (.ret [i 8])<|
 l oA [x 12,i 1]<|
 j 1 [x 28]
def oO:K:=
 l (.cell 1) [x 1]<|
 l .len [x 13]<|
 l oL [x 12,x 14]<|
 b (x 15) (l oM [i 2,x 12]<|
 l oA [x 16,i 1]<|
 c 266 [x 1,x 17]<|
 l oM [i 2,x 12]<|
 l oA [x 19,i 2]<|
 c 266 [x 1,x 20]<|
.jp yU<|
 l (.cell 1) [x 1]<|
 l (.tix 1) [x 22,x 12]<|
 l (.elt 0 0) [x 22,x 23]<|
 l oN [x 24,x 18]<|
 b (x 25) (l (.cell 1) [x 1]<|
 l (.tix 1) [x 26,x 12]<|
 l (.elt 0 0) [x 26,x 27]<|
 l oN [x 28,x 21]<|
 b (x 29) (j 2 [x 22,x 23,x 24,x 25,x 29,.c (.v (.bool true))])<|
 l (.cell 1) [x 1]<|
 l (.tix 1) [x 30,x 12]<|
 l (.elt 0 0) [x 30,x 31]<|
 l oE [x 32,i (-1)]<|
 b (x 33) (l oN [x 18,i (-1)]<|
 b (x 34) (j 2 [x 22,x 23,x 24,x 25,x 29,.c (.v (.bool true))])<|
 l oN [x 21,i (-1)]<|
 j 2 [x 22,x 23,x 24,x 25,x 29,x 35])<|
 j 2 [x 22,x 23,x 24,x 25,x 29,.c (.v (.bool false))])<|
 l (.cell 1) [x 1]<|
 l (.tix 1) [x 26,x 12]<|
 l (.elt 0 0) [x 26,x 27]<|
 l oE [x 28,i (-1)]<|
 b (x 29) (l oN [x 18,i (-1)]<|
 b (x 30) (j 2 [x 22,x 23,x 24,x 25,.c (.v (.bool false)),.c (.v (.bool true))])<|
 l oN [x 21,i (-1)]<|
 j 2 [x 22,x 23,x 24,x 25,.c (.v (.bool false)),x 31])<|
 j 2 [x 22,x 23,x 24,x 25,.c (.v (.bool false)),.c (.v (.bool false))])<|
 j 0 []
def k171_4:K:=
.jp yT<|
.loop oO<|
 j 1 [i 0]
def k171_5:K:=
 l oL [x 12,x 3]<|
 b (x 13) (l (.cell 0) [x 1]<|
 l (.tix 1) [x 14,x 12]<|
 l (.elt 0 0) [x 14,x 15]<|
 l oL [x 16,i (-1)]<|
 b (x 17) (.ret [i 8])<|
 l (.cell 0) [x 1]<|
 l (.tix 1) [x 18,x 12]<|
 l (.elt 0 0) [x 18,x 19]<|
 l oG [x 20,i 65535]<|
 b (x 21) (.ret [i 8])<|
 l oA [x 12,i 1]<|
 j 1 [x 22])<|
 j 0 []
def ul:K:=
 l (.shape 2) [x 0]<|
 l (.cell 0) [x 1]<|
 l .len [x 2]<|
 l oL [x 3,i 1]<|
 b (x 4) (.ret [i 8])<|
 l oG [x 3,i 64]<|
 b (x 5) (.ret [i 8])<|
 l (.cell 1) [x 1]<|
 l .len [x 6]<|
 l oS [x 3,i 1]<|
 l oN [x 7,x 8]<|
 b (x 9) (.ret [i 8])<|
 l (.cell 0) [x 1]<|
 c 265 [x 10]<|
 b (x 11) (.ret [i 8])<|
.jp k171_4<|
.loop k171_5<|
 j 1 [i 0]
def RY:List Hint:=[.no,.no,(.j ⟨0,[(2,(wi 0)),(1,(p 0 0))],[(0,(.box [(r 1 0),(r 1 1)]))],1⟩),(.j ⟨1,[(1,(p 0 0)),(2,(wi 0)),(3,(w 3)),(4,(w 12))],[(0,(.box [(r 1 0),(r 1 1)]))],1⟩),.no,.no,.no,.no,(.j ⟨0,[(2,(wi 0))],[],0⟩),(.j ⟨1,[(1,(p 0 0)),(2,(wi 0)),(5,(w 12))],[(0,(.box [(r 1 0),(r 1 1)]))],1⟩),.no,.no,(.j ⟨6,[(5,(w 12)),(2,(wi 0)),(1,(p 0 0)),(49,(w 12)),(50,(p 0 1)),(51,(.w (.c (r 1 1)))),(52,(w 14)),(53,(w 15)),(56,(v 1)),(57,(w 12)),(58,(w 16)),(59,(w 17)),(60,(w 18)),(61,(v 1)),(62,(w 12)),(63,(w 19)),(64,(w 20)),(65,(w 21)),(6,(w 18)),(7,(w 21)),(66,(p 0 1)),(67,(.w (.c (r 1 1)))),(68,(w 12)),(69,(.w (.c (.tp (x 22) (x 23) 0)))),(70,(w 24)),(71,(w 18)),(72,(w 25)),(73,(w 25)),(81,(w 26)),(82,(w 26)),(97,(w 27))],[(0,(.box [(r 1 0),(r 1 1)]))],1⟩),.no]
theorem RZ:symF D0 100000 171 RY=some ul:=by kernel_rfl
def yV:K:=
.ret [.c (.v (.bool false))]
def k172_2:K:=
 l oK [x 1,i 64]<|
 b (x 2) (l oE [x 0,x 1]<|
 b (x 3) (.ret [.c (.v (.bool true))])<|
 l oM [x 1,i 2]<|
 j 1 [x 4])<|
 j 0 []
def um:K:=
.jp yV<|
.loop k172_2<|
 j 1 [i 1]
def R0:List Hint:=[(.j ⟨0,[(2,(.w (.c (.a (.c (.v (.bool false)))))))],[],0⟩),(.j ⟨1,[(0,(w 0)),(2,(.w (.c (.a (.c (.v (.bool false))))))),(3,(w 1))],[],0⟩),.no,.no,.no]
theorem R1:symF D0 100000 172 R0=some um:=by kernel_rfl
def yW:K:=
.ret [.c (.v (.bool true))]
def yX:K:=
 b (x 9) (.ret [.c (.v (.bool false))])<|
 l oA [x 3,i 1]<|
 j 1 [x 10]
def oP:K:=
 l .len [x 1]<|
 l oL [x 3,x 4]<|
 b (x 5) (.jp yX<|
 l (.tix 1) [x 1,x 3]<|
 l (.elt 0 0) [x 1,x 6]<|
 l oN [x 7,i (-1)]<|
 b (x 8) (l (.tix 1) [x 1,x 3]<|
 l (.elt 0 0) [x 1,x 9]<|
 c 168 [x 2,x 10]<|
 l oL [x 11,i 0]<|
 j 2 [x 6,x 7,x 8,x 12])<|
 j 2 [x 6,x 7,x 8,.c (.v (.bool false))])<|
 j 0 []
def uo:K:=
 l (.shape 1) [x 0]<|
.jp yW<|
.loop oP<|
 j 1 [i 0]
def R2:List Hint:=[(.j ⟨0,[(4,(.w (.c (.a (.c (.v (.bool false)))))))],[],0⟩),(.j ⟨1,[(1,(w 1)),(2,(p 0 0)),(4,(.w (.c (.a (.c (.v (.bool false))))))),(5,(w 3))],[(0,(.box [(r 2 0)]))],1⟩),.no,.no,(.j ⟨4,[(5,(w 3)),(4,(.w (.c (.a (.c (.v (.bool false))))))),(2,(p 0 0)),(1,(w 1)),(6,(w 3)),(7,(w 1)),(8,(w 4)),(9,(w 5)),(12,(w 1)),(13,(w 3)),(14,(.w (.c (.tp (x 1) (x 6) 0)))),(15,(w 7)),(16,(w 8)),(17,(w 8)),(25,(w 9))],[(0,(.box [(r 2 0)]))],1⟩),.no]
theorem R3:symF D0 100000 173 R2=some uo:=by kernel_rfl
def yY:K:=
 l .sub [x 1,i 0,x 2]<|
.ret [x 3]
def yZ:K:=
 l oA [x 3,i 1]<|
 j 1 [x 9,x 10,x 11]
def oQ:K:=
 l .len [x 0]<|
 l oL [x 3,x 4]<|
 b (x 5) (l (.tix 1) [x 0,x 3]<|
 l (.elt 0 0) [x 0,x 6]<|
 l oH [x 7,i 0]<|
.jp yZ<|
 b (x 8) (l (.tix 1) [x 0,x 3]<|
 l (.elt 0 0) [x 0,x 9]<|
 l (.bs 1 [z] [0]) [x 10]<|
 l .sub [x 11,i 0,i 1]<|
 l (.app 8 1) [x 1,x 2,x 12]<|
 l .len [x 13]<|
 j 2 [x 13,x 14])<|
 j 2 [x 1,x 2])<|
 j 0 [x 1,x 2]
def uq:K:=
.jp yY<|
.loop oQ<|
 j 1 [.c (.sl []),i 0,i 0]
def R4:List Hint:=[(.j ⟨2,[(3,(.w (.c (o 0 2)))),(2,(.w (.c .nil)))],[(0,(.lst (x 1) (x 2) 1 false))],1⟩),(.j ⟨3,[(0,(w 0)),(2,(.w (.c .nil))),(3,(.w (.c (o 0 2)))),(4,(w 3))],[(0,(.lst (x 1) (x 2) 1 false))],1⟩),.no,.no,(.j ⟨2,[(4,(w 3)),(2,(.w (.c .nil))),(0,(w 0)),(5,(w 3)),(6,(w 0)),(7,(w 4)),(8,(w 5)),(11,(w 0)),(12,(w 3)),(13,(.w (.c (.tp (x 0) (x 6) 0)))),(14,(w 7)),(15,(w 8)),(3,(.w (.c (o 0 10))))],[(0,(.lst (x 9) (x 10) 1 false))],1⟩)]
theorem R5:symF D0 100000 174 R4=some uq:=by kernel_rfl
def y6:K:=
.ret [.c (.v (.bool true))]
def oR:K:=
 l (.cell 1) [x 3]<|
 l .len [x 7]<|
 l oL [x 6,x 8]<|
 b (x 9) (l (.cell 1) [x 3]<|
 l (.tix 1) [x 10,x 6]<|
 l (.elt 0 0) [x 10,x 11]<|
 l oM [i 2,x 6]<|
 l oA [x 13,i 1]<|
 c 266 [x 3,x 14]<|
 l oM [i 2,x 6]<|
 l oA [x 16,i 2]<|
 c 266 [x 3,x 17]<|
 c 267 [x 4,x 5,x 15,x 18]<|
 l oN [x 12,x 19]<|
 b (x 20) (.ret [.c (.v (.bool false))])<|
 l oA [x 6,i 1]<|
 j 1 [x 21])<|
 j 0 []
def ur:K:=
 l (.shape 2) [x 0]<|
 l (.shape 1) [x 1]<|
 l (.shape 2) [x 2]<|
.jp y6<|
.loop oR<|
 j 1 [i 0]
def R6:List Hint:=[(.j ⟨0,[(6,(.w (.c (.a (.c (.v (.bool false)))))))],[],0⟩),(.j ⟨1,[(3,(p 0 0)),(4,(p 1 0)),(5,(p 2 0)),(6,(.w (.c (.a (.c (.v (.bool false))))))),(7,(w 6))],[(0,(.box [(r 3 0),(r 3 1)])),(1,(.box [(r 4 0)])),(2,(.box [(r 5 0),(r 5 1)]))],3⟩),.no,.no,.no]
theorem R7:symF D0 100000 175 R6=some ur:=by kernel_rfl
def y7:K:=
 l .sub [x 2,i 0,x 3]<|
.ret [x 4]
def y8:K:=
 l oA [x 4,i 1]<|
 j 1 [x 8,x 9,x 18]
def y9:K:=
 j 2 [x 20,x 21,x 8,x 9,x 10,x 11,x 12,x 13,x 14,x 15]
def oT:K:=
 l (.cell 1) [x 1]<|
 l .len [x 5]<|
 l oL [x 4,x 6]<|
 b (x 7) (.jp y8<|
 l oM [i 2,x 4]<|
 l oA [x 8,i 1]<|
 c 266 [x 1,x 9]<|
 l oM [i 2,x 4]<|
 l oA [x 11,i 2]<|
 c 266 [x 1,x 12]<|
 l oL [x 10,i 0]<|
 b (x 14) (j 2 [x 2,x 3,x 8,x 9,x 10,x 11,x 12,x 13,x 14,.c (.v (.bool true))])<|
 l oL [x 13,i 0]<|
 b (x 15) (j 2 [x 2,x 3,x 8,x 9,x 10,x 11,x 12,x 13,x 14,x 15])<|
 l (.cell 1) [x 1]<|
 l (.tix 1) [x 16,x 4]<|
 l (.elt 0 0) [x 16,x 17]<|
 l oE [x 18,x 10]<|
.jp y9<|
 b (x 19) (l .agg [x 13,x 10]<|
 l (.bs 1 [z,z] [0]) [x 20]<|
 l .sub [x 21,i 0,i 1]<|
 l (.app 16 2) [x 2,x 3,x 22]<|
 l .len [x 23]<|
 j 3 [x 23,x 24])<|
 l .agg [x 10,x 13]<|
 l (.bs 1 [z,z] [0]) [x 20]<|
 l .sub [x 21,i 0,i 1]<|
 l (.app 16 2) [x 2,x 3,x 22]<|
 l .len [x 23]<|
 j 3 [x 23,x 24])<|
 j 0 [x 2,x 3]
def ut:K:=
 l (.shape 2) [x 0]<|
.jp y7<|
.loop oT<|
 j 1 [.c (.sl []),i 0,i 0]
def R8:List Hint:=[(.j ⟨2,[(3,(.w (.c (o 0 3)))),(2,(.w (.c .nil)))],[(0,(.lst (x 2) (x 3) 2 false))],1⟩),(.j ⟨3,[(1,(p 0 0)),(2,(.w (.c .nil))),(3,(.w (.c (o 1 3)))),(4,(w 4))],[(0,(.box [(r 1 0),(r 1 1)])),(1,(.lst (x 2) (x 3) 2 false))],2⟩),.no,(.j ⟨10,[(4,(w 4)),(3,(.w (.c (o 0 9)))),(2,(.w (.c .nil))),(1,(p 1 0)),(7,(w 4)),(8,(p 1 1)),(9,(.w (.c (r 1 1)))),(10,(w 6)),(11,(w 7)),(14,(v 1)),(15,(w 4)),(16,(w 10)),(17,(w 11)),(18,(w 12)),(19,(v 1)),(20,(w 4)),(21,(w 13)),(22,(w 14)),(23,(w 15)),(5,(w 12)),(6,(w 15)),(24,(w 12)),(25,(w 16)),(26,(w 16)),(29,(w 17))],[(0,(.lst (x 8) (x 9) 2 false)),(1,(.box [(r 1 0),(r 1 1)]))],2⟩),.no,.no,(.j ⟨2,[(4,(w 4)),(2,(.w (.c .nil))),(1,(p 0 0)),(7,(w 4)),(8,(p 0 1)),(9,(.w (.c (r 1 1)))),(10,(w 6)),(11,(w 7)),(14,(v 1)),(15,(w 4)),(16,(w 8)),(17,(w 9)),(18,(w 10)),(19,(v 1)),(20,(w 4)),(21,(w 11)),(22,(w 12)),(23,(w 13)),(5,(w 10)),(6,(w 13)),(24,(w 10)),(25,(w 14)),(26,(w 14)),(27,(w 13)),(28,(w 15)),(29,(w 15)),(30,(p 0 1)),(31,(.w (.c (r 1 1)))),(32,(w 4)),(33,(.w (.c (.tp (x 16) (x 17) 0)))),(34,(w 18)),(35,(w 10)),(36,(w 19)),(3,(.w (.c (o 1 21))))],[(0,(.box [(r 1 0),(r 1 1)])),(1,(.lst (x 20) (x 21) 2 false))],2⟩)]
theorem R9:symF D0 100000 176 R8=some ut:=by kernel_rfl
def uu:K:=
 l (.shape 1) [x 0]<|
 l (.shape 2) [x 1]<|
 c 268 [x 2,x 3]<|
 l (.shape 2) [x 4]<|
.ret [x 5]
def Sa:List Hint:=[]
theorem Sb:symF D0 100000 177 Sa=some uu:=by kernel_rfl
def jI:K:=
 l .sub [x 2,i 0,x 3]<|
.ret [x 4]
def oU:K:=
 l oA [x 4,i 1]<|
 j 1 [x 9,x 10,x 13]
def k178_3:K:=
 l oA [x 10,i 1]<|
 j 3 [x 19,x 20,x 21]
def oV:K:=
.jp k178_3<|
 b (x 18) (l (.cell 1) [x 1]<|
 l (.tix 3) [x 19,x 4]<|
 l (.elt 0 0) [x 19,x 20]<|
 l (.cell 1) [x 1]<|
 l (.tix 3) [x 22,x 10]<|
 l (.elt 0 0) [x 22,x 23]<|
 l .agg [x 21,x 24]<|
 l (.bs 1 [z,z] [0]) [x 25]<|
 l .sub [x 26,i 0,i 1]<|
 l (.app 16 2) [x 8,x 9,x 27]<|
 l .len [x 28]<|
 j 4 [x 28,x 29])<|
 j 4 [x 8,x 9]
def oW:K:=
 l (.cell 1) [x 1]<|
 l .len [x 11]<|
 l oL [x 10,x 12]<|
 b (x 13) (.jp oV<|
 l (.cell 1) [x 1]<|
 l (.tix 3) [x 14,x 10]<|
 l (.elt 1 0) [x 14,x 15]<|
 l oE [x 16,x 4]<|
 b (x 17) (j 4 [x 14,x 15,x 16,x 17,.c (.v (.bool true))])<|
 l (.cell 1) [x 1]<|
 l (.tix 3) [x 18,x 10]<|
 l (.elt 2 0) [x 18,x 19]<|
 l oE [x 20,x 4]<|
 j 4 [x 14,x 15,x 16,x 17,x 21])<|
 j 2 [x 10,x 8,x 9,x 12,x 13]
def oX:K:=
 l (.cell 1) [x 1]<|
 l .len [x 5]<|
 l oL [x 4,x 6]<|
 b (x 7) (.jp oU<|
.loop oW<|
 j 3 [x 2,x 3,i 0])<|
 j 0 [x 2,x 3]
def uv:K:=
 l (.shape 2) [x 0]<|
.jp jI<|
.loop oX<|
 j 1 [.c (.sl []),i 0,i 0]
def Sc:List Hint:=[(.j ⟨2,[(3,(.w (.c (o 0 3)))),(2,(.w (.c .nil)))],[(0,(.lst (x 2) (x 3) 2 false))],1⟩),(.j ⟨3,[(1,(p 0 0)),(2,(.w (.c .nil))),(3,(.w (.c (o 1 3)))),(4,(w 4))],[(0,(.box [(r 1 0),(r 1 1)])),(1,(.lst (x 2) (x 3) 2 false))],2⟩),.no,.no,(.j ⟨5,[(5,(w 8)),(10,(w 7)),(9,(w 6)),(8,(.w (.c (r 1 1)))),(7,(p 0 1)),(6,(w 4)),(1,(p 0 0)),(2,(.w (.c .nil))),(3,(.w (.c (o 1 10)))),(4,(w 4)),(13,(w 8)),(14,(p 0 1)),(15,(.w (.c (r 1 1)))),(16,(w 11)),(17,(w 12))],[(0,(.box [(r 1 0),(r 1 1)])),(1,(.lst (x 9) (x 10) 2 false))],2⟩),(.j ⟨3,[(4,(w 4)),(3,(.w (.c (o 0 9)))),(2,(.w (.c .nil))),(1,(p 1 0)),(6,(w 4)),(7,(p 1 1)),(8,(.w (.c (r 1 1)))),(9,(w 6)),(10,(w 7)),(5,(w 10))],[(0,(.lst (x 8) (x 9) 2 false)),(1,(.box [(r 1 0),(r 1 1)]))],2⟩),.no,.no,(.j ⟨5,[(5,(w 10)),(10,(w 7)),(9,(w 6)),(8,(.w (.c (r 1 1)))),(7,(p 0 1)),(6,(w 4)),(1,(p 0 0)),(2,(.w (.c .nil))),(3,(.w (.c (o 1 9)))),(4,(w 4)),(13,(w 10)),(14,(p 0 1)),(15,(.w (.c (r 1 1)))),(16,(w 12)),(17,(w 13)),(20,(p 0 1)),(21,(.w (.c (r 1 1)))),(22,(w 10)),(23,(.w (.c (.tp (x 14) (x 15) 0)))),(24,(.w (.c (.tp (x 14) (x 15) 1)))),(25,(w 16)),(26,(w 4)),(27,(w 17)),(28,(w 17)),(37,(w 18))],[(0,(.box [(r 1 0),(r 1 1)])),(1,(.lst (x 8) (x 9) 2 false))],2⟩),(.j ⟨2,[(37,(w 18)),(28,(w 17)),(27,(w 17)),(26,(w 4)),(25,(w 16)),(24,(.w (.c (.tp (x 14) (x 15) 1)))),(23,(.w (.c (.tp (x 14) (x 15) 0)))),(22,(w 10)),(21,(.w (.c (r 1 1)))),(20,(p 0 1)),(17,(w 13)),(16,(w 12)),(15,(.w (.c (r 1 1)))),(14,(p 0 1)),(13,(w 10)),(4,(w 4)),(2,(.w (.c .nil))),(1,(p 0 0)),(6,(w 4)),(7,(p 0 1)),(8,(.w (.c (r 1 1)))),(9,(w 6)),(10,(w 7)),(5,(w 10)),(3,(.w (.c (o 1 20))))],[(0,(.box [(r 1 0),(r 1 1)])),(1,(.lst (x 19) (x 20) 2 false))],2⟩)]
theorem Sd:symF D0 100000 178 Sc=some uv:=by kernel_rfl
def k179_1:K:=
 l .sub [x 10,i 0,x 9]<|
.ret [x 11]
def k179_2:K:=
 l .len [x 5]<|
 l oL [x 11,x 12]<|
 b (x 13) (l (.tix 2) [x 5,x 11]<|
 l (.elt 0 0) [x 5,x 14]<|
 c 168 [x 2,x 15]<|
 l (.tix 2) [x 5,x 11]<|
 l (.elt 1 0) [x 5,x 17]<|
 l .ix [x 16,x 9]<|
 l (.set 0) [x 10,x 19,x 18]<|
 l oA [x 11,i 1]<|
 j 1 [x 20,x 21])<|
 j 0 [x 10]
def ux:K:=
 l (.shape 1) [x 0]<|
 l (.shape 2) [x 1]<|
 c 152 [x 2,x 3]<|
 c 269 [x 4,i (-1),i 0]<|
 l (.cell 0) [x 2]<|
 l .len [x 6]<|
 l (.rep [z] 8) [x 7,x 7]<|
 l .len [x 8]<|
.jp k179_1<|
.loop k179_2<|
 j 1 [x 8,i 0]
def Se:List Hint:=[(.j ⟨1,[(6,(.w (.c (o 0 9)))),(4,(.w (.c .nil)))],[(0,(.lst (x 10) (x 9) 1 false))],1⟩),(.j ⟨2,[(2,(p 0 0)),(4,(.w (.c .nil))),(5,(w 5)),(6,(.w (.c (o 1 9)))),(7,(w 11))],[(0,(.box [(r 2 0)])),(1,(.lst (x 10) (x 9) 1 false))],2⟩),.no,.no]
theorem Sf:symF D0 100000 179 Se=some ux:=by kernel_rfl
def za:K:=
 l .sub [x 3,i 0,x 4]<|
.ret [x 5]
def jJ:K:=
 l oA [x 5,i 1]<|
 j 1 [x 11,x 12,x 13]
def oY:K:=
 l .len [x 1]<|
 l oL [x 5,x 6]<|
 b (x 7) (l (.tix 1) [x 1,x 5]<|
 l (.elt 0 0) [x 1,x 8]<|
 l oH [x 9,i 0]<|
.jp jJ<|
 b (x 10) (l (.cell 0) [x 2]<|
 l (.tix 3) [x 11,x 5]<|
 l (.elt 0 0) [x 11,x 12]<|
 l (.tix 1) [x 1,x 5]<|
 l (.elt 0 0) [x 1,x 14]<|
 l .agg [x 13,x 15]<|
 l (.bs 1 [z,z] [0]) [x 16]<|
 l .sub [x 17,i 0,i 1]<|
 l (.app 16 2) [x 3,x 4,x 18]<|
 l .len [x 19]<|
 j 2 [x 19,x 20])<|
 j 2 [x 3,x 4])<|
 j 0 [x 3,x 4]
def uy:K:=
 l (.shape 1) [x 0]<|
.jp za<|
.loop oY<|
 j 1 [.c (.sl []),i 0,i 0]
def Sg:List Hint:=[(.j ⟨2,[(5,(.w (.c (o 0 4)))),(4,(.w (.c .nil)))],[(0,(.lst (x 3) (x 4) 2 false))],1⟩),(.j ⟨3,[(1,(w 1)),(2,(p 0 0)),(4,(.w (.c .nil))),(5,(.w (.c (o 1 4)))),(6,(w 5))],[(0,(.box [(r 2 0)])),(1,(.lst (x 3) (x 4) 2 false))],2⟩),.no,.no,(.j ⟨2,[(6,(w 5)),(4,(.w (.c .nil))),(2,(p 0 0)),(1,(w 1)),(7,(w 5)),(8,(w 1)),(9,(w 6)),(10,(w 7)),(13,(w 1)),(14,(w 5)),(15,(.w (.c (.tp (x 1) (x 8) 0)))),(16,(w 9)),(17,(w 10)),(5,(.w (.c (o 1 12))))],[(0,(.box [(r 2 0)])),(1,(.lst (x 11) (x 12) 2 false))],2⟩)]
theorem Si:symF D0 100000 180 Sg=some uy:=by kernel_rfl
def k184_1:K:=
 l .sub [x 17,i 0,x 11]<|
.ret [x 18]
def k184_2:K:=
 l oL [x 18,x 11]<|
 b (x 19) (l .bnd [x 18,x 11]<|
 l .sum [i 0,x 20]<|
 l .dif [x 11,x 20]<|
 l .bnd [x 18,x 11]<|
 l .sub [x 17,i 0,x 23]<|
 l (.appK 0 1) [.c (.sl []),i 0,x 24]<|
 l .len [x 25]<|
 l (.mm false) [x 22,x 26]<|
 l .sub [x 25,i 0,x 27]<|
 l (.appK 0 1) [x 17,x 21,x 28]<|
 l oA [x 18,x 27]<|
 j 1 [x 29,x 30])<|
 j 0 [x 17]
def zb:K:=
 b (x 8) .dead<|
 l (.conv .i64) [x 7]<|
 l (.rep [z] 8) [x 9,x 9]<|
 l .len [x 10]<|
 l (.appK 0 1) [.c (.sl []),i 0,x 0]<|
 l .len [x 12]<|
 l (.mm false) [x 11,x 13]<|
 l .sub [x 12,i 0,x 14]<|
 l (.appK 0 1) [x 10,i 0,x 15]<|
.jp k184_1<|
.loop k184_2<|
 j 1 [x 16,x 14]
def uz:K:=
 l oL [x 1,i 0]<|
 b (x 2) .dead<|
 l .len [x 0]<|
 l (.conv .u64) [x 3]<|
 l (.conv .u64) [x 1]<|
 c 277 [x 4,x 5]<|
.jp zb<|
 l oG [x 6,.c (.v (.int .u64 0))]<|
 b (x 8) (j 0 [.c (.v (.bool true))])<|
 l oG [x 7,.c (.v (.int .u64 9223372036854775807))]<|
 j 0 [x 9]
def Sj:List Hint:=[.no,(.j ⟨1,[(0,(w 0)),(4,(.w (.c .nil))),(6,(w 7)),(26,(w 8))],[],0⟩),.no,(.j ⟨1,[(7,(.w (.c (o 0 11)))),(4,(.w (.c .nil)))],[(0,(.lst (x 17) (x 11) 1 false))],1⟩),(.j ⟨2,[(4,(.w (.c .nil))),(7,(.w (.c (o 0 11)))),(8,(w 18))],[(0,(.lst (x 17) (x 11) 1 false))],1⟩),.no,.no]
theorem Sk:symF D0 100000 184 Sj=some uz:=by kernel_rfl
def zc:K:=
 l .sub [x 8,i 0,x 7]<|
.ret [x 9]
def k192_2:K:=
 l oG [x 8,i 0]<|
 b (x 10) (l .ix [x 8,x 7]<|
 l (.elt 0 0) [x 9,x 11]<|
 l oS [x 8,i 1]<|
 l (.bin .quo) [x 13,i 2]<|
 l .ix [x 14,x 7]<|
 l (.elt 0 0) [x 9,x 15]<|
 c 280 [x 4,x 5,x 12,x 16]<|
 b (x 17) (l oS [x 8,i 1]<|
 l (.bin .quo) [x 18,i 2]<|
 l oS [x 8,i 1]<|
 l (.bin .quo) [x 20,i 2]<|
 l .ix [x 21,x 7]<|
 l (.elt 0 0) [x 9,x 22]<|
 l .ix [x 8,x 7]<|
 l (.elt 0 0) [x 9,x 24]<|
 l .ix [x 8,x 7]<|
 l (.set 0) [x 9,x 26,x 23]<|
 l .ix [x 19,x 7]<|
 l (.set 0) [x 27,x 28,x 25]<|
 l oS [x 8,i 1]<|
 l (.bin .quo) [x 30,i 2]<|
 j 1 [x 31,x 29])<|
 j 0 [x 9])<|
 j 0 [x 9]
def k192:K:=
 l (.shape 1) [x 0]<|
 l (.shape 2) [x 1]<|
 l (.app 8 1) [.c (.sl []),i 0,x 2]<|
 l .len [x 6]<|
.jp zc<|
.loop k192_2<|
 j 1 [x 3,x 6]
def Sl:List Hint:=[(.j ⟨1,[(9,(.w (.c (o 0 7)))),(8,(.w (.c .nil)))],[(0,(.lst (x 8) (x 7) 1 false))],1⟩),(.j ⟨2,[(3,(w 8)),(4,(p 0 0)),(5,(p 1 0)),(8,(.w (.c .nil))),(9,(.w (.c (o 2 7))))],[(0,(.box [(r 4 0)])),(1,(.box [(r 5 0),(r 5 1)])),(2,(.lst (x 9) (x 7) 1 false))],3⟩),.no,.no,.no]
theorem Sn:symF D0 100000 192 Sl=some k192:=by kernel_rfl
def zd:K:=
.ret [x 2]
def uA:K:=
 l (.shape 5) [x 0]<|
.jp zd<|
 l (.part 0 3) [x 1]<|
 c 285 [x 2]<|
 b (x 3) (j 0 [.c (.v (.bool true))])<|
 l (.cell 3) [x 1]<|
 l .len [x 4]<|
 l oG [x 5,i 210]<|
 b (x 6) (j 0 [.c (.v (.bool true))])<|
 l (.cell 4) [x 1]<|
 l .len [x 7]<|
 l oG [x 8,i 210]<|
 j 0 [x 9]
def So:List Hint:=[(.j ⟨1,[(2,(w 2))],[],0⟩)]
theorem Sq:symF D0 100000 206 So=some uA:=by kernel_rfl
def uB:K:=
 l (.shape 1) [x 0]<|
 l (.cell 0) [x 1]<|
 l (.app 24 3) [.c (.sl []),i 0,x 2]<|
 l .len [x 3]<|
 l .sub [x 3,i 0,x 4]<|
 l .agg [x 5]<|
.ret [x 6]
def Sr:List Hint:=[]
theorem Ss:symF D0 100000 207 Sr=some uB:=by kernel_rfl
def uC:K:=
 l (.shape 2) [x 0]<|
 l (.cell 1) [x 1]<|
 l (.app 24 3) [.c (.sl []),i 0,x 2]<|
 l .len [x 3]<|
 l (.cell 0) [x 1]<|
 l .sub [x 3,i 0,x 4]<|
 l .agg [x 5,x 6]<|
.ret [x 7]
def Su:List Hint:=[]
theorem Sv:symF D0 100000 208 Su=some uC:=by kernel_rfl
def uD:K:=
 l (.shape 5) [x 0]<|
 l (.part 0 3) [x 1]<|
 c 286 [x 2]<|
 l (.shape 3) [x 3]<|
 l (.cell 0) [x 4]<|
 l .len [x 5]<|
 l (.cell 1) [x 4]<|
 l .len [x 7]<|
 l (.cell 2) [x 4]<|
 l .len [x 9]<|
 l (.cell 3) [x 1]<|
 l (.app 40 5) [.c (.sl []),i 0,x 11]<|
 l .len [x 12]<|
 l (.cell 4) [x 1]<|
 l (.app 8 1) [.c (.sl []),i 0,x 14]<|
 l .len [x 15]<|
 l .sub [x 5,i 0,x 6]<|
 l .sub [x 7,i 0,x 8]<|
 l .sub [x 9,i 0,x 10]<|
 l .sub [x 12,i 0,x 13]<|
 l .sub [x 15,i 0,x 16]<|
 l .agg [x 17,x 18,x 19,x 20,x 21]<|
.ret [x 22]
def Sw:List Hint:=[]
theorem Sy:symF D0 100000 209 Sw=some uD:=by kernel_rfl
def uE:K:=
 l (.shape 2) [x 0]<|
 l (.shape 2) [x 1]<|
 c 43 [x 2]<|
 c 43 [x 3]<|
 l (.mm true) [x 4,x 5]<|
.ret [x 6]
def Sz:List Hint:=[]
theorem SA:symF D0 100000 210 Sz=some uE:=by kernel_rfl
def uF:K:=
 c 287 [x 0]<|
 c 287 [x 1]<|
 b (x 2) (b (x 3) (.ret [i 0])<|
.ret [i (-1)])<|
 b (x 3) (.ret [i 1])<|
 l oL [x 0,x 1]<|
 b (x 4) (.ret [i (-1)])<|
 l oG [x 0,x 1]<|
 b (x 5) (.ret [i 1])<|
.ret [i 0]
def SD:List Hint:=[.no,.no,.no,.no,.no]
theorem SE:symF D0 100000 211 SD=some uF:=by kernel_rfl
def uG:K:=
 l (.shape 3) [x 0]<|
 l (.shape 3) [x 1]<|
 l (.cell 1) [x 2]<|
 l (.cell 1) [x 3]<|
 c 288 [x 4,x 5]<|
 l oN [x 6,i 0]<|
 b (x 7) (.ret [x 6])<|
 l (.cell 2) [x 2]<|
 l (.cell 2) [x 3]<|
 c 288 [x 8,x 9]<|
.ret [x 10]
def SG:List Hint:=[.no]
theorem SH:symF D0 100000 212 SG=some uG:=by kernel_rfl
def uH:K:=
 c 116 [x 0]<|
 c 116 [x 1]<|
 c 289 [x 2,x 3]<|
 l oL [x 0,i 0]<|
 l oL [x 1,i 0]<|
 l (.bbin .neq) [x 6,x 7]<|
 l .agg [x 8,x 4,x 5]<|
.ret [x 9]
def SI:List Hint:=[]
theorem SJ:symF D0 100000 213 SI=some uH:=by kernel_rfl
def uI:K:=
 l (.shape 11) [x 0]<|
 l (.cell 2) [x 1]<|
 c 67 [x 2]<|
 l .len [x 3]<|
 l (.cell 4) [x 1]<|
 c 291 [x 5]<|
 l .len [x 6]<|
 l (.cell 10) [x 1]<|
 c 292 [x 8]<|
 l .len [x 9]<|
 l (.cell 8) [x 1]<|
 c 293 [x 11]<|
 l .len [x 12]<|
 l (.cell 9) [x 1]<|
 c 120 [x 14]<|
 l .len [x 15]<|
 l (.cell 5) [x 1]<|
 c 120 [x 17]<|
 l .len [x 18]<|
 l (.cell 6) [x 1]<|
 c 294 [x 20]<|
 l .len [x 21]<|
 l (.cell 7) [x 1]<|
 c 120 [x 23]<|
 l .len [x 24]<|
 l (.cell 0) [x 1]<|
 l (.cell 1) [x 1]<|
 l .sub [x 3,i 0,x 4]<|
 l (.cell 3) [x 1]<|
 l .sub [x 6,i 0,x 7]<|
 l .sub [x 18,i 0,x 19]<|
 l .sub [x 21,i 0,x 22]<|
 l .sub [x 24,i 0,x 25]<|
 l .sub [x 12,i 0,x 13]<|
 l .sub [x 15,i 0,x 16]<|
 l .sub [x 9,i 0,x 10]<|
 l .agg [x 26,x 27,x 28,x 29,x 30,x 31,x 32,x 33,x 34,x 35,x 36]<|
.ret [x 37]
def SK:List Hint:=[]
theorem SM:symF D0 100000 215 SK=some uI:=by kernel_rfl
def ze:K:=
 c 299 [x 3]<|
 c 140 [x 12,x 4,x 2]<|
 l (.shape 11) [x 13]<|
 l (.part 0 11) [x 15]<|
.ret [x 16,x 14]
def k217_2:K:=
 l oL [x 12,x 11]<|
 b (x 13) (l (.tix 2) [x 2,x 12]<|
 l (.elt 0 2) [x 2,x 14]<|
 l (.cell 0) [x 15]<|
 c 248 [x 4,x 16]<|
 l (.shape 3) [x 17]<|
 l (.cell 1) [x 15]<|
 c 248 [x 4,x 20]<|
 l (.shape 3) [x 21]<|
 l oN [x 18,i 0]<|
 b (x 24) (l .agg [i 0,i 0,.c (.sl []),i 0,.c (.sl []),.c (.sl []),.c (.sl []),.c (.sl []),.c (.sl []),.c (.sl []),.c (.sl [])]<|
.ret [x 25,i 6])<|
 l oN [x 22,i 0]<|
 b (x 25) (l .agg [i 0,i 0,.c (.sl []),i 0,.c (.sl []),.c (.sl []),.c (.sl []),.c (.sl []),.c (.sl []),.c (.sl []),.c (.sl [])]<|
.ret [x 26,i 6])<|
 l oA [x 12,i 1]<|
 j 1 [x 26])<|
 j 0 []
def zf:K:=
 l .len [x 2]<|
.jp ze<|
.loop k217_2<|
 j 1 [i 0]
def oZ:K:=
 l oL [x 11,x 10]<|
 b (x 12) (l (.tix 2) [x 2,x 11]<|
 l (.elt 0 2) [x 2,x 13]<|
 l .len [x 2]<|
 l .bnd [x 11,x 15]<|
 l (.tsub 2) [x 2,i 0,x 16]<|
 c 155 [x 17,x 14]<|
 b (x 18) (l .agg [i 0,i 0,.c (.sl []),i 0,.c (.sl []),.c (.sl []),.c (.sl []),.c (.sl []),.c (.sl []),.c (.sl []),.c (.sl [])]<|
.ret [x 19,i 14])<|
 l oA [x 11,i 1]<|
 j 1 [x 19])<|
 j 0 []
def zg:K:=
 l .len [x 2]<|
.jp zf<|
.loop oZ<|
 j 1 [i 0]
def o6:K:=
 l oL [x 10,x 9]<|
 b (x 11) (l (.tix 2) [x 2,x 10]<|
 l (.elt 0 2) [x 2,x 12]<|
 l (.cell 0) [x 13]<|
 l oL [x 14,i 0]<|
 b (x 15) (l .agg [i 0,i 0,.c (.sl []),i 0,.c (.sl []),.c (.sl []),.c (.sl []),.c (.sl []),.c (.sl []),.c (.sl []),.c (.sl [])]<|
.ret [x 16,i 8])<|
 l (.cell 1) [x 13]<|
 l oL [x 16,i 0]<|
 b (x 17) (l .agg [i 0,i 0,.c (.sl []),i 0,.c (.sl []),.c (.sl []),.c (.sl []),.c (.sl []),.c (.sl []),.c (.sl []),.c (.sl [])]<|
.ret [x 18,i 8])<|
 l (.cell 0) [x 13]<|
 l oG [x 18,i 65535]<|
 b (x 19) (l .agg [i 0,i 0,.c (.sl []),i 0,.c (.sl []),.c (.sl []),.c (.sl []),.c (.sl []),.c (.sl []),.c (.sl []),.c (.sl [])]<|
.ret [x 20,i 8])<|
 l (.cell 1) [x 13]<|
 l oG [x 20,i 65535]<|
 b (x 21) (l .agg [i 0,i 0,.c (.sl []),i 0,.c (.sl []),.c (.sl []),.c (.sl []),.c (.sl []),.c (.sl []),.c (.sl []),.c (.sl [])]<|
.ret [x 22,i 8])<|
 l (.cell 0) [x 13]<|
 l (.cell 1) [x 13]<|
 l oE [x 22,x 23]<|
 b (x 24) (l .agg [i 0,i 0,.c (.sl []),i 0,.c (.sl []),.c (.sl []),.c (.sl []),.c (.sl []),.c (.sl []),.c (.sl []),.c (.sl [])]<|
.ret [x 25,i 8])<|
 l oA [x 10,i 1]<|
 j 1 [x 25])<|
 j 0 []
def k217:K:=
 l (.shape 11) [x 0]<|
 l (.shape 1) [x 1]<|
 c 153 [x 3]<|
 l oN [x 5,i 0]<|
 b (x 6) (l .agg [i 0,i 0,.c (.sl []),i 0,.c (.sl []),.c (.sl []),.c (.sl []),.c (.sl []),.c (.sl []),.c (.sl []),.c (.sl [])]<|
.ret [x 7,x 5])<|
 c 231 [x 4]<|
 l oN [x 7,i 0]<|
 b (x 8) (l .agg [i 0,i 0,.c (.sl []),i 0,.c (.sl []),.c (.sl []),.c (.sl []),.c (.sl []),.c (.sl []),.c (.sl []),.c (.sl [])]<|
.ret [x 9,x 7])<|
 l .len [x 2]<|
.jp zg<|
.loop o6<|
 j 1 [i 0]
def SN:List Hint:=[.no,.no,(.j ⟨0,[(7,(wi 0)),(6,(p 0 0)),(4,(p 1 0)),(3,(p 2 0)),(2,(w 2))],[(0,(.box [(.a (i 0)),(.a (i 0)),.nil,(.a (i 0)),.nil,.nil,.nil,.nil,.nil,.nil,.nil])),(1,(.box [(r 4 0)])),(2,(.box (pcs (x 3) 0 11)))],3⟩),(.j ⟨1,[(2,(w 2)),(3,(p 0 0)),(4,(p 1 0)),(6,(p 2 0)),(7,(wi 0)),(32,(w 2)),(33,(w 9)),(34,(w 10))],[(0,(.box (pcs (x 3) 0 11))),(1,(.box [(r 4 0)])),(2,(.box [(.a (i 0)),(.a (i 0)),.nil,(.a (i 0)),.nil,.nil,.nil,.nil,.nil,.nil,.nil]))],3⟩),.no,.no,.no,.no,(.j ⟨0,[(7,(wi 0)),(6,(p 0 0)),(4,(p 1 0)),(3,(p 2 0)),(2,(w 2))],[(0,(.box [(.a (i 0)),(.a (i 0)),.nil,(.a (i 0)),.nil,.nil,.nil,.nil,.nil,.nil,.nil])),(1,(.box [(r 4 0)])),(2,(.box (pcs (x 3) 0 11)))],3⟩),(.j ⟨1,[(2,(w 2)),(3,(p 0 0)),(4,(p 1 0)),(6,(p 2 0)),(7,(wi 0)),(65,(w 2)),(66,(w 10)),(67,(w 11))],[(0,(.box (pcs (x 3) 0 11))),(1,(.box [(r 4 0)])),(2,(.box [(.a (i 0)),(.a (i 0)),.nil,(.a (i 0)),.nil,.nil,.nil,.nil,.nil,.nil,.nil]))],3⟩),.no,.no,.no,(.j ⟨0,[(7,(wi 0)),(6,(p 0 0)),(4,(p 1 0)),(3,(p 2 0)),(2,(w 2))],[(0,(.box [(.a (i 0)),(.a (i 0)),.nil,(.a (i 0)),.nil,.nil,.nil,.nil,.nil,.nil,.nil])),(1,(.box [(r 4 0)])),(2,(.box (pcs (x 3) 0 11)))],3⟩),(.j ⟨1,[(2,(w 2)),(3,(p 0 0)),(4,(p 1 0)),(6,(p 2 0)),(7,(wi 0)),(79,(w 2)),(80,(w 11)),(81,(w 12))],[(0,(.box (pcs (x 3) 0 11))),(1,(.box [(r 4 0)])),(2,(.box [(.a (i 0)),(.a (i 0)),.nil,(.a (i 0)),.nil,.nil,.nil,.nil,.nil,.nil,.nil]))],3⟩),.no,.no,.no,.no]
theorem SO:symF D0 100000 217 SN=some k217:=by kernel_rfl
def zh:K:=
 l .sub [x 9,i 0,x 10]<|
 l .sub [x 16,i 0,x 14]<|
 l .agg [x 17,x 18]<|
.ret [x 19,i 0]
def o7:K:=
 l oH [x 17,i 0]<|
 b (x 18) (l oM [i 2,x 17]<|
 l oA [x 19,i 1]<|
 l .sub [x 9,i 0,x 10]<|
 l .sub [x 16,i 0,x 14]<|
 l .agg [x 21,x 22]<|
 c 242 [x 23,x 20]<|
 l .flat [x 24]<|
 l oM [i 2,x 17]<|
 l oA [x 26,i 2]<|
 l .sub [x 9,i 0,x 10]<|
 l .sub [x 16,i 0,x 14]<|
 l .agg [x 28,x 29]<|
 c 242 [x 30,x 27]<|
 l .flat [x 31]<|
 c 302 [x 3,x 4,x 25,x 32]<|
 l .ix [x 17,x 14]<|
 l (.set 0) [x 16,x 34,x 33]<|
 l oS [x 17,i 1]<|
 j 1 [x 35,x 36])<|
 j 0 [x 16]
def zi:K:=
 l oN [x 7,i 0]<|
 b (x 8) (l .agg [.c (.sl []),.c (.sl [])]<|
.ret [x 9,x 7])<|
 c 120 [x 2]<|
 l .len [x 9]<|
 l .len [x 2]<|
 l oS [x 11,i 1]<|
 l (.rep [z] 8) [x 12,x 12]<|
 l .len [x 13]<|
 l oS [x 14,i 1]<|
.jp zh<|
.loop o7<|
 j 1 [x 13,x 15]
def zj:K:=
 j 0 [x 8]
def zk:K:=
 j 1 [x 10]
def zm:K:=
 j 2 [x 12]
def zn:K:=
.jp zj<|
 b (x 7) (j 1 [i 2])<|
 c 301 [x 3,x 2]<|
 l (.un .not) [x 8]<|
.jp zk<|
 b (x 9) (j 2 [i 6])<|
 c 250 [x 2]<|
 l (.un .not) [x 10]<|
.jp zm<|
 b (x 11) (j 3 [i 14])<|
 j 3 [x 5]
def uJ:K:=
 l (.shape 1) [x 0]<|
 l (.shape 2) [x 1]<|
 c 300 [x 3,x 4]<|
 l oN [x 5,i 0]<|
.jp zi<|
 b (x 6) (j 0 [x 5])<|
.jp zn<|
 l .len [x 2]<|
 l oL [x 7,i 1]<|
 b (x 8) (j 1 [.c (.v (.bool true))])<|
 l .len [x 2]<|
 l oG [x 9,i 64]<|
 j 1 [x 10]
def SP:List Hint:=[.no,(.j ⟨1,[(2,(w 2)),(3,(p 0 0)),(4,(p 1 0)),(6,(p 2 0)),(7,(wi 0)),(8,(w 7))],[(0,(.box [(r 3 0)])),(1,(.box [(r 4 0),(r 4 1)])),(2,(.box [.nil,.nil]))],3⟩),(.j ⟨1,[(2,(w 2)),(3,(p 0 0)),(4,(p 1 0)),(6,(p 2 0)),(7,(wi 0)),(8,(w 5)),(17,(w 7))],[(0,(.box [(r 3 0)])),(1,(.box [(r 4 0),(r 4 1)])),(2,(.box [.nil,.nil]))],3⟩),(.j ⟨1,[(7,(wi 0)),(6,(p 0 0)),(4,(p 1 0)),(3,(p 2 0)),(2,(w 2)),(8,(w 8))],[(0,(.box [.nil,.nil])),(1,(.box [(r 4 0),(r 4 1)])),(2,(.box [(r 3 0)]))],3⟩),(.j ⟨1,[(7,(wi 0)),(6,(p 0 0)),(4,(p 1 0)),(3,(p 2 0)),(2,(w 2)),(8,(w 10))],[(0,(.box [.nil,.nil])),(1,(.box [(r 4 0),(r 4 1)])),(2,(.box [(r 3 0)]))],3⟩),(.j ⟨1,[(7,(wi 0)),(6,(p 0 0)),(4,(p 1 0)),(3,(p 2 0)),(2,(w 2)),(8,(w 12))],[(0,(.box [.nil,.nil])),(1,(.box [(r 4 0),(r 4 1)])),(2,(.box [(r 3 0)]))],3⟩),.no,(.j ⟨1,[(9,(p 0 0)),(6,(p 3 0)),(7,(wi 0))],[(0,(.box [(o 1 10),(o 2 14)])),(1,(.lst (x 9) (x 10) 1 false)),(2,(.lst (x 16) (x 14) 1 false)),(3,(.box [.nil,.nil]))],4⟩),(.j ⟨2,[(7,(wi 0)),(6,(p 0 0)),(4,(p 1 0)),(3,(p 2 0)),(9,(p 3 0)),(10,(w 17))],[(0,(.box [.nil,.nil])),(1,(.box [(r 4 0),(r 4 1)])),(2,(.box [(r 3 0)])),(3,(.box [(o 4 10),(o 5 14)])),(4,(.lst (x 9) (x 10) 1 false)),(5,(.lst (x 16) (x 14) 1 false))],6⟩),.no,.no]
theorem SQ:symF D0 100000 218 SP=some uJ:=by kernel_rfl
def zo:K:=
 l .sub [x 9,i 0,x 10]<|
 l .agg [x 8,x 11]<|
.ret [x 12,i 0]
def k220_2:K:=
 l (.cell 0) [x 18]<|
 l .agg [x 25,x 19,i (-1)]<|
 l (.bs 1 [z,z,z] [0]) [x 26]<|
 l .sub [x 27,i 0,i 1]<|
 l (.app 24 3) [x 24,x 10,x 28]<|
 l .len [x 29]<|
 l (.bs 1 [z] [0]) [x 14]<|
 l .sub [x 31,i 0,i 1]<|
 l (.appK 8 1) [x 11,x 20,x 32]<|
 l .len [x 33]<|
 l .len [x 32]<|
 l .sum [x 20,x 35]<|
 l oA [x 14,i 1]<|
 j 1 [x 23,x 29,x 30,x 33,x 34,x 36,x 37]
def zr:K:=
 l oG [x 20,i 0]<|
.jp k220_2<|
 b (x 22) (l oS [x 20,i 1]<|
 l .ix [x 23,x 20]<|
 l (.elt 0 0) [x 11,x 24]<|
 l .ix [x 25,x 10]<|
 l (.set 2) [x 9,x 26,x 14]<|
 j 2 [x 8,x 27])<|
 j 2 [x 14,x 9]
def k220_4:K:=
 l oG [x 19,i 0]<|
 b (x 21) (l oS [x 19,i 1]<|
 l .ix [x 22,x 19]<|
 l (.elt 0 0) [x 11,x 23]<|
 l (.cell 0) [x 2]<|
 l (.tix 3) [x 25,x 24]<|
 l (.elt 0 3) [x 25,x 26]<|
 c 249 [x 27,x 18,x 3]<|
 b (x 28) (j 2 [x 20,x 19,x 21])<|
 l oS [x 19,i 1]<|
 l .bnd [x 30,x 12]<|
 j 3 [x 31,x 24])<|
 j 2 [x 20,x 19,x 21]
def o8:K:=
 l oL [x 14,x 7]<|
 b (x 15) (l (.cell 0) [x 2]<|
 l (.tix 3) [x 16,x 14]<|
 l (.elt 0 3) [x 16,x 17]<|
.jp zr<|
.loop k220_4<|
 j 3 [x 13,i (-1)])<|
 j 0 [x 8,x 9,x 10]
def uK:K:=
 l (.shape 1) [x 0]<|
 l (.shape 2) [x 1]<|
 c 303 [x 2,x 3]<|
 l oN [x 4,i 0]<|
 b (x 5) (l .agg [i 0,.c (.sl [])]<|
.ret [x 6,x 4])<|
 l (.cell 0) [x 2]<|
 l .len [x 6]<|
.jp zo<|
.loop o8<|
 j 1 [i (-1),.c (.sl []),i 0,.c (.sl []),i 0,i 0,i 0]
def ST:List Hint:=[.no,(.j ⟨3,[(7,(p 0 0)),(5,(wi 0)),(4,(p 2 0))],[(0,(.box [(a 8),(o 1 10)])),(1,(.lst (x 9) (x 10) 3 false)),(2,(.box [(.a (i 0)),.nil]))],3⟩),(.j ⟨7,[(2,(p 0 0)),(3,(p 1 0)),(4,(p 2 0)),(5,(wi 0)),(7,(p 3 0)),(8,(.w (.c (o 5 13)))),(24,(.w (.c (r 2 0)))),(25,(w 7)),(26,(w 14))],[(0,(.box [(r 2 0)])),(1,(.box [(r 3 0),(r 3 1)])),(2,(.box [(.a (i 0)),.nil])),(3,(.box [(a 8),(o 4 10)])),(4,(.lst (x 9) (x 10) 3 false)),(5,(.lst (x 11) (x 12) 1 false))],6⟩),.no,.no,(.j ⟨3,[(11,(p 0 0)),(33,(.w (.agg [(r 18 0),(.a (i (-1))),(.a (i (-1)))]))),(32,(.w (.c (r 18 0)))),(31,(p 1 0)),(9,(w 14)),(10,(p 1 0)),(30,(v 18)),(29,(.w (.c (.tp (x 16) (x 17) 0)))),(28,(w 14)),(27,(w 15)),(2,(p 2 0)),(3,(p 3 0)),(4,(p 4 0)),(5,(wi 0)),(7,(p 5 0)),(8,(.w (.c (o 7 20)))),(24,(.w (.c (r 2 0)))),(25,(w 7)),(26,(w 14)),(34,(.w (.c (o 7 20)))),(35,(w 20)),(36,(w 21))],[(0,(.box [(r 18 0),(a 19),(.a (i (-1)))])),(1,(.box (pcs (x 18) 0 3))),(2,(.box [(r 2 0)])),(3,(.box [(r 3 0),(r 3 1)])),(4,(.box [(.a (i 0)),.nil])),(5,(.box [(a 8),(o 6 10)])),(6,(.lst (x 9) (x 10) 3 false)),(7,(.lst (x 11) (x 12) 1 false))],8⟩),(.j ⟨2,[(26,(w 14)),(25,(w 7)),(24,(.w (.c (r 2 0)))),(8,(.w (.c (o 0 19)))),(7,(p 1 0)),(5,(wi 0)),(4,(p 3 0)),(3,(p 4 0)),(2,(p 5 0)),(27,(w 15)),(28,(w 14)),(29,(.w (.c (.tp (x 16) (x 17) 0)))),(30,(v 18)),(10,(p 6 0)),(9,(w 14)),(31,(p 6 0)),(32,(.w (.c (r 18 0)))),(33,(.w (.agg [(r 18 0),(.a (i (-1))),(.a (i (-1)))]))),(11,(p 7 0))],[(0,(.lst (x 11) (x 12) 1 false)),(1,(.box [(a 8),(o 2 10)])),(2,(.lst (x 9) (x 10) 3 false)),(3,(.box [(.a (i 0)),.nil])),(4,(.box [(r 3 0),(r 3 1)])),(5,(.box [(r 2 0)])),(6,(.box (pcs (x 18) 0 3))),(7,(.box [(r 18 0),(a 20),(.a (i (-1)))]))],8⟩),.no,.no,.no,(.j ⟨2,[(36,(w 21)),(35,(w 20)),(34,(.w (.c (o 0 20)))),(26,(w 14)),(25,(w 7)),(24,(.w (.c (r 2 0)))),(8,(.w (.c (o 0 20)))),(7,(p 1 0)),(5,(wi 0)),(4,(p 3 0)),(3,(p 4 0)),(2,(p 5 0)),(27,(w 15)),(28,(w 14)),(29,(.w (.c (.tp (x 16) (x 17) 0)))),(30,(v 18)),(10,(p 6 0)),(9,(w 14)),(31,(p 6 0)),(32,(.w (.c (r 18 0)))),(33,(.w (.agg [(r 18 0),(.a (i (-1))),(.a (i (-1)))]))),(11,(p 7 0)),(62,(.w (.c (o 0 20)))),(63,(w 20)),(64,(w 22))],[(0,(.lst (x 11) (x 12) 1 false)),(1,(.box [(a 23),(o 2 10)])),(2,(.lst (x 24) (x 10) 3 false)),(3,(.box [(.a (i 0)),.nil])),(4,(.box [(r 3 0),(r 3 1)])),(5,(.box [(r 2 0)])),(6,(.box (pcs (x 18) 0 3))),(7,(.box [(r 18 0),(a 19),(.a (i (-1)))]))],8⟩)]
theorem SU:symF D0 100000 220 ST=some uK:=by kernel_rfl
def o9:K:=
 l oA [x 3,i 1]<|
 l .sub [x 20,i 0,x 21]<|
 c 221 [x 25,x 6,x 15,x 24,.c (.sl []),x 18]<|
 l oA [x 3,i 1]<|
 l .sub [x 22,i 0,x 23]<|
 c 221 [x 28,x 6,x 15,x 27,.c (.sl []),x 26]<|
.ret [x 29]
def jK:K:=
 l oA [x 24,i 1]<|
 j 1 [x 30,x 31,x 32,x 33,x 34]
def pa:K:=
 l oL [x 24,x 19]<|
 b (x 25) (l (.tix 3) [x 0,x 24]<|
 l (.elt 0 3) [x 0,x 26]<|
 l (.cell 0) [x 27]<|
 l oN [x 28,x 15]<|
.jp jK<|
 b (x 29) (l (.cell 0) [x 27]<|
 l (.bin .shr) [x 30,x 3]<|
 l (.bin .and) [x 31,i 1]<|
 l oE [x 32,i 0]<|
 b (x 33) (l (.bs 1 [z,z,z] [0]) [x 27]<|
 l .sub [x 34,i 0,i 1]<|
 l (.app 24 3) [x 20,x 21,x 35]<|
 l .len [x 36]<|
 j 2 [x 36,x 37,x 22,x 23])<|
 l oE [x 32,i 1]<|
 b (x 34) (l (.bs 1 [z,z,z] [0]) [x 27]<|
 l .sub [x 35,i 0,i 1]<|
 l (.app 24 3) [x 22,x 23,x 36]<|
 l .len [x 37]<|
 j 2 [x 20,x 21,x 37,x 38])<|
.dead)<|
 j 2 [x 20,x 21,x 22,x 23])<|
 j 0 [x 20,x 21,x 22,x 23]
def pb:K:=
 l (.mset [.i] 1) [x 5,x 15,x 2]<|
 l .len [x 0]<|
.jp o9<|
.loop pa<|
 j 1 [.c (.sl []),i 0,.c (.sl []),i 0,i 0]
def k221_5:K:=
 l oA [x 18,i 1]<|
 j 1 [x 25,x 26,x 27,x 28]
def k221_6:K:=
 l oL [x 18,x 14]<|
 b (x 19) (l (.tix 3) [x 13,x 18]<|
 l (.elt 0 3) [x 13,x 20]<|
 l .agg [x 15,x 16,x 17]<|
 c 249 [x 21,x 22,x 6]<|
.jp k221_5<|
 b (x 23) (l (.cell 0) [x 21]<|
 l (.cell 1) [x 21]<|
 l (.cell 2) [x 21]<|
 j 2 [x 25,x 26,x 27])<|
 j 2 [x 15,x 16,x 17])<|
 j 0 [x 15,x 16,x 17]
def kR:K:=
 l (.shape 2) [x 1]<|
 l .len [x 0]<|
 l oE [x 7,i 0]<|
 b (x 8) (.ret [x 5])<|
 l (.tix 3) [x 0,i 0]<|
 l (.elt 0 3) [x 0,x 9]<|
 l .len [x 0]<|
 l .bnd [i 1,x 11]<|
 l (.tsub 3) [x 0,x 12,x 11]<|
 l .len [x 13]<|
.jp pb<|
.loop k221_6<|
 l (.cell 0) [x 10]<|
 l (.cell 1) [x 10]<|
 l (.cell 2) [x 10]<|
 j 1 [x 15,x 16,x 17,i 0]
def SX:List Hint:=[.no,(.j ⟨3,[(10,(p 1 0)),(6,(p 2 0)),(0,(w 0)),(2,(w 2)),(3,(w 3)),(4,(.w (.c (.mp 0))))],[(0,(.map (x 5) false 1 false)),(1,(.box [(a 15),(a 16),(a 17)])),(2,(.box [(r 6 0),(r 6 1)]))],3⟩),(.j ⟨4,[(4,(.w (.c (.mp 0)))),(3,(w 3)),(2,(w 2)),(0,(w 0)),(6,(p 1 0)),(10,(p 2 0)),(26,(w 13)),(27,(w 14)),(28,(w 18))],[(0,(.map (x 5) false 1 false)),(1,(.box [(r 6 0),(r 6 1)])),(2,(.box [(a 15),(a 16),(a 17)]))],3⟩),.no,.no,(.j ⟨3,[(28,(w 18)),(27,(w 14)),(26,(w 13)),(10,(p 1 0)),(6,(p 2 0)),(0,(w 0)),(2,(w 2)),(3,(w 3)),(4,(.w (.c (.mp 0)))),(29,(w 19)),(30,(.w (.c (.tp (x 13) (x 20) 0)))),(31,(v 21)),(12,(p 3 0)),(33,(v 21)),(34,(.w (.agg [(a 15),(a 16),(a 17)]))),(35,(v 6)),(36,(.tup [(.c (a 23)),(.c (a 24))])),(32,(.tup [(.c (a 23)),(.c (a 24))])),(37,(w 23)),(38,(w 24)),(13,(w 23)),(39,(w 23))],[(0,(.map (x 5) false 1 false)),(1,(.box [(a 25),(a 26),(a 27)])),(2,(.box [(r 6 0),(r 6 1)])),(3,(.box (pcs (x 21) 0 3)))],4⟩),(.j ⟨4,[(15,(p 1 0)),(10,(p 4 0)),(6,(p 5 0)),(3,(w 3)),(4,(.w (.c (.mp 0))))],[(0,(.map (x 18) false 1 false)),(1,(.box [(o 2 21),(o 3 23)])),(2,(.lst (x 20) (x 21) 3 false)),(3,(.lst (x 22) (x 23) 3 false)),(4,(.box [(a 15),(a 16),(a 17)])),(5,(.box [(r 6 0),(r 6 1)]))],6⟩),(.j ⟨5,[(4,(.w (.c (.mp 0)))),(3,(w 3)),(6,(p 1 0)),(10,(p 2 0)),(15,(p 3 0)),(46,(w 0)),(47,(w 19)),(48,(w 24))],[(0,(.map (x 18) false 1 false)),(1,(.box [(r 6 0),(r 6 1)])),(2,(.box [(a 15),(a 16),(a 17)])),(3,(.box [(o 4 21),(o 5 23)])),(4,(.lst (x 20) (x 21) 3 false)),(5,(.lst (x 22) (x 23) 3 false))],6⟩),.no,.no,(.j ⟨4,[(48,(w 24)),(47,(w 19)),(46,(w 0)),(15,(p 1 0)),(10,(p 4 0)),(6,(p 5 0)),(3,(w 3)),(4,(.w (.c (.mp 0)))),(49,(w 25)),(50,(.w (.c (.tp (x 0) (x 26) 0)))),(51,(v 27)),(17,(p 6 0)),(52,(p 6 0)),(53,(.w (.c (r 27 0)))),(54,(p 4 0)),(55,(w 15)),(56,(w 29))],[(0,(.map (x 18) false 1 false)),(1,(.box [(o 2 31),(o 3 33)])),(2,(.lst (x 30) (x 31) 3 false)),(3,(.lst (x 32) (x 33) 3 false)),(4,(.box [(a 15),(a 16),(a 17)])),(5,(.box [(r 6 0),(r 6 1)])),(6,(.box (pcs (x 27) 0 3)))],7⟩)]
theorem SY:symF D0 100000 221 SX=some kR:=by kernel_rfl
def zt:K:=
.ret [x 2]
def jL:K:=
 l oN [x 2,.c (.v (.int .u64 0))]<|
 b (x 4) (l (.bin .rem) [x 3,x 2]<|
 j 1 [x 5,x 2])<|
 j 0 [x 3]
def uL:K:=
.jp zt<|
.loop jL<|
 j 1 [x 1,x 0]
def SZ:List Hint:=[(.j ⟨1,[(4,(.w (.c (.a (.c (.v (.int .u64 0))))))),(0,(w 2))],[],0⟩),(.j ⟨2,[(1,(w 2)),(0,(w 3)),(4,(.w (.c (.a (.c (.v (.int .u64 0)))))))],[],0⟩),.no,.no]
theorem S0:symF D0 100000 222 SZ=some uL:=by kernel_rfl
def uM:K:=
 l oL [x 0,i 0]<|
 b (x 1) (l oA [x 0,i 1]<|
 l (.un .neg) [x 2]<|
 l (.conv .u64) [x 3]<|
 l oA [x 4,.c (.v (.int .u64 1))]<|
.ret [x 5])<|
 l (.conv .u64) [x 0]<|
.ret [x 2]
def S1:List Hint:=[.no]
theorem S2:symF D0 100000 223 S1=some uM:=by kernel_rfl
def uN:K:=
 l (.shape 2) [x 0]<|
 l (.shape 2) [x 1]<|
 l (.cell 0) [x 2]<|
 l (.cell 1) [x 3]<|
 c 304 [x 4,x 5]<|
 l (.cell 0) [x 3]<|
 l (.cell 1) [x 2]<|
 c 304 [x 7,x 8]<|
 l (.shape 3) [x 6]<|
 l (.shape 3) [x 9]<|
 l (.part 0 3) [x 10]<|
 c 305 [x 12]<|
 l (.part 0 3) [x 11]<|
 c 305 [x 14]<|
 l oN [x 13,x 15]<|
 b (x 16) (l (.part 0 3) [x 10]<|
 c 305 [x 17]<|
 l (.part 0 3) [x 11]<|
 c 305 [x 19]<|
 l oL [x 18,x 20]<|
 b (x 21) (.ret [i (-1)])<|
.ret [i 1])<|
 l (.part 0 3) [x 10]<|
 c 305 [x 17]<|
 l oL [x 18,i 0]<|
 b (x 19) (l (.part 0 3) [x 11]<|
 l (.part 0 3) [x 10]<|
 c 306 [x 20,x 21]<|
.ret [x 22])<|
 l (.part 0 3) [x 10]<|
 l (.part 0 3) [x 11]<|
 c 306 [x 20,x 21]<|
.ret [x 22]
def S3:List Hint:=[.no,.no,.no]
theorem S4:symF D0 100000 224 S3=some uN:=by kernel_rfl
def zu:K:=
 l .sub [x 46,i 0,x 47]<|
 l .agg [x 36,x 37,x 38,x 39,x 40,x 41,x 42,x 43,x 44,x 45,x 48]<|
.ret [x 49,i 0]
def zw:K:=
 l oA [x 48,i 1]<|
 j 1 [x 51,x 52,x 53,x 54,x 55,x 56,x 57,x 58,x 59,x 60,x 61,x 62,x 66]
def jM:K:=
 l .len [x 2]<|
 l oL [x 48,x 49]<|
 b (x 50) (.jp zw<|
 l (.tix 2) [x 2,x 48]<|
 l (.elt 0 2) [x 2,x 51]<|
 l .agg [x 39,x 40]<|
 c 263 [x 53,x 52]<|
 b (x 54) (j 2 [x 36,x 37,x 38,x 39,x 40,x 41,x 42,x 43,x 44,x 45,x 46,x 47,x 51,x 52,x 54])<|
 l (.tix 2) [x 2,x 48]<|
 l (.elt 0 2) [x 2,x 55]<|
 l .sub [x 46,i 0,x 47]<|
 l .agg [x 36,x 37,x 38,x 39,x 40,x 41,x 42,x 43,x 44,x 45,x 57]<|
 c 311 [x 58,x 56]<|
 l (.shape 11) [x 59]<|
 l (.cell 10) [x 62]<|
 l .len [x 63]<|
 l oN [x 61,i 0]<|
 b (x 65) (l .agg [i 0,i 0,.c (.sl []),i 0,.c (.sl []),.c (.sl []),.c (.sl []),.c (.sl []),.c (.sl []),.c (.sl []),.c (.sl [])]<|
.ret [x 66,x 61])<|
 l (.cell 0) [x 62]<|
 l (.cell 1) [x 62]<|
 l (.cell 2) [x 62]<|
 l (.cell 3) [x 62]<|
 l (.cell 4) [x 62]<|
 l (.cell 5) [x 62]<|
 l (.cell 6) [x 62]<|
 l (.cell 7) [x 62]<|
 l (.cell 8) [x 62]<|
 l (.cell 9) [x 62]<|
 j 2 [x 66,x 67,x 68,x 69,x 70,x 71,x 72,x 73,x 74,x 75,x 63,x 64,x 51,x 52,x 54])<|
 j 0 [x 36,x 37,x 38,x 39,x 40,x 41,x 42,x 43,x 44,x 45,x 46,x 47]
def zx:K:=
.jp zu<|
.loop jM<|
 j 1 [x 24,x 25,x 26,x 27,x 28,x 29,x 30,x 31,x 32,x 33,x 34,x 35,i 0]
def zy:K:=
 l .agg [x 11]<|
 c 28 [x 21,x 4]<|
 l (.un .not) [x 22]<|
.jp zx<|
 b (x 23) (l .sub [x 19,i 0,x 20]<|
 l .agg [x 9,x 10,x 11,x 12,x 13,x 14,x 15,x 16,x 17,x 18,x 24]<|
 c 310 [x 25,x 4]<|
 l (.shape 11) [x 26]<|
 l (.cell 10) [x 28]<|
 l .len [x 29]<|
 l oN [x 27,i 0]<|
 b (x 31) (l .agg [i 0,i 0,.c (.sl []),i 0,.c (.sl []),.c (.sl []),.c (.sl []),.c (.sl []),.c (.sl []),.c (.sl []),.c (.sl [])]<|
.ret [x 32,x 27])<|
 l (.cell 0) [x 28]<|
 l (.cell 1) [x 28]<|
 l (.cell 2) [x 28]<|
 l (.cell 3) [x 28]<|
 l (.cell 4) [x 28]<|
 l (.cell 5) [x 28]<|
 l (.cell 6) [x 28]<|
 l (.cell 7) [x 28]<|
 l (.cell 8) [x 28]<|
 l (.cell 9) [x 28]<|
 j 0 [x 32,x 33,x 34,x 35,x 36,x 37,x 38,x 39,x 40,x 41,x 29,x 30])<|
 j 0 [x 9,x 10,x 11,x 12,x 13,x 14,x 15,x 16,x 17,x 18,x 19,x 20]
def JS:K:=
 l oA [x 21,i 1]<|
 j 1 [x 30,x 31,x 32,x 33,x 34,x 35,x 36,x 37,x 38,x 39,x 40,x 41,x 42]
def zz:K:=
 l (.cell 4) [x 3]<|
 l .len [x 22]<|
 l oL [x 21,x 23]<|
 b (x 24) (l (.cell 4) [x 3]<|
 l (.tix 3) [x 25,x 21]<|
 l (.elt 1 2) [x 25,x 26]<|
 c 309 [x 2,x 27]<|
 l (.un .not) [x 28]<|
.jp JS<|
 b (x 29) (l (.cell 4) [x 3]<|
 l (.tix 3) [x 30,x 21]<|
 l (.elt 0 0) [x 30,x 31]<|
 l .sub [x 19,i 0,x 20]<|
 l .agg [x 9,x 10,x 11,x 12,x 13,x 14,x 15,x 16,x 17,x 18,x 33]<|
 c 308 [x 34,x 32]<|
 l (.shape 11) [x 35]<|
 l (.cell 10) [x 36]<|
 l .len [x 37]<|
 l (.cell 0) [x 36]<|
 l (.cell 1) [x 36]<|
 l (.cell 2) [x 36]<|
 l (.cell 3) [x 36]<|
 l (.cell 4) [x 36]<|
 l (.cell 5) [x 36]<|
 l (.cell 6) [x 36]<|
 l (.cell 7) [x 36]<|
 l (.cell 8) [x 36]<|
 l (.cell 9) [x 36]<|
 j 2 [x 39,x 40,x 41,x 42,x 43,x 44,x 45,x 46,x 47,x 48,x 37,x 38])<|
 j 2 [x 9,x 10,x 11,x 12,x 13,x 14,x 15,x 16,x 17,x 18,x 19,x 20])<|
 j 0 [x 9,x 10,x 11,x 12,x 13,x 14,x 15,x 16,x 17,x 18,x 19,x 20]
def uO:K:=
 l (.shape 11) [x 0]<|
 l (.shape 1) [x 1]<|
 c 112 [x 3]<|
 l (.shape 11) [x 5]<|
 l (.cell 10) [x 6]<|
 l .len [x 7]<|
.jp zy<|
.loop zz<|
 l (.cell 0) [x 6]<|
 l (.cell 1) [x 6]<|
 l (.cell 2) [x 6]<|
 l (.cell 3) [x 6]<|
 l (.cell 4) [x 6]<|
 l (.cell 5) [x 6]<|
 l (.cell 6) [x 6]<|
 l (.cell 7) [x 6]<|
 l (.cell 8) [x 6]<|
 l (.cell 9) [x 6]<|
 j 1 [x 9,x 10,x 11,x 12,x 13,x 14,x 15,x 16,x 17,x 18,x 7,x 8,i 0]
def S5:List Hint:=[(.j ⟨12,[(8,(p 0 0)),(7,(wi 0)),(6,(p 2 0)),(4,(p 3 0)),(2,(w 2))],[(0,(.box [(a 9),(a 10),(a 11),(a 12),(a 13),(a 14),(a 15),(a 16),(a 17),(a 18),(o 1 20)])),(1,(.lst (x 19) (x 20) 3 false)),(2,(.box [(.a (i 0)),(.a (i 0)),.nil,(.a (i 0)),.nil,.nil,.nil,.nil,.nil,.nil,.nil])),(3,(.box [(r 4 0)]))],4⟩),(.j ⟨13,[(2,(w 2)),(3,(p 0 0)),(4,(p 1 0)),(6,(p 2 0)),(7,(wi 0)),(8,(p 3 0)),(9,(w 21))],[(0,(.box (pcs (x 3) 0 11))),(1,(.box [(r 4 0)])),(2,(.box [(.a (i 0)),(.a (i 0)),.nil,(.a (i 0)),.nil,.nil,.nil,.nil,.nil,.nil,.nil])),(3,(.box [(a 9),(a 10),(a 11),(a 12),(a 13),(a 14),(a 15),(a 16),(a 17),(a 18),(o 4 20)])),(4,(.lst (x 19) (x 20) 3 false))],5⟩),.no,.no,(.j ⟨12,[(9,(w 21)),(8,(p 0 0)),(7,(wi 0)),(6,(p 2 0)),(4,(p 3 0)),(3,(p 4 0)),(2,(w 2)),(18,(w 21)),(19,(p 4 3)),(20,(p 4 4)),(21,(.w (.c (r 3 4)))),(22,(w 23)),(23,(w 24)),(26,(w 2)),(27,(p 4 3)),(28,(p 4 4)),(29,(.w (.c (r 3 4)))),(30,(w 21)),(31,(.w (.c (.tp (x 25) (x 26) 0)))),(32,(.w (.c (.tp (x 25) (x 26) 1)))),(33,(v 27)),(34,(w 28)),(35,(w 29))],[(0,(.box [(a 30),(a 31),(a 32),(a 33),(a 34),(a 35),(a 36),(a 37),(a 38),(a 39),(o 1 41)])),(1,(.lst (x 40) (x 41) 3 false)),(2,(.box [(.a (i 0)),(.a (i 0)),.nil,(.a (i 0)),.nil,.nil,.nil,.nil,.nil,.nil,.nil])),(3,(.box [(r 4 0)])),(4,(.box (pcs (x 3) 0 11)))],5⟩),(.j ⟨12,[(2,(w 2)),(6,(p 0 0)),(7,(wi 0)),(8,(p 1 0))],[(0,(.box [(.a (i 0)),(.a (i 0)),.nil,(.a (i 0)),.nil,.nil,.nil,.nil,.nil,.nil,.nil])),(1,(.box [(a 24),(a 25),(a 26),(a 27),(a 28),(a 29),(a 30),(a 31),(a 32),(a 33),(o 2 35)])),(2,(.lst (x 34) (x 35) 3 false))],3⟩),.no,(.j ⟨12,[(6,(p 0 0)),(7,(wi 0)),(8,(p 1 0))],[(0,(.box [(.a (i 0)),(.a (i 0)),.nil,(.a (i 0)),.nil,.nil,.nil,.nil,.nil,.nil,.nil])),(1,(.box [(a 36),(a 37),(a 38),(a 39),(a 40),(a 41),(a 42),(a 43),(a 44),(a 45),(o 2 47)])),(2,(.lst (x 46) (x 47) 3 false))],3⟩),(.j ⟨13,[(8,(p 0 0)),(7,(wi 0)),(6,(p 2 0)),(2,(w 2)),(12,(w 48))],[(0,(.box [(a 36),(a 37),(a 38),(a 39),(a 40),(a 41),(a 42),(a 43),(a 44),(a 45),(o 1 47)])),(1,(.lst (x 46) (x 47) 3 false)),(2,(.box [(.a (i 0)),(.a (i 0)),.nil,(.a (i 0)),.nil,.nil,.nil,.nil,.nil,.nil,.nil]))],3⟩),.no,(.j ⟨15,[(12,(w 48)),(2,(w 2)),(6,(p 0 0)),(7,(wi 0)),(8,(p 1 0)),(61,(w 48)),(62,(w 2)),(63,(w 49)),(64,(w 50)),(67,(p 1 3)),(68,(.w (.agg [(a 39),(a 40)]))),(69,(w 2)),(70,(w 48)),(71,(.w (.c (.tp (x 2) (x 63) 0)))),(72,(v 64)),(73,(w 65))],[(0,(.box [(.a (i 0)),(.a (i 0)),.nil,(.a (i 0)),.nil,.nil,.nil,.nil,.nil,.nil,.nil])),(1,(.box [(a 51),(a 52),(a 53),(a 54),(a 55),(a 56),(a 57),(a 58),(a 59),(a 60),(o 2 62)])),(2,(.lst (x 61) (x 62) 3 false))],3⟩),.no,.no]
theorem S6:symF D0 100000 227 S5=some uO:=by kernel_rfl
def zA:K:=
.ret [.c (.v (.bool true))]
def pd:K:=
 l (.cell 1) [x 2]<|
 l .len [x 13]<|
 l oL [x 12,x 14]<|
 b (x 15) (l (.cell 1) [x 2]<|
 l (.tix 3) [x 16,x 12]<|
 l (.elt 0 3) [x 16,x 17]<|
 l (.cell 1) [x 3]<|
 l (.tix 3) [x 19,x 12]<|
 l (.elt 0 3) [x 19,x 20]<|
 l (.eqv [.i,.i,.i]) [x 18,x 21]<|
 l (.un .not) [x 22]<|
 b (x 23) (.ret [.c (.v (.bool false))])<|
 l oA [x 12,i 1]<|
 j 1 [x 24])<|
 j 0 []
def uP:K:=
 l (.shape 2) [x 0]<|
 l (.shape 2) [x 1]<|
 l (.cell 0) [x 2]<|
 l (.cell 0) [x 3]<|
 l oN [x 4,x 5]<|
 b (x 6) (.ret [.c (.v (.bool false))])<|
 l (.cell 1) [x 2]<|
 l .len [x 7]<|
 l (.cell 1) [x 3]<|
 l .len [x 9]<|
 l oN [x 8,x 10]<|
 b (x 11) (.ret [.c (.v (.bool false))])<|
.jp zA<|
.loop pd<|
 j 1 [i 0]
def S7:List Hint:=[.no,.no,(.j ⟨0,[(4,(.w (.c (.a (.c (.v (.bool false)))))))],[],0⟩),(.j ⟨1,[(2,(p 0 0)),(3,(p 1 0)),(4,(.w (.c (.a (.c (.v (.bool false))))))),(5,(w 12))],[(0,(.box [(r 2 0),(r 2 1)])),(1,(.box [(r 3 0),(r 3 1)]))],2⟩),.no,.no,.no]
theorem S8:symF D0 100000 229 S7=some uP:=by kernel_rfl
def zB:K:=
.ret [.c (.v (.bool true))]
def pe:K:=
 l (.cell 3) [x 2]<|
 l .len [x 18]<|
 l oL [x 17,x 19]<|
 b (x 20) (l (.cell 3) [x 2]<|
 l (.tix 5) [x 21,x 17]<|
 l (.elt 0 5) [x 21,x 22]<|
 l (.cell 3) [x 3]<|
 l (.tix 5) [x 24,x 17]<|
 l (.elt 0 5) [x 24,x 25]<|
 l (.eqv [.i,.i,.i,.i,.i]) [x 23,x 26]<|
 l (.un .not) [x 27]<|
 b (x 28) (.ret [.c (.v (.bool false))])<|
 l oA [x 17,i 1]<|
 j 1 [x 29])<|
 j 0 []
def k230:K:=
 l (.shape 5) [x 0]<|
 l (.shape 5) [x 1]<|
 l (.part 0 3) [x 2]<|
 l (.part 0 3) [x 3]<|
 c 312 [x 4,x 5]<|
 l (.un .not) [x 6]<|
 b (x 7) (.ret [.c (.v (.bool false))])<|
 l (.cell 4) [x 2]<|
 l (.cell 4) [x 3]<|
 c 313 [x 8,x 9]<|
 l (.un .not) [x 10]<|
 b (x 11) (.ret [.c (.v (.bool false))])<|
 l (.cell 3) [x 2]<|
 l .len [x 12]<|
 l (.cell 3) [x 3]<|
 l .len [x 14]<|
 l oN [x 13,x 15]<|
 b (x 16) (.ret [.c (.v (.bool false))])<|
.jp zB<|
.loop pe<|
 j 1 [i 0]
def S9:List Hint:=[.no,.no,(.j ⟨0,[(4,(.w (.c (.a (.c (.v (.bool false)))))))],[],0⟩),(.j ⟨1,[(2,(p 0 0)),(3,(p 1 0)),(4,(.w (.c (.a (.c (.v (.bool false))))))),(5,(w 17))],[(0,(.box (pcs (x 2) 0 5))),(1,(.box (pcs (x 3) 0 5)))],2⟩),.no,.no,.no]
theorem Ta:symF D0 100000 230 S9=some k230:=by kernel_rfl
def zD:K:=
.ret [i 0]
def pf:K:=
 b (x 15) (.ret [i 32])<|
 l oA [x 9,i 1]<|
 j 1 [x 16]
def pg:K:=
 l oL [x 9,x 8]<|
 b (x 10) (l (.cell 0) [x 1]<|
 l (.tix 3) [x 11,x 9]<|
 l (.elt 0 3) [x 11,x 12]<|
.jp pf<|
 l oG [x 9,i 0]<|
 b (x 14) (l oS [x 9,i 1]<|
 l (.cell 0) [x 1]<|
 l (.tix 3) [x 16,x 15]<|
 l (.elt 0 0) [x 16,x 17]<|
 l (.cell 0) [x 13]<|
 l oH [x 18,x 19]<|
 j 2 [x 14,x 20])<|
 j 2 [x 14,.c (.v (.bool false))])<|
 j 0 []
def zE:K:=
 l (.cell 0) [x 1]<|
 l .len [x 7]<|
.jp zD<|
.loop pg<|
 j 1 [i 0]
def ph:K:=
 l oL [x 7,x 6]<|
 b (x 8) (l (.cell 0) [x 1]<|
 l (.tix 3) [x 9,x 7]<|
 l (.elt 0 3) [x 9,x 10]<|
 c 270 [x 11]<|
 l oN [x 12,i 0]<|
 b (x 13) (.ret [x 12])<|
 l oA [x 7,i 1]<|
 j 1 [x 14])<|
 j 0 []
def uQ:K:=
 l (.shape 1) [x 0]<|
 l (.cell 0) [x 1]<|
 l .len [x 2]<|
 l oG [x 3,i 64]<|
 b (x 4) (.ret [i 4])<|
 l (.cell 0) [x 1]<|
 l .len [x 5]<|
.jp zE<|
.loop ph<|
 j 1 [i 0]
def Tb:List Hint:=[.no,(.j ⟨0,[(2,(wi 0)),(1,(p 0 0))],[(0,(.box [(r 1 0)]))],1⟩),(.j ⟨1,[(1,(p 0 0)),(2,(wi 0)),(13,(.w (.c (r 1 0)))),(14,(w 6)),(15,(w 7))],[(0,(.box [(r 1 0)]))],1⟩),.no,.no,.no,(.j ⟨0,[(2,(wi 0))],[],0⟩),(.j ⟨1,[(1,(p 0 0)),(2,(wi 0)),(26,(.w (.c (r 1 0)))),(27,(w 8)),(28,(w 9))],[(0,(.box [(r 1 0)]))],1⟩),.no,.no,(.j ⟨2,[(28,(w 9)),(27,(w 8)),(26,(.w (.c (r 1 0)))),(2,(wi 0)),(1,(p 0 0)),(29,(w 10)),(30,(w 9)),(31,(.w (.c (.tp (x 11) (x 12) 0)))),(32,(v 13)),(7,(p 1 0)),(6,(w 9)),(33,(w 9)),(34,(w 14)),(35,(w 14)),(46,(w 15))],[(0,(.box [(r 1 0)])),(1,(.box (pcs (x 13) 0 3)))],2⟩),.no]
theorem Tc:symF D0 100000 231 Tb=some uQ:=by kernel_rfl
def k232:K:=
 c 314 [x 0]<|
 l (.shape 3) [x 1]<|
 l oN [x 2,i 0]<|
 b (x 4) (l .agg [.c (.sl []),.c (.sl []),.c (.sl []),.c (.sl []),.c (.sl [])]<|
.ret [x 5,x 2])<|
 l (.bs 1 [z] [0]) [i (-1)]<|
 l .sub [x 5,i 0,i 1]<|
 c 184 [x 6,x 0]<|
 l .len [x 7]<|
 l (.part 0 3) [x 3]<|
 l .sub [x 7,i 0,x 8]<|
 l .agg [x 9,.c (.sl []),x 10]<|
.ret [x 11,i 0]
def Td:List Hint:=[.no]
theorem Te:symF D0 100000 232 Td=some k232:=by kernel_rfl
def zF:K:=
.ret [.c (.v (.bool true))]
def pi:K:=
 l oL [x 6,x 5]<|
 b (x 7) (l (.tix 3) [x 0,x 6]<|
 l (.elt 0 3) [x 0,x 8]<|
 l (.tix 3) [x 1,x 6]<|
 l (.elt 0 3) [x 1,x 10]<|
 l (.eqv [.i,.i,.i]) [x 9,x 11]<|
 l (.un .not) [x 12]<|
 b (x 13) (.ret [.c (.v (.bool false))])<|
 l oA [x 6,i 1]<|
 j 1 [x 14])<|
 j 0 []
def uR:K:=
 l .len [x 0]<|
 l .len [x 1]<|
 l oN [x 2,x 3]<|
 b (x 4) (.ret [.c (.v (.bool false))])<|
 l .len [x 0]<|
.jp zF<|
.loop pi<|
 j 1 [i 0]
def Tf:List Hint:=[.no,(.j ⟨0,[(4,(.w (.c (.a (.c (.v (.bool false)))))))],[],0⟩),(.j ⟨1,[(1,(w 1)),(0,(w 0)),(4,(.w (.c (.a (.c (.v (.bool false))))))),(12,(w 5)),(13,(w 6))],[],0⟩),.no,.no,.no]
theorem Tg:symF D0 100000 234 Tf=some uR:=by kernel_rfl
def k238_1:K:=
 l (.part 0 3) [x 24]<|
 l (.part 0 2) [x 10]<|
 l .sub [x 39,i 0,x 40]<|
 l .agg [x 41,x 42,x 34,x 35,x 36,x 37,x 38,x 43]<|
.ret [x 44,x 8,i 0]
def k238:K:=
 l (.shape 11) [x 0]<|
 l (.shape 2) [x 1]<|
 c 153 [x 2]<|
 l oN [x 4,i 0]<|
 b (x 5) (l .agg [i 0,i 0,.c (.sl []),i 0,.c (.sl []),.c (.sl []),.c (.sl []),.c (.sl []),.c (.sl []),.c (.sl []),.c (.sl [])]<|
.ret [x 6,i 0,x 4])<|
 l (.part 3 2) [x 2]<|
 c 320 [x 6,x 3]<|
 l (.shape 2) [x 7]<|
 l oE [x 9,i 8]<|
 b (x 11) (l .agg [i 0,i 0,.c (.sl []),i 0,.c (.sl []),.c (.sl []),.c (.sl []),.c (.sl []),.c (.sl []),.c (.sl []),.c (.sl [])]<|
.ret [x 12,i 0,x 9])<|
 l (.part 2 1) [x 2]<|
 l (.cell 0) [x 3]<|
 c 315 [x 12,x 13]<|
 l (.cell 0) [x 14]<|
 l oL [x 15,i 0]<|
 b (x 16) (l .agg [i 0,i 0,.c (.sl []),i 0,.c (.sl []),.c (.sl []),.c (.sl []),.c (.sl []),.c (.sl []),.c (.sl []),.c (.sl [])]<|
.ret [x 17,i 0,i 6])<|
 l (.part 2 1) [x 2]<|
 l (.cell 1) [x 3]<|
 c 315 [x 17,x 18]<|
 l (.cell 0) [x 19]<|
 l oL [x 20,i 0]<|
 b (x 21) (l .agg [i 0,i 0,.c (.sl []),i 0,.c (.sl []),.c (.sl []),.c (.sl []),.c (.sl []),.c (.sl []),.c (.sl []),.c (.sl [])]<|
.ret [x 22,i 0,i 6])<|
 l oN [x 9,i 0]<|
 b (x 22) (l .agg [i 0,i 0,.c (.sl []),i 0,.c (.sl []),.c (.sl []),.c (.sl []),.c (.sl []),.c (.sl []),.c (.sl []),.c (.sl [])]<|
.ret [x 23,i 0,x 9])<|
 c 215 [x 2]<|
 l (.shape 11) [x 23]<|
 l (.cell 10) [x 24]<|
 l .len [x 25]<|
 l (.part 2 1) [x 2]<|
 l (.part 0 2) [x 2]<|
 c 246 [x 27,x 3,x 28]<|
 l (.shape 2) [x 29]<|
 l oN [x 31,i 0]<|
 b (x 33) (l .agg [i 0,i 0,.c (.sl []),i 0,.c (.sl []),.c (.sl []),.c (.sl []),.c (.sl []),.c (.sl []),.c (.sl []),.c (.sl [])]<|
.ret [x 34,i 0,x 31])<|
.jp k238_1<|
 b (x 30) (l (.part 5 5) [x 2]<|
 c 317 [x 34,x 32,x 8]<|
 l (.shape 5) [x 35]<|
 l (.shape 2) [x 36]<|
 l oN [x 37,i 0]<|
 b (x 40) (l .agg [i 0,i 0,.c (.sl []),i 0,.c (.sl []),.c (.sl []),.c (.sl []),.c (.sl []),.c (.sl []),.c (.sl []),.c (.sl [])]<|
.ret [x 41,i 0,x 37])<|
 l (.part 0 2) [x 39]<|
 l .agg [x 8,x 41]<|
 l (.bs 1 [z,z,z] [0]) [x 42]<|
 l .sub [x 43,i 0,i 1]<|
 l (.app 24 3) [x 25,x 26,x 44]<|
 l .len [x 45]<|
 l (.cell 0) [x 38]<|
 l (.cell 1) [x 38]<|
 l (.cell 2) [x 38]<|
 l (.cell 3) [x 38]<|
 l (.cell 4) [x 38]<|
 j 0 [x 47,x 48,x 49,x 50,x 51,x 45,x 46])<|
 l (.cell 5) [x 24]<|
 l (.cell 6) [x 24]<|
 l (.cell 7) [x 24]<|
 l (.cell 8) [x 24]<|
 l (.cell 9) [x 24]<|
 j 0 [x 34,x 35,x 36,x 37,x 38,x 25,x 26]
def Th:List Hint:=[.no,.no,.no,.no,.no,.no,(.j ⟨7,[(4,(p 0 0)),(5,(wi 0)),(6,(wi 0)),(10,(w 8)),(12,(p 1 0))],[(0,(.box [(.a (i 0)),(.a (i 0)),.nil,(.a (i 0)),.nil,.nil,.nil,.nil,.nil,.nil,.nil])),(1,(.box [(r 24 0),(r 24 1),(r 24 2),(r 10 0),(r 10 1),(a 34),(a 35),(a 36),(a 37),(a 38),(o 2 40)])),(2,(.lst (x 39) (x 40) 3 false))],3⟩),.no]
theorem Ti:symF D0 100000 238 Th=some k238:=by kernel_rfl
def uS:K:=
 l (.shape 3) [x 0]<|
 l (.cell 0) [x 1]<|
 l oL [x 2,i 0]<|
 b (x 3) (.ret [i 8])<|
 l (.cell 0) [x 1]<|
 l oG [x 4,i 65535]<|
 b (x 5) (.ret [i 8])<|
 l (.cell 1) [x 1]<|
 l oL [x 6,i (-1048576)]<|
 b (x 7) (.ret [i 8])<|
 l (.cell 1) [x 1]<|
 l oG [x 8,i 1048576]<|
 b (x 9) (.ret [i 8])<|
 l (.cell 2) [x 1]<|
 l oL [x 10,i (-1048576)]<|
 b (x 11) (.ret [i 8])<|
 l (.cell 2) [x 1]<|
 l oG [x 12,i 1048576]<|
 b (x 13) (.ret [i 8])<|
.ret [i 0]
def Tj:List Hint:=[.no,.no]
theorem Tl:symF D0 100000 239 Tj=some uS:=by kernel_rfl
def uT:K:=
 l (.shape 1) [x 0]<|
 l (.shape 2) [x 1]<|
 c 321 [x 3,x 4,x 2]<|
 l (.shape 2) [x 5]<|
.ret [x 6]
def Tn:List Hint:=[]
theorem To:symF D0 100000 240 Tn=some uT:=by kernel_rfl
def zG:K:=
 l (.part 0 3) [x 2]<|
 l .sub [x 3,i 0,x 4]<|
 l .agg [x 5,.c (.sl []),x 6]<|
.ret [x 7]
def pn:K:=
 l oL [x 5,x 0]<|
 b (x 6) (l (.bs 1 [z] [0]) [i (-1)]<|
 l .sub [x 7,i 0,i 1]<|
 l (.app 8 1) [x 3,x 4,x 8]<|
 l .len [x 9]<|
 l oA [x 5,i 1]<|
 j 1 [x 9,x 10,x 11])<|
 j 0 [x 3,x 4]
def uU:K:=
 c 322 [x 0]<|
 l (.shape 3) [x 1]<|
.jp zG<|
.loop pn<|
 j 1 [.c (.sl []),i 0,i 0]
def Tp:List Hint:=[(.j ⟨2,[(3,(p 0 0)),(2,(p 2 0))],[(0,(.box [(r 2 0),(r 2 1),(r 2 2),.nil,(o 1 4)])),(1,(.lst (x 3) (x 4) 1 false)),(2,(.box [.nil,.nil,.nil,.nil,.nil]))],3⟩),(.j ⟨3,[(0,(w 0)),(2,(p 0 0)),(3,(p 1 0)),(4,(w 5))],[(0,(.box [.nil,.nil,.nil,.nil,.nil])),(1,(.box [(r 2 0),(r 2 1),(r 2 2),.nil,(o 2 4)])),(2,(.lst (x 3) (x 4) 1 false))],3⟩),.no,.no]
theorem Tq:symF D0 100000 241 Tp=some uU:=by kernel_rfl
def uV:K:=
 l (.shape 2) [x 0]<|
 l (.cell 1) [x 2]<|
 l .len [x 3]<|
 l oS [x 1,x 4]<|
 l oH [x 5,i 0]<|
 b (x 6) (l (.cell 0) [x 2]<|
 l (.tix 1) [x 7,x 5]<|
 l (.elt 0 0) [x 7,x 8]<|
.ret [x 9])<|
 l (.cell 1) [x 2]<|
 l (.tix 1) [x 7,x 1]<|
 l (.elt 0 0) [x 7,x 8]<|
.ret [x 9]
def Ts:List Hint:=[.no]
theorem Tt:symF D0 100000 242 Ts=some uV:=by kernel_rfl
def zH:K:=
.ret [x 6]
def jN:K:=
 l oA [x 7,i 1]<|
 j 1 [x 16,x 17]
def zI:K:=
.jp jN<|
 b (x 15) (l oA [x 6,i 1]<|
 j 2 [x 16])<|
 j 2 [x 6]
def po:K:=
 l (.cell 0) [x 3]<|
 l .len [x 8]<|
 l oL [x 7,x 9]<|
 b (x 10) (.jp zI<|
 l (.cell 0) [x 3]<|
 l (.tix 3) [x 11,x 7]<|
 l (.elt 0 0) [x 11,x 12]<|
 l (.cell 0) [x 4]<|
 l oN [x 13,x 14]<|
 b (x 15) (l (.cell 0) [x 3]<|
 l (.tix 3) [x 16,x 7]<|
 l (.elt 0 3) [x 16,x 17]<|
 c 323 [x 18,x 4,x 5]<|
 j 2 [x 11,x 12,x 13,x 15,x 19])<|
 j 2 [x 11,x 12,x 13,x 15,.c (.v (.bool false))])<|
 j 0 [x 6]
def uW:K:=
 l (.shape 1) [x 0]<|
 l (.shape 3) [x 1]<|
 l (.shape 2) [x 2]<|
.jp zH<|
.loop po<|
 j 1 [i 0,i 0]
def Tu:List Hint:=[(.j ⟨1,[(7,(w 6)),(6,(wi 0))],[],0⟩),(.j ⟨2,[(3,(p 0 0)),(4,(p 1 0)),(5,(p 2 0)),(6,(wi 0)),(7,(w 6)),(8,(w 7))],[(0,(.box [(r 3 0)])),(1,(.box (pcs (x 4) 0 3))),(2,(.box [(r 5 0),(r 5 1)]))],3⟩),.no,.no,(.j ⟨5,[(8,(w 7)),(7,(w 6)),(6,(wi 0)),(5,(p 0 0)),(4,(p 1 0)),(3,(p 2 0)),(9,(w 7)),(10,(p 2 0)),(11,(.w (.c (r 3 0)))),(12,(w 9)),(13,(w 10)),(16,(p 2 0)),(17,(.w (.c (r 3 0)))),(18,(w 7)),(19,(.w (.c (.tp (x 11) (x 12) 0)))),(20,(.w (.c (.tp (x 11) (x 12) 0)))),(21,(w 13)),(22,(p 1 0)),(23,(.w (.c (r 4 0)))),(24,(w 14)),(25,(w 14)),(34,(w 15))],[(0,(.box [(r 5 0),(r 5 1)])),(1,(.box (pcs (x 4) 0 3))),(2,(.box [(r 3 0)]))],3⟩),(.j ⟨1,[(34,(w 15)),(25,(w 14)),(24,(w 14)),(23,(.w (.c (r 4 0)))),(22,(p 0 0)),(21,(w 13)),(20,(.w (.c (.tp (x 11) (x 12) 0)))),(19,(.w (.c (.tp (x 11) (x 12) 0)))),(18,(w 7)),(17,(.w (.c (r 3 0)))),(16,(p 1 0)),(13,(w 10)),(12,(w 9)),(11,(.w (.c (r 3 0)))),(10,(p 1 0)),(9,(w 7)),(3,(p 1 0)),(4,(p 0 0)),(5,(p 2 0)),(6,(wi 0)),(8,(w 7)),(7,(w 16))],[(0,(.box (pcs (x 4) 0 3))),(1,(.box [(r 3 0)])),(2,(.box [(r 5 0),(r 5 1)]))],3⟩)]
theorem Tv:symF D0 100000 243 Tu=some uW:=by kernel_rfl
def zJ:K:=
.ret [i 0]
def pq:K:=
 l oL [x 13,x 10]<|
 b (x 14) (l (.cell 1) [x 1]<|
 l (.tix 3) [x 15,x 13]<|
 l (.elt 0 3) [x 15,x 16]<|
 l (.part 1 2) [x 17]<|
 c 324 [x 18]<|
 l (.un .not) [x 19]<|
 b (x 20) (.ret [i 8])<|
 l (.part 1 2) [x 17]<|
 l (.mget [.i,.i] [(.v (.bool false))]) [x 11,x 21]<|
 b (x 22) (.ret [i 8])<|
 l (.cell 0) [x 17]<|
 l oK [x 23,x 12]<|
 b (x 24) (.ret [i 8])<|
 l (.cell 0) [x 17]<|
 l (.cell 0) [x 1]<|
 l oH [x 25,x 26]<|
 b (x 27) (.ret [i 8])<|
 l (.part 1 2) [x 17]<|
 l (.mset [.i,.i] 1) [x 11,x 28,.c (.v (.bool true))]<|
 l oA [x 13,i 1]<|
 l (.cell 0) [x 17]<|
 j 1 [x 29,x 31,x 30])<|
 j 0 []
def uX:K:=
 l (.shape 2) [x 0]<|
 l (.cell 1) [x 1]<|
 l .len [x 2]<|
 l oG [x 3,i 200]<|
 b (x 4) (.ret [i 8])<|
 l (.cell 0) [x 1]<|
 l oL [x 5,i 0]<|
 b (x 6) (.ret [i 8])<|
 l (.cell 0) [x 1]<|
 l oG [x 7,i 1000000]<|
 b (x 8) (.ret [i 8])<|
 l (.cell 1) [x 1]<|
 l .len [x 9]<|
.jp zJ<|
.loop pq<|
 j 1 [.c (.sl []),i (-1),i 0]
def Tw:List Hint:=[.no,.no,(.j ⟨0,[(2,(wi 0))],[],0⟩),(.j ⟨3,[(1,(p 0 0)),(2,(wi 0)),(3,(.w (.c (.mp 1)))),(4,(w 12)),(23,(.w (.c (r 1 1)))),(24,(w 10)),(25,(w 13))],[(0,(.box [(r 1 0),(r 1 1)])),(1,(.map (x 11) true 2 false))],2⟩),.no,.no,.no,.no]
theorem Tx:symF D0 100000 244 Tw=some uX:=by kernel_rfl
def zK:K:=
.ret [i 0]
def pu:K:=
 b (x 40) (.ret [i 8])<|
 l oA [x 23,i 1]<|
 j 1 [x 38,x 41]
def pw:K:=
 l oL [x 23,x 21]<|
 b (x 24) (l (.cell 3) [x 1]<|
 l (.tix 5) [x 25,x 23]<|
 l (.elt 0 5) [x 25,x 26]<|
 l (.part 0 2) [x 27]<|
 c 43 [x 28]<|
 l oN [x 29,i 0]<|
 b (x 30) (.ret [i 8])<|
 l (.cell 2) [x 27]<|
 l oL [x 31,i 0]<|
 b (x 32) (.ret [i 8])<|
 l (.cell 2) [x 27]<|
 l oG [x 33,i 1000000]<|
 b (x 34) (.ret [i 8])<|
 l (.cell 2) [x 27]<|
 l (.mget [.i] [(.v (.bool false))]) [x 22,x 35]<|
 b (x 36) (.ret [i 8])<|
 l (.cell 2) [x 27]<|
 l (.mset [.i] 1) [x 22,x 37,.c (.v (.bool true))]<|
.jp pu<|
 l oG [x 23,i 0]<|
 b (x 39) (l oS [x 23,i 1]<|
 l (.bin .quo) [x 40,i 2]<|
 l (.cell 3) [x 1]<|
 l (.tix 5) [x 42,x 41]<|
 l (.elt 0 5) [x 42,x 43]<|
 c 326 [x 27,x 44]<|
 l oL [x 45,i 0]<|
 j 2 [x 39,x 46])<|
 j 2 [x 39,.c (.v (.bool false))])<|
 j 0 []
def zL:K:=
 l (.cell 3) [x 1]<|
 l .len [x 20]<|
.jp zK<|
.loop pw<|
 j 1 [.c (.sl []),i 0]
def k245_5:K:=
 l oA [x 20,i 1]<|
 j 1 [x 29]
def px:K:=
 l oL [x 20,x 19]<|
 b (x 21) (.jp k245_5<|
 l (.cell 4) [x 1]<|
 l (.tix 1) [x 22,x 20]<|
 l (.elt 0 0) [x 22,x 23]<|
 l (.cell 1) [x 1]<|
 l (.tix 1) [x 25,x 20]<|
 l (.elt 0 0) [x 25,x 26]<|
 l (.un .not) [x 27]<|
 b (x 28) (l oN [x 24,i (-1)]<|
 b (x 29) (.ret [i 8])<|
 j 2 [x 22,x 23,x 24,x 25,x 26,x 27,x 28])<|
 l oL [x 24,i 0]<|
 b (x 29) (.ret [i 8])<|
 l (.cell 3) [x 1]<|
 l .len [x 30]<|
 l oH [x 24,x 31]<|
 b (x 32) (.ret [i 8])<|
 l (.cell 3) [x 1]<|
 l (.tix 5) [x 33,x 24]<|
 l (.elt 3 2) [x 33,x 34]<|
 l (.cell 0) [x 1]<|
 l (.tix 1) [x 36,x 20]<|
 l (.elt 0 0) [x 36,x 37]<|
 l .agg [x 20,x 38]<|
 l (.eqv [.i,.i]) [x 35,x 39]<|
 l (.un .not) [x 40]<|
 b (x 41) (.ret [i 8])<|
 j 2 [x 22,x 23,x 24,x 25,x 26,x 27,x 28])<|
 j 0 []
def uY:K:=
 l (.shape 5) [x 0]<|
 l (.part 0 3) [x 1]<|
 c 325 [x 2]<|
 l oN [x 3,i 0]<|
 b (x 4) (.ret [i 8])<|
 l (.cell 4) [x 1]<|
 l .len [x 5]<|
 l (.cell 1) [x 1]<|
 l .len [x 7]<|
 l oN [x 6,x 8]<|
 b (x 9) (.ret [i 8])<|
 l (.cell 3) [x 1]<|
 l .len [x 10]<|
 l (.cell 1) [x 1]<|
 l .len [x 12]<|
 l (.cell 2) [x 1]<|
 l .len [x 14]<|
 l oS [x 13,x 15]<|
 l oN [x 11,x 16]<|
 b (x 17) (.ret [i 8])<|
 l (.cell 4) [x 1]<|
 l .len [x 18]<|
.jp zL<|
.loop px<|
 j 1 [i 0]
def Ty:List Hint:=[.no,.no,(.j ⟨0,[(2,(wi 0)),(1,(p 0 0))],[(0,(.box (pcs (x 1) 0 5)))],1⟩),(.j ⟨1,[(1,(p 0 0)),(2,(wi 0)),(38,(.w (.c (r 1 4)))),(39,(w 19)),(40,(w 20))],[(0,(.box (pcs (x 1) 0 5)))],1⟩),.no,(.j ⟨7,[(40,(w 20)),(39,(w 19)),(38,(.w (.c (r 1 4)))),(2,(wi 0)),(1,(p 0 0)),(41,(w 21)),(42,(w 20)),(43,(.w (.c (.tp (x 22) (x 23) 0)))),(44,(w 24)),(3,(w 20)),(4,(w 24)),(45,(p 0 0)),(46,(p 0 1)),(47,(.w (.c (r 1 1)))),(48,(w 20)),(49,(.w (.c (.tp (x 25) (x 26) 0)))),(50,(w 27)),(51,(w 28))],[(0,(.box (pcs (x 1) 0 5)))],1⟩),.no,.no,.no,.no,(.j ⟨0,[(2,(wi 0))],[],0⟩),(.j ⟨2,[(1,(p 0 0)),(2,(wi 0)),(5,(.w (.c (.mp 1)))),(83,(.w (.c (r 1 3)))),(84,(w 21)),(85,(w 23))],[(0,(.box (pcs (x 1) 0 5))),(1,(.map (x 22) false 1 false))],2⟩),.no,.no,.no,.no,(.j ⟨2,[(85,(w 23)),(84,(w 21)),(83,(.w (.c (r 1 3)))),(5,(.w (.c (.mp 0)))),(2,(wi 0)),(1,(p 1 0)),(86,(w 24)),(87,(w 23)),(88,(.w (.c (.tp (x 25) (x 26) 0)))),(89,(v 27)),(7,(p 2 0)),(6,(w 23)),(90,(p 2 0)),(91,(v 28)),(92,(w 29)),(93,(w 30)),(94,(w 30)),(95,(p 2 2)),(96,(.w (.c (r 27 2)))),(97,(w 32)),(98,(w 32)),(99,(w 32)),(100,(p 2 2)),(101,(.w (.c (r 27 2)))),(102,(w 34)),(103,(w 34)),(104,(w 34)),(105,(.w (.c (.mp 0)))),(106,(p 2 2)),(107,(.w (.c (r 27 2)))),(108,(w 36)),(109,(w 36)),(110,(.w (.c (.mp 0)))),(111,(p 2 2)),(112,(.w (.c (r 27 2)))),(113,(w 23)),(114,(w 39)),(115,(w 39)),(126,(w 40))],[(0,(.map (x 38) false 1 false)),(1,(.box (pcs (x 1) 0 5))),(2,(.box (pcs (x 27) 0 5)))],3⟩),.no]
theorem Tz:symF D0 100000 245 Ty=some uY:=by kernel_rfl
def uZ:K:=
 l (.shape 1) [x 0]<|
 l (.shape 2) [x 1]<|
 l (.shape 2) [x 2]<|
 l (.cell 1) [x 4]<|
 c 315 [x 3,x 6]<|
 l (.cell 0) [x 4]<|
 c 315 [x 3,x 8]<|
 c 327 [x 7,x 9,x 5]<|
 l (.shape 2) [x 10]<|
 l (.part 0 2) [x 13]<|
.ret [x 14,x 11,x 12]
def TA:List Hint:=[]
theorem TB:symF D0 100000 246 TA=some uZ:=by kernel_rfl
def zM:K:=
.ret [i (-1)]
def py:K:=
 l oL [x 4,x 3]<|
 b (x 5) (l (.tix 2) [x 0,x 4]<|
 l (.elt 0 2) [x 0,x 6]<|
 l (.eqv [.i,.i]) [x 2,x 7]<|
 b (x 8) (.ret [x 4])<|
 l oA [x 4,i 1]<|
 j 1 [x 9])<|
 j 0 []
def u7:K:=
 l (.shape 2) [x 1]<|
 l .len [x 0]<|
.jp zM<|
.loop py<|
 j 1 [i 0]
def TC:List Hint:=[(.j ⟨0,[(4,(wi 0))],[],0⟩),(.j ⟨1,[(0,(w 0)),(3,(p 0 0)),(4,(wi 0)),(7,(w 3)),(8,(w 4))],[(0,(.box [(r 2 0),(r 2 1)]))],1⟩),.no,.no,.no]
theorem TD:symF D0 100000 247 TC=some u7:=by kernel_rfl
def u9:K:=
 l (.shape 1) [x 0]<|
 c 281 [x 2,x 1]<|
 l oN [x 4,i 0]<|
 b (x 5) (l .agg [i 0,i 0,i 0]<|
.ret [x 6,x 4])<|
 l (.cell 0) [x 2]<|
 l (.tix 3) [x 6,x 3]<|
 l (.elt 0 3) [x 6,x 7]<|
.ret [x 8,i 0]
def TE:List Hint:=[.no]
theorem TF:symF D0 100000 248 TE=some u9:=by kernel_rfl
def vb:K:=
 l (.shape 3) [x 0]<|
 l (.shape 3) [x 1]<|
 l (.shape 2) [x 2]<|
 c 328 [x 3,x 4,x 5]<|
 l oN [x 6,i 0]<|
 b (x 7) (.ret [.c (.v (.bool false)),x 6])<|
 c 329 [x 3,x 4,x 5]<|
 l oG [x 8,i 0]<|
.ret [x 9,i 0]
def TG:List Hint:=[.no]
theorem TH:symF D0 100000 249 TG=some vb:=by kernel_rfl
def zN:K:=
 l oH [i (-1),i 0]<|
 l (.un .not) [x 4]<|
.ret [x 5]
def k250_2:K:=
 l oL [x 4,x 2]<|
 b (x 5) (l (.tix 1) [x 0,x 4]<|
 l (.elt 0 0) [x 0,x 6]<|
 l (.mget [.i] [(.v (.bool false))]) [x 3,x 7]<|
 l oH [x 7,i 0]<|
 l (.mset [.i] 1) [x 3,x 7,x 9]<|
 l (.un .not) [x 8]<|
 l (.un .not) [x 11]<|
 b (x 12) (l oH [x 4,i 0]<|
 l (.un .not) [x 13]<|
.ret [x 14])<|
 l oA [x 4,i 1]<|
 j 1 [x 10,x 13])<|
 j 0 [x 3]
def vd:K:=
 l (.mset [.i] 1) [.c (.sl []),i (-1),.c (.v (.bool false))]<|
 l .len [x 0]<|
.jp zN<|
.loop k250_2<|
 j 1 [x 1,i 0]
def TI:List Hint:=[(.j ⟨1,[(4,(wi 0))],[(0,(.map (x 3) false 1 false)),(1,(.box [(.mp 0)])),(2,(.box [(.fn 330 [] [(.ptr 1 0)])]))],3⟩),(.j ⟨2,[(1,(.w (.c (.fn 332 [] [(.ptr 2 0)])))),(0,(w 0)),(4,(wi 0)),(7,(w 2)),(8,(w 4))],[(0,(.map (x 3) false 1 false)),(1,(.box [(.mp 0)])),(2,(.box [(.fn 330 [] [(.ptr 1 0)])]))],3⟩),.no,.no,.no]
theorem TJ:symF D0 100000 250 TI=some vd:=by kernel_rfl
def zO:K:=
.ret [i 0]
def zP:K:=
 l oA [x 9,i 1]<|
 j 1 [x 24]
def k258_3:K:=
 l oL [x 22,x 9]<|
 b (x 23) (l (.cell 1) [x 1]<|
 l (.tix 3) [x 24,x 22]<|
 l (.elt 1 2) [x 24,x 25]<|
 l (.part 1 2) [x 15]<|
 l (.eqv [.i,.i]) [x 26,x 27]<|
 b (x 28) (.ret [i 8])<|
 l oA [x 22,i 1]<|
 j 3 [x 29])<|
 j 2 [x 22,x 23]
def d6:K:=
 b (x 21) (.ret [i 8])<|
.jp zP<|
.loop k258_3<|
 j 3 [i 0]
def pz:K:=
 l (.cell 1) [x 1]<|
 l .len [x 10]<|
 l oL [x 9,x 11]<|
 b (x 12) (l (.cell 1) [x 1]<|
 l (.tix 3) [x 13,x 9]<|
 l (.elt 0 3) [x 13,x 14]<|
.jp d6<|
 l (.part 1 2) [x 15]<|
 c 344 [x 16]<|
 l (.un .not) [x 17]<|
 b (x 18) (j 2 [x 16,x 17,x 18,.c (.v (.bool true)),.c (.v (.bool true)),.c (.v (.bool true))])<|
 l (.cell 0) [x 15]<|
 l oL [x 19,i 0]<|
 b (x 20) (j 2 [x 16,x 17,x 18,x 20,.c (.v (.bool true)),.c (.v (.bool true))])<|
 l (.cell 0) [x 15]<|
 l (.cell 0) [x 1]<|
 l oH [x 21,x 22]<|
 b (x 23) (j 2 [x 16,x 17,x 18,x 20,x 23,.c (.v (.bool true))])<|
 l oG [x 9,i 0]<|
 b (x 24) (l oS [x 9,i 1]<|
 l (.cell 1) [x 1]<|
 l (.tix 3) [x 26,x 25]<|
 l (.elt 0 0) [x 26,x 27]<|
 l (.cell 0) [x 15]<|
 l oH [x 28,x 29]<|
 j 2 [x 16,x 17,x 18,x 20,x 23,x 30])<|
 j 2 [x 16,x 17,x 18,x 20,x 23,.c (.v (.bool false))])<|
 j 0 []
def vg:K:=
 l (.shape 2) [x 0]<|
 l (.cell 1) [x 1]<|
 l .len [x 2]<|
 l oG [x 3,i 200]<|
 b (x 4) (.ret [i 8])<|
 l (.cell 0) [x 1]<|
 l oL [x 5,i 0]<|
 b (x 6) (.ret [i 8])<|
 l (.cell 0) [x 1]<|
 l oG [x 7,i 1000000]<|
 b (x 8) (.ret [i 8])<|
.jp zO<|
.loop pz<|
 j 1 [i 0]
def TK:List Hint:=[.no,.no,(.j ⟨0,[(2,(wi 0))],[],0⟩),(.j ⟨1,[(1,(p 0 0)),(2,(wi 0)),(3,(w 9))],[(0,(.box [(r 1 0),(r 1 1)]))],1⟩),.no,.no,(.j ⟨6,[(3,(w 9)),(2,(wi 0)),(1,(p 0 0)),(20,(w 9)),(21,(p 0 1)),(22,(.w (.c (r 1 1)))),(23,(w 11)),(24,(w 12)),(27,(p 0 1)),(28,(.w (.c (r 1 1)))),(29,(w 9)),(30,(.w (.c (.tp (x 13) (x 14) 0)))),(31,(v 15)),(4,(p 1 0)),(32,(p 1 1)),(33,(v 16)),(34,(w 17)),(35,(w 18)),(36,(w 18)),(40,(w 19)),(41,(w 19)),(47,(w 20)),(48,(w 20)),(63,(w 21))],[(0,(.box [(r 1 0),(r 1 1)])),(1,(.box (pcs (x 15) 0 3)))],2⟩),.no,(.j ⟨2,[(5,(w 22)),(3,(w 9)),(2,(wi 0)),(1,(p 0 0)),(20,(w 9)),(21,(p 0 1)),(22,(.w (.c (r 1 1)))),(23,(w 11)),(24,(w 12)),(27,(p 0 1)),(28,(.w (.c (r 1 1)))),(29,(w 9)),(30,(.w (.c (.tp (x 13) (x 14) 0)))),(31,(v 15)),(4,(p 1 0)),(32,(p 1 1)),(33,(v 16)),(34,(w 17)),(35,(w 18)),(36,(w 18)),(40,(w 19)),(41,(w 19)),(47,(w 20)),(48,(w 20)),(63,(w 21)),(64,(w 22)),(65,(w 9)),(66,(w 23))],[(0,(.box [(r 1 0),(r 1 1)])),(1,(.box (pcs (x 15) 0 3)))],2⟩),(.j ⟨1,[(63,(w 21)),(48,(w 20)),(47,(w 20)),(41,(w 19)),(40,(w 19)),(36,(w 18)),(35,(w 18)),(34,(w 17)),(33,(v 16)),(32,(p 0 1)),(4,(p 0 0)),(31,(v 15)),(30,(.w (.c (.tp (x 13) (x 14) 0)))),(29,(w 9)),(28,(.w (.c (r 1 1)))),(27,(p 1 1)),(24,(w 12)),(23,(w 11)),(22,(.w (.c (r 1 1)))),(21,(p 1 1)),(20,(w 9)),(1,(p 1 0)),(2,(wi 0)),(3,(w 9)),(5,(w 22))],[(0,(.box (pcs (x 15) 0 3))),(1,(.box [(r 1 0),(r 1 1)]))],2⟩),.no,.no,.no]
theorem TL:symF D0 100000 258 TK=some vg:=by kernel_rfl
def zQ:K:=
.ret [.c (.v (.bool true))]
def pA:K:=
 l (.cell 1) [x 2]<|
 l .len [x 5]<|
 l oL [x 4,x 6]<|
 b (x 7) (l (.cell 1) [x 2]<|
 l (.tix 3) [x 8,x 4]<|
 l (.elt 1 0) [x 8,x 9]<|
 c 168 [x 3,x 10]<|
 l oL [x 11,i 0]<|
 b (x 12) (.ret [.c (.v (.bool false))])<|
 l (.cell 1) [x 2]<|
 l (.tix 3) [x 13,x 4]<|
 l (.elt 2 0) [x 13,x 14]<|
 c 168 [x 3,x 15]<|
 l oL [x 16,i 0]<|
 b (x 17) (.ret [.c (.v (.bool false))])<|
 l oA [x 4,i 1]<|
 j 1 [x 18])<|
 j 0 []
def vk:K:=
 l (.shape 2) [x 0]<|
 l (.shape 1) [x 1]<|
.jp zQ<|
.loop pA<|
 j 1 [i 0]
def TM:List Hint:=[(.j ⟨0,[(4,(.w (.c (.a (.c (.v (.bool false)))))))],[],0⟩),(.j ⟨1,[(2,(p 0 0)),(3,(p 1 0)),(4,(.w (.c (.a (.c (.v (.bool false))))))),(5,(w 4))],[(0,(.box [(r 2 0),(r 2 1)])),(1,(.box [(r 3 0)]))],2⟩),.no,.no,.no,.no]
theorem TN:symF D0 100000 259 TM=some vk:=by kernel_rfl
def zR:K:=
.ret [i 0]
def k260_2:K:=
 l (.cell 3) [x 1]<|
 l .len [x 8]<|
 l oL [x 7,x 9]<|
 b (x 10) (l (.cell 3) [x 1]<|
 l (.tix 5) [x 11,x 7]<|
 l (.elt 0 5) [x 11,x 12]<|
 l oS [x 7,i 1]<|
 l (.bin .quo) [x 14,i 2]<|
 l (.cell 3) [x 1]<|
 l (.tix 5) [x 16,x 15]<|
 l (.elt 0 5) [x 16,x 17]<|
 c 347 [x 13,x 18]<|
 b (x 19) (.ret [i 8])<|
 l oA [x 7,i 1]<|
 j 1 [x 20])<|
 j 0 []
def zS:K:=
.jp zR<|
.loop k260_2<|
 j 1 [i 1]
def zT:K:=
 l oA [x 7,i 1]<|
 j 1 [x 23]
def k260_5:K:=
 l oL [x 21,x 7]<|
 b (x 22) (l (.cell 3) [x 1]<|
 l (.tix 5) [x 23,x 21]<|
 l (.elt 2 0) [x 23,x 24]<|
 l (.cell 2) [x 13]<|
 l oE [x 25,x 26]<|
 b (x 27) (.ret [i 8])<|
 l oA [x 21,i 1]<|
 j 3 [x 28])<|
 j 2 [x 21,x 22]
def pB:K:=
 l (.cell 3) [x 1]<|
 l .len [x 8]<|
 l oL [x 7,x 9]<|
 b (x 10) (l (.cell 3) [x 1]<|
 l (.tix 5) [x 11,x 7]<|
 l (.elt 0 5) [x 11,x 12]<|
 l (.part 0 2) [x 13]<|
 c 128 [x 14]<|
 l oN [x 15,i 0]<|
 b (x 16) (.ret [i 8])<|
 l (.cell 2) [x 13]<|
 l oL [x 17,i 0]<|
 b (x 18) (.ret [i 8])<|
 l (.cell 2) [x 13]<|
 l oG [x 19,i 1000000]<|
 b (x 20) (.ret [i 8])<|
.jp zT<|
.loop k260_5<|
 j 3 [i 0])<|
 j 0 []
def vl:K:=
 l (.shape 5) [x 0]<|
 l (.part 0 3) [x 1]<|
 c 345 [x 2]<|
 l oN [x 3,i 0]<|
 b (x 4) (.ret [i 8])<|
 c 346 [x 1]<|
 l (.un .not) [x 5]<|
 b (x 6) (.ret [i 8])<|
.jp zS<|
.loop pB<|
 j 1 [i 0]
def TO:List Hint:=[.no,.no,(.j ⟨0,[(2,(wi 0)),(1,(p 0 0))],[(0,(.box (pcs (x 1) 0 5)))],1⟩),(.j ⟨1,[(1,(p 0 0)),(2,(wi 0)),(3,(w 7))],[(0,(.box (pcs (x 1) 0 5)))],1⟩),.no,.no,.no,.no,(.j ⟨2,[(5,(w 21)),(41,(w 20)),(40,(w 20)),(39,(.w (.c (r 13 2)))),(38,(p 0 2)),(37,(w 18)),(36,(w 18)),(35,(w 18)),(34,(.w (.c (r 13 2)))),(33,(p 0 2)),(32,(w 16)),(31,(w 16)),(30,(w 15)),(29,(v 14)),(28,(p 0 0)),(4,(p 0 0)),(27,(v 13)),(26,(.w (.c (.tp (x 11) (x 12) 0)))),(25,(w 7)),(24,(.w (.c (r 1 3)))),(23,(p 1 3)),(20,(w 10)),(19,(w 9)),(18,(.w (.c (r 1 3)))),(17,(p 1 3)),(16,(w 7)),(1,(p 1 0)),(2,(wi 0)),(3,(w 7)),(42,(w 21)),(43,(w 7)),(44,(w 22))],[(0,(.box (pcs (x 13) 0 5))),(1,(.box (pcs (x 1) 0 5)))],2⟩),(.j ⟨1,[(3,(w 7)),(2,(wi 0)),(1,(p 0 0)),(16,(w 7)),(17,(p 0 3)),(18,(.w (.c (r 1 3)))),(19,(w 9)),(20,(w 10)),(23,(p 0 3)),(24,(.w (.c (r 1 3)))),(25,(w 7)),(26,(.w (.c (.tp (x 11) (x 12) 0)))),(27,(v 13)),(4,(p 1 0)),(28,(p 1 0)),(29,(v 14)),(30,(w 15)),(31,(w 16)),(32,(w 16)),(33,(p 1 2)),(34,(.w (.c (r 13 2)))),(35,(w 18)),(36,(w 18)),(37,(w 18)),(38,(p 1 2)),(39,(.w (.c (r 13 2)))),(40,(w 20)),(41,(w 20)),(5,(w 21))],[(0,(.box (pcs (x 1) 0 5))),(1,(.box (pcs (x 13) 0 5)))],2⟩),.no,.no,.no,(.j ⟨0,[(2,(wi 0))],[],0⟩),(.j ⟨1,[(1,(p 0 0)),(2,(wi 0)),(6,(w 7))],[(0,(.box (pcs (x 1) 0 5)))],1⟩),.no,.no,.no]
theorem TP:symF D0 100000 260 TO=some vl:=by kernel_rfl
def k261:K:=
 l (.shape 1) [x 0]<|
 l (.shape 2) [x 1]<|
 l (.shape 2) [x 2]<|
 l (.cell 1) [x 4]<|
 c 168 [x 3,x 6]<|
 l (.cell 0) [x 3]<|
 l (.tix 3) [x 8,x 7]<|
 l (.elt 0 3) [x 8,x 9]<|
 l (.cell 0) [x 4]<|
 c 168 [x 3,x 11]<|
 l (.cell 0) [x 3]<|
 l (.tix 3) [x 13,x 12]<|
 l (.elt 0 3) [x 13,x 14]<|
 c 348 [x 10,x 15,x 5]<|
 l (.shape 2) [x 16]<|
 l (.part 0 2) [x 18]<|
.ret [x 19,x 17]
def TQ:List Hint:=[]
theorem TS:symF D0 100000 261 TQ=some k261:=by kernel_rfl
def k262:K:=
 l (.shape 5) [x 0]<|
 l (.shape 2) [x 1]<|
 c 260 [x 2]<|
 l oN [x 4,i 0]<|
 b (x 5) (l .agg [i 0,i 0,i 0,i 0,i 0]<|
.ret [x 6,i 8])<|
 l (.part 0 3) [x 2]<|
 c 349 [x 6,x 3]<|
 l (.un .not) [x 7]<|
 b (x 8) (l .agg [i 0,i 0,i 0,i 0,i 0]<|
.ret [x 9,i 6])<|
 l (.cell 4) [x 2]<|
 l (.cell 0) [x 3]<|
 l (.tix 1) [x 9,x 10]<|
 l (.elt 0 0) [x 9,x 11]<|
 l (.cell 3) [x 2]<|
 l (.tix 5) [x 13,x 12]<|
 l (.elt 0 5) [x 13,x 14]<|
 l (.shape 5) [x 15]<|
 l (.part 0 5) [x 16]<|
.ret [x 17,i 0]
def TT:List Hint:=[.no,.no]
theorem TU:symF D0 100000 262 TT=some k262:=by kernel_rfl
def zU:K:=
.ret [.c (.v (.bool false))]
def pC:K:=
 l (.cell 1) [x 2]<|
 l .len [x 5]<|
 l oL [x 4,x 6]<|
 b (x 7) (l (.cell 1) [x 2]<|
 l (.tix 3) [x 8,x 4]<|
 l (.elt 1 2) [x 8,x 9]<|
 l (.eqv [.i,.i]) [x 10,x 3]<|
 b (x 11) (.ret [.c (.v (.bool true))])<|
 l oA [x 4,i 1]<|
 j 1 [x 12])<|
 j 0 []
def vn:K:=
 l (.shape 2) [x 0]<|
 l (.shape 2) [x 1]<|
.jp zU<|
.loop pC<|
 j 1 [i 0]
def TV:List Hint:=[(.j ⟨0,[(4,(.w (.c (.a (.c (.v (.bool false)))))))],[],0⟩),(.j ⟨1,[(2,(p 0 0)),(3,(p 1 0)),(4,(.w (.c (.a (.c (.v (.bool false))))))),(5,(w 4))],[(0,(.box [(r 2 0),(r 2 1)])),(1,(.box [(r 3 0),(r 3 1)]))],2⟩),.no,.no,.no]
theorem TW:symF D0 100000 263 TV=some vn:=by kernel_rfl
def k264:K:=
 l (.shape 2) [x 0]<|
 l (.shape 1) [x 1]<|
 l (.shape 2) [x 2]<|
 l (.cell 1) [x 3]<|
 c 168 [x 4,x 6]<|
 l (.cell 0) [x 4]<|
 l (.tix 3) [x 8,x 7]<|
 l (.elt 0 3) [x 8,x 9]<|
 l (.cell 0) [x 3]<|
 c 168 [x 4,x 11]<|
 l (.cell 0) [x 4]<|
 l (.tix 3) [x 13,x 12]<|
 l (.elt 0 3) [x 13,x 14]<|
 c 323 [x 10,x 15,x 5]<|
.ret [x 16]
def TX:List Hint:=[]
theorem TY:symF D0 100000 264 TX=some k264:=by kernel_rfl
def zV:K:=
.ret [.c (.v (.bool false))]
def zW:K:=
 l oA [x 1,i 1]<|
 j 1 [x 6]
def k265_3:K:=
 b (x 9) (.ret [.c (.v (.bool true))])<|
 l oA [x 4,i 1]<|
 j 3 [x 10]
def k265_4:K:=
 l oL [x 4,x 1]<|
 b (x 5) (.jp k265_3<|
 l (.tix 1) [x 0,x 1]<|
 l (.elt 0 0) [x 0,x 6]<|
 l oH [x 7,i 0]<|
 b (x 8) (l (.tix 1) [x 0,x 4]<|
 l (.elt 0 0) [x 0,x 9]<|
 l (.tix 1) [x 0,x 1]<|
 l (.elt 0 0) [x 0,x 11]<|
 l oE [x 10,x 12]<|
 j 4 [x 6,x 7,x 8,x 13])<|
 j 4 [x 6,x 7,x 8,.c (.v (.bool false))])<|
 j 2 [x 4,x 5]
def pD:K:=
 l .len [x 0]<|
 l oL [x 1,x 2]<|
 b (x 3) (.jp zW<|
.loop k265_4<|
 j 3 [i 0])<|
 j 0 []
def vo:K:=
.jp zV<|
.loop pD<|
 j 1 [i 0]
def TZ:List Hint:=[(.j ⟨0,[(2,(.w (.c (.a (.c (.v (.bool false)))))))],[],0⟩),(.j ⟨1,[(0,(w 0)),(2,(.w (.c (.a (.c (.v (.bool false))))))),(3,(w 1))],[],0⟩),.no,.no,(.j ⟨2,[(4,(w 4)),(8,(w 3)),(7,(w 2)),(6,(w 0)),(5,(w 1)),(0,(w 0)),(2,(.w (.c (.a (.c (.v (.bool false))))))),(3,(w 1)),(11,(w 4)),(12,(w 1)),(13,(w 5))],[],0⟩),(.j ⟨1,[(3,(w 1)),(2,(.w (.c (.a (.c (.v (.bool false))))))),(0,(w 0)),(5,(w 1)),(6,(w 0)),(7,(w 2)),(8,(w 3)),(4,(w 4))],[],0⟩),.no,.no,(.j ⟨4,[(4,(w 4)),(8,(w 3)),(7,(w 2)),(6,(w 0)),(5,(w 1)),(0,(w 0)),(2,(.w (.c (.a (.c (.v (.bool false))))))),(3,(w 1)),(11,(w 4)),(12,(w 1)),(13,(w 5)),(16,(w 0)),(17,(w 1)),(18,(.w (.c (.tp (x 0) (x 6) 0)))),(19,(w 7)),(20,(w 8)),(21,(w 8)),(31,(w 9))],[],0⟩),.no]
theorem T2:symF D0 100000 265 TZ=some vo:=by kernel_rfl
def vp:K:=
 l (.shape 2) [x 0]<|
 l (.cell 1) [x 2]<|
 l .len [x 3]<|
 l oL [x 1,x 4]<|
 b (x 5) (l (.cell 1) [x 2]<|
 l (.tix 1) [x 6,x 1]<|
 l (.elt 0 0) [x 6,x 7]<|
.ret [x 8])<|
 l (.cell 1) [x 2]<|
 l .len [x 6]<|
 l oS [x 1,x 7]<|
 l (.cell 0) [x 2]<|
 l (.tix 1) [x 9,x 8]<|
 l (.elt 0 0) [x 9,x 10]<|
.ret [x 11]
def T3:List Hint:=[.no]
theorem T4:symF D0 100000 266 T3=some vp:=by kernel_rfl
def vq:K:=
 l (.shape 1) [x 0]<|
 l (.shape 2) [x 1]<|
 l oL [x 2,i 0]<|
 b (x 6) (.ret [x 3])<|
 l oL [x 3,i 0]<|
 b (x 7) (.ret [x 2])<|
 c 168 [x 4,x 2]<|
 l (.cell 0) [x 4]<|
 l (.tix 3) [x 9,x 8]<|
 l (.elt 0 3) [x 9,x 10]<|
 c 168 [x 4,x 3]<|
 l (.cell 0) [x 4]<|
 l (.tix 3) [x 13,x 12]<|
 l (.elt 0 3) [x 13,x 14]<|
 c 323 [x 11,x 15,x 5]<|
 b (x 16) (.ret [x 2])<|
.ret [x 3]
def T5:List Hint:=[.no,.no,.no]
theorem T6:symF D0 100000 267 T5=some vq:=by kernel_rfl
def k268_1:K:=
 l (.cell 0) [x 2]<|
 l .len [x 6]<|
 l .agg [i 0,.c (.sl [])]<|
 c 350 [x 2,x 3,x 8,i 0,x 7,x 4]<|
 l .sub [x 10,i 0,x 5]<|
 l .agg [x 9,x 11]<|
.ret [x 12]
def k268_2:K:=
 l (.cell 0) [x 2]<|
 l .len [x 7]<|
 l oL [x 6,x 8]<|
 b (x 9) (l (.cell 0) [x 2]<|
 l (.tix 3) [x 10,x 6]<|
 l (.elt 0 0) [x 10,x 11]<|
 l .agg [x 12,i 0,i 0]<|
 l (.bs 1 [z,z,z] [0]) [x 13]<|
 l .sub [x 14,i 0,i 1]<|
 l (.app 24 3) [x 4,x 5,x 15]<|
 l .len [x 16]<|
 l oA [x 6,i 1]<|
 j 1 [x 16,x 17,x 18])<|
 j 0 [x 4,x 5]
def vr:K:=
 l (.shape 1) [x 0]<|
 l (.shape 2) [x 1]<|
.jp k268_1<|
.loop k268_2<|
 j 1 [.c (.sl []),i 0,i 0]
def T7:List Hint:=[(.j ⟨2,[(5,(p 0 0)),(4,(p 2 0)),(3,(p 3 0)),(2,(p 4 0))],[(0,(.box [(.a (i 0)),(o 1 5)])),(1,(.lst (x 4) (x 5) 3 false)),(2,(.box [(.a (i 0)),.nil])),(3,(.box [(r 3 0),(r 3 1)])),(4,(.box [(r 2 0)]))],5⟩),(.j ⟨3,[(2,(p 0 0)),(3,(p 1 0)),(4,(p 2 0)),(5,(p 3 0)),(6,(w 6))],[(0,(.box [(r 2 0)])),(1,(.box [(r 3 0),(r 3 1)])),(2,(.box [(.a (i 0)),.nil])),(3,(.box [(.a (i 0)),(o 4 5)])),(4,(.lst (x 4) (x 5) 3 false))],5⟩),.no,.no]
theorem T8:symF D0 100000 268 T7=some vr:=by kernel_rfl
def pE:K:=
 l .sub [x 9,i 0,x 10]<|
.ret [x 11]
def pF:K:=
 l (.tix 1) [x 0,i 0]<|
 l (.elt 0 0) [x 0,x 18]<|
 l oA [x 2,i 1]<|
 l .sub [x 14,i 0,x 15]<|
 c 269 [x 21,x 19,x 20]<|
 l (.app 16 2) [x 9,x 10,x 22]<|
 l .len [x 23]<|
 l oA [x 11,i 1]<|
 j 1 [x 23,x 24,x 25]
def jO:K:=
 l oA [x 15,i 1]<|
 j 3 [x 23,x 24,x 25]
def pG:K:=
 l .len [x 0]<|
 l oL [x 15,x 16]<|
 b (x 17) (l (.tix 1) [x 0,x 15]<|
 l (.elt 0 0) [x 0,x 18]<|
 l (.bin .shr) [x 19,x 2]<|
 l (.bin .rem) [x 20,i 2]<|
 l oE [x 21,x 11]<|
.jp jO<|
 b (x 22) (l (.tix 1) [x 0,x 15]<|
 l (.elt 0 0) [x 0,x 23]<|
 l (.bs 1 [z] [0]) [x 24]<|
 l .sub [x 25,i 0,i 1]<|
 l (.app 8 1) [x 13,x 14,x 26]<|
 l .len [x 27]<|
 j 4 [x 27,x 28])<|
 j 4 [x 13,x 14])<|
 j 2 [x 15,x 13,x 14,x 16,x 17]
def pI:K:=
 l oL [x 11,i 2]<|
 b (x 12) (.jp pF<|
.loop pG<|
 j 3 [.c (.sl []),i 0,i 1])<|
 j 0 [x 9,x 10]
def kS:K:=
 l .len [x 0]<|
 l oE [x 3,i 0]<|
 b (x 4) (.ret [.c (.sl [])])<|
 l (.tix 1) [x 0,i 0]<|
 l (.elt 0 0) [x 0,x 5]<|
 l .agg [x 6,x 1]<|
 l (.bs 1 [z,z] [0]) [x 7]<|
.jp pE<|
.loop pI<|
 j 1 [x 8,i 1,i 0]
def T9:List Hint:=[.no,(.j ⟨2,[(7,(.w (.c (o 0 10)))),(6,(.w (.c .nil)))],[(0,(.lst (x 9) (x 10) 2 false))],1⟩),(.j ⟨3,[(2,(w 2)),(0,(w 0)),(6,(.w (.c .nil))),(7,(.w (.c (o 0 10)))),(8,(w 11))],[(0,(.lst (x 9) (x 10) 2 false))],1⟩),.no,.no,(.j ⟨5,[(10,(w 13)),(9,(.w (.c (o 0 15)))),(21,(w 12)),(20,(w 11)),(2,(w 2)),(0,(w 0)),(6,(.w (.c .nil))),(7,(.w (.c (o 1 10)))),(8,(w 11)),(24,(w 13)),(25,(w 0)),(26,(w 16)),(27,(w 17))],[(0,(.lst (x 14) (x 15) 1 false)),(1,(.lst (x 9) (x 10) 2 false))],2⟩),(.j ⟨3,[(8,(w 11)),(7,(.w (.c (o 0 10)))),(6,(.w (.c .nil))),(0,(w 0)),(2,(w 2)),(20,(w 11)),(21,(w 12)),(9,(.w (.c (o 1 14)))),(10,(w 15))],[(0,(.lst (x 9) (x 10) 2 false)),(1,(.lst (x 13) (x 14) 1 false))],2⟩),.no,.no,(.j ⟨2,[(10,(w 15)),(21,(w 12)),(20,(w 11)),(2,(w 2)),(0,(w 0)),(6,(.w (.c .nil))),(7,(.w (.c (o 0 10)))),(8,(w 11)),(24,(w 15)),(25,(w 0)),(26,(w 16)),(27,(w 17)),(30,(w 0)),(31,(w 15)),(32,(.w (.c (.tp (x 0) (x 18) 0)))),(33,(w 19)),(34,(w 2)),(35,(w 20)),(36,(w 21)),(37,(w 11)),(38,(w 22)),(9,(.w (.c (o 1 24))))],[(0,(.lst (x 9) (x 10) 2 false)),(1,(.lst (x 23) (x 24) 1 false))],2⟩)]
theorem Ua:symF D0 100000 269 T9=some kS:=by kernel_rfl
def zX:K:=
 b (x 7) (.ret [i 8])<|
.ret [i 0]
def zY:K:=
 b (x 6) (.ret [i 8])<|
.jp zX<|
 l (.cell 2) [x 1]<|
 l oL [x 7,i (-1048576)]<|
 b (x 8) (j 0 [.c (.v (.bool true))])<|
 l (.cell 2) [x 1]<|
 l oG [x 9,i 1048576]<|
 j 0 [x 10]
def vt:K:=
 l (.shape 3) [x 0]<|
 l (.cell 0) [x 1]<|
 l oL [x 2,i 0]<|
 b (x 3) (.ret [i 8])<|
 l (.cell 0) [x 1]<|
 l oG [x 4,i 65535]<|
 b (x 5) (.ret [i 8])<|
.jp zY<|
 l (.cell 1) [x 1]<|
 l oL [x 6,i (-1048576)]<|
 b (x 7) (j 0 [.c (.v (.bool true))])<|
 l (.cell 1) [x 1]<|
 l oG [x 8,i 1048576]<|
 j 0 [x 9]
def Ub:List Hint:=[.no,(.j ⟨1,[(2,(w 6))],[(0,(.box (pcs (x 1) 0 3)))],1⟩),(.j ⟨1,[(2,(w 7))],[(0,(.box (pcs (x 1) 0 3)))],1⟩),.no]
theorem Uc:symF D0 100000 270 Ub=some vt:=by kernel_rfl
def pJ:K:=
.ret [x 5,x 6]
def JU:K:=
.jp pJ<|
 l oL [x 5,x 4]<|
 b (x 6) (l (.cell 0) [x 2]<|
 l (.tix 3) [x 7,x 5]<|
 l (.elt 0 3) [x 7,x 8]<|
 l (.cell 0) [x 9]<|
 c 354 [x 10,x 1]<|
 l oE [x 11,i 0]<|
 j 0 [x 12])<|
 j 0 [.c (.v (.bool false))]
def zZ:K:=
 j 1 [x 19,x 18]
def k271_4:K:=
 l oL [x 5,x 6]<|
 b (x 7) (l oA [x 5,x 6]<|
 l (.conv .u64) [x 8]<|
 l (.bin .shr) [x 9,.c (.v (.int .u64 1))]<|
 l (.conv .i64) [x 10]<|
 l (.cell 0) [x 2]<|
 l (.tix 3) [x 12,x 11]<|
 l (.elt 0 3) [x 12,x 13]<|
 l (.cell 0) [x 14]<|
 c 354 [x 15,x 1]<|
 l oL [x 16,i 0]<|
.jp zZ<|
 b (x 17) (l oA [x 11,i 1]<|
 j 2 [x 6,x 18])<|
 j 2 [x 11,x 5])<|
 j 0 [x 5]
def vu:K:=
 l (.shape 1) [x 0]<|
 l (.cell 0) [x 2]<|
 l .len [x 3]<|
.jp JU<|
.loop k271_4<|
 j 1 [i 0,x 4]
def Ud:List Hint:=[(.j ⟨1,[(9,(w 5)),(8,(w 4)),(7,(.w (.c (.a (.c (.v (.bool false))))))),(6,(wi 0)),(0,(.w (.c (r 2 0)))),(1,(w 1)),(2,(.w (.c (.fn 353 [] []))))],[(0,(.box [(r 2 0)]))],1⟩),(.j ⟨2,[(2,(.w (.c (.fn 353 [] [])))),(1,(w 1)),(0,(.w (.c (r 2 0)))),(6,(wi 0)),(7,(.w (.c (.a (.c (.v (.bool false))))))),(8,(w 4)),(9,(w 5)),(10,(w 6))],[(0,(.box [(r 2 0)]))],1⟩),.no,.no,(.j ⟨2,[(10,(w 18)),(8,(w 4)),(7,(.w (.c (.a (.c (.v (.bool false))))))),(6,(wi 0)),(0,(.w (.c (r 2 0)))),(1,(w 1)),(2,(.w (.c (.fn 353 [] [])))),(15,(w 5)),(16,(w 6)),(17,(w 7)),(18,(w 5)),(19,(w 6)),(20,(w 8)),(21,(w 9)),(22,(w 10)),(23,(w 11)),(11,(w 11)),(24,(.w (.c (.fn 353 [] [])))),(25,(.w (.c (r 2 0)))),(26,(w 11)),(27,(.w (.c (.tp (x 12) (x 13) 0)))),(28,(v 14)),(29,(w 1)),(30,(w 16)),(31,(w 17)),(9,(w 19))],[(0,(.box [(r 2 0)]))],1⟩),(.j ⟨1,[(6,(w 5)),(7,(w 6))],[(0,(.box [(r 2 0)]))],1⟩)]
theorem Ue:symF D0 100000 271 Ud=some vu:=by kernel_rfl
def vw:K:=
 c 289 [x 0,x 1]<|
.ret [x 2,x 3]
def Uf:List Hint:=[]
theorem Ug:symF D0 100000 277 Uf=some vw:=by kernel_rfl
def k280:K:=
 l (.shape 1) [x 0]<|
 l (.shape 2) [x 1]<|
 c 168 [x 4,x 2]<|
 l (.cell 0) [x 4]<|
 l (.tix 3) [x 7,x 6]<|
 l (.elt 0 3) [x 7,x 8]<|
 c 168 [x 4,x 3]<|
 l (.cell 0) [x 4]<|
 l (.tix 3) [x 11,x 10]<|
 l (.elt 0 3) [x 11,x 12]<|
 c 323 [x 9,x 13,x 5]<|
.ret [x 14]
def Uh:List Hint:=[]
theorem Ui:symF D0 100000 280 Uh=some k280:=by kernel_rfl
def k281:K:=
 l (.shape 1) [x 0]<|
 c 231 [x 2]<|
 l oN [x 3,i 0]<|
 b (x 4) (.ret [i 0,x 3])<|
 c 271 [x 2,x 1]<|
 l (.un .not) [x 6]<|
 b (x 7) (.ret [i 0,i 6])<|
.ret [x 5,i 0]
def Uj:List Hint:=[.no,.no]
theorem Uk:symF D0 100000 281 Uj=some k281:=by kernel_rfl
def z6:K:=
.ret [x 2]
def vz:K:=
 l (.shape 3) [x 0]<|
.jp z6<|
 l (.cell 0) [x 1]<|
 l .len [x 2]<|
 l oG [x 3,i 210]<|
 b (x 4) (j 0 [.c (.v (.bool true))])<|
 l (.cell 1) [x 1]<|
 l .len [x 5]<|
 l oG [x 6,i 210]<|
 b (x 7) (j 0 [.c (.v (.bool true))])<|
 l (.cell 2) [x 1]<|
 l .len [x 8]<|
 l oG [x 9,i 210]<|
 j 0 [x 10]
def Ul:List Hint:=[(.j ⟨1,[(2,(w 2))],[],0⟩)]
theorem Um:symF D0 100000 285 Ul=some vz:=by kernel_rfl
def vA:K:=
 l (.shape 3) [x 0]<|
 l (.cell 0) [x 1]<|
 l (.app 8 1) [.c (.sl []),i 0,x 2]<|
 l .len [x 3]<|
 l (.cell 1) [x 1]<|
 l (.app 1 1) [.c (.sl []),i 0,x 5]<|
 l .len [x 6]<|
 l (.cell 2) [x 1]<|
 l (.app 8 1) [.c (.sl []),i 0,x 8]<|
 l .len [x 9]<|
 l .sub [x 3,i 0,x 4]<|
 l .sub [x 6,i 0,x 7]<|
 l .sub [x 9,i 0,x 10]<|
 l .agg [x 11,x 12,x 13]<|
.ret [x 14]
def Un:List Hint:=[]
theorem Uo:symF D0 100000 286 Un=some vA:=by kernel_rfl
def vB:K:=
 l oN [x 0,x 0]<|
.ret [x 1]
def Up:List Hint:=[]
theorem Uq:symF D0 100000 287 Up=some vB:=by kernel_rfl
def vC:K:=
 c 359 [x 0]<|
 c 359 [x 1]<|
 b (x 2) (b (x 3) (.ret [i 0])<|
.ret [i (-1)])<|
 b (x 3) (.ret [i 1])<|
 l oL [x 0,x 1]<|
 b (x 4) (.ret [i (-1)])<|
 l oG [x 0,x 1]<|
 b (x 5) (.ret [i 1])<|
.ret [i 0]
def Ur:List Hint:=[.no,.no,.no,.no,.no]
theorem Us:symF D0 100000 288 Ur=some vC:=by kernel_rfl
def vD:K:=
 l (.bin .and) [x 0,.c (.v (.int .u64 4294967295))]<|
 l (.bin .shr) [x 0,.c (.v (.int .u64 32))]<|
 l (.bin .and) [x 1,.c (.v (.int .u64 4294967295))]<|
 l (.bin .shr) [x 1,.c (.v (.int .u64 32))]<|
 l oM [x 2,x 4]<|
 l oM [x 3,x 4]<|
 l (.bin .shr) [x 6,.c (.v (.int .u64 32))]<|
 l oA [x 7,x 8]<|
 l (.bin .and) [x 9,.c (.v (.int .u64 4294967295))]<|
 l (.bin .shr) [x 9,.c (.v (.int .u64 32))]<|
 l oM [x 2,x 5]<|
 l oA [x 10,x 12]<|
 l oM [x 3,x 5]<|
 l oA [x 14,x 11]<|
 l (.bin .shr) [x 13,.c (.v (.int .u64 32))]<|
 l oA [x 15,x 16]<|
 l oM [x 0,x 1]<|
.ret [x 17,x 18]
def Ut:List Hint:=[]
theorem Uu:symF D0 100000 289 Ut=some vD:=by kernel_rfl
def pK:K:=
 l (.app 24 3) [.c (.sl []),i 0,x 0]<|
 l .len [x 3]<|
 l .sub [x 3,i 0,x 4]<|
.ret [x 5]
def vE:K:=
 l .len [x 0]<|
 l oE [x 1,i 0]<|
.jp pK<|
 b (x 2) (.amb (.ret [.c (.sl [])])<|
 j 0 [])<|
 j 0 []
def Uv:List Hint:=[(.j ⟨0,[(0,(w 0)),(2,(.w (.c .nil)))],[],0⟩)]
theorem Uw:symF D0 100000 291 Uv=some vE:=by kernel_rfl
def pL:K:=
 l (.app 24 3) [.c (.sl []),i 0,x 0]<|
 l .len [x 3]<|
 l .sub [x 3,i 0,x 4]<|
.ret [x 5]
def vF:K:=
 l .len [x 0]<|
 l oE [x 1,i 0]<|
.jp pL<|
 b (x 2) (.amb (.ret [.c (.sl [])])<|
 j 0 [])<|
 j 0 []
def Ux:List Hint:=[(.j ⟨0,[(0,(w 0)),(2,(.w (.c .nil)))],[],0⟩)]
theorem Uy:symF D0 100000 292 Ux=some vF:=by kernel_rfl
def pM:K:=
 l (.app 40 5) [.c (.sl []),i 0,x 0]<|
 l .len [x 3]<|
 l .sub [x 3,i 0,x 4]<|
.ret [x 5]
def vG:K:=
 l .len [x 0]<|
 l oE [x 1,i 0]<|
.jp pM<|
 b (x 2) (.amb (.ret [.c (.sl [])])<|
 j 0 [])<|
 j 0 []
def Uz:List Hint:=[(.j ⟨0,[(0,(w 0)),(2,(.w (.c .nil)))],[],0⟩)]
theorem UA:symF D0 100000 293 Uz=some vG:=by kernel_rfl
def pO:K:=
 l (.app 1 1) [.c (.sl []),i 0,x 0]<|
 l .len [x 3]<|
 l .sub [x 3,i 0,x 4]<|
.ret [x 5]
def vH:K:=
 l .len [x 0]<|
 l oE [x 1,i 0]<|
.jp pO<|
 b (x 2) (.amb (.ret [.c (.sl [])])<|
 j 0 [])<|
 j 0 []
def UB:List Hint:=[(.j ⟨0,[(0,(w 0)),(2,(.w (.c .nil)))],[],0⟩)]
theorem UC:symF D0 100000 294 UB=some vH:=by kernel_rfl
def vI:K:=
 l (.shape 11) [x 0]<|
 l (.cell 2) [x 1]<|
 c 67 [x 2]<|
 l .len [x 3]<|
 l (.cell 4) [x 1]<|
 c 291 [x 5]<|
 l .len [x 6]<|
 l (.cell 10) [x 1]<|
 c 292 [x 8]<|
 l .len [x 9]<|
 l (.cell 8) [x 1]<|
 c 293 [x 11]<|
 l .len [x 12]<|
 l (.cell 9) [x 1]<|
 c 120 [x 14]<|
 l .len [x 15]<|
 l (.cell 5) [x 1]<|
 c 120 [x 17]<|
 l .len [x 18]<|
 l (.cell 6) [x 1]<|
 c 294 [x 20]<|
 l .len [x 21]<|
 l (.cell 7) [x 1]<|
 c 120 [x 23]<|
 l .len [x 24]<|
 l (.part 0 2) [x 1]<|
 l .sub [x 3,i 0,x 4]<|
 l (.cell 3) [x 1]<|
 l .sub [x 6,i 0,x 7]<|
 l .sub [x 18,i 0,x 19]<|
 l .sub [x 21,i 0,x 22]<|
 l .sub [x 24,i 0,x 25]<|
 l .sub [x 12,i 0,x 13]<|
 l .sub [x 15,i 0,x 16]<|
 l .sub [x 9,i 0,x 10]<|
 l .agg [x 26,x 27,x 28,x 29,x 30,x 31,x 32,x 33,x 34,x 35]<|
.ret [x 36]
def UD:List Hint:=[]
theorem UE:symF D0 100000 299 UD=some vI:=by kernel_rfl
def k300:K:=
 l (.shape 1) [x 0]<|
 l (.shape 2) [x 1]<|
 c 231 [x 2]<|
 l oN [x 4,i 0]<|
 b (x 5) (.ret [x 4])<|
 c 43 [x 3]<|
.ret [x 6]
def UF:List Hint:=[.no]
theorem UG:symF D0 100000 300 UF=some k300:=by kernel_rfl
def z7:K:=
 l oH [i (-1),i 0]<|
 l (.un .not) [x 4]<|
.ret [x 5]
def pP:K:=
 l (.un .not) [x 10]<|
 b (x 11) (l oH [x 4,i 0]<|
 l (.un .not) [x 12]<|
.ret [x 13])<|
 l oA [x 4,i 1]<|
 j 1 [x 12]
def pQ:K:=
 l oL [x 4,x 3]<|
 b (x 5) (l (.tix 1) [x 1,x 4]<|
 l (.elt 0 0) [x 1,x 6]<|
 c 367 [x 2,x 7]<|
.jp pP<|
 b (x 9) (j 2 [.c (.v (.bool true))])<|
 l oE [x 7,i (-1)]<|
 j 2 [x 10])<|
 j 0 []
def vJ:K:=
 l (.shape 1) [x 0]<|
 l .len [x 1]<|
.jp z7<|
.loop pQ<|
 j 1 [i 0]
def UH:List Hint:=[(.j ⟨0,[(4,(wi 0))],[(0,(.box [(r 2 0)])),(1,(.box [(.fn 366 [] [(.ptr 0 0)])]))],2⟩),(.j ⟨1,[(1,(.w (.c (.fn 332 [] [(.ptr 1 0)])))),(0,(w 1)),(4,(wi 0)),(7,(w 3)),(8,(w 4))],[(0,(.box [(r 2 0)])),(1,(.box [(.fn 366 [] [(.ptr 0 0)])]))],2⟩),.no,.no,(.j ⟨1,[(3,(w 10))],[(0,(.box [(r 2 0)])),(1,(.box [(.fn 366 [] [(.ptr 0 0)])]))],2⟩),.no]
theorem UI:symF D0 100000 301 UH=some vJ:=by kernel_rfl
def vK:K:=
 l (.shape 1) [x 0]<|
 l (.shape 2) [x 1]<|
 l (.mm false) [x 2,x 3]<|
 l oL [x 6,i 0]<|
 b (x 7) (l (.mm true) [x 2,x 3]<|
.ret [x 8])<|
 c 367 [x 4,x 2]<|
 c 367 [x 4,x 3]<|
 l (.cell 0) [x 4]<|
 l (.tix 3) [x 12,x 8]<|
 l (.elt 0 3) [x 12,x 13]<|
 l (.cell 0) [x 4]<|
 l (.tix 3) [x 15,x 10]<|
 l (.elt 0 3) [x 15,x 16]<|
 c 249 [x 14,x 17,x 5]<|
 b (x 18) (.ret [x 2])<|
.ret [x 3]
def UJ:List Hint:=[.no,.no]
theorem UK:symF D0 100000 302 UJ=some vK:=by kernel_rfl
def k303:K:=
 l (.shape 1) [x 0]<|
 l (.shape 2) [x 1]<|
 c 231 [x 2]<|
 l oN [x 4,i 0]<|
 b (x 5) (.ret [x 4])<|
 c 43 [x 3]<|
.ret [x 6]
def UL:List Hint:=[.no]
theorem UM:symF D0 100000 303 UL=some k303:=by kernel_rfl
def z8:K:=
 l (.part 1 2) [x 5]<|
 l .agg [x 6,x 7]<|
.ret [x 8]
def vL:K:=
 c 223 [x 0]<|
 c 223 [x 1]<|
 c 368 [x 2,x 3]<|
 l (.shape 3) [x 4]<|
.jp z8<|
 l oL [x 0,i 0]<|
 l oL [x 1,i 0]<|
 l (.bbin .neq) [x 6,x 7]<|
 b (x 8) (l oN [x 0,i 0]<|
 b (x 9) (l oN [x 1,i 0]<|
 j 0 [x 10])<|
 j 0 [.c (.v (.bool false))])<|
 j 0 [.c (.v (.bool false))]
def UN:List Hint:=[(.j ⟨1,[(4,(p 0 0)),(5,(p 1 0))],[(0,(.box [(.a (.c (.v (.bool false)))),(.a (.c (.v (.int .u64 0)))),(.a (.c (.v (.int .u64 0))))])),(1,(.box [(a 6),(r 5 1),(r 5 2)]))],2⟩)]
theorem UO:symF D0 100000 304 UN=some vL:=by kernel_rfl
def pT:K:=
 b (x 2) (.ret [i 0])<|
 l (.cell 0) [x 1]<|
 b (x 3) (.ret [i (-1)])<|
.ret [i 1]
def vM:K:=
 l (.shape 3) [x 0]<|
.jp pT<|
 l (.cell 1) [x 1]<|
 l oE [x 2,.c (.v (.int .u64 0))]<|
 b (x 3) (l (.cell 2) [x 1]<|
 l oE [x 4,.c (.v (.int .u64 0))]<|
 j 0 [x 5])<|
 j 0 [.c (.v (.bool false))]
def UP:List Hint:=[(.j ⟨1,[(1,(p 0 0)),(2,(wi 0)),(10,(w 2))],[(0,(.box (pcs (x 1) 0 3)))],1⟩),.no,.no]
theorem UQ:symF D0 100000 305 UP=some vM:=by kernel_rfl
def vN:K:=
 l (.shape 3) [x 0]<|
 l (.shape 3) [x 1]<|
 l (.cell 1) [x 2]<|
 l (.cell 1) [x 3]<|
 l oN [x 4,x 5]<|
 b (x 6) (l (.cell 1) [x 2]<|
 l (.cell 1) [x 3]<|
 l oL [x 7,x 8]<|
 b (x 9) (.ret [i (-1)])<|
.ret [i 1])<|
 l (.cell 2) [x 2]<|
 l (.cell 2) [x 3]<|
 l oN [x 7,x 8]<|
 b (x 9) (l (.cell 2) [x 2]<|
 l (.cell 2) [x 3]<|
 l oL [x 10,x 11]<|
 b (x 12) (.ret [i (-1)])<|
.ret [i 1])<|
.ret [i 0]
def UR:List Hint:=[.no,.no,.no,.no]
theorem US:symF D0 100000 306 UR=some vN:=by kernel_rfl
def JV:K:=
.ret [.c (.v (.bool false))]
def JW:K:=
 l .len [x 0]<|
 l oL [x 3,x 4]<|
 b (x 5) (l (.tix 2) [x 0,x 3]<|
 l (.elt 0 2) [x 0,x 6]<|
 l (.eqv [.i,.i]) [x 7,x 2]<|
 b (x 8) (.ret [.c (.v (.bool true))])<|
 l oA [x 3,i 1]<|
 j 1 [x 9])<|
 j 0 []
def JX:K:=
 l (.shape 2) [x 1]<|
.jp JV<|
.loop JW<|
 j 1 [i 0]
def UT:List Hint:=[(.j ⟨0,[(4,(.w (.c (.a (.c (.v (.bool false)))))))],[],0⟩),(.j ⟨1,[(0,(w 0)),(3,(p 0 0)),(4,(.w (.c (.a (.c (.v (.bool false))))))),(5,(w 3))],[(0,(.box [(r 2 0),(r 2 1)]))],1⟩),.no,.no,.no]
theorem UU:symF D0 100000 309 UT=some JX:=by kernel_rfl
end Go.Proofs.YtfghdmmapmdcgaaGreat
