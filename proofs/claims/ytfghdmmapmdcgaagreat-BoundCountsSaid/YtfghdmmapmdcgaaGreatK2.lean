import Derived.Test.YtfghdmmapmdcgaaGreatBcD
set_option linter.unusedVariables false
set_option linter.unusedSimpArgs false
set_option linter.defProp false
noncomputable section
namespace Go.Proofs.YtfghdmmapmdcgaaGreat
open Go.Sym Go.Sym.KP
def k116 : K :=
 l oL [x 0,i 0]<|
 b (x 1) (l (.conv .u64) [x 0]<|
 l (.un .neg) [x 2]<|
.ret [x 3])<|
 l (.conv .u64) [x 0]<|
.ret [x 2]
def h116 : List Hint := [.no]
theorem q116 : symF D0 100000 116 h116 = some k116 := by kernel_rfl
def k117_1 : K :=
.ret [x 20,i 0]
def k117 : K :=
 l (.shape 2) [x 0]<|
 l (.shape 2) [x 1]<|
 c 210 [x 2,x 3]<|
 l oN [x 4,i 0]<|
 b (x 5) (.ret [i 0,x 4])<|
 l (.cell 0) [x 2]<|
 l oL [x 6,i 0]<|
 l (.cell 0) [x 3]<|
 l oL [x 8,i 0]<|
 l (.bbin .neq) [x 7,x 9]<|
 b (x 10) (l (.cell 0) [x 2]<|
 l (.cell 0) [x 3]<|
 c 211 [x 11,x 12]<|
.ret [x 13,i 0])<|
 l (.cell 0) [x 2]<|
 l (.cell 1) [x 3]<|
 c 213 [x 11,x 12]<|
 l (.cell 0) [x 3]<|
 l (.cell 1) [x 2]<|
 c 213 [x 14,x 15]<|
 c 212 [x 13,x 16]<|
 l (.cell 0) [x 2]<|
 l oL [x 18,i 0]<|
.jp k117_1<|
 b (x 19) (l (.un .neg) [x 17]<|
 j 0 [x 20])<|
 j 0 [x 17]
def h117 : List Hint := [.no,.no,(.j ⟨1,[(4,(wi 0)),(5,(wi 0)),(7,(w 20))],[],0⟩)]
theorem q117 : symF D0 100000 117 h117 = some k117 := by kernel_rfl
def k120_1 : K :=
 l (.app 8 1) [.c (.sl []),i 0,x 0]<|
 l .len [x 3]<|
 l .sub [x 3,i 0,x 4]<|
.ret [x 5]
def k120 : K :=
 l .len [x 0]<|
 l oE [x 1,i 0]<|
.jp k120_1<|
 b (x 2) (.amb (.ret [.c (.sl [])])<|
 j 0 [])<|
 j 0 []
def h120 : List Hint := [(.j ⟨0,[(0,(w 0)),(2,(.w (.c .nil)))],[],0⟩)]
theorem q120 : symF D0 100000 120 h120 = some k120 := by kernel_rfl
def k123_1 : K :=
 l .sub [x 10,i 0,x 11]<|
.ret [x 7,x 12]
def k123_2 : K :=
 l oA [x 12,i 1]<|
 j 1 [x 14,x 15,x 27]
def k123_3 : K :=
 j 2 [x 35,x 36,x 14,x 15,x 16,x 17,x 18,x 24,x 25,x 26,x 32,x 33,x 34]
def k123_4 : K :=
.jp k123_3<|
 b (x 34) (l oA [x 24,x 32]<|
 l oS [x 35,x 16]<|
 l .agg [x 36,x 16]<|
 l (.bs 1 [z,z] [0]) [x 37]<|
 l .sub [x 38,i 0,i 1]<|
 l (.app 16 2) [x 10,x 11,x 39]<|
 l .len [x 40]<|
 j 3 [x 40,x 41])<|
 j 3 [x 10,x 11]
def k123_5 : K :=
 j 2 [x 38,x 39,x 14,x 15,x 16,x 17,x 18,x 24,x 25,x 26,x 35,x 36,x 37]
def k123_6 : K :=
.jp k123_5<|
 b (x 37) (l oA [x 24,x 35]<|
 l oS [x 38,x 16]<|
 l .agg [x 39,x 16]<|
 l (.bs 1 [z,z] [0]) [x 40]<|
 l .sub [x 41,i 0,i 1]<|
 l (.app 16 2) [x 10,x 11,x 42]<|
 l .len [x 43]<|
 j 3 [x 43,x 44])<|
 j 3 [x 10,x 11]
def k123_7 : K :=
 j 2 [x 38,x 39,x 14,x 15,x 16,x 17,x 18,x 27,x 28,x 29,x 35,x 36,x 37]
def k123_8 : K :=
.jp k123_7<|
 b (x 37) (l oA [x 27,x 35]<|
 l oS [x 38,x 16]<|
 l .agg [x 39,x 16]<|
 l (.bs 1 [z,z] [0]) [x 40]<|
 l .sub [x 41,i 0,i 1]<|
 l (.app 16 2) [x 10,x 11,x 42]<|
 l .len [x 43]<|
 j 3 [x 43,x 44])<|
 j 3 [x 10,x 11]
def k123_9 : K :=
 j 2 [x 41,x 42,x 14,x 15,x 16,x 17,x 18,x 27,x 28,x 29,x 38,x 39,x 40]
def k123_10 : K :=
.jp k123_9<|
 b (x 40) (l oA [x 27,x 38]<|
 l oS [x 41,x 16]<|
 l .agg [x 42,x 16]<|
 l (.bs 1 [z,z] [0]) [x 43]<|
 l .sub [x 44,i 0,i 1]<|
 l (.app 16 2) [x 10,x 11,x 45]<|
 l .len [x 46]<|
 j 3 [x 46,x 47])<|
 j 3 [x 10,x 11]
def k123_11 : K :=
 l oL [x 12,x 9]<|
 b (x 13) (.jp k123_2<|
 l (.cell 1) [x 7]<|
 l (.tix 1) [x 14,x 12]<|
 l (.elt 0 0) [x 14,x 15]<|
 l oM [i 2,x 12]<|
 l oA [x 17,i 1]<|
 l (.cell 1) [x 7]<|
 l .len [x 19]<|
 l oL [x 18,x 20]<|
 b (x 21) (l (.cell 1) [x 7]<|
 l (.tix 1) [x 22,x 18]<|
 l (.elt 0 0) [x 22,x 23]<|
 l oM [i 2,x 12]<|
 l oA [x 25,i 2]<|
 l (.cell 1) [x 7]<|
 l .len [x 27]<|
 l oL [x 26,x 28]<|
 b (x 29) (l (.cell 1) [x 7]<|
 l (.tix 1) [x 30,x 26]<|
 l (.elt 0 0) [x 30,x 31]<|
.jp k123_4<|
 l oH [x 24,i 0]<|
 b (x 33) (l oH [x 32,i 0]<|
 j 3 [x 33,x 34])<|
 j 3 [x 33,.c (.v (.bool false))])<|
 l (.cell 1) [x 7]<|
 l .len [x 30]<|
 l oS [x 26,x 31]<|
 l (.cell 0) [x 7]<|
 l (.tix 1) [x 33,x 32]<|
 l (.elt 0 0) [x 33,x 34]<|
.jp k123_6<|
 l oH [x 24,i 0]<|
 b (x 36) (l oH [x 35,i 0]<|
 j 3 [x 36,x 37])<|
 j 3 [x 36,.c (.v (.bool false))])<|
 l (.cell 1) [x 7]<|
 l .len [x 22]<|
 l oS [x 18,x 23]<|
 l (.cell 0) [x 7]<|
 l (.tix 1) [x 25,x 24]<|
 l (.elt 0 0) [x 25,x 26]<|
 l oM [i 2,x 12]<|
 l oA [x 28,i 2]<|
 l (.cell 1) [x 7]<|
 l .len [x 30]<|
 l oL [x 29,x 31]<|
 b (x 32) (l (.cell 1) [x 7]<|
 l (.tix 1) [x 33,x 29]<|
 l (.elt 0 0) [x 33,x 34]<|
.jp k123_8<|
 l oH [x 27,i 0]<|
 b (x 36) (l oH [x 35,i 0]<|
 j 3 [x 36,x 37])<|
 j 3 [x 36,.c (.v (.bool false))])<|
 l (.cell 1) [x 7]<|
 l .len [x 33]<|
 l oS [x 29,x 34]<|
 l (.cell 0) [x 7]<|
 l (.tix 1) [x 36,x 35]<|
 l (.elt 0 0) [x 36,x 37]<|
.jp k123_10<|
 l oH [x 27,i 0]<|
 b (x 39) (l oH [x 38,i 0]<|
 j 3 [x 39,x 40])<|
 j 3 [x 39,.c (.v (.bool false))])<|
 j 0 [x 10,x 11]
def k123 : K :=
 l (.shape 1) [x 0]<|
 l (.shape 2) [x 1]<|
 c 218 [x 3,x 4,x 2]<|
 l (.shape 2) [x 5]<|
 l (.cell 1) [x 7]<|
 l .len [x 8]<|
.jp k123_1<|
.loop k123_11<|
 j 1 [.c (.sl []),i 0,i 0]
def h123 : List Hint := [(.j ⟨2,[(11,(.w (.c (o 0 11)))),(8,(p 1 0)),(7,(.w (.c .nil))),(6,(p 2 0))],[(0,(.lst (x 10) (x 11) 2 false)),(1,(.box [(r 7 0),(r 7 1)])),(2,(.box [.nil,.nil]))],3⟩),(.j ⟨3,[(6,(p 0 0)),(7,(.w (.c .nil))),(8,(p 1 0)),(10,(.w (.c (.fn 219 [] [(.ptr 1 0)])))),(11,(.w (.c (o 2 11)))),(25,(.w (.c (r 7 1)))),(26,(w 9)),(27,(w 12))],[(0,(.box [.nil,.nil])),(1,(.box [(r 7 0),(r 7 1)])),(2,(.lst (x 10) (x 11) 2 false))],3⟩),.no,(.j ⟨13,[(11,(.w (.c (o 0 15)))),(27,(w 12)),(26,(w 9)),(25,(.w (.c (r 7 1)))),(10,(.w (.c (.fn 219 [] [(.ptr 1 0)])))),(8,(p 1 0)),(7,(.w (.c .nil))),(6,(p 2 0)),(28,(w 13)),(29,(w 12)),(30,(.w (.c (.tp (x 16) (x 17) 0)))),(31,(w 18)),(12,(w 12)),(13,(w 18)),(32,(.w (.c (.fn 219 [] [(.ptr 1 0)])))),(33,(w 12)),(34,(w 19)),(35,(w 20)),(36,(w 21)),(37,(.w (.c (.fn 219 [] [(.ptr 1 0)])))),(38,(w 12)),(39,(w 22)),(40,(w 23)),(41,(w 24)),(14,(w 21)),(15,(w 24)),(42,(w 21)),(43,(w 25)),(44,(w 25)),(47,(w 26))],[(0,(.lst (x 14) (x 15) 2 false)),(1,(.box [(r 7 0),(r 7 1)])),(2,(.box [.nil,.nil]))],3⟩),.no,.no,(.j ⟨2,[(27,(w 12)),(26,(w 9)),(25,(.w (.c (r 7 1)))),(11,(.w (.c (o 0 11)))),(10,(.w (.c (.fn 219 [] [(.ptr 1 0)])))),(8,(p 1 0)),(7,(.w (.c .nil))),(6,(p 2 0)),(28,(w 13)),(29,(w 12)),(30,(.w (.c (.tp (x 14) (x 15) 0)))),(31,(w 16)),(12,(w 12)),(13,(w 16)),(32,(.w (.c (.fn 219 [] [(.ptr 1 0)])))),(33,(w 12)),(34,(w 17)),(35,(w 18)),(36,(w 24)),(37,(.w (.c (.fn 219 [] [(.ptr 1 0)])))),(38,(w 12)),(39,(w 25)),(40,(w 26)),(41,(w 32)),(14,(w 24)),(15,(w 32)),(42,(w 24)),(43,(w 33)),(44,(w 33)),(47,(w 34))],[(0,(.lst (x 10) (x 11) 2 false)),(1,(.box [(r 7 0),(r 7 1)])),(2,(.box [.nil,.nil]))],3⟩),(.j ⟨2,[(47,(w 34)),(44,(w 33)),(43,(w 33)),(42,(w 24)),(15,(w 32)),(14,(w 24)),(41,(w 32)),(40,(w 26)),(39,(w 25)),(38,(w 12)),(37,(.w (.c (.fn 219 [] [(.ptr 0 0)])))),(36,(w 24)),(35,(w 18)),(34,(w 17)),(33,(w 12)),(32,(.w (.c (.fn 219 [] [(.ptr 0 0)])))),(13,(w 16)),(12,(w 12)),(31,(w 16)),(30,(.w (.c (.tp (x 14) (x 15) 0)))),(29,(w 12)),(28,(w 13)),(6,(p 1 0)),(7,(.w (.c .nil))),(8,(p 0 0)),(10,(.w (.c (.fn 219 [] [(.ptr 0 0)])))),(25,(.w (.c (r 7 1)))),(26,(w 9)),(27,(w 12)),(11,(.w (.c (o 2 36))))],[(0,(.box [(r 7 0),(r 7 1)])),(1,(.box [.nil,.nil])),(2,(.lst (x 35) (x 36) 2 false))],3⟩),(.j ⟨2,[(27,(w 12)),(26,(w 9)),(25,(.w (.c (r 7 1)))),(11,(.w (.c (o 0 11)))),(10,(.w (.c (.fn 219 [] [(.ptr 1 0)])))),(8,(p 1 0)),(7,(.w (.c .nil))),(6,(p 2 0)),(28,(w 13)),(29,(w 12)),(30,(.w (.c (.tp (x 14) (x 15) 0)))),(31,(w 16)),(12,(w 12)),(13,(w 16)),(32,(.w (.c (.fn 219 [] [(.ptr 1 0)])))),(33,(w 12)),(34,(w 17)),(35,(w 18)),(36,(w 24)),(37,(.w (.c (.fn 219 [] [(.ptr 1 0)])))),(38,(w 12)),(39,(w 25)),(40,(w 26)),(41,(w 35)),(14,(w 24)),(15,(w 35)),(42,(w 24)),(43,(w 36)),(44,(w 36)),(47,(w 37))],[(0,(.lst (x 10) (x 11) 2 false)),(1,(.box [(r 7 0),(r 7 1)])),(2,(.box [.nil,.nil]))],3⟩),(.j ⟨2,[(47,(w 37)),(44,(w 36)),(43,(w 36)),(42,(w 24)),(15,(w 35)),(14,(w 24)),(41,(w 35)),(40,(w 26)),(39,(w 25)),(38,(w 12)),(37,(.w (.c (.fn 219 [] [(.ptr 0 0)])))),(36,(w 24)),(35,(w 18)),(34,(w 17)),(33,(w 12)),(32,(.w (.c (.fn 219 [] [(.ptr 0 0)])))),(13,(w 16)),(12,(w 12)),(31,(w 16)),(30,(.w (.c (.tp (x 14) (x 15) 0)))),(29,(w 12)),(28,(w 13)),(6,(p 1 0)),(7,(.w (.c .nil))),(8,(p 0 0)),(10,(.w (.c (.fn 219 [] [(.ptr 0 0)])))),(25,(.w (.c (r 7 1)))),(26,(w 9)),(27,(w 12)),(11,(.w (.c (o 2 39))))],[(0,(.box [(r 7 0),(r 7 1)])),(1,(.box [.nil,.nil])),(2,(.lst (x 38) (x 39) 2 false))],3⟩),.no,(.j ⟨2,[(27,(w 12)),(26,(w 9)),(25,(.w (.c (r 7 1)))),(11,(.w (.c (o 0 11)))),(10,(.w (.c (.fn 219 [] [(.ptr 1 0)])))),(8,(p 1 0)),(7,(.w (.c .nil))),(6,(p 2 0)),(28,(w 13)),(29,(w 12)),(30,(.w (.c (.tp (x 14) (x 15) 0)))),(31,(w 16)),(12,(w 12)),(13,(w 16)),(32,(.w (.c (.fn 219 [] [(.ptr 1 0)])))),(33,(w 12)),(34,(w 17)),(35,(w 18)),(36,(w 27)),(37,(.w (.c (.fn 219 [] [(.ptr 1 0)])))),(38,(w 12)),(39,(w 28)),(40,(w 29)),(41,(w 35)),(14,(w 27)),(15,(w 35)),(42,(w 27)),(43,(w 36)),(44,(w 36)),(47,(w 37))],[(0,(.lst (x 10) (x 11) 2 false)),(1,(.box [(r 7 0),(r 7 1)])),(2,(.box [.nil,.nil]))],3⟩),(.j ⟨2,[(47,(w 37)),(44,(w 36)),(43,(w 36)),(42,(w 27)),(15,(w 35)),(14,(w 27)),(41,(w 35)),(40,(w 29)),(39,(w 28)),(38,(w 12)),(37,(.w (.c (.fn 219 [] [(.ptr 0 0)])))),(36,(w 27)),(35,(w 18)),(34,(w 17)),(33,(w 12)),(32,(.w (.c (.fn 219 [] [(.ptr 0 0)])))),(13,(w 16)),(12,(w 12)),(31,(w 16)),(30,(.w (.c (.tp (x 14) (x 15) 0)))),(29,(w 12)),(28,(w 13)),(6,(p 1 0)),(7,(.w (.c .nil))),(8,(p 0 0)),(10,(.w (.c (.fn 219 [] [(.ptr 0 0)])))),(25,(.w (.c (r 7 1)))),(26,(w 9)),(27,(w 12)),(11,(.w (.c (o 2 39))))],[(0,(.box [(r 7 0),(r 7 1)])),(1,(.box [.nil,.nil])),(2,(.lst (x 38) (x 39) 2 false))],3⟩),(.j ⟨2,[(27,(w 12)),(26,(w 9)),(25,(.w (.c (r 7 1)))),(11,(.w (.c (o 0 11)))),(10,(.w (.c (.fn 219 [] [(.ptr 1 0)])))),(8,(p 1 0)),(7,(.w (.c .nil))),(6,(p 2 0)),(28,(w 13)),(29,(w 12)),(30,(.w (.c (.tp (x 14) (x 15) 0)))),(31,(w 16)),(12,(w 12)),(13,(w 16)),(32,(.w (.c (.fn 219 [] [(.ptr 1 0)])))),(33,(w 12)),(34,(w 17)),(35,(w 18)),(36,(w 27)),(37,(.w (.c (.fn 219 [] [(.ptr 1 0)])))),(38,(w 12)),(39,(w 28)),(40,(w 29)),(41,(w 38)),(14,(w 27)),(15,(w 38)),(42,(w 27)),(43,(w 39)),(44,(w 39)),(47,(w 40))],[(0,(.lst (x 10) (x 11) 2 false)),(1,(.box [(r 7 0),(r 7 1)])),(2,(.box [.nil,.nil]))],3⟩),(.j ⟨2,[(47,(w 40)),(44,(w 39)),(43,(w 39)),(42,(w 27)),(15,(w 38)),(14,(w 27)),(41,(w 38)),(40,(w 29)),(39,(w 28)),(38,(w 12)),(37,(.w (.c (.fn 219 [] [(.ptr 0 0)])))),(36,(w 27)),(35,(w 18)),(34,(w 17)),(33,(w 12)),(32,(.w (.c (.fn 219 [] [(.ptr 0 0)])))),(13,(w 16)),(12,(w 12)),(31,(w 16)),(30,(.w (.c (.tp (x 14) (x 15) 0)))),(29,(w 12)),(28,(w 13)),(6,(p 1 0)),(7,(.w (.c .nil))),(8,(p 0 0)),(10,(.w (.c (.fn 219 [] [(.ptr 0 0)])))),(25,(.w (.c (r 7 1)))),(26,(w 9)),(27,(w 12)),(11,(.w (.c (o 2 42))))],[(0,(.box [(r 7 0),(r 7 1)])),(1,(.box [.nil,.nil])),(2,(.lst (x 41) (x 42) 2 false))],3⟩)]
theorem q123 : symF D0 100000 123 h123 = some k123 := by kernel_rfl
def k125_1 : K :=
 l .sub [x 17,i 0,x 18]<|
.ret [x 6,x 19]
def k125_2 : K :=
 l oA [x 19,i 1]<|
 j 1 [x 27,x 28,x 29]
def k125_3 : K :=
 l oL [x 19,x 16]<|
 b (x 20) (l (.cell 1) [x 6]<|
 l (.tix 3) [x 21,x 19]<|
 l (.elt 0 3) [x 21,x 22]<|
 l .ix [x 19,x 10]<|
 l (.elt 0 0) [x 14,x 24]<|
 l oH [x 25,i 0]<|
.jp k125_2<|
 b (x 26) (l .ix [x 19,x 10]<|
 l (.elt 0 0) [x 14,x 27]<|
 l (.cell 1) [x 6]<|
 l (.tix 3) [x 29,x 28]<|
 l (.elt 0 0) [x 29,x 30]<|
 l (.cell 0) [x 23]<|
 l .agg [x 32,x 31]<|
 l (.bs 1 [z,z] [0]) [x 33]<|
 l .sub [x 34,i 0,i 1]<|
 l (.app 16 2) [x 17,x 18,x 35]<|
 l .len [x 36]<|
 j 2 [x 36,x 37])<|
 j 2 [x 17,x 18])<|
 j 0 [x 17,x 18]
def k125_4 : K :=
 l (.cell 1) [x 6]<|
 l .len [x 15]<|
.jp k125_1<|
.loop k125_3<|
 j 1 [.c (.sl []),i 0,i 0]
def k125_5 : K :=
 l oA [x 15,i 1]<|
 j 1 [x 22,x 24]
def k125_6 : K :=
 l oA [x 22,i 1]<|
 j 3 [x 26,x 27]
def k125_7 : K :=
 l oL [x 22,i 2]<|
 b (x 23) (l (.aix 1 2 0) [x 20,x 22]<|
 l oH [x 24,i 0]<|
.jp k125_6<|
 b (x 25) (l .ix [x 24,x 10]<|
 l (.set 0) [x 21,x 26,x 15]<|
 j 4 [x 27])<|
 j 4 [x 21])<|
 j 2 [x 22,x 21,x 23]
def k125_8 : K :=
 l oL [x 15,x 13]<|
 b (x 16) (l (.cell 1) [x 6]<|
 l (.tix 3) [x 17,x 15]<|
 l (.elt 0 3) [x 17,x 18]<|
 l (.part 1 2) [x 19]<|
.jp k125_5<|
.loop k125_7<|
 j 3 [x 14,i 0])<|
 j 0 [x 14]
def k125_9 : K :=
 l (.cell 1) [x 6]<|
 l .len [x 12]<|
.jp k125_4<|
.loop k125_8<|
 j 1 [x 11,i 0]
def k125_10 : K :=
 l oL [x 12,x 10]<|
 b (x 13) (l .ix [x 12,x 10]<|
 l (.set 0) [x 11,x 14,i (-1)]<|
 l oA [x 12,i 1]<|
 j 1 [x 15,x 16])<|
 j 0 [x 11]
def k125 : K :=
 l (.shape 1) [x 0]<|
 l (.shape 2) [x 1]<|
 c 220 [x 2,x 3]<|
 l (.shape 2) [x 4]<|
 l (.cell 1) [x 6]<|
 l .len [x 7]<|
 l (.rep [z] 8) [x 8,x 8]<|
 l .len [x 9]<|
.jp k125_9<|
.loop k125_10<|
 j 1 [x 9,i 0]
def h125 : List Hint := [(.j ⟨1,[(8,(.w (.c (o 0 10)))),(6,(p 1 0)),(5,(.w (.c .nil))),(4,(p 2 0))],[(0,(.lst (x 11) (x 10) 1 false)),(1,(.box [(r 6 0),(r 6 1)])),(2,(.box [(.a (i 0)),.nil]))],3⟩),(.j ⟨2,[(4,(p 0 0)),(5,(.w (.c .nil))),(6,(p 1 0)),(8,(.w (.c (o 2 10)))),(28,(w 10)),(29,(w 12))],[(0,(.box [(.a (i 0)),.nil])),(1,(.box [(r 6 0),(r 6 1)])),(2,(.lst (x 11) (x 10) 1 false))],3⟩),.no,.no,(.j ⟨1,[(8,(.w (.c (o 0 10)))),(6,(p 1 0)),(5,(.w (.c .nil))),(4,(p 2 0))],[(0,(.lst (x 14) (x 10) 1 false)),(1,(.box [(r 6 0),(r 6 1)])),(2,(.box [(.a (i 0)),.nil]))],3⟩),(.j ⟨2,[(4,(p 0 0)),(5,(.w (.c .nil))),(6,(p 1 0)),(8,(.w (.c (o 2 10)))),(37,(.w (.c (r 6 1)))),(38,(w 13)),(39,(w 15))],[(0,(.box [(.a (i 0)),.nil])),(1,(.box [(r 6 0),(r 6 1)])),(2,(.lst (x 14) (x 10) 1 false))],3⟩),.no,.no,(.j ⟨3,[(49,(w 21)),(48,(v 20)),(47,(.w (.c (r 19 2)))),(46,(p 0 2)),(45,(.w (.c (r 19 1)))),(44,(p 0 1)),(10,(w 15)),(11,(p 0 0)),(43,(v 19)),(42,(.w (.c (.tp (x 17) (x 18) 0)))),(41,(w 15)),(40,(w 16)),(4,(p 1 0)),(5,(.w (.c .nil))),(6,(p 2 0)),(8,(.w (.c (o 3 10)))),(37,(.w (.c (r 6 1)))),(38,(w 13)),(39,(w 15)),(50,(w 23))],[(0,(.box (pcs (x 19) 0 3))),(1,(.box [(.a (i 0)),.nil])),(2,(.box [(r 6 0),(r 6 1)])),(3,(.lst (x 22) (x 10) 1 false))],4⟩),(.j ⟨2,[(39,(w 15)),(38,(w 13)),(37,(.w (.c (r 6 1)))),(8,(.w (.c (o 0 10)))),(6,(p 1 0)),(5,(.w (.c .nil))),(4,(p 2 0)),(40,(w 16)),(41,(w 15)),(42,(.w (.c (.tp (x 17) (x 18) 0)))),(43,(v 19)),(11,(p 3 0)),(10,(w 15)),(44,(p 3 1)),(45,(.w (.c (r 19 1)))),(46,(p 3 2)),(47,(.w (.c (r 19 2)))),(48,(v 20)),(49,(w 22))],[(0,(.lst (x 21) (x 10) 1 false)),(1,(.box [(r 6 0),(r 6 1)])),(2,(.box [(.a (i 0)),.nil])),(3,(.box (pcs (x 19) 0 3)))],4⟩),.no,.no,(.j ⟨1,[(49,(w 22)),(48,(v 20)),(47,(.w (.c (r 19 2)))),(46,(p 0 2)),(45,(.w (.c (r 19 1)))),(44,(p 0 1)),(10,(w 15)),(11,(p 0 0)),(43,(v 19)),(42,(.w (.c (.tp (x 17) (x 18) 0)))),(41,(w 15)),(40,(w 16)),(4,(p 1 0)),(5,(.w (.c .nil))),(6,(p 2 0)),(8,(.w (.c (o 3 10)))),(37,(.w (.c (r 6 1)))),(38,(w 13)),(39,(w 15)),(50,(w 23)),(51,(w 24)),(13,(w 24)),(52,(w 24)),(53,(w 25))],[(0,(.box (pcs (x 19) 0 3))),(1,(.box [(.a (i 0)),.nil])),(2,(.box [(r 6 0),(r 6 1)])),(3,(.lst (x 26) (x 10) 1 false))],4⟩),(.j ⟨2,[(14,(.w (.c (o 0 18)))),(6,(p 1 0)),(5,(.w (.c .nil))),(4,(p 2 0))],[(0,(.lst (x 17) (x 18) 2 false)),(1,(.box [(r 6 0),(r 6 1)])),(2,(.box [(.a (i 0)),.nil]))],3⟩),(.j ⟨3,[(4,(p 0 0)),(5,(.w (.c .nil))),(6,(p 1 0)),(8,(.w (.c (o 2 10)))),(14,(.w (.c (o 3 18)))),(61,(.w (.c (r 6 1)))),(62,(w 16)),(63,(w 19))],[(0,(.box [(.a (i 0)),.nil])),(1,(.box [(r 6 0),(r 6 1)])),(2,(.lst (x 14) (x 10) 1 false)),(3,(.lst (x 17) (x 18) 2 false))],4⟩),.no,.no,(.j ⟨2,[(63,(w 19)),(62,(w 16)),(61,(.w (.c (r 6 1)))),(8,(.w (.c (o 0 10)))),(6,(p 1 0)),(5,(.w (.c .nil))),(4,(p 2 0)),(64,(w 20)),(65,(w 19)),(66,(.w (.c (.tp (x 21) (x 22) 0)))),(67,(v 23)),(16,(p 3 0)),(15,(w 19)),(68,(.w (.c (o 0 10)))),(69,(w 19)),(70,(.w (.c (.ep 0 (x 24) 0)))),(71,(w 25)),(72,(w 26)),(14,(.w (.c (o 4 28))))],[(0,(.lst (x 14) (x 10) 1 false)),(1,(.box [(r 6 0),(r 6 1)])),(2,(.box [(.a (i 0)),.nil])),(3,(.box (pcs (x 23) 0 3))),(4,(.lst (x 27) (x 28) 2 false))],5⟩)]
theorem q125 : symF D0 100000 125 h125 = some k125 := by kernel_rfl
def k127_1 : K :=
 l .sub [x 10,i 0,x 11]<|
 l .sub [x 8,i 0,x 9]<|
.ret [x 12,x 13]
def k127_2 : K :=
 l oA [x 12,i 1]<|
 j 1 [x 21,x 22,x 26,x 27,x 28]
def k127_3 : K :=
 l oL [x 12,x 7]<|
 b (x 13) (l (.cell 0) [x 2]<|
 l (.tix 3) [x 14,x 12]<|
 l (.elt 0 3) [x 14,x 15]<|
 l (.cell 0) [x 16]<|
 l (.mget [.i] [z]) [x 5,x 17]<|
 l (.bs 1 [z] [0]) [x 18]<|
 l .sub [x 19,i 0,i 1]<|
 l (.app 8 1) [x 8,x 9,x 20]<|
 l .len [x 21]<|
 l (.cell 0) [x 16]<|
 l (.mget [.i] [z]) [x 5,x 23]<|
 l oH [x 24,i 0]<|
.jp k127_2<|
 b (x 25) (l (.cell 0) [x 16]<|
 l (.mget [.i] [z]) [x 5,x 26]<|
 l (.cell 0) [x 16]<|
 l .agg [x 28,x 27]<|
 l (.bs 1 [z,z] [0]) [x 29]<|
 l .sub [x 30,i 0,i 1]<|
 l (.app 16 2) [x 10,x 11,x 31]<|
 l .len [x 32]<|
 j 2 [x 32,x 33])<|
 j 2 [x 10,x 11])<|
 j 0 [x 10,x 11,x 8,x 9]
def k127 : K :=
 l (.shape 1) [x 0]<|
 l (.shape 2) [x 1]<|
 l (.cell 0) [x 2]<|
 c 221 [x 4,x 3,i (-1),i 0,.c (.sl []),.c (.sl [])]<|
 l (.cell 0) [x 2]<|
 l .len [x 6]<|
.jp k127_1<|
.loop k127_3<|
 j 1 [.c (.sl []),i 0,.c (.sl []),i 0,i 0]
def h127 : List Hint := [(.j ⟨4,[(8,(.w (.c (o 0 9)))),(7,(.w (.c (o 1 11)))),(5,(.w (.c .nil))),(4,(.w (.c .nil)))],[(0,(.lst (x 8) (x 9) 2 false)),(1,(.lst (x 10) (x 11) 1 false))],2⟩),(.j ⟨5,[(4,(.w (.c .nil))),(5,(.w (.c .nil))),(6,(.w (.c (.mp 0)))),(7,(.w (.c (o 1 9)))),(8,(.w (.c (o 2 11)))),(18,(.w (.c (r 2 0)))),(19,(w 7)),(20,(w 12))],[(0,(.map (x 5) false 1 false)),(1,(.lst (x 8) (x 9) 1 false)),(2,(.lst (x 10) (x 11) 2 false))],3⟩),.no,.no,(.j ⟨2,[(20,(w 12)),(19,(w 7)),(18,(.w (.c (r 2 0)))),(6,(.w (.c (.mp 0)))),(5,(.w (.c .nil))),(4,(.w (.c .nil))),(21,(w 13)),(22,(.w (.c (.tp (x 14) (x 15) 0)))),(23,(v 16)),(10,(p 1 0)),(25,(.w (.c (.mp 0)))),(26,(p 1 0)),(27,(.w (.c (r 16 0)))),(28,(w 18)),(29,(.w (.c (.lsl 2 (i 0) (i 1))))),(30,(.w (.c (o 3 22)))),(7,(.w (.c (o 3 22)))),(31,(.w (.c (.mp 0)))),(32,(p 1 0)),(33,(.w (.c (r 16 0)))),(34,(w 24)),(35,(w 25)),(8,(.w (.c (o 4 27))))],[(0,(.map (x 5) false 1 false)),(1,(.box (pcs (x 16) 0 3))),(2,(.lst (x 19) (i 1) 1 false)),(3,(.lst (x 21) (x 22) 1 false)),(4,(.lst (x 26) (x 27) 2 false))],5⟩)]
theorem q127 : symF D0 100000 127 h127 = some k127 := by kernel_rfl
def k128 : K :=
 l (.shape 2) [x 0]<|
 l (.cell 1) [x 1]<|
 l oL [x 2,i 1]<|
 b (x 3) (.ret [i 8])<|
 l (.cell 0) [x 1]<|
 l oE [x 4,i (-9223372036854775808)]<|
 b (x 5) (.ret [i 8])<|
 l (.cell 0) [x 1]<|
 c 223 [x 6]<|
 l (.cell 1) [x 1]<|
 l (.conv .u64) [x 8]<|
 c 222 [x 7,x 9]<|
 l oN [x 10,.c (.v (.int .u64 1))]<|
 b (x 11) (.ret [i 8])<|
.ret [i 0]
def h128 : List Hint := [.no,.no]
theorem q128 : symF D0 100000 128 h128 = some k128 := by kernel_rfl
def k134_1 : K :=
.ret [.c (.v (.bool true))]
def k134_2 : K :=
 l (.cell 10) [x 2]<|
 l .len [x 26]<|
 l oL [x 25,x 27]<|
 b (x 28) (l (.cell 10) [x 2]<|
 l (.tix 3) [x 29,x 25]<|
 l (.elt 0 3) [x 29,x 30]<|
 l (.cell 10) [x 3]<|
 l (.tix 3) [x 32,x 25]<|
 l (.elt 0 3) [x 32,x 33]<|
 l (.eqv [.i,.i,.i]) [x 31,x 34]<|
 l (.un .not) [x 35]<|
 b (x 36) (.ret [.c (.v (.bool false))])<|
 l oA [x 25,i 1]<|
 j 1 [x 37])<|
 j 0 []
def k134 : K :=
 l (.shape 11) [x 0]<|
 l (.shape 11) [x 1]<|
 l (.part 0 2) [x 2]<|
 l (.part 0 2) [x 3]<|
 l (.eqv [.i,.i]) [x 4,x 5]<|
 l (.un .not) [x 6]<|
 b (x 7) (.ret [.c (.v (.bool false))])<|
 l (.part 2 1) [x 2]<|
 l (.part 2 1) [x 3]<|
 c 28 [x 8,x 9]<|
 l (.un .not) [x 10]<|
 b (x 11) (.ret [.c (.v (.bool false))])<|
 l (.part 3 2) [x 2]<|
 l (.part 3 2) [x 3]<|
 c 229 [x 12,x 13]<|
 l (.un .not) [x 14]<|
 b (x 15) (.ret [.c (.v (.bool false))])<|
 l (.part 5 5) [x 2]<|
 l (.part 5 5) [x 3]<|
 c 230 [x 16,x 17]<|
 l (.un .not) [x 18]<|
 b (x 19) (.ret [.c (.v (.bool false))])<|
 l (.cell 10) [x 2]<|
 l .len [x 20]<|
 l (.cell 10) [x 3]<|
 l .len [x 22]<|
 l oN [x 21,x 23]<|
 b (x 24) (.ret [.c (.v (.bool false))])<|
.jp k134_1<|
.loop k134_2<|
 j 1 [i 0]
def h134 : List Hint := [.no,.no,(.j ⟨0,[(4,(.w (.c (.a (.c (.v (.bool false)))))))],[],0⟩),(.j ⟨1,[(2,(p 0 0)),(3,(p 1 0)),(4,(.w (.c (.a (.c (.v (.bool false))))))),(5,(w 25))],[(0,(.box (pcs (x 2) 0 11))),(1,(.box (pcs (x 3) 0 11)))],2⟩),.no,.no,.no]
theorem q134 : symF D0 100000 134 h134 = some k134 := by kernel_rfl
def k135_1 : K :=
.ret [.c (.v (.bool true))]
def k135_2 : K :=
 l .len [x 0]<|
 l oL [x 5,x 6]<|
 b (x 7) (l (.tix 1) [x 0,x 5]<|
 l (.elt 0 0) [x 0,x 8]<|
 l (.tix 1) [x 1,x 5]<|
 l (.elt 0 0) [x 1,x 10]<|
 l oN [x 9,x 11]<|
 b (x 12) (.ret [.c (.v (.bool false))])<|
 l oA [x 5,i 1]<|
 j 1 [x 13])<|
 j 0 []
def k135 : K :=
 l .len [x 0]<|
 l .len [x 1]<|
 l oN [x 2,x 3]<|
 b (x 4) (.ret [.c (.v (.bool false))])<|
.jp k135_1<|
.loop k135_2<|
 j 1 [i 0]
def h135 : List Hint := [.no,(.j ⟨0,[(4,(.w (.c (.a (.c (.v (.bool false)))))))],[],0⟩),(.j ⟨1,[(1,(w 1)),(0,(w 0)),(4,(.w (.c (.a (.c (.v (.bool false))))))),(5,(w 5))],[],0⟩),.no,.no,.no]
theorem q135 : symF D0 100000 135 h135 = some k135 := by kernel_rfl
def k136_1 : K :=
.ret [x 4]
def k136 : K :=
 l (.shape 2) [x 0]<|
 l (.shape 2) [x 1]<|
.jp k136_1<|
 l (.cell 0) [x 2]<|
 l (.cell 0) [x 3]<|
 c 135 [x 4,x 5]<|
 b (x 6) (l (.cell 1) [x 2]<|
 l (.cell 1) [x 3]<|
 c 135 [x 7,x 8]<|
 j 0 [x 9])<|
 j 0 [.c (.v (.bool false))]
def h136 : List Hint := [(.j ⟨1,[(4,(w 4))],[],0⟩)]
theorem q136 : symF D0 100000 136 h136 = some k136 := by kernel_rfl
def k137_1 : K :=
.ret [.c (.v (.bool true))]
def k137_2 : K :=
 l (.cell 1) [x 2]<|
 l .len [x 13]<|
 l oL [x 12,x 14]<|
 b (x 15) (l (.cell 1) [x 2]<|
 l (.tix 3) [x 16,x 12]<|
 l (.elt 0 3) [x 16,x 17]<|
 l (.cell 1) [x 3]<|
 l (.tix 3) [x 19,x 12]<|
 l (.elt 0 3) [x 19,x 20]<|
 l (.eqv [.i,.i,.i]) [x 18,x 21]<|
 l (.un .not) [x 22]<|
 b (x 23) (.ret [.c (.v (.bool false))])<|
 l oA [x 12,i 1]<|
 j 1 [x 24])<|
 j 0 []
def k137 : K :=
 l (.shape 2) [x 0]<|
 l (.shape 2) [x 1]<|
 l (.cell 0) [x 2]<|
 l (.cell 0) [x 3]<|
 l oN [x 4,x 5]<|
 b (x 6) (.ret [.c (.v (.bool false))])<|
 l (.cell 1) [x 2]<|
 l .len [x 7]<|
 l (.cell 1) [x 3]<|
 l .len [x 9]<|
 l oN [x 8,x 10]<|
 b (x 11) (.ret [.c (.v (.bool false))])<|
.jp k137_1<|
.loop k137_2<|
 j 1 [i 0]
def h137 : List Hint := [.no,.no,(.j ⟨0,[(4,(.w (.c (.a (.c (.v (.bool false)))))))],[],0⟩),(.j ⟨1,[(2,(p 0 0)),(3,(p 1 0)),(4,(.w (.c (.a (.c (.v (.bool false))))))),(5,(w 12))],[(0,(.box [(r 2 0),(r 2 1)])),(1,(.box [(r 3 0),(r 3 1)]))],2⟩),.no,.no,.no]
theorem q137 : symF D0 100000 137 h137 = some k137 := by kernel_rfl
def k141_1 : K :=
 l .sub [x 1,i 0,x 2]<|
.ret [x 3]
def k141_2 : K :=
 l .len [x 0]<|
 l oL [x 3,x 4]<|
 b (x 5) (l (.tix 1) [x 0,x 3]<|
 l (.elt 0 0) [x 0,x 6]<|
 l oS [x 3,i 1]<|
 l (.bin .quo) [x 8,i 2]<|
 l (.tix 1) [x 0,x 9]<|
 l (.elt 0 0) [x 0,x 10]<|
 l .agg [x 7,x 11]<|
 l (.bs 1 [z,z] [0]) [x 12]<|
 l .sub [x 13,i 0,i 1]<|
 l (.app 16 2) [x 1,x 2,x 14]<|
 l .len [x 15]<|
 l oA [x 3,i 1]<|
 j 1 [x 15,x 16,x 17])<|
 j 0 [x 1,x 2]
def k141 : K :=
.jp k141_1<|
.loop k141_2<|
 j 1 [.c (.sl []),i 0,i 1]
def h141 : List Hint := [(.j ⟨2,[(3,(.w (.c (o 0 2)))),(2,(.w (.c .nil)))],[(0,(.lst (x 1) (x 2) 2 false))],1⟩),(.j ⟨3,[(0,(w 0)),(2,(.w (.c .nil))),(3,(.w (.c (o 0 2)))),(4,(w 3))],[(0,(.lst (x 1) (x 2) 2 false))],1⟩),.no,.no]
theorem q141 : symF D0 100000 141 h141 = some k141 := by kernel_rfl
end Go.Proofs.YtfghdmmapmdcgaaGreat
namespace Go.Proofs.YtfghdmmapmdcgaaGreat
open Go.Sym Go.Sym.KP
def k143_1 : K :=
.ret [i 0]
def k143_2 : K :=
 l (.cell 0) [x 1]<|
 l .len [x 6]<|
 l oL [x 5,x 7]<|
 b (x 8) (l oS [x 5,i 1]<|
 l (.cell 0) [x 1]<|
 l (.tix 3) [x 10,x 9]<|
 l (.elt 0 0) [x 10,x 11]<|
 l (.cell 0) [x 1]<|
 l (.tix 3) [x 13,x 5]<|
 l (.elt 0 0) [x 13,x 14]<|
 l oH [x 12,x 15]<|
 b (x 16) (.ret [i 32])<|
 l oA [x 5,i 1]<|
 j 1 [x 17])<|
 j 0 []
def k143_3 : K :=
.jp k143_1<|
.loop k143_2<|
 j 1 [i 1]
def k143_4 : K :=
 l (.cell 0) [x 1]<|
 l .len [x 6]<|
 l oL [x 5,x 7]<|
 b (x 8) (l (.cell 0) [x 1]<|
 l (.tix 3) [x 9,x 5]<|
 l (.elt 0 3) [x 9,x 10]<|
 c 239 [x 11]<|
 l oN [x 12,i 0]<|
 b (x 13) (.ret [i 8])<|
 l oA [x 5,i 1]<|
 j 1 [x 14])<|
 j 0 []
def k143 : K :=
 l (.shape 1) [x 0]<|
 l (.cell 0) [x 1]<|
 l .len [x 2]<|
 l oG [x 3,i 64]<|
 b (x 4) (.ret [i 4])<|
.jp k143_3<|
.loop k143_4<|
 j 1 [i 0]
def h143 : List Hint := [.no,(.j ⟨0,[(2,(wi 0)),(1,(p 0 0))],[(0,(.box [(r 1 0)]))],1⟩),(.j ⟨1,[(1,(p 0 0)),(2,(wi 0)),(3,(w 5))],[(0,(.box [(r 1 0)]))],1⟩),.no,.no,.no,(.j ⟨0,[(2,(wi 0))],[],0⟩),(.j ⟨1,[(1,(p 0 0)),(2,(wi 0)),(4,(w 5))],[(0,(.box [(r 1 0)]))],1⟩),.no,.no,.no]
theorem q143 : symF D0 100000 143 h143 = some k143 := by kernel_rfl
def k151_1 : K :=
.ret [i (-1)]
def k151_2 : K :=
 l oL [x 3,x 2]<|
 b (x 4) (l (.tix 1) [x 0,x 3]<|
 l (.elt 0 0) [x 0,x 5]<|
 l oE [x 1,x 6]<|
 b (x 7) (.ret [x 3])<|
 l oA [x 3,i 1]<|
 j 1 [x 8])<|
 j 0 []
def k151 : K :=
 l .len [x 0]<|
.jp k151_1<|
.loop k151_2<|
 j 1 [i 0]
def h151 : List Hint := [(.j ⟨0,[(4,(wi 0))],[],0⟩),(.j ⟨1,[(1,(w 1)),(0,(w 0)),(4,(wi 0)),(7,(w 2)),(8,(w 3))],[],0⟩),.no,.no,.no]
theorem q151 : symF D0 100000 151 h151 = some k151 := by kernel_rfl
def k152_1 : K :=
 l .sub [x 8,i 0,x 7]<|
.ret [x 9]
def k152_2 : K :=
 l (.cell 0) [x 2]<|
 l .len [x 10]<|
 l oL [x 9,x 11]<|
 b (x 12) (l (.cell 0) [x 2]<|
 l (.tix 3) [x 13,x 9]<|
 l (.elt 0 3) [x 13,x 14]<|
 c 243 [x 2,x 15,x 3]<|
 l (.cell 0) [x 2]<|
 l (.tix 3) [x 17,x 9]<|
 l (.elt 0 0) [x 17,x 18]<|
 l .ix [x 16,x 7]<|
 l (.set 0) [x 8,x 20,x 19]<|
 l oA [x 9,i 1]<|
 j 1 [x 21,x 22])<|
 j 0 [x 8]
def k152 : K :=
 l (.shape 1) [x 0]<|
 l (.shape 2) [x 1]<|
 l (.cell 0) [x 2]<|
 l .len [x 4]<|
 l (.rep [z] 8) [x 5,x 5]<|
 l .len [x 6]<|
.jp k152_1<|
.loop k152_2<|
 j 1 [x 6,i 0]
def h152 : List Hint := [(.j ⟨1,[(5,(.w (.c (o 0 7)))),(4,(.w (.c .nil)))],[(0,(.lst (x 8) (x 7) 1 false))],1⟩),(.j ⟨2,[(2,(p 0 0)),(3,(p 1 0)),(4,(.w (.c .nil))),(5,(.w (.c (o 2 7)))),(6,(w 9))],[(0,(.box [(r 2 0)])),(1,(.box [(r 3 0),(r 3 1)])),(2,(.lst (x 8) (x 7) 1 false))],3⟩),.no,.no]
theorem q152 : symF D0 100000 152 h152 = some k152 := by kernel_rfl
def k153_1 : K :=
 l .len [x 21]<|
 l oG [x 22,i 0]<|
 b (x 23) (.ret [i 8])<|
.ret [i 0]
def k153_2 : K :=
 l oA [x 22,i 1]<|
 j 1 [x 24,x 41]
def k153_3 : K :=
 l oL [x 22,x 20]<|
 b (x 23) (.jp k153_2<|
 l (.cell 4) [x 1]<|
 l (.tix 3) [x 24,x 22]<|
 l (.elt 0 3) [x 24,x 25]<|
 l (.part 2 1) [x 1]<|
 l (.part 1 2) [x 26]<|
 l (.part 0 2) [x 1]<|
 c 246 [x 27,x 28,x 29]<|
 l (.shape 2) [x 30]<|
 l oN [x 32,i 0]<|
 b (x 34) (.ret [i 8])<|
 l (.un .not) [x 31]<|
 b (x 35) (l (.cell 0) [x 26]<|
 l (.cell 1) [x 26]<|
 l (.cell 2) [x 26]<|
 l (.cell 0) [x 33]<|
 l (.cell 1) [x 33]<|
 j 2 [x 21,x 24,x 25,x 26,x 36,x 37,x 38,x 27,x 28,x 29,x 30,x 31,x 32,x 39,x 40,x 34,x 35])<|
 l .len [x 21]<|
 l oE [x 36,i 0]<|
 b (x 37) (.ret [i 8])<|
 l (.tix 3) [x 21,i 0]<|
 l (.elt 0 0) [x 21,x 38]<|
 l (.cell 0) [x 26]<|
 l oN [x 39,x 40]<|
 b (x 41) (.ret [i 8])<|
 l (.tix 3) [x 21,i 0]<|
 l (.elt 1 2) [x 21,x 42]<|
 l (.cell 0) [x 43]<|
 l oL [x 44,i 0]<|
 b (x 45) (.ret [i 8])<|
 l (.cell 0) [x 43]<|
 l oH [x 46,i 200]<|
 b (x 47) (.ret [i 8])<|
 l (.cell 9) [x 1]<|
 l (.cell 0) [x 43]<|
 l (.tix 1) [x 48,x 49]<|
 l (.elt 0 0) [x 48,x 50]<|
 l oL [x 51,i 0]<|
 b (x 52) (.ret [i 8])<|
 l (.cell 9) [x 1]<|
 l (.cell 0) [x 43]<|
 l (.tix 1) [x 53,x 54]<|
 l (.elt 0 0) [x 53,x 55]<|
 l (.cell 8) [x 1]<|
 l (.tix 5) [x 57,x 56]<|
 l (.elt 0 5) [x 57,x 58]<|
 l (.part 0 2) [x 33]<|
 l (.cell 0) [x 26]<|
 l (.part 0 2) [x 43]<|
 l .agg [x 60,x 61,x 62]<|
 l (.eqv [.i,.i,.i,.i,.i]) [x 59,x 63]<|
 l (.un .not) [x 64]<|
 b (x 65) (.ret [i 8])<|
 l .len [x 21]<|
 l .bnd [i 1,x 66]<|
 l (.tsub 3) [x 21,x 67,x 66]<|
 l (.cell 0) [x 26]<|
 l (.cell 1) [x 26]<|
 l (.cell 2) [x 26]<|
 l (.cell 0) [x 33]<|
 l (.cell 1) [x 33]<|
 j 2 [x 68,x 24,x 25,x 26,x 69,x 70,x 71,x 27,x 28,x 29,x 30,x 31,x 32,x 72,x 73,x 34,x 35])<|
 j 0 [x 21]
def k153_4 : K :=
 l (.cell 9) [x 1]<|
 l .len [x 11]<|
 l oN [x 12,i 200]<|
 b (x 13) (.ret [i 8])<|
 l (.cell 8) [x 1]<|
 l .len [x 14]<|
 l (.cell 10) [x 1]<|
 l .len [x 16]<|
 l oN [x 15,x 17]<|
 b (x 18) (.ret [i 8])<|
 l (.cell 4) [x 1]<|
 l .len [x 19]<|
.jp k153_1<|
.loop k153_3<|
 l (.cell 10) [x 1]<|
 j 1 [x 21,i 0]
def k153_5 : K :=
 l oL [x 11,i 4]<|
 b (x 12) (l .ix [x 11,i 4]<|
 l (.elt 0 0) [x 10,x 13]<|
 l oN [x 14,i 0]<|
 b (x 15) (.ret [i 8])<|
 l oA [x 11,i 1]<|
 j 1 [x 16])<|
 j 0 []
def k153 : K :=
 l (.shape 11) [x 0]<|
 l (.part 0 2) [x 1]<|
 c 43 [x 2]<|
 l (.part 2 1) [x 1]<|
 c 231 [x 4]<|
 l (.part 3 2) [x 1]<|
 c 244 [x 6]<|
 l (.part 5 5) [x 1]<|
 c 245 [x 8]<|
 l (.bs 4 [z] [0,1,2,3]) [x 3,x 5,x 7,x 9]<|
.jp k153_4<|
.loop k153_5<|
 j 1 [i 0]
def h153 : List Hint := [(.j ⟨0,[(2,(wi 0)),(1,(p 0 0))],[(0,(.box (pcs (x 1) 0 11)))],1⟩),(.j ⟨1,[(1,(p 0 0)),(2,(wi 0)),(24,(.w (.c (.lsl 1 (i 0) (i 4))))),(25,(wi 4)),(26,(w 11))],[(0,(.box (pcs (x 1) 0 11))),(1,(.lst (x 10) (i 4) 1 false))],2⟩),.no,.no,.no,.no,.no,(.j ⟨1,[(5,(w 21)),(2,(wi 0))],[],0⟩),(.j ⟨2,[(1,(p 0 0)),(2,(wi 0)),(5,(w 21)),(52,(.w (.c (r 1 4)))),(53,(w 20)),(54,(w 22))],[(0,(.box (pcs (x 1) 0 11)))],1⟩),.no,(.j ⟨17,[(54,(w 22)),(53,(w 20)),(52,(.w (.c (r 1 4)))),(5,(w 24)),(2,(wi 0)),(1,(p 0 0)),(55,(w 23)),(56,(.w (.c (.tp (x 25) (x 26) 0)))),(57,(v 27)),(7,(p 1 0)),(59,(p 0 2)),(60,(v 31)),(61,(p 1 1)),(62,(v 32)),(63,(p 0 0)),(64,(v 33)),(65,(.tup [(.av (x 34)),(.c (a 35)),(.c (a 36))])),(58,(.tup [(.av (x 34)),(.c (a 35)),(.c (a 36))])),(66,(v 34)),(67,(w 35)),(68,(w 36)),(8,(p 2 0)),(9,(w 35)),(10,(w 36)),(69,(w 36)),(70,(w 39)),(71,(w 35)),(72,(w 40))],[(0,(.box (pcs (x 1) 0 11))),(1,(.box [(a 28),(a 29),(a 30)])),(2,(.box [(a 37),(a 38)]))],3⟩),.no,.no,.no,.no,.no,.no,.no]
theorem q153 : symF D0 100000 153 h153 = some k153 := by kernel_rfl
def k154 : K :=
 c 151 [x 0,x 1]<|
 l oH [x 2,i 0]<|
.ret [x 3]
def h154 : List Hint := []
theorem q154 : symF D0 100000 154 h154 = some k154 := by kernel_rfl
def k155 : K :=
 l (.shape 2) [x 1]<|
 c 247 [x 0,x 2]<|
 l oH [x 3,i 0]<|
.ret [x 4]
def h155 : List Hint := []
theorem q155 : symF D0 100000 155 h155 = some k155 := by kernel_rfl
def k156 : K :=
 l (.shape 1) [x 0]<|
 l (.shape 2) [x 1]<|
 c 248 [x 4,x 2]<|
 l (.shape 3) [x 6]<|
 c 248 [x 4,x 3]<|
 l (.shape 3) [x 9]<|
 c 249 [x 8,x 11,x 5]<|
.ret [x 12]
def h156 : List Hint := []
theorem q156 : symF D0 100000 156 h156 = some k156 := by kernel_rfl
def k157_1 : K :=
.ret [i 0]
def k157_2 : K :=
 b (x 33) (.ret [i 8])<|
 l oA [x 20,i 1]<|
 j 1 [x 34]
def k157_3 : K :=
 l oL [x 20,x 19]<|
 b (x 21) (l (.cell 1) [x 1]<|
 l (.tix 1) [x 22,x 20]<|
 l (.elt 0 0) [x 22,x 23]<|
 l oM [i 2,x 20]<|
 l oA [x 25,i 1]<|
 c 242 [x 1,x 26]<|
 l oM [i 2,x 20]<|
 l oA [x 28,i 2]<|
 c 242 [x 1,x 29]<|
.jp k157_2<|
 l oN [x 24,x 27]<|
 b (x 31) (l oN [x 24,x 30]<|
 b (x 32) (j 2 [x 31,x 32,.c (.v (.bool true))])<|
 l oL [x 24,i 0]<|
 b (x 33) (l (.mm true) [x 27,x 30]<|
 l oH [x 34,i 0]<|
 j 2 [x 31,x 32,x 35])<|
 j 2 [x 31,x 32,.c (.v (.bool false))])<|
 l oL [x 24,i 0]<|
 b (x 32) (l (.mm true) [x 27,x 30]<|
 l oH [x 33,i 0]<|
 j 2 [x 31,.c (.v (.bool false)),x 34])<|
 j 2 [x 31,.c (.v (.bool false)),.c (.v (.bool false))])<|
 j 0 []
def k157_4 : K :=
 l oH [i (-1),i 0]<|
 l (.un .not) [x 15]<|
 l (.un .not) [x 16]<|
 b (x 17) (.ret [i 8])<|
 l (.cell 1) [x 1]<|
 l .len [x 18]<|
.jp k157_1<|
.loop k157_3<|
 j 1 [i 0]
def k157_5 : K :=
.ret [i 0]
def k157_6 : K :=
 b (x 40) (.ret [i 8])<|
 l oA [x 27,i 1]<|
 j 3 [x 41]
def k157_7 : K :=
 l oL [x 27,x 26]<|
 b (x 28) (l (.cell 1) [x 1]<|
 l (.tix 1) [x 29,x 27]<|
 l (.elt 0 0) [x 29,x 30]<|
 l oM [i 2,x 27]<|
 l oA [x 32,i 1]<|
 c 242 [x 1,x 33]<|
 l oM [i 2,x 27]<|
 l oA [x 35,i 2]<|
 c 242 [x 1,x 36]<|
.jp k157_6<|
 l oN [x 31,x 34]<|
 b (x 38) (l oN [x 31,x 37]<|
 b (x 39) (j 4 [x 38,x 39,.c (.v (.bool true))])<|
 l oL [x 31,i 0]<|
 b (x 40) (l (.mm true) [x 34,x 37]<|
 l oH [x 41,i 0]<|
 j 4 [x 38,x 39,x 42])<|
 j 4 [x 38,x 39,.c (.v (.bool false))])<|
 l oL [x 31,i 0]<|
 b (x 39) (l (.mm true) [x 34,x 37]<|
 l oH [x 40,i 0]<|
 j 4 [x 38,.c (.v (.bool false)),x 41])<|
 j 4 [x 38,.c (.v (.bool false)),.c (.v (.bool false))])<|
 j 2 []
def k157_8 : K :=
 l (.un .not) [x 20]<|
 b (x 21) (l oH [x 15,i 0]<|
 l (.un .not) [x 22]<|
 l (.un .not) [x 23]<|
 b (x 24) (.ret [i 8])<|
 l (.cell 1) [x 1]<|
 l .len [x 25]<|
.jp k157_5<|
.loop k157_7<|
 j 3 [i 0])<|
 l oA [x 15,i 1]<|
 j 1 [x 22]
def k157_9 : K :=
 l oL [x 15,x 14]<|
 b (x 16) (l (.cell 0) [x 1]<|
 l (.tix 1) [x 17,x 15]<|
 l (.elt 0 0) [x 17,x 18]<|
.jp k157_8<|
 l oH [x 19,i (-1)]<|
 b (x 20) (l oK [x 19,i 65535]<|
 j 2 [x 21])<|
 j 2 [.c (.v (.bool false))])<|
 j 0 []
def k157 : K :=
 l (.shape 2) [x 0]<|
 l (.cell 0) [x 1]<|
 l .len [x 2]<|
 l oL [x 3,i 1]<|
 b (x 4) (.ret [i 8])<|
 l oG [x 3,i 64]<|
 b (x 5) (.ret [i 8])<|
 l (.cell 1) [x 1]<|
 l .len [x 6]<|
 l oS [x 3,i 1]<|
 l oN [x 7,x 8]<|
 b (x 9) (.ret [i 8])<|
 l (.cell 0) [x 1]<|
 c 250 [x 10]<|
 l (.un .not) [x 11]<|
 b (x 12) (.ret [i 8])<|
 l (.cell 0) [x 1]<|
 l .len [x 13]<|
.jp k157_4<|
.loop k157_9<|
 j 1 [i 0]
def h157 : List Hint := [.no,.no,(.j ⟨0,[(4,(wi 0))],[(0,(.box [(r 1 0),(r 1 1)])),(1,(.box [(.fn 252 [] [])]))],2⟩),(.j ⟨1,[(1,(.w (.c (.fn 332 [] [(.ptr 1 0)])))),(0,(.w (.c (r 1 0)))),(4,(wi 0)),(7,(w 14)),(8,(w 15))],[(0,(.box [(r 1 0),(r 1 1)])),(1,(.box [(.fn 252 [] [])]))],2⟩),.no,.no,(.j ⟨1,[(2,(w 20))],[(0,(.box [(r 1 0),(r 1 1)])),(1,(.box [(.fn 252 [] [])]))],2⟩),.no,.no,(.j ⟨0,[(2,(wi 0))],[],0⟩),(.j ⟨1,[(1,(p 0 0)),(2,(wi 0)),(36,(.w (.c (r 1 1)))),(37,(w 26)),(38,(w 27))],[(0,(.box [(r 1 0),(r 1 1)]))],1⟩),.no,.no,(.j ⟨3,[(38,(w 27)),(37,(w 26)),(36,(.w (.c (r 1 1)))),(2,(wi 0)),(1,(p 0 0)),(39,(w 28)),(40,(w 27)),(41,(.w (.c (.tp (x 29) (x 30) 0)))),(42,(w 31)),(4,(w 27)),(5,(w 31)),(43,(v 1)),(44,(w 27)),(45,(w 32)),(46,(w 33)),(47,(w 34)),(48,(v 1)),(49,(w 27)),(50,(w 35)),(51,(w 36)),(52,(w 37)),(6,(w 34)),(7,(w 37)),(53,(w 31)),(54,(w 34)),(55,(w 38)),(56,(w 38)),(60,(w 39)),(61,(w 39)),(70,(w 40))],[(0,(.box [(r 1 0),(r 1 1)]))],1⟩),.no,.no,(.j ⟨0,[(2,(wi 0))],[],0⟩),(.j ⟨1,[(1,(p 0 0)),(2,(wi 0)),(36,(.w (.c (r 1 1)))),(37,(w 19)),(38,(w 20))],[(0,(.box [(r 1 0),(r 1 1)]))],1⟩),.no,.no,(.j ⟨3,[(38,(w 20)),(37,(w 19)),(36,(.w (.c (r 1 1)))),(2,(wi 0)),(1,(p 0 0)),(39,(w 21)),(40,(w 20)),(41,(.w (.c (.tp (x 22) (x 23) 0)))),(42,(w 24)),(4,(w 20)),(5,(w 24)),(43,(v 1)),(44,(w 20)),(45,(w 25)),(46,(w 26)),(47,(w 27)),(48,(v 1)),(49,(w 20)),(50,(w 28)),(51,(w 29)),(52,(w 30)),(6,(w 27)),(7,(w 30)),(53,(w 24)),(54,(w 27)),(55,(w 31)),(56,(w 31)),(60,(w 32)),(61,(w 32)),(70,(w 33))],[(0,(.box [(r 1 0),(r 1 1)]))],1⟩),.no]
theorem q157 : symF D0 100000 157 h157 = some k157 := by kernel_rfl
def k163_1 : K :=
.ret [.c (.v (.bool true))]
def k163_2 : K :=
 l oL [x 6,x 5]<|
 b (x 7) (l (.tix 1) [x 0,x 6]<|
 l (.elt 0 0) [x 0,x 8]<|
 l (.tix 1) [x 1,x 6]<|
 l (.elt 0 0) [x 1,x 10]<|
 l oN [x 9,x 11]<|
 b (x 12) (.ret [.c (.v (.bool false))])<|
 l oA [x 6,i 1]<|
 j 1 [x 13])<|
 j 0 []
def k163 : K :=
 l .len [x 0]<|
 l .len [x 1]<|
 l oN [x 2,x 3]<|
 b (x 4) (.ret [.c (.v (.bool false))])<|
 l .len [x 0]<|
.jp k163_1<|
.loop k163_2<|
 j 1 [i 0]
def h163 : List Hint := [.no,(.j ⟨0,[(4,(.w (.c (.a (.c (.v (.bool false)))))))],[],0⟩),(.j ⟨1,[(1,(w 1)),(0,(w 0)),(4,(.w (.c (.a (.c (.v (.bool false))))))),(12,(w 5)),(13,(w 6))],[],0⟩),.no,.no,.no]
theorem q163 : symF D0 100000 163 h163 = some k163 := by kernel_rfl
def k165_1 : K :=
.ret [.c (.v (.bool true))]
def k165_2 : K :=
 l oL [x 6,x 5]<|
 b (x 7) (l (.tix 3) [x 0,x 6]<|
 l (.elt 0 3) [x 0,x 8]<|
 l (.tix 3) [x 1,x 6]<|
 l (.elt 0 3) [x 1,x 10]<|
 l (.eqv [.i,.i,.i]) [x 9,x 11]<|
 l (.un .not) [x 12]<|
 b (x 13) (.ret [.c (.v (.bool false))])<|
 l oA [x 6,i 1]<|
 j 1 [x 14])<|
 j 0 []
def k165 : K :=
 l .len [x 0]<|
 l .len [x 1]<|
 l oN [x 2,x 3]<|
 b (x 4) (.ret [.c (.v (.bool false))])<|
 l .len [x 0]<|
.jp k165_1<|
.loop k165_2<|
 j 1 [i 0]
def h165 : List Hint := [.no,(.j ⟨0,[(4,(.w (.c (.a (.c (.v (.bool false)))))))],[],0⟩),(.j ⟨1,[(1,(w 1)),(0,(w 0)),(4,(.w (.c (.a (.c (.v (.bool false))))))),(12,(w 5)),(13,(w 6))],[],0⟩),.no,.no,.no]
theorem q165 : symF D0 100000 165 h165 = some k165 := by kernel_rfl
def k167_1 : K :=
 l (.cell 10) [x 1]<|
 l .len [x 27]<|
 l oN [x 26,x 28]<|
 b (x 29) (.ret [i 8])<|
.ret [i 0]
def k167_2 : K :=
 l oA [x 27,i 1]<|
 j 1 [x 31,x 46]
def k167_3 : K :=
 l (.cell 4) [x 1]<|
 l .len [x 28]<|
 l oL [x 27,x 29]<|
 b (x 30) (.jp k167_2<|
 l (.cell 4) [x 1]<|
 l (.tix 3) [x 31,x 27]<|
 l (.elt 0 3) [x 31,x 32]<|
 l (.part 2 1) [x 1]<|
 l (.part 1 2) [x 33]<|
 l (.part 0 2) [x 1]<|
 c 261 [x 34,x 35,x 36]<|
 l (.shape 2) [x 37]<|
 l (.un .not) [x 38]<|
 b (x 40) (l (.cell 0) [x 33]<|
 l (.cell 1) [x 33]<|
 l (.cell 2) [x 33]<|
 l (.cell 0) [x 39]<|
 l (.cell 1) [x 39]<|
 j 2 [x 26,x 31,x 32,x 33,x 41,x 42,x 43,x 34,x 35,x 36,x 37,x 38,x 44,x 45,x 40])<|
 l (.cell 10) [x 1]<|
 l .len [x 41]<|
 l oH [x 26,x 42]<|
 b (x 43) (.ret [i 8])<|
 l (.cell 10) [x 1]<|
 l (.tix 3) [x 44,x 26]<|
 l (.elt 0 0) [x 44,x 45]<|
 l (.cell 0) [x 33]<|
 l oN [x 46,x 47]<|
 b (x 48) (.ret [i 8])<|
 l (.part 5 5) [x 1]<|
 l (.cell 10) [x 1]<|
 l (.tix 3) [x 50,x 26]<|
 l (.elt 1 2) [x 50,x 51]<|
 c 262 [x 49,x 52]<|
 l (.shape 5) [x 53]<|
 l oN [x 54,i 0]<|
 b (x 56) (.ret [i 8])<|
 l (.cell 2) [x 55]<|
 l (.cell 0) [x 33]<|
 l oN [x 57,x 58]<|
 b (x 59) (.ret [i 8])<|
 l (.part 0 2) [x 55]<|
 l (.eqv [.i,.i]) [x 60,x 39]<|
 l (.un .not) [x 61]<|
 b (x 62) (.ret [i 8])<|
 l oA [x 26,i 1]<|
 l (.cell 0) [x 33]<|
 l (.cell 1) [x 33]<|
 l (.cell 2) [x 33]<|
 l (.cell 0) [x 39]<|
 l (.cell 1) [x 39]<|
 j 2 [x 63,x 31,x 32,x 33,x 64,x 65,x 66,x 34,x 35,x 36,x 37,x 38,x 67,x 68,x 40])<|
 j 0 [x 26]
def k167 : K :=
 l (.shape 11) [x 0]<|
 l (.part 0 2) [x 1]<|
 c 128 [x 2]<|
 l oN [x 3,i 0]<|
 b (x 4) (.ret [i 8])<|
 l (.part 2 1) [x 1]<|
 c 143 [x 5]<|
 l oN [x 6,i 0]<|
 b (x 7) (.ret [i 8])<|
 l (.part 3 2) [x 1]<|
 c 258 [x 8]<|
 l oN [x 9,i 0]<|
 b (x 10) (.ret [i 8])<|
 l (.part 3 2) [x 1]<|
 l (.part 2 1) [x 1]<|
 c 259 [x 11,x 12]<|
 l (.un .not) [x 13]<|
 b (x 14) (.ret [i 8])<|
 l (.part 5 5) [x 1]<|
 c 260 [x 15]<|
 l oN [x 16,i 0]<|
 b (x 17) (.ret [i 8])<|
 l (.cell 9) [x 1]<|
 l .len [x 18]<|
 l oN [x 19,i 200]<|
 b (x 20) (.ret [i 8])<|
 l (.cell 8) [x 1]<|
 l .len [x 21]<|
 l (.cell 10) [x 1]<|
 l .len [x 23]<|
 l oN [x 22,x 24]<|
 b (x 25) (.ret [i 8])<|
.jp k167_1<|
.loop k167_3<|
 j 1 [i 0,i 0]
def h167 : List Hint := [.no,.no,(.j ⟨1,[(3,(w 26)),(2,(wi 0)),(1,(p 0 0))],[(0,(.box (pcs (x 1) 0 11)))],1⟩),(.j ⟨2,[(1,(p 0 0)),(2,(wi 0)),(3,(w 26)),(4,(w 27))],[(0,(.box (pcs (x 1) 0 11)))],1⟩),.no,(.j ⟨15,[(4,(w 27)),(3,(w 31)),(2,(wi 0)),(1,(p 0 0)),(57,(w 27)),(58,(p 0 3)),(59,(p 0 4)),(60,(.w (.c (r 1 4)))),(61,(w 29)),(62,(w 30)),(65,(p 0 3)),(66,(p 0 4)),(67,(.w (.c (r 1 4)))),(68,(w 27)),(69,(.w (.c (.tp (x 32) (x 33) 0)))),(70,(v 34)),(5,(p 1 0)),(72,(p 0 2)),(73,(v 38)),(74,(p 1 1)),(75,(v 39)),(76,(p 0 0)),(77,(v 40)),(78,(.tup [(.av (x 41)),(.c (a 42))])),(71,(.tup [(.av (x 41)),(.c (a 42))])),(79,(v 41)),(80,(w 42)),(6,(p 2 0)),(7,(w 42)),(81,(w 42)),(82,(w 45))],[(0,(.box (pcs (x 1) 0 11))),(1,(.box [(a 35),(a 36),(a 37)])),(2,(.box [(a 43),(a 44)]))],3⟩),.no,.no,.no,.no,.no,.no]
theorem q167 : symF D0 100000 167 h167 = some k167 := by kernel_rfl
def k168_1 : K :=
.ret [i (-1)]
def k168_2 : K :=
 l (.cell 0) [x 2]<|
 l .len [x 4]<|
 l oL [x 3,x 5]<|
 b (x 6) (l (.cell 0) [x 2]<|
 l (.tix 3) [x 7,x 3]<|
 l (.elt 0 0) [x 7,x 8]<|
 l oE [x 9,x 1]<|
 b (x 10) (.ret [x 3])<|
 l oA [x 3,i 1]<|
 j 1 [x 11])<|
 j 0 []
def k168 : K :=
 l (.shape 1) [x 0]<|
.jp k168_1<|
.loop k168_2<|
 j 1 [i 0]
def h168 : List Hint := [(.j ⟨0,[(4,(wi 0))],[],0⟩),(.j ⟨1,[(1,(w 1)),(2,(p 0 0)),(4,(wi 0)),(5,(w 3))],[(0,(.box [(r 2 0)]))],1⟩),.no,.no,.no]
theorem q168 : symF D0 100000 168 h168 = some k168 := by kernel_rfl
end Go.Proofs.YtfghdmmapmdcgaaGreat
namespace Go.Proofs.YtfghdmmapmdcgaaGreat
open Go.Sym Go.Sym.KP
def k169_1 : K :=
.ret [.c (.v (.bool true))]
def k169_2 : K :=
 l .len [x 1]<|
 l oL [x 7,x 8]<|
 b (x 9) (l (.part 3 2) [x 2]<|
 l (.tix 2) [x 1,x 7]<|
 l (.elt 0 2) [x 1,x 11]<|
 c 263 [x 10,x 12]<|
 l (.un .not) [x 13]<|
 b (x 14) (.ret [.c (.v (.bool false))])<|
 l (.tix 2) [x 1,x 7]<|
 l (.elt 0 2) [x 1,x 15]<|
 l (.part 2 1) [x 2]<|
 l (.part 0 2) [x 2]<|
 c 264 [x 16,x 17,x 18]<|
 l (.un .not) [x 19]<|
 b (x 20) (.ret [.c (.v (.bool false))])<|
 l oA [x 7,i 1]<|
 j 1 [x 21])<|
 j 0 []
def k169 : K :=
 l (.shape 11) [x 0]<|
 l (.cell 4) [x 2]<|
 l .len [x 3]<|
 l .len [x 1]<|
 l oN [x 4,x 5]<|
 b (x 6) (.ret [.c (.v (.bool false))])<|
.jp k169_1<|
.loop k169_2<|
 j 1 [i 0]
def h169 : List Hint := [.no,(.j ⟨0,[(4,(.w (.c (.a (.c (.v (.bool false)))))))],[],0⟩),(.j ⟨1,[(1,(w 1)),(2,(p 0 0)),(4,(.w (.c (.a (.c (.v (.bool false))))))),(5,(w 7))],[(0,(.box (pcs (x 2) 0 11)))],1⟩),.no,.no,.no,.no]
theorem q169 : symF D0 100000 169 h169 = some k169 := by kernel_rfl
def k170_1 : K :=
 l .sub [x 1,i 0,x 2]<|
.ret [x 3]
def k170_2 : K :=
 l .len [x 0]<|
 l oL [x 3,x 4]<|
 b (x 5) (l (.tix 1) [x 0,x 3]<|
 l (.elt 0 0) [x 0,x 6]<|
 l oS [x 3,i 1]<|
 l (.bin .quo) [x 8,i 2]<|
 l (.tix 1) [x 0,x 9]<|
 l (.elt 0 0) [x 0,x 10]<|
 l .agg [x 7,x 11]<|
 l (.bs 1 [z,z] [0]) [x 12]<|
 l .sub [x 13,i 0,i 1]<|
 l (.app 16 2) [x 1,x 2,x 14]<|
 l .len [x 15]<|
 l oA [x 3,i 1]<|
 j 1 [x 15,x 16,x 17])<|
 j 0 [x 1,x 2]
def k170 : K :=
.jp k170_1<|
.loop k170_2<|
 j 1 [.c (.sl []),i 0,i 1]
def h170 : List Hint := [(.j ⟨2,[(3,(.w (.c (o 0 2)))),(2,(.w (.c .nil)))],[(0,(.lst (x 1) (x 2) 2 false))],1⟩),(.j ⟨3,[(0,(w 0)),(2,(.w (.c .nil))),(3,(.w (.c (o 0 2)))),(4,(w 3))],[(0,(.lst (x 1) (x 2) 2 false))],1⟩),.no,.no]
theorem q170 : symF D0 100000 170 h170 = some k170 := by kernel_rfl
def k171_1 : K :=
.ret [i 0]
def k171_2 : K :=
 b (x 27) (.ret [i 8])<|
 l oA [x 12,i 1]<|
 j 1 [x 28]
def k171_3 : K :=
 l (.cell 1) [x 1]<|
 l .len [x 13]<|
 l oL [x 12,x 14]<|
 b (x 15) (l oM [i 2,x 12]<|
 l oA [x 16,i 1]<|
 c 266 [x 1,x 17]<|
 l oM [i 2,x 12]<|
 l oA [x 19,i 2]<|
 c 266 [x 1,x 20]<|
.jp k171_2<|
 l (.cell 1) [x 1]<|
 l (.tix 1) [x 22,x 12]<|
 l (.elt 0 0) [x 22,x 23]<|
 l oN [x 24,x 18]<|
 b (x 25) (l (.cell 1) [x 1]<|
 l (.tix 1) [x 26,x 12]<|
 l (.elt 0 0) [x 26,x 27]<|
 l oN [x 28,x 21]<|
 b (x 29) (j 2 [x 22,x 23,x 24,x 25,x 29,.c (.v (.bool true))])<|
 l (.cell 1) [x 1]<|
 l (.tix 1) [x 30,x 12]<|
 l (.elt 0 0) [x 30,x 31]<|
 l oE [x 32,i (-1)]<|
 b (x 33) (l oN [x 18,i (-1)]<|
 b (x 34) (j 2 [x 22,x 23,x 24,x 25,x 29,.c (.v (.bool true))])<|
 l oN [x 21,i (-1)]<|
 j 2 [x 22,x 23,x 24,x 25,x 29,x 35])<|
 j 2 [x 22,x 23,x 24,x 25,x 29,.c (.v (.bool false))])<|
 l (.cell 1) [x 1]<|
 l (.tix 1) [x 26,x 12]<|
 l (.elt 0 0) [x 26,x 27]<|
 l oE [x 28,i (-1)]<|
 b (x 29) (l oN [x 18,i (-1)]<|
 b (x 30) (j 2 [x 22,x 23,x 24,x 25,.c (.v (.bool false)),.c (.v (.bool true))])<|
 l oN [x 21,i (-1)]<|
 j 2 [x 22,x 23,x 24,x 25,.c (.v (.bool false)),x 31])<|
 j 2 [x 22,x 23,x 24,x 25,.c (.v (.bool false)),.c (.v (.bool false))])<|
 j 0 []
def k171_4 : K :=
.jp k171_1<|
.loop k171_3<|
 j 1 [i 0]
def k171_5 : K :=
 l oL [x 12,x 3]<|
 b (x 13) (l (.cell 0) [x 1]<|
 l (.tix 1) [x 14,x 12]<|
 l (.elt 0 0) [x 14,x 15]<|
 l oL [x 16,i (-1)]<|
 b (x 17) (.ret [i 8])<|
 l (.cell 0) [x 1]<|
 l (.tix 1) [x 18,x 12]<|
 l (.elt 0 0) [x 18,x 19]<|
 l oG [x 20,i 65535]<|
 b (x 21) (.ret [i 8])<|
 l oA [x 12,i 1]<|
 j 1 [x 22])<|
 j 0 []
def k171 : K :=
 l (.shape 2) [x 0]<|
 l (.cell 0) [x 1]<|
 l .len [x 2]<|
 l oL [x 3,i 1]<|
 b (x 4) (.ret [i 8])<|
 l oG [x 3,i 64]<|
 b (x 5) (.ret [i 8])<|
 l (.cell 1) [x 1]<|
 l .len [x 6]<|
 l oS [x 3,i 1]<|
 l oN [x 7,x 8]<|
 b (x 9) (.ret [i 8])<|
 l (.cell 0) [x 1]<|
 c 265 [x 10]<|
 b (x 11) (.ret [i 8])<|
.jp k171_4<|
.loop k171_5<|
 j 1 [i 0]
def h171 : List Hint := [.no,.no,(.j ⟨0,[(2,(wi 0)),(1,(p 0 0))],[(0,(.box [(r 1 0),(r 1 1)]))],1⟩),(.j ⟨1,[(1,(p 0 0)),(2,(wi 0)),(3,(w 3)),(4,(w 12))],[(0,(.box [(r 1 0),(r 1 1)]))],1⟩),.no,.no,.no,.no,(.j ⟨0,[(2,(wi 0))],[],0⟩),(.j ⟨1,[(1,(p 0 0)),(2,(wi 0)),(5,(w 12))],[(0,(.box [(r 1 0),(r 1 1)]))],1⟩),.no,.no,(.j ⟨6,[(5,(w 12)),(2,(wi 0)),(1,(p 0 0)),(49,(w 12)),(50,(p 0 1)),(51,(.w (.c (r 1 1)))),(52,(w 14)),(53,(w 15)),(56,(v 1)),(57,(w 12)),(58,(w 16)),(59,(w 17)),(60,(w 18)),(61,(v 1)),(62,(w 12)),(63,(w 19)),(64,(w 20)),(65,(w 21)),(6,(w 18)),(7,(w 21)),(66,(p 0 1)),(67,(.w (.c (r 1 1)))),(68,(w 12)),(69,(.w (.c (.tp (x 22) (x 23) 0)))),(70,(w 24)),(71,(w 18)),(72,(w 25)),(73,(w 25)),(81,(w 26)),(82,(w 26)),(97,(w 27))],[(0,(.box [(r 1 0),(r 1 1)]))],1⟩),.no]
theorem q171 : symF D0 100000 171 h171 = some k171 := by kernel_rfl
def k172_1 : K :=
.ret [.c (.v (.bool false))]
def k172_2 : K :=
 l oK [x 1,i 64]<|
 b (x 2) (l oE [x 0,x 1]<|
 b (x 3) (.ret [.c (.v (.bool true))])<|
 l oM [x 1,i 2]<|
 j 1 [x 4])<|
 j 0 []
def k172 : K :=
.jp k172_1<|
.loop k172_2<|
 j 1 [i 1]
def h172 : List Hint := [(.j ⟨0,[(2,(.w (.c (.a (.c (.v (.bool false)))))))],[],0⟩),(.j ⟨1,[(0,(w 0)),(2,(.w (.c (.a (.c (.v (.bool false))))))),(3,(w 1))],[],0⟩),.no,.no,.no]
theorem q172 : symF D0 100000 172 h172 = some k172 := by kernel_rfl
def k173_1 : K :=
.ret [.c (.v (.bool true))]
def k173_2 : K :=
 b (x 9) (.ret [.c (.v (.bool false))])<|
 l oA [x 3,i 1]<|
 j 1 [x 10]
def k173_3 : K :=
 l .len [x 1]<|
 l oL [x 3,x 4]<|
 b (x 5) (.jp k173_2<|
 l (.tix 1) [x 1,x 3]<|
 l (.elt 0 0) [x 1,x 6]<|
 l oN [x 7,i (-1)]<|
 b (x 8) (l (.tix 1) [x 1,x 3]<|
 l (.elt 0 0) [x 1,x 9]<|
 c 168 [x 2,x 10]<|
 l oL [x 11,i 0]<|
 j 2 [x 6,x 7,x 8,x 12])<|
 j 2 [x 6,x 7,x 8,.c (.v (.bool false))])<|
 j 0 []
def k173 : K :=
 l (.shape 1) [x 0]<|
.jp k173_1<|
.loop k173_3<|
 j 1 [i 0]
def h173 : List Hint := [(.j ⟨0,[(4,(.w (.c (.a (.c (.v (.bool false)))))))],[],0⟩),(.j ⟨1,[(1,(w 1)),(2,(p 0 0)),(4,(.w (.c (.a (.c (.v (.bool false))))))),(5,(w 3))],[(0,(.box [(r 2 0)]))],1⟩),.no,.no,(.j ⟨4,[(5,(w 3)),(4,(.w (.c (.a (.c (.v (.bool false))))))),(2,(p 0 0)),(1,(w 1)),(6,(w 3)),(7,(w 1)),(8,(w 4)),(9,(w 5)),(12,(w 1)),(13,(w 3)),(14,(.w (.c (.tp (x 1) (x 6) 0)))),(15,(w 7)),(16,(w 8)),(17,(w 8)),(25,(w 9))],[(0,(.box [(r 2 0)]))],1⟩),.no]
theorem q173 : symF D0 100000 173 h173 = some k173 := by kernel_rfl
def k174_1 : K :=
 l .sub [x 1,i 0,x 2]<|
.ret [x 3]
def k174_2 : K :=
 l oA [x 3,i 1]<|
 j 1 [x 9,x 10,x 11]
def k174_3 : K :=
 l .len [x 0]<|
 l oL [x 3,x 4]<|
 b (x 5) (l (.tix 1) [x 0,x 3]<|
 l (.elt 0 0) [x 0,x 6]<|
 l oH [x 7,i 0]<|
.jp k174_2<|
 b (x 8) (l (.tix 1) [x 0,x 3]<|
 l (.elt 0 0) [x 0,x 9]<|
 l (.bs 1 [z] [0]) [x 10]<|
 l .sub [x 11,i 0,i 1]<|
 l (.app 8 1) [x 1,x 2,x 12]<|
 l .len [x 13]<|
 j 2 [x 13,x 14])<|
 j 2 [x 1,x 2])<|
 j 0 [x 1,x 2]
def k174 : K :=
.jp k174_1<|
.loop k174_3<|
 j 1 [.c (.sl []),i 0,i 0]
def h174 : List Hint := [(.j ⟨2,[(3,(.w (.c (o 0 2)))),(2,(.w (.c .nil)))],[(0,(.lst (x 1) (x 2) 1 false))],1⟩),(.j ⟨3,[(0,(w 0)),(2,(.w (.c .nil))),(3,(.w (.c (o 0 2)))),(4,(w 3))],[(0,(.lst (x 1) (x 2) 1 false))],1⟩),.no,.no,(.j ⟨2,[(4,(w 3)),(2,(.w (.c .nil))),(0,(w 0)),(5,(w 3)),(6,(w 0)),(7,(w 4)),(8,(w 5)),(11,(w 0)),(12,(w 3)),(13,(.w (.c (.tp (x 0) (x 6) 0)))),(14,(w 7)),(15,(w 8)),(3,(.w (.c (o 0 10))))],[(0,(.lst (x 9) (x 10) 1 false))],1⟩)]
theorem q174 : symF D0 100000 174 h174 = some k174 := by kernel_rfl
def k175_1 : K :=
.ret [.c (.v (.bool true))]
def k175_2 : K :=
 l (.cell 1) [x 3]<|
 l .len [x 7]<|
 l oL [x 6,x 8]<|
 b (x 9) (l (.cell 1) [x 3]<|
 l (.tix 1) [x 10,x 6]<|
 l (.elt 0 0) [x 10,x 11]<|
 l oM [i 2,x 6]<|
 l oA [x 13,i 1]<|
 c 266 [x 3,x 14]<|
 l oM [i 2,x 6]<|
 l oA [x 16,i 2]<|
 c 266 [x 3,x 17]<|
 c 267 [x 4,x 5,x 15,x 18]<|
 l oN [x 12,x 19]<|
 b (x 20) (.ret [.c (.v (.bool false))])<|
 l oA [x 6,i 1]<|
 j 1 [x 21])<|
 j 0 []
def k175 : K :=
 l (.shape 2) [x 0]<|
 l (.shape 1) [x 1]<|
 l (.shape 2) [x 2]<|
.jp k175_1<|
.loop k175_2<|
 j 1 [i 0]
def h175 : List Hint := [(.j ⟨0,[(6,(.w (.c (.a (.c (.v (.bool false)))))))],[],0⟩),(.j ⟨1,[(3,(p 0 0)),(4,(p 1 0)),(5,(p 2 0)),(6,(.w (.c (.a (.c (.v (.bool false))))))),(7,(w 6))],[(0,(.box [(r 3 0),(r 3 1)])),(1,(.box [(r 4 0)])),(2,(.box [(r 5 0),(r 5 1)]))],3⟩),.no,.no,.no]
theorem q175 : symF D0 100000 175 h175 = some k175 := by kernel_rfl
def k176_1 : K :=
 l .sub [x 2,i 0,x 3]<|
.ret [x 4]
def k176_2 : K :=
 l oA [x 4,i 1]<|
 j 1 [x 8,x 9,x 18]
def k176_3 : K :=
 j 2 [x 20,x 21,x 8,x 9,x 10,x 11,x 12,x 13,x 14,x 15]
def k176_4 : K :=
 l (.cell 1) [x 1]<|
 l .len [x 5]<|
 l oL [x 4,x 6]<|
 b (x 7) (.jp k176_2<|
 l oM [i 2,x 4]<|
 l oA [x 8,i 1]<|
 c 266 [x 1,x 9]<|
 l oM [i 2,x 4]<|
 l oA [x 11,i 2]<|
 c 266 [x 1,x 12]<|
 l oL [x 10,i 0]<|
 b (x 14) (j 2 [x 2,x 3,x 8,x 9,x 10,x 11,x 12,x 13,x 14,.c (.v (.bool true))])<|
 l oL [x 13,i 0]<|
 b (x 15) (j 2 [x 2,x 3,x 8,x 9,x 10,x 11,x 12,x 13,x 14,x 15])<|
 l (.cell 1) [x 1]<|
 l (.tix 1) [x 16,x 4]<|
 l (.elt 0 0) [x 16,x 17]<|
 l oE [x 18,x 10]<|
.jp k176_3<|
 b (x 19) (l .agg [x 13,x 10]<|
 l (.bs 1 [z,z] [0]) [x 20]<|
 l .sub [x 21,i 0,i 1]<|
 l (.app 16 2) [x 2,x 3,x 22]<|
 l .len [x 23]<|
 j 3 [x 23,x 24])<|
 l .agg [x 10,x 13]<|
 l (.bs 1 [z,z] [0]) [x 20]<|
 l .sub [x 21,i 0,i 1]<|
 l (.app 16 2) [x 2,x 3,x 22]<|
 l .len [x 23]<|
 j 3 [x 23,x 24])<|
 j 0 [x 2,x 3]
def k176 : K :=
 l (.shape 2) [x 0]<|
.jp k176_1<|
.loop k176_4<|
 j 1 [.c (.sl []),i 0,i 0]
def h176 : List Hint := [(.j ⟨2,[(3,(.w (.c (o 0 3)))),(2,(.w (.c .nil)))],[(0,(.lst (x 2) (x 3) 2 false))],1⟩),(.j ⟨3,[(1,(p 0 0)),(2,(.w (.c .nil))),(3,(.w (.c (o 1 3)))),(4,(w 4))],[(0,(.box [(r 1 0),(r 1 1)])),(1,(.lst (x 2) (x 3) 2 false))],2⟩),.no,(.j ⟨10,[(4,(w 4)),(3,(.w (.c (o 0 9)))),(2,(.w (.c .nil))),(1,(p 1 0)),(7,(w 4)),(8,(p 1 1)),(9,(.w (.c (r 1 1)))),(10,(w 6)),(11,(w 7)),(14,(v 1)),(15,(w 4)),(16,(w 10)),(17,(w 11)),(18,(w 12)),(19,(v 1)),(20,(w 4)),(21,(w 13)),(22,(w 14)),(23,(w 15)),(5,(w 12)),(6,(w 15)),(24,(w 12)),(25,(w 16)),(26,(w 16)),(29,(w 17))],[(0,(.lst (x 8) (x 9) 2 false)),(1,(.box [(r 1 0),(r 1 1)]))],2⟩),.no,.no,(.j ⟨2,[(4,(w 4)),(2,(.w (.c .nil))),(1,(p 0 0)),(7,(w 4)),(8,(p 0 1)),(9,(.w (.c (r 1 1)))),(10,(w 6)),(11,(w 7)),(14,(v 1)),(15,(w 4)),(16,(w 8)),(17,(w 9)),(18,(w 10)),(19,(v 1)),(20,(w 4)),(21,(w 11)),(22,(w 12)),(23,(w 13)),(5,(w 10)),(6,(w 13)),(24,(w 10)),(25,(w 14)),(26,(w 14)),(27,(w 13)),(28,(w 15)),(29,(w 15)),(30,(p 0 1)),(31,(.w (.c (r 1 1)))),(32,(w 4)),(33,(.w (.c (.tp (x 16) (x 17) 0)))),(34,(w 18)),(35,(w 10)),(36,(w 19)),(3,(.w (.c (o 1 21))))],[(0,(.box [(r 1 0),(r 1 1)])),(1,(.lst (x 20) (x 21) 2 false))],2⟩)]
theorem q176 : symF D0 100000 176 h176 = some k176 := by kernel_rfl
def k177 : K :=
 l (.shape 1) [x 0]<|
 l (.shape 2) [x 1]<|
 c 268 [x 2,x 3]<|
 l (.shape 2) [x 4]<|
.ret [x 5]
def h177 : List Hint := []
theorem q177 : symF D0 100000 177 h177 = some k177 := by kernel_rfl
def k178_1 : K :=
 l .sub [x 2,i 0,x 3]<|
.ret [x 4]
def k178_2 : K :=
 l oA [x 4,i 1]<|
 j 1 [x 9,x 10,x 13]
def k178_3 : K :=
 l oA [x 10,i 1]<|
 j 3 [x 19,x 20,x 21]
def k178_4 : K :=
.jp k178_3<|
 b (x 18) (l (.cell 1) [x 1]<|
 l (.tix 3) [x 19,x 4]<|
 l (.elt 0 0) [x 19,x 20]<|
 l (.cell 1) [x 1]<|
 l (.tix 3) [x 22,x 10]<|
 l (.elt 0 0) [x 22,x 23]<|
 l .agg [x 21,x 24]<|
 l (.bs 1 [z,z] [0]) [x 25]<|
 l .sub [x 26,i 0,i 1]<|
 l (.app 16 2) [x 8,x 9,x 27]<|
 l .len [x 28]<|
 j 4 [x 28,x 29])<|
 j 4 [x 8,x 9]
def k178_5 : K :=
 l (.cell 1) [x 1]<|
 l .len [x 11]<|
 l oL [x 10,x 12]<|
 b (x 13) (.jp k178_4<|
 l (.cell 1) [x 1]<|
 l (.tix 3) [x 14,x 10]<|
 l (.elt 1 0) [x 14,x 15]<|
 l oE [x 16,x 4]<|
 b (x 17) (j 4 [x 14,x 15,x 16,x 17,.c (.v (.bool true))])<|
 l (.cell 1) [x 1]<|
 l (.tix 3) [x 18,x 10]<|
 l (.elt 2 0) [x 18,x 19]<|
 l oE [x 20,x 4]<|
 j 4 [x 14,x 15,x 16,x 17,x 21])<|
 j 2 [x 10,x 8,x 9,x 12,x 13]
def k178_6 : K :=
 l (.cell 1) [x 1]<|
 l .len [x 5]<|
 l oL [x 4,x 6]<|
 b (x 7) (.jp k178_2<|
.loop k178_5<|
 j 3 [x 2,x 3,i 0])<|
 j 0 [x 2,x 3]
def k178 : K :=
 l (.shape 2) [x 0]<|
.jp k178_1<|
.loop k178_6<|
 j 1 [.c (.sl []),i 0,i 0]
def h178 : List Hint := [(.j ⟨2,[(3,(.w (.c (o 0 3)))),(2,(.w (.c .nil)))],[(0,(.lst (x 2) (x 3) 2 false))],1⟩),(.j ⟨3,[(1,(p 0 0)),(2,(.w (.c .nil))),(3,(.w (.c (o 1 3)))),(4,(w 4))],[(0,(.box [(r 1 0),(r 1 1)])),(1,(.lst (x 2) (x 3) 2 false))],2⟩),.no,.no,(.j ⟨5,[(5,(w 8)),(10,(w 7)),(9,(w 6)),(8,(.w (.c (r 1 1)))),(7,(p 0 1)),(6,(w 4)),(1,(p 0 0)),(2,(.w (.c .nil))),(3,(.w (.c (o 1 10)))),(4,(w 4)),(13,(w 8)),(14,(p 0 1)),(15,(.w (.c (r 1 1)))),(16,(w 11)),(17,(w 12))],[(0,(.box [(r 1 0),(r 1 1)])),(1,(.lst (x 9) (x 10) 2 false))],2⟩),(.j ⟨3,[(4,(w 4)),(3,(.w (.c (o 0 9)))),(2,(.w (.c .nil))),(1,(p 1 0)),(6,(w 4)),(7,(p 1 1)),(8,(.w (.c (r 1 1)))),(9,(w 6)),(10,(w 7)),(5,(w 10))],[(0,(.lst (x 8) (x 9) 2 false)),(1,(.box [(r 1 0),(r 1 1)]))],2⟩),.no,.no,(.j ⟨5,[(5,(w 10)),(10,(w 7)),(9,(w 6)),(8,(.w (.c (r 1 1)))),(7,(p 0 1)),(6,(w 4)),(1,(p 0 0)),(2,(.w (.c .nil))),(3,(.w (.c (o 1 9)))),(4,(w 4)),(13,(w 10)),(14,(p 0 1)),(15,(.w (.c (r 1 1)))),(16,(w 12)),(17,(w 13)),(20,(p 0 1)),(21,(.w (.c (r 1 1)))),(22,(w 10)),(23,(.w (.c (.tp (x 14) (x 15) 0)))),(24,(.w (.c (.tp (x 14) (x 15) 1)))),(25,(w 16)),(26,(w 4)),(27,(w 17)),(28,(w 17)),(37,(w 18))],[(0,(.box [(r 1 0),(r 1 1)])),(1,(.lst (x 8) (x 9) 2 false))],2⟩),(.j ⟨2,[(37,(w 18)),(28,(w 17)),(27,(w 17)),(26,(w 4)),(25,(w 16)),(24,(.w (.c (.tp (x 14) (x 15) 1)))),(23,(.w (.c (.tp (x 14) (x 15) 0)))),(22,(w 10)),(21,(.w (.c (r 1 1)))),(20,(p 0 1)),(17,(w 13)),(16,(w 12)),(15,(.w (.c (r 1 1)))),(14,(p 0 1)),(13,(w 10)),(4,(w 4)),(2,(.w (.c .nil))),(1,(p 0 0)),(6,(w 4)),(7,(p 0 1)),(8,(.w (.c (r 1 1)))),(9,(w 6)),(10,(w 7)),(5,(w 10)),(3,(.w (.c (o 1 20))))],[(0,(.box [(r 1 0),(r 1 1)])),(1,(.lst (x 19) (x 20) 2 false))],2⟩)]
theorem q178 : symF D0 100000 178 h178 = some k178 := by kernel_rfl
def k179_1 : K :=
 l .sub [x 10,i 0,x 9]<|
.ret [x 11]
def k179_2 : K :=
 l .len [x 5]<|
 l oL [x 11,x 12]<|
 b (x 13) (l (.tix 2) [x 5,x 11]<|
 l (.elt 0 0) [x 5,x 14]<|
 c 168 [x 2,x 15]<|
 l (.tix 2) [x 5,x 11]<|
 l (.elt 1 0) [x 5,x 17]<|
 l .ix [x 16,x 9]<|
 l (.set 0) [x 10,x 19,x 18]<|
 l oA [x 11,i 1]<|
 j 1 [x 20,x 21])<|
 j 0 [x 10]
def k179 : K :=
 l (.shape 1) [x 0]<|
 l (.shape 2) [x 1]<|
 c 152 [x 2,x 3]<|
 c 269 [x 4,i (-1),i 0]<|
 l (.cell 0) [x 2]<|
 l .len [x 6]<|
 l (.rep [z] 8) [x 7,x 7]<|
 l .len [x 8]<|
.jp k179_1<|
.loop k179_2<|
 j 1 [x 8,i 0]
def h179 : List Hint := [(.j ⟨1,[(6,(.w (.c (o 0 9)))),(4,(.w (.c .nil)))],[(0,(.lst (x 10) (x 9) 1 false))],1⟩),(.j ⟨2,[(2,(p 0 0)),(4,(.w (.c .nil))),(5,(w 5)),(6,(.w (.c (o 1 9)))),(7,(w 11))],[(0,(.box [(r 2 0)])),(1,(.lst (x 10) (x 9) 1 false))],2⟩),.no,.no]
theorem q179 : symF D0 100000 179 h179 = some k179 := by kernel_rfl
def k180_1 : K :=
 l .sub [x 3,i 0,x 4]<|
.ret [x 5]
def k180_2 : K :=
 l oA [x 5,i 1]<|
 j 1 [x 11,x 12,x 13]
def k180_3 : K :=
 l .len [x 1]<|
 l oL [x 5,x 6]<|
 b (x 7) (l (.tix 1) [x 1,x 5]<|
 l (.elt 0 0) [x 1,x 8]<|
 l oH [x 9,i 0]<|
.jp k180_2<|
 b (x 10) (l (.cell 0) [x 2]<|
 l (.tix 3) [x 11,x 5]<|
 l (.elt 0 0) [x 11,x 12]<|
 l (.tix 1) [x 1,x 5]<|
 l (.elt 0 0) [x 1,x 14]<|
 l .agg [x 13,x 15]<|
 l (.bs 1 [z,z] [0]) [x 16]<|
 l .sub [x 17,i 0,i 1]<|
 l (.app 16 2) [x 3,x 4,x 18]<|
 l .len [x 19]<|
 j 2 [x 19,x 20])<|
 j 2 [x 3,x 4])<|
 j 0 [x 3,x 4]
def k180 : K :=
 l (.shape 1) [x 0]<|
.jp k180_1<|
.loop k180_3<|
 j 1 [.c (.sl []),i 0,i 0]
def h180 : List Hint := [(.j ⟨2,[(5,(.w (.c (o 0 4)))),(4,(.w (.c .nil)))],[(0,(.lst (x 3) (x 4) 2 false))],1⟩),(.j ⟨3,[(1,(w 1)),(2,(p 0 0)),(4,(.w (.c .nil))),(5,(.w (.c (o 1 4)))),(6,(w 5))],[(0,(.box [(r 2 0)])),(1,(.lst (x 3) (x 4) 2 false))],2⟩),.no,.no,(.j ⟨2,[(6,(w 5)),(4,(.w (.c .nil))),(2,(p 0 0)),(1,(w 1)),(7,(w 5)),(8,(w 1)),(9,(w 6)),(10,(w 7)),(13,(w 1)),(14,(w 5)),(15,(.w (.c (.tp (x 1) (x 8) 0)))),(16,(w 9)),(17,(w 10)),(5,(.w (.c (o 1 12))))],[(0,(.box [(r 2 0)])),(1,(.lst (x 11) (x 12) 2 false))],2⟩)]
theorem q180 : symF D0 100000 180 h180 = some k180 := by kernel_rfl
end Go.Proofs.YtfghdmmapmdcgaaGreat
namespace Go.Proofs.YtfghdmmapmdcgaaGreat
open Go.Sym Go.Sym.KP
def k206_1 : K :=
.ret [x 2]
def k206 : K :=
 l (.shape 5) [x 0]<|
.jp k206_1<|
 l (.part 0 3) [x 1]<|
 c 285 [x 2]<|
 b (x 3) (j 0 [.c (.v (.bool true))])<|
 l (.cell 3) [x 1]<|
 l .len [x 4]<|
 l oG [x 5,i 210]<|
 b (x 6) (j 0 [.c (.v (.bool true))])<|
 l (.cell 4) [x 1]<|
 l .len [x 7]<|
 l oG [x 8,i 210]<|
 j 0 [x 9]
def h206 : List Hint := [(.j ⟨1,[(2,(w 2))],[],0⟩)]
theorem q206 : symF D0 100000 206 h206 = some k206 := by kernel_rfl
def k210 : K :=
 l (.shape 2) [x 0]<|
 l (.shape 2) [x 1]<|
 c 43 [x 2]<|
 c 43 [x 3]<|
 l (.mm true) [x 4,x 5]<|
.ret [x 6]
def h210 : List Hint := []
theorem q210 : symF D0 100000 210 h210 = some k210 := by kernel_rfl
def k211 : K :=
 c 287 [x 0]<|
 c 287 [x 1]<|
 b (x 2) (b (x 3) (.ret [i 0])<|
.ret [i (-1)])<|
 b (x 3) (.ret [i 1])<|
 l oL [x 0,x 1]<|
 b (x 4) (.ret [i (-1)])<|
 l oG [x 0,x 1]<|
 b (x 5) (.ret [i 1])<|
.ret [i 0]
def h211 : List Hint := [.no,.no,.no,.no,.no]
theorem q211 : symF D0 100000 211 h211 = some k211 := by kernel_rfl
def k212 : K :=
 l (.shape 3) [x 0]<|
 l (.shape 3) [x 1]<|
 l (.cell 1) [x 2]<|
 l (.cell 1) [x 3]<|
 c 288 [x 4,x 5]<|
 l oN [x 6,i 0]<|
 b (x 7) (.ret [x 6])<|
 l (.cell 2) [x 2]<|
 l (.cell 2) [x 3]<|
 c 288 [x 8,x 9]<|
.ret [x 10]
def h212 : List Hint := [.no]
theorem q212 : symF D0 100000 212 h212 = some k212 := by kernel_rfl
def k213 : K :=
 c 116 [x 0]<|
 c 116 [x 1]<|
 c 289 [x 2,x 3]<|
 l oL [x 0,i 0]<|
 l oL [x 1,i 0]<|
 l (.bbin .neq) [x 6,x 7]<|
 l .agg [x 8,x 4,x 5]<|
.ret [x 9]
def h213 : List Hint := []
theorem q213 : symF D0 100000 213 h213 = some k213 := by kernel_rfl
def k218_1 : K :=
 l .sub [x 9,i 0,x 10]<|
 l .sub [x 16,i 0,x 14]<|
 l .agg [x 17,x 18]<|
.ret [x 19,i 0]
def k218_2 : K :=
 l oH [x 17,i 0]<|
 b (x 18) (l oM [i 2,x 17]<|
 l oA [x 19,i 1]<|
 l .sub [x 9,i 0,x 10]<|
 l .sub [x 16,i 0,x 14]<|
 l .agg [x 21,x 22]<|
 c 242 [x 23,x 20]<|
 l .flat [x 24]<|
 l oM [i 2,x 17]<|
 l oA [x 26,i 2]<|
 l .sub [x 9,i 0,x 10]<|
 l .sub [x 16,i 0,x 14]<|
 l .agg [x 28,x 29]<|
 c 242 [x 30,x 27]<|
 l .flat [x 31]<|
 c 302 [x 3,x 4,x 25,x 32]<|
 l .ix [x 17,x 14]<|
 l (.set 0) [x 16,x 34,x 33]<|
 l oS [x 17,i 1]<|
 j 1 [x 35,x 36])<|
 j 0 [x 16]
def k218_3 : K :=
 l oN [x 7,i 0]<|
 b (x 8) (l .agg [.c (.sl []),.c (.sl [])]<|
.ret [x 9,x 7])<|
 c 120 [x 2]<|
 l .len [x 9]<|
 l .len [x 2]<|
 l oS [x 11,i 1]<|
 l (.rep [z] 8) [x 12,x 12]<|
 l .len [x 13]<|
 l oS [x 14,i 1]<|
.jp k218_1<|
.loop k218_2<|
 j 1 [x 13,x 15]
def k218_4 : K :=
 j 0 [x 8]
def k218_5 : K :=
 j 1 [x 10]
def k218_6 : K :=
 j 2 [x 12]
def k218_7 : K :=
.jp k218_4<|
 b (x 7) (j 1 [i 2])<|
 c 301 [x 3,x 2]<|
 l (.un .not) [x 8]<|
.jp k218_5<|
 b (x 9) (j 2 [i 6])<|
 c 250 [x 2]<|
 l (.un .not) [x 10]<|
.jp k218_6<|
 b (x 11) (j 3 [i 14])<|
 j 3 [x 5]
def k218 : K :=
 l (.shape 1) [x 0]<|
 l (.shape 2) [x 1]<|
 c 300 [x 3,x 4]<|
 l oN [x 5,i 0]<|
.jp k218_3<|
 b (x 6) (j 0 [x 5])<|
.jp k218_7<|
 l .len [x 2]<|
 l oL [x 7,i 1]<|
 b (x 8) (j 1 [.c (.v (.bool true))])<|
 l .len [x 2]<|
 l oG [x 9,i 64]<|
 j 1 [x 10]
def h218 : List Hint := [.no,(.j ⟨1,[(2,(w 2)),(3,(p 0 0)),(4,(p 1 0)),(6,(p 2 0)),(7,(wi 0)),(8,(w 7))],[(0,(.box [(r 3 0)])),(1,(.box [(r 4 0),(r 4 1)])),(2,(.box [.nil,.nil]))],3⟩),(.j ⟨1,[(2,(w 2)),(3,(p 0 0)),(4,(p 1 0)),(6,(p 2 0)),(7,(wi 0)),(8,(w 5)),(17,(w 7))],[(0,(.box [(r 3 0)])),(1,(.box [(r 4 0),(r 4 1)])),(2,(.box [.nil,.nil]))],3⟩),(.j ⟨1,[(7,(wi 0)),(6,(p 0 0)),(4,(p 1 0)),(3,(p 2 0)),(2,(w 2)),(8,(w 8))],[(0,(.box [.nil,.nil])),(1,(.box [(r 4 0),(r 4 1)])),(2,(.box [(r 3 0)]))],3⟩),(.j ⟨1,[(7,(wi 0)),(6,(p 0 0)),(4,(p 1 0)),(3,(p 2 0)),(2,(w 2)),(8,(w 10))],[(0,(.box [.nil,.nil])),(1,(.box [(r 4 0),(r 4 1)])),(2,(.box [(r 3 0)]))],3⟩),(.j ⟨1,[(7,(wi 0)),(6,(p 0 0)),(4,(p 1 0)),(3,(p 2 0)),(2,(w 2)),(8,(w 12))],[(0,(.box [.nil,.nil])),(1,(.box [(r 4 0),(r 4 1)])),(2,(.box [(r 3 0)]))],3⟩),.no,(.j ⟨1,[(9,(p 0 0)),(6,(p 3 0)),(7,(wi 0))],[(0,(.box [(o 1 10),(o 2 14)])),(1,(.lst (x 9) (x 10) 1 false)),(2,(.lst (x 16) (x 14) 1 false)),(3,(.box [.nil,.nil]))],4⟩),(.j ⟨2,[(7,(wi 0)),(6,(p 0 0)),(4,(p 1 0)),(3,(p 2 0)),(9,(p 3 0)),(10,(w 17))],[(0,(.box [.nil,.nil])),(1,(.box [(r 4 0),(r 4 1)])),(2,(.box [(r 3 0)])),(3,(.box [(o 4 10),(o 5 14)])),(4,(.lst (x 9) (x 10) 1 false)),(5,(.lst (x 16) (x 14) 1 false))],6⟩),.no,.no]
theorem q218 : symF D0 100000 218 h218 = some k218 := by kernel_rfl
def k220_1 : K :=
 l .sub [x 9,i 0,x 10]<|
 l .agg [x 8,x 11]<|
.ret [x 12,i 0]
def k220_2 : K :=
 l (.cell 0) [x 18]<|
 l .agg [x 25,x 19,i (-1)]<|
 l (.bs 1 [z,z,z] [0]) [x 26]<|
 l .sub [x 27,i 0,i 1]<|
 l (.app 24 3) [x 24,x 10,x 28]<|
 l .len [x 29]<|
 l (.bs 1 [z] [0]) [x 14]<|
 l .sub [x 31,i 0,i 1]<|
 l (.appK 8 1) [x 11,x 20,x 32]<|
 l .len [x 33]<|
 l .len [x 32]<|
 l .sum [x 20,x 35]<|
 l oA [x 14,i 1]<|
 j 1 [x 23,x 29,x 30,x 33,x 34,x 36,x 37]
def k220_3 : K :=
 l oG [x 20,i 0]<|
.jp k220_2<|
 b (x 22) (l oS [x 20,i 1]<|
 l .ix [x 23,x 20]<|
 l (.elt 0 0) [x 11,x 24]<|
 l .ix [x 25,x 10]<|
 l (.set 2) [x 9,x 26,x 14]<|
 j 2 [x 8,x 27])<|
 j 2 [x 14,x 9]
def k220_4 : K :=
 l oG [x 19,i 0]<|
 b (x 21) (l oS [x 19,i 1]<|
 l .ix [x 22,x 19]<|
 l (.elt 0 0) [x 11,x 23]<|
 l (.cell 0) [x 2]<|
 l (.tix 3) [x 25,x 24]<|
 l (.elt 0 3) [x 25,x 26]<|
 c 249 [x 27,x 18,x 3]<|
 b (x 28) (j 2 [x 20,x 19,x 21])<|
 l oS [x 19,i 1]<|
 l .bnd [x 30,x 12]<|
 j 3 [x 31,x 24])<|
 j 2 [x 20,x 19,x 21]
def k220_5 : K :=
 l oL [x 14,x 7]<|
 b (x 15) (l (.cell 0) [x 2]<|
 l (.tix 3) [x 16,x 14]<|
 l (.elt 0 3) [x 16,x 17]<|
.jp k220_3<|
.loop k220_4<|
 j 3 [x 13,i (-1)])<|
 j 0 [x 8,x 9,x 10]
def k220 : K :=
 l (.shape 1) [x 0]<|
 l (.shape 2) [x 1]<|
 c 303 [x 2,x 3]<|
 l oN [x 4,i 0]<|
 b (x 5) (l .agg [i 0,.c (.sl [])]<|
.ret [x 6,x 4])<|
 l (.cell 0) [x 2]<|
 l .len [x 6]<|
.jp k220_1<|
.loop k220_5<|
 j 1 [i (-1),.c (.sl []),i 0,.c (.sl []),i 0,i 0,i 0]
def h220 : List Hint := [.no,(.j ⟨3,[(7,(p 0 0)),(5,(wi 0)),(4,(p 2 0))],[(0,(.box [(a 8),(o 1 10)])),(1,(.lst (x 9) (x 10) 3 false)),(2,(.box [(.a (i 0)),.nil]))],3⟩),(.j ⟨7,[(2,(p 0 0)),(3,(p 1 0)),(4,(p 2 0)),(5,(wi 0)),(7,(p 3 0)),(8,(.w (.c (o 5 13)))),(24,(.w (.c (r 2 0)))),(25,(w 7)),(26,(w 14))],[(0,(.box [(r 2 0)])),(1,(.box [(r 3 0),(r 3 1)])),(2,(.box [(.a (i 0)),.nil])),(3,(.box [(a 8),(o 4 10)])),(4,(.lst (x 9) (x 10) 3 false)),(5,(.lst (x 11) (x 12) 1 false))],6⟩),.no,.no,(.j ⟨3,[(11,(p 0 0)),(33,(.w (.agg [(r 18 0),(.a (i (-1))),(.a (i (-1)))]))),(32,(.w (.c (r 18 0)))),(31,(p 1 0)),(9,(w 14)),(10,(p 1 0)),(30,(v 18)),(29,(.w (.c (.tp (x 16) (x 17) 0)))),(28,(w 14)),(27,(w 15)),(2,(p 2 0)),(3,(p 3 0)),(4,(p 4 0)),(5,(wi 0)),(7,(p 5 0)),(8,(.w (.c (o 7 20)))),(24,(.w (.c (r 2 0)))),(25,(w 7)),(26,(w 14)),(34,(.w (.c (o 7 20)))),(35,(w 20)),(36,(w 21))],[(0,(.box [(r 18 0),(a 19),(.a (i (-1)))])),(1,(.box (pcs (x 18) 0 3))),(2,(.box [(r 2 0)])),(3,(.box [(r 3 0),(r 3 1)])),(4,(.box [(.a (i 0)),.nil])),(5,(.box [(a 8),(o 6 10)])),(6,(.lst (x 9) (x 10) 3 false)),(7,(.lst (x 11) (x 12) 1 false))],8⟩),(.j ⟨2,[(26,(w 14)),(25,(w 7)),(24,(.w (.c (r 2 0)))),(8,(.w (.c (o 0 19)))),(7,(p 1 0)),(5,(wi 0)),(4,(p 3 0)),(3,(p 4 0)),(2,(p 5 0)),(27,(w 15)),(28,(w 14)),(29,(.w (.c (.tp (x 16) (x 17) 0)))),(30,(v 18)),(10,(p 6 0)),(9,(w 14)),(31,(p 6 0)),(32,(.w (.c (r 18 0)))),(33,(.w (.agg [(r 18 0),(.a (i (-1))),(.a (i (-1)))]))),(11,(p 7 0))],[(0,(.lst (x 11) (x 12) 1 false)),(1,(.box [(a 8),(o 2 10)])),(2,(.lst (x 9) (x 10) 3 false)),(3,(.box [(.a (i 0)),.nil])),(4,(.box [(r 3 0),(r 3 1)])),(5,(.box [(r 2 0)])),(6,(.box (pcs (x 18) 0 3))),(7,(.box [(r 18 0),(a 20),(.a (i (-1)))]))],8⟩),.no,.no,.no,(.j ⟨2,[(36,(w 21)),(35,(w 20)),(34,(.w (.c (o 0 20)))),(26,(w 14)),(25,(w 7)),(24,(.w (.c (r 2 0)))),(8,(.w (.c (o 0 20)))),(7,(p 1 0)),(5,(wi 0)),(4,(p 3 0)),(3,(p 4 0)),(2,(p 5 0)),(27,(w 15)),(28,(w 14)),(29,(.w (.c (.tp (x 16) (x 17) 0)))),(30,(v 18)),(10,(p 6 0)),(9,(w 14)),(31,(p 6 0)),(32,(.w (.c (r 18 0)))),(33,(.w (.agg [(r 18 0),(.a (i (-1))),(.a (i (-1)))]))),(11,(p 7 0)),(62,(.w (.c (o 0 20)))),(63,(w 20)),(64,(w 22))],[(0,(.lst (x 11) (x 12) 1 false)),(1,(.box [(a 23),(o 2 10)])),(2,(.lst (x 24) (x 10) 3 false)),(3,(.box [(.a (i 0)),.nil])),(4,(.box [(r 3 0),(r 3 1)])),(5,(.box [(r 2 0)])),(6,(.box (pcs (x 18) 0 3))),(7,(.box [(r 18 0),(a 19),(.a (i (-1)))]))],8⟩)]
theorem q220 : symF D0 100000 220 h220 = some k220 := by kernel_rfl
def k221_1 : K :=
 l oA [x 3,i 1]<|
 l .sub [x 20,i 0,x 21]<|
 c 221 [x 25,x 6,x 15,x 24,.c (.sl []),x 18]<|
 l oA [x 3,i 1]<|
 l .sub [x 22,i 0,x 23]<|
 c 221 [x 28,x 6,x 15,x 27,.c (.sl []),x 26]<|
.ret [x 29]
def k221_2 : K :=
 l oA [x 24,i 1]<|
 j 1 [x 30,x 31,x 32,x 33,x 34]
def k221_3 : K :=
 l oL [x 24,x 19]<|
 b (x 25) (l (.tix 3) [x 0,x 24]<|
 l (.elt 0 3) [x 0,x 26]<|
 l (.cell 0) [x 27]<|
 l oN [x 28,x 15]<|
.jp k221_2<|
 b (x 29) (l (.cell 0) [x 27]<|
 l (.bin .shr) [x 30,x 3]<|
 l (.bin .and) [x 31,i 1]<|
 l oE [x 32,i 0]<|
 b (x 33) (l (.bs 1 [z,z,z] [0]) [x 27]<|
 l .sub [x 34,i 0,i 1]<|
 l (.app 24 3) [x 20,x 21,x 35]<|
 l .len [x 36]<|
 j 2 [x 36,x 37,x 22,x 23])<|
 l oE [x 32,i 1]<|
 b (x 34) (l (.bs 1 [z,z,z] [0]) [x 27]<|
 l .sub [x 35,i 0,i 1]<|
 l (.app 24 3) [x 22,x 23,x 36]<|
 l .len [x 37]<|
 j 2 [x 20,x 21,x 37,x 38])<|
.dead)<|
 j 2 [x 20,x 21,x 22,x 23])<|
 j 0 [x 20,x 21,x 22,x 23]
def k221_4 : K :=
 l (.mset [.i] 1) [x 5,x 15,x 2]<|
 l .len [x 0]<|
.jp k221_1<|
.loop k221_3<|
 j 1 [.c (.sl []),i 0,.c (.sl []),i 0,i 0]
def k221_5 : K :=
 l oA [x 18,i 1]<|
 j 1 [x 25,x 26,x 27,x 28]
def k221_6 : K :=
 l oL [x 18,x 14]<|
 b (x 19) (l (.tix 3) [x 13,x 18]<|
 l (.elt 0 3) [x 13,x 20]<|
 l .agg [x 15,x 16,x 17]<|
 c 249 [x 21,x 22,x 6]<|
.jp k221_5<|
 b (x 23) (l (.cell 0) [x 21]<|
 l (.cell 1) [x 21]<|
 l (.cell 2) [x 21]<|
 j 2 [x 25,x 26,x 27])<|
 j 2 [x 15,x 16,x 17])<|
 j 0 [x 15,x 16,x 17]
def k221 : K :=
 l (.shape 2) [x 1]<|
 l .len [x 0]<|
 l oE [x 7,i 0]<|
 b (x 8) (.ret [x 5])<|
 l (.tix 3) [x 0,i 0]<|
 l (.elt 0 3) [x 0,x 9]<|
 l .len [x 0]<|
 l .bnd [i 1,x 11]<|
 l (.tsub 3) [x 0,x 12,x 11]<|
 l .len [x 13]<|
.jp k221_4<|
.loop k221_6<|
 l (.cell 0) [x 10]<|
 l (.cell 1) [x 10]<|
 l (.cell 2) [x 10]<|
 j 1 [x 15,x 16,x 17,i 0]
def h221 : List Hint := [.no,(.j ⟨3,[(10,(p 1 0)),(6,(p 2 0)),(0,(w 0)),(2,(w 2)),(3,(w 3)),(4,(.w (.c (.mp 0))))],[(0,(.map (x 5) false 1 false)),(1,(.box [(a 15),(a 16),(a 17)])),(2,(.box [(r 6 0),(r 6 1)]))],3⟩),(.j ⟨4,[(4,(.w (.c (.mp 0)))),(3,(w 3)),(2,(w 2)),(0,(w 0)),(6,(p 1 0)),(10,(p 2 0)),(26,(w 13)),(27,(w 14)),(28,(w 18))],[(0,(.map (x 5) false 1 false)),(1,(.box [(r 6 0),(r 6 1)])),(2,(.box [(a 15),(a 16),(a 17)]))],3⟩),.no,.no,(.j ⟨3,[(28,(w 18)),(27,(w 14)),(26,(w 13)),(10,(p 1 0)),(6,(p 2 0)),(0,(w 0)),(2,(w 2)),(3,(w 3)),(4,(.w (.c (.mp 0)))),(29,(w 19)),(30,(.w (.c (.tp (x 13) (x 20) 0)))),(31,(v 21)),(12,(p 3 0)),(33,(v 21)),(34,(.w (.agg [(a 15),(a 16),(a 17)]))),(35,(v 6)),(36,(.tup [(.c (a 23)),(.c (a 24))])),(32,(.tup [(.c (a 23)),(.c (a 24))])),(37,(w 23)),(38,(w 24)),(13,(w 23)),(39,(w 23))],[(0,(.map (x 5) false 1 false)),(1,(.box [(a 25),(a 26),(a 27)])),(2,(.box [(r 6 0),(r 6 1)])),(3,(.box (pcs (x 21) 0 3)))],4⟩),(.j ⟨4,[(15,(p 1 0)),(10,(p 4 0)),(6,(p 5 0)),(3,(w 3)),(4,(.w (.c (.mp 0))))],[(0,(.map (x 18) false 1 false)),(1,(.box [(o 2 21),(o 3 23)])),(2,(.lst (x 20) (x 21) 3 false)),(3,(.lst (x 22) (x 23) 3 false)),(4,(.box [(a 15),(a 16),(a 17)])),(5,(.box [(r 6 0),(r 6 1)]))],6⟩),(.j ⟨5,[(4,(.w (.c (.mp 0)))),(3,(w 3)),(6,(p 1 0)),(10,(p 2 0)),(15,(p 3 0)),(46,(w 0)),(47,(w 19)),(48,(w 24))],[(0,(.map (x 18) false 1 false)),(1,(.box [(r 6 0),(r 6 1)])),(2,(.box [(a 15),(a 16),(a 17)])),(3,(.box [(o 4 21),(o 5 23)])),(4,(.lst (x 20) (x 21) 3 false)),(5,(.lst (x 22) (x 23) 3 false))],6⟩),.no,.no,(.j ⟨4,[(48,(w 24)),(47,(w 19)),(46,(w 0)),(15,(p 1 0)),(10,(p 4 0)),(6,(p 5 0)),(3,(w 3)),(4,(.w (.c (.mp 0)))),(49,(w 25)),(50,(.w (.c (.tp (x 0) (x 26) 0)))),(51,(v 27)),(17,(p 6 0)),(52,(p 6 0)),(53,(.w (.c (r 27 0)))),(54,(p 4 0)),(55,(w 15)),(56,(w 29))],[(0,(.map (x 18) false 1 false)),(1,(.box [(o 2 31),(o 3 33)])),(2,(.lst (x 30) (x 31) 3 false)),(3,(.lst (x 32) (x 33) 3 false)),(4,(.box [(a 15),(a 16),(a 17)])),(5,(.box [(r 6 0),(r 6 1)])),(6,(.box (pcs (x 27) 0 3)))],7⟩)]
theorem q221 : symF D0 100000 221 h221 = some k221 := by kernel_rfl
def k222_1 : K :=
.ret [x 2]
def k222_2 : K :=
 l oN [x 2,.c (.v (.int .u64 0))]<|
 b (x 4) (l (.bin .rem) [x 3,x 2]<|
 j 1 [x 5,x 2])<|
 j 0 [x 3]
def k222 : K :=
.jp k222_1<|
.loop k222_2<|
 j 1 [x 1,x 0]
def h222 : List Hint := [(.j ⟨1,[(4,(.w (.c (.a (.c (.v (.int .u64 0))))))),(0,(w 2))],[],0⟩),(.j ⟨2,[(1,(w 2)),(0,(w 3)),(4,(.w (.c (.a (.c (.v (.int .u64 0)))))))],[],0⟩),.no,.no]
theorem q222 : symF D0 100000 222 h222 = some k222 := by kernel_rfl
def k223 : K :=
 l oL [x 0,i 0]<|
 b (x 1) (l oA [x 0,i 1]<|
 l (.un .neg) [x 2]<|
 l (.conv .u64) [x 3]<|
 l oA [x 4,.c (.v (.int .u64 1))]<|
.ret [x 5])<|
 l (.conv .u64) [x 0]<|
.ret [x 2]
def h223 : List Hint := [.no]
theorem q223 : symF D0 100000 223 h223 = some k223 := by kernel_rfl
def k224 : K :=
 l (.shape 2) [x 0]<|
 l (.shape 2) [x 1]<|
 l (.cell 0) [x 2]<|
 l (.cell 1) [x 3]<|
 c 304 [x 4,x 5]<|
 l (.cell 0) [x 3]<|
 l (.cell 1) [x 2]<|
 c 304 [x 7,x 8]<|
 l (.shape 3) [x 6]<|
 l (.shape 3) [x 9]<|
 l (.part 0 3) [x 10]<|
 c 305 [x 12]<|
 l (.part 0 3) [x 11]<|
 c 305 [x 14]<|
 l oN [x 13,x 15]<|
 b (x 16) (l (.part 0 3) [x 10]<|
 c 305 [x 17]<|
 l (.part 0 3) [x 11]<|
 c 305 [x 19]<|
 l oL [x 18,x 20]<|
 b (x 21) (.ret [i (-1)])<|
.ret [i 1])<|
 l (.part 0 3) [x 10]<|
 c 305 [x 17]<|
 l oL [x 18,i 0]<|
 b (x 19) (l (.part 0 3) [x 11]<|
 l (.part 0 3) [x 10]<|
 c 306 [x 20,x 21]<|
.ret [x 22])<|
 l (.part 0 3) [x 10]<|
 l (.part 0 3) [x 11]<|
 c 306 [x 20,x 21]<|
.ret [x 22]
def h224 : List Hint := [.no,.no,.no]
theorem q224 : symF D0 100000 224 h224 = some k224 := by kernel_rfl
def k229_1 : K :=
.ret [.c (.v (.bool true))]
def k229_2 : K :=
 l (.cell 1) [x 2]<|
 l .len [x 13]<|
 l oL [x 12,x 14]<|
 b (x 15) (l (.cell 1) [x 2]<|
 l (.tix 3) [x 16,x 12]<|
 l (.elt 0 3) [x 16,x 17]<|
 l (.cell 1) [x 3]<|
 l (.tix 3) [x 19,x 12]<|
 l (.elt 0 3) [x 19,x 20]<|
 l (.eqv [.i,.i,.i]) [x 18,x 21]<|
 l (.un .not) [x 22]<|
 b (x 23) (.ret [.c (.v (.bool false))])<|
 l oA [x 12,i 1]<|
 j 1 [x 24])<|
 j 0 []
def k229 : K :=
 l (.shape 2) [x 0]<|
 l (.shape 2) [x 1]<|
 l (.cell 0) [x 2]<|
 l (.cell 0) [x 3]<|
 l oN [x 4,x 5]<|
 b (x 6) (.ret [.c (.v (.bool false))])<|
 l (.cell 1) [x 2]<|
 l .len [x 7]<|
 l (.cell 1) [x 3]<|
 l .len [x 9]<|
 l oN [x 8,x 10]<|
 b (x 11) (.ret [.c (.v (.bool false))])<|
.jp k229_1<|
.loop k229_2<|
 j 1 [i 0]
def h229 : List Hint := [.no,.no,(.j ⟨0,[(4,(.w (.c (.a (.c (.v (.bool false)))))))],[],0⟩),(.j ⟨1,[(2,(p 0 0)),(3,(p 1 0)),(4,(.w (.c (.a (.c (.v (.bool false))))))),(5,(w 12))],[(0,(.box [(r 2 0),(r 2 1)])),(1,(.box [(r 3 0),(r 3 1)]))],2⟩),.no,.no,.no]
theorem q229 : symF D0 100000 229 h229 = some k229 := by kernel_rfl
end Go.Proofs.YtfghdmmapmdcgaaGreat
