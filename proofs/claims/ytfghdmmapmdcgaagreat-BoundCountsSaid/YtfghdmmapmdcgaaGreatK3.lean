import Derived.Test.YtfghdmmapmdcgaaGreatBcD
set_option linter.unusedVariables false
set_option linter.unusedSimpArgs false
set_option linter.defProp false
noncomputable section
namespace Go.Proofs.YtfghdmmapmdcgaaGreat
open Go.Sym Go.Sym.KP
def k230_1 : K :=
.ret [.c (.v (.bool true))]
def k230_2 : K :=
 l (.cell 3) [x 2]<|
 l .len [x 18]<|
 l oL [x 17,x 19]<|
 b (x 20) (l (.cell 3) [x 2]<|
 l (.tix 5) [x 21,x 17]<|
 l (.elt 0 5) [x 21,x 22]<|
 l (.cell 3) [x 3]<|
 l (.tix 5) [x 24,x 17]<|
 l (.elt 0 5) [x 24,x 25]<|
 l (.eqv [.i,.i,.i,.i,.i]) [x 23,x 26]<|
 l (.un .not) [x 27]<|
 b (x 28) (.ret [.c (.v (.bool false))])<|
 l oA [x 17,i 1]<|
 j 1 [x 29])<|
 j 0 []
def k230 : K :=
 l (.shape 5) [x 0]<|
 l (.shape 5) [x 1]<|
 l (.part 0 3) [x 2]<|
 l (.part 0 3) [x 3]<|
 c 312 [x 4,x 5]<|
 l (.un .not) [x 6]<|
 b (x 7) (.ret [.c (.v (.bool false))])<|
 l (.cell 4) [x 2]<|
 l (.cell 4) [x 3]<|
 c 313 [x 8,x 9]<|
 l (.un .not) [x 10]<|
 b (x 11) (.ret [.c (.v (.bool false))])<|
 l (.cell 3) [x 2]<|
 l .len [x 12]<|
 l (.cell 3) [x 3]<|
 l .len [x 14]<|
 l oN [x 13,x 15]<|
 b (x 16) (.ret [.c (.v (.bool false))])<|
.jp k230_1<|
.loop k230_2<|
 j 1 [i 0]
def h230 : List Hint := [.no,.no,(.j ⟨0,[(4,(.w (.c (.a (.c (.v (.bool false)))))))],[],0⟩),(.j ⟨1,[(2,(p 0 0)),(3,(p 1 0)),(4,(.w (.c (.a (.c (.v (.bool false))))))),(5,(w 17))],[(0,(.box (pcs (x 2) 0 5))),(1,(.box (pcs (x 3) 0 5)))],2⟩),.no,.no,.no]
theorem q230 : symF D0 100000 230 h230 = some k230 := by kernel_rfl
def k231_1 : K :=
.ret [i 0]
def k231_2 : K :=
 b (x 15) (.ret [i 32])<|
 l oA [x 9,i 1]<|
 j 1 [x 16]
def k231_3 : K :=
 l oL [x 9,x 8]<|
 b (x 10) (l (.cell 0) [x 1]<|
 l (.tix 3) [x 11,x 9]<|
 l (.elt 0 3) [x 11,x 12]<|
.jp k231_2<|
 l oG [x 9,i 0]<|
 b (x 14) (l oS [x 9,i 1]<|
 l (.cell 0) [x 1]<|
 l (.tix 3) [x 16,x 15]<|
 l (.elt 0 0) [x 16,x 17]<|
 l (.cell 0) [x 13]<|
 l oH [x 18,x 19]<|
 j 2 [x 14,x 20])<|
 j 2 [x 14,.c (.v (.bool false))])<|
 j 0 []
def k231_4 : K :=
 l (.cell 0) [x 1]<|
 l .len [x 7]<|
.jp k231_1<|
.loop k231_3<|
 j 1 [i 0]
def k231_5 : K :=
 l oL [x 7,x 6]<|
 b (x 8) (l (.cell 0) [x 1]<|
 l (.tix 3) [x 9,x 7]<|
 l (.elt 0 3) [x 9,x 10]<|
 c 270 [x 11]<|
 l oN [x 12,i 0]<|
 b (x 13) (.ret [x 12])<|
 l oA [x 7,i 1]<|
 j 1 [x 14])<|
 j 0 []
def k231 : K :=
 l (.shape 1) [x 0]<|
 l (.cell 0) [x 1]<|
 l .len [x 2]<|
 l oG [x 3,i 64]<|
 b (x 4) (.ret [i 4])<|
 l (.cell 0) [x 1]<|
 l .len [x 5]<|
.jp k231_4<|
.loop k231_5<|
 j 1 [i 0]
def h231 : List Hint := [.no,(.j ⟨0,[(2,(wi 0)),(1,(p 0 0))],[(0,(.box [(r 1 0)]))],1⟩),(.j ⟨1,[(1,(p 0 0)),(2,(wi 0)),(13,(.w (.c (r 1 0)))),(14,(w 6)),(15,(w 7))],[(0,(.box [(r 1 0)]))],1⟩),.no,.no,.no,(.j ⟨0,[(2,(wi 0))],[],0⟩),(.j ⟨1,[(1,(p 0 0)),(2,(wi 0)),(26,(.w (.c (r 1 0)))),(27,(w 8)),(28,(w 9))],[(0,(.box [(r 1 0)]))],1⟩),.no,.no,(.j ⟨2,[(28,(w 9)),(27,(w 8)),(26,(.w (.c (r 1 0)))),(2,(wi 0)),(1,(p 0 0)),(29,(w 10)),(30,(w 9)),(31,(.w (.c (.tp (x 11) (x 12) 0)))),(32,(v 13)),(7,(p 1 0)),(6,(w 9)),(33,(w 9)),(34,(w 14)),(35,(w 14)),(46,(w 15))],[(0,(.box [(r 1 0)])),(1,(.box (pcs (x 13) 0 3)))],2⟩),.no]
theorem q231 : symF D0 100000 231 h231 = some k231 := by kernel_rfl
def k239 : K :=
 l (.shape 3) [x 0]<|
 l (.cell 0) [x 1]<|
 l oL [x 2,i 0]<|
 b (x 3) (.ret [i 8])<|
 l (.cell 0) [x 1]<|
 l oG [x 4,i 65535]<|
 b (x 5) (.ret [i 8])<|
 l (.cell 1) [x 1]<|
 l oL [x 6,i (-1048576)]<|
 b (x 7) (.ret [i 8])<|
 l (.cell 1) [x 1]<|
 l oG [x 8,i 1048576]<|
 b (x 9) (.ret [i 8])<|
 l (.cell 2) [x 1]<|
 l oL [x 10,i (-1048576)]<|
 b (x 11) (.ret [i 8])<|
 l (.cell 2) [x 1]<|
 l oG [x 12,i 1048576]<|
 b (x 13) (.ret [i 8])<|
.ret [i 0]
def h239 : List Hint := [.no,.no]
theorem q239 : symF D0 100000 239 h239 = some k239 := by kernel_rfl
def k242 : K :=
 l (.shape 2) [x 0]<|
 l (.cell 1) [x 2]<|
 l .len [x 3]<|
 l oS [x 1,x 4]<|
 l oH [x 5,i 0]<|
 b (x 6) (l (.cell 0) [x 2]<|
 l (.tix 1) [x 7,x 5]<|
 l (.elt 0 0) [x 7,x 8]<|
.ret [x 9])<|
 l (.cell 1) [x 2]<|
 l (.tix 1) [x 7,x 1]<|
 l (.elt 0 0) [x 7,x 8]<|
.ret [x 9]
def h242 : List Hint := [.no]
theorem q242 : symF D0 100000 242 h242 = some k242 := by kernel_rfl
def k243_1 : K :=
.ret [x 6]
def k243_2 : K :=
 l oA [x 7,i 1]<|
 j 1 [x 16,x 17]
def k243_3 : K :=
.jp k243_2<|
 b (x 15) (l oA [x 6,i 1]<|
 j 2 [x 16])<|
 j 2 [x 6]
def k243_4 : K :=
 l (.cell 0) [x 3]<|
 l .len [x 8]<|
 l oL [x 7,x 9]<|
 b (x 10) (.jp k243_3<|
 l (.cell 0) [x 3]<|
 l (.tix 3) [x 11,x 7]<|
 l (.elt 0 0) [x 11,x 12]<|
 l (.cell 0) [x 4]<|
 l oN [x 13,x 14]<|
 b (x 15) (l (.cell 0) [x 3]<|
 l (.tix 3) [x 16,x 7]<|
 l (.elt 0 3) [x 16,x 17]<|
 c 323 [x 18,x 4,x 5]<|
 j 2 [x 11,x 12,x 13,x 15,x 19])<|
 j 2 [x 11,x 12,x 13,x 15,.c (.v (.bool false))])<|
 j 0 [x 6]
def k243 : K :=
 l (.shape 1) [x 0]<|
 l (.shape 3) [x 1]<|
 l (.shape 2) [x 2]<|
.jp k243_1<|
.loop k243_4<|
 j 1 [i 0,i 0]
def h243 : List Hint := [(.j ⟨1,[(7,(w 6)),(6,(wi 0))],[],0⟩),(.j ⟨2,[(3,(p 0 0)),(4,(p 1 0)),(5,(p 2 0)),(6,(wi 0)),(7,(w 6)),(8,(w 7))],[(0,(.box [(r 3 0)])),(1,(.box (pcs (x 4) 0 3))),(2,(.box [(r 5 0),(r 5 1)]))],3⟩),.no,.no,(.j ⟨5,[(8,(w 7)),(7,(w 6)),(6,(wi 0)),(5,(p 0 0)),(4,(p 1 0)),(3,(p 2 0)),(9,(w 7)),(10,(p 2 0)),(11,(.w (.c (r 3 0)))),(12,(w 9)),(13,(w 10)),(16,(p 2 0)),(17,(.w (.c (r 3 0)))),(18,(w 7)),(19,(.w (.c (.tp (x 11) (x 12) 0)))),(20,(.w (.c (.tp (x 11) (x 12) 0)))),(21,(w 13)),(22,(p 1 0)),(23,(.w (.c (r 4 0)))),(24,(w 14)),(25,(w 14)),(34,(w 15))],[(0,(.box [(r 5 0),(r 5 1)])),(1,(.box (pcs (x 4) 0 3))),(2,(.box [(r 3 0)]))],3⟩),(.j ⟨1,[(34,(w 15)),(25,(w 14)),(24,(w 14)),(23,(.w (.c (r 4 0)))),(22,(p 0 0)),(21,(w 13)),(20,(.w (.c (.tp (x 11) (x 12) 0)))),(19,(.w (.c (.tp (x 11) (x 12) 0)))),(18,(w 7)),(17,(.w (.c (r 3 0)))),(16,(p 1 0)),(13,(w 10)),(12,(w 9)),(11,(.w (.c (r 3 0)))),(10,(p 1 0)),(9,(w 7)),(3,(p 1 0)),(4,(p 0 0)),(5,(p 2 0)),(6,(wi 0)),(8,(w 7)),(7,(w 16))],[(0,(.box (pcs (x 4) 0 3))),(1,(.box [(r 3 0)])),(2,(.box [(r 5 0),(r 5 1)]))],3⟩)]
theorem q243 : symF D0 100000 243 h243 = some k243 := by kernel_rfl
def k244_1 : K :=
.ret [i 0]
def k244_2 : K :=
 l oL [x 13,x 10]<|
 b (x 14) (l (.cell 1) [x 1]<|
 l (.tix 3) [x 15,x 13]<|
 l (.elt 0 3) [x 15,x 16]<|
 l (.part 1 2) [x 17]<|
 c 324 [x 18]<|
 l (.un .not) [x 19]<|
 b (x 20) (.ret [i 8])<|
 l (.part 1 2) [x 17]<|
 l (.mget [.i,.i] [(.v (.bool false))]) [x 11,x 21]<|
 b (x 22) (.ret [i 8])<|
 l (.cell 0) [x 17]<|
 l oK [x 23,x 12]<|
 b (x 24) (.ret [i 8])<|
 l (.cell 0) [x 17]<|
 l (.cell 0) [x 1]<|
 l oH [x 25,x 26]<|
 b (x 27) (.ret [i 8])<|
 l (.part 1 2) [x 17]<|
 l (.mset [.i,.i] 1) [x 11,x 28,.c (.v (.bool true))]<|
 l oA [x 13,i 1]<|
 l (.cell 0) [x 17]<|
 j 1 [x 29,x 31,x 30])<|
 j 0 []
def k244 : K :=
 l (.shape 2) [x 0]<|
 l (.cell 1) [x 1]<|
 l .len [x 2]<|
 l oG [x 3,i 200]<|
 b (x 4) (.ret [i 8])<|
 l (.cell 0) [x 1]<|
 l oL [x 5,i 0]<|
 b (x 6) (.ret [i 8])<|
 l (.cell 0) [x 1]<|
 l oG [x 7,i 1000000]<|
 b (x 8) (.ret [i 8])<|
 l (.cell 1) [x 1]<|
 l .len [x 9]<|
.jp k244_1<|
.loop k244_2<|
 j 1 [.c (.sl []),i (-1),i 0]
def h244 : List Hint := [.no,.no,(.j ⟨0,[(2,(wi 0))],[],0⟩),(.j ⟨3,[(1,(p 0 0)),(2,(wi 0)),(3,(.w (.c (.mp 1)))),(4,(w 12)),(23,(.w (.c (r 1 1)))),(24,(w 10)),(25,(w 13))],[(0,(.box [(r 1 0),(r 1 1)])),(1,(.map (x 11) true 2 false))],2⟩),.no,.no,.no,.no]
theorem q244 : symF D0 100000 244 h244 = some k244 := by kernel_rfl
def k245_1 : K :=
.ret [i 0]
def k245_2 : K :=
 b (x 40) (.ret [i 8])<|
 l oA [x 23,i 1]<|
 j 1 [x 38,x 41]
def k245_3 : K :=
 l oL [x 23,x 21]<|
 b (x 24) (l (.cell 3) [x 1]<|
 l (.tix 5) [x 25,x 23]<|
 l (.elt 0 5) [x 25,x 26]<|
 l (.part 0 2) [x 27]<|
 c 43 [x 28]<|
 l oN [x 29,i 0]<|
 b (x 30) (.ret [i 8])<|
 l (.cell 2) [x 27]<|
 l oL [x 31,i 0]<|
 b (x 32) (.ret [i 8])<|
 l (.cell 2) [x 27]<|
 l oG [x 33,i 1000000]<|
 b (x 34) (.ret [i 8])<|
 l (.cell 2) [x 27]<|
 l (.mget [.i] [(.v (.bool false))]) [x 22,x 35]<|
 b (x 36) (.ret [i 8])<|
 l (.cell 2) [x 27]<|
 l (.mset [.i] 1) [x 22,x 37,.c (.v (.bool true))]<|
.jp k245_2<|
 l oG [x 23,i 0]<|
 b (x 39) (l oS [x 23,i 1]<|
 l (.bin .quo) [x 40,i 2]<|
 l (.cell 3) [x 1]<|
 l (.tix 5) [x 42,x 41]<|
 l (.elt 0 5) [x 42,x 43]<|
 c 326 [x 27,x 44]<|
 l oL [x 45,i 0]<|
 j 2 [x 39,x 46])<|
 j 2 [x 39,.c (.v (.bool false))])<|
 j 0 []
def k245_4 : K :=
 l (.cell 3) [x 1]<|
 l .len [x 20]<|
.jp k245_1<|
.loop k245_3<|
 j 1 [.c (.sl []),i 0]
def k245_5 : K :=
 l oA [x 20,i 1]<|
 j 1 [x 29]
def k245_6 : K :=
 l oL [x 20,x 19]<|
 b (x 21) (.jp k245_5<|
 l (.cell 4) [x 1]<|
 l (.tix 1) [x 22,x 20]<|
 l (.elt 0 0) [x 22,x 23]<|
 l (.cell 1) [x 1]<|
 l (.tix 1) [x 25,x 20]<|
 l (.elt 0 0) [x 25,x 26]<|
 l (.un .not) [x 27]<|
 b (x 28) (l oN [x 24,i (-1)]<|
 b (x 29) (.ret [i 8])<|
 j 2 [x 22,x 23,x 24,x 25,x 26,x 27,x 28])<|
 l oL [x 24,i 0]<|
 b (x 29) (.ret [i 8])<|
 l (.cell 3) [x 1]<|
 l .len [x 30]<|
 l oH [x 24,x 31]<|
 b (x 32) (.ret [i 8])<|
 l (.cell 3) [x 1]<|
 l (.tix 5) [x 33,x 24]<|
 l (.elt 3 2) [x 33,x 34]<|
 l (.cell 0) [x 1]<|
 l (.tix 1) [x 36,x 20]<|
 l (.elt 0 0) [x 36,x 37]<|
 l .agg [x 20,x 38]<|
 l (.eqv [.i,.i]) [x 35,x 39]<|
 l (.un .not) [x 40]<|
 b (x 41) (.ret [i 8])<|
 j 2 [x 22,x 23,x 24,x 25,x 26,x 27,x 28])<|
 j 0 []
def k245 : K :=
 l (.shape 5) [x 0]<|
 l (.part 0 3) [x 1]<|
 c 325 [x 2]<|
 l oN [x 3,i 0]<|
 b (x 4) (.ret [i 8])<|
 l (.cell 4) [x 1]<|
 l .len [x 5]<|
 l (.cell 1) [x 1]<|
 l .len [x 7]<|
 l oN [x 6,x 8]<|
 b (x 9) (.ret [i 8])<|
 l (.cell 3) [x 1]<|
 l .len [x 10]<|
 l (.cell 1) [x 1]<|
 l .len [x 12]<|
 l (.cell 2) [x 1]<|
 l .len [x 14]<|
 l oS [x 13,x 15]<|
 l oN [x 11,x 16]<|
 b (x 17) (.ret [i 8])<|
 l (.cell 4) [x 1]<|
 l .len [x 18]<|
.jp k245_4<|
.loop k245_6<|
 j 1 [i 0]
def h245 : List Hint := [.no,.no,(.j ⟨0,[(2,(wi 0)),(1,(p 0 0))],[(0,(.box (pcs (x 1) 0 5)))],1⟩),(.j ⟨1,[(1,(p 0 0)),(2,(wi 0)),(38,(.w (.c (r 1 4)))),(39,(w 19)),(40,(w 20))],[(0,(.box (pcs (x 1) 0 5)))],1⟩),.no,(.j ⟨7,[(40,(w 20)),(39,(w 19)),(38,(.w (.c (r 1 4)))),(2,(wi 0)),(1,(p 0 0)),(41,(w 21)),(42,(w 20)),(43,(.w (.c (.tp (x 22) (x 23) 0)))),(44,(w 24)),(3,(w 20)),(4,(w 24)),(45,(p 0 0)),(46,(p 0 1)),(47,(.w (.c (r 1 1)))),(48,(w 20)),(49,(.w (.c (.tp (x 25) (x 26) 0)))),(50,(w 27)),(51,(w 28))],[(0,(.box (pcs (x 1) 0 5)))],1⟩),.no,.no,.no,.no,(.j ⟨0,[(2,(wi 0))],[],0⟩),(.j ⟨2,[(1,(p 0 0)),(2,(wi 0)),(5,(.w (.c (.mp 1)))),(83,(.w (.c (r 1 3)))),(84,(w 21)),(85,(w 23))],[(0,(.box (pcs (x 1) 0 5))),(1,(.map (x 22) false 1 false))],2⟩),.no,.no,.no,.no,(.j ⟨2,[(85,(w 23)),(84,(w 21)),(83,(.w (.c (r 1 3)))),(5,(.w (.c (.mp 0)))),(2,(wi 0)),(1,(p 1 0)),(86,(w 24)),(87,(w 23)),(88,(.w (.c (.tp (x 25) (x 26) 0)))),(89,(v 27)),(7,(p 2 0)),(6,(w 23)),(90,(p 2 0)),(91,(v 28)),(92,(w 29)),(93,(w 30)),(94,(w 30)),(95,(p 2 2)),(96,(.w (.c (r 27 2)))),(97,(w 32)),(98,(w 32)),(99,(w 32)),(100,(p 2 2)),(101,(.w (.c (r 27 2)))),(102,(w 34)),(103,(w 34)),(104,(w 34)),(105,(.w (.c (.mp 0)))),(106,(p 2 2)),(107,(.w (.c (r 27 2)))),(108,(w 36)),(109,(w 36)),(110,(.w (.c (.mp 0)))),(111,(p 2 2)),(112,(.w (.c (r 27 2)))),(113,(w 23)),(114,(w 39)),(115,(w 39)),(126,(w 40))],[(0,(.map (x 38) false 1 false)),(1,(.box (pcs (x 1) 0 5))),(2,(.box (pcs (x 27) 0 5)))],3⟩),.no]
theorem q245 : symF D0 100000 245 h245 = some k245 := by kernel_rfl
def k246 : K :=
 l (.shape 1) [x 0]<|
 l (.shape 2) [x 1]<|
 l (.shape 2) [x 2]<|
 l (.cell 1) [x 4]<|
 c 315 [x 3,x 6]<|
 l (.cell 0) [x 4]<|
 c 315 [x 3,x 8]<|
 c 327 [x 7,x 9,x 5]<|
 l (.shape 2) [x 10]<|
 l (.part 0 2) [x 13]<|
.ret [x 14,x 11,x 12]
def h246 : List Hint := []
theorem q246 : symF D0 100000 246 h246 = some k246 := by kernel_rfl
def k247_1 : K :=
.ret [i (-1)]
def k247_2 : K :=
 l oL [x 4,x 3]<|
 b (x 5) (l (.tix 2) [x 0,x 4]<|
 l (.elt 0 2) [x 0,x 6]<|
 l (.eqv [.i,.i]) [x 2,x 7]<|
 b (x 8) (.ret [x 4])<|
 l oA [x 4,i 1]<|
 j 1 [x 9])<|
 j 0 []
def k247 : K :=
 l (.shape 2) [x 1]<|
 l .len [x 0]<|
.jp k247_1<|
.loop k247_2<|
 j 1 [i 0]
def h247 : List Hint := [(.j ⟨0,[(4,(wi 0))],[],0⟩),(.j ⟨1,[(0,(w 0)),(3,(p 0 0)),(4,(wi 0)),(7,(w 3)),(8,(w 4))],[(0,(.box [(r 2 0),(r 2 1)]))],1⟩),.no,.no,.no]
theorem q247 : symF D0 100000 247 h247 = some k247 := by kernel_rfl
def k248 : K :=
 l (.shape 1) [x 0]<|
 c 281 [x 2,x 1]<|
 l oN [x 4,i 0]<|
 b (x 5) (l .agg [i 0,i 0,i 0]<|
.ret [x 6,x 4])<|
 l (.cell 0) [x 2]<|
 l (.tix 3) [x 6,x 3]<|
 l (.elt 0 3) [x 6,x 7]<|
.ret [x 8,i 0]
def h248 : List Hint := [.no]
theorem q248 : symF D0 100000 248 h248 = some k248 := by kernel_rfl
def k249 : K :=
 l (.shape 3) [x 0]<|
 l (.shape 3) [x 1]<|
 l (.shape 2) [x 2]<|
 c 328 [x 3,x 4,x 5]<|
 l oN [x 6,i 0]<|
 b (x 7) (.ret [.c (.v (.bool false)),x 6])<|
 c 329 [x 3,x 4,x 5]<|
 l oG [x 8,i 0]<|
.ret [x 9,i 0]
def h249 : List Hint := [.no]
theorem q249 : symF D0 100000 249 h249 = some k249 := by kernel_rfl
def k250_1 : K :=
 l oH [i (-1),i 0]<|
 l (.un .not) [x 4]<|
.ret [x 5]
def k250_2 : K :=
 l oL [x 4,x 2]<|
 b (x 5) (l (.tix 1) [x 0,x 4]<|
 l (.elt 0 0) [x 0,x 6]<|
 l (.mget [.i] [(.v (.bool false))]) [x 3,x 7]<|
 l oH [x 7,i 0]<|
 l (.mset [.i] 1) [x 3,x 7,x 9]<|
 l (.un .not) [x 8]<|
 l (.un .not) [x 11]<|
 b (x 12) (l oH [x 4,i 0]<|
 l (.un .not) [x 13]<|
.ret [x 14])<|
 l oA [x 4,i 1]<|
 j 1 [x 10,x 13])<|
 j 0 [x 3]
def k250 : K :=
 l (.mset [.i] 1) [.c (.sl []),i (-1),.c (.v (.bool false))]<|
 l .len [x 0]<|
.jp k250_1<|
.loop k250_2<|
 j 1 [x 1,i 0]
def h250 : List Hint := [(.j ⟨1,[(4,(wi 0))],[(0,(.map (x 3) false 1 false)),(1,(.box [(.mp 0)])),(2,(.box [(.fn 330 [] [(.ptr 1 0)])]))],3⟩),(.j ⟨2,[(1,(.w (.c (.fn 332 [] [(.ptr 2 0)])))),(0,(w 0)),(4,(wi 0)),(7,(w 2)),(8,(w 4))],[(0,(.map (x 3) false 1 false)),(1,(.box [(.mp 0)])),(2,(.box [(.fn 330 [] [(.ptr 1 0)])]))],3⟩),.no,.no,.no]
theorem q250 : symF D0 100000 250 h250 = some k250 := by kernel_rfl
end Go.Proofs.YtfghdmmapmdcgaaGreat
namespace Go.Proofs.YtfghdmmapmdcgaaGreat
open Go.Sym Go.Sym.KP
def k258_1 : K :=
.ret [i 0]
def k258_2 : K :=
 l oA [x 9,i 1]<|
 j 1 [x 24]
def k258_3 : K :=
 l oL [x 22,x 9]<|
 b (x 23) (l (.cell 1) [x 1]<|
 l (.tix 3) [x 24,x 22]<|
 l (.elt 1 2) [x 24,x 25]<|
 l (.part 1 2) [x 15]<|
 l (.eqv [.i,.i]) [x 26,x 27]<|
 b (x 28) (.ret [i 8])<|
 l oA [x 22,i 1]<|
 j 3 [x 29])<|
 j 2 [x 22,x 23]
def k258_4 : K :=
 b (x 21) (.ret [i 8])<|
.jp k258_2<|
.loop k258_3<|
 j 3 [i 0]
def k258_5 : K :=
 l (.cell 1) [x 1]<|
 l .len [x 10]<|
 l oL [x 9,x 11]<|
 b (x 12) (l (.cell 1) [x 1]<|
 l (.tix 3) [x 13,x 9]<|
 l (.elt 0 3) [x 13,x 14]<|
.jp k258_4<|
 l (.part 1 2) [x 15]<|
 c 344 [x 16]<|
 l (.un .not) [x 17]<|
 b (x 18) (j 2 [x 16,x 17,x 18,.c (.v (.bool true)),.c (.v (.bool true)),.c (.v (.bool true))])<|
 l (.cell 0) [x 15]<|
 l oL [x 19,i 0]<|
 b (x 20) (j 2 [x 16,x 17,x 18,x 20,.c (.v (.bool true)),.c (.v (.bool true))])<|
 l (.cell 0) [x 15]<|
 l (.cell 0) [x 1]<|
 l oH [x 21,x 22]<|
 b (x 23) (j 2 [x 16,x 17,x 18,x 20,x 23,.c (.v (.bool true))])<|
 l oG [x 9,i 0]<|
 b (x 24) (l oS [x 9,i 1]<|
 l (.cell 1) [x 1]<|
 l (.tix 3) [x 26,x 25]<|
 l (.elt 0 0) [x 26,x 27]<|
 l (.cell 0) [x 15]<|
 l oH [x 28,x 29]<|
 j 2 [x 16,x 17,x 18,x 20,x 23,x 30])<|
 j 2 [x 16,x 17,x 18,x 20,x 23,.c (.v (.bool false))])<|
 j 0 []
def k258 : K :=
 l (.shape 2) [x 0]<|
 l (.cell 1) [x 1]<|
 l .len [x 2]<|
 l oG [x 3,i 200]<|
 b (x 4) (.ret [i 8])<|
 l (.cell 0) [x 1]<|
 l oL [x 5,i 0]<|
 b (x 6) (.ret [i 8])<|
 l (.cell 0) [x 1]<|
 l oG [x 7,i 1000000]<|
 b (x 8) (.ret [i 8])<|
.jp k258_1<|
.loop k258_5<|
 j 1 [i 0]
def h258 : List Hint := [.no,.no,(.j ⟨0,[(2,(wi 0))],[],0⟩),(.j ⟨1,[(1,(p 0 0)),(2,(wi 0)),(3,(w 9))],[(0,(.box [(r 1 0),(r 1 1)]))],1⟩),.no,.no,(.j ⟨6,[(3,(w 9)),(2,(wi 0)),(1,(p 0 0)),(20,(w 9)),(21,(p 0 1)),(22,(.w (.c (r 1 1)))),(23,(w 11)),(24,(w 12)),(27,(p 0 1)),(28,(.w (.c (r 1 1)))),(29,(w 9)),(30,(.w (.c (.tp (x 13) (x 14) 0)))),(31,(v 15)),(4,(p 1 0)),(32,(p 1 1)),(33,(v 16)),(34,(w 17)),(35,(w 18)),(36,(w 18)),(40,(w 19)),(41,(w 19)),(47,(w 20)),(48,(w 20)),(63,(w 21))],[(0,(.box [(r 1 0),(r 1 1)])),(1,(.box (pcs (x 15) 0 3)))],2⟩),.no,(.j ⟨2,[(5,(w 22)),(3,(w 9)),(2,(wi 0)),(1,(p 0 0)),(20,(w 9)),(21,(p 0 1)),(22,(.w (.c (r 1 1)))),(23,(w 11)),(24,(w 12)),(27,(p 0 1)),(28,(.w (.c (r 1 1)))),(29,(w 9)),(30,(.w (.c (.tp (x 13) (x 14) 0)))),(31,(v 15)),(4,(p 1 0)),(32,(p 1 1)),(33,(v 16)),(34,(w 17)),(35,(w 18)),(36,(w 18)),(40,(w 19)),(41,(w 19)),(47,(w 20)),(48,(w 20)),(63,(w 21)),(64,(w 22)),(65,(w 9)),(66,(w 23))],[(0,(.box [(r 1 0),(r 1 1)])),(1,(.box (pcs (x 15) 0 3)))],2⟩),(.j ⟨1,[(63,(w 21)),(48,(w 20)),(47,(w 20)),(41,(w 19)),(40,(w 19)),(36,(w 18)),(35,(w 18)),(34,(w 17)),(33,(v 16)),(32,(p 0 1)),(4,(p 0 0)),(31,(v 15)),(30,(.w (.c (.tp (x 13) (x 14) 0)))),(29,(w 9)),(28,(.w (.c (r 1 1)))),(27,(p 1 1)),(24,(w 12)),(23,(w 11)),(22,(.w (.c (r 1 1)))),(21,(p 1 1)),(20,(w 9)),(1,(p 1 0)),(2,(wi 0)),(3,(w 9)),(5,(w 22))],[(0,(.box (pcs (x 15) 0 3))),(1,(.box [(r 1 0),(r 1 1)]))],2⟩),.no,.no,.no]
theorem q258 : symF D0 100000 258 h258 = some k258 := by kernel_rfl
def k259_1 : K :=
.ret [.c (.v (.bool true))]
def k259_2 : K :=
 l (.cell 1) [x 2]<|
 l .len [x 5]<|
 l oL [x 4,x 6]<|
 b (x 7) (l (.cell 1) [x 2]<|
 l (.tix 3) [x 8,x 4]<|
 l (.elt 1 0) [x 8,x 9]<|
 c 168 [x 3,x 10]<|
 l oL [x 11,i 0]<|
 b (x 12) (.ret [.c (.v (.bool false))])<|
 l (.cell 1) [x 2]<|
 l (.tix 3) [x 13,x 4]<|
 l (.elt 2 0) [x 13,x 14]<|
 c 168 [x 3,x 15]<|
 l oL [x 16,i 0]<|
 b (x 17) (.ret [.c (.v (.bool false))])<|
 l oA [x 4,i 1]<|
 j 1 [x 18])<|
 j 0 []
def k259 : K :=
 l (.shape 2) [x 0]<|
 l (.shape 1) [x 1]<|
.jp k259_1<|
.loop k259_2<|
 j 1 [i 0]
def h259 : List Hint := [(.j ⟨0,[(4,(.w (.c (.a (.c (.v (.bool false)))))))],[],0⟩),(.j ⟨1,[(2,(p 0 0)),(3,(p 1 0)),(4,(.w (.c (.a (.c (.v (.bool false))))))),(5,(w 4))],[(0,(.box [(r 2 0),(r 2 1)])),(1,(.box [(r 3 0)]))],2⟩),.no,.no,.no,.no]
theorem q259 : symF D0 100000 259 h259 = some k259 := by kernel_rfl
def k260_1 : K :=
.ret [i 0]
def k260_2 : K :=
 l (.cell 3) [x 1]<|
 l .len [x 8]<|
 l oL [x 7,x 9]<|
 b (x 10) (l (.cell 3) [x 1]<|
 l (.tix 5) [x 11,x 7]<|
 l (.elt 0 5) [x 11,x 12]<|
 l oS [x 7,i 1]<|
 l (.bin .quo) [x 14,i 2]<|
 l (.cell 3) [x 1]<|
 l (.tix 5) [x 16,x 15]<|
 l (.elt 0 5) [x 16,x 17]<|
 c 347 [x 13,x 18]<|
 b (x 19) (.ret [i 8])<|
 l oA [x 7,i 1]<|
 j 1 [x 20])<|
 j 0 []
def k260_3 : K :=
.jp k260_1<|
.loop k260_2<|
 j 1 [i 1]
def k260_4 : K :=
 l oA [x 7,i 1]<|
 j 1 [x 23]
def k260_5 : K :=
 l oL [x 21,x 7]<|
 b (x 22) (l (.cell 3) [x 1]<|
 l (.tix 5) [x 23,x 21]<|
 l (.elt 2 0) [x 23,x 24]<|
 l (.cell 2) [x 13]<|
 l oE [x 25,x 26]<|
 b (x 27) (.ret [i 8])<|
 l oA [x 21,i 1]<|
 j 3 [x 28])<|
 j 2 [x 21,x 22]
def k260_6 : K :=
 l (.cell 3) [x 1]<|
 l .len [x 8]<|
 l oL [x 7,x 9]<|
 b (x 10) (l (.cell 3) [x 1]<|
 l (.tix 5) [x 11,x 7]<|
 l (.elt 0 5) [x 11,x 12]<|
 l (.part 0 2) [x 13]<|
 c 128 [x 14]<|
 l oN [x 15,i 0]<|
 b (x 16) (.ret [i 8])<|
 l (.cell 2) [x 13]<|
 l oL [x 17,i 0]<|
 b (x 18) (.ret [i 8])<|
 l (.cell 2) [x 13]<|
 l oG [x 19,i 1000000]<|
 b (x 20) (.ret [i 8])<|
.jp k260_4<|
.loop k260_5<|
 j 3 [i 0])<|
 j 0 []
def k260 : K :=
 l (.shape 5) [x 0]<|
 l (.part 0 3) [x 1]<|
 c 345 [x 2]<|
 l oN [x 3,i 0]<|
 b (x 4) (.ret [i 8])<|
 c 346 [x 1]<|
 l (.un .not) [x 5]<|
 b (x 6) (.ret [i 8])<|
.jp k260_3<|
.loop k260_6<|
 j 1 [i 0]
def h260 : List Hint := [.no,.no,(.j ⟨0,[(2,(wi 0)),(1,(p 0 0))],[(0,(.box (pcs (x 1) 0 5)))],1⟩),(.j ⟨1,[(1,(p 0 0)),(2,(wi 0)),(3,(w 7))],[(0,(.box (pcs (x 1) 0 5)))],1⟩),.no,.no,.no,.no,(.j ⟨2,[(5,(w 21)),(41,(w 20)),(40,(w 20)),(39,(.w (.c (r 13 2)))),(38,(p 0 2)),(37,(w 18)),(36,(w 18)),(35,(w 18)),(34,(.w (.c (r 13 2)))),(33,(p 0 2)),(32,(w 16)),(31,(w 16)),(30,(w 15)),(29,(v 14)),(28,(p 0 0)),(4,(p 0 0)),(27,(v 13)),(26,(.w (.c (.tp (x 11) (x 12) 0)))),(25,(w 7)),(24,(.w (.c (r 1 3)))),(23,(p 1 3)),(20,(w 10)),(19,(w 9)),(18,(.w (.c (r 1 3)))),(17,(p 1 3)),(16,(w 7)),(1,(p 1 0)),(2,(wi 0)),(3,(w 7)),(42,(w 21)),(43,(w 7)),(44,(w 22))],[(0,(.box (pcs (x 13) 0 5))),(1,(.box (pcs (x 1) 0 5)))],2⟩),(.j ⟨1,[(3,(w 7)),(2,(wi 0)),(1,(p 0 0)),(16,(w 7)),(17,(p 0 3)),(18,(.w (.c (r 1 3)))),(19,(w 9)),(20,(w 10)),(23,(p 0 3)),(24,(.w (.c (r 1 3)))),(25,(w 7)),(26,(.w (.c (.tp (x 11) (x 12) 0)))),(27,(v 13)),(4,(p 1 0)),(28,(p 1 0)),(29,(v 14)),(30,(w 15)),(31,(w 16)),(32,(w 16)),(33,(p 1 2)),(34,(.w (.c (r 13 2)))),(35,(w 18)),(36,(w 18)),(37,(w 18)),(38,(p 1 2)),(39,(.w (.c (r 13 2)))),(40,(w 20)),(41,(w 20)),(5,(w 21))],[(0,(.box (pcs (x 1) 0 5))),(1,(.box (pcs (x 13) 0 5)))],2⟩),.no,.no,.no,(.j ⟨0,[(2,(wi 0))],[],0⟩),(.j ⟨1,[(1,(p 0 0)),(2,(wi 0)),(6,(w 7))],[(0,(.box (pcs (x 1) 0 5)))],1⟩),.no,.no,.no]
theorem q260 : symF D0 100000 260 h260 = some k260 := by kernel_rfl
def k261 : K :=
 l (.shape 1) [x 0]<|
 l (.shape 2) [x 1]<|
 l (.shape 2) [x 2]<|
 l (.cell 1) [x 4]<|
 c 168 [x 3,x 6]<|
 l (.cell 0) [x 3]<|
 l (.tix 3) [x 8,x 7]<|
 l (.elt 0 3) [x 8,x 9]<|
 l (.cell 0) [x 4]<|
 c 168 [x 3,x 11]<|
 l (.cell 0) [x 3]<|
 l (.tix 3) [x 13,x 12]<|
 l (.elt 0 3) [x 13,x 14]<|
 c 348 [x 10,x 15,x 5]<|
 l (.shape 2) [x 16]<|
 l (.part 0 2) [x 18]<|
.ret [x 19,x 17]
def h261 : List Hint := []
theorem q261 : symF D0 100000 261 h261 = some k261 := by kernel_rfl
def k262 : K :=
 l (.shape 5) [x 0]<|
 l (.shape 2) [x 1]<|
 c 260 [x 2]<|
 l oN [x 4,i 0]<|
 b (x 5) (l .agg [i 0,i 0,i 0,i 0,i 0]<|
.ret [x 6,i 8])<|
 l (.part 0 3) [x 2]<|
 c 349 [x 6,x 3]<|
 l (.un .not) [x 7]<|
 b (x 8) (l .agg [i 0,i 0,i 0,i 0,i 0]<|
.ret [x 9,i 6])<|
 l (.cell 4) [x 2]<|
 l (.cell 0) [x 3]<|
 l (.tix 1) [x 9,x 10]<|
 l (.elt 0 0) [x 9,x 11]<|
 l (.cell 3) [x 2]<|
 l (.tix 5) [x 13,x 12]<|
 l (.elt 0 5) [x 13,x 14]<|
 l (.shape 5) [x 15]<|
 l (.part 0 5) [x 16]<|
.ret [x 17,i 0]
def h262 : List Hint := [.no,.no]
theorem q262 : symF D0 100000 262 h262 = some k262 := by kernel_rfl
def k263_1 : K :=
.ret [.c (.v (.bool false))]
def k263_2 : K :=
 l (.cell 1) [x 2]<|
 l .len [x 5]<|
 l oL [x 4,x 6]<|
 b (x 7) (l (.cell 1) [x 2]<|
 l (.tix 3) [x 8,x 4]<|
 l (.elt 1 2) [x 8,x 9]<|
 l (.eqv [.i,.i]) [x 10,x 3]<|
 b (x 11) (.ret [.c (.v (.bool true))])<|
 l oA [x 4,i 1]<|
 j 1 [x 12])<|
 j 0 []
def k263 : K :=
 l (.shape 2) [x 0]<|
 l (.shape 2) [x 1]<|
.jp k263_1<|
.loop k263_2<|
 j 1 [i 0]
def h263 : List Hint := [(.j ⟨0,[(4,(.w (.c (.a (.c (.v (.bool false)))))))],[],0⟩),(.j ⟨1,[(2,(p 0 0)),(3,(p 1 0)),(4,(.w (.c (.a (.c (.v (.bool false))))))),(5,(w 4))],[(0,(.box [(r 2 0),(r 2 1)])),(1,(.box [(r 3 0),(r 3 1)]))],2⟩),.no,.no,.no]
theorem q263 : symF D0 100000 263 h263 = some k263 := by kernel_rfl
def k264 : K :=
 l (.shape 2) [x 0]<|
 l (.shape 1) [x 1]<|
 l (.shape 2) [x 2]<|
 l (.cell 1) [x 3]<|
 c 168 [x 4,x 6]<|
 l (.cell 0) [x 4]<|
 l (.tix 3) [x 8,x 7]<|
 l (.elt 0 3) [x 8,x 9]<|
 l (.cell 0) [x 3]<|
 c 168 [x 4,x 11]<|
 l (.cell 0) [x 4]<|
 l (.tix 3) [x 13,x 12]<|
 l (.elt 0 3) [x 13,x 14]<|
 c 323 [x 10,x 15,x 5]<|
.ret [x 16]
def h264 : List Hint := []
theorem q264 : symF D0 100000 264 h264 = some k264 := by kernel_rfl
def k265_1 : K :=
.ret [.c (.v (.bool false))]
def k265_2 : K :=
 l oA [x 1,i 1]<|
 j 1 [x 6]
def k265_3 : K :=
 b (x 9) (.ret [.c (.v (.bool true))])<|
 l oA [x 4,i 1]<|
 j 3 [x 10]
def k265_4 : K :=
 l oL [x 4,x 1]<|
 b (x 5) (.jp k265_3<|
 l (.tix 1) [x 0,x 1]<|
 l (.elt 0 0) [x 0,x 6]<|
 l oH [x 7,i 0]<|
 b (x 8) (l (.tix 1) [x 0,x 4]<|
 l (.elt 0 0) [x 0,x 9]<|
 l (.tix 1) [x 0,x 1]<|
 l (.elt 0 0) [x 0,x 11]<|
 l oE [x 10,x 12]<|
 j 4 [x 6,x 7,x 8,x 13])<|
 j 4 [x 6,x 7,x 8,.c (.v (.bool false))])<|
 j 2 [x 4,x 5]
def k265_5 : K :=
 l .len [x 0]<|
 l oL [x 1,x 2]<|
 b (x 3) (.jp k265_2<|
.loop k265_4<|
 j 3 [i 0])<|
 j 0 []
def k265 : K :=
.jp k265_1<|
.loop k265_5<|
 j 1 [i 0]
def h265 : List Hint := [(.j ⟨0,[(2,(.w (.c (.a (.c (.v (.bool false)))))))],[],0⟩),(.j ⟨1,[(0,(w 0)),(2,(.w (.c (.a (.c (.v (.bool false))))))),(3,(w 1))],[],0⟩),.no,.no,(.j ⟨2,[(4,(w 4)),(8,(w 3)),(7,(w 2)),(6,(w 0)),(5,(w 1)),(0,(w 0)),(2,(.w (.c (.a (.c (.v (.bool false))))))),(3,(w 1)),(11,(w 4)),(12,(w 1)),(13,(w 5))],[],0⟩),(.j ⟨1,[(3,(w 1)),(2,(.w (.c (.a (.c (.v (.bool false))))))),(0,(w 0)),(5,(w 1)),(6,(w 0)),(7,(w 2)),(8,(w 3)),(4,(w 4))],[],0⟩),.no,.no,(.j ⟨4,[(4,(w 4)),(8,(w 3)),(7,(w 2)),(6,(w 0)),(5,(w 1)),(0,(w 0)),(2,(.w (.c (.a (.c (.v (.bool false))))))),(3,(w 1)),(11,(w 4)),(12,(w 1)),(13,(w 5)),(16,(w 0)),(17,(w 1)),(18,(.w (.c (.tp (x 0) (x 6) 0)))),(19,(w 7)),(20,(w 8)),(21,(w 8)),(31,(w 9))],[],0⟩),.no]
theorem q265 : symF D0 100000 265 h265 = some k265 := by kernel_rfl
def k266 : K :=
 l (.shape 2) [x 0]<|
 l (.cell 1) [x 2]<|
 l .len [x 3]<|
 l oL [x 1,x 4]<|
 b (x 5) (l (.cell 1) [x 2]<|
 l (.tix 1) [x 6,x 1]<|
 l (.elt 0 0) [x 6,x 7]<|
.ret [x 8])<|
 l (.cell 1) [x 2]<|
 l .len [x 6]<|
 l oS [x 1,x 7]<|
 l (.cell 0) [x 2]<|
 l (.tix 1) [x 9,x 8]<|
 l (.elt 0 0) [x 9,x 10]<|
.ret [x 11]
def h266 : List Hint := [.no]
theorem q266 : symF D0 100000 266 h266 = some k266 := by kernel_rfl
def k267 : K :=
 l (.shape 1) [x 0]<|
 l (.shape 2) [x 1]<|
 l oL [x 2,i 0]<|
 b (x 6) (.ret [x 3])<|
 l oL [x 3,i 0]<|
 b (x 7) (.ret [x 2])<|
 c 168 [x 4,x 2]<|
 l (.cell 0) [x 4]<|
 l (.tix 3) [x 9,x 8]<|
 l (.elt 0 3) [x 9,x 10]<|
 c 168 [x 4,x 3]<|
 l (.cell 0) [x 4]<|
 l (.tix 3) [x 13,x 12]<|
 l (.elt 0 3) [x 13,x 14]<|
 c 323 [x 11,x 15,x 5]<|
 b (x 16) (.ret [x 2])<|
.ret [x 3]
def h267 : List Hint := [.no,.no,.no]
theorem q267 : symF D0 100000 267 h267 = some k267 := by kernel_rfl
def k268_1 : K :=
 l (.cell 0) [x 2]<|
 l .len [x 6]<|
 l .agg [i 0,.c (.sl [])]<|
 c 350 [x 2,x 3,x 8,i 0,x 7,x 4]<|
 l .sub [x 10,i 0,x 5]<|
 l .agg [x 9,x 11]<|
.ret [x 12]
def k268_2 : K :=
 l (.cell 0) [x 2]<|
 l .len [x 7]<|
 l oL [x 6,x 8]<|
 b (x 9) (l (.cell 0) [x 2]<|
 l (.tix 3) [x 10,x 6]<|
 l (.elt 0 0) [x 10,x 11]<|
 l .agg [x 12,i 0,i 0]<|
 l (.bs 1 [z,z,z] [0]) [x 13]<|
 l .sub [x 14,i 0,i 1]<|
 l (.app 24 3) [x 4,x 5,x 15]<|
 l .len [x 16]<|
 l oA [x 6,i 1]<|
 j 1 [x 16,x 17,x 18])<|
 j 0 [x 4,x 5]
def k268 : K :=
 l (.shape 1) [x 0]<|
 l (.shape 2) [x 1]<|
.jp k268_1<|
.loop k268_2<|
 j 1 [.c (.sl []),i 0,i 0]
def h268 : List Hint := [(.j ⟨2,[(5,(p 0 0)),(4,(p 2 0)),(3,(p 3 0)),(2,(p 4 0))],[(0,(.box [(.a (i 0)),(o 1 5)])),(1,(.lst (x 4) (x 5) 3 false)),(2,(.box [(.a (i 0)),.nil])),(3,(.box [(r 3 0),(r 3 1)])),(4,(.box [(r 2 0)]))],5⟩),(.j ⟨3,[(2,(p 0 0)),(3,(p 1 0)),(4,(p 2 0)),(5,(p 3 0)),(6,(w 6))],[(0,(.box [(r 2 0)])),(1,(.box [(r 3 0),(r 3 1)])),(2,(.box [(.a (i 0)),.nil])),(3,(.box [(.a (i 0)),(o 4 5)])),(4,(.lst (x 4) (x 5) 3 false))],5⟩),.no,.no]
theorem q268 : symF D0 100000 268 h268 = some k268 := by kernel_rfl
def k269_1 : K :=
 l .sub [x 9,i 0,x 10]<|
.ret [x 11]
def k269_2 : K :=
 l (.tix 1) [x 0,i 0]<|
 l (.elt 0 0) [x 0,x 18]<|
 l oA [x 2,i 1]<|
 l .sub [x 14,i 0,x 15]<|
 c 269 [x 21,x 19,x 20]<|
 l (.app 16 2) [x 9,x 10,x 22]<|
 l .len [x 23]<|
 l oA [x 11,i 1]<|
 j 1 [x 23,x 24,x 25]
def k269_3 : K :=
 l oA [x 15,i 1]<|
 j 3 [x 23,x 24,x 25]
def k269_4 : K :=
 l .len [x 0]<|
 l oL [x 15,x 16]<|
 b (x 17) (l (.tix 1) [x 0,x 15]<|
 l (.elt 0 0) [x 0,x 18]<|
 l (.bin .shr) [x 19,x 2]<|
 l (.bin .rem) [x 20,i 2]<|
 l oE [x 21,x 11]<|
.jp k269_3<|
 b (x 22) (l (.tix 1) [x 0,x 15]<|
 l (.elt 0 0) [x 0,x 23]<|
 l (.bs 1 [z] [0]) [x 24]<|
 l .sub [x 25,i 0,i 1]<|
 l (.app 8 1) [x 13,x 14,x 26]<|
 l .len [x 27]<|
 j 4 [x 27,x 28])<|
 j 4 [x 13,x 14])<|
 j 2 [x 15,x 13,x 14,x 16,x 17]
def k269_5 : K :=
 l oL [x 11,i 2]<|
 b (x 12) (.jp k269_2<|
.loop k269_4<|
 j 3 [.c (.sl []),i 0,i 1])<|
 j 0 [x 9,x 10]
def k269 : K :=
 l .len [x 0]<|
 l oE [x 3,i 0]<|
 b (x 4) (.ret [.c (.sl [])])<|
 l (.tix 1) [x 0,i 0]<|
 l (.elt 0 0) [x 0,x 5]<|
 l .agg [x 6,x 1]<|
 l (.bs 1 [z,z] [0]) [x 7]<|
.jp k269_1<|
.loop k269_5<|
 j 1 [x 8,i 1,i 0]
def h269 : List Hint := [.no,(.j ⟨2,[(7,(.w (.c (o 0 10)))),(6,(.w (.c .nil)))],[(0,(.lst (x 9) (x 10) 2 false))],1⟩),(.j ⟨3,[(2,(w 2)),(0,(w 0)),(6,(.w (.c .nil))),(7,(.w (.c (o 0 10)))),(8,(w 11))],[(0,(.lst (x 9) (x 10) 2 false))],1⟩),.no,.no,(.j ⟨5,[(10,(w 13)),(9,(.w (.c (o 0 15)))),(21,(w 12)),(20,(w 11)),(2,(w 2)),(0,(w 0)),(6,(.w (.c .nil))),(7,(.w (.c (o 1 10)))),(8,(w 11)),(24,(w 13)),(25,(w 0)),(26,(w 16)),(27,(w 17))],[(0,(.lst (x 14) (x 15) 1 false)),(1,(.lst (x 9) (x 10) 2 false))],2⟩),(.j ⟨3,[(8,(w 11)),(7,(.w (.c (o 0 10)))),(6,(.w (.c .nil))),(0,(w 0)),(2,(w 2)),(20,(w 11)),(21,(w 12)),(9,(.w (.c (o 1 14)))),(10,(w 15))],[(0,(.lst (x 9) (x 10) 2 false)),(1,(.lst (x 13) (x 14) 1 false))],2⟩),.no,.no,(.j ⟨2,[(10,(w 15)),(21,(w 12)),(20,(w 11)),(2,(w 2)),(0,(w 0)),(6,(.w (.c .nil))),(7,(.w (.c (o 0 10)))),(8,(w 11)),(24,(w 15)),(25,(w 0)),(26,(w 16)),(27,(w 17)),(30,(w 0)),(31,(w 15)),(32,(.w (.c (.tp (x 0) (x 18) 0)))),(33,(w 19)),(34,(w 2)),(35,(w 20)),(36,(w 21)),(37,(w 11)),(38,(w 22)),(9,(.w (.c (o 1 24))))],[(0,(.lst (x 9) (x 10) 2 false)),(1,(.lst (x 23) (x 24) 1 false))],2⟩)]
theorem q269 : symF D0 100000 269 h269 = some k269 := by kernel_rfl
end Go.Proofs.YtfghdmmapmdcgaaGreat
namespace Go.Proofs.YtfghdmmapmdcgaaGreat
open Go.Sym Go.Sym.KP
def k270_1 : K :=
 b (x 7) (.ret [i 8])<|
.ret [i 0]
def k270_2 : K :=
 b (x 6) (.ret [i 8])<|
.jp k270_1<|
 l (.cell 2) [x 1]<|
 l oL [x 7,i (-1048576)]<|
 b (x 8) (j 0 [.c (.v (.bool true))])<|
 l (.cell 2) [x 1]<|
 l oG [x 9,i 1048576]<|
 j 0 [x 10]
def k270 : K :=
 l (.shape 3) [x 0]<|
 l (.cell 0) [x 1]<|
 l oL [x 2,i 0]<|
 b (x 3) (.ret [i 8])<|
 l (.cell 0) [x 1]<|
 l oG [x 4,i 65535]<|
 b (x 5) (.ret [i 8])<|
.jp k270_2<|
 l (.cell 1) [x 1]<|
 l oL [x 6,i (-1048576)]<|
 b (x 7) (j 0 [.c (.v (.bool true))])<|
 l (.cell 1) [x 1]<|
 l oG [x 8,i 1048576]<|
 j 0 [x 9]
def h270 : List Hint := [.no,(.j ⟨1,[(2,(w 6))],[(0,(.box (pcs (x 1) 0 3)))],1⟩),(.j ⟨1,[(2,(w 7))],[(0,(.box (pcs (x 1) 0 3)))],1⟩),.no]
theorem q270 : symF D0 100000 270 h270 = some k270 := by kernel_rfl
def k271_1 : K :=
.ret [x 5,x 6]
def k271_2 : K :=
.jp k271_1<|
 l oL [x 5,x 4]<|
 b (x 6) (l (.cell 0) [x 2]<|
 l (.tix 3) [x 7,x 5]<|
 l (.elt 0 3) [x 7,x 8]<|
 l (.cell 0) [x 9]<|
 c 354 [x 10,x 1]<|
 l oE [x 11,i 0]<|
 j 0 [x 12])<|
 j 0 [.c (.v (.bool false))]
def k271_3 : K :=
 j 1 [x 19,x 18]
def k271_4 : K :=
 l oL [x 5,x 6]<|
 b (x 7) (l oA [x 5,x 6]<|
 l (.conv .u64) [x 8]<|
 l (.bin .shr) [x 9,.c (.v (.int .u64 1))]<|
 l (.conv .i64) [x 10]<|
 l (.cell 0) [x 2]<|
 l (.tix 3) [x 12,x 11]<|
 l (.elt 0 3) [x 12,x 13]<|
 l (.cell 0) [x 14]<|
 c 354 [x 15,x 1]<|
 l oL [x 16,i 0]<|
.jp k271_3<|
 b (x 17) (l oA [x 11,i 1]<|
 j 2 [x 6,x 18])<|
 j 2 [x 11,x 5])<|
 j 0 [x 5]
def k271 : K :=
 l (.shape 1) [x 0]<|
 l (.cell 0) [x 2]<|
 l .len [x 3]<|
.jp k271_2<|
.loop k271_4<|
 j 1 [i 0,x 4]
def h271 : List Hint := [(.j ⟨1,[(9,(w 5)),(8,(w 4)),(7,(.w (.c (.a (.c (.v (.bool false))))))),(6,(wi 0)),(0,(.w (.c (r 2 0)))),(1,(w 1)),(2,(.w (.c (.fn 353 [] []))))],[(0,(.box [(r 2 0)]))],1⟩),(.j ⟨2,[(2,(.w (.c (.fn 353 [] [])))),(1,(w 1)),(0,(.w (.c (r 2 0)))),(6,(wi 0)),(7,(.w (.c (.a (.c (.v (.bool false))))))),(8,(w 4)),(9,(w 5)),(10,(w 6))],[(0,(.box [(r 2 0)]))],1⟩),.no,.no,(.j ⟨2,[(10,(w 18)),(8,(w 4)),(7,(.w (.c (.a (.c (.v (.bool false))))))),(6,(wi 0)),(0,(.w (.c (r 2 0)))),(1,(w 1)),(2,(.w (.c (.fn 353 [] [])))),(15,(w 5)),(16,(w 6)),(17,(w 7)),(18,(w 5)),(19,(w 6)),(20,(w 8)),(21,(w 9)),(22,(w 10)),(23,(w 11)),(11,(w 11)),(24,(.w (.c (.fn 353 [] [])))),(25,(.w (.c (r 2 0)))),(26,(w 11)),(27,(.w (.c (.tp (x 12) (x 13) 0)))),(28,(v 14)),(29,(w 1)),(30,(w 16)),(31,(w 17)),(9,(w 19))],[(0,(.box [(r 2 0)]))],1⟩),(.j ⟨1,[(6,(w 5)),(7,(w 6))],[(0,(.box [(r 2 0)]))],1⟩)]
theorem q271 : symF D0 100000 271 h271 = some k271 := by kernel_rfl
def k281 : K :=
 l (.shape 1) [x 0]<|
 c 231 [x 2]<|
 l oN [x 3,i 0]<|
 b (x 4) (.ret [i 0,x 3])<|
 c 271 [x 2,x 1]<|
 l (.un .not) [x 6]<|
 b (x 7) (.ret [i 0,i 6])<|
.ret [x 5,i 0]
def h281 : List Hint := [.no,.no]
theorem q281 : symF D0 100000 281 h281 = some k281 := by kernel_rfl
def k285_1 : K :=
.ret [x 2]
def k285 : K :=
 l (.shape 3) [x 0]<|
.jp k285_1<|
 l (.cell 0) [x 1]<|
 l .len [x 2]<|
 l oG [x 3,i 210]<|
 b (x 4) (j 0 [.c (.v (.bool true))])<|
 l (.cell 1) [x 1]<|
 l .len [x 5]<|
 l oG [x 6,i 210]<|
 b (x 7) (j 0 [.c (.v (.bool true))])<|
 l (.cell 2) [x 1]<|
 l .len [x 8]<|
 l oG [x 9,i 210]<|
 j 0 [x 10]
def h285 : List Hint := [(.j ⟨1,[(2,(w 2))],[],0⟩)]
theorem q285 : symF D0 100000 285 h285 = some k285 := by kernel_rfl
def k287 : K :=
 l oN [x 0,x 0]<|
.ret [x 1]
def h287 : List Hint := []
theorem q287 : symF D0 100000 287 h287 = some k287 := by kernel_rfl
def k288 : K :=
 c 359 [x 0]<|
 c 359 [x 1]<|
 b (x 2) (b (x 3) (.ret [i 0])<|
.ret [i (-1)])<|
 b (x 3) (.ret [i 1])<|
 l oL [x 0,x 1]<|
 b (x 4) (.ret [i (-1)])<|
 l oG [x 0,x 1]<|
 b (x 5) (.ret [i 1])<|
.ret [i 0]
def h288 : List Hint := [.no,.no,.no,.no,.no]
theorem q288 : symF D0 100000 288 h288 = some k288 := by kernel_rfl
def k289 : K :=
 l (.bin .and) [x 0,.c (.v (.int .u64 4294967295))]<|
 l (.bin .shr) [x 0,.c (.v (.int .u64 32))]<|
 l (.bin .and) [x 1,.c (.v (.int .u64 4294967295))]<|
 l (.bin .shr) [x 1,.c (.v (.int .u64 32))]<|
 l oM [x 2,x 4]<|
 l oM [x 3,x 4]<|
 l (.bin .shr) [x 6,.c (.v (.int .u64 32))]<|
 l oA [x 7,x 8]<|
 l (.bin .and) [x 9,.c (.v (.int .u64 4294967295))]<|
 l (.bin .shr) [x 9,.c (.v (.int .u64 32))]<|
 l oM [x 2,x 5]<|
 l oA [x 10,x 12]<|
 l oM [x 3,x 5]<|
 l oA [x 14,x 11]<|
 l (.bin .shr) [x 13,.c (.v (.int .u64 32))]<|
 l oA [x 15,x 16]<|
 l oM [x 0,x 1]<|
.ret [x 17,x 18]
def h289 : List Hint := []
theorem q289 : symF D0 100000 289 h289 = some k289 := by kernel_rfl
def k294_1 : K :=
 l (.app 1 1) [.c (.sl []),i 0,x 0]<|
 l .len [x 3]<|
 l .sub [x 3,i 0,x 4]<|
.ret [x 5]
def k294 : K :=
 l .len [x 0]<|
 l oE [x 1,i 0]<|
.jp k294_1<|
 b (x 2) (.amb (.ret [.c (.sl [])])<|
 j 0 [])<|
 j 0 []
def h294 : List Hint := [(.j ⟨0,[(0,(w 0)),(2,(.w (.c .nil)))],[],0⟩)]
theorem q294 : symF D0 100000 294 h294 = some k294 := by kernel_rfl
def k300 : K :=
 l (.shape 1) [x 0]<|
 l (.shape 2) [x 1]<|
 c 231 [x 2]<|
 l oN [x 4,i 0]<|
 b (x 5) (.ret [x 4])<|
 c 43 [x 3]<|
.ret [x 6]
def h300 : List Hint := [.no]
theorem q300 : symF D0 100000 300 h300 = some k300 := by kernel_rfl
def k301_1 : K :=
 l oH [i (-1),i 0]<|
 l (.un .not) [x 4]<|
.ret [x 5]
def k301_2 : K :=
 l (.un .not) [x 10]<|
 b (x 11) (l oH [x 4,i 0]<|
 l (.un .not) [x 12]<|
.ret [x 13])<|
 l oA [x 4,i 1]<|
 j 1 [x 12]
def k301_3 : K :=
 l oL [x 4,x 3]<|
 b (x 5) (l (.tix 1) [x 1,x 4]<|
 l (.elt 0 0) [x 1,x 6]<|
 c 367 [x 2,x 7]<|
.jp k301_2<|
 b (x 9) (j 2 [.c (.v (.bool true))])<|
 l oE [x 7,i (-1)]<|
 j 2 [x 10])<|
 j 0 []
def k301 : K :=
 l (.shape 1) [x 0]<|
 l .len [x 1]<|
.jp k301_1<|
.loop k301_3<|
 j 1 [i 0]
def h301 : List Hint := [(.j ⟨0,[(4,(wi 0))],[(0,(.box [(r 2 0)])),(1,(.box [(.fn 366 [] [(.ptr 0 0)])]))],2⟩),(.j ⟨1,[(1,(.w (.c (.fn 332 [] [(.ptr 1 0)])))),(0,(w 1)),(4,(wi 0)),(7,(w 3)),(8,(w 4))],[(0,(.box [(r 2 0)])),(1,(.box [(.fn 366 [] [(.ptr 0 0)])]))],2⟩),.no,.no,(.j ⟨1,[(3,(w 10))],[(0,(.box [(r 2 0)])),(1,(.box [(.fn 366 [] [(.ptr 0 0)])]))],2⟩),.no]
theorem q301 : symF D0 100000 301 h301 = some k301 := by kernel_rfl
def k302 : K :=
 l (.shape 1) [x 0]<|
 l (.shape 2) [x 1]<|
 l (.mm false) [x 2,x 3]<|
 l oL [x 6,i 0]<|
 b (x 7) (l (.mm true) [x 2,x 3]<|
.ret [x 8])<|
 c 367 [x 4,x 2]<|
 c 367 [x 4,x 3]<|
 l (.cell 0) [x 4]<|
 l (.tix 3) [x 12,x 8]<|
 l (.elt 0 3) [x 12,x 13]<|
 l (.cell 0) [x 4]<|
 l (.tix 3) [x 15,x 10]<|
 l (.elt 0 3) [x 15,x 16]<|
 c 249 [x 14,x 17,x 5]<|
 b (x 18) (.ret [x 2])<|
.ret [x 3]
def h302 : List Hint := [.no,.no]
theorem q302 : symF D0 100000 302 h302 = some k302 := by kernel_rfl
def k303 : K :=
 l (.shape 1) [x 0]<|
 l (.shape 2) [x 1]<|
 c 231 [x 2]<|
 l oN [x 4,i 0]<|
 b (x 5) (.ret [x 4])<|
 c 43 [x 3]<|
.ret [x 6]
def h303 : List Hint := [.no]
theorem q303 : symF D0 100000 303 h303 = some k303 := by kernel_rfl
end Go.Proofs.YtfghdmmapmdcgaaGreat
namespace Go.Proofs.YtfghdmmapmdcgaaGreat
open Go.Sym Go.Sym.KP
def k304_1 : K :=
 l (.part 1 2) [x 5]<|
 l .agg [x 6,x 7]<|
.ret [x 8]
def k304 : K :=
 c 223 [x 0]<|
 c 223 [x 1]<|
 c 368 [x 2,x 3]<|
 l (.shape 3) [x 4]<|
.jp k304_1<|
 l oL [x 0,i 0]<|
 l oL [x 1,i 0]<|
 l (.bbin .neq) [x 6,x 7]<|
 b (x 8) (l oN [x 0,i 0]<|
 b (x 9) (l oN [x 1,i 0]<|
 j 0 [x 10])<|
 j 0 [.c (.v (.bool false))])<|
 j 0 [.c (.v (.bool false))]
def h304 : List Hint := [(.j ⟨1,[(4,(p 0 0)),(5,(p 1 0))],[(0,(.box [(.a (.c (.v (.bool false)))),(.a (.c (.v (.int .u64 0)))),(.a (.c (.v (.int .u64 0))))])),(1,(.box [(a 6),(r 5 1),(r 5 2)]))],2⟩)]
theorem q304 : symF D0 100000 304 h304 = some k304 := by kernel_rfl
def k305_1 : K :=
 b (x 2) (.ret [i 0])<|
 l (.cell 0) [x 1]<|
 b (x 3) (.ret [i (-1)])<|
.ret [i 1]
def k305 : K :=
 l (.shape 3) [x 0]<|
.jp k305_1<|
 l (.cell 1) [x 1]<|
 l oE [x 2,.c (.v (.int .u64 0))]<|
 b (x 3) (l (.cell 2) [x 1]<|
 l oE [x 4,.c (.v (.int .u64 0))]<|
 j 0 [x 5])<|
 j 0 [.c (.v (.bool false))]
def h305 : List Hint := [(.j ⟨1,[(1,(p 0 0)),(2,(wi 0)),(10,(w 2))],[(0,(.box (pcs (x 1) 0 3)))],1⟩),.no,.no]
theorem q305 : symF D0 100000 305 h305 = some k305 := by kernel_rfl
def k306 : K :=
 l (.shape 3) [x 0]<|
 l (.shape 3) [x 1]<|
 l (.cell 1) [x 2]<|
 l (.cell 1) [x 3]<|
 l oN [x 4,x 5]<|
 b (x 6) (l (.cell 1) [x 2]<|
 l (.cell 1) [x 3]<|
 l oL [x 7,x 8]<|
 b (x 9) (.ret [i (-1)])<|
.ret [i 1])<|
 l (.cell 2) [x 2]<|
 l (.cell 2) [x 3]<|
 l oN [x 7,x 8]<|
 b (x 9) (l (.cell 2) [x 2]<|
 l (.cell 2) [x 3]<|
 l oL [x 10,x 11]<|
 b (x 12) (.ret [i (-1)])<|
.ret [i 1])<|
.ret [i 0]
def h306 : List Hint := [.no,.no,.no,.no]
theorem q306 : symF D0 100000 306 h306 = some k306 := by kernel_rfl
def k312_1 : K :=
.ret [x 4]
def k312 : K :=
 l (.shape 3) [x 0]<|
 l (.shape 3) [x 1]<|
.jp k312_1<|
 l (.cell 0) [x 2]<|
 l (.cell 0) [x 3]<|
 c 313 [x 4,x 5]<|
 b (x 6) (l (.cell 1) [x 2]<|
 l (.cell 1) [x 3]<|
 c 376 [x 7,x 8]<|
 b (x 9) (l (.cell 2) [x 2]<|
 l (.cell 2) [x 3]<|
 c 313 [x 10,x 11]<|
 j 0 [x 12])<|
 j 0 [.c (.v (.bool false))])<|
 j 0 [.c (.v (.bool false))]
def h312 : List Hint := [(.j ⟨1,[(4,(w 4))],[],0⟩)]
theorem q312 : symF D0 100000 312 h312 = some k312 := by kernel_rfl
def k313_1 : K :=
.ret [.c (.v (.bool true))]
def k313_2 : K :=
 l .len [x 0]<|
 l oL [x 5,x 6]<|
 b (x 7) (l (.tix 1) [x 0,x 5]<|
 l (.elt 0 0) [x 0,x 8]<|
 l (.tix 1) [x 1,x 5]<|
 l (.elt 0 0) [x 1,x 10]<|
 l oN [x 9,x 11]<|
 b (x 12) (.ret [.c (.v (.bool false))])<|
 l oA [x 5,i 1]<|
 j 1 [x 13])<|
 j 0 []
def k313 : K :=
 l .len [x 0]<|
 l .len [x 1]<|
 l oN [x 2,x 3]<|
 b (x 4) (.ret [.c (.v (.bool false))])<|
.jp k313_1<|
.loop k313_2<|
 j 1 [i 0]
def h313 : List Hint := [.no,(.j ⟨0,[(4,(.w (.c (.a (.c (.v (.bool false)))))))],[],0⟩),(.j ⟨1,[(1,(w 1)),(0,(w 0)),(4,(.w (.c (.a (.c (.v (.bool false))))))),(5,(w 5))],[],0⟩),.no,.no,.no]
theorem q313 : symF D0 100000 313 h313 = some k313 := by kernel_rfl
def k315_1 : K :=
 l (.un .not) [x 6]<|
 b (x 7) (l .agg [i (-1),i 0,i 0]<|
.ret [x 8])<|
 l (.cell 0) [x 2]<|
 l (.tix 3) [x 8,x 5]<|
 l (.elt 0 3) [x 8,x 9]<|
.ret [x 10]
def k315_2 : K :=
.jp k315_1<|
 l oL [x 5,x 4]<|
 b (x 6) (l (.cell 0) [x 2]<|
 l (.tix 3) [x 7,x 5]<|
 l (.elt 0 3) [x 7,x 8]<|
 l (.cell 0) [x 9]<|
 c 354 [x 10,x 1]<|
 l oE [x 11,i 0]<|
 j 0 [x 12])<|
 j 0 [.c (.v (.bool false))]
def k315_3 : K :=
 j 1 [x 19,x 18]
def k315_4 : K :=
 l oL [x 5,x 6]<|
 b (x 7) (l oA [x 5,x 6]<|
 l (.conv .u64) [x 8]<|
 l (.bin .shr) [x 9,.c (.v (.int .u64 1))]<|
 l (.conv .i64) [x 10]<|
 l (.cell 0) [x 2]<|
 l (.tix 3) [x 12,x 11]<|
 l (.elt 0 3) [x 12,x 13]<|
 l (.cell 0) [x 14]<|
 c 354 [x 15,x 1]<|
 l oL [x 16,i 0]<|
.jp k315_3<|
 b (x 17) (l oA [x 11,i 1]<|
 j 2 [x 6,x 18])<|
 j 2 [x 11,x 5])<|
 j 0 [x 5]
def k315 : K :=
 l (.shape 1) [x 0]<|
 l (.cell 0) [x 2]<|
 l .len [x 3]<|
.jp k315_2<|
.loop k315_4<|
 j 1 [i 0,x 4]
def h315 : List Hint := [(.j ⟨1,[(9,(w 5)),(8,(w 4)),(7,(.w (.c (.a (.c (.v (.bool false))))))),(6,(wi 0)),(0,(.w (.c (r 2 0)))),(1,(w 1)),(2,(.w (.c (.fn 377 [] []))))],[(0,(.box [(r 2 0)])),(1,(.box [(.a (i 0)),(.a (i 0)),(.a (i 0))]))],2⟩),(.j ⟨2,[(2,(.w (.c (.fn 377 [] [])))),(1,(w 1)),(0,(.w (.c (r 2 0)))),(6,(wi 0)),(7,(.w (.c (.a (.c (.v (.bool false))))))),(8,(w 4)),(9,(w 5)),(10,(w 6))],[(0,(.box [(r 2 0)])),(1,(.box [(.a (i 0)),(.a (i 0)),(.a (i 0))]))],2⟩),.no,.no,(.j ⟨2,[(10,(w 18)),(8,(w 4)),(7,(.w (.c (.a (.c (.v (.bool false))))))),(6,(wi 0)),(0,(.w (.c (r 2 0)))),(1,(w 1)),(2,(.w (.c (.fn 377 [] [])))),(15,(w 5)),(16,(w 6)),(17,(w 7)),(18,(w 5)),(19,(w 6)),(20,(w 8)),(21,(w 9)),(22,(w 10)),(23,(w 11)),(11,(w 11)),(24,(.w (.c (.fn 377 [] [])))),(25,(.w (.c (r 2 0)))),(26,(w 11)),(27,(.w (.c (.tp (x 12) (x 13) 0)))),(28,(v 14)),(29,(w 1)),(30,(w 16)),(31,(w 17)),(9,(w 19))],[(0,(.box [(r 2 0)])),(1,(.box [(.a (i 0)),(.a (i 0)),(.a (i 0))]))],2⟩),(.j ⟨1,[(6,(w 5)),(7,(w 6))],[(0,(.box [(r 2 0)])),(1,(.box [(.a (i 0)),(.a (i 0)),(.a (i 0))]))],2⟩),.no]
theorem q315 : symF D0 100000 315 h315 = some k315 := by kernel_rfl
def k323 : K :=
 l (.shape 3) [x 0]<|
 l (.shape 3) [x 1]<|
 l (.shape 2) [x 2]<|
 c 384 [x 3,x 4,x 5]<|
 l oN [x 6,i 0]<|
 b (x 7) (l oG [x 6,i 0]<|
.ret [x 8])<|
 l (.cell 2) [x 3]<|
 l (.cell 2) [x 4]<|
 l oN [x 8,x 9]<|
 b (x 10) (l (.cell 2) [x 3]<|
 l (.cell 2) [x 4]<|
 l oG [x 11,x 12]<|
.ret [x 13])<|
 l (.cell 0) [x 3]<|
 l (.cell 0) [x 4]<|
 l oL [x 11,x 12]<|
.ret [x 13]
def h323 : List Hint := [.no,.no]
theorem q323 : symF D0 100000 323 h323 = some k323 := by kernel_rfl
def k324_1 : K :=
.ret [x 2]
def k324 : K :=
 l (.shape 2) [x 0]<|
.jp k324_1<|
 l (.cell 0) [x 1]<|
 l (.cell 1) [x 1]<|
 l (.mm false) [x 2,x 3]<|
 l oH [x 4,i 0]<|
 b (x 5) (l (.cell 0) [x 1]<|
 l (.cell 1) [x 1]<|
 l (.mm true) [x 6,x 7]<|
 l oK [x 8,i 65535]<|
 b (x 9) (l (.cell 0) [x 1]<|
 l (.cell 1) [x 1]<|
 l oN [x 10,x 11]<|
 j 0 [x 12])<|
 j 0 [.c (.v (.bool false))])<|
 j 0 [.c (.v (.bool false))]
def h324 : List Hint := [(.j ⟨1,[(2,(w 2))],[],0⟩)]
theorem q324 : symF D0 100000 324 h324 = some k324 := by kernel_rfl
def k325_1 : K :=
.ret [i 0]
def k325_2 : K :=
 b (x 28) (.ret [i 8])<|
 l oA [x 21,i 1]<|
 j 1 [x 29]
def k325_3 : K :=
 l oL [x 21,x 20]<|
 b (x 22) (l (.cell 0) [x 1]<|
 l (.tix 1) [x 23,x 21]<|
 l (.elt 0 0) [x 23,x 24]<|
.jp k325_2<|
 l oL [x 25,i 0]<|
 b (x 26) (j 2 [x 26,.c (.v (.bool true)),.c (.v (.bool true))])<|
 l oG [x 25,i 1000000]<|
 b (x 27) (j 2 [x 26,x 27,.c (.v (.bool true))])<|
 l oE [x 25,i 0]<|
 b (x 28) (l (.cell 1) [x 1]<|
 l (.tix 1) [x 29,x 21]<|
 l (.elt 0 0) [x 29,x 30]<|
 j 2 [x 26,x 27,x 31])<|
 j 2 [x 26,x 27,.c (.v (.bool false))])<|
 j 0 []
def k325_4 : K :=
 l oH [i (-1),i 0]<|
 b (x 15) (.ret [i 8])<|
 l .sub [x 14,i 0,x 11]<|
 c 386 [x 16,.c (.v (.bool false))]<|
 l .flat [x 17]<|
 b (x 18) (.ret [i 8])<|
 l (.cell 0) [x 1]<|
 l .len [x 19]<|
.jp k325_1<|
.loop k325_3<|
 j 1 [i 0]
def k325_5 : K :=
.ret [i 0]
def k325_6 : K :=
 b (x 34) (.ret [i 8])<|
 l oA [x 27,i 1]<|
 j 3 [x 35]
def k325_7 : K :=
 l oL [x 27,x 26]<|
 b (x 28) (l (.cell 0) [x 1]<|
 l (.tix 1) [x 29,x 27]<|
 l (.elt 0 0) [x 29,x 30]<|
.jp k325_6<|
 l oL [x 31,i 0]<|
 b (x 32) (j 4 [x 32,.c (.v (.bool true)),.c (.v (.bool true))])<|
 l oG [x 31,i 1000000]<|
 b (x 33) (j 4 [x 32,x 33,.c (.v (.bool true))])<|
 l oE [x 31,i 0]<|
 b (x 34) (l (.cell 1) [x 1]<|
 l (.tix 1) [x 35,x 27]<|
 l (.elt 0 0) [x 35,x 36]<|
 j 4 [x 32,x 33,x 37])<|
 j 4 [x 32,x 33,.c (.v (.bool false))])<|
 j 2 []
def k325_8 : K :=
.ret [i 0]
def k325_9 : K :=
 b (x 35) (.ret [i 8])<|
 l oA [x 28,i 1]<|
 j 3 [x 36]
def k325_10 : K :=
 l oL [x 28,x 27]<|
 b (x 29) (l (.cell 0) [x 1]<|
 l (.tix 1) [x 30,x 28]<|
 l (.elt 0 0) [x 30,x 31]<|
.jp k325_9<|
 l oL [x 32,i 0]<|
 b (x 33) (j 4 [x 33,.c (.v (.bool true)),.c (.v (.bool true))])<|
 l oG [x 32,i 1000000]<|
 b (x 34) (j 4 [x 33,x 34,.c (.v (.bool true))])<|
 l oE [x 32,i 0]<|
 b (x 35) (l (.cell 1) [x 1]<|
 l (.tix 1) [x 36,x 28]<|
 l (.elt 0 0) [x 36,x 37]<|
 j 4 [x 33,x 34,x 38])<|
 j 4 [x 33,x 34,.c (.v (.bool false))])<|
 j 2 []
def k325_11 : K :=
.ret [i 0]
def k325_12 : K :=
 b (x 37) (.ret [i 8])<|
 l oA [x 30,i 1]<|
 j 3 [x 38]
def k325_13 : K :=
 l oL [x 30,x 29]<|
 b (x 31) (l (.cell 0) [x 1]<|
 l (.tix 1) [x 32,x 30]<|
 l (.elt 0 0) [x 32,x 33]<|
.jp k325_12<|
 l oL [x 34,i 0]<|
 b (x 35) (j 4 [x 35,.c (.v (.bool true)),.c (.v (.bool true))])<|
 l oG [x 34,i 1000000]<|
 b (x 36) (j 4 [x 35,x 36,.c (.v (.bool true))])<|
 l oE [x 34,i 0]<|
 b (x 37) (l (.cell 1) [x 1]<|
 l (.tix 1) [x 38,x 30]<|
 l (.elt 0 0) [x 38,x 39]<|
 j 4 [x 35,x 36,x 40])<|
 j 4 [x 35,x 36,.c (.v (.bool false))])<|
 j 2 []
def k325_14 : K :=
 l oL [x 15,x 13]<|
 b (x 16) (l (.cell 2) [x 1]<|
 l (.tix 1) [x 17,x 15]<|
 l (.elt 0 0) [x 17,x 18]<|
 l oL [x 19,i 0]<|
 b (x 20) (l oH [x 15,i 0]<|
 b (x 21) (.ret [i 8])<|
 l .sub [x 14,i 0,x 11]<|
 c 386 [x 22,.c (.v (.bool false))]<|
 l .flat [x 23]<|
 b (x 24) (.ret [i 8])<|
 l (.cell 0) [x 1]<|
 l .len [x 25]<|
.jp k325_5<|
.loop k325_7<|
 j 3 [i 0])<|
 l oH [x 19,x 3]<|
 b (x 21) (l oH [x 15,i 0]<|
 b (x 22) (.ret [i 8])<|
 l .sub [x 14,i 0,x 11]<|
 c 386 [x 23,.c (.v (.bool false))]<|
 l .flat [x 24]<|
 b (x 25) (.ret [i 8])<|
 l (.cell 0) [x 1]<|
 l .len [x 26]<|
.jp k325_8<|
.loop k325_10<|
 j 3 [i 0])<|
 l .ix [x 19,x 11]<|
 l (.elt 0 0) [x 14,x 22]<|
 b (x 23) (l oH [x 15,i 0]<|
 b (x 24) (.ret [i 8])<|
 l .sub [x 14,i 0,x 11]<|
 c 386 [x 25,.c (.v (.bool false))]<|
 l .flat [x 26]<|
 b (x 27) (.ret [i 8])<|
 l (.cell 0) [x 1]<|
 l .len [x 28]<|
.jp k325_11<|
.loop k325_13<|
 j 3 [i 0])<|
 l .ix [x 19,x 11]<|
 l (.set 0) [x 14,x 24,.c (.v (.bool true))]<|
 l oA [x 15,i 1]<|
 j 1 [x 25,x 26])<|
 j 0 [x 14]
def k325 : K :=
 l (.shape 3) [x 0]<|
 l (.cell 0) [x 1]<|
 l .len [x 2]<|
 l oL [x 3,i 1]<|
 b (x 4) (.ret [i 8])<|
 l oG [x 3,i 200]<|
 b (x 5) (.ret [i 8])<|
 l (.cell 1) [x 1]<|
 l .len [x 6]<|
 l oN [x 7,x 3]<|
 b (x 8) (.ret [i 8])<|
 l (.cell 1) [x 1]<|
 c 294 [x 9]<|
 l .len [x 10]<|
 l (.cell 2) [x 1]<|
 l .len [x 12]<|
.jp k325_4<|
.loop k325_14<|
 j 1 [x 10,i 0]
def h325 : List Hint := [.no,.no,(.j ⟨1,[(4,(wi 0))],[(0,(.box (pcs (x 1) 0 3))),(1,(.box [(a 3)])),(2,(.lst (x 14) (x 11) 1 false)),(3,(.box [(o 2 11)]))],4⟩),(.j ⟨2,[(1,(.w (.c (.fn 385 [] [(.ptr 1 0),(.ptr 3 0)])))),(0,(.w (.c (r 1 2)))),(4,(wi 0)),(7,(w 13)),(8,(w 15))],[(0,(.box (pcs (x 1) 0 3))),(1,(.box [(a 3)])),(2,(.lst (x 14) (x 11) 1 false)),(3,(.box [(o 2 11)]))],4⟩),.no,.no,.no,.no,.no,(.j ⟨0,[(2,(wi 0))],[],0⟩),(.j ⟨1,[(1,(p 0 0)),(2,(wi 0)),(37,(.w (.c (r 1 0)))),(38,(w 26)),(39,(w 27))],[(0,(.box (pcs (x 1) 0 3)))],1⟩),.no,.no,(.j ⟨3,[(39,(w 27)),(38,(w 26)),(37,(.w (.c (r 1 0)))),(2,(wi 0)),(1,(p 0 0)),(40,(w 28)),(41,(w 27)),(42,(.w (.c (.tp (x 29) (x 30) 0)))),(43,(w 31)),(6,(w 27)),(7,(w 31)),(44,(w 31)),(45,(w 32)),(46,(w 32)),(49,(w 33)),(50,(w 33)),(60,(w 34))],[(0,(.box (pcs (x 1) 0 3)))],1⟩),.no,.no,.no,(.j ⟨0,[(2,(wi 0))],[],0⟩),(.j ⟨1,[(1,(p 0 0)),(2,(wi 0)),(37,(.w (.c (r 1 0)))),(38,(w 27)),(39,(w 28))],[(0,(.box (pcs (x 1) 0 3)))],1⟩),.no,.no,(.j ⟨3,[(39,(w 28)),(38,(w 27)),(37,(.w (.c (r 1 0)))),(2,(wi 0)),(1,(p 0 0)),(40,(w 29)),(41,(w 28)),(42,(.w (.c (.tp (x 30) (x 31) 0)))),(43,(w 32)),(6,(w 28)),(7,(w 32)),(44,(w 32)),(45,(w 33)),(46,(w 33)),(49,(w 34)),(50,(w 34)),(60,(w 35))],[(0,(.box (pcs (x 1) 0 3)))],1⟩),.no,.no,.no,.no,(.j ⟨0,[(2,(wi 0))],[],0⟩),(.j ⟨1,[(1,(p 0 0)),(2,(wi 0)),(37,(.w (.c (r 1 0)))),(38,(w 29)),(39,(w 30))],[(0,(.box (pcs (x 1) 0 3)))],1⟩),.no,.no,(.j ⟨3,[(39,(w 30)),(38,(w 29)),(37,(.w (.c (r 1 0)))),(2,(wi 0)),(1,(p 0 0)),(40,(w 31)),(41,(w 30)),(42,(.w (.c (.tp (x 32) (x 33) 0)))),(43,(w 34)),(6,(w 30)),(7,(w 34)),(44,(w 34)),(45,(w 35)),(46,(w 35)),(49,(w 36)),(50,(w 36)),(60,(w 37))],[(0,(.box (pcs (x 1) 0 3)))],1⟩),.no,.no,.no,(.j ⟨0,[(2,(wi 0))],[],0⟩),(.j ⟨1,[(1,(p 0 0)),(2,(wi 0)),(37,(.w (.c (r 1 0)))),(38,(w 20)),(39,(w 21))],[(0,(.box (pcs (x 1) 0 3)))],1⟩),.no,.no,(.j ⟨3,[(39,(w 21)),(38,(w 20)),(37,(.w (.c (r 1 0)))),(2,(wi 0)),(1,(p 0 0)),(40,(w 22)),(41,(w 21)),(42,(.w (.c (.tp (x 23) (x 24) 0)))),(43,(w 25)),(6,(w 21)),(7,(w 25)),(44,(w 25)),(45,(w 26)),(46,(w 26)),(49,(w 27)),(50,(w 27)),(60,(w 28))],[(0,(.box (pcs (x 1) 0 3)))],1⟩),.no]
theorem q325 : symF D0 100000 325 h325 = some k325 := by kernel_rfl
def k326 : K :=
 l (.shape 5) [x 0]<|
 l (.shape 5) [x 1]<|
 l (.part 0 2) [x 2]<|
 l (.part 0 2) [x 3]<|
 c 117 [x 4,x 5]<|
 l (.cell 2) [x 2]<|
 l (.cell 2) [x 3]<|
 c 354 [x 8,x 9]<|
 l (.bs 2 [z] [0,1]) [x 6,x 10]<|
 l .sub [x 11,i 0,i 2]<|
 c 387 [x 12]<|
 l .flat [x 13]<|
.ret [x 14]
def h326 : List Hint := []
theorem q326 : symF D0 100000 326 h326 = some k326 := by kernel_rfl
def k327 : K :=
 l (.shape 3) [x 0]<|
 l (.shape 3) [x 1]<|
 l (.shape 2) [x 2]<|
 c 328 [x 3,x 4,x 5]<|
 l oN [x 6,i 0]<|
 b (x 7) (l .agg [i 0,i 0]<|
.ret [x 8,.c (.v (.bool false)),x 6])<|
 c 329 [x 4,x 3,x 5]<|
 l oG [x 8,i 0]<|
 b (x 9) (.ret [x 5,.c (.v (.bool true)),i 0])<|
 l (.cell 2) [x 4]<|
 l (.cell 2) [x 3]<|
 l oK [x 10,x 11]<|
 b (x 12) (l .agg [i 0,i 0]<|
.ret [x 13,.c (.v (.bool false)),i 0])<|
 c 388 [x 3,x 4]<|
 l (.shape 2) [x 13]<|
 l oE [x 14,i 0]<|
.ret [x 15,x 16,x 14]
def h327 : List Hint := [.no,.no,.no]
theorem q327 : symF D0 100000 327 h327 = some k327 := by kernel_rfl
def k328 : K :=
 l (.shape 3) [x 0]<|
 l (.shape 3) [x 1]<|
 l (.shape 2) [x 2]<|
 c 270 [x 3]<|
 c 270 [x 4]<|
 c 43 [x 5]<|
 l (.mm true) [x 6,x 7]<|
 l (.mm true) [x 9,x 8]<|
 l oN [x 10,i 0]<|
 b (x 11) (.ret [x 10])<|
 l (.cell 0) [x 3]<|
 l (.cell 0) [x 4]<|
 l oE [x 12,x 13]<|
 b (x 14) (.ret [i 2])<|
.ret [i 0]
def h328 : List Hint := [.no,.no]
theorem q328 : symF D0 100000 328 h328 = some k328 := by kernel_rfl
end Go.Proofs.YtfghdmmapmdcgaaGreat
namespace Go.Proofs.YtfghdmmapmdcgaaGreat
open Go.Sym Go.Sym.KP
def k329 : K :=
 l (.shape 3) [x 0]<|
 l (.shape 3) [x 1]<|
 l (.shape 2) [x 2]<|
 l (.cell 1) [x 3]<|
 l (.cell 1) [x 4]<|
 l oS [x 6,x 7]<|
 l (.cell 2) [x 3]<|
 l (.cell 2) [x 4]<|
 l oS [x 9,x 10]<|
 l (.cell 1) [x 5]<|
 l (.cell 0) [x 5]<|
 l .agg [x 8,x 12,x 11,x 13]<|
 c 389 [x 14]<|
 l (.shape 2) [x 15]<|
 l .agg [i 0,.c (.v (.int .u64 0))]<|
 l (.eqv [.i,.i]) [x 16,x 17]<|
 l (.un .not) [x 18]<|
 b (x 19) (l (.cell 0) [x 16]<|
 l oL [x 20,i 0]<|
 b (x 21) (.ret [i (-1)])<|
.ret [i 1])<|
 l (.cell 2) [x 3]<|
 l (.cell 2) [x 4]<|
 c 211 [x 20,x 21]<|
 l (.cell 0) [x 4]<|
 l (.cell 0) [x 3]<|
 c 354 [x 23,x 24]<|
 l (.bs 2 [z] [0,1]) [x 22,x 25]<|
 l .sub [x 26,i 0,i 2]<|
 c 387 [x 27]<|
 l .flat [x 28]<|
.ret [x 29]
def h329 : List Hint := [.no,.no]
theorem q329 : symF D0 100000 329 h329 = some k329 := by kernel_rfl
def k344_1 : K :=
.ret [x 2]
def k344 : K :=
 l (.shape 2) [x 0]<|
.jp k344_1<|
 l (.cell 0) [x 1]<|
 l oH [x 2,i 0]<|
 b (x 3) (l (.cell 0) [x 1]<|
 l oK [x 4,i 65535]<|
 b (x 5) (l (.cell 1) [x 1]<|
 l oH [x 6,i 0]<|
 b (x 7) (l (.cell 1) [x 1]<|
 l oK [x 8,i 65535]<|
 b (x 9) (l (.cell 0) [x 1]<|
 l (.cell 1) [x 1]<|
 l oN [x 10,x 11]<|
 j 0 [x 12])<|
 j 0 [.c (.v (.bool false))])<|
 j 0 [.c (.v (.bool false))])<|
 j 0 [.c (.v (.bool false))])<|
 j 0 [.c (.v (.bool false))]
def h344 : List Hint := [(.j ⟨1,[(2,(w 2))],[],0⟩)]
theorem q344 : symF D0 100000 344 h344 = some k344 := by kernel_rfl
def k345_1 : K :=
.ret [i 0]
def k345_2 : K :=
 b (x 23) (.ret [i 8])<|
 l oA [x 15,i 1]<|
 j 1 [x 24]
def k345_3 : K :=
 l oL [x 15,x 3]<|
 b (x 16) (.jp k345_2<|
 l (.cell 0) [x 1]<|
 l (.tix 1) [x 17,x 15]<|
 l (.elt 0 0) [x 17,x 18]<|
 l oL [x 19,i 0]<|
 b (x 20) (j 2 [x 17,x 18,x 19,x 20,.c (.v (.bool true)),.c (.v (.bool true)),.c (.v (.bool true))])<|
 l (.cell 0) [x 1]<|
 l (.tix 1) [x 21,x 15]<|
 l (.elt 0 0) [x 21,x 22]<|
 l oG [x 23,i 1000000]<|
 b (x 24) (j 2 [x 17,x 18,x 19,x 20,x 24,.c (.v (.bool true)),.c (.v (.bool true))])<|
 l (.cell 1) [x 1]<|
 l (.tix 1) [x 25,x 15]<|
 l (.elt 0 0) [x 25,x 26]<|
 l .ix [x 15,x 13]<|
 l (.elt 0 0) [x 14,x 28]<|
 l (.bbin .eql) [x 27,x 29]<|
 b (x 30) (j 2 [x 17,x 18,x 19,x 20,x 24,x 30,.c (.v (.bool true))])<|
 l (.cell 1) [x 1]<|
 l (.tix 1) [x 31,x 15]<|
 l (.elt 0 0) [x 31,x 32]<|
 b (x 33) (l (.cell 0) [x 1]<|
 l (.tix 1) [x 34,x 15]<|
 l (.elt 0 0) [x 34,x 35]<|
 l oL [x 36,i 1]<|
 j 2 [x 17,x 18,x 19,x 20,x 24,x 30,x 37])<|
 j 2 [x 17,x 18,x 19,x 20,x 24,x 30,.c (.v (.bool false))])<|
 j 0 []
def k345_4 : K :=
.jp k345_1<|
.loop k345_3<|
 j 1 [i 0]
def k345_5 : K :=
 l (.cell 2) [x 1]<|
 l .len [x 16]<|
 l oL [x 15,x 17]<|
 b (x 18) (l (.cell 2) [x 1]<|
 l (.tix 1) [x 19,x 15]<|
 l (.elt 0 0) [x 19,x 20]<|
 l oL [x 21,i 0]<|
 b (x 22) (.ret [i 8])<|
 l (.cell 2) [x 1]<|
 l (.tix 1) [x 23,x 15]<|
 l (.elt 0 0) [x 23,x 24]<|
 l oH [x 25,x 3]<|
 b (x 26) (.ret [i 8])<|
 l (.cell 2) [x 1]<|
 l (.tix 1) [x 27,x 15]<|
 l (.elt 0 0) [x 27,x 28]<|
 l .ix [x 29,x 13]<|
 l (.elt 0 0) [x 14,x 30]<|
 b (x 31) (.ret [i 8])<|
 l (.cell 2) [x 1]<|
 l (.tix 1) [x 32,x 15]<|
 l (.elt 0 0) [x 32,x 33]<|
 l .ix [x 34,x 13]<|
 l (.set 0) [x 14,x 35,.c (.v (.bool true))]<|
 l oA [x 15,i 1]<|
 j 1 [x 36,x 37])<|
 j 0 [x 14]
def k345 : K :=
 l (.shape 3) [x 0]<|
 l (.cell 0) [x 1]<|
 l .len [x 2]<|
 l oL [x 3,i 1]<|
 b (x 4) (.ret [i 8])<|
 l oG [x 3,i 200]<|
 b (x 5) (.ret [i 8])<|
 l (.cell 1) [x 1]<|
 l .len [x 6]<|
 l oN [x 7,x 3]<|
 b (x 8) (.ret [i 8])<|
 l (.cell 2) [x 1]<|
 l .len [x 9]<|
 l oG [x 10,x 3]<|
 b (x 11) (.ret [i 8])<|
 l (.rep [(.v (.bool false))] 1) [x 3,x 3]<|
 l .len [x 12]<|
.jp k345_4<|
.loop k345_5<|
 j 1 [x 12,i 0]
def h345 : List Hint := [.no,.no,(.j ⟨1,[(4,(.w (.c (o 0 13)))),(3,(w 3)),(2,(wi 0)),(1,(p 1 0))],[(0,(.lst (x 14) (x 13) 1 false)),(1,(.box (pcs (x 1) 0 3)))],2⟩),(.j ⟨2,[(1,(p 0 0)),(2,(wi 0)),(3,(w 3)),(4,(.w (.c (o 1 13)))),(5,(w 15))],[(0,(.box (pcs (x 1) 0 3))),(1,(.lst (x 14) (x 13) 1 false))],2⟩),.no,.no,.no,.no,(.j ⟨0,[(2,(wi 0))],[],0⟩),(.j ⟨1,[(1,(p 0 0)),(2,(wi 0)),(3,(w 3)),(4,(.w (.c (o 1 13)))),(6,(w 15))],[(0,(.box (pcs (x 1) 0 3))),(1,(.lst (x 14) (x 13) 1 false))],2⟩),.no,.no,(.j ⟨7,[(6,(w 15)),(4,(.w (.c (o 0 13)))),(3,(w 3)),(2,(wi 0)),(1,(p 1 0)),(71,(w 15)),(72,(w 3)),(73,(w 16)),(76,(p 1 0)),(77,(.w (.c (r 1 0)))),(78,(w 15)),(79,(.w (.c (.tp (x 17) (x 18) 0)))),(80,(w 19)),(81,(w 20)),(82,(w 20)),(89,(w 21)),(90,(w 21)),(101,(w 22)),(102,(w 22)),(116,(w 23))],[(0,(.lst (x 14) (x 13) 1 false)),(1,(.box (pcs (x 1) 0 3)))],2⟩),.no]
theorem q345 : symF D0 100000 345 h345 = some k345 := by kernel_rfl
def k346_1 : K :=
.ret [.c (.v (.bool true))]
def k346_2 : K :=
 l oA [x 13,i 1]<|
 j 1 [x 19]
def k346_3 : K :=
 l oL [x 13,x 3]<|
 b (x 14) (.jp k346_2<|
 l (.cell 1) [x 1]<|
 l (.tix 1) [x 15,x 13]<|
 l (.elt 0 0) [x 15,x 16]<|
 l (.un .not) [x 17]<|
 b (x 18) (l (.cell 4) [x 1]<|
 l (.tix 1) [x 19,x 13]<|
 l (.elt 0 0) [x 19,x 20]<|
 l oN [x 21,i (-1)]<|
 b (x 22) (.ret [.c (.v (.bool false))])<|
 j 2 [x 15,x 16,x 17,x 18])<|
 l (.cell 4) [x 1]<|
 l (.tix 1) [x 19,x 13]<|
 l (.elt 0 0) [x 19,x 20]<|
 l oL [x 21,i 0]<|
 b (x 22) (.ret [.c (.v (.bool false))])<|
 l (.cell 3) [x 1]<|
 l .len [x 23]<|
 l oH [x 21,x 24]<|
 b (x 25) (.ret [.c (.v (.bool false))])<|
 l (.cell 3) [x 1]<|
 l (.tix 5) [x 26,x 21]<|
 l (.elt 3 0) [x 26,x 27]<|
 l oN [x 28,x 13]<|
 b (x 29) (.ret [.c (.v (.bool false))])<|
 l (.part 0 3) [x 1]<|
 l (.cell 3) [x 1]<|
 l (.tix 5) [x 31,x 21]<|
 l (.elt 3 2) [x 31,x 32]<|
 c 349 [x 30,x 33]<|
 l (.un .not) [x 34]<|
 b (x 35) (.ret [.c (.v (.bool false))])<|
 j 2 [x 15,x 16,x 17,x 18])<|
 j 0 []
def k346 : K :=
 l (.shape 5) [x 0]<|
 l (.cell 0) [x 1]<|
 l .len [x 2]<|
 l (.cell 4) [x 1]<|
 l .len [x 4]<|
 l oN [x 5,x 3]<|
 b (x 6) (.ret [.c (.v (.bool false))])<|
 l (.cell 3) [x 1]<|
 l .len [x 7]<|
 l (.cell 2) [x 1]<|
 l .len [x 9]<|
 l oS [x 3,x 10]<|
 l oN [x 8,x 11]<|
 b (x 12) (.ret [.c (.v (.bool false))])<|
.jp k346_1<|
.loop k346_3<|
 j 1 [i 0]
def h346 : List Hint := [.no,.no,(.j ⟨0,[(2,(.w (.c (.a (.c (.v (.bool false)))))))],[],0⟩),(.j ⟨1,[(1,(p 0 0)),(2,(.w (.c (.a (.c (.v (.bool false))))))),(3,(w 3)),(4,(w 13))],[(0,(.box (pcs (x 1) 0 5)))],1⟩),.no,(.j ⟨4,[(4,(w 13)),(3,(w 3)),(2,(.w (.c (.a (.c (.v (.bool false))))))),(1,(p 0 0)),(27,(w 13)),(28,(w 3)),(29,(w 14)),(32,(p 0 0)),(33,(p 0 1)),(34,(.w (.c (r 1 1)))),(35,(w 13)),(36,(.w (.c (.tp (x 15) (x 16) 0)))),(37,(w 17)),(38,(w 18))],[(0,(.box (pcs (x 1) 0 5)))],1⟩),.no,.no,.no,.no]
theorem q346 : symF D0 100000 346 h346 = some k346 := by kernel_rfl
def k347_1 : K :=
.ret [x 7]
def k347 : K :=
 l (.shape 5) [x 0]<|
 l (.shape 5) [x 1]<|
 l (.part 0 2) [x 2]<|
 l (.part 0 2) [x 3]<|
 c 224 [x 4,x 5]<|
.jp k347_1<|
 l oL [x 6,i 0]<|
 b (x 7) (j 0 [.c (.v (.bool true))])<|
 l oE [x 6,i 0]<|
 b (x 8) (l (.cell 2) [x 2]<|
 l (.cell 2) [x 3]<|
 l oL [x 9,x 10]<|
 j 0 [x 11])<|
 j 0 [.c (.v (.bool false))]
def h347 : List Hint := [(.j ⟨1,[(4,(w 7))],[],0⟩)]
theorem q347 : symF D0 100000 347 h347 = some k347 := by kernel_rfl
def k348 : K :=
 l (.shape 3) [x 0]<|
 l (.shape 3) [x 1]<|
 l (.shape 2) [x 2]<|
 c 323 [x 4,x 3,x 5]<|
 b (x 6) (.ret [x 5,.c (.v (.bool true))])<|
 l (.cell 2) [x 4]<|
 l (.cell 2) [x 3]<|
 l oG [x 7,x 8]<|
 b (x 9) (c 396 [x 3,x 4]<|
 l (.shape 2) [x 10]<|
.ret [x 11,.c (.v (.bool true))])<|
 l .agg [i 0,i 0]<|
.ret [x 10,.c (.v (.bool false))]
def h348 : List Hint := [.no,.no]
theorem q348 : symF D0 100000 348 h348 = some k348 := by kernel_rfl
def k349_1 : K :=
.ret [x 4]
def k349 : K :=
 l (.shape 3) [x 0]<|
 l (.shape 2) [x 1]<|
.jp k349_1<|
 l (.cell 0) [x 3]<|
 l oH [x 4,i 0]<|
 b (x 5) (l (.cell 0) [x 2]<|
 l .len [x 6]<|
 l (.cell 0) [x 3]<|
 l oL [x 8,x 7]<|
 b (x 9) (l (.cell 1) [x 2]<|
 l (.cell 0) [x 3]<|
 l (.tix 1) [x 10,x 11]<|
 l (.elt 0 0) [x 10,x 12]<|
 b (x 13) (l (.cell 0) [x 2]<|
 l (.cell 0) [x 3]<|
 l (.tix 1) [x 14,x 15]<|
 l (.elt 0 0) [x 14,x 16]<|
 l (.cell 1) [x 3]<|
 l oE [x 17,x 18]<|
 j 0 [x 19])<|
 j 0 [.c (.v (.bool false))])<|
 j 0 [.c (.v (.bool false))])<|
 j 0 [.c (.v (.bool false))]
def h349 : List Hint := [(.j ⟨1,[(4,(w 4))],[],0⟩)]
theorem q349 : symF D0 100000 349 h349 = some k349 := by kernel_rfl
def k350_1 : K :=
.ret [x 10,x 12]
def k350 : K :=
 l .len [x 5]<|
 l (.shape 2) [x 2]<|
 l (.shape 1) [x 0]<|
 l (.shape 2) [x 1]<|
 c 397 [x 8,x 9,x 3,x 4]<|
 l oH [x 10,i 0]<|
.jp k350_1<|
 b (x 11) (l (.cell 0) [x 7]<|
 l .agg [x 12,.c (.sl [])]<|
 c 350 [x 8,x 9,x 13,x 3,x 10,x 5]<|
 l .ix [x 10,x 6]<|
 l (.set 1) [x 15,x 16,x 14]<|
 l oA [x 10,i 1]<|
 l (.cell 0) [x 7]<|
 l .agg [x 19,.c (.sl [])]<|
 c 350 [x 8,x 9,x 20,x 18,x 4,x 17]<|
 l .ix [x 10,x 6]<|
 l (.set 2) [x 22,x 23,x 21]<|
 j 0 [x 24])<|
 j 0 [x 5]
def h350 : List Hint := [(.j ⟨1,[(10,(wi 0)),(11,(w 10))],[(0,(.lst (x 12) (x 6) 3 false))],1⟩)]
theorem q350 : symF D0 100000 350 h350 = some k350 := by kernel_rfl
def k354 : K :=
 c 395 [x 0]<|
 c 395 [x 1]<|
 b (x 2) (b (x 3) (.ret [i 0])<|
.ret [i (-1)])<|
 b (x 3) (.ret [i 1])<|
 l oL [x 0,x 1]<|
 b (x 4) (.ret [i (-1)])<|
 l oG [x 0,x 1]<|
 b (x 5) (.ret [i 1])<|
.ret [i 0]
def h354 : List Hint := [.no,.no,.no,.no,.no]
theorem q354 : symF D0 100000 354 h354 = some k354 := by kernel_rfl
def k359 : K :=
 l oN [x 0,x 0]<|
.ret [x 1]
def h359 : List Hint := []
theorem q359 : symF D0 100000 359 h359 = some k359 := by kernel_rfl
def k367_1 : K :=
.ret [x 5,x 6]
def k367_2 : K :=
.jp k367_1<|
 l oL [x 5,x 4]<|
 b (x 6) (l (.cell 0) [x 2]<|
 l (.tix 3) [x 7,x 5]<|
 l (.elt 0 3) [x 7,x 8]<|
 l (.cell 0) [x 9]<|
 c 354 [x 10,x 1]<|
 l oE [x 11,i 0]<|
 j 0 [x 12])<|
 j 0 [.c (.v (.bool false))]
def k367_3 : K :=
 j 1 [x 19,x 18]
def k367_4 : K :=
 l oL [x 5,x 6]<|
 b (x 7) (l oA [x 5,x 6]<|
 l (.conv .u64) [x 8]<|
 l (.bin .shr) [x 9,.c (.v (.int .u64 1))]<|
 l (.conv .i64) [x 10]<|
 l (.cell 0) [x 2]<|
 l (.tix 3) [x 12,x 11]<|
 l (.elt 0 3) [x 12,x 13]<|
 l (.cell 0) [x 14]<|
 c 354 [x 15,x 1]<|
 l oL [x 16,i 0]<|
.jp k367_3<|
 b (x 17) (l oA [x 11,i 1]<|
 j 2 [x 6,x 18])<|
 j 2 [x 11,x 5])<|
 j 0 [x 5]
def k367 : K :=
 l (.shape 1) [x 0]<|
 l (.cell 0) [x 2]<|
 l .len [x 3]<|
.jp k367_2<|
.loop k367_4<|
 j 1 [i 0,x 4]
def h367 : List Hint := [(.j ⟨1,[(9,(w 5)),(8,(w 4)),(7,(.w (.c (.a (.c (.v (.bool false))))))),(6,(wi 0)),(0,(.w (.c (r 2 0)))),(1,(w 1)),(2,(.w (.c (.fn 404 [] []))))],[(0,(.box [(r 2 0)]))],1⟩),(.j ⟨2,[(2,(.w (.c (.fn 404 [] [])))),(1,(w 1)),(0,(.w (.c (r 2 0)))),(6,(wi 0)),(7,(.w (.c (.a (.c (.v (.bool false))))))),(8,(w 4)),(9,(w 5)),(10,(w 6))],[(0,(.box [(r 2 0)]))],1⟩),.no,.no,(.j ⟨2,[(10,(w 18)),(8,(w 4)),(7,(.w (.c (.a (.c (.v (.bool false))))))),(6,(wi 0)),(0,(.w (.c (r 2 0)))),(1,(w 1)),(2,(.w (.c (.fn 404 [] [])))),(15,(w 5)),(16,(w 6)),(17,(w 7)),(18,(w 5)),(19,(w 6)),(20,(w 8)),(21,(w 9)),(22,(w 10)),(23,(w 11)),(11,(w 11)),(24,(.w (.c (.fn 404 [] [])))),(25,(.w (.c (r 2 0)))),(26,(w 11)),(27,(.w (.c (.tp (x 12) (x 13) 0)))),(28,(v 14)),(29,(w 1)),(30,(w 16)),(31,(w 17)),(9,(w 19))],[(0,(.box [(r 2 0)]))],1⟩),(.j ⟨1,[(6,(w 5)),(7,(w 6))],[(0,(.box [(r 2 0)]))],1⟩)]
theorem q367 : symF D0 100000 367 h367 = some k367 := by kernel_rfl
def k368 : K :=
 l (.bin .quo) [x 0,.c (.v (.int .u64 4294967296))]<|
 l (.bin .rem) [x 0,.c (.v (.int .u64 4294967296))]<|
 l (.bin .quo) [x 1,.c (.v (.int .u64 4294967296))]<|
 l (.bin .rem) [x 1,.c (.v (.int .u64 4294967296))]<|
 l oM [x 3,x 5]<|
 l oM [x 2,x 5]<|
 l (.bin .quo) [x 6,.c (.v (.int .u64 4294967296))]<|
 l oA [x 7,x 8]<|
 l oM [x 3,x 4]<|
 l (.bin .rem) [x 9,.c (.v (.int .u64 4294967296))]<|
 l oA [x 10,x 11]<|
 l oM [x 2,x 4]<|
 l (.bin .quo) [x 9,.c (.v (.int .u64 4294967296))]<|
 l oA [x 13,x 14]<|
 l (.bin .quo) [x 12,.c (.v (.int .u64 4294967296))]<|
 l oA [x 15,x 16]<|
 l (.bin .rem) [x 12,.c (.v (.int .u64 4294967296))]<|
 l oM [x 18,.c (.v (.int .u64 4294967296))]<|
 l (.bin .rem) [x 6,.c (.v (.int .u64 4294967296))]<|
 l oA [x 19,x 20]<|
 l .agg [.c (.v (.bool false)),x 17,x 21]<|
.ret [x 22]
def h368 : List Hint := []
theorem q368 : symF D0 100000 368 h368 = some k368 := by kernel_rfl
end Go.Proofs.YtfghdmmapmdcgaaGreat
namespace Go.Proofs.YtfghdmmapmdcgaaGreat
open Go.Sym Go.Sym.KP
def k376_1 : K :=
.ret [.c (.v (.bool true))]
def k376_2 : K :=
 l .len [x 0]<|
 l oL [x 5,x 6]<|
 b (x 7) (l (.tix 1) [x 0,x 5]<|
 l (.elt 0 0) [x 0,x 8]<|
 l (.tix 1) [x 1,x 5]<|
 l (.elt 0 0) [x 1,x 10]<|
 l (.bbin .neq) [x 9,x 11]<|
 b (x 12) (.ret [.c (.v (.bool false))])<|
 l oA [x 5,i 1]<|
 j 1 [x 13])<|
 j 0 []
def k376 : K :=
 l .len [x 0]<|
 l .len [x 1]<|
 l oN [x 2,x 3]<|
 b (x 4) (.ret [.c (.v (.bool false))])<|
.jp k376_1<|
.loop k376_2<|
 j 1 [i 0]
def h376 : List Hint := [.no,(.j ⟨0,[(4,(.w (.c (.a (.c (.v (.bool false)))))))],[],0⟩),(.j ⟨1,[(1,(w 1)),(0,(w 0)),(4,(.w (.c (.a (.c (.v (.bool false))))))),(5,(w 5))],[],0⟩),.no,.no,.no]
theorem q376 : symF D0 100000 376 h376 = some k376 := by kernel_rfl
def k384 : K :=
 l (.shape 3) [x 0]<|
 l (.shape 3) [x 1]<|
 l (.shape 2) [x 2]<|
 l (.cell 1) [x 3]<|
 l (.cell 1) [x 4]<|
 l oS [x 6,x 7]<|
 l (.cell 1) [x 5]<|
 c 304 [x 8,x 9]<|
 l (.cell 2) [x 3]<|
 l (.cell 2) [x 4]<|
 l oS [x 11,x 12]<|
 l (.cell 0) [x 5]<|
 c 304 [x 13,x 14]<|
 c 414 [x 10,x 15]<|
 c 305 [x 16]<|
.ret [x 17]
def h384 : List Hint := []
theorem q384 : symF D0 100000 384 h384 = some k384 := by kernel_rfl
def k386 : K :=
 c 415 [x 0,x 1]<|
 l oH [x 2,i 0]<|
.ret [x 3]
def h386 : List Hint := []
theorem q386 : symF D0 100000 386 h386 = some k386 := by kernel_rfl
def k387_1 : K :=
.ret [i 0]
def k387_2 : K :=
 l oL [x 2,x 1]<|
 b (x 3) (l (.tix 1) [x 0,x 2]<|
 l (.elt 0 0) [x 0,x 4]<|
 l oN [x 5,i 0]<|
 b (x 6) (.ret [x 5])<|
 l oA [x 2,i 1]<|
 j 1 [x 7])<|
 j 0 []
def k387 : K :=
 l .len [x 0]<|
.jp k387_1<|
.loop k387_2<|
 j 1 [i 0]
def h387 : List Hint := [(.j ⟨0,[(3,(wi 0)),(2,(wi 0))],[],0⟩),(.j ⟨1,[(2,(wi 0)),(3,(wi 0)),(6,(w 0)),(7,(w 1)),(8,(w 2))],[],0⟩),.no,.no,.no]
theorem q387 : symF D0 100000 387 h387 = some k387 := by kernel_rfl
def k388 : K :=
 l (.shape 3) [x 0]<|
 l (.shape 3) [x 1]<|
 l .agg [i 0,i 1]<|
 c 328 [x 2,x 3,x 4]<|
 l oN [x 5,i 0]<|
 b (x 6) (l .agg [i 0,i 0]<|
.ret [x 7,x 5])<|
 l (.cell 2) [x 2]<|
 l (.cell 2) [x 3]<|
 l oE [x 7,x 8]<|
 b (x 9) (l .agg [i 0,i 0]<|
.ret [x 10,i 6])<|
 l (.cell 1) [x 2]<|
 l (.cell 1) [x 3]<|
 l oS [x 10,x 11]<|
 l (.cell 2) [x 3]<|
 l (.cell 2) [x 2]<|
 l oS [x 13,x 14]<|
 c 416 [x 12,x 15]<|
 l (.shape 2) [x 16]<|
.ret [x 18,x 17]
def h388 : List Hint := [.no,.no]
theorem q388 : symF D0 100000 388 h388 = some k388 := by kernel_rfl
def k389_1 : K :=
 l .agg [x 2,x 3]<|
.ret [x 4]
def k389_2 : K :=
 l .add64 [x 3,x 12,.c (.v (.int .u64 0))]<|
 l oA [x 2,x 19]<|
 l (.cell 1) [x 20]<|
 l (.conv .i64) [x 22]<|
 l oA [x 21,x 23]<|
 l oA [x 4,i 1]<|
 l (.cell 0) [x 20]<|
 j 1 [x 24,x 26,x 25]
def k389_3 : K :=
 l (.cell 1) [x 6]<|
 l oL [x 17,i 0]<|
.jp k389_2<|
 b (x 18) (l (.cell 0) [x 6]<|
 l oS [x 16,x 19]<|
 j 2 [x 20])<|
 j 2 [x 16]
def k389_4 : K :=
 l oL [x 4,i 2]<|
 b (x 5) (l (.aix 2 2 2) [x 1,x 4]<|
 l (.cell 0) [x 6]<|
 l (.conv .u64) [x 7]<|
 l (.cell 1) [x 6]<|
 l (.conv .u64) [x 9]<|
 c 289 [x 8,x 10]<|
 l (.conv .i64) [x 11]<|
 l (.cell 0) [x 6]<|
 l oL [x 14,i 0]<|
.jp k389_3<|
 b (x 15) (l (.cell 1) [x 6]<|
 l oS [x 13,x 16]<|
 j 2 [x 17])<|
 j 2 [x 13])<|
 j 0 [x 2,x 3]
def k389 : K :=
 l (.shape 4) [x 0]<|
.jp k389_1<|
.loop k389_4<|
 j 1 [i 0,.c (.v (.int .u64 0)),i 0]
def h389 : List Hint := [(.j ⟨2,[(3,(p 0 0)),(2,(p 1 0))],[(0,(.box [(a 2),(a 3)])),(1,(.box [(.a (i 0)),(.a (.c (.v (.int .u64 0))))]))],2⟩),(.j ⟨3,[(2,(p 0 0)),(3,(p 1 0)),(11,(v 1)),(12,(w 4))],[(0,(.box [(.a (i 0)),(.a (.c (.v (.int .u64 0))))])),(1,(.box [(a 2),(a 3)]))],2⟩),.no,.no,(.j ⟨1,[(12,(w 4)),(11,(v 1)),(3,(p 0 0)),(2,(p 1 0)),(13,(w 5)),(14,(v 6)),(5,(p 2 0)),(16,(p 2 0)),(17,(.w (.c (r 6 0)))),(18,(w 8)),(19,(p 2 1)),(20,(.w (.c (r 6 1)))),(21,(w 10)),(22,(.tup [(.c (a 11)),(.c (a 12))])),(15,(.tup [(.c (a 11)),(.c (a 12))])),(23,(w 11)),(24,(w 12)),(6,(w 11)),(7,(w 12)),(25,(w 11)),(26,(w 13)),(27,(p 2 0)),(28,(.w (.c (r 6 0)))),(29,(w 15)),(8,(w 16))],[(0,(.box [(a 2),(a 3)])),(1,(.box [(.a (i 0)),(.a (.c (.v (.int .u64 0))))])),(2,(.box [(r 6 0),(r 6 1)]))],3⟩),(.j ⟨1,[(29,(w 15)),(28,(.w (.c (r 6 0)))),(27,(p 0 0)),(26,(w 13)),(25,(w 11)),(7,(w 12)),(6,(w 11)),(24,(w 12)),(23,(w 11)),(15,(.tup [(.c (a 11)),(.c (a 12))])),(22,(.tup [(.c (a 11)),(.c (a 12))])),(21,(w 10)),(20,(.w (.c (r 6 1)))),(19,(p 0 1)),(18,(w 8)),(17,(.w (.c (r 6 0)))),(16,(p 0 0)),(5,(p 0 0)),(14,(v 6)),(13,(w 5)),(2,(p 1 0)),(3,(p 2 0)),(11,(v 1)),(12,(w 4)),(34,(p 0 1)),(35,(.w (.c (r 6 1)))),(36,(w 18)),(8,(w 19))],[(0,(.box [(r 6 0),(r 6 1)])),(1,(.box [(.a (i 0)),(.a (.c (.v (.int .u64 0))))])),(2,(.box [(a 2),(a 3)]))],3⟩)]
theorem q389 : symF D0 100000 389 h389 = some k389 := by kernel_rfl
def k395 : K :=
 l oN [x 0,x 0]<|
.ret [x 1]
def h395 : List Hint := []
theorem q395 : symF D0 100000 395 h395 = some k395 := by kernel_rfl
def k396 : K :=
 l (.shape 3) [x 0]<|
 l (.shape 3) [x 1]<|
 l (.cell 1) [x 2]<|
 l (.cell 1) [x 3]<|
 l oS [x 4,x 5]<|
 l (.cell 2) [x 3]<|
 l (.cell 2) [x 2]<|
 l oS [x 7,x 8]<|
 c 419 [x 6,x 9]<|
 l (.shape 2) [x 10]<|
.ret [x 12]
def h396 : List Hint := []
theorem q396 : symF D0 100000 396 h396 = some k396 := by kernel_rfl
def k397_1 : K :=
.ret [x 6]
def k397_2 : K :=
 l oA [x 7,i 1]<|
 j 1 [x 11,x 12]
def k397_3 : K :=
.jp k397_2<|
 b (x 10) (j 2 [x 7])<|
 j 2 [x 6]
def k397_4 : K :=
 l oL [x 7,x 3]<|
 b (x 8) (.jp k397_3<|
 l oL [x 6,i 0]<|
 b (x 9) (j 2 [x 9,.c (.v (.bool true))])<|
 l (.cell 0) [x 4]<|
 l (.tix 3) [x 10,x 7]<|
 l (.elt 0 3) [x 10,x 11]<|
 l (.cell 0) [x 4]<|
 l (.tix 3) [x 13,x 6]<|
 l (.elt 0 3) [x 13,x 14]<|
 c 323 [x 12,x 15,x 5]<|
 j 2 [x 9,x 16])<|
 j 0 [x 6]
def k397 : K :=
 l (.shape 1) [x 0]<|
 l (.shape 2) [x 1]<|
.jp k397_1<|
.loop k397_4<|
 j 1 [i (-1),x 2]
def h397 : List Hint := [(.j ⟨1,[(9,(w 6)),(8,(wi 0))],[],0⟩),(.j ⟨2,[(3,(w 3)),(4,(p 0 0)),(5,(p 1 0)),(8,(wi 0)),(9,(w 6)),(10,(w 7))],[(0,(.box [(r 4 0)])),(1,(.box [(r 5 0),(r 5 1)]))],2⟩),.no,.no,(.j ⟨2,[(10,(w 7)),(9,(w 6)),(8,(wi 0)),(5,(p 0 0)),(4,(p 1 0)),(3,(w 3)),(12,(w 7)),(13,(w 3)),(14,(w 8)),(17,(w 6)),(18,(w 9)),(19,(w 9)),(32,(w 10))],[(0,(.box [(r 5 0),(r 5 1)])),(1,(.box [(r 4 0)]))],2⟩),(.j ⟨1,[(32,(w 10)),(19,(w 9)),(18,(w 9)),(17,(w 6)),(14,(w 8)),(13,(w 3)),(12,(w 7)),(3,(w 3)),(4,(p 0 0)),(5,(p 1 0)),(8,(wi 0)),(10,(w 7)),(9,(w 11))],[(0,(.box [(r 4 0)])),(1,(.box [(r 5 0),(r 5 1)]))],2⟩)]
theorem q397 : symF D0 100000 397 h397 = some k397 := by kernel_rfl
def k414_1 : K :=
 l .agg [x 7,x 16,x 13]<|
.ret [x 17]
def k414_2 : K :=
 l (.part 1 2) [x 10]<|
 l .agg [x 11,x 12]<|
.ret [x 13]
def k414 : K :=
 l (.shape 3) [x 0]<|
 l (.shape 3) [x 1]<|
 l (.cell 0) [x 2]<|
 l (.cell 0) [x 3]<|
 l (.bbin .eql) [x 4,x 5]<|
 b (x 6) (l (.cell 0) [x 2]<|
 l (.cell 1) [x 2]<|
 l (.cell 1) [x 3]<|
 l oA [x 8,x 9]<|
 l (.cell 2) [x 2]<|
 l (.cell 2) [x 3]<|
 l oA [x 11,x 12]<|
 l (.cell 2) [x 2]<|
 l oL [x 13,x 14]<|
.jp k414_1<|
 b (x 15) (l oA [x 10,.c (.v (.int .u64 1))]<|
 j 0 [x 16])<|
 j 0 [x 10])<|
 c 306 [x 2,x 3]<|
 l oH [x 7,i 0]<|
 b (x 8) (c 423 [x 2,x 3]<|
 l (.shape 3) [x 9]<|
.jp k414_2<|
 l (.cell 0) [x 2]<|
 b (x 11) (l (.cell 1) [x 10]<|
 l oG [x 12,.c (.v (.int .u64 0))]<|
 b (x 13) (j 0 [.c (.v (.bool true))])<|
 l (.cell 2) [x 10]<|
 l oG [x 14,.c (.v (.int .u64 0))]<|
 j 0 [x 15])<|
 j 0 [.c (.v (.bool false))])<|
 c 423 [x 3,x 2]<|
 l (.shape 3) [x 9]<|
 l (.cell 0) [x 3]<|
 l (.part 1 2) [x 10]<|
 l .agg [x 11,x 12]<|
.ret [x 13]
def h414 : List Hint := [.no,(.j ⟨1,[(2,(p 0 0)),(3,(p 1 0)),(4,(p 2 0)),(5,(p 3 0))],[(0,(.box (pcs (x 2) 0 3))),(1,(.box (pcs (x 3) 0 3))),(2,(.box [(.a (.c (.v (.bool false)))),(.a (.c (.v (.int .u64 0)))),(.a (.c (.v (.int .u64 0))))])),(3,(.box [(a 7),(a 16),(a 13)]))],4⟩),.no,(.j ⟨1,[(2,(p 0 0)),(3,(p 1 0)),(4,(p 2 0)),(6,(p 3 0))],[(0,(.box (pcs (x 2) 0 3))),(1,(.box (pcs (x 3) 0 3))),(2,(.box [(.a (.c (.v (.bool false)))),(.a (.c (.v (.int .u64 0)))),(.a (.c (.v (.int .u64 0))))])),(3,(.box [(a 11),(r 10 1),(r 10 2)]))],4⟩)]
theorem q414 : symF D0 100000 414 h414 = some k414 := by kernel_rfl
def k415_1 : K :=
.ret [i (-1)]
def k415_2 : K :=
 l oL [x 3,x 2]<|
 b (x 4) (l (.tix 1) [x 0,x 3]<|
 l (.elt 0 0) [x 0,x 5]<|
 l (.bbin .eql) [x 1,x 6]<|
 b (x 7) (.ret [x 3])<|
 l oA [x 3,i 1]<|
 j 1 [x 8])<|
 j 0 []
def k415 : K :=
 l .len [x 0]<|
.jp k415_1<|
.loop k415_2<|
 j 1 [i 0]
def h415 : List Hint := [(.j ⟨0,[(4,(wi 0))],[],0⟩),(.j ⟨1,[(1,(w 1)),(0,(w 0)),(4,(wi 0)),(7,(w 2)),(8,(w 3))],[],0⟩),.no,.no,.no]
theorem q415 : symF D0 100000 415 h415 = some k415 := by kernel_rfl
def k416 : K :=
 l oE [x 1,i 0]<|
 b (x 2) (l .agg [i 0,i 0]<|
.ret [x 3,i 26])<|
 c 116 [x 0]<|
 c 116 [x 1]<|
 c 115 [x 3,x 4]<|
 l oL [x 0,i 0]<|
 l oL [x 1,i 0]<|
 l (.bbin .neq) [x 6,x 7]<|
 c 116 [x 0]<|
 l (.bin .quo) [x 9,x 5]<|
 c 116 [x 1]<|
 l (.bin .quo) [x 11,x 5]<|
 l .agg [x 8,.c (.v (.int .u64 0)),x 10]<|
 c 424 [x 13,.c (.v (.int .u64 0)),x 12]<|
 l (.shape 2) [x 14]<|
 l (.part 0 2) [x 16]<|
.ret [x 17,x 15]
def h416 : List Hint := [.no]
theorem q416 : symF D0 100000 416 h416 = some k416 := by kernel_rfl
end Go.Proofs.YtfghdmmapmdcgaaGreat
