import Derived.Test.YtfghdmmapmdcgaaGreatBcD
set_option linter.unusedVariables false
set_option linter.unusedSimpArgs false
set_option linter.defProp false
noncomputable section
namespace Go.Proofs.YtfghdmmapmdcgaaGreat
open Go.Sym Go.Sym.KP
def C1:K:=
 S 3 0<|C 0 1<|N oL 2 0<|B 3 (D [i 8])<|C 0 1<|N oG 4 65535<|B 5 (D [i 8])<|C 1 1<|N oL 6 (-1048576)<|B 7 (D [i 8])<|C 1 1<|N oG 8 1048576<|B 9 (D [i 8])<|C 2 1<|N oL 10 (-1048576)<|B 11 (D [i 8])<|C 2 1<|N oG 12 1048576<|B 13 (D [i 8])<|D [i 0]
theorem ZE:qQ 239 [n,n]=some C1:=by kernel_rfl
def C2:K:=
 S 1 0<|S 2 1<|Z 321 3 4 2<|S 2 5<|D [x 6]
theorem ZF:qQ 240 []=some C2:=by kernel_rfl
def C3:K:=
 S 2 0<|C 1 2<|L 3<|V oS 1 4<|N oH 5 0<|B 6 (C 0 2<|T 1 7 5<|E 0 0 7 8<|D [x 9])<|C 1 2<|T 1 7 1<|E 0 0 7 8<|D [x 9]
theorem ZG:qQ 242 [n]=some C3:=by kernel_rfl
def GZ:K:=
 D [x 6]
def rW:K:=
 N oA 7 1<|j 1 [x 16,x 17]
def G0:K:=
 .jp rW<|B 15 (N oA 6 1<|J 2 16)<|J 2 6
def xQ:K:=
 C 0 3<|L 8<|V oL 7 9<|B 10 (.jp G0<|C 0 3<|T 3 11 7<|E 0 0 11 12<|C 0 4<|V oN 13 14<|B 15 (C 0 3<|T 3 16 7<|E 0 3 16 17<|Z 323 18 4 5<|j 2 [x 11,x 12,x 13,x 15,x 19])<|j 2 [x 11,x 12,x 13,x 15,ff])<|J 0 6
def C4:K:=
 S 1 0<|S 3 1<|S 2 2<|.jp GZ<|.loop xQ<|j 1 [i 0,i 0]
theorem ZH:qQ 243 [m 1 3 [7,6] [(7,w 6)] [] [],m 2 3 [3,4,5,6,7,8] [(7,w 6),(8,w 7)] [0,1,2] [],n,n,m 5 3 [8,7,6,5,4,3,9,10,11,12,13,16,17,18,19,20,21,22,23,24,25,34] [(16,p 0 0),(17,(.w (.c (r 3 0)))),(18,w 7),(19,(.w (.c (.tp (x 11) (x 12) 0)))),(20,(.w (.c (.tp (x 11) (x 12) 0)))),(21,w 13),(22,p 1 0),(23,(.w (.c (r 4 0)))),(24,w 14),(25,w 14),(34,w 15)] [2,1,0] [],m 1 3 [34,25,24,23,22,21,20,19,18,17,16,13,12,11,10,9,3,4,5,6,8,7] [(7,w 16)] [1,0,2] []]=some C4:=by kernel_rfl
def G1:K:=
 D [i 0]
def xR:K:=
 V oL 13 10<|B 14 (C 1 1<|T 3 15 13<|E 0 3 15 16<|P 1 2 17<|X 324 18<|W 19<|B 20 (D [i 8])<|P 1 2 17<|V (.mget [.i,.i] [(.v (.bool false))]) 11 21<|B 22 (D [i 8])<|C 0 17<|V oK 23 12<|B 24 (D [i 8])<|C 0 17<|C 0 1<|V oH 25 26<|B 27 (D [i 8])<|P 1 2 17<|l (.mset [.i,.i] 1) [x 11,x 28,ft]<|N oA 13 1<|C 0 17<|j 1 [x 29,x 31,x 30])<|j 0 []
def C5:K:=
 S 2 0<|C 1 1<|L 2<|N oG 3 200<|B 4 (D [i 8])<|C 0 1<|N oL 5 0<|B 6 (D [i 8])<|C 0 1<|N oG 7 1000000<|B 8 (D [i 8])<|C 1 1<|L 9<|.jp G1<|.loop xR<|j 1 [s,i (-1),i 0]
theorem ZI:qQ 244 [n,n,m 0 2 [2] [] [] [],m 3 2 [1,2,3,4,23,24,25] [(4,w 12),(25,w 13)] [0,1] [(1,(.map (x 11) true 2 false))],n,n,n,n]=some C5:=by kernel_rfl
def G2:K:=
 D [i 0]
def k245_2:K:=
 B 40 (D [i 8])<|N oA 23 1<|j 1 [x 38,x 41]
def xS:K:=
 V oL 23 21<|B 24 (C 3 1<|T 5 25 23<|E 0 5 25 26<|P 0 2 27<|X 43 28<|N oN 29 0<|B 30 (D [i 8])<|C 2 27<|N oL 31 0<|B 32 (D [i 8])<|C 2 27<|N oG 33 1000000<|B 34 (D [i 8])<|C 2 27<|V (.mget [.i] [(.v (.bool false))]) 22 35<|B 36 (D [i 8])<|C 2 27<|l (.mset [.i] 1) [x 22,x 37,ft]<|.jp k245_2<|N oG 23 0<|B 39 (N oS 23 1<|N (.bin .quo) 40 2<|C 3 1<|T 5 42 41<|E 0 5 42 43<|Y 326 27 44<|N oL 45 0<|j 2 [x 39,x 46])<|j 2 [x 39,ff])<|j 0 []
def G3:K:=
 C 3 1<|L 20<|.jp G2<|.loop xS<|j 1 [s,i 0]
def k245_5:K:=
 N oA 20 1<|J 1 29
def xT:K:=
 V oL 20 19<|B 21 (.jp k245_5<|C 4 1<|T 1 22 20<|E 0 0 22 23<|C 1 1<|T 1 25 20<|E 0 0 25 26<|W 27<|B 28 (N oN 24 (-1)<|B 29 (D [i 8])<|j 2 [x 22,x 23,x 24,x 25,x 26,x 27,x 28])<|N oL 24 0<|B 29 (D [i 8])<|C 3 1<|L 30<|V oH 24 31<|B 32 (D [i 8])<|C 3 1<|T 5 33 24<|E 3 2 33 34<|C 0 1<|T 1 36 20<|E 0 0 36 37<|H [x 20,x 38]<|V (.eqv [.i,.i]) 35 39<|W 40<|B 41 (D [i 8])<|j 2 [x 22,x 23,x 24,x 25,x 26,x 27,x 28])<|j 0 []
def C6:K:=
 S 5 0<|P 0 3 1<|X 325 2<|N oN 3 0<|B 4 (D [i 8])<|C 4 1<|L 5<|C 1 1<|L 7<|V oN 6 8<|B 9 (D [i 8])<|C 3 1<|L 10<|C 1 1<|L 12<|C 2 1<|L 14<|V oS 13 15<|V oN 11 16<|B 17 (D [i 8])<|C 4 1<|L 18<|.jp G3<|.loop xT<|j 1 [i 0]
theorem ZJ:qQ 245 [n,n,m 0 1 [2,1] [] [0] [],m 1 1 [1,2,38,39,40] [(40,w 20)] [0] [],n,m 7 1 [40,39,38,2,1,41,42,43,44,3,4,45,46,47,48,49,50,51] [(42,w 20),(43,(.w (.c (.tp (x 22) (x 23) 0)))),(44,w 24),(3,w 20),(4,w 24),(45,p 0 0),(46,p 0 1),(47,(.w (.c (r 1 1)))),(48,w 20),(49,(.w (.c (.tp (x 25) (x 26) 0)))),(50,w 27),(51,w 28)] [0] [],n,n,n,n,m 0 2 [2] [] [] [],m 2 2 [1,2,5,83,84,85] [(85,w 23)] [0,1] [(1,(.map (x 22) false 1 false))],n,n,n,n,m 2 3 [85,84,83,5,2,1,86,87,88,89,7,6,90,91,92,93,94,95,96,97,98,99,100,101,102,103,104,105,106,107,108,109,110,111,112,113,114,115,126] [(113,w 23),(114,w 39),(115,w 39),(126,w 40)] [1,0,2] [],n]=some C6:=by kernel_rfl
def C7:K:=
 S 1 0<|S 2 1<|S 2 2<|C 1 4<|Y 315 3 6<|C 0 4<|Y 315 3 8<|Z 327 7 9 5<|S 2 10<|P 0 2 13<|D [x 14,x 11,x 12]
theorem ZK:qQ 246 []=some C7:=by kernel_rfl
def G4:K:=
 D [i (-1)]
def xU:K:=
 V oL 4 3<|B 5 (T 2 0 4<|E 0 2 0 6<|V (.eqv [.i,.i]) 2 7<|B 8 (D [x 4])<|N oA 4 1<|J 1 9)<|j 0 []
def C8:K:=
 S 2 1<|L 0<|.jp G4<|.loop xU<|j 1 [i 0]
theorem ZL:qQ 247 [m 0 1 [4] [] [] [],m 1 1 [0,3,4,7,8] [(8,w 4)] [0] [],n,n,n]=some C8:=by kernel_rfl
def C9:K:=
 S 1 0<|Y 281 2 1<|N oN 4 0<|B 5 (H [i 0,i 0,i 0]<|D [x 6,x 4])<|C 0 2<|T 3 6 3<|E 0 3 6 7<|D [x 8,i 0]
theorem ZM:qQ 248 [n]=some C9:=by kernel_rfl
def Da:K:=
 S 3 0<|S 3 1<|S 2 2<|Z 328 3 4 5<|N oN 6 0<|B 7 (D [ff,x 6])<|Z 329 3 4 5<|N oG 8 0<|D [x 9,i 0]
theorem ZN:qQ 249 [n]=some Da:=by kernel_rfl
def k250_1:K:=
 l oH [i (-1),i 0]<|W 4<|D [x 5]
def k250_2:K:=
 V oL 4 2<|B 5 (T 1 0 4<|E 0 0 0 6<|V (.mget [.i] [(.v (.bool false))]) 3 7<|N oH 7 0<|l (.mset [.i] 1) [x 3,x 7,x 9]<|W 8<|W 11<|B 12 (N oH 4 0<|W 13<|D [x 14])<|N oA 4 1<|j 1 [x 10,x 13])<|J 0 3
def Db:K:=
 l (.mset [.i] 1) [s,i (-1),ff]<|L 0<|.jp k250_1<|.loop k250_2<|j 1 [x 1,i 0]
theorem ZO:qQ 250 [m 1 3 [4] [] [0,1,2] [(0,(.map (x 3) false 1 false))],m 2 3 [1,0,4,7,8] [(8,w 4)] [0,1,2] [(0,(.map (x 3) false 1 false))],n,n,n]=some Db:=by kernel_rfl
def G5:K:=
 D [i 0]
def G6:K:=
 N oA 9 1<|J 1 24
def k258_3:K:=
 V oL 22 9<|B 23 (C 1 1<|T 3 24 22<|E 1 2 24 25<|P 1 2 15<|V (.eqv [.i,.i]) 26 27<|B 28 (D [i 8])<|N oA 22 1<|J 3 29)<|j 2 [x 22,x 23]
def kD:K:=
 B 21 (D [i 8])<|.jp G6<|.loop k258_3<|j 3 [i 0]
def xV:K:=
 C 1 1<|L 10<|V oL 9 11<|B 12 (C 1 1<|T 3 13 9<|E 0 3 13 14<|.jp kD<|P 1 2 15<|X 344 16<|W 17<|B 18 (j 2 [x 16,x 17,x 18,ft,ft,ft])<|C 0 15<|N oL 19 0<|B 20 (j 2 [x 16,x 17,x 18,x 20,ft,ft])<|C 0 15<|C 0 1<|V oH 21 22<|B 23 (j 2 [x 16,x 17,x 18,x 20,x 23,ft])<|N oG 9 0<|B 24 (N oS 9 1<|C 1 1<|T 3 26 25<|E 0 0 26 27<|C 0 15<|V oH 28 29<|j 2 [x 16,x 17,x 18,x 20,x 23,x 30])<|j 2 [x 16,x 17,x 18,x 20,x 23,ff])<|j 0 []
def Dc:K:=
 S 2 0<|C 1 1<|L 2<|N oG 3 200<|B 4 (D [i 8])<|C 0 1<|N oL 5 0<|B 6 (D [i 8])<|C 0 1<|N oG 7 1000000<|B 8 (D [i 8])<|.jp G5<|.loop xV<|j 1 [i 0]
theorem ZP:qQ 258 [n,n,m 0 1 [2] [] [] [],m 1 1 [1,2,3] [(3,w 9)] [0] [],n,n,m 6 2 [3,2,1,20,21,22,23,24,27,28,29,30,31,4,32,33,34,35,36,40,41,47,48,63] [(32,p 1 1),(33,v 16),(34,w 17),(35,w 18),(36,w 18),(40,w 19),(41,w 19),(47,w 20),(48,w 20),(63,w 21)] [0,1] [],n,m 2 2 [5,3,2,1,20,21,22,23,24,27,28,29,30,31,4,32,33,34,35,36,40,41,47,48,63,64,65,66] [(5,w 22),(64,w 22),(65,w 9),(66,w 23)] [0,1] [],m 1 2 [63,48,47,41,40,36,35,34,33,32,4,31,30,29,28,27,24,23,22,21,20,1,2,3,5] [(5,w 22)] [1,0] [],n,n,n]=some Dc:=by kernel_rfl
def G7:K:=
 D [ft]
def xW:K:=
 C 1 2<|L 5<|V oL 4 6<|B 7 (C 1 2<|T 3 8 4<|E 1 0 8 9<|Y 168 3 10<|N oL 11 0<|B 12 (D [ff])<|C 1 2<|T 3 13 4<|E 2 0 13 14<|Y 168 3 15<|N oL 16 0<|B 17 (D [ff])<|N oA 4 1<|J 1 18)<|j 0 []
def Dd:K:=
 S 2 0<|S 1 1<|.jp G7<|.loop xW<|j 1 [i 0]
theorem ZQ:qQ 259 [m 0 2 [4] [] [] [],m 1 2 [2,3,4,5] [(5,w 4)] [0,1] [],n,n,n,n]=some Dd:=by kernel_rfl
def G8:K:=
 D [i 0]
def k260_2:K:=
 C 3 1<|L 8<|V oL 7 9<|B 10 (C 3 1<|T 5 11 7<|E 0 5 11 12<|N oS 7 1<|N (.bin .quo) 14 2<|C 3 1<|T 5 16 15<|E 0 5 16 17<|Y 347 13 18<|B 19 (D [i 8])<|N oA 7 1<|J 1 20)<|j 0 []
def G9:K:=
 .jp G8<|.loop k260_2<|j 1 [i 1]
def Ha:K:=
 N oA 7 1<|J 1 23
def k260_5:K:=
 V oL 21 7<|B 22 (C 3 1<|T 5 23 21<|E 2 0 23 24<|C 2 13<|V oE 25 26<|B 27 (D [i 8])<|N oA 21 1<|J 3 28)<|j 2 [x 21,x 22]
def xX:K:=
 C 3 1<|L 8<|V oL 7 9<|B 10 (C 3 1<|T 5 11 7<|E 0 5 11 12<|P 0 2 13<|X 128 14<|N oN 15 0<|B 16 (D [i 8])<|C 2 13<|N oL 17 0<|B 18 (D [i 8])<|C 2 13<|N oG 19 1000000<|B 20 (D [i 8])<|.jp Ha<|.loop k260_5<|j 3 [i 0])<|j 0 []
def De:K:=
 S 5 0<|P 0 3 1<|X 345 2<|N oN 3 0<|B 4 (D [i 8])<|X 346 1<|W 5<|B 6 (D [i 8])<|.jp G9<|.loop xX<|j 1 [i 0]
theorem ZR:qQ 260 [n,n,m 0 1 [2,1] [] [0] [],m 1 1 [1,2,3] [(3,w 7)] [0] [],n,n,n,n,m 2 2 [5,41,40,39,38,37,36,35,34,33,32,31,30,29,28,4,27,26,25,24,23,20,19,18,17,16,1,2,3,42,43,44] [(5,w 21),(42,w 21),(43,w 7),(44,w 22)] [1,0] [],m 1 2 [3,2,1,16,17,18,19,20,23,24,25,26,27,4,28,29,30,31,32,33,34,35,36,37,38,39,40,41,5] [(5,w 21)] [0,1] [],n,n,n,m 0 1 [2] [] [] [],m 1 1 [1,2,6] [(6,w 7)] [0] [],n,n,n]=some De:=by kernel_rfl
def k261:K:=
 S 1 0<|S 2 1<|S 2 2<|C 1 4<|Y 168 3 6<|C 0 3<|T 3 8 7<|E 0 3 8 9<|C 0 4<|Y 168 3 11<|C 0 3<|T 3 13 12<|E 0 3 13 14<|Z 348 10 15 5<|S 2 16<|P 0 2 18<|D [x 19,x 17]
theorem ZS:qQ 261 []=some k261:=by kernel_rfl
def k262:K:=
 S 5 0<|S 2 1<|X 260 2<|N oN 4 0<|B 5 (H [i 0,i 0,i 0,i 0,i 0]<|D [x 6,i 8])<|P 0 3 2<|Y 349 6 3<|W 7<|B 8 (H [i 0,i 0,i 0,i 0,i 0]<|D [x 9,i 6])<|C 4 2<|C 0 3<|T 1 9 10<|E 0 0 9 11<|C 3 2<|T 5 13 12<|E 0 5 13 14<|S 5 15<|P 0 5 16<|D [x 17,i 0]
theorem ZT:qQ 262 [n,n]=some k262:=by kernel_rfl
def Hb:K:=
 D [ff]
def xY:K:=
 C 1 2<|L 5<|V oL 4 6<|B 7 (C 1 2<|T 3 8 4<|E 1 2 8 9<|V (.eqv [.i,.i]) 10 3<|B 11 (D [ft])<|N oA 4 1<|J 1 12)<|j 0 []
def Df:K:=
 S 2 0<|S 2 1<|.jp Hb<|.loop xY<|j 1 [i 0]
theorem ZU:qQ 263 [m 0 2 [4] [] [] [],m 1 2 [2,3,4,5] [(5,w 4)] [0,1] [],n,n,n]=some Df:=by kernel_rfl
def k264:K:=
 S 2 0<|S 1 1<|S 2 2<|C 1 3<|Y 168 4 6<|C 0 4<|T 3 8 7<|E 0 3 8 9<|C 0 3<|Y 168 4 11<|C 0 4<|T 3 13 12<|E 0 3 13 14<|Z 323 10 15 5<|D [x 16]
theorem ZV:qQ 264 []=some k264:=by kernel_rfl
def Hc:K:=
 D [ff]
def Hd:K:=
 N oA 1 1<|J 1 6
def k265_3:K:=
 B 9 (D [ft])<|N oA 4 1<|J 3 10
def k265_4:K:=
 V oL 4 1<|B 5 (.jp k265_3<|T 1 0 1<|E 0 0 0 6<|N oH 7 0<|B 8 (T 1 0 4<|E 0 0 0 9<|T 1 0 1<|E 0 0 0 11<|V oE 10 12<|j 4 [x 6,x 7,x 8,x 13])<|j 4 [x 6,x 7,x 8,ff])<|j 2 [x 4,x 5]
def xZ:K:=
 L 0<|V oL 1 2<|B 3 (.jp Hd<|.loop k265_4<|j 3 [i 0])<|j 0 []
def Dg:K:=
 .jp Hc<|.loop xZ<|j 1 [i 0]
theorem ZW:qQ 265 [m 0 0 [2] [] [] [],m 1 0 [0,2,3] [(3,w 1)] [] [],n,n,m 2 0 [4,8,7,6,5,0,2,3,11,12,13] [(4,w 4),(11,w 4),(12,w 1),(13,w 5)] [] [],m 1 0 [3,2,0,5,6,7,8,4] [(4,w 4)] [] [],n,n,m 4 0 [4,8,7,6,5,0,2,3,11,12,13,16,17,18,19,20,21,31] [(16,w 0),(17,w 1),(18,(.w (.c (.tp (x 0) (x 6) 0)))),(19,w 7),(20,w 8),(21,w 8),(31,w 9)] [] [],n]=some Dg:=by kernel_rfl
def Dh:K:=
 S 2 0<|C 1 2<|L 3<|V oL 1 4<|B 5 (C 1 2<|T 1 6 1<|E 0 0 6 7<|D [x 8])<|C 1 2<|L 6<|V oS 1 7<|C 0 2<|T 1 9 8<|E 0 0 9 10<|D [x 11]
theorem ZX:qQ 266 [n]=some Dh:=by kernel_rfl
def Di:K:=
 S 1 0<|S 2 1<|N oL 2 0<|B 6 (D [x 3])<|N oL 3 0<|B 7 (D [x 2])<|Y 168 4 2<|C 0 4<|T 3 9 8<|E 0 3 9 10<|Y 168 4 3<|C 0 4<|T 3 13 12<|E 0 3 13 14<|Z 323 11 15 5<|B 16 (D [x 2])<|D [x 3]
theorem ZY:qQ 267 [n,n,n]=some Di:=by kernel_rfl
def k268_1:K:=
 C 0 2<|L 6<|H [i 0,s]<|c 350 [x 2,x 3,x 8,i 0,x 7,x 4]<|U 10 0 5<|H [x 9,x 11]<|D [x 12]
def k268_2:K:=
 C 0 2<|L 7<|V oL 6 8<|B 9 (C 0 2<|T 3 10 6<|E 0 0 10 11<|H [x 12,i 0,i 0]<|l (.bs 1 [z,z,z] [0]) [x 13]<|l .sub [x 14,i 0,i 1]<|l (.app 24 3) [x 4,x 5,x 15]<|L 16<|N oA 6 1<|j 1 [x 16,x 17,x 18])<|j 0 [x 4,x 5]
def Dj:K:=
 S 1 0<|S 2 1<|.jp k268_1<|.loop k268_2<|j 1 [s,i 0,i 0]
theorem ZZ:qQ 268 [m 2 5 [5,4,3,2] [] [3,4,2,1,0] [(3,(.box [(.a (i 0)),(o 4 5)])),(4,(.lst (x 4) (x 5) 3 false))],m 3 5 [2,3,4,5,6] [(6,w 6)] [0,1,2,3,4] [(3,(.box [(.a (i 0)),(o 4 5)])),(4,(.lst (x 4) (x 5) 3 false))],n,n]=some Dj:=by kernel_rfl
def x0:K:=
 U 9 0 10<|D [x 11]
def x6:K:=
 N (.tix 1) 0 0<|E 0 0 0 18<|N oA 2 1<|U 14 0 15<|Z 269 21 19 20<|l (.app 16 2) [x 9,x 10,x 22]<|L 23<|N oA 11 1<|j 1 [x 23,x 24,x 25]
def rX:K:=
 N oA 15 1<|j 3 [x 23,x 24,x 25]
def x7:K:=
 L 0<|V oL 15 16<|B 17 (T 1 0 15<|E 0 0 0 18<|V (.bin .shr) 19 2<|N (.bin .rem) 20 2<|V oE 21 11<|.jp rX<|B 22 (T 1 0 15<|E 0 0 0 23<|l (.bs 1 [z] [0]) [x 24]<|l .sub [x 25,i 0,i 1]<|l (.app 8 1) [x 13,x 14,x 26]<|L 27<|j 4 [x 27,x 28])<|j 4 [x 13,x 14])<|j 2 [x 15,x 13,x 14,x 16,x 17]
def x8:K:=
 N oL 11 2<|B 12 (.jp x6<|.loop x7<|j 3 [s,i 0,i 1])<|j 0 [x 9,x 10]
def tC:K:=
 L 0<|N oE 3 0<|B 4 (D [s])<|N (.tix 1) 0 0<|E 0 0 0 5<|H [x 6,x 1]<|l (.bs 1 [z,z] [0]) [x 7]<|.jp x0<|.loop x8<|j 1 [x 8,i 1,i 0]
theorem Z0:qQ 269 [n,m 2 2 [7,6] [(7,(.w (.c (o 1 10))))] [1] [(1,(.lst (x 9) (x 10) 2 false))],m 3 2 [2,0,6,7,8] [(7,(.w (.c (o 1 10)))),(8,w 11)] [1] [(1,(.lst (x 9) (x 10) 2 false))],n,n,m 5 3 [10,9,21,20,2,0,6,7,8,24,25,26,27] [(10,w 13),(9,(.w (.c (o 2 15)))),(24,w 13),(25,w 0),(26,w 16),(27,w 17)] [2,1] [(2,(.lst (x 14) (x 15) 1 false))],m 3 3 [8,7,6,0,2,20,21,9,10] [(9,(.w (.c (o 2 14)))),(10,w 15)] [1,2] [(2,(.lst (x 13) (x 14) 1 false))],n,n,m 2 4 [10,21,20,2,0,6,7,8,24,25,26,27,30,31,32,33,34,35,36,37,38,9] [(9,(.w (.c (o 3 24))))] [1,3] [(3,(.lst (x 23) (x 24) 1 false))]]=some tC:=by kernel_rfl
def He:K:=
 B 7 (D [i 8])<|D [i 0]
def Hf:K:=
 B 6 (D [i 8])<|.jp He<|C 2 1<|N oL 7 (-1048576)<|B 8 (j 0 [ft])<|C 2 1<|N oG 9 1048576<|J 0 10
def Dk:K:=
 S 3 0<|C 0 1<|N oL 2 0<|B 3 (D [i 8])<|C 0 1<|N oG 4 65535<|B 5 (D [i 8])<|.jp Hf<|C 1 1<|N oL 6 (-1048576)<|B 7 (j 0 [ft])<|C 1 1<|N oG 8 1048576<|J 0 9
theorem Z1:qQ 270 [n,m 1 1 [2] [(2,w 6)] [0] [],m 1 1 [2] [(2,w 7)] [0] [],n]=some Dk:=by kernel_rfl
def x9:K:=
 D [x 5,x 6]
def Rh:K:=
 .jp x9<|V oL 5 4<|B 6 (C 0 2<|T 3 7 5<|E 0 3 7 8<|C 0 9<|Y 354 10 1<|N oE 11 0<|J 0 12)<|j 0 [ff]
def Hg:K:=
 j 1 [x 19,x 18]
def k271_4:K:=
 V oL 5 6<|B 7 (V oA 5 6<|l (.conv .u64) [x 8]<|l (.bin .shr) [x 9,y 1]<|l (.conv .i64) [x 10]<|C 0 2<|T 3 12 11<|E 0 3 12 13<|C 0 14<|Y 354 15 1<|N oL 16 0<|.jp Hg<|B 17 (N oA 11 1<|j 2 [x 6,x 18])<|j 2 [x 11,x 5])<|J 0 5
def Dl:K:=
 S 1 0<|C 0 2<|L 3<|.jp Rh<|.loop k271_4<|j 1 [i 0,x 4]
theorem Z2:qQ 271 [m 1 1 [9,8,7,6,0,1,2] [(9,w 5)] [0] [],m 2 1 [2,1,0,6,7,8,9,10] [(9,w 5),(10,w 6)] [0] [],n,n,m 2 2 [10,8,7,6,0,1,2,15,16,17,18,19,20,21,22,23,11,24,25,26,27,28,29,30,31,9] [(10,w 18),(9,w 19)] [0] [],m 1 1 [6,7] [(6,w 5),(7,w 6)] [0] []]=some Dl:=by kernel_rfl
def k281:K:=
 S 1 0<|X 231 2<|N oN 3 0<|B 4 (D [i 0,x 3])<|Y 271 2 1<|W 6<|B 7 (D [i 0,i 6])<|D [x 5,i 0]
theorem Z3:qQ 281 [n,n]=some k281:=by kernel_rfl
def Hh:K:=
 D [x 2]
def Dm:K:=
 S 3 0<|.jp Hh<|C 0 1<|L 2<|N oG 3 210<|B 4 (j 0 [ft])<|C 1 1<|L 5<|N oG 6 210<|B 7 (j 0 [ft])<|C 2 1<|L 8<|N oG 9 210<|J 0 10
theorem Z4:qQ 285 [m 1 1 [2] [(2,w 2)] [] []]=some Dm:=by kernel_rfl
def Dn:K:=
 S 3 0<|C 0 1<|l (.app 8 1) [s,i 0,x 2]<|L 3<|C 1 1<|l (.app 1 1) [s,i 0,x 5]<|L 6<|C 2 1<|l (.app 8 1) [s,i 0,x 8]<|L 9<|U 3 0 4<|U 6 0 7<|U 9 0 10<|H [x 11,x 12,x 13]<|D [x 14]
theorem Z5:qQ 286 []=some Dn:=by kernel_rfl
def Do:K:=
 V oN 0 0<|D [x 1]
theorem Z6:qQ 287 []=some Do:=by kernel_rfl
def Dp:K:=
 X 359 0<|X 359 1<|B 2 (B 3 (D [i 0])<|D [i (-1)])<|B 3 (D [i 1])<|V oL 0 1<|B 4 (D [i (-1)])<|V oG 0 1<|B 5 (D [i 1])<|D [i 0]
theorem Z7:qQ 288 [n,n,n,n,n]=some Dp:=by kernel_rfl
def Dq:K:=
 l (.bin .and) [x 0,y 4294967295]<|l (.bin .shr) [x 0,y 32]<|l (.bin .and) [x 1,y 4294967295]<|l (.bin .shr) [x 1,y 32]<|V oM 2 4<|V oM 3 4<|l (.bin .shr) [x 6,y 32]<|V oA 7 8<|l (.bin .and) [x 9,y 4294967295]<|l (.bin .shr) [x 9,y 32]<|V oM 2 5<|V oA 10 12<|V oM 3 5<|V oA 14 11<|l (.bin .shr) [x 13,y 32]<|V oA 15 16<|V oM 0 1<|D [x 17,x 18]
theorem Z8:qQ 289 []=some Dq:=by kernel_rfl
def k290:K:=
 S 5 0<|X 245 1<|N oN 2 0<|B 3 (H [i 0,i 0,i 0,i 0,i 0]<|D [x 4,x 2])<|C 3 1<|L 4<|N oE 5 0<|B 6 (H [i 0,i 0,i 0,i 0,i 0]<|D [x 7,i 42])<|C 3 1<|N (.tix 5) 7 0<|E 0 5 7 8<|D [x 9,i 0]
theorem Z9:qQ 290 [n,n]=some k290:=by kernel_rfl
def ya:K:=
 l (.app 24 3) [s,i 0,x 0]<|L 3<|U 3 0 4<|D [x 5]
def Dr:K:=
 L 0<|N oE 1 0<|.jp ya<|B 2 (.amb (D [s])<|j 0 [])<|j 0 []
theorem aaa:qQ 291 [m 0 0 [0,2] [] [] []]=some Dr:=by kernel_rfl
def yb:K:=
 l (.app 24 3) [s,i 0,x 0]<|L 3<|U 3 0 4<|D [x 5]
def Ds:K:=
 L 0<|N oE 1 0<|.jp yb<|B 2 (.amb (D [s])<|j 0 [])<|j 0 []
theorem aab:qQ 292 [m 0 0 [0,2] [] [] []]=some Ds:=by kernel_rfl
def yc:K:=
 l (.app 40 5) [s,i 0,x 0]<|L 3<|U 3 0 4<|D [x 5]
def Du:K:=
 L 0<|N oE 1 0<|.jp yc<|B 2 (.amb (D [s])<|j 0 [])<|j 0 []
theorem aac:qQ 293 [m 0 0 [0,2] [] [] []]=some Du:=by kernel_rfl
def yd:K:=
 l (.app 1 1) [s,i 0,x 0]<|L 3<|U 3 0 4<|D [x 5]
def Dv:K:=
 L 0<|N oE 1 0<|.jp yd<|B 2 (.amb (D [s])<|j 0 [])<|j 0 []
theorem aad:qQ 294 [m 0 0 [0,2] [] [] []]=some Dv:=by kernel_rfl
def Dw:K:=
 S 2 0<|Y 360 2 1<|N oN 4 0<|B 5 (H [i 0,s]<|H [i 0,i 0]<|D [x 6,x 7,x 4])<|C 1 2<|X 291 6<|L 7<|N oA 3 1<|c 361 [s,x 3,x 9,x 7]<|L 10<|C 1 2<|T 3 13 3<|E 1 2 13 14<|S 2 15<|P 0 2 16<|C 0 2<|U 10 0 12<|H [x 18,x 19]<|D [x 20,x 17,i 0]
theorem aae:qQ 295 [n]=some Dw:=by kernel_rfl
def ye:K:=
 D [x 3,x 4]
def yf:K:=
 .jp ye<|V oL 3 2<|B 4 (T 3 0 3<|E 0 3 0 5<|C 0 6<|Y 354 7 1<|N oE 8 0<|J 0 9)<|j 0 [ff]
def Hi:K:=
 j 1 [x 16,x 15]
def rY:K:=
 V oL 3 4<|B 5 (V oA 3 4<|l (.conv .u64) [x 6]<|l (.bin .shr) [x 7,y 1]<|l (.conv .i64) [x 8]<|T 3 0 9<|E 0 3 0 10<|C 0 11<|Y 354 12 1<|N oL 13 0<|.jp Hi<|B 14 (N oA 9 1<|j 2 [x 4,x 15])<|j 2 [x 9,x 3])<|J 0 3
def Dx:K:=
 L 0<|.jp yf<|.loop rY<|j 1 [i 0,x 2]
theorem aaf:qQ 296 [m 1 0 [9,8,7,6,0,1,2] [(9,w 3)] [] [],m 2 0 [2,1,0,6,7,8,9,10] [(9,w 3),(10,w 4)] [] [],n,n,m 2 1 [10,8,7,6,0,1,2,15,16,17,18,19,20,21,22,23,11,24,25,26,27,28,29,30,31,9] [(10,w 15),(9,w 16)] [] [],m 1 0 [6,7] [(6,w 3),(7,w 4)] [] []]=some Dx:=by kernel_rfl
def Dy:K:=
 S 5 0<|S 2 1<|Y 364 2 3<|N oN 5 0<|B 6 (H [s,s,s,s,s]<|H [i 0,i 0,i 0,i 0,i 0]<|D [x 7,x 8,x 5])<|Y 365 2 4<|S 5 7<|S 5 8<|D [x 10,x 11,x 9]
theorem aag:qQ 297 [n]=some Dy:=by kernel_rfl
def Dz:K:=
 L 3<|V .bnd 4 4<|V .bnd 2 5<|V .bnd 1 6<|V oE 1 2<|B 8 (U 3 0 4<|D [x 9,s])<|V .bnd 1 4<|V .bnd 2 4<|l .sum [i 0,x 10]<|V .dif 4 10<|l .sub [x 3,x 11,x 12]<|l (.appK 24 3) [x 3,x 9,x 13]<|L 14<|L 13<|V .sum 9 16<|V .bnd 4 15<|V .bnd 17 18<|l .sum [i 0,x 19]<|V .dif 18 19<|l (.clr [z,z,z]) [x 14,x 20,x 21]<|U 22 0 17<|D [x 23,s]
theorem aah:qQ 298 [n]=some Dz:=by kernel_rfl
def DA:K:=
 S 11 0<|C 2 1<|X 67 2<|L 3<|C 4 1<|X 291 5<|L 6<|C 10 1<|X 292 8<|L 9<|C 8 1<|X 293 11<|L 12<|C 9 1<|X 120 14<|L 15<|C 5 1<|X 120 17<|L 18<|C 6 1<|X 294 20<|L 21<|C 7 1<|X 120 23<|L 24<|P 0 2 1<|U 3 0 4<|C 3 1<|U 6 0 7<|U 18 0 19<|U 21 0 22<|U 24 0 25<|U 12 0 13<|U 15 0 16<|U 9 0 10<|H [x 26,x 27,x 28,x 29,x 30,x 31,x 32,x 33,x 34,x 35]<|D [x 36]
theorem aai:qQ 299 []=some DA:=by kernel_rfl
def k300:K:=
 S 1 0<|S 2 1<|X 231 2<|N oN 4 0<|B 5 (D [x 4])<|X 43 3<|D [x 6]
theorem aaj:qQ 300 [n]=some k300:=by kernel_rfl
def Hj:K:=
 l oH [i (-1),i 0]<|W 4<|D [x 5]
def yg:K:=
 W 10<|B 11 (N oH 4 0<|W 12<|D [x 13])<|N oA 4 1<|J 1 12
def yh:K:=
 V oL 4 3<|B 5 (T 1 1 4<|E 0 0 1 6<|Y 367 2 7<|.jp yg<|B 9 (j 2 [ft])<|N oE 7 (-1)<|J 2 10)<|j 0 []
def DB:K:=
 S 1 0<|L 1<|.jp Hj<|.loop yh<|j 1 [i 0]
theorem aak:qQ 301 [m 0 2 [4] [] [0,1] [],m 1 2 [1,0,4,7,8] [(8,w 4)] [0,1] [],n,n,m 1 2 [3] [(3,w 10)] [0,1] [],n]=some DB:=by kernel_rfl
def DC:K:=
 S 1 0<|S 2 1<|V (.mm false) 2 3<|N oL 6 0<|B 7 (V (.mm true) 2 3<|D [x 8])<|Y 367 4 2<|Y 367 4 3<|C 0 4<|T 3 12 8<|E 0 3 12 13<|C 0 4<|T 3 15 10<|E 0 3 15 16<|Z 249 14 17 5<|B 18 (D [x 2])<|D [x 3]
theorem aal:qQ 302 [n,n]=some DC:=by kernel_rfl
def k303:K:=
 S 1 0<|S 2 1<|X 231 2<|N oN 4 0<|B 5 (D [x 4])<|X 43 3<|D [x 6]
theorem aam:qQ 303 [n]=some k303:=by kernel_rfl
def Hk:K:=
 P 1 2 5<|H [x 6,x 7]<|D [x 8]
def DD:K:=
 X 223 0<|X 223 1<|Y 368 2 3<|S 3 4<|.jp Hk<|N oL 0 0<|N oL 1 0<|V (.bbin .neq) 6 7<|B 8 (N oN 0 0<|B 9 (N oN 1 0<|J 0 10)<|j 0 [ff])<|j 0 [ff]
theorem aan:qQ 304 [m 1 2 [4,5] [] [0,1] [(1,(.box [(a 6),(r 5 1),(r 5 2)]))]]=some DD:=by kernel_rfl
def yi:K:=
 B 2 (D [i 0])<|C 0 1<|B 3 (D [i (-1)])<|D [i 1]
def DE:K:=
 S 3 0<|.jp yi<|C 1 1<|l oE [x 2,y 0]<|B 3 (C 2 1<|l oE [x 4,y 0]<|J 0 5)<|j 0 [ff]
theorem aao:qQ 305 [m 1 1 [1,2,10] [(10,w 2)] [0] [],n,n]=some DE:=by kernel_rfl
def DF:K:=
 S 3 0<|S 3 1<|C 1 2<|C 1 3<|V oN 4 5<|B 6 (C 1 2<|C 1 3<|V oL 7 8<|B 9 (D [i (-1)])<|D [i 1])<|C 2 2<|C 2 3<|V oN 7 8<|B 9 (C 2 2<|C 2 3<|V oL 10 11<|B 12 (D [i (-1)])<|D [i 1])<|D [i 0]
theorem aap:qQ 306 [n,n,n,n]=some DF:=by kernel_rfl
def Hl:K:=
 D [i (-1)]
def yj:K:=
 C 1 2<|L 4<|V oL 3 5<|B 6 (C 1 2<|T 3 7 3<|E 0 0 7 8<|V oE 9 1<|B 10 (D [x 3])<|N oA 3 1<|J 1 11)<|j 0 []
def DG:K:=
 S 2 0<|.jp Hl<|.loop yj<|j 1 [i 0]
theorem aaq:qQ 307 [m 0 1 [4] [] [] [],m 1 1 [1,2,4,5] [(5,w 3)] [0] [],n,n,n]=some DG:=by kernel_rfl
def yl:K:=
 C 0 4<|C 1 4<|C 2 4<|C 0 9<|C 1 9<|U 17 0 18<|H [x 19,x 20,x 21,x 22,x 23,x 12,x 13,x 14,x 15,x 16,x 24]<|D [x 25]
def DH:K:=
 S 11 0<|X 112 2<|S 11 3<|C 10 4<|L 5<|P 3 2 2<|Y 369 7 1<|S 2 8<|Y 370 2 1<|N oH 10 0<|.jp yl<|B 11 (P 5 5 2<|C 10 2<|T 3 13 10<|E 1 2 13 14<|Y 371 12 15<|S 5 16<|C 10 2<|L 18<|V .bnd 10 19<|l (.tsub 3) [x 18,i 0,x 20]<|l (.app 24 3) [s,i 0,x 21]<|L 22<|N oA 10 1<|C 10 2<|L 25<|V .bnd 24 26<|l (.tsub 3) [x 25,x 27,x 26]<|l (.app 24 3) [x 22,x 23,x 28]<|L 29<|C 0 17<|C 1 17<|C 2 17<|C 3 17<|C 4 17<|j 0 [x 31,x 32,x 33,x 34,x 35,x 29,x 30])<|C 5 4<|C 6 4<|C 7 4<|C 8 4<|C 9 4<|j 0 [x 12,x 13,x 14,x 15,x 16,x 5,x 6]
theorem aar:qQ 308 [m 7 5 [4,5] [] [1,3,4] [(3,(.box [(r 4 0),(r 4 1),(r 4 2),(r 9 0),(r 9 1),(a 12),(a 13),(a 14),(a 15),(a 16),(o 4 18)])),(4,(.lst (x 17) (x 18) 3 false))]]=some DH:=by kernel_rfl
def Hn:K:=
 D [ff]
def ym:K:=
 L 0<|V oL 3 4<|B 5 (T 2 0 3<|E 0 2 0 6<|V (.eqv [.i,.i]) 7 2<|B 8 (D [ft])<|N oA 3 1<|J 1 9)<|j 0 []
def yn:K:=
 S 2 1<|.jp Hn<|.loop ym<|j 1 [i 0]
theorem aas:qQ 309 [m 0 1 [4] [] [] [],m 1 1 [0,3,4,5] [(5,w 3)] [0] [],n,n,n]=some yn:=by kernel_rfl
def k311:K:=
 S 11 0<|S 2 1<|P 3 2 2<|Y 375 4 3<|S 2 5<|N oN 7 0<|B 9 (H (zC [])<|D [x 10,i 0,x 7])<|X 112 2<|S 11 10<|C 10 11<|L 12<|P 2 1 2<|P 0 2 2<|Z 261 14 3 15<|S 2 16<|W 17<|B 19 (C 0 11<|C 1 11<|C 2 11<|C 0 8<|C 1 8<|C 5 11<|C 6 11<|C 7 11<|C 8 11<|C 9 11<|U 12 0 13<|H [x 20,x 21,x 22,x 23,x 24,x 25,x 26,x 27,x 28,x 29,x 30]<|D [x 31,x 6,i 0])<|P 5 3 2<|X 373 20<|W 21<|B 22 (H (zC [])<|D [x 23,i 0,i 18])<|P 5 5 2<|Z 374 23 18 6<|S 5 24<|S 2 25<|P 0 2 27<|H [x 6,x 28]<|l (.bs 1 [z,z,z] [0]) [x 29]<|l .sub [x 30,i 0,i 1]<|l (.app 24 3) [x 12,x 13,x 31]<|L 32<|C 0 11<|C 1 11<|C 2 11<|C 0 8<|C 1 8<|C 0 26<|C 1 26<|C 2 26<|C 3 26<|C 4 26<|U 32 0 33<|H [x 34,x 35,x 36,x 37,x 38,x 39,x 40,x 41,x 42,x 43,x 44]<|D [x 45,x 6,i 0]
theorem aat:qQ 311 [n,n,n]=some k311:=by kernel_rfl
def k312_1:K:=
 D [x 4]
def k312:K:=
 S 3 0<|S 3 1<|.jp k312_1<|C 0 2<|C 0 3<|Y 313 4 5<|B 6 (C 1 2<|C 1 3<|Y 376 7 8<|B 9 (C 2 2<|C 2 3<|Y 313 10 11<|J 0 12)<|j 0 [ff])<|j 0 [ff]
theorem aau:qQ 312 [m 1 2 [4] [(4,w 4)] [] []]=some k312:=by kernel_rfl
def Ri:K:=
 D [ft]
def Rj:K:=
 L 0<|V oL 5 6<|B 7 (T 1 0 5<|E 0 0 0 8<|T 1 1 5<|E 0 0 1 10<|V oN 9 11<|B 12 (D [ff])<|N oA 5 1<|J 1 13)<|j 0 []
def Jg:K:=
 L 0<|L 1<|V oN 2 3<|B 4 (D [ff])<|.jp Ri<|.loop Rj<|j 1 [i 0]
theorem aav:qQ 313 [n,m 0 0 [4] [] [] [],m 1 0 [1,0,4,5] [(5,w 5)] [] [],n,n,n]=some Jg:=by kernel_rfl
def yp:K:=
 W 6<|B 7 (H [i (-1),i 0,i 0]<|D [x 8])<|C 0 2<|T 3 8 5<|E 0 3 8 9<|D [x 10]
def Rk:K:=
 .jp yp<|V oL 5 4<|B 6 (C 0 2<|T 3 7 5<|E 0 3 7 8<|C 0 9<|Y 354 10 1<|N oE 11 0<|J 0 12)<|j 0 [ff]
def Rl:K:=
 j 1 [x 19,x 18]
def Rm:K:=
 V oL 5 6<|B 7 (V oA 5 6<|l (.conv .u64) [x 8]<|l (.bin .shr) [x 9,y 1]<|l (.conv .i64) [x 10]<|C 0 2<|T 3 12 11<|E 0 3 12 13<|C 0 14<|Y 354 15 1<|N oL 16 0<|.jp Rl<|B 17 (N oA 11 1<|j 2 [x 6,x 18])<|j 2 [x 11,x 5])<|J 0 5
def DJ:K:=
 S 1 0<|C 0 2<|L 3<|.jp Rk<|.loop Rm<|j 1 [i 0,x 4]
theorem aaw:qQ 315 [m 1 2 [9,8,7,6,0,1,2] [(9,w 5)] [0,1] [],m 2 2 [2,1,0,6,7,8,9,10] [(9,w 5),(10,w 6)] [0,1] [],n,n,m 2 3 [10,8,7,6,0,1,2,15,16,17,18,19,20,21,22,23,11,24,25,26,27,28,29,30,31,9] [(10,w 18),(9,w 19)] [0,1] [],m 1 2 [6,7] [(6,w 5),(7,w 6)] [0,1] [],n]=some DJ:=by kernel_rfl
def Ho:K:=
 I 42 33<|P 0 2 4<|P 0 2 19<|H [x 44,x 2,x 45]<|G 0 40 43 46<|C 0 19<|I 48 26<|G 0 41 49 42<|P 0 3 18<|U 47 0 33<|U 50 0 26<|H [x 51,x 52,x 53]<|D [x 54,x 19,i 0]
def yq:K:=
 I 48 33<|E 0 5 41 49<|P 0 2 4<|P 0 2 19<|H [x 51,x 2,x 52]<|Y 326 50 53<|N oH 54 0<|B 55 (j 0 [x 41,x 42,x 40])<|I 48 33<|E 0 5 41 56<|S 5 57<|I 40 33<|G 0 41 59 58<|C 3 58<|I 61 26<|G 0 42 62 40<|l oM [i 2,x 48]<|N oA 64 1<|j 1 [x 48,x 60,x 63,x 65]
def yr:K:=
 .jp yq<|B 47 (N oA 43 1<|J 2 48)<|J 2 43
def yu:K:=
 V oL 43 33<|B 44 (.jp yr<|N oA 43 1<|V oL 45 33<|B 46 (N oA 43 1<|I 47 33<|E 0 5 41 48<|I 43 33<|E 0 5 41 50<|Y 326 49 51<|N oL 52 0<|j 2 [x 45,x 46,x 53])<|j 2 [x 45,x 46,ff])<|j 0 [x 41,x 42,x 40]
def Hp:K:=
 l oM [i 2,x 37]<|N oA 38 1<|.jp Ho<|.loop yu<|j 1 [x 37,x 35,x 36,x 39]
def k317_6:K:=
 N oG 35 0<|B 38 (N oS 35 1<|N (.bin .quo) 39 2<|I 40 33<|E 0 5 36 41<|P 0 2 4<|P 0 2 19<|H [x 43,x 2,x 44]<|Y 326 45 42<|N oL 46 0<|B 47 (N oS 35 1<|N (.bin .quo) 48 2<|I 49 33<|E 0 5 36 50<|S 5 51<|I 35 33<|G 0 36 53 52<|C 3 52<|I 55 26<|G 0 37 56 35<|N oS 35 1<|N (.bin .quo) 58 2<|j 1 [x 59,x 54,x 57])<|j 0 [x 36,x 37,x 35])<|j 0 [x 36,x 37,x 35]
def yw:K:=
 l oH [i (-1),i 0]<|B 13 (H [s,s,s,s,s]<|H [i 0,i 0]<|D [x 14,x 15,i 14])<|P 0 3 3<|X 382 14<|S 3 15<|S 2 16<|N oN 17 0<|B 20 (H [s,s,s,s,s]<|H [i 0,i 0]<|D [x 21,x 22,x 17])<|X 378 3<|S 5 21<|C 3 22<|L 23<|C 4 22<|L 25<|P 0 2 4<|P 0 2 19<|H [x 27,x 2,x 28]<|l (.bs 1 [z,z,z,z,z] [0]) [x 29]<|l .sub [x 30,i 0,i 1]<|l (.app 40 5) [x 23,x 24,x 31]<|L 32<|N oS 33 1<|.jp Hp<|.loop k317_6<|j 1 [x 34,x 32,x 25]
def Rn:K:=
 I 49 40<|P 0 2 4<|P 0 2 26<|H [x 51,x 2,x 52]<|G 0 47 50 53<|C 0 26<|I 55 33<|G 0 48 56 49<|P 0 3 25<|U 54 0 40<|U 57 0 33<|H [x 58,x 59,x 60]<|D [x 61,x 26,i 0]
def Ro:K:=
 I 55 40<|E 0 5 48 56<|P 0 2 4<|P 0 2 26<|H [x 58,x 2,x 59]<|Y 326 57 60<|N oH 61 0<|B 62 (j 2 [x 48,x 49,x 47])<|I 55 40<|E 0 5 48 63<|S 5 64<|I 47 40<|G 0 48 66 65<|C 3 65<|I 68 33<|G 0 49 69 47<|l oM [i 2,x 55]<|N oA 71 1<|j 3 [x 55,x 67,x 70,x 72]
def Oj:K:=
 .jp Ro<|B 54 (N oA 50 1<|J 4 55)<|J 4 50
def Ok:K:=
 V oL 50 40<|B 51 (.jp Oj<|N oA 50 1<|V oL 52 40<|B 53 (N oA 50 1<|I 54 40<|E 0 5 48 55<|I 50 40<|E 0 5 48 57<|Y 326 56 58<|N oL 59 0<|j 4 [x 52,x 53,x 60])<|j 4 [x 52,x 53,ff])<|j 2 [x 48,x 49,x 47]
def Ol:K:=
 l oM [i 2,x 44]<|N oA 45 1<|.jp Rn<|.loop Ok<|j 3 [x 44,x 42,x 43,x 46]
def Om:K:=
 N oG 42 0<|B 45 (N oS 42 1<|N (.bin .quo) 46 2<|I 47 40<|E 0 5 43 48<|P 0 2 4<|P 0 2 26<|H [x 50,x 2,x 51]<|Y 326 52 49<|N oL 53 0<|B 54 (N oS 42 1<|N (.bin .quo) 55 2<|I 56 40<|E 0 5 43 57<|S 5 58<|I 42 40<|G 0 43 60 59<|C 3 59<|I 62 33<|G 0 44 63 42<|N oS 42 1<|N (.bin .quo) 65 2<|j 3 [x 66,x 61,x 64])<|j 2 [x 43,x 44,x 42])<|j 2 [x 43,x 44,x 42]
def mu:K:=
 V oL 13 12<|B 14 (C 3 3<|T 5 15 13<|E 0 5 15 16<|C 2 17<|V oE 18 2<|B 19 (N oH 13 0<|B 20 (H [s,s,s,s,s]<|H [i 0,i 0]<|D [x 21,x 22,i 14])<|P 0 3 3<|X 382 21<|S 3 22<|S 2 23<|N oN 24 0<|B 27 (H [s,s,s,s,s]<|H [i 0,i 0]<|D [x 28,x 29,x 24])<|X 378 3<|S 5 28<|C 3 29<|L 30<|C 4 29<|L 32<|P 0 2 4<|P 0 2 26<|H [x 34,x 2,x 35]<|l (.bs 1 [z,z,z,z,z] [0]) [x 36]<|l .sub [x 37,i 0,i 1]<|l (.app 40 5) [x 30,x 31,x 38]<|L 39<|N oS 40 1<|.jp Ol<|.loop Om<|j 3 [x 41,x 39,x 32])<|N oA 13 1<|J 1 20)<|j 0 []
def k317:K:=
 S 5 0<|S 2 1<|X 245 3<|X 43 4<|V (.mm true) 5 6<|N oN 7 0<|B 8 (H [s,s,s,s,s]<|H [i 0,i 0]<|D [x 9,x 10,x 7])<|N oL 2 0<|B 9 (H [s,s,s,s,s]<|H [i 0,i 0]<|D [x 10,x 11,i 2])<|N oG 2 1000000<|B 10 (H [s,s,s,s,s]<|H [i 0,i 0]<|D [x 11,x 12,i 2])<|C 3 3<|L 11<|.jp yw<|.loop mu<|j 1 [i 0]
theorem aax:qQ 317 [n,n,n,m 0 5 [4] [] [0,1,2,3,4] [],m 1 5 [1,0,4,7,8] [(8,w 13)] [0,1,2,3,4] [],n,n,n,n,n,m 3 16 [5,3,1] [(1,w 44)] [0,1,2,3,4,5,6,7,9,10,11,12,13,15,14] [(9,(.lst (x 43) (x 33) 1 false)),(13,(.lst (x 42) (x 40) 5 false))],m 3 16 [1,3,5] [(1,w 42)] [0,1,2,3,4,5,6,7,9,10,11,12,13,14,15] [(9,(.lst (x 44) (x 33) 1 false)),(13,(.lst (x 43) (x 40) 5 false))],n,n,n,m 3 16 [5,3,1] [(1,w 49)] [0,1,2,3,4,5,6,7,9,10,11,12,13,15,14] [(9,(.lst (x 48) (x 33) 1 false)),(13,(.lst (x 47) (x 40) 5 false))],m 4 16 [1,3,5,6] [(1,w 47),(6,w 50)] [0,1,2,3,4,5,6,7,9,10,11,12,13,14,15] [(9,(.lst (x 49) (x 33) 1 false)),(13,(.lst (x 48) (x 40) 5 false))],n,n,m 3 16 [6,5,3,1,37,38,39,40,41,45,46,47,48,49,50,51,65] [(45,w 50),(46,w 52),(47,p 14 3),(48,(.w (.c (o 13 40)))),(49,w 40),(50,w 53),(51,w 53),(65,w 54)] [0,1,2,3,4,5,6,7,9,10,11,12,13,15,14] [],m 1 16 [65,51,50,49,48,47,46,45,41,40,39,38,37,1,3,5,6] [(6,w 55)] [0,1,2,3,4,5,6,7,9,10,11,12,13,14,15] [],n,n,n,m 3 15 [5,3,1] [(1,w 37)] [0,1,2,3,4,5,6,8,9,10,11,12,14,13] [(8,(.lst (x 36) (x 26) 1 false)),(12,(.lst (x 35) (x 33) 5 false))],m 3 15 [1,3,5] [(1,w 35)] [0,1,2,3,4,5,6,8,9,10,11,12,13,14] [(8,(.lst (x 37) (x 26) 1 false)),(12,(.lst (x 36) (x 33) 5 false))],n,n,n,m 3 15 [5,3,1] [(1,w 42)] [0,1,2,3,4,5,6,8,9,10,11,12,14,13] [(8,(.lst (x 41) (x 26) 1 false)),(12,(.lst (x 40) (x 33) 5 false))],m 4 15 [1,3,5,6] [(1,w 40),(6,w 43)] [0,1,2,3,4,5,6,8,9,10,11,12,13,14] [(8,(.lst (x 42) (x 26) 1 false)),(12,(.lst (x 41) (x 33) 5 false))],n,n,m 3 15 [6,5,3,1,37,38,39,40,41,45,46,47,48,49,50,51,65] [(45,w 43),(46,w 45),(47,p 13 3),(48,(.w (.c (o 12 33)))),(49,w 33),(50,w 46),(51,w 46),(65,w 47)] [0,1,2,3,4,5,6,8,9,10,11,12,14,13] [],m 1 15 [65,51,50,49,48,47,46,45,41,40,39,38,37,1,3,5,6] [(6,w 48)] [0,1,2,3,4,5,6,8,9,10,11,12,13,14] [],n]=some k317:=by kernel_rfl
def yx:K:=
 l oH [i (-1),i 0]<|B 10 (H [i 0,s]<|D [x 11,i 0,i 14])<|C 1 2<|L 11<|N oE 12 200<|B 13 (H [i 0,s]<|D [x 14,i 0,i 18])<|C 0 2<|N oE 14 1000000<|B 15 (H [i 0,s]<|D [x 16,i 0,i 18])<|C 1 2<|X 291 16<|L 17<|C 0 2<|P 0 2 3<|H [x 19,x 20]<|l (.bs 1 [z,z,z] [0]) [x 21]<|l .sub [x 22,i 0,i 1]<|l (.app 24 3) [x 17,x 18,x 23]<|L 24<|C 0 2<|N oA 26 1<|U 24 0 25<|H [x 27,x 28]<|C 0 2<|D [x 29,x 30,i 0]
def oT:K:=
 V oL 10 9<|B 11 (C 1 2<|T 3 12 10<|E 0 3 12 13<|P 1 2 14<|V (.eqv [.i,.i]) 15 3<|B 16 (N oH 10 0<|B 17 (H [i 0,s]<|D [x 18,i 0,i 14])<|C 1 2<|L 18<|N oE 19 200<|B 20 (H [i 0,s]<|D [x 21,i 0,i 18])<|C 0 2<|N oE 21 1000000<|B 22 (H [i 0,s]<|D [x 23,i 0,i 18])<|C 1 2<|X 291 23<|L 24<|C 0 2<|P 0 2 3<|H [x 26,x 27]<|l (.bs 1 [z,z,z] [0]) [x 28]<|l .sub [x 29,i 0,i 1]<|l (.app 24 3) [x 24,x 25,x 30]<|L 31<|C 0 2<|N oA 33 1<|U 31 0 32<|H [x 34,x 35]<|C 0 2<|D [x 36,x 37,i 0])<|N oA 10 1<|J 1 17)<|j 0 []
def k320:K:=
 S 2 0<|S 2 1<|X 244 2<|N oN 4 0<|B 5 (H [i 0,s]<|D [x 6,i 0,x 4])<|X 324 3<|W 6<|B 7 (H [i 0,s]<|D [x 8,i 0,i 8])<|C 1 2<|L 8<|.jp yx<|.loop oT<|j 1 [i 0]
theorem aay:qQ 320 [n,n,m 0 3 [4] [] [0,1,2] [],m 1 3 [1,0,4,7,8] [(8,w 10)] [0,1,2] [],n,n,n,n,n,n,n,n,n]=some k320:=by kernel_rfl
def Hq:K:=
 U 5 0 6<|U 12 0 10<|H [x 13,x 14]<|D [x 15]
def yy:K:=
 N oH 13 0<|B 14 (l oM [i 2,x 13]<|N oA 15 1<|U 5 0 6<|U 12 0 10<|H [x 17,x 18]<|Y 266 19 16<|l .flat [x 20]<|l oM [i 2,x 13]<|N oA 22 2<|U 5 0 6<|U 12 0 10<|H [x 24,x 25]<|Y 266 26 23<|l .flat [x 27]<|c 267 [x 3,x 4,x 21,x 28]<|I 13 10<|G 0 12 30 29<|N oS 13 1<|j 1 [x 31,x 32])<|J 0 12
def DK:K:=
 S 1 0<|S 2 1<|l (.app 8 1) [s,i 0,x 2]<|L 5<|L 2<|N oS 7 1<|V (.rep [z] 8) 8 8<|L 9<|N oS 10 1<|.jp Hq<|.loop yy<|j 1 [x 9,x 11]
theorem aaz:qQ 321 [m 1 6 [7,6] [] [5,3,4,2] [(4,(.lst (x 12) (x 10) 1 false))],m 2 6 [3,4,6,7,8] [(8,w 13)] [0,1,2,5,3,4] [(4,(.lst (x 12) (x 10) 1 false))],n,n]=some DK:=by kernel_rfl
def DL:K:=
 S 3 0<|S 3 1<|S 2 2<|Z 384 3 4 5<|N oN 6 0<|B 7 (N oG 6 0<|D [x 8])<|C 2 3<|C 2 4<|V oN 8 9<|B 10 (C 2 3<|C 2 4<|V oG 11 12<|D [x 13])<|C 0 3<|C 0 4<|V oL 11 12<|D [x 13]
theorem aaA:qQ 323 [n,n]=some DL:=by kernel_rfl
def Hr:K:=
 D [x 2]
def DM:K:=
 S 2 0<|.jp Hr<|C 0 1<|C 1 1<|V (.mm false) 2 3<|N oH 4 0<|B 5 (C 0 1<|C 1 1<|V (.mm true) 6 7<|N oK 8 65535<|B 9 (C 0 1<|C 1 1<|V oN 10 11<|J 0 12)<|j 0 [ff])<|j 0 [ff]
theorem aaB:qQ 324 [m 1 1 [2] [(2,w 2)] [] []]=some DM:=by kernel_rfl
def k325_1:K:=
 D [i 0]
def Hs:K:=
 B 28 (D [i 8])<|N oA 21 1<|J 1 29
def k325_3:K:=
 V oL 21 20<|B 22 (C 0 1<|T 1 23 21<|E 0 0 23 24<|.jp Hs<|N oL 25 0<|B 26 (j 2 [x 26,ft,ft])<|N oG 25 1000000<|B 27 (j 2 [x 26,x 27,ft])<|N oE 25 0<|B 28 (C 1 1<|T 1 29 21<|E 0 0 29 30<|j 2 [x 26,x 27,x 31])<|j 2 [x 26,x 27,ff])<|j 0 []
def Ht:K:=
 l oH [i (-1),i 0]<|B 15 (D [i 8])<|U 14 0 11<|c 386 [x 16,ff]<|l .flat [x 17]<|B 18 (D [i 8])<|C 0 1<|L 19<|.jp k325_1<|.loop k325_3<|j 1 [i 0]
def k325_5:K:=
 D [i 0]
def Rp:K:=
 B 34 (D [i 8])<|N oA 27 1<|J 3 35
def k325_7:K:=
 V oL 27 26<|B 28 (C 0 1<|T 1 29 27<|E 0 0 29 30<|.jp Rp<|N oL 31 0<|B 32 (j 4 [x 32,ft,ft])<|N oG 31 1000000<|B 33 (j 4 [x 32,x 33,ft])<|N oE 31 0<|B 34 (C 1 1<|T 1 35 27<|E 0 0 35 36<|j 4 [x 32,x 33,x 37])<|j 4 [x 32,x 33,ff])<|j 2 []
def k325_8:K:=
 D [i 0]
def Rq:K:=
 B 35 (D [i 8])<|N oA 28 1<|J 3 36
def k325_10:K:=
 V oL 28 27<|B 29 (C 0 1<|T 1 30 28<|E 0 0 30 31<|.jp Rq<|N oL 32 0<|B 33 (j 4 [x 33,ft,ft])<|N oG 32 1000000<|B 34 (j 4 [x 33,x 34,ft])<|N oE 32 0<|B 35 (C 1 1<|T 1 36 28<|E 0 0 36 37<|j 4 [x 33,x 34,x 38])<|j 4 [x 33,x 34,ff])<|j 2 []
def k325_11:K:=
 D [i 0]
def On:K:=
 B 37 (D [i 8])<|N oA 30 1<|J 3 38
def k325_13:K:=
 V oL 30 29<|B 31 (C 0 1<|T 1 32 30<|E 0 0 32 33<|.jp On<|N oL 34 0<|B 35 (j 4 [x 35,ft,ft])<|N oG 34 1000000<|B 36 (j 4 [x 35,x 36,ft])<|N oE 34 0<|B 37 (C 1 1<|T 1 38 30<|E 0 0 38 39<|j 4 [x 35,x 36,x 40])<|j 4 [x 35,x 36,ff])<|j 2 []
def tD:K:=
 V oL 15 13<|B 16 (C 2 1<|T 1 17 15<|E 0 0 17 18<|N oL 19 0<|B 20 (N oH 15 0<|B 21 (D [i 8])<|U 14 0 11<|c 386 [x 22,ff]<|l .flat [x 23]<|B 24 (D [i 8])<|C 0 1<|L 25<|.jp k325_5<|.loop k325_7<|j 3 [i 0])<|V oH 19 3<|B 21 (N oH 15 0<|B 22 (D [i 8])<|U 14 0 11<|c 386 [x 23,ff]<|l .flat [x 24]<|B 25 (D [i 8])<|C 0 1<|L 26<|.jp k325_8<|.loop k325_10<|j 3 [i 0])<|I 19 11<|E 0 0 14 22<|B 23 (N oH 15 0<|B 24 (D [i 8])<|U 14 0 11<|c 386 [x 25,ff]<|l .flat [x 26]<|B 27 (D [i 8])<|C 0 1<|L 28<|.jp k325_11<|.loop k325_13<|j 3 [i 0])<|I 19 11<|l (.set 0) [x 14,x 24,ft]<|N oA 15 1<|j 1 [x 25,x 26])<|J 0 14
def DN:K:=
 S 3 0<|C 0 1<|L 2<|N oL 3 1<|B 4 (D [i 8])<|N oG 3 200<|B 5 (D [i 8])<|C 1 1<|L 6<|V oN 7 3<|B 8 (D [i 8])<|C 1 1<|X 294 9<|L 10<|C 2 1<|L 12<|.jp Ht<|.loop tD<|j 1 [x 10,i 0]
theorem aaC:qQ 325 [n,n,m 1 4 [4] [] [0,1,2,3] [(2,(.lst (x 14) (x 11) 1 false))],m 2 4 [1,0,4,7,8] [(8,w 15)] [0,1,2,3] [(2,(.lst (x 14) (x 11) 1 false))],n,n,n,n,n,m 0 4 [2] [] [] [],m 1 4 [1,2,37,38,39] [(39,w 27)] [0] [],n,n,m 3 4 [39,38,37,2,1,40,41,42,43,6,7,44,45,46,49,50,60] [(44,w 31),(45,w 32),(46,w 32),(49,w 33),(50,w 33),(60,w 34)] [0] [],n,n,n,m 0 4 [2] [] [] [],m 1 4 [1,2,37,38,39] [(39,w 28)] [0] [],n,n,m 3 4 [39,38,37,2,1,40,41,42,43,6,7,44,45,46,49,50,60] [(44,w 32),(45,w 33),(46,w 33),(49,w 34),(50,w 34),(60,w 35)] [0] [],n,n,n,n,m 0 4 [2] [] [] [],m 1 4 [1,2,37,38,39] [(39,w 30)] [0] [],n,n,m 3 4 [39,38,37,2,1,40,41,42,43,6,7,44,45,46,49,50,60] [(44,w 34),(45,w 35),(46,w 35),(49,w 36),(50,w 36),(60,w 37)] [0] [],n,n,n,m 0 4 [2] [] [] [],m 1 4 [1,2,37,38,39] [(39,w 21)] [0] [],n,n,m 3 4 [39,38,37,2,1,40,41,42,43,6,7,44,45,46,49,50,60] [(44,w 25),(45,w 26),(46,w 26),(49,w 27),(50,w 27),(60,w 28)] [0] [],n]=some DN:=by kernel_rfl
def DO:K:=
 S 5 0<|S 5 1<|P 0 2 2<|P 0 2 3<|Y 117 4 5<|C 2 2<|C 2 3<|Y 354 8 9<|V (.bs 2 [z] [0,1]) 6 10<|l .sub [x 11,i 0,i 2]<|X 387 12<|l .flat [x 13]<|D [x 14]
theorem aaD:qQ 326 []=some DO:=by kernel_rfl
def DQ:K:=
 S 3 0<|S 3 1<|S 2 2<|Z 328 3 4 5<|N oN 6 0<|B 7 (H [i 0,i 0]<|D [x 8,ff,x 6])<|Z 329 4 3 5<|N oG 8 0<|B 9 (D [x 5,ft,i 0])<|C 2 4<|C 2 3<|V oK 10 11<|B 12 (H [i 0,i 0]<|D [x 13,ff,i 0])<|Y 388 3 4<|S 2 13<|N oE 14 0<|D [x 15,x 16,x 14]
theorem aaE:qQ 327 [n,n,n]=some DQ:=by kernel_rfl
def DR:K:=
 S 3 0<|S 3 1<|S 2 2<|X 270 3<|X 270 4<|X 43 5<|V (.mm true) 6 7<|V (.mm true) 9 8<|N oN 10 0<|B 11 (D [x 10])<|C 0 3<|C 0 4<|V oE 12 13<|B 14 (D [i 2])<|D [i 0]
theorem aaF:qQ 328 [n,n]=some DR:=by kernel_rfl
def DS:K:=
 S 3 0<|S 3 1<|S 2 2<|C 1 3<|C 1 4<|V oS 6 7<|C 2 3<|C 2 4<|V oS 9 10<|C 1 5<|C 0 5<|H [x 8,x 12,x 11,x 13]<|X 389 14<|S 2 15<|H [i 0,y 0]<|V (.eqv [.i,.i]) 16 17<|W 18<|B 19 (C 0 16<|N oL 20 0<|B 21 (D [i (-1)])<|D [i 1])<|C 2 3<|C 2 4<|Y 211 20 21<|C 0 4<|C 0 3<|Y 354 23 24<|V (.bs 2 [z] [0,1]) 22 25<|l .sub [x 26,i 0,i 2]<|X 387 27<|l .flat [x 28]<|D [x 29]
theorem aaG:qQ 329 [n,n]=some DS:=by kernel_rfl
def Hu:K:=
 D [x 2]
def DU:K:=
 S 2 0<|.jp Hu<|C 0 1<|N oH 2 0<|B 3 (C 0 1<|N oK 4 65535<|B 5 (C 1 1<|N oH 6 0<|B 7 (C 1 1<|N oK 8 65535<|B 9 (C 0 1<|C 1 1<|V oN 10 11<|J 0 12)<|j 0 [ff])<|j 0 [ff])<|j 0 [ff])<|j 0 [ff]
theorem aaH:qQ 344 [m 1 1 [2] [(2,w 2)] [] []]=some DU:=by kernel_rfl
def Hv:K:=
 D [i 0]
def Hw:K:=
 B 23 (D [i 8])<|N oA 15 1<|J 1 24
def yz:K:=
 V oL 15 3<|B 16 (.jp Hw<|C 0 1<|T 1 17 15<|E 0 0 17 18<|N oL 19 0<|B 20 (j 2 [x 17,x 18,x 19,x 20,ft,ft,ft])<|C 0 1<|T 1 21 15<|E 0 0 21 22<|N oG 23 1000000<|B 24 (j 2 [x 17,x 18,x 19,x 20,x 24,ft,ft])<|C 1 1<|T 1 25 15<|E 0 0 25 26<|I 15 13<|E 0 0 14 28<|V (.bbin .eql) 27 29<|B 30 (j 2 [x 17,x 18,x 19,x 20,x 24,x 30,ft])<|C 1 1<|T 1 31 15<|E 0 0 31 32<|B 33 (C 0 1<|T 1 34 15<|E 0 0 34 35<|N oL 36 1<|j 2 [x 17,x 18,x 19,x 20,x 24,x 30,x 37])<|j 2 [x 17,x 18,x 19,x 20,x 24,x 30,ff])<|j 0 []
def Hx:K:=
 .jp Hv<|.loop yz<|j 1 [i 0]
def yA:K:=
 C 2 1<|L 16<|V oL 15 17<|B 18 (C 2 1<|T 1 19 15<|E 0 0 19 20<|N oL 21 0<|B 22 (D [i 8])<|C 2 1<|T 1 23 15<|E 0 0 23 24<|V oH 25 3<|B 26 (D [i 8])<|C 2 1<|T 1 27 15<|E 0 0 27 28<|I 29 13<|E 0 0 14 30<|B 31 (D [i 8])<|C 2 1<|T 1 32 15<|E 0 0 32 33<|I 34 13<|l (.set 0) [x 14,x 35,ft]<|N oA 15 1<|j 1 [x 36,x 37])<|J 0 14
def DV:K:=
 S 3 0<|C 0 1<|L 2<|N oL 3 1<|B 4 (D [i 8])<|N oG 3 200<|B 5 (D [i 8])<|C 1 1<|L 6<|V oN 7 3<|B 8 (D [i 8])<|C 2 1<|L 9<|V oG 10 3<|B 11 (D [i 8])<|V (.rep [(.v (.bool false))] 1) 3 3<|L 12<|.jp Hx<|.loop yA<|j 1 [x 12,i 0]
theorem aaI:qQ 345 [n,n,m 1 2 [4,3,2,1] [] [1,0] [(1,(.lst (x 14) (x 13) 1 false))],m 2 2 [1,2,3,4,5] [(5,w 15)] [0,1] [(1,(.lst (x 14) (x 13) 1 false))],n,n,n,n,m 0 2 [2] [] [] [],m 1 2 [1,2,3,4,6] [(6,w 15)] [0,1] [],n,n,m 7 2 [6,4,3,2,1,71,72,73,76,77,78,79,80,81,82,89,90,101,102,116] [(76,p 0 0),(77,(.w (.c (r 1 0)))),(78,w 15),(79,(.w (.c (.tp (x 17) (x 18) 0)))),(80,w 19),(81,w 20),(82,w 20),(89,w 21),(90,w 21),(101,w 22),(102,w 22),(116,w 23)] [1,0] [],n]=some DV:=by kernel_rfl
def Hy:K:=
 D [ft]
def yB:K:=
 N oA 13 1<|J 1 19
def yC:K:=
 V oL 13 3<|B 14 (.jp yB<|C 1 1<|T 1 15 13<|E 0 0 15 16<|W 17<|B 18 (C 4 1<|T 1 19 13<|E 0 0 19 20<|N oN 21 (-1)<|B 22 (D [ff])<|j 2 [x 15,x 16,x 17,x 18])<|C 4 1<|T 1 19 13<|E 0 0 19 20<|N oL 21 0<|B 22 (D [ff])<|C 3 1<|L 23<|V oH 21 24<|B 25 (D [ff])<|C 3 1<|T 5 26 21<|E 3 0 26 27<|V oN 28 13<|B 29 (D [ff])<|P 0 3 1<|C 3 1<|T 5 31 21<|E 3 2 31 32<|Y 349 30 33<|W 34<|B 35 (D [ff])<|j 2 [x 15,x 16,x 17,x 18])<|j 0 []
def DW:K:=
 S 5 0<|C 0 1<|L 2<|C 4 1<|L 4<|V oN 5 3<|B 6 (D [ff])<|C 3 1<|L 7<|C 2 1<|L 9<|V oS 3 10<|V oN 8 11<|B 12 (D [ff])<|.jp Hy<|.loop yC<|j 1 [i 0]
theorem aaJ:qQ 346 [n,n,m 0 1 [2] [] [] [],m 1 1 [1,2,3,4] [(4,w 13)] [0] [],n,m 4 1 [4,3,2,1,27,28,29,32,33,34,35,36,37,38] [(32,p 0 0),(33,p 0 1),(34,(.w (.c (r 1 1)))),(35,w 13),(36,(.w (.c (.tp (x 15) (x 16) 0)))),(37,w 17),(38,w 18)] [0] [],n,n,n,n]=some DW:=by kernel_rfl
def Hz:K:=
 D [x 7]
def DX:K:=
 S 5 0<|S 5 1<|P 0 2 2<|P 0 2 3<|Y 224 4 5<|.jp Hz<|N oL 6 0<|B 7 (j 0 [ft])<|N oE 6 0<|B 8 (C 2 2<|C 2 3<|V oL 9 10<|J 0 11)<|j 0 [ff]
theorem aaK:qQ 347 [m 1 2 [4] [(4,w 7)] [] []]=some DX:=by kernel_rfl
def DY:K:=
 S 3 0<|S 3 1<|S 2 2<|Z 323 4 3 5<|B 6 (D [x 5,ft])<|C 2 4<|C 2 3<|V oG 7 8<|B 9 (Y 396 3 4<|S 2 10<|D [x 11,ft])<|H [i 0,i 0]<|D [x 10,ff]
theorem aaL:qQ 348 [n,n]=some DY:=by kernel_rfl
def HA:K:=
 D [x 4]
def DZ:K:=
 S 3 0<|S 2 1<|.jp HA<|C 0 3<|N oH 4 0<|B 5 (C 0 2<|L 6<|C 0 3<|V oL 8 7<|B 9 (C 1 2<|C 0 3<|T 1 10 11<|E 0 0 10 12<|B 13 (C 0 2<|C 0 3<|T 1 14 15<|E 0 0 14 16<|C 1 3<|V oE 17 18<|J 0 19)<|j 0 [ff])<|j 0 [ff])<|j 0 [ff]
theorem aaM:qQ 349 [m 1 2 [4] [(4,w 4)] [] []]=some DZ:=by kernel_rfl
def k350_1:K:=
 D [x 10,x 12]
def D1:K:=
 L 5<|S 2 2<|S 1 0<|S 2 1<|c 397 [x 8,x 9,x 3,x 4]<|N oH 10 0<|.jp k350_1<|B 11 (C 0 7<|H [x 12,s]<|c 350 [x 8,x 9,x 13,x 3,x 10,x 5]<|I 10 6<|G 1 15 16 14<|N oA 10 1<|C 0 7<|H [x 19,s]<|c 350 [x 8,x 9,x 20,x 18,x 4,x 17]<|I 10 6<|G 2 22 23 21<|J 0 24)<|J 0 5
theorem aaN:qQ 350 [m 1 4 [10,11] [] [0] [(0,(.lst (x 12) (x 6) 3 false))]]=some D1:=by kernel_rfl
def D2:K:=
 X 395 0<|X 395 1<|B 2 (B 3 (D [i 0])<|D [i (-1)])<|B 3 (D [i 1])<|V oL 0 1<|B 4 (D [i (-1)])<|V oG 0 1<|B 5 (D [i 1])<|D [i 0]
theorem aaO:qQ 354 [n,n,n,n,n]=some D2:=by kernel_rfl
def D3:K:=
 V oN 0 0<|D [x 1]
theorem aaP:qQ 359 []=some D3:=by kernel_rfl
def HB:K:=
 W 8<|B 9 (D [i 0,i 6])<|D [x 7,i 0]
def yD:K:=
 .jp HB<|V oL 7 6<|B 8 (C 1 2<|T 3 9 7<|E 0 3 9 10<|C 0 11<|Y 354 12 1<|N oE 13 0<|J 0 14)<|j 0 [ff]
def HC:K:=
 j 1 [x 21,x 20]
def rZ:K:=
 V oL 7 8<|B 9 (V oA 7 8<|l (.conv .u64) [x 10]<|l (.bin .shr) [x 11,y 1]<|l (.conv .i64) [x 12]<|C 1 2<|T 3 14 13<|E 0 3 14 15<|C 0 16<|Y 354 17 1<|N oL 18 0<|.jp HC<|B 19 (N oA 13 1<|j 2 [x 8,x 20])<|j 2 [x 13,x 7])<|J 0 7
def D4:K:=
 S 2 0<|X 244 2<|N oN 3 0<|B 4 (D [i 0,x 3])<|C 1 2<|L 5<|.jp yD<|.loop rZ<|j 1 [i 0,x 6]
theorem aaQ:qQ 360 [n,m 1 1 [9,8,7,6,0,1,2] [(9,w 7)] [0] [],m 2 1 [2,1,0,6,7,8,9,10] [(9,w 7),(10,w 8)] [0] [],n,n,m 2 2 [10,8,7,6,0,1,2,15,16,17,18,19,20,21,22,23,11,24,25,26,27,28,29,30,31,9] [(10,w 20),(9,w 21)] [0] [],m 1 1 [6,7] [(6,w 7),(7,w 8)] [0] [],n]=some D4:=by kernel_rfl
def D5:K:=
 L 3<|V .bnd 4 4<|V .bnd 2 5<|V .bnd 1 6<|V oE 1 2<|B 8 (U 3 0 4<|D [x 9,s])<|V .bnd 1 4<|V .bnd 2 4<|l .sum [i 0,x 10]<|V .dif 4 10<|l .sub [x 3,x 11,x 12]<|l (.appK 24 3) [x 3,x 9,x 13]<|L 14<|L 13<|V .sum 9 16<|V .bnd 4 15<|V .bnd 17 18<|l .sum [i 0,x 19]<|V .dif 18 19<|l (.clr [z,z,z]) [x 14,x 20,x 21]<|U 22 0 17<|D [x 23,s]
theorem aaR:qQ 361 [n]=some D5:=by kernel_rfl
def k364:K:=
 S 5 0<|S 2 1<|X 245 2<|N oN 4 0<|B 5 (D [i 0,x 4])<|P 0 3 2<|Y 402 6 3<|N oN 8 0<|B 9 (D [i 0,i 6])<|W 7<|B 10 (D [i 0,i 6])<|C 4 2<|C 0 3<|T 1 11 12<|E 0 0 11 13<|D [x 14,i 0]
theorem aaS:qQ 364 [n,n,n]=some k364:=by kernel_rfl
def k365_1:K:=
 P 0 3 10<|U 26 0 21<|U 27 0 17<|H [x 28,x 29,x 30]<|D [x 31,x 5,i 0]
def k365_2:K:=
 I 33 21<|G 0 31 34 20<|C 3 20<|I 36 17<|G 0 32 37 33<|j 0 [x 35,x 38]
def yE:K:=
 I 39 21<|E 0 5 32 40<|Y 326 41 20<|N oH 42 0<|B 43 (j 1 [x 32,x 33,x 31])<|I 39 21<|E 0 5 32 44<|S 5 45<|I 31 21<|G 0 32 47 46<|C 3 46<|I 49 17<|G 0 33 50 31<|l oM [i 2,x 39]<|N oA 52 1<|j 2 [x 39,x 48,x 51,x 53]
def yF:K:=
 .jp yE<|B 38 (N oA 34 1<|J 3 39)<|J 3 34
def k365_5:K:=
 V oL 34 21<|B 35 (.jp yF<|N oA 34 1<|V oL 36 21<|B 37 (N oA 34 1<|I 38 21<|E 0 5 32 39<|I 34 21<|E 0 5 32 41<|Y 326 40 42<|N oL 43 0<|j 3 [x 36,x 37,x 44])<|j 3 [x 36,x 37,ff])<|j 1 [x 32,x 33,x 31]
def k365_6:K:=
 l oM [i 2,x 28]<|N oA 29 1<|.jp k365_2<|.loop k365_5<|j 2 [x 28,x 26,x 27,x 30]
def k365_7:K:=
 N oG 26 0<|B 29 (N oS 26 1<|N (.bin .quo) 30 2<|I 31 21<|E 0 5 27 32<|Y 326 20 33<|N oL 34 0<|B 35 (N oS 26 1<|N (.bin .quo) 36 2<|I 37 21<|E 0 5 27 38<|S 5 39<|I 26 21<|G 0 27 41 40<|C 3 40<|I 43 17<|G 0 28 44 26<|N oS 26 1<|N (.bin .quo) 46 2<|j 2 [x 47,x 42,x 45])<|j 1 [x 27,x 28,x 26])<|j 1 [x 27,x 28,x 26]
def D6:K:=
 S 5 0<|C 3 2<|T 5 3 1<|E 0 5 3 4<|P 0 3 2<|P 3 2 5<|Y 403 6 7<|S 3 8<|N oN 9 0<|B 11 (H [s,s,s,s,s]<|H [i 0,i 0,i 0,i 0,i 0]<|D [x 12,x 13,x 9])<|X 378 2<|S 5 12<|C 3 13<|L 14<|C 4 13<|L 16<|N oS 15 1<|I 18 15<|E 0 5 14 19<|V .bnd 18 15<|C 3 5<|I 22 17<|l (.set 0) [x 16,x 23,i (-1)]<|V oL 1 18<|.jp k365_1<|B 25 (.jp k365_6<|.loop k365_7<|j 2 [x 1,x 14,x 24])<|j 0 [x 14,x 24]
theorem aaT:qQ 365 [n,m 2 9 [4,5,6,7,10] [] [1,2,3,7,5,6] [(5,(.lst (x 26) (x 15) 5 false)),(6,(.lst (x 27) (x 17) 1 false))],m 3 11 [5,3,1] [(1,w 28)] [0,1,2,3,4,5,6,7,8,10,9] [(5,(.lst (x 26) (x 15) 5 false)),(6,(.lst (x 27) (x 17) 1 false))],m 3 11 [1,3,5] [(1,w 26)] [0,1,2,3,4,5,6,7,8,9,10] [(5,(.lst (x 27) (x 15) 5 false)),(6,(.lst (x 28) (x 17) 1 false))],n,n,n,m 3 11 [5,3,1] [(1,w 33)] [0,1,2,3,4,5,6,7,8,10,9] [(5,(.lst (x 31) (x 15) 5 false)),(6,(.lst (x 32) (x 17) 1 false))],m 4 11 [1,3,5,6] [(1,w 31),(6,w 34)] [0,1,2,3,4,5,6,7,8,9,10] [(5,(.lst (x 32) (x 15) 5 false)),(6,(.lst (x 33) (x 17) 1 false))],n,n,m 3 11 [6,5,3,1,37,38,39,40,41,45,46,47,48,49,50,51,65] [(45,w 34),(46,w 36),(47,p 9 3),(48,(.w (.c (o 5 21)))),(49,w 21),(50,w 37),(51,w 37),(65,w 38)] [0,1,2,3,4,5,6,7,8,10,9] [],m 1 11 [65,51,50,49,48,47,46,45,41,40,39,38,37,1,3,5,6] [(6,w 39)] [0,1,2,3,4,5,6,7,8,9,10] [],n]=some D6:=by kernel_rfl
def oU:K:=
 D [x 5,x 6]
def Rr:K:=
 .jp oU<|V oL 5 4<|B 6 (C 0 2<|T 3 7 5<|E 0 3 7 8<|C 0 9<|Y 354 10 1<|N oE 11 0<|J 0 12)<|j 0 [ff]
def Rs:K:=
 j 1 [x 19,x 18]
def Ru:K:=
 V oL 5 6<|B 7 (V oA 5 6<|l (.conv .u64) [x 8]<|l (.bin .shr) [x 9,y 1]<|l (.conv .i64) [x 10]<|C 0 2<|T 3 12 11<|E 0 3 12 13<|C 0 14<|Y 354 15 1<|N oL 16 0<|.jp Rs<|B 17 (N oA 11 1<|j 2 [x 6,x 18])<|j 2 [x 11,x 5])<|J 0 5
def yG:K:=
 S 1 0<|C 0 2<|L 3<|.jp Rr<|.loop Ru<|j 1 [i 0,x 4]
theorem aaU:qQ 367 [m 1 1 [9,8,7,6,0,1,2] [(9,w 5)] [0] [],m 2 1 [2,1,0,6,7,8,9,10] [(9,w 5),(10,w 6)] [0] [],n,n,m 2 2 [10,8,7,6,0,1,2,15,16,17,18,19,20,21,22,23,11,24,25,26,27,28,29,30,31,9] [(10,w 18),(9,w 19)] [0] [],m 1 1 [6,7] [(6,w 5),(7,w 6)] [0] []]=some yG:=by kernel_rfl
def D7:K:=
 l (.bin .quo) [x 0,y 4294967296]<|l (.bin .rem) [x 0,y 4294967296]<|l (.bin .quo) [x 1,y 4294967296]<|l (.bin .rem) [x 1,y 4294967296]<|V oM 3 5<|V oM 2 5<|l (.bin .quo) [x 6,y 4294967296]<|V oA 7 8<|V oM 3 4<|l (.bin .rem) [x 9,y 4294967296]<|V oA 10 11<|V oM 2 4<|l (.bin .quo) [x 9,y 4294967296]<|V oA 13 14<|l (.bin .quo) [x 12,y 4294967296]<|V oA 15 16<|l (.bin .rem) [x 12,y 4294967296]<|l oM [x 18,y 4294967296]<|l (.bin .rem) [x 6,y 4294967296]<|V oA 19 20<|H [ff,x 17,x 21]<|D [x 22]
theorem aaV:qQ 368 []=some D7:=by kernel_rfl
def HE:K:=
 C 0 2<|U 3 0 4<|H [x 5,x 6]<|D [x 7]
def yH:K:=
 N oA 5 1<|j 1 [x 13,x 14,x 15]
def yI:K:=
 C 1 2<|L 6<|V oL 5 7<|B 8 (C 1 2<|T 3 9 5<|E 0 0 9 10<|V oN 11 1<|.jp yH<|B 12 (C 1 2<|T 3 13 5<|E 0 3 13 14<|l (.bs 1 [z,z,z] [0]) [x 15]<|l .sub [x 16,i 0,i 1]<|l (.app 24 3) [x 3,x 4,x 17]<|L 18<|j 2 [x 18,x 19])<|j 2 [x 3,x 4])<|j 0 [x 3,x 4]
def D8:K:=
 S 2 0<|.jp HE<|.loop yI<|j 1 [s,i 0,i 0]
theorem aaW:qQ 369 [m 2 4 [5,4] [] [2,3,1] [(2,(.box [(r 2 0),(o 3 4)])),(3,(.lst (x 3) (x 4) 3 false))],m 3 4 [1,2,4,5,6] [(6,w 5)] [0,1,2,3] [(2,(.box [(r 2 0),(o 3 4)])),(3,(.lst (x 3) (x 4) 3 false))],n,n,m 2 5 [6,5,4,2,1,10,11,12,13,14,17,18,19,20,21,22,23,24] [] [2,4,1,0] [(2,(.box [(r 2 0),(o 4 14)])),(4,(.lst (x 13) (x 14) 3 false))]]=some D8:=by kernel_rfl
def HF:K:=
 D [i (-1)]
def yJ:K:=
 C 10 2<|L 4<|V oL 3 5<|B 6 (C 10 2<|T 3 7 3<|E 0 0 7 8<|V oE 9 1<|B 10 (D [x 3])<|N oA 3 1<|J 1 11)<|j 0 []
def k370:K:=
 S 11 0<|.jp HF<|.loop yJ<|j 1 [i 0]
theorem aaX:qQ 370 [m 0 1 [4] [] [] [],m 1 1 [1,2,4,5] [(5,w 3)] [0] [],n,n,n]=some k370:=by kernel_rfl
def k371_1:K:=
 P 0 3 32<|U 34 0 23<|U 35 0 15<|H [x 36,x 37,x 38]<|D [x 39]
def k371_2:K:=
 j 0 [x 34,x 35]
def yK:K:=
 I 46 23<|E 0 5 38 47<|I 37 23<|E 0 5 38 49<|Y 347 48 50<|W 51<|B 52 (j 1 [x 38,x 39])<|I 46 23<|E 0 5 38 53<|I 37 23<|E 0 5 38 55<|I 37 23<|S 5 54<|G 0 38 57 58<|I 46 23<|S 5 56<|G 0 59 60 61<|I 37 23<|E 3 0 62 63<|I 46 23<|E 3 0 62 65<|I 64 15<|G 0 39 67 37<|I 66 15<|G 0 68 69 46<|j 2 [x 46,x 62,x 70]
def yL:K:=
 .jp yK<|B 45 (N oA 41 1<|J 3 46)<|J 3 41
def sa:K:=
 l oM [i 2,x 37]<|N oA 40 1<|V oH 41 23<|B 42 (j 1 [x 38,x 39])<|.jp yL<|N oA 41 1<|V oL 43 23<|B 44 (N oA 41 1<|I 45 23<|E 0 5 38 46<|I 41 23<|E 0 5 38 48<|Y 347 47 49<|j 3 [x 43,x 44,x 50])<|j 3 [x 43,x 44,ff]
def k371_6:K:=
 .loop sa<|j 2 [x 34,x 35,x 36]
def k371_7:K:=
 N oG 34 0<|B 37 (I 34 23<|E 0 5 35 38<|N oS 34 1<|N (.bin .quo) 40 2<|I 41 23<|E 0 5 35 42<|Y 347 39 43<|B 44 (N oS 34 1<|N (.bin .quo) 45 2<|I 46 23<|E 0 5 35 47<|I 34 23<|E 0 5 35 49<|I 34 23<|S 5 48<|G 0 35 51 52<|I 46 23<|S 5 50<|G 0 53 54 55<|I 34 23<|E 3 0 56 57<|I 46 23<|E 3 0 56 59<|I 58 15<|G 0 36 61 34<|I 60 15<|G 0 62 63 46<|N oS 34 1<|N (.bin .quo) 65 2<|j 3 [x 66,x 56,x 64])<|j 2 [x 34,x 35,x 36])<|j 2 [x 34,x 35,x 36]
def Rv:K:=
 I 46 23<|E 0 5 38 47<|I 37 23<|E 0 5 38 49<|Y 347 48 50<|W 51<|B 52 (j 1 [x 38,x 39])<|I 46 23<|E 0 5 38 53<|I 37 23<|E 0 5 38 55<|I 37 23<|S 5 54<|G 0 38 57 58<|I 46 23<|S 5 56<|G 0 59 60 61<|I 37 23<|E 3 0 62 63<|I 46 23<|E 3 0 62 65<|I 64 15<|G 0 39 67 37<|I 66 15<|G 0 68 69 46<|j 2 [x 46,x 62,x 70]
def Rx:K:=
 .jp Rv<|B 45 (N oA 41 1<|J 3 46)<|J 3 41
def Oo:K:=
 l oM [i 2,x 37]<|N oA 40 1<|V oH 41 23<|B 42 (j 1 [x 38,x 39])<|.jp Rx<|N oA 41 1<|V oL 43 23<|B 44 (N oA 41 1<|I 45 23<|E 0 5 38 46<|I 41 23<|E 0 5 38 48<|Y 347 47 49<|j 3 [x 43,x 44,x 50])<|j 3 [x 43,x 44,ff]
def k371_11:K:=
 .loop Oo<|j 2 [x 34,x 35,x 36]
def k371_12:K:=
 N oG 34 0<|B 37 (I 34 23<|E 0 5 35 38<|N oS 34 1<|N (.bin .quo) 40 2<|I 41 23<|E 0 5 35 42<|Y 347 39 43<|B 44 (N oS 34 1<|N (.bin .quo) 45 2<|I 46 23<|E 0 5 35 47<|I 34 23<|E 0 5 35 49<|I 34 23<|S 5 48<|G 0 35 51 52<|I 46 23<|S 5 50<|G 0 53 54 55<|I 34 23<|E 3 0 56 57<|I 46 23<|E 3 0 56 59<|I 58 15<|G 0 36 61 34<|I 60 15<|G 0 62 63 46<|N oS 34 1<|N (.bin .quo) 65 2<|j 3 [x 66,x 56,x 64])<|j 2 [x 34,x 35,x 36])<|j 2 [x 34,x 35,x 36]
def tE:K:=
 V .bnd 19 13<|C 0 3<|I 24 15<|l (.set 0) [x 22,x 25,i (-1)]<|U 6 0 7<|U 8 0 9<|U 10 0 11<|H [x 27,x 28,x 29]<|Y 406 30 3<|S 3 31<|V oN 18 19<|.jp k371_1<|B 33 (.jp k371_2<|.amb (.jp k371_6<|.loop k371_7<|j 3 [x 18,x 21,x 26])<|.jp k371_11<|.loop k371_12<|j 3 [x 18,x 21,x 26])<|j 0 [x 21,x 26]
def D9:K:=
 S 5 0<|S 2 1<|X 209 2<|S 5 4<|C 0 5<|L 6<|C 1 5<|L 8<|C 2 5<|L 10<|C 3 5<|L 12<|C 4 5<|L 14<|C 0 3<|I 16 15<|E 0 0 14 17<|N oS 13 1<|V oN 18 19<|.jp tE<|B 20 (I 19 13<|E 0 5 12 21<|I 18 13<|E 0 5 12 23<|I 18 13<|S 5 22<|G 0 12 25 26<|I 19 13<|S 5 24<|G 0 27 28 29<|I 18 13<|E 3 0 30 31<|I 19 13<|E 3 0 30 33<|I 32 15<|G 0 14 35 18<|I 34 15<|G 0 36 37 19<|j 0 [x 30,x 38])<|j 0 [x 12,x 14]
theorem aaY:qQ 371 [m 2 9 [3,4,5,6,7] [] [1,2,8,3,4,5,6,7] [(6,(.lst (x 21) (x 13) 5 false)),(7,(.lst (x 22) (x 15) 1 false))],m 2 9 [4,5] [] [2,8,6,7] [(6,(.lst (x 34) (x 13) 5 false)),(7,(.lst (x 35) (x 15) 1 false))],m 2 9 [5,4] [] [8,6,7,2] [(6,(.lst (x 34) (x 13) 5 false)),(7,(.lst (x 35) (x 15) 1 false))],m 3 10 [4,1] [(1,w 34)] [1,2,3,4,5,6,7,8] [(6,(.lst (x 35) (x 13) 5 false)),(7,(.lst (x 36) (x 15) 1 false))],m 3 10 [1,2,4] [(1,w 34)] [1,2,3,4,5,6,7,8,9] [(6,(.lst (x 35) (x 13) 5 false)),(7,(.lst (x 36) (x 15) 1 false))],n,n,n,n,m 3 11 [1,2] [(1,w 37)] [1,2,3,4,5,6,7,8,10] [(6,(.lst (x 38) (x 13) 5 false)),(7,(.lst (x 39) (x 15) 1 false))],n,n,m 3 11 [2,1,5,6,7,4,8,9,10,11,12,13,14,15,16,17,18,19,32] [(13,w 41),(14,w 43),(15,p 10 3),(16,(.w (.c (o 6 23)))),(17,w 23),(18,w 44),(19,w 44),(32,w 45)] [1,2,3,4,5,6,7,8,10] [],m 1 11 [32,19,18,17,16,15,14,13,12,11,10,9,8,7,6,5,1,2,4] [(4,w 46)] [1,2,3,4,5,6,7,8,10] [],n,m 3 10 [4,1] [(1,w 34)] [1,2,3,4,5,6,7,8] [(6,(.lst (x 35) (x 13) 5 false)),(7,(.lst (x 36) (x 15) 1 false))],m 3 10 [1,2,4] [(1,w 34)] [1,2,3,4,5,6,7,8,9] [(6,(.lst (x 35) (x 13) 5 false)),(7,(.lst (x 36) (x 15) 1 false))],n,n,n,n,m 3 11 [1,2] [(1,w 37)] [1,2,3,4,5,6,7,8,10] [(6,(.lst (x 38) (x 13) 5 false)),(7,(.lst (x 39) (x 15) 1 false))],n,n,m 3 11 [2,1,5,6,7,4,8,9,10,11,12,13,14,15,16,17,18,19,32] [(13,w 41),(14,w 43),(15,p 10 3),(16,(.w (.c (o 6 23)))),(17,w 23),(18,w 44),(19,w 44),(32,w 45)] [1,2,3,4,5,6,7,8,10] [],m 1 11 [32,19,18,17,16,15,14,13,12,11,10,9,8,7,6,5,1,2,4] [(4,w 46)] [1,2,3,4,5,6,7,8,10] [],n]=some D9:=by kernel_rfl
def yM:K:=
 D [x 4]
def Ea:K:=
 S 3 0<|C 2 1<|L 2<|.jp yM<|N oG 3 0<|B 4 (N oS 3 1<|C 2 1<|T 1 6 5<|E 0 0 6 7<|C 0 1<|T 1 9 8<|E 0 0 9 10<|N oL 11 1000000<|J 0 12)<|j 0 [ff]
theorem aaZ:qQ 373 [m 1 1 [2] [(2,w 4)] [] []]=some Ea:=by kernel_rfl
def HG:K:=
 P 0 3 23<|U 39 0 31<|U 38 0 16<|H [x 40,x 41,x 42]<|D [x 43,x 24]
def k374_2:K:=
 N oG 37 0<|B 40 (I 37 31<|E 0 5 38 41<|N oS 37 1<|N (.bin .quo) 43 2<|I 44 31<|E 0 5 38 45<|Y 347 42 46<|B 47 (N oS 37 1<|N (.bin .quo) 48 2<|I 49 31<|E 0 5 38 50<|I 37 31<|E 0 5 38 52<|I 37 31<|S 5 51<|G 0 38 54 55<|I 49 31<|S 5 53<|G 0 56 57 58<|I 37 31<|E 3 0 59 60<|I 49 31<|E 3 0 59 62<|I 61 16<|G 0 39 64 37<|I 63 16<|G 0 65 66 49<|N oS 37 1<|N (.bin .quo) 68 2<|j 1 [x 69,x 59,x 67])<|j 0 [x 37,x 39,x 38])<|j 0 [x 37,x 39,x 38]
def k374:K:=
 S 5 0<|S 2 1<|X 209 3<|S 5 5<|C 0 6<|L 7<|C 1 6<|L 9<|C 2 6<|L 11<|C 3 6<|L 13<|C 4 6<|L 15<|U 7 0 8<|U 9 0 10<|U 11 0 12<|H [x 17,x 18,x 19]<|X 409 20<|S 3 21<|S 2 22<|P 0 2 4<|P 0 2 24<|H [x 25,x 2,x 26]<|l (.bs 1 [z,z,z,z,z] [0]) [x 27]<|l .sub [x 28,i 0,i 1]<|l (.app 40 5) [x 13,x 14,x 29]<|L 30<|N oS 31 1<|C 0 24<|I 33 16<|G 0 15 34 32<|N oS 31 1<|.jp HG<|.loop k374_2<|j 1 [x 36,x 30,x 35]
theorem aa0:qQ 374 [m 3 15 [4,1] [(1,w 37)] [0,1,2,3,4,5,6,8,9,10,11,12,13] [(8,(.lst (x 38) (x 16) 1 false)),(13,(.lst (x 39) (x 31) 5 false))],m 3 15 [1,2,4] [(1,w 37)] [0,1,2,3,4,5,6,8,9,10,11,12,13,14] [(8,(.lst (x 39) (x 16) 1 false)),(13,(.lst (x 38) (x 31) 5 false))],n,n,n]=some k374:=by kernel_rfl
def yN:K:=
 S 2 0<|S 2 1<|X 258 2<|N oN 4 0<|B 5 (H [i 0,s]<|D [x 6,i 0,i 8])<|X 344 3<|W 6<|B 7 (H [i 0,s]<|D [x 8,i 0,i 8])<|Y 263 2 3<|B 8 (H [i 0,s]<|D [x 9,i 0,i 14])<|C 1 2<|L 9<|N oE 10 200<|B 11 (H [i 0,s]<|D [x 12,i 0,i 18])<|C 0 2<|N oE 12 1000000<|B 13 (H [i 0,s]<|D [x 14,i 0,i 18])<|X 208 2<|S 2 14<|C 1 15<|L 16<|C 0 2<|P 0 2 3<|H [x 18,x 19]<|l (.bs 1 [z,z,z] [0]) [x 20]<|l .sub [x 21,i 0,i 1]<|l (.app 24 3) [x 16,x 17,x 22]<|L 23<|C 0 15<|N oA 25 1<|U 23 0 24<|H [x 26,x 27]<|C 0 2<|D [x 28,x 29,i 0]
theorem aa1:qQ 375 [n,n,n,n,n]=some yN:=by kernel_rfl
def HH:K:=
 D [ft]
def yO:K:=
 L 0<|V oL 5 6<|B 7 (T 1 0 5<|E 0 0 0 8<|T 1 1 5<|E 0 0 1 10<|V (.bbin .neq) 9 11<|B 12 (D [ff])<|N oA 5 1<|J 1 13)<|j 0 []
def Eb:K:=
 L 0<|L 1<|V oN 2 3<|B 4 (D [ff])<|.jp HH<|.loop yO<|j 1 [i 0]
theorem aa2:qQ 376 [n,m 0 0 [4] [] [] [],m 1 0 [1,0,4,5] [(5,w 5)] [] [],n,n,n]=some Eb:=by kernel_rfl
def Ec:K:=
 S 5 0<|C 3 1<|X 293 2<|L 3<|C 4 1<|X 120 5<|L 6<|C 0 1<|C 1 1<|C 2 1<|U 3 0 4<|U 6 0 7<|H [x 8,x 9,x 10,x 11,x 12]<|D [x 13]
theorem aa3:qQ 378 []=some Ec:=by kernel_rfl
def k382:K:=
 S 3 0<|X 325 1<|N oN 2 0<|B 3 (H [s,s,s]<|H [i 0,i 0]<|D [x 4,x 5,x 2])<|C 2 1<|L 4<|N oE 5 0<|B 6 (H [s,s,s]<|H [i 0,i 0]<|D [x 7,x 8,i 18])<|C 2 1<|X 412 7<|C 0 1<|T 1 10 9<|E 0 0 10 11<|N oE 12 1000000<|B 13 (H [s,s,s]<|H [i 0,i 0]<|D [x 14,x 15,i 18])<|X 413 1<|S 3 14<|C 0 15<|L 16<|C 1 15<|L 18<|I 9 19<|l (.set 0) [x 18,x 20,ft]<|I 9 17<|E 0 0 16 22<|N oA 23 1<|I 9 17<|G 0 16 25 24<|I 9 17<|E 0 0 26 27<|U 26 0 17<|U 21 0 19<|H [x 29,x 30,x 8]<|H [x 9,x 28]<|D [x 31,x 32,i 0]
theorem aa4:qQ 382 [n,n,n]=some k382:=by kernel_rfl
def k384:K:=
 S 3 0<|S 3 1<|S 2 2<|C 1 3<|C 1 4<|V oS 6 7<|C 1 5<|Y 304 8 9<|C 2 3<|C 2 4<|V oS 11 12<|C 0 5<|Y 304 13 14<|Y 414 10 15<|X 305 16<|D [x 17]
theorem aa5:qQ 384 []=some k384:=by kernel_rfl
def Ed:K:=
 Y 415 0 1<|N oH 2 0<|D [x 3]
theorem aa6:qQ 386 []=some Ed:=by kernel_rfl
def HI:K:=
 D [i 0]
def HJ:K:=
 V oL 2 1<|B 3 (T 1 0 2<|E 0 0 0 4<|N oN 5 0<|B 6 (D [x 5])<|N oA 2 1<|J 1 7)<|j 0 []
def Ee:K:=
 L 0<|.jp HI<|.loop HJ<|j 1 [i 0]
theorem aa7:qQ 387 [m 0 0 [3,2] [] [] [],m 1 0 [2,3,6,7,8] [(8,w 2)] [] [],n,n,n]=some Ee:=by kernel_rfl
def k388:K:=
 S 3 0<|S 3 1<|H [i 0,i 1]<|Z 328 2 3 4<|N oN 5 0<|B 6 (H [i 0,i 0]<|D [x 7,x 5])<|C 2 2<|C 2 3<|V oE 7 8<|B 9 (H [i 0,i 0]<|D [x 10,i 6])<|C 1 2<|C 1 3<|V oS 10 11<|C 2 3<|C 2 2<|V oS 13 14<|Y 416 12 15<|S 2 16<|D [x 18,x 17]
theorem aa8:qQ 388 [n,n]=some k388:=by kernel_rfl
def sc:K:=
 H [x 2,x 3]<|D [x 4]
def HK:K:=
 l .add64 [x 3,x 12,y 0]<|V oA 2 19<|C 1 20<|l (.conv .i64) [x 22]<|V oA 21 23<|N oA 4 1<|C 0 20<|j 1 [x 24,x 26,x 25]
def HL:K:=
 C 1 6<|N oL 17 0<|.jp HK<|B 18 (C 0 6<|V oS 16 19<|J 2 20)<|J 2 16
def se:K:=
 N oL 4 2<|B 5 (V (.aix 2 2 2) 1 4<|C 0 6<|l (.conv .u64) [x 7]<|C 1 6<|l (.conv .u64) [x 9]<|Y 289 8 10<|l (.conv .i64) [x 11]<|C 0 6<|N oL 14 0<|.jp HL<|B 15 (C 1 6<|V oS 13 16<|J 2 17)<|J 2 13)<|j 0 [x 2,x 3]
def Ef:K:=
 S 4 0<|.jp sc<|.loop se<|j 1 [i 0,y 0,i 0]
theorem aa9:qQ 389 [m 2 3 [3,2] [] [2,1] [(2,(.box [(a 2),(a 3)]))],m 3 3 [2,3,11,12] [(12,w 4)] [1,2] [(2,(.box [(a 2),(a 3)]))],n,n,m 1 4 [12,11,3,2,13,14,5,16,17,18,19,20,21,22,15,23,24,6,7,25,26,27,28,29,8] [(8,w 16)] [2,1,3] [],m 1 4 [29,28,27,26,25,7,6,24,23,15,22,21,20,19,18,17,16,5,14,13,2,3,11,12,34,35,36,8] [(8,w 19)] [3,1,2] []]=some Ef:=by kernel_rfl
def Eg:K:=
 V oN 0 0<|D [x 1]
theorem aba:qQ 395 []=some Eg:=by kernel_rfl
def Eh:K:=
 S 3 0<|S 3 1<|C 1 2<|C 1 3<|V oS 4 5<|C 2 3<|C 2 2<|V oS 7 8<|Y 419 6 9<|S 2 10<|D [x 12]
theorem abb:qQ 396 []=some Eh:=by kernel_rfl
end Go.Proofs.YtfghdmmapmdcgaaGreat
