import Derived.Test.YtndgdhbpojakpaaGreatBcD
set_option linter.unusedVariables false
set_option linter.unusedSimpArgs false
set_option linter.defProp false
noncomputable section
namespace Go.Proofs.YtndgdhbpojakpaaGreat
open Go.Sym Go.Sym.KP
def Lh:K:=
 M [7,16,13]<|O [17]
def qG:K:=
 P 1 2 10<|M [11,12]<|O [13]
def Hn:K:=
 S 3 0<|S 3 1<|C 0 2<|C 0 3<|V (.bbin .eql) 4 5<|B 6 (C 0 2<|C 1 2<|C 1 3<|V oA 8 9<|C 2 2<|C 2 3<|V oA 11 12<|C 2 2<|V oL 13 14<|.jp Lh<|B 15 (l oA [x 10,y 1]<|J 0 16)<|J 0 10)<|Y 342 2 3<|N oH 7 0<|B 8 (Y 360 2 3<|S 3 9<|.jp qG<|C 0 2<|B 11 (C 1 10<|l oG [x 12,y 0]<|B 13 (j 0 [ft])<|C 2 10<|l oG [x 14,y 0]<|J 0 15)<|j 0 [ff])<|Y 360 3 2<|S 3 9<|C 0 3<|P 1 2 10<|M [11,12]<|O [13]
def Li:K:=
 P 1 2 5<|M [6,7]<|O [8]
def XQ:K:=
 X 170 0<|X 170 1<|Y 361 2 3<|S 3 4<|.jp Li<|N oL 0 0<|N oL 1 0<|V (.bbin .neq) 6 7<|B 8 (N oN 0 0<|B 9 (N oN 1 0<|J 0 10)<|j 0 [ff])<|j 0 [ff]
def Lj:K:=
 d (-1)
def DH:K:=
 V oL 3 2<|B 4 (T 1 0 3<|E 0 0 0 5<|V (.bbin .eql) 1 6<|B 7 (O [3])<|N oA 3 1<|J 1 8)<|j 0 []
def XR:K:=
 L 0<|.jp Lj<|.loop DH<|j 1 [i 0]
def XS:K:=
 S 2 0<|S 2 1<|X 91 2<|X 91 3<|V (.mm true) 4 5<|O [6]
def XT:K:=
 S 3 0<|S 3 1<|C 1 2<|C 1 3<|Y 365 4 5<|N oN 6 0<|B 7 (O [6])<|C 2 2<|C 2 3<|Y 365 8 9<|O [10]
def XU:K:=
 X 92 0<|X 92 1<|Y 299 2 3<|N oL 0 0<|N oL 1 0<|V (.bbin .neq) 6 7<|M [8,4,5]<|O [9]
def XV:K:=
 N oE 1 0<|B 2 (H [i 0,i 0]<|D [x 3,i 26])<|X 92 0<|X 92 1<|Y 146 3 4<|N oL 0 0<|N oL 1 0<|V (.bbin .neq) 6 7<|X 92 0<|V (.bin .quo) 9 5<|X 92 1<|V (.bin .quo) 11 5<|H [x 8,y 0,x 10]<|c 366 [x 13,y 0,x 12]<|S 2 14<|P 0 2 16<|O [17,15]
def XW:K:=
 O [6]
def xj:K:=
 N oA 7 1<|f 1 [11,12]
def DJ:K:=
 .jp xj<|B 10 (J 2 7)<|J 2 6
def tB:K:=
 V oL 7 3<|B 8 (.jp DJ<|N oL 6 0<|B 9 (j 2 [x 9,ft])<|C 0 4<|T 3 10 7<|E 0 3 10 11<|C 0 4<|T 3 13 6<|E 0 3 13 14<|Z 200 12 15 5<|f 2 [9,16])<|J 0 6
def XX:K:=
 S 1 0<|S 2 1<|.jp XW<|.loop tB<|j 1 [i (-1),x 2]
def XY:K:=
 S 3 0<|S 3 1<|C 1 2<|C 1 3<|V oN 4 5<|B 6 (C 1 2<|C 1 3<|V oL 7 8<|B 9 (d (-1))<|d 1)<|C 2 2<|C 2 3<|V oN 7 8<|B 9 (C 2 2<|C 2 3<|V oL 10 11<|B 12 (d (-1))<|d 1)<|d 0
def Lk:K:=
 M [6,7]<|O [9,8]
def XZ:K:=
 N oE 1 0<|B 2 (H [i 0,i 0]<|D [x 3,i 26])<|X 170 0<|X 170 1<|Y 169 3 4<|.jp Lk<|N oL 0 0<|N oL 1 0<|V (.bbin .neq) 6 7<|B 8 (N oN 0 0<|X 170 0<|V (.bin .quo) 10 5<|X 170 1<|V (.bin .quo) 12 5<|H [ff,y 0,x 11]<|H [ff,y 0,x 13]<|Z 367 9 14 15<|S 2 16<|C 0 18<|C 1 18<|f 0 [19,20,17])<|X 170 0<|V (.bin .quo) 9 5<|X 170 1<|V (.bin .quo) 11 5<|H [ff,y 0,x 10]<|H [ff,y 0,x 12]<|c 367 [ff,x 13,x 14]<|S 2 15<|C 0 17<|C 1 17<|f 0 [18,19,16]
def DK:K:=
 O [5,6]
def X3:K:=
 .jp DK<|V oL 5 4<|B 6 (C 0 2<|T 3 7 5<|E 0 3 7 8<|C 0 9<|Y 220 10 1<|N oE 11 0<|J 0 12)<|j 0 [ff]
def Ll:K:=
 f 1 [19,18]
def qH:K:=
 V oL 5 6<|B 7 (V oA 5 6<|l (.conv .u64) [x 8]<|l (.bin .shr) [x 9,y 1]<|l (.conv .i64) [x 10]<|C 0 2<|T 3 12 11<|E 0 3 12 13<|C 0 14<|Y 220 15 1<|N oL 16 0<|.jp Ll<|B 17 (N oA 11 1<|f 2 [6,18])<|f 2 [11,5])<|J 0 5
def X4:K:=
 S 1 0<|C 0 2<|L 3<|.jp X3<|.loop qH<|j 1 [i 0,x 4]
def ada:K:=
 L 3<|V .bnd 4 4<|V .bnd 2 5<|V .bnd 1 6<|V oE 1 2<|B 8 (U 3 0 4<|D [x 9,s])<|V .bnd 1 4<|V .bnd 2 4<|l .sum [i 0,x 10]<|V .dif 4 10<|l .sub [x 3,x 11,x 12]<|l (.appK 24 3) [x 3,x 9,x 13]<|L 14<|L 13<|V .sum 9 16<|V .bnd 4 15<|V .bnd 17 18<|l .sum [i 0,x 19]<|V .dif 18 19<|l (.clr [z,z,z]) [x 14,x 20,x 21]<|U 22 0 17<|D [x 23,s]
def Ho:List (Nat×List Hint×K):=[
(322,[n,m 1 4 [4002] [] [0,1,2,3] [(3,(.box [(a 7),(a 16),(a 13)]))],n,m 1 4 [3002,6] [] [0,1,2,3] [(3,(.box [(a 11),(r 10 1),(r 10 2)]))]],Hn),
(323,[m 1 2 [4,5] [] [0,1] [(1,(.box [(a 6),(r 5 1),(r 5 2)]))]],XQ),
(336,[m 0 0 [4] [] [] [],m 1 0 [1,0,4,7,8] [(8,w 3)] [] [],n,n,n],XR),
(337,[],XS),
(338,[n],XT),
(339,[],XU),
(340,[n],XV),
(341,[m 1 2 [9,8] [(9,w 6)] [] [],m 2 2 [3003,3008] [(9,w 6),(10,w 7)] [0,1] [],n,n,m 2 2 [103010,103005,3012,3017,32] [(17,w 6),(18,w 9),(19,w 9),(32,w 10)] [1,0] [],m 1 2 [32,103019,103014,3003,8,10,9] [(9,w 11)] [0,1] []],XX),
(342,[n,n,n,n],XY),
(343,[n,m 3 1 [4,5] [(5,w 8)] [0] [(0,(.box [(a 6),(a 7)]))]],XZ),
(344,[m 1 1 [104009,3000] [(9,w 5)] [0] [],m 2 1 [103002,5006] [(9,w 5),(10,w 6)] [0] [],n,n,m 2 2 [10,103008,3000,9015,11,8024,9] [(10,w 18),(9,w 19)] [0] [],m 1 1 [6,7] [(6,w 5),(7,w 6)] [0] []],X4),
(345,[n],ada)]
def adb:TabL D0 Ho:=by
 unfold Ho
 (repeat refine .cons (by as_aux_lemma=>kernel_rfl) ?_)
 exact .nil
def X5:K:=
 D [x 6,i 0]
def adc:K:=
 S 3 0<|S 2 1<|X 215 2<|N oN 4 0<|B 5 (D [ff,x 4])<|.jp X5<|C 0 3<|N oH 6 0<|B 7 (C 1 2<|L 8<|C 0 3<|V oL 10 9<|B 11 (C 1 2<|C 0 3<|T 1 12 13<|E 0 0 12 14<|B 15 (C 0 2<|C 0 3<|T 1 16 17<|E 0 0 16 18<|C 1 3<|V oE 19 20<|J 0 21)<|j 0 [ff])<|j 0 [ff])<|j 0 [ff]
def ade:K:=
 S 3 0<|S 2 1<|Y 346 2 3<|N oN 5 0<|B 6 (H [s,s,s]<|O [7,5])<|W 4<|B 7 (H [s,s,s]<|D [x 8,i 6])<|X 315 2<|S 3 8<|C 0 9<|L 10<|C 1 9<|L 12<|C 2 2<|C 0 3<|Y 369 14 15<|C 0 3<|I 17 13<|l (.set 0) [x 12,x 18,ff]<|U 10 0 11<|U 19 0 13<|M [20,21,16]<|D [x 22,i 0]
def xk:K:=
 O [5,6]
def X6:K:=
 .jp xk<|V oL 5 4<|B 6 (C 0 2<|T 3 7 5<|E 0 3 7 8<|C 0 9<|Y 220 10 1<|N oE 11 0<|J 0 12)<|j 0 [ff]
def X7:K:=
 f 1 [19,18]
def X8:K:=
 V oL 5 6<|B 7 (V oA 5 6<|l (.conv .u64) [x 8]<|l (.bin .shr) [x 9,y 1]<|l (.conv .i64) [x 10]<|C 0 2<|T 3 12 11<|E 0 3 12 13<|C 0 14<|Y 220 15 1<|N oL 16 0<|.jp X7<|B 17 (N oA 11 1<|f 2 [6,18])<|f 2 [11,5])<|J 0 5
def M9:K:=
 S 1 0<|C 0 2<|L 3<|.jp X6<|.loop X8<|j 1 [i 0,x 4]
def X9:K:=
 V oN 0 0<|O [1]
def DL:K:=
 l (.app 8 1) [s,i 0,x 0]<|L 3<|U 3 0 4<|O [5]
def Ya:K:=
 L 0<|N oE 1 0<|.jp DL<|B 2 (.amb (D [s])<|j 0 [])<|j 0 []
def adf:K:=
 S 3 0<|S 2 1<|X 174 2<|S 3 4<|C 0 5<|L 6<|C 1 5<|L 8<|C 2 5<|L 10<|C 0 3<|I 12 9<|l (.set 0) [x 8,x 13,ff]<|C 0 3<|l (.bs 1 [z] [0]) [x 15]<|l .sub [x 16,i 0,i 1]<|l (.app 8 1) [x 10,x 11,x 17]<|L 18<|U 6 0 7<|U 14 0 9<|U 18 0 19<|M [20,21,22]<|O [23]
def Lm:K:=
 H [ff,x 13,x 9]<|O [14]
def Yb:K:=
 S 3 0<|S 3 1<|C 1 2<|C 1 3<|V oS 4 5<|C 2 2<|C 2 3<|V oS 7 8<|C 2 2<|C 2 3<|V oL 10 11<|.jp Lm<|B 12 (l oS [x 6,y 1]<|J 0 13)<|J 0 6
def Yc:K:=
 l (.bin .quo) [x 0,y 4294967296]<|l (.bin .rem) [x 0,y 4294967296]<|l (.bin .quo) [x 1,y 4294967296]<|l (.bin .rem) [x 1,y 4294967296]<|V oM 3 5<|V oM 2 5<|l (.bin .quo) [x 6,y 4294967296]<|V oA 7 8<|V oM 3 4<|l (.bin .rem) [x 9,y 4294967296]<|V oA 10 11<|V oM 2 4<|l (.bin .quo) [x 9,y 4294967296]<|V oA 13 14<|l (.bin .quo) [x 12,y 4294967296]<|V oA 15 16<|l (.bin .rem) [x 12,y 4294967296]<|l oM [x 18,y 4294967296]<|l (.bin .rem) [x 6,y 4294967296]<|V oA 19 20<|H [ff,x 17,x 21]<|O [22]
def Yd:K:=
 X 373 0<|X 373 1<|B 2 (B 3 (d 0)<|d (-1))<|B 3 (d 1)<|V oL 0 1<|B 4 (d (-1))<|V oG 0 1<|B 5 (d 1)<|d 0
def Lo:K:=
 M [14,12]<|D [x 15,i 0]
def Ye:K:=
 S 3 0<|C 1 3<|l oG [x 4,y 0]<|B 5 (H [i 0,i 0]<|D [x 6,i 16])<|C 2 3<|l oG [x 6,y 9223372036854775807]<|B 7 (H [i 0,i 0]<|D [x 8,i 16])<|l oG [x 1,y 0]<|B 8 (H [i 0,i 0]<|D [x 9,i 16])<|l oG [x 2,y 9223372036854775807]<|B 9 (H [i 0,i 0]<|D [x 10,i 16])<|C 2 3<|l (.conv .i64) [x 10]<|l (.conv .i64) [x 2]<|C 0 3<|.jp Lo<|B 13 (l (.un .neg) [x 11]<|J 0 14)<|J 0 11
def Yf:K:=
 S 3 1<|S 3 2<|C 1 3<|l oG [x 5,y 0]<|B 6 (H [i 0,i 0]<|D [x 7,i 16])<|C 2 3<|l oG [x 7,y 9223372036854775807]<|B 8 (H [i 0,i 0]<|D [x 9,i 16])<|C 1 4<|l oG [x 9,y 0]<|B 10 (H [i 0,i 0]<|D [x 11,i 16])<|C 2 4<|l oG [x 11,y 9223372036854775807]<|B 12 (H [i 0,i 0]<|D [x 13,i 16])<|B 0 (C 2 3<|l (.conv .i64) [x 13]<|l (.un .neg) [x 14]<|C 2 4<|l (.conv .i64) [x 16]<|M [15,17]<|D [x 18,i 0])<|C 2 3<|l (.conv .i64) [x 13]<|C 2 4<|l (.conv .i64) [x 15]<|M [14,16]<|D [x 17,i 0]
def adg:K:=
 X 357 0<|L 2<|l (.bs 1 [z] [0]) [x 1]<|l .sub [x 4,i 0,i 1]<|l (.app 8 1) [x 2,x 3,x 5]<|L 6<|U 6 0 7<|O [8]
def Hp:List (Nat×List Hint×K):=[
(346,[n,m 1 2 [4,5] [(4,w 6)] [] []],adc),
(347,[n,n],ade),
(349,[m 1 1 [104009,3000] [(9,w 5)] [0] [],m 2 1 [103002,5006] [(9,w 5),(10,w 6)] [0] [],n,n,m 2 2 [10,103008,3000,9015,11,8024,9] [(10,w 18),(9,w 19)] [0] [],m 1 1 [6,7] [(6,w 5),(7,w 6)] [0] []],M9),
(356,[],X9),
(357,[m 0 0 [0,2] [] [] []],Ya),
(358,[],adf),
(360,[m 1 4 [4,5] [] [2,3] [(3,(.box [(.a (ff)),(a 13),(a 9)]))]],Yb),
(361,[],Yc),
(365,[n,n,n,n,n],Yd),
(366,[n,n,m 1 3 [3006] [] [1,2] [(2,(.box [(a 14),(a 12)]))]],Ye),
(367,[n,n,n],Yf),
(369,[],adg)]
def adh:TabL D0 Hp:=by
 unfold Hp
 (repeat refine .cons (by as_aux_lemma=>kernel_rfl) ?_)
 exact .nil
def Yg:K:=
 V oN 0 0<|O [1]
def Hq:List (Nat×List Hint×K):=[
(373,[],Yg)]
def adi:TabL D0 Hq:=by
 unfold Hq
 (repeat refine .cons (by as_aux_lemma=>kernel_rfl) ?_)
 exact .nil
end Go.Proofs.YtndgdhbpojakpaaGreat
