import Derived.Test.YtfghdmmapmdcgaaGreatBcD
set_option linter.unusedVariables false
set_option linter.unusedSimpArgs false
set_option linter.defProp false
noncomputable section
namespace Go.Proofs.YtfghdmmapmdcgaaGreat
open Go.Sym Go.Sym.KP
def HM:K:=
 D [x 6]
def k397_2:K:=
 N oA 7 1<|j 1 [x 11,x 12]
def yP:K:=
 .jp k397_2<|B 10 (J 2 7)<|J 2 6
def k397_4:K:=
 V oL 7 3<|B 8 (.jp yP<|N oL 6 0<|B 9 (j 2 [x 9,ft])<|C 0 4<|T 3 10 7<|E 0 3 10 11<|C 0 4<|T 3 13 6<|E 0 3 13 14<|Z 323 12 15 5<|j 2 [x 9,x 16])<|J 0 6
def Ei:K:=
 S 1 0<|S 2 1<|.jp HM<|.loop k397_4<|j 1 [i (-1),x 2]
theorem abc:qQ 397 [m 1 2 [9,8] [(9,w 6)] [] [],m 2 2 [3,4,5,8,9,10] [(9,w 6),(10,w 7)] [0,1] [],n,n,m 2 2 [10,9,8,5,4,3,12,13,14,17,18,19,32] [(17,w 6),(18,w 9),(19,w 9),(32,w 10)] [1,0] [],m 1 2 [32,19,18,17,14,13,12,3,4,5,8,10,9] [(9,w 11)] [0,1] []]=some Ei:=by kernel_rfl
def Ry:K:=
 D [x 6,i 0]
def k402:K:=
 S 3 0<|S 2 1<|X 325 2<|N oN 4 0<|B 5 (D [ff,x 4])<|.jp Ry<|C 0 3<|N oH 6 0<|B 7 (C 1 2<|L 8<|C 0 3<|V oL 10 9<|B 11 (C 1 2<|C 0 3<|T 1 12 13<|E 0 0 12 14<|B 15 (C 0 2<|C 0 3<|T 1 16 17<|E 0 0 16 18<|C 1 3<|V oE 19 20<|J 0 21)<|j 0 [ff])<|j 0 [ff])<|j 0 [ff]
theorem abd:qQ 402 [n,m 1 2 [4,5] [(4,w 6)] [] []]=some k402:=by kernel_rfl
def k403:K:=
 S 3 0<|S 2 1<|Y 402 2 3<|N oN 5 0<|B 6 (H [s,s,s]<|D [x 7,x 5])<|W 4<|B 7 (H [s,s,s]<|D [x 8,i 6])<|X 413 2<|S 3 8<|C 0 9<|L 10<|C 1 9<|L 12<|C 2 2<|C 0 3<|Y 421 14 15<|C 0 3<|I 17 13<|l (.set 0) [x 12,x 18,ff]<|U 10 0 11<|U 19 0 13<|H [x 20,x 21,x 16]<|D [x 22,i 0]
theorem abe:qQ 403 [n,n]=some k403:=by kernel_rfl
def Ej:K:=
 S 3 0<|S 2 1<|X 286 2<|S 3 4<|C 0 5<|L 6<|C 1 5<|L 8<|C 2 5<|L 10<|C 0 3<|I 12 9<|l (.set 0) [x 8,x 13,ff]<|C 0 3<|l (.bs 1 [z] [0]) [x 15]<|l .sub [x 16,i 0,i 1]<|l (.app 8 1) [x 10,x 11,x 17]<|L 18<|U 6 0 7<|U 14 0 9<|U 18 0 19<|H [x 20,x 21,x 22]<|D [x 23]
theorem abf:qQ 406 []=some Ej:=by kernel_rfl
def k409:K:=
 S 3 0<|X 286 1<|S 3 2<|C 0 3<|L 4<|C 1 3<|L 6<|C 2 3<|L 8<|N oS 9 1<|I 10 9<|E 0 0 8 11<|N oS 9 1<|V .bnd 13 9<|I 12 5<|E 0 0 4 15<|N oA 16 1<|I 12 5<|G 0 4 18 17<|I 12 7<|l (.set 0) [x 6,x 20,ft]<|I 12 5<|E 0 0 19 22<|U 19 0 5<|U 21 0 7<|U 8 0 14<|H [x 24,x 25,x 26]<|H [x 12,x 23]<|D [x 27,x 28]
theorem abg:qQ 409 []=some k409:=by kernel_rfl
def Ek:K:=
 L 0<|N oS 1 1<|L 0<|V .bnd 2 3<|l (.tsub 1) [x 0,i 0,x 4]<|X 422 5<|L 6<|T 1 0 2<|E 0 0 0 8<|U 6 0 7<|D [x 10,x 9]
theorem abh:qQ 412 []=some Ek:=by kernel_rfl
def Em:K:=
 S 3 0<|C 0 1<|X 120 2<|L 3<|C 1 1<|X 294 5<|L 6<|U 3 0 4<|U 6 0 7<|C 2 1<|H [x 8,x 9,x 10]<|D [x 11]
theorem abi:qQ 413 []=some Em:=by kernel_rfl
def HN:K:=
 H [x 7,x 16,x 13]<|D [x 17]
def mw:K:=
 P 1 2 10<|H [x 11,x 12]<|D [x 13]
def tF:K:=
 S 3 0<|S 3 1<|C 0 2<|C 0 3<|V (.bbin .eql) 4 5<|B 6 (C 0 2<|C 1 2<|C 1 3<|V oA 8 9<|C 2 2<|C 2 3<|V oA 11 12<|C 2 2<|V oL 13 14<|.jp HN<|B 15 (l oA [x 10,y 1]<|J 0 16)<|J 0 10)<|Y 306 2 3<|N oH 7 0<|B 8 (Y 423 2 3<|S 3 9<|.jp mw<|C 0 2<|B 11 (C 1 10<|l oG [x 12,y 0]<|B 13 (j 0 [ft])<|C 2 10<|l oG [x 14,y 0]<|J 0 15)<|j 0 [ff])<|Y 423 3 2<|S 3 9<|C 0 3<|P 1 2 10<|H [x 11,x 12]<|D [x 13]
theorem abj:qQ 414 [n,m 1 4 [2,3,4,5] [] [0,1,2,3] [(3,(.box [(a 7),(a 16),(a 13)]))],n,m 1 4 [2,3,4,6] [] [0,1,2,3] [(3,(.box [(a 11),(r 10 1),(r 10 2)]))]]=some tF:=by kernel_rfl
def HO:K:=
 D [i (-1)]
def yQ:K:=
 V oL 3 2<|B 4 (T 1 0 3<|E 0 0 0 5<|V (.bbin .eql) 1 6<|B 7 (D [x 3])<|N oA 3 1<|J 1 8)<|j 0 []
def En:K:=
 L 0<|.jp HO<|.loop yQ<|j 1 [i 0]
theorem abk:qQ 415 [m 0 0 [4] [] [] [],m 1 0 [1,0,4,7,8] [(8,w 3)] [] [],n,n,n]=some En:=by kernel_rfl
def k416:K:=
 N oE 1 0<|B 2 (H [i 0,i 0]<|D [x 3,i 26])<|X 116 0<|X 116 1<|Y 115 3 4<|N oL 0 0<|N oL 1 0<|V (.bbin .neq) 6 7<|X 116 0<|V (.bin .quo) 9 5<|X 116 1<|V (.bin .quo) 11 5<|H [x 8,y 0,x 10]<|c 424 [x 13,y 0,x 12]<|S 2 14<|P 0 2 16<|D [x 17,x 15]
theorem abl:qQ 416 [n]=some k416:=by kernel_rfl
def HQ:K:=
 H [x 6,x 7]<|D [x 9,x 8]
def Eo:K:=
 N oE 1 0<|B 2 (H [i 0,i 0]<|D [x 3,i 26])<|X 223 0<|X 223 1<|Y 222 3 4<|.jp HQ<|N oL 0 0<|N oL 1 0<|V (.bbin .neq) 6 7<|B 8 (N oN 0 0<|X 223 0<|V (.bin .quo) 10 5<|X 223 1<|V (.bin .quo) 12 5<|H [ff,y 0,x 11]<|H [ff,y 0,x 13]<|Z 425 9 14 15<|S 2 16<|C 0 18<|C 1 18<|j 0 [x 19,x 20,x 17])<|X 223 0<|V (.bin .quo) 9 5<|X 223 1<|V (.bin .quo) 11 5<|H [ff,y 0,x 10]<|H [ff,y 0,x 12]<|c 425 [ff,x 13,x 14]<|S 2 15<|C 0 17<|C 1 17<|j 0 [x 18,x 19,x 16]
theorem abm:qQ 419 [n,m 3 1 [4,5] [(5,w 8)] [0] [(0,(.box [(a 6),(a 7)]))]]=some Eo:=by kernel_rfl
def Ep:K:=
 X 422 0<|L 2<|l (.bs 1 [z] [0]) [x 1]<|l .sub [x 4,i 0,i 1]<|l (.app 8 1) [x 2,x 3,x 5]<|L 6<|U 6 0 7<|D [x 8]
theorem abn:qQ 421 []=some Ep:=by kernel_rfl
def yR:K:=
 l (.app 8 1) [s,i 0,x 0]<|L 3<|U 3 0 4<|D [x 5]
def Er:K:=
 L 0<|N oE 1 0<|.jp yR<|B 2 (.amb (D [s])<|j 0 [])<|j 0 []
theorem abo:qQ 422 [m 0 0 [0,2] [] [] []]=some Er:=by kernel_rfl
def HR:K:=
 H [ff,x 13,x 9]<|D [x 14]
def Es:K:=
 S 3 0<|S 3 1<|C 1 2<|C 1 3<|V oS 4 5<|C 2 2<|C 2 3<|V oS 7 8<|C 2 2<|C 2 3<|V oL 10 11<|.jp HR<|B 12 (l oS [x 6,y 1]<|J 0 13)<|J 0 6
theorem abp:qQ 423 [m 1 4 [4,5] [] [2,3] [(3,(.box [(.a (ff)),(a 13),(a 9)]))]]=some Es:=by kernel_rfl
def HS:K:=
 H [x 14,x 12]<|D [x 15,i 0]
def Et:K:=
 S 3 0<|C 1 3<|l oG [x 4,y 0]<|B 5 (H [i 0,i 0]<|D [x 6,i 16])<|C 2 3<|l oG [x 6,y 9223372036854775807]<|B 7 (H [i 0,i 0]<|D [x 8,i 16])<|l oG [x 1,y 0]<|B 8 (H [i 0,i 0]<|D [x 9,i 16])<|l oG [x 2,y 9223372036854775807]<|B 9 (H [i 0,i 0]<|D [x 10,i 16])<|C 2 3<|l (.conv .i64) [x 10]<|l (.conv .i64) [x 2]<|C 0 3<|.jp HS<|B 13 (l (.un .neg) [x 11]<|J 0 14)<|J 0 11
theorem abq:qQ 424 [n,n,m 1 3 [6,7,8] [] [1,2] [(2,(.box [(a 14),(a 12)]))]]=some Et:=by kernel_rfl
def Eu:K:=
 S 3 1<|S 3 2<|C 1 3<|l oG [x 5,y 0]<|B 6 (H [i 0,i 0]<|D [x 7,i 16])<|C 2 3<|l oG [x 7,y 9223372036854775807]<|B 8 (H [i 0,i 0]<|D [x 9,i 16])<|C 1 4<|l oG [x 9,y 0]<|B 10 (H [i 0,i 0]<|D [x 11,i 16])<|C 2 4<|l oG [x 11,y 9223372036854775807]<|B 12 (H [i 0,i 0]<|D [x 13,i 16])<|B 0 (C 2 3<|l (.conv .i64) [x 13]<|l (.un .neg) [x 14]<|C 2 4<|l (.conv .i64) [x 16]<|H [x 15,x 17]<|D [x 18,i 0])<|C 2 3<|l (.conv .i64) [x 13]<|C 2 4<|l (.conv .i64) [x 15]<|H [x 14,x 16]<|D [x 17,i 0]
theorem abr:qQ 425 [n,n,n]=some Eu:=by kernel_rfl
end Go.Proofs.YtfghdmmapmdcgaaGreat
