import Derived.Test.YtfghdmmapmdcgaaGreatK1
import Derived.Test.YtfghdmmapmdcgaaGreatK2
import Derived.Test.YtfghdmmapmdcgaaGreatK3
import Derived.Test.YtfghdmmapmdcgaaGreatK4
set_option linter.unusedVariables false
set_option linter.unusedSimpArgs false
set_option linter.defProp false
noncomputable section
namespace Go.Proofs.YtfghdmmapmdcgaaGreat
open Go.Sym
set_option maxRecDepth 100000
def tab:List (Nat×K):=[(4,k4),(7,k7),(12,k12),(13,k13),(14,k14),(15,k15),(16,k16),(17,k17),(18,k18),(19,k19),(26,k26),(27,k27),(28,k28),(35,k35),(36,k36),(37,k37),(38,k38),(39,k39),(40,k40),(41,k41),(42,k42),(43,k43),(44,k44),(45,k45),(46,k46),(47,k47),(48,k48),(49,k49),(50,k50),(51,k51),(52,k52),(53,k53),(54,k54),(64,k64),(66,k66),(67,k67),(76,k76),(77,k77),(78,k78),(79,k79),(80,k80),(81,k81),(82,k82),(83,k83),(84,k84),(109,BO),(110,BP),(111,BQ),(112,BS),(113,BT),(114,BU),(115,BV),(116,BW),(117,BX),(118,k118),(119,BY),(120,BZ),(121,k121),(122,k122),(123,k123),(124,k124),(125,B2),(126,k126),(127,B3),(128,B4),(129,B5),(130,wL),(131,wM),(132,wN),(133,wO),(134,k134),(135,k135),(136,B6),(137,B7),(140,wX),(141,k141),(143,B8),(145,k145),(148,k148),(149,k149),(151,B9),(152,Ca),(153,Cb),(154,Cc),(155,Cd),(156,k156),(157,Ce),(163,Cf),(165,Cg),(167,Ch),(168,Ci),(169,Cj),(170,Jf),(171,Cl),(172,Co),(173,Cp),(174,Cq),(175,Cr),(176,Cu),(177,Cv),(178,Cw),(179,Cy),(180,Cz),(199,xA),(206,CA),(207,CB),(208,CC),(209,CD),(210,CE),(211,CF),(212,CG),(213,CH),(214,CI),(215,CJ),(216,CK),(217,k217),(218,CM),(220,CN),(221,tB),(222,CO),(223,CQ),(224,CT),(225,CU),(226,CV),(227,xJ),(228,CW),(229,CX),(230,k230),(231,CY),(233,k233),(234,CZ),(238,k238),(239,C1),(240,C2),(242,C3),(243,C4),(244,C5),(245,C6),(246,C7),(247,C8),(248,C9),(249,Da),(250,Db),(258,Dc),(259,Dd),(260,De),(261,k261),(262,k262),(263,Df),(264,k264),(265,Dg),(266,Dh),(267,Di),(268,Dj),(269,tC),(270,Dk),(271,Dl),(281,k281),(285,Dm),(286,Dn),(287,Do),(288,Dp),(289,Dq),(290,k290),(291,Dr),(292,Ds),(293,Du),(294,Dv),(295,Dw),(296,Dx),(297,Dy),(298,Dz),(299,DA),(300,k300),(301,DB),(302,DC),(303,k303),(304,DD),(305,DE),(306,DF),(307,DG),(308,DH),(309,yn),(311,k311),(312,k312),(313,Jg),(315,DJ),(317,k317),(320,k320),(321,DK),(323,DL),(324,DM),(325,DN),(326,DO),(327,DQ),(328,DR),(329,DS),(344,DU),(345,DV),(346,DW),(347,DX),(348,DY),(349,DZ),(350,D1),(354,D2),(359,D3),(360,D4),(361,D5),(364,k364),(365,D6),(367,yG),(368,D7),(369,D8),(370,k370),(371,D9),(373,Ea),(374,k374),(375,yN),(376,Eb),(378,Ec),(382,k382),(384,k384),(386,Ed),(387,Ee),(388,k388),(389,Ef),(395,Eg),(396,Eh),(397,Ei),(402,k402),(403,k403),(406,Ej),(409,k409),(412,Ek),(413,Em),(414,tF),(415,En),(416,k416),(419,Eo),(421,Ep),(422,Er),(423,Es),(424,Et),(425,Eu)]
theorem O6:TabL D0 tab:= .cons q4 (.cons q7 (.cons q12 (.cons q13 (.cons q14 (.cons q15 (.cons q16 (.cons q17 (.cons q18 (.cons q19 (.cons q26 (.cons q27 (.cons q28 (.cons q35 (.cons q36 (.cons q37 (.cons q38 (.cons q39 (.cons q40 (.cons q41 (.cons q42 (.cons q43 (.cons q44 (.cons q45 (.cons q46 (.cons q47 (.cons q48 (.cons q49 (.cons q50 (.cons q51 (.cons q52 (.cons q53 (.cons q54 (.cons q64 (.cons q66 (.cons q67 (.cons q76 (.cons q77 (.cons q78 (.cons q79 (.cons q80 (.cons q81 (.cons q82 (.cons q83 (.cons q84 (.cons Yf (.cons Yg (.cons Yh (.cons Yi (.cons Yj (.cons Yk (.cons Yl (.cons Ym (.cons Yn (.cons Yo (.cons Yp (.cons Yq (.cons Yr (.cons Ys (.cons Yt (.cons Yu (.cons Yv (.cons Yw (.cons Yx (.cons Yy (.cons Yz (.cons YA (.cons YB (.cons YC (.cons YD (.cons YE (.cons YF (.cons YG (.cons YH (.cons YI (.cons YJ (.cons YK (.cons YL (.cons YM (.cons YN (.cons YO (.cons YP (.cons YQ (.cons YR (.cons YS (.cons YT (.cons YU (.cons YV (.cons YW (.cons YX (.cons YY (.cons YZ (.cons Y0 (.cons Y1 (.cons Y2 (.cons Y3 (.cons Y4 (.cons Y5 (.cons Y6 (.cons Y7 (.cons Y8 (.cons Y9 (.cons Za (.cons Zb (.cons Zc (.cons Zd (.cons Ze (.cons Zf (.cons Zg (.cons Zh (.cons Zi (.cons Zj (.cons Zk (.cons Zl (.cons Zm (.cons Zn (.cons Zo (.cons Zp (.cons Zq (.cons Zr (.cons Zs (.cons Zt (.cons Zu (.cons Zv (.cons Zw (.cons Zx (.cons Zy (.cons Zz (.cons ZA (.cons ZB (.cons ZC (.cons ZD (.cons ZE (.cons ZF (.cons ZG (.cons ZH (.cons ZI (.cons ZJ (.cons ZK (.cons ZL (.cons ZM (.cons ZN (.cons ZO (.cons ZP (.cons ZQ (.cons ZR (.cons ZS (.cons ZT (.cons ZU (.cons ZV (.cons ZW (.cons ZX (.cons ZY (.cons ZZ (.cons Z0 (.cons Z1 (.cons Z2 (.cons Z3 (.cons Z4 (.cons Z5 (.cons Z6 (.cons Z7 (.cons Z8 (.cons Z9 (.cons aaa (.cons aab (.cons aac (.cons aad (.cons aae (.cons aaf (.cons aag (.cons aah (.cons aai (.cons aaj (.cons aak (.cons aal (.cons aam (.cons aan (.cons aao (.cons aap (.cons aaq (.cons aar (.cons aas (.cons aat (.cons aau (.cons aav (.cons aaw (.cons aax (.cons aay (.cons aaz (.cons aaA (.cons aaB (.cons aaC (.cons aaD (.cons aaE (.cons aaF (.cons aaG (.cons aaH (.cons aaI (.cons aaJ (.cons aaK (.cons aaL (.cons aaM (.cons aaN (.cons aaO (.cons aaP (.cons aaQ (.cons aaR (.cons aaS (.cons aaT (.cons aaU (.cons aaV (.cons aaW (.cons aaX (.cons aaY (.cons aaZ (.cons aa0 (.cons aa1 (.cons aa2 (.cons aa3 (.cons aa4 (.cons aa5 (.cons aa6 (.cons aa7 (.cons aa8 (.cons aa9 (.cons aba (.cons abb (.cons abc (.cons abd (.cons abe (.cons abf (.cons abg (.cons abh (.cons abi (.cons abj (.cons abk (.cons abl (.cons abm (.cons abn (.cons abo (.cons abp (.cons abq (.cons abr (.nil))))))))))))))))))))))))))))))))))))))))))))))))))))))))))))))))))))))))))))))))))))))))))))))))))))))))))))))))))))))))))))))))))))))))))))))))))))))))))))))))))))))))))))))))))))))))))))))))))))))))))))))))))))))))))))))))))))))))))))))))))))
def D:Dt:={D0 with T:=Go.Sym.look tab,X:=nZ 160}
theorem tk {g:FuncId}{k:K}(h:Go.Sym.look tab g=some k):Kok D g k:=h
abbrev qS (g:Nat):Option (List Sh×Nat):=shs D.toDcf g
abbrev qT (g:Nat)(k:K):Prop:=Kok D g k
theorem R7:qT 4 k4:=tk (by kernel_rfl)
theorem s4:qS 4=some ([.g,.g],1):=by kernel_rfl
theorem R8:qT 7 k7:=tk (by kernel_rfl)
theorem s7:qS 7=some ([.g],1):=by kernel_rfl
theorem O7:qT 12 k12:=tk (by kernel_rfl)
theorem s12:qS 12=some ([.g],1):=by kernel_rfl
theorem O8:qT 13 k13:=tk (by kernel_rfl)
theorem s13:qS 13=some ([.g],1):=by kernel_rfl
theorem O9:qT 14 k14:=tk (by kernel_rfl)
theorem s14:qS 14=some ([.g],1):=by kernel_rfl
theorem md:qT 15 k15:=tk (by kernel_rfl)
theorem s15:qS 15=some ([.g,.g],3):=by kernel_rfl
theorem vF:qT 16 k16:=tk (by kernel_rfl)
theorem s16:qS 16=some ([.g,.g],3):=by kernel_rfl
theorem k17_ok:qT 17 k17:=tk (by kernel_rfl)
theorem s17:qS 17=some ([.g,.g],1):=by kernel_rfl
theorem Pa:qT 18 k18:=tk (by kernel_rfl)
theorem s18:qS 18=some ([.c,.c],1):=by kernel_rfl
theorem Pb:qT 19 k19:=tk (by kernel_rfl)
theorem s19:qS 19=some ([.g],1):=by kernel_rfl
theorem Pc:qT 26 k26:=tk (by kernel_rfl)
theorem s26:qS 26=some ([.g],1):=by kernel_rfl
theorem Pd:qT 27 k27:=tk (by kernel_rfl)
theorem s27:qS 27=some ([.g],1):=by kernel_rfl
theorem Pe:qT 28 k28:=tk (by kernel_rfl)
theorem s28:qS 28=some ([.g,.g],1):=by kernel_rfl
theorem Pf:qT 35 k35:=tk (by kernel_rfl)
theorem s35:qS 35=some ([.g],1):=by kernel_rfl
theorem Pg:qT 36 k36:=tk (by kernel_rfl)
theorem s36:qS 36=some ([.g],1):=by kernel_rfl
theorem Ph:qT 37 k37:=tk (by kernel_rfl)
theorem s37:qS 37=some ([.g],1):=by kernel_rfl
theorem Pi:qT 38 k38:=tk (by kernel_rfl)
theorem s38:qS 38=some ([.g],1):=by kernel_rfl
theorem Pj:qT 39 k39:=tk (by kernel_rfl)
theorem s39:qS 39=some ([.g],1):=by kernel_rfl
theorem Pk:qT 40 k40:=tk (by kernel_rfl)
theorem s40:qS 40=some ([.g],1):=by kernel_rfl
theorem Pl:qT 41 k41:=tk (by kernel_rfl)
theorem s41:qS 41=some ([.g],1):=by kernel_rfl
theorem Pm:qT 42 k42:=tk (by kernel_rfl)
theorem s42:qS 42=some ([.g],1):=by kernel_rfl
theorem Pn:qT 43 k43:=tk (by kernel_rfl)
theorem s43:qS 43=some ([.g],1):=by kernel_rfl
theorem Po:qT 44 k44:=tk (by kernel_rfl)
theorem s44:qS 44=some ([.g],1):=by kernel_rfl
theorem k45_ok:qT 45 k45:=tk (by kernel_rfl)
theorem s45:qS 45=some ([.g,.g],3):=by kernel_rfl
theorem k46_ok:qT 46 k46:=tk (by kernel_rfl)
theorem s46:qS 46=some ([.g,.g],3):=by kernel_rfl
theorem k47_ok:qT 47 k47:=tk (by kernel_rfl)
theorem s47:qS 47=some ([.g,.g],3):=by kernel_rfl
theorem k48_ok:qT 48 k48:=tk (by kernel_rfl)
theorem s48:qS 48=some ([.g,.g],3):=by kernel_rfl
theorem Pp:qT 49 k49:=tk (by kernel_rfl)
theorem s49:qS 49=some ([.g,.g],1):=by kernel_rfl
theorem q9:qT 50 k50:=tk (by kernel_rfl)
theorem s50:qS 50=some ([.g,.g],3):=by kernel_rfl
theorem Pq:qT 51 k51:=tk (by kernel_rfl)
theorem s51:qS 51=some ([.g,.g],1):=by kernel_rfl
theorem Pr:qT 52 k52:=tk (by kernel_rfl)
theorem s52:qS 52=some ([.g,.g],1):=by kernel_rfl
theorem Ps:qT 53 k53:=tk (by kernel_rfl)
theorem s53:qS 53=some ([.g,.g],1):=by kernel_rfl
theorem Pu:qT 54 k54:=tk (by kernel_rfl)
theorem s54:qS 54=some ([.g,.g],1):=by kernel_rfl
theorem Pv:qT 64 k64:=tk (by kernel_rfl)
theorem s64:qS 64=some ([.g],1):=by kernel_rfl
theorem Pw:qT 66 k66:=tk (by kernel_rfl)
theorem s66:qS 66=some ([.g],1):=by kernel_rfl
theorem Px:qT 67 k67:=tk (by kernel_rfl)
theorem s67:qS 67=some ([.c],1):=by kernel_rfl
theorem Py:qT 76 k76:=tk (by kernel_rfl)
theorem s76:qS 76=some ([.g],1):=by kernel_rfl
theorem Pz:qT 77 k77:=tk (by kernel_rfl)
theorem s77:qS 77=some ([.g],1):=by kernel_rfl
theorem PA:qT 78 k78:=tk (by kernel_rfl)
theorem s78:qS 78=some ([.g],1):=by kernel_rfl
theorem PB:qT 79 k79:=tk (by kernel_rfl)
theorem s79:qS 79=some ([.g],1):=by kernel_rfl
theorem PC:qT 80 k80:=tk (by kernel_rfl)
theorem s80:qS 80=some ([.g],1):=by kernel_rfl
theorem PD:qT 81 k81:=tk (by kernel_rfl)
theorem s81:qS 81=some ([.g],1):=by kernel_rfl
theorem PE:qT 82 k82:=tk (by kernel_rfl)
theorem s82:qS 82=some ([.g],1):=by kernel_rfl
theorem PF:qT 83 k83:=tk (by kernel_rfl)
theorem s83:qS 83=some ([.g],1):=by kernel_rfl
theorem PG:qT 84 k84:=tk (by kernel_rfl)
theorem s84:qS 84=some ([.g],1):=by kernel_rfl
theorem Lx:qT 109 BO:=tk (by kernel_rfl)
theorem Tz:qS 109=some ([.g],1):=by kernel_rfl
theorem Ly:qT 110 BP:=tk (by kernel_rfl)
theorem TA:qS 110=some ([.g],1):=by kernel_rfl
theorem Lz:qT 111 BQ:=tk (by kernel_rfl)
theorem TB:qS 111=some ([.g],1):=by kernel_rfl
theorem LA:qT 112 BS:=tk (by kernel_rfl)
theorem TC:qS 112=some ([.g],1):=by kernel_rfl
theorem LC:qT 113 BT:=tk (by kernel_rfl)
theorem TD:qS 113=some ([.g],1):=by kernel_rfl
theorem LD:qT 114 BU:=tk (by kernel_rfl)
theorem TE:qS 114=some ([.g],1):=by kernel_rfl
theorem LE:qT 115 BV:=tk (by kernel_rfl)
theorem TF:qS 115=some ([.c,.c],1):=by kernel_rfl
theorem LF:qT 116 BW:=tk (by kernel_rfl)
theorem TG:qS 116=some ([.c],1):=by kernel_rfl
theorem LG:qT 117 BX:=tk (by kernel_rfl)
theorem TH:qS 117=some ([.g,.g],2):=by kernel_rfl
theorem k118_ok:qT 118 k118:=tk (by kernel_rfl)
theorem s118:qS 118=some ([.g,.g],3):=by kernel_rfl
theorem LH:qT 119 BY:=tk (by kernel_rfl)
theorem TI:qS 119=some ([.g,.g],2):=by kernel_rfl
theorem LI:qT 120 BZ:=tk (by kernel_rfl)
theorem TJ:qS 120=some ([.c],1):=by kernel_rfl
theorem k121_ok:qT 121 k121:=tk (by kernel_rfl)
theorem s121:qS 121=some ([.g,.g],4):=by kernel_rfl
theorem k122_ok:qT 122 k122:=tk (by kernel_rfl)
theorem s122:qS 122=some ([.g,.g,.c],2):=by kernel_rfl
theorem k123_ok:qT 123 k123:=tk (by kernel_rfl)
theorem s123:qS 123=some ([.g,.g,.c],2):=by kernel_rfl
theorem k124_ok:qT 124 k124:=tk (by kernel_rfl)
theorem s124:qS 124=some ([.g,.g],2):=by kernel_rfl
theorem LJ:qT 125 B2:=tk (by kernel_rfl)
theorem TK:qS 125=some ([.g,.g],2):=by kernel_rfl
theorem k126_ok:qT 126 k126:=tk (by kernel_rfl)
theorem s126:qS 126=some ([.g,.g],2):=by kernel_rfl
theorem LL:qT 127 B3:=tk (by kernel_rfl)
theorem TL:qS 127=some ([.g,.g],2):=by kernel_rfl
theorem LM:qT 128 B4:=tk (by kernel_rfl)
theorem TM:qS 128=some ([.g],1):=by kernel_rfl
theorem LN:qT 129 B5:=tk (by kernel_rfl)
theorem TN:qS 129=some ([.g,.g],1):=by kernel_rfl
theorem k130_ok:qT 130 wL:=tk (by kernel_rfl)
theorem s130:qS 130=some ([.g,.g],3):=by kernel_rfl
theorem k131_ok:qT 131 wM:=tk (by kernel_rfl)
theorem s131:qS 131=some ([.g,.g],3):=by kernel_rfl
theorem k132_ok:qT 132 wN:=tk (by kernel_rfl)
theorem s132:qS 132=some ([.g,.g],3):=by kernel_rfl
theorem k133_ok:qT 133 wO:=tk (by kernel_rfl)
theorem s133:qS 133=some ([.g,.g],3):=by kernel_rfl
theorem k134_ok:qT 134 k134:=tk (by kernel_rfl)
theorem s134:qS 134=some ([.g,.g],1):=by kernel_rfl
theorem LO:qT 135 k135:=tk (by kernel_rfl)
theorem TO:qS 135=some ([.c,.c],1):=by kernel_rfl
theorem LP:qT 136 B6:=tk (by kernel_rfl)
theorem TP:qS 136=some ([.g,.g],1):=by kernel_rfl
theorem LQ:qT 137 B7:=tk (by kernel_rfl)
theorem TQ:qS 137=some ([.g,.g],1):=by kernel_rfl
theorem k140_ok:qT 140 wX:=tk (by kernel_rfl)
theorem s140:qS 140=some ([.g,.g,.c],2):=by kernel_rfl
theorem LR:qT 141 k141:=tk (by kernel_rfl)
theorem TS:qS 141=some ([.c],1):=by kernel_rfl
theorem LS:qT 143 B8:=tk (by kernel_rfl)
theorem TT:qS 143=some ([.g],1):=by kernel_rfl
theorem k145_ok:qT 145 k145:=tk (by kernel_rfl)
theorem s145:qS 145=some ([.g,.g,.c],2):=by kernel_rfl
theorem k148_ok:qT 148 k148:=tk (by kernel_rfl)
theorem s148:qS 148=some ([.g,.g],2):=by kernel_rfl
theorem k149_ok:qT 149 k149:=tk (by kernel_rfl)
theorem s149:qS 149=some ([.g,.g],2):=by kernel_rfl
theorem LT:qT 151 B9:=tk (by kernel_rfl)
theorem TU:qS 151=some ([.c,.c],1):=by kernel_rfl
theorem LU:qT 152 Ca:=tk (by kernel_rfl)
theorem TV:qS 152=some ([.g,.g],1):=by kernel_rfl
theorem LV:qT 153 Cb:=tk (by kernel_rfl)
theorem TW:qS 153=some ([.g],1):=by kernel_rfl
theorem LW:qT 154 Cc:=tk (by kernel_rfl)
theorem TX:qS 154=some ([.c,.c],1):=by kernel_rfl
theorem LX:qT 155 Cd:=tk (by kernel_rfl)
theorem TY:qS 155=some ([.c,.g],1):=by kernel_rfl
theorem k156_ok:qT 156 k156:=tk (by kernel_rfl)
theorem s156:qS 156=some ([.g,.g,.c,.c],1):=by kernel_rfl
theorem LY:qT 157 Ce:=tk (by kernel_rfl)
theorem TZ:qS 157=some ([.g],1):=by kernel_rfl
theorem LZ:qT 163 Cf:=tk (by kernel_rfl)
theorem T2:qS 163=some ([.c,.c],1):=by kernel_rfl
theorem L0:qT 165 Cg:=tk (by kernel_rfl)
theorem T3:qS 165=some ([.c,.c],1):=by kernel_rfl
theorem L1:qT 167 Ch:=tk (by kernel_rfl)
theorem T4:qS 167=some ([.g],1):=by kernel_rfl
theorem L2:qT 168 Ci:=tk (by kernel_rfl)
theorem T5:qS 168=some ([.g,.c],1):=by kernel_rfl
theorem L3:qT 169 Cj:=tk (by kernel_rfl)
theorem T6:qS 169=some ([.g,.c],1):=by kernel_rfl
theorem L4:qT 170 Jf:=tk (by kernel_rfl)
theorem T7:qS 170=some ([.c],1):=by kernel_rfl
theorem L5:qT 171 Cl:=tk (by kernel_rfl)
theorem T8:qS 171=some ([.g],1):=by kernel_rfl
theorem L6:qT 172 Co:=tk (by kernel_rfl)
theorem T9:qS 172=some ([.c],1):=by kernel_rfl
theorem L7:qT 173 Cp:=tk (by kernel_rfl)
theorem Ua:qS 173=some ([.g,.c],1):=by kernel_rfl
theorem L8:qT 174 Cq:=tk (by kernel_rfl)
theorem Ub:qS 174=some ([.c],1):=by kernel_rfl
theorem L9:qT 175 Cr:=tk (by kernel_rfl)
theorem Uc:qS 175=some ([.g,.g,.g],1):=by kernel_rfl
theorem Ma:qT 176 Cu:=tk (by kernel_rfl)
theorem Ud:qS 176=some ([.g],1):=by kernel_rfl
theorem Mb:qT 177 Cv:=tk (by kernel_rfl)
theorem Ue:qS 177=some ([.g,.g],1):=by kernel_rfl
theorem Mc:qT 178 Cw:=tk (by kernel_rfl)
theorem Uf:qS 178=some ([.g],1):=by kernel_rfl
theorem Md:qT 179 Cy:=tk (by kernel_rfl)
theorem Ug:qS 179=some ([.g,.g],1):=by kernel_rfl
theorem Me:qT 180 Cz:=tk (by kernel_rfl)
theorem Uh:qS 180=some ([.g,.c],1):=by kernel_rfl
theorem Mf:qT 199 xA:=tk (by kernel_rfl)
theorem Ui:qS 199=some ([.c,.c],1):=by kernel_rfl
theorem Mg:qT 206 CA:=tk (by kernel_rfl)
theorem Uj:qS 206=some ([.g],1):=by kernel_rfl
theorem Mh:qT 207 CB:=tk (by kernel_rfl)
theorem Uk:qS 207=some ([.g],1):=by kernel_rfl
theorem Mi:qT 208 CC:=tk (by kernel_rfl)
theorem Ul:qS 208=some ([.g],1):=by kernel_rfl
theorem Mj:qT 209 CD:=tk (by kernel_rfl)
theorem Um:qS 209=some ([.g],1):=by kernel_rfl
theorem Mk:qT 210 CE:=tk (by kernel_rfl)
theorem Un:qS 210=some ([.g,.g],1):=by kernel_rfl
theorem Ml:qT 211 CF:=tk (by kernel_rfl)
theorem Uo:qS 211=some ([.c,.c],1):=by kernel_rfl
theorem Mm:qT 212 CG:=tk (by kernel_rfl)
theorem Up:qS 212=some ([.g,.g],1):=by kernel_rfl
theorem Mn:qT 213 CH:=tk (by kernel_rfl)
theorem Uq:qS 213=some ([.c,.c],1):=by kernel_rfl
theorem Mo:qT 214 CI:=tk (by kernel_rfl)
theorem Ur:qS 214=some ([.g,.g],2):=by kernel_rfl
theorem Mp:qT 215 CJ:=tk (by kernel_rfl)
theorem Us:qS 215=some ([.g],1):=by kernel_rfl
theorem Mq:qT 216 CK:=tk (by kernel_rfl)
theorem Ut:qS 216=some ([.g,.c],3):=by kernel_rfl
theorem k217_ok:qT 217 k217:=tk (by kernel_rfl)
theorem s217:qS 217=some ([.g,.g,.c],2):=by kernel_rfl
theorem Mr:qT 218 CM:=tk (by kernel_rfl)
theorem Uu:qS 218=some ([.g,.g,.c],2):=by kernel_rfl
theorem Ms:qT 220 CN:=tk (by kernel_rfl)
theorem Uv:qS 220=some ([.g,.g],2):=by kernel_rfl
theorem te:qT 221 tB:=tk (by kernel_rfl)
theorem IB:qS 221=some ([.c,.g,.c,.c,.c,.c],1):=by kernel_rfl
theorem Mu:qT 222 CO:=tk (by kernel_rfl)
theorem Uw:qS 222=some ([.c,.c],1):=by kernel_rfl
theorem Mv:qT 223 CQ:=tk (by kernel_rfl)
theorem Ux:qS 223=some ([.c],1):=by kernel_rfl
theorem Mw:qT 224 CT:=tk (by kernel_rfl)
theorem Uy:qS 224=some ([.g,.g],1):=by kernel_rfl
theorem Mx:qT 225 CU:=tk (by kernel_rfl)
theorem Uz:qS 225=some ([.g,.g],1):=by kernel_rfl
theorem My:qT 226 CV:=tk (by kernel_rfl)
theorem UA:qS 226=some ([.g],3):=by kernel_rfl
theorem k227_ok:qT 227 xJ:=tk (by kernel_rfl)
theorem s227:qS 227=some ([.g,.g,.c],2):=by kernel_rfl
theorem Mz:qT 228 CW:=tk (by kernel_rfl)
theorem UB:qS 228=some ([.g,.g],1):=by kernel_rfl
theorem MA:qT 229 CX:=tk (by kernel_rfl)
theorem UC:qS 229=some ([.g,.g],1):=by kernel_rfl
theorem k230_ok:qT 230 k230:=tk (by kernel_rfl)
theorem s230:qS 230=some ([.g,.g],1):=by kernel_rfl
theorem MB:qT 231 CY:=tk (by kernel_rfl)
theorem UD:qS 231=some ([.g],1):=by kernel_rfl
theorem k233_ok:qT 233 k233:=tk (by kernel_rfl)
theorem s233:qS 233=some ([.g,.c],2):=by kernel_rfl
theorem MC:qT 234 CZ:=tk (by kernel_rfl)
theorem UE:qS 234=some ([.c,.c],1):=by kernel_rfl
theorem k238_ok:qT 238 k238:=tk (by kernel_rfl)
theorem s238:qS 238=some ([.g,.g],3):=by kernel_rfl
theorem MD:qT 239 C1:=tk (by kernel_rfl)
theorem UF:qS 239=some ([.g],1):=by kernel_rfl
theorem ME:qT 240 C2:=tk (by kernel_rfl)
theorem UG:qS 240=some ([.g,.g,.c],1):=by kernel_rfl
theorem MF:qT 242 C3:=tk (by kernel_rfl)
theorem UH:qS 242=some ([.g,.c],1):=by kernel_rfl
theorem MG:qT 243 C4:=tk (by kernel_rfl)
theorem UI:qS 243=some ([.g,.g,.g],1):=by kernel_rfl
theorem MH:qT 244 C5:=tk (by kernel_rfl)
theorem UJ:qS 244=some ([.g],1):=by kernel_rfl
theorem MI:qT 245 C6:=tk (by kernel_rfl)
theorem UK:qS 245=some ([.g],1):=by kernel_rfl
theorem MJ:qT 246 C7:=tk (by kernel_rfl)
theorem UL:qS 246=some ([.g,.g,.g],3):=by kernel_rfl
theorem MK:qT 247 C8:=tk (by kernel_rfl)
theorem UM:qS 247=some ([.c,.g],1):=by kernel_rfl
theorem ML:qT 248 C9:=tk (by kernel_rfl)
theorem UN:qS 248=some ([.g,.c],2):=by kernel_rfl
theorem MM:qT 249 Da:=tk (by kernel_rfl)
theorem UO:qS 249=some ([.g,.g,.g],2):=by kernel_rfl
theorem MN:qT 250 Db:=tk (by kernel_rfl)
theorem UP:qS 250=some ([.c],1):=by kernel_rfl
theorem MO:qT 258 Dc:=tk (by kernel_rfl)
theorem UQ:qS 258=some ([.g],1):=by kernel_rfl
theorem MP:qT 259 Dd:=tk (by kernel_rfl)
theorem UR:qS 259=some ([.g,.g],1):=by kernel_rfl
theorem MQ:qT 260 De:=tk (by kernel_rfl)
theorem US:qS 260=some ([.g],1):=by kernel_rfl
theorem k261_ok:qT 261 k261:=tk (by kernel_rfl)
theorem s261:qS 261=some ([.g,.g,.g],2):=by kernel_rfl
theorem k262_ok:qT 262 k262:=tk (by kernel_rfl)
theorem s262:qS 262=some ([.g,.g],2):=by kernel_rfl
theorem MS:qT 263 Df:=tk (by kernel_rfl)
theorem UT:qS 263=some ([.g,.g],1):=by kernel_rfl
theorem k264_ok:qT 264 k264:=tk (by kernel_rfl)
theorem s264:qS 264=some ([.g,.g,.g],1):=by kernel_rfl
theorem MU:qT 265 Dg:=tk (by kernel_rfl)
theorem UU:qS 265=some ([.c],1):=by kernel_rfl
theorem MV:qT 266 Dh:=tk (by kernel_rfl)
theorem UV:qS 266=some ([.g,.c],1):=by kernel_rfl
theorem MW:qT 267 Di:=tk (by kernel_rfl)
theorem UW:qS 267=some ([.g,.g,.c,.c],1):=by kernel_rfl
theorem MX:qT 268 Dj:=tk (by kernel_rfl)
theorem UX:qS 268=some ([.g,.g],1):=by kernel_rfl
theorem tf:qT 269 tC:=tk (by kernel_rfl)
theorem IC:qS 269=some ([.c,.c,.c],1):=by kernel_rfl
theorem MY:qT 270 Dk:=tk (by kernel_rfl)
theorem UY:qS 270=some ([.g],1):=by kernel_rfl
theorem MZ:qT 271 Dl:=tk (by kernel_rfl)
theorem UZ:qS 271=some ([.g,.c],2):=by kernel_rfl
theorem k281_ok:qT 281 k281:=tk (by kernel_rfl)
theorem s281:qS 281=some ([.g,.c],2):=by kernel_rfl
theorem M0:qT 285 Dm:=tk (by kernel_rfl)
theorem U1:qS 285=some ([.g],1):=by kernel_rfl
theorem M1:qT 286 Dn:=tk (by kernel_rfl)
theorem U2:qS 286=some ([.g],1):=by kernel_rfl
theorem M2:qT 287 Do:=tk (by kernel_rfl)
theorem U3:qS 287=some ([.c],1):=by kernel_rfl
theorem M3:qT 288 Dp:=tk (by kernel_rfl)
theorem U4:qS 288=some ([.c,.c],1):=by kernel_rfl
theorem M4:qT 289 Dq:=tk (by kernel_rfl)
theorem U5:qS 289=some ([.c,.c],2):=by kernel_rfl
theorem k290_ok:qT 290 k290:=tk (by kernel_rfl)
theorem s290:qS 290=some ([.g],2):=by kernel_rfl
theorem M5:qT 291 Dr:=tk (by kernel_rfl)
theorem U6:qS 291=some ([.c],1):=by kernel_rfl
theorem M6:qT 292 Ds:=tk (by kernel_rfl)
theorem U7:qS 292=some ([.c],1):=by kernel_rfl
theorem M7:qT 293 Du:=tk (by kernel_rfl)
theorem U8:qS 293=some ([.c],1):=by kernel_rfl
theorem M8:qT 294 Dv:=tk (by kernel_rfl)
theorem U9:qS 294=some ([.c],1):=by kernel_rfl
theorem M9:qT 295 Dw:=tk (by kernel_rfl)
theorem Va:qS 295=some ([.g,.c],3):=by kernel_rfl
theorem Na:qT 296 Dx:=tk (by kernel_rfl)
theorem Vb:qS 296=some ([.c,.c],2):=by kernel_rfl
theorem Nb:qT 297 Dy:=tk (by kernel_rfl)
theorem Vc:qS 297=some ([.g,.g],3):=by kernel_rfl
theorem Nc:qT 298 Dz:=tk (by kernel_rfl)
theorem Vd:qS 298=some ([.c,.c,.c,.c],2):=by kernel_rfl
theorem Nd:qT 299 DA:=tk (by kernel_rfl)
theorem Ve:qS 299=some ([.g],1):=by kernel_rfl
theorem k300_ok:qT 300 k300:=tk (by kernel_rfl)
theorem s300:qS 300=some ([.g,.g],1):=by kernel_rfl
theorem Nf:qT 301 DB:=tk (by kernel_rfl)
theorem Vf:qS 301=some ([.g,.c],1):=by kernel_rfl
theorem Ng:qT 302 DC:=tk (by kernel_rfl)
theorem Vg:qS 302=some ([.g,.g,.c,.c],1):=by kernel_rfl
theorem k303_ok:qT 303 k303:=tk (by kernel_rfl)
theorem s303:qS 303=some ([.g,.g],1):=by kernel_rfl
theorem Nh:qT 304 DD:=tk (by kernel_rfl)
theorem Vh:qS 304=some ([.c,.c],1):=by kernel_rfl
theorem Ni:qT 305 DE:=tk (by kernel_rfl)
theorem Vi:qS 305=some ([.g],1):=by kernel_rfl
theorem Nj:qT 306 DF:=tk (by kernel_rfl)
theorem Vj:qS 306=some ([.g,.g],1):=by kernel_rfl
theorem Nk:qT 307 DG:=tk (by kernel_rfl)
theorem Vk:qS 307=some ([.g,.c],1):=by kernel_rfl
theorem Nl:qT 308 DH:=tk (by kernel_rfl)
theorem Vl:qS 308=some ([.g,.c],1):=by kernel_rfl
theorem Nn:qT 309 yn:=tk (by kernel_rfl)
theorem Vm:qS 309=some ([.c,.g],1):=by kernel_rfl
theorem k311_ok:qT 311 k311:=tk (by kernel_rfl)
theorem s311:qS 311=some ([.g,.g],3):=by kernel_rfl
theorem k312_ok:qT 312 k312:=tk (by kernel_rfl)
theorem s312:qS 312=some ([.g,.g],1):=by kernel_rfl
theorem No:qT 313 Jg:=tk (by kernel_rfl)
theorem Vn:qS 313=some ([.c,.c],1):=by kernel_rfl
theorem Np:qT 315 DJ:=tk (by kernel_rfl)
theorem Vo:qS 315=some ([.g,.c],1):=by kernel_rfl
theorem k317_ok:qT 317 k317:=tk (by kernel_rfl)
theorem s317:qS 317=some ([.g,.g,.c],3):=by kernel_rfl
theorem k320_ok:qT 320 k320:=tk (by kernel_rfl)
theorem s320:qS 320=some ([.g,.g],3):=by kernel_rfl
theorem Nq:qT 321 DK:=tk (by kernel_rfl)
theorem Vp:qS 321=some ([.g,.g,.c],1):=by kernel_rfl
theorem Nr:qT 323 DL:=tk (by kernel_rfl)
theorem Vq:qS 323=some ([.g,.g,.g],1):=by kernel_rfl
theorem Ns:qT 324 DM:=tk (by kernel_rfl)
theorem Vr:qS 324=some ([.g],1):=by kernel_rfl
theorem Nt:qT 325 DN:=tk (by kernel_rfl)
theorem Vs:qS 325=some ([.g],1):=by kernel_rfl
theorem Nu:qT 326 DO:=tk (by kernel_rfl)
theorem Vt:qS 326=some ([.g,.g],1):=by kernel_rfl
theorem Nv:qT 327 DQ:=tk (by kernel_rfl)
theorem Vu:qS 327=some ([.g,.g,.g],3):=by kernel_rfl
theorem Nw:qT 328 DR:=tk (by kernel_rfl)
theorem Vv:qS 328=some ([.g,.g,.g],1):=by kernel_rfl
theorem Ny:qT 329 DS:=tk (by kernel_rfl)
theorem Vw:qS 329=some ([.g,.g,.g],1):=by kernel_rfl
theorem Nz:qT 344 DU:=tk (by kernel_rfl)
theorem Vx:qS 344=some ([.g],1):=by kernel_rfl
theorem NA:qT 345 DV:=tk (by kernel_rfl)
theorem Vy:qS 345=some ([.g],1):=by kernel_rfl
theorem NB:qT 346 DW:=tk (by kernel_rfl)
theorem Vz:qS 346=some ([.g],1):=by kernel_rfl
theorem NC:qT 347 DX:=tk (by kernel_rfl)
theorem VA:qS 347=some ([.g,.g],1):=by kernel_rfl
theorem ND:qT 348 DY:=tk (by kernel_rfl)
theorem VB:qS 348=some ([.g,.g,.g],2):=by kernel_rfl
theorem NE:qT 349 DZ:=tk (by kernel_rfl)
theorem VC:qS 349=some ([.g,.g],1):=by kernel_rfl
theorem NF:qT 350 D1:=tk (by kernel_rfl)
theorem VD:qS 350=some ([.g,.g,.g,.c,.c,.c],2):=by kernel_rfl
theorem NG:qT 354 D2:=tk (by kernel_rfl)
theorem VE:qS 354=some ([.c,.c],1):=by kernel_rfl
theorem NH:qT 359 D3:=tk (by kernel_rfl)
theorem VF:qS 359=some ([.c],1):=by kernel_rfl
theorem NI:qT 360 D4:=tk (by kernel_rfl)
theorem VG:qS 360=some ([.g,.c],2):=by kernel_rfl
theorem NJ:qT 361 D5:=tk (by kernel_rfl)
theorem VH:qS 361=some ([.c,.c,.c,.c],2):=by kernel_rfl
theorem k364_ok:qT 364 k364:=tk (by kernel_rfl)
theorem s364:qS 364=some ([.g,.g],2):=by kernel_rfl
theorem NK:qT 365 D6:=tk (by kernel_rfl)
theorem VI:qS 365=some ([.g,.c],3):=by kernel_rfl
theorem Ao:qT 367 yG:=tk (by kernel_rfl)
theorem PH:qS 367=some ([.g,.c],2):=by kernel_rfl
theorem NL:qT 368 D7:=tk (by kernel_rfl)
theorem VJ:qS 368=some ([.c,.c],1):=by kernel_rfl
theorem NM:qT 369 D8:=tk (by kernel_rfl)
theorem VK:qS 369=some ([.g,.c],1):=by kernel_rfl
theorem k370_ok:qT 370 k370:=tk (by kernel_rfl)
theorem s370:qS 370=some ([.g,.c],1):=by kernel_rfl
theorem NN:qT 371 D9:=tk (by kernel_rfl)
theorem VM:qS 371=some ([.g,.g],1):=by kernel_rfl
theorem NO:qT 373 Ea:=tk (by kernel_rfl)
theorem VN:qS 373=some ([.g],1):=by kernel_rfl
theorem k374_ok:qT 374 k374:=tk (by kernel_rfl)
theorem s374:qS 374=some ([.g,.g,.c],2):=by kernel_rfl
theorem Ap:qT 375 yN:=tk (by kernel_rfl)
theorem PI:qS 375=some ([.g,.g],3):=by kernel_rfl
theorem NQ:qT 376 Eb:=tk (by kernel_rfl)
theorem VO:qS 376=some ([.c,.c],1):=by kernel_rfl
theorem NR:qT 378 Ec:=tk (by kernel_rfl)
theorem VP:qS 378=some ([.g],1):=by kernel_rfl
theorem k382_ok:qT 382 k382:=tk (by kernel_rfl)
theorem s382:qS 382=some ([.g],3):=by kernel_rfl
theorem k384_ok:qT 384 k384:=tk (by kernel_rfl)
theorem s384:qS 384=some ([.g,.g,.g],1):=by kernel_rfl
theorem NS:qT 386 Ed:=tk (by kernel_rfl)
theorem VQ:qS 386=some ([.c,.c],1):=by kernel_rfl
theorem NT:qT 387 Ee:=tk (by kernel_rfl)
theorem VS:qS 387=some ([.c],1):=by kernel_rfl
theorem k388_ok:qT 388 k388:=tk (by kernel_rfl)
theorem s388:qS 388=some ([.g,.g],2):=by kernel_rfl
theorem NU:qT 389 Ef:=tk (by kernel_rfl)
theorem VT:qS 389=some ([.g],1):=by kernel_rfl
theorem NV:qT 395 Eg:=tk (by kernel_rfl)
theorem VU:qS 395=some ([.c],1):=by kernel_rfl
theorem NW:qT 396 Eh:=tk (by kernel_rfl)
theorem VV:qS 396=some ([.g,.g],1):=by kernel_rfl
theorem NX:qT 397 Ei:=tk (by kernel_rfl)
theorem VW:qS 397=some ([.g,.g,.c,.c],1):=by kernel_rfl
theorem k402_ok:qT 402 k402:=tk (by kernel_rfl)
theorem s402:qS 402=some ([.g,.g],2):=by kernel_rfl
theorem k403_ok:qT 403 k403:=tk (by kernel_rfl)
theorem s403:qS 403=some ([.g,.g],2):=by kernel_rfl
theorem NY:qT 406 Ej:=tk (by kernel_rfl)
theorem VX:qS 406=some ([.g,.g],1):=by kernel_rfl
theorem k409_ok:qT 409 k409:=tk (by kernel_rfl)
theorem s409:qS 409=some ([.g],2):=by kernel_rfl
theorem NZ:qT 412 Ek:=tk (by kernel_rfl)
theorem VY:qS 412=some ([.c],2):=by kernel_rfl
theorem N0:qT 413 Em:=tk (by kernel_rfl)
theorem VZ:qS 413=some ([.g],1):=by kernel_rfl
theorem tg:qT 414 tF:=tk (by kernel_rfl)
theorem ID:qS 414=some ([.g,.g],1):=by kernel_rfl
theorem N1:qT 415 En:=tk (by kernel_rfl)
theorem V0:qS 415=some ([.c,.c],1):=by kernel_rfl
theorem k416_ok:qT 416 k416:=tk (by kernel_rfl)
theorem s416:qS 416=some ([.c,.c],2):=by kernel_rfl
theorem N2:qT 419 Eo:=tk (by kernel_rfl)
theorem V1:qS 419=some ([.c,.c],2):=by kernel_rfl
theorem N3:qT 421 Ep:=tk (by kernel_rfl)
theorem V2:qS 421=some ([.c,.c],1):=by kernel_rfl
theorem N4:qT 422 Er:=tk (by kernel_rfl)
theorem V3:qS 422=some ([.c],1):=by kernel_rfl
theorem N5:qT 423 Es:=tk (by kernel_rfl)
theorem V4:qS 423=some ([.g,.g],1):=by kernel_rfl
theorem N6:qT 424 Et:=tk (by kernel_rfl)
theorem V5:qS 424=some ([.g,.c,.c],2):=by kernel_rfl
theorem N7:qT 425 Eu:=tk (by kernel_rfl)
theorem V6:qS 425=some ([.c,.g,.g],2):=by kernel_rfl
end Go.Proofs.YtfghdmmapmdcgaaGreat
