import Derived.Test.YtfghdmmapmdcgaaGreatM3
import Derived.Test.YtfghdmmapmdcgaaGreatK1
import Derived.Test.YtfghdmmapmdcgaaGreatK2
import Derived.Test.YtfghdmmapmdcgaaGreatK3
set_option linter.unusedVariables false
set_option linter.unusedSimpArgs false
set_option linter.defProp false
noncomputable section
namespace Go.Proofs.YtfghdmmapmdcgaaGreat
open Go.Sym
def tab:List (Nat×K):=[(5,k5),(7,k7),(13,k13),(17,k17),(19,k19),(20,k20),(21,k21),(22,k22),(23,k23),(24,k24),(25,k25),(26,k26),(27,k27),(28,k28),(35,k35),(36,k36),(37,k37),(38,k38),(43,k43),(44,k44),(51,k51),(52,k52),(53,k53),(54,k54),(55,k55),(56,k56),(57,k57),(58,k58),(59,k59),(60,k60),(61,k61),(62,k62),(63,k63),(64,k64),(65,k65),(66,k66),(67,k67),(68,k68),(69,k69),(70,k70),(71,k71),(72,k72),(73,k73),(74,k74),(75,k75),(76,k76),(77,k77),(78,k78),(79,k79),(80,k80),(81,k81),(82,k82),(83,k83),(84,k84),(109,tv),(110,tw),(111,tz),(112,tA),(115,tB),(116,tC),(117,tD),(120,tE),(122,tF),(123,k123),(124,tG),(125,tH),(126,tI),(127,tJ),(128,tK),(134,k134),(135,k135),(136,tL),(137,tM),(138,ol),(140,tN),(141,k141),(142,tO),(143,tP),(144,tQ),(145,tR),(146,tS),(147,tT),(148,k148),(149,tU),(150,tV),(151,tW),(152,tX),(153,tY),(154,tZ),(155,t6),(156,k156),(157,t7),(163,t8),(165,ug),(167,uh),(168,ui),(169,uj),(170,BI),(171,ul),(172,um),(173,uo),(174,uq),(175,ur),(176,ut),(177,uu),(178,uv),(179,ux),(180,uy),(184,uz),(192,k192),(206,uA),(207,uB),(208,uC),(209,uD),(210,uE),(211,uF),(212,uG),(213,uH),(215,uI),(217,k217),(218,uJ),(220,uK),(221,kR),(222,uL),(223,uM),(224,uN),(227,uO),(229,uP),(230,k230),(231,uQ),(232,k232),(234,uR),(238,k238),(239,uS),(240,uT),(241,uU),(242,uV),(243,uW),(244,uX),(245,uY),(246,uZ),(247,u7),(248,u9),(249,vb),(250,vd),(258,vg),(259,vk),(260,vl),(261,k261),(262,k262),(263,vn),(264,k264),(265,vo),(266,vp),(267,vq),(268,vr),(269,kS),(270,vt),(271,vu),(277,vw),(280,k280),(281,k281),(285,vz),(286,vA),(287,vB),(288,vC),(289,vD),(291,vE),(292,vF),(293,vG),(294,vH),(299,vI),(300,k300),(301,vJ),(302,vK),(303,k303),(304,vL),(305,vM),(306,vN),(309,JX),(311,k311),(312,k312),(313,BJ),(314,vO),(315,vP),(317,k317),(320,vQ),(321,vR),(322,vS),(323,vT),(324,vU),(325,vV),(326,vW),(327,vX),(328,vY),(329,vZ),(344,v6),(345,v7),(346,v8),(347,wa),(348,wb),(349,wc),(350,wd),(354,wg),(359,wj),(367,qc),(368,wl),(373,wm),(374,k374),(375,wo),(376,wq),(378,wv),(382,k382),(384,k384),(386,ww),(387,wx),(388,k388),(389,wy),(395,wA),(396,wB),(397,wC),(409,k409),(412,wD),(413,wE),(414,kV),(415,wF),(416,k416),(419,wG),(422,wH),(423,wI),(424,wJ),(425,wK)]
theorem Ho:TabL D0 tab:= .cons q5 (.cons q7 (.cons q13 (.cons q17 (.cons q19 (.cons q20 (.cons q21 (.cons q22 (.cons q23 (.cons q24 (.cons q25 (.cons q26 (.cons q27 (.cons q28 (.cons q35 (.cons q36 (.cons q37 (.cons q38 (.cons q43 (.cons q44 (.cons q51 (.cons q52 (.cons q53 (.cons q54 (.cons q55 (.cons q56 (.cons q57 (.cons q58 (.cons q59 (.cons q60 (.cons q61 (.cons q62 (.cons q63 (.cons q64 (.cons q65 (.cons q66 (.cons q67 (.cons q68 (.cons q69 (.cons q70 (.cons q71 (.cons q72 (.cons q73 (.cons q74 (.cons q75 (.cons q76 (.cons q77 (.cons q78 (.cons q79 (.cons q80 (.cons q81 (.cons q82 (.cons q83 (.cons q84 (.cons Qs (.cons Qu (.cons Qw (.cons Qy (.cons QA (.cons QC (.cons QE (.cons QG (.cons QI (.cons QK (.cons QM (.cons QO (.cons QQ (.cons QS (.cons QU (.cons QW (.cons QY (.cons Q0 (.cons Q2 (.cons Q4 (.cons Q6 (.cons Q8 (.cons Ra (.cons Rc (.cons Rf (.cons Rh (.cons Rj (.cons Rl (.cons Rn (.cons Rp (.cons Rr (.cons Ru (.cons Rx (.cons Rz (.cons RB (.cons RD (.cons RG (.cons RI (.cons RK (.cons RM (.cons RP (.cons RS (.cons RV (.cons RX (.cons RZ (.cons R1 (.cons R3 (.cons R5 (.cons R7 (.cons R9 (.cons Sb (.cons Sd (.cons Sf (.cons Si (.cons Sk (.cons Sn (.cons Sq (.cons Ss (.cons Sv (.cons Sy (.cons SA (.cons SE (.cons SH (.cons SJ (.cons SM (.cons SO (.cons SQ (.cons SU (.cons SY (.cons S0 (.cons S2 (.cons S4 (.cons S6 (.cons S8 (.cons Ta (.cons Tc (.cons Te (.cons Tg (.cons Ti (.cons Tl (.cons To (.cons Tq (.cons Tt (.cons Tv (.cons Tx (.cons Tz (.cons TB (.cons TD (.cons TF (.cons TH (.cons TJ (.cons TL (.cons TN (.cons TP (.cons TS (.cons TU (.cons TW (.cons TY (.cons T2 (.cons T4 (.cons T6 (.cons T8 (.cons Ua (.cons Uc (.cons Ue (.cons Ug (.cons Ui (.cons Uk (.cons Um (.cons Uo (.cons Uq (.cons Us (.cons Uu (.cons Uw (.cons Uy (.cons UA (.cons UC (.cons UE (.cons UG (.cons UI (.cons UK (.cons UM (.cons UO (.cons UQ (.cons US (.cons UU (.cons UW (.cons UY (.cons U1 (.cons U3 (.cons U5 (.cons U7 (.cons U9 (.cons Vb (.cons Vd (.cons Vf (.cons Vh (.cons Vj (.cons Vl (.cons Vn (.cons Vp (.cons Vr (.cons Vt (.cons Vv (.cons Vx (.cons Vz (.cons VB (.cons VD (.cons VF (.cons VH (.cons VJ (.cons VM (.cons VO (.cons VQ (.cons VT (.cons VV (.cons VX (.cons VZ (.cons V1 (.cons V3 (.cons V5 (.cons V7 (.cons V9 (.cons Wb (.cons Wd (.cons Wf (.cons Wh (.cons Wj (.cons Wl (.cons Wn (.cons Wp (.cons Wr (.cons Wt (.cons Wv (.cons Wx (.cons Wz (.cons WC (.cons WE (.nil))))))))))))))))))))))))))))))))))))))))))))))))))))))))))))))))))))))))))))))))))))))))))))))))))))))))))))))))))))))))))))))))))))))))))))))))))))))))))))))))))))))))))))))))))))))))))))))))))))))))))))))))))))))))))))))))))))))))
def D:Dt:={D0 with T:=Go.Sym.look tab,X:=fY 160}
theorem tk {g:FuncId}{k:K}(h:Go.Sym.look tab g=some k):Kok D g k:=h
theorem KJ:Kok D 5 k5:=tk (by kernel_rfl)
theorem s5:shs D.toDcf 5=some ([.c,.g,.g,.g],1):=by kernel_rfl
theorem KK:Kok D 7 k7:=tk (by kernel_rfl)
theorem s7:shs D.toDcf 7=some ([.g],1):=by kernel_rfl
theorem Hp:Kok D 13 k13:=tk (by kernel_rfl)
theorem s13:shs D.toDcf 13=some ([.g],1):=by kernel_rfl
theorem k17_ok:Kok D 17 k17:=tk (by kernel_rfl)
theorem s17:shs D.toDcf 17=some ([.g,.g],1):=by kernel_rfl
theorem Hq:Kok D 19 k19:=tk (by kernel_rfl)
theorem s19:shs D.toDcf 19=some ([.g],1):=by kernel_rfl
theorem Hr:Kok D 20 k20:=tk (by kernel_rfl)
theorem s20:shs D.toDcf 20=some ([.c,.g,.g],2):=by kernel_rfl
theorem Hs:Kok D 21 k21:=tk (by kernel_rfl)
theorem s21:shs D.toDcf 21=some ([.c,.g,.g],2):=by kernel_rfl
theorem Ht:Kok D 22 k22:=tk (by kernel_rfl)
theorem s22:shs D.toDcf 22=some ([.g],3):=by kernel_rfl
theorem Hu:Kok D 23 k23:=tk (by kernel_rfl)
theorem s23:shs D.toDcf 23=some ([.g],3):=by kernel_rfl
theorem Hv:Kok D 24 k24:=tk (by kernel_rfl)
theorem s24:shs D.toDcf 24=some ([.g],2):=by kernel_rfl
theorem Hw:Kok D 25 k25:=tk (by kernel_rfl)
theorem s25:shs D.toDcf 25=some ([.g],2):=by kernel_rfl
theorem Hx:Kok D 26 k26:=tk (by kernel_rfl)
theorem s26:shs D.toDcf 26=some ([.g],1):=by kernel_rfl
theorem Hy:Kok D 27 k27:=tk (by kernel_rfl)
theorem s27:shs D.toDcf 27=some ([.g],1):=by kernel_rfl
theorem Hz:Kok D 28 k28:=tk (by kernel_rfl)
theorem s28:shs D.toDcf 28=some ([.g,.g],1):=by kernel_rfl
theorem HA:Kok D 35 k35:=tk (by kernel_rfl)
theorem s35:shs D.toDcf 35=some ([.g],1):=by kernel_rfl
theorem HB:Kok D 36 k36:=tk (by kernel_rfl)
theorem s36:shs D.toDcf 36=some ([.g],1):=by kernel_rfl
theorem HC:Kok D 37 k37:=tk (by kernel_rfl)
theorem s37:shs D.toDcf 37=some ([.g],1):=by kernel_rfl
theorem HE:Kok D 38 k38:=tk (by kernel_rfl)
theorem s38:shs D.toDcf 38=some ([.g],1):=by kernel_rfl
theorem HF:Kok D 43 k43:=tk (by kernel_rfl)
theorem s43:shs D.toDcf 43=some ([.g],1):=by kernel_rfl
theorem HG:Kok D 44 k44:=tk (by kernel_rfl)
theorem s44:shs D.toDcf 44=some ([.g],1):=by kernel_rfl
theorem HH:Kok D 51 k51:=tk (by kernel_rfl)
theorem s51:shs D.toDcf 51=some ([.g,.g],1):=by kernel_rfl
theorem HI:Kok D 52 k52:=tk (by kernel_rfl)
theorem s52:shs D.toDcf 52=some ([.g,.g],1):=by kernel_rfl
theorem HJ:Kok D 53 k53:=tk (by kernel_rfl)
theorem s53:shs D.toDcf 53=some ([.g,.g],1):=by kernel_rfl
theorem HK:Kok D 54 k54:=tk (by kernel_rfl)
theorem s54:shs D.toDcf 54=some ([.g,.g],1):=by kernel_rfl
theorem xx:Kok D 55 k55:=tk (by kernel_rfl)
theorem s55:shs D.toDcf 55=some ([.g,.g],2):=by kernel_rfl
theorem xy:Kok D 56 k56:=tk (by kernel_rfl)
theorem s56:shs D.toDcf 56=some ([.g,.g],2):=by kernel_rfl
theorem xz:Kok D 57 k57:=tk (by kernel_rfl)
theorem s57:shs D.toDcf 57=some ([.g,.g],2):=by kernel_rfl
theorem xA:Kok D 58 k58:=tk (by kernel_rfl)
theorem s58:shs D.toDcf 58=some ([.g,.g],2):=by kernel_rfl
theorem HL:Kok D 59 k59:=tk (by kernel_rfl)
theorem s59:shs D.toDcf 59=some ([.g,.c],2):=by kernel_rfl
theorem xB:Kok D 60 k60:=tk (by kernel_rfl)
theorem s60:shs D.toDcf 60=some ([.g,.g],2):=by kernel_rfl
theorem xC:Kok D 61 k61:=tk (by kernel_rfl)
theorem s61:shs D.toDcf 61=some ([.g,.g],2):=by kernel_rfl
theorem xD:Kok D 62 k62:=tk (by kernel_rfl)
theorem s62:shs D.toDcf 62=some ([.g,.g],2):=by kernel_rfl
theorem xE:Kok D 63 k63:=tk (by kernel_rfl)
theorem s63:shs D.toDcf 63=some ([.g,.g],2):=by kernel_rfl
theorem HM:Kok D 64 k64:=tk (by kernel_rfl)
theorem s64:shs D.toDcf 64=some ([.g],1):=by kernel_rfl
theorem HN:Kok D 65 k65:=tk (by kernel_rfl)
theorem s65:shs D.toDcf 65=some ([.g,.c],2):=by kernel_rfl
theorem HO:Kok D 66 k66:=tk (by kernel_rfl)
theorem s66:shs D.toDcf 66=some ([.g],1):=by kernel_rfl
theorem HQ:Kok D 67 k67:=tk (by kernel_rfl)
theorem s67:shs D.toDcf 67=some ([.c],1):=by kernel_rfl
theorem k68_ok:Kok D 68 k68:=tk (by kernel_rfl)
theorem s68:shs D.toDcf 68=some ([.g],2):=by kernel_rfl
theorem k69_ok:Kok D 69 k69:=tk (by kernel_rfl)
theorem s69:shs D.toDcf 69=some ([.g],2):=by kernel_rfl
theorem k70_ok:Kok D 70 k70:=tk (by kernel_rfl)
theorem s70:shs D.toDcf 70=some ([.g],2):=by kernel_rfl
theorem HR:Kok D 71 k71:=tk (by kernel_rfl)
theorem s71:shs D.toDcf 71=some ([.g],2):=by kernel_rfl
theorem k72_ok:Kok D 72 k72:=tk (by kernel_rfl)
theorem s72:shs D.toDcf 72=some ([.g],2):=by kernel_rfl
theorem HS:Kok D 73 k73:=tk (by kernel_rfl)
theorem s73:shs D.toDcf 73=some ([.g],2):=by kernel_rfl
theorem HU:Kok D 74 k74:=tk (by kernel_rfl)
theorem s74:shs D.toDcf 74=some ([.g],2):=by kernel_rfl
theorem HV:Kok D 75 k75:=tk (by kernel_rfl)
theorem s75:shs D.toDcf 75=some ([.g],2):=by kernel_rfl
theorem HW:Kok D 76 k76:=tk (by kernel_rfl)
theorem s76:shs D.toDcf 76=some ([.g],1):=by kernel_rfl
theorem HX:Kok D 77 k77:=tk (by kernel_rfl)
theorem s77:shs D.toDcf 77=some ([.g],1):=by kernel_rfl
theorem HY:Kok D 78 k78:=tk (by kernel_rfl)
theorem s78:shs D.toDcf 78=some ([.g],1):=by kernel_rfl
theorem HZ:Kok D 79 k79:=tk (by kernel_rfl)
theorem s79:shs D.toDcf 79=some ([.g],1):=by kernel_rfl
theorem H0:Kok D 80 k80:=tk (by kernel_rfl)
theorem s80:shs D.toDcf 80=some ([.g],1):=by kernel_rfl
theorem H1:Kok D 81 k81:=tk (by kernel_rfl)
theorem s81:shs D.toDcf 81=some ([.g],1):=by kernel_rfl
theorem H2:Kok D 82 k82:=tk (by kernel_rfl)
theorem s82:shs D.toDcf 82=some ([.g],1):=by kernel_rfl
theorem H3:Kok D 83 k83:=tk (by kernel_rfl)
theorem s83:shs D.toDcf 83=some ([.g],1):=by kernel_rfl
theorem H4:Kok D 84 k84:=tk (by kernel_rfl)
theorem s84:shs D.toDcf 84=some ([.g],1):=by kernel_rfl
theorem DM:Kok D 109 tv:=tk (by kernel_rfl)
theorem LQ:shs D.toDcf 109=some ([.g],1):=by kernel_rfl
theorem DN:Kok D 110 tw:=tk (by kernel_rfl)
theorem LR:shs D.toDcf 110=some ([.g],1):=by kernel_rfl
theorem DO:Kok D 111 tz:=tk (by kernel_rfl)
theorem LS:shs D.toDcf 111=some ([.g],1):=by kernel_rfl
theorem DQ:Kok D 112 tA:=tk (by kernel_rfl)
theorem LT:shs D.toDcf 112=some ([.g],1):=by kernel_rfl
theorem DR:Kok D 115 tB:=tk (by kernel_rfl)
theorem LU:shs D.toDcf 115=some ([.c,.c],1):=by kernel_rfl
theorem DS:Kok D 116 tC:=tk (by kernel_rfl)
theorem LV:shs D.toDcf 116=some ([.c],1):=by kernel_rfl
theorem DU:Kok D 117 tD:=tk (by kernel_rfl)
theorem LW:shs D.toDcf 117=some ([.g,.g],2):=by kernel_rfl
theorem DV:Kok D 120 tE:=tk (by kernel_rfl)
theorem LX:shs D.toDcf 120=some ([.c],1):=by kernel_rfl
theorem DW:Kok D 122 tF:=tk (by kernel_rfl)
theorem LY:shs D.toDcf 122=some ([.g,.g,.c],2):=by kernel_rfl
theorem k123_ok:Kok D 123 k123:=tk (by kernel_rfl)
theorem s123:shs D.toDcf 123=some ([.g,.g,.c],2):=by kernel_rfl
theorem DX:Kok D 124 tG:=tk (by kernel_rfl)
theorem LZ:shs D.toDcf 124=some ([.g,.g],2):=by kernel_rfl
theorem DY:Kok D 125 tH:=tk (by kernel_rfl)
theorem L0:shs D.toDcf 125=some ([.g,.g],2):=by kernel_rfl
theorem DZ:Kok D 126 tI:=tk (by kernel_rfl)
theorem L1:shs D.toDcf 126=some ([.g,.g],2):=by kernel_rfl
theorem D1:Kok D 127 tJ:=tk (by kernel_rfl)
theorem L2:shs D.toDcf 127=some ([.g,.g],2):=by kernel_rfl
theorem D2:Kok D 128 tK:=tk (by kernel_rfl)
theorem L3:shs D.toDcf 128=some ([.g],1):=by kernel_rfl
theorem k134_ok:Kok D 134 k134:=tk (by kernel_rfl)
theorem s134:shs D.toDcf 134=some ([.g,.g],1):=by kernel_rfl
theorem D3:Kok D 135 k135:=tk (by kernel_rfl)
theorem L4:shs D.toDcf 135=some ([.c,.c],1):=by kernel_rfl
theorem D4:Kok D 136 tL:=tk (by kernel_rfl)
theorem L5:shs D.toDcf 136=some ([.g,.g],1):=by kernel_rfl
theorem D5:Kok D 137 tM:=tk (by kernel_rfl)
theorem L6:shs D.toDcf 137=some ([.g,.g],1):=by kernel_rfl
theorem rz:Kok D 138 ol:=tk (by kernel_rfl)
theorem H5:shs D.toDcf 138=some ([.g,.g],2):=by kernel_rfl
theorem D6:Kok D 140 tN:=tk (by kernel_rfl)
theorem L7:shs D.toDcf 140=some ([.g,.g,.c],2):=by kernel_rfl
theorem D7:Kok D 141 k141:=tk (by kernel_rfl)
theorem L8:shs D.toDcf 141=some ([.c],1):=by kernel_rfl
theorem D8:Kok D 142 tO:=tk (by kernel_rfl)
theorem L9:shs D.toDcf 142=some ([.g],1):=by kernel_rfl
theorem D9:Kok D 143 tP:=tk (by kernel_rfl)
theorem Ma:shs D.toDcf 143=some ([.g],1):=by kernel_rfl
theorem Ea:Kok D 144 tQ:=tk (by kernel_rfl)
theorem Mb:shs D.toDcf 144=some ([.g,.g],1):=by kernel_rfl
theorem Eb:Kok D 145 tR:=tk (by kernel_rfl)
theorem Mc:shs D.toDcf 145=some ([.g,.g,.c],2):=by kernel_rfl
theorem Ec:Kok D 146 tS:=tk (by kernel_rfl)
theorem Md:shs D.toDcf 146=some ([.g,.g],1):=by kernel_rfl
theorem Ed:Kok D 147 tT:=tk (by kernel_rfl)
theorem Me:shs D.toDcf 147=some ([.g],1):=by kernel_rfl
theorem k148_ok:Kok D 148 k148:=tk (by kernel_rfl)
theorem s148:shs D.toDcf 148=some ([.g,.g],2):=by kernel_rfl
theorem Ee:Kok D 149 tU:=tk (by kernel_rfl)
theorem Mf:shs D.toDcf 149=some ([.g,.g],2):=by kernel_rfl
theorem Ef:Kok D 150 tV:=tk (by kernel_rfl)
theorem Mg:shs D.toDcf 150=some ([.g],2):=by kernel_rfl
theorem Eg:Kok D 151 tW:=tk (by kernel_rfl)
theorem Mh:shs D.toDcf 151=some ([.c,.c],1):=by kernel_rfl
theorem Eh:Kok D 152 tX:=tk (by kernel_rfl)
theorem Mi:shs D.toDcf 152=some ([.g,.g],1):=by kernel_rfl
theorem Ei:Kok D 153 tY:=tk (by kernel_rfl)
theorem Mj:shs D.toDcf 153=some ([.g],1):=by kernel_rfl
theorem Ej:Kok D 154 tZ:=tk (by kernel_rfl)
theorem Mk:shs D.toDcf 154=some ([.c,.c],1):=by kernel_rfl
theorem Ek:Kok D 155 t6:=tk (by kernel_rfl)
theorem Ml:shs D.toDcf 155=some ([.c,.g],1):=by kernel_rfl
theorem k156_ok:Kok D 156 k156:=tk (by kernel_rfl)
theorem s156:shs D.toDcf 156=some ([.g,.g,.c,.c],1):=by kernel_rfl
theorem Em:Kok D 157 t7:=tk (by kernel_rfl)
theorem Mm:shs D.toDcf 157=some ([.g],1):=by kernel_rfl
theorem En:Kok D 163 t8:=tk (by kernel_rfl)
theorem Mn:shs D.toDcf 163=some ([.c,.c],1):=by kernel_rfl
theorem Eo:Kok D 165 ug:=tk (by kernel_rfl)
theorem Mo:shs D.toDcf 165=some ([.c,.c],1):=by kernel_rfl
theorem Ep:Kok D 167 uh:=tk (by kernel_rfl)
theorem Mp:shs D.toDcf 167=some ([.g],1):=by kernel_rfl
theorem Er:Kok D 168 ui:=tk (by kernel_rfl)
theorem Mq:shs D.toDcf 168=some ([.g,.c],1):=by kernel_rfl
theorem Es:Kok D 169 uj:=tk (by kernel_rfl)
theorem Mr:shs D.toDcf 169=some ([.g,.c],1):=by kernel_rfl
theorem Et:Kok D 170 BI:=tk (by kernel_rfl)
theorem Ms:shs D.toDcf 170=some ([.c],1):=by kernel_rfl
theorem Eu:Kok D 171 ul:=tk (by kernel_rfl)
theorem Mu:shs D.toDcf 171=some ([.g],1):=by kernel_rfl
theorem Ev:Kok D 172 um:=tk (by kernel_rfl)
theorem Mv:shs D.toDcf 172=some ([.c],1):=by kernel_rfl
theorem Ew:Kok D 173 uo:=tk (by kernel_rfl)
theorem Mw:shs D.toDcf 173=some ([.g,.c],1):=by kernel_rfl
theorem Ex:Kok D 174 uq:=tk (by kernel_rfl)
theorem Mx:shs D.toDcf 174=some ([.c],1):=by kernel_rfl
theorem Ey:Kok D 175 ur:=tk (by kernel_rfl)
theorem My:shs D.toDcf 175=some ([.g,.g,.g],1):=by kernel_rfl
theorem Ez:Kok D 176 ut:=tk (by kernel_rfl)
theorem Mz:shs D.toDcf 176=some ([.g],1):=by kernel_rfl
theorem EA:Kok D 177 uu:=tk (by kernel_rfl)
theorem MA:shs D.toDcf 177=some ([.g,.g],1):=by kernel_rfl
theorem EB:Kok D 178 uv:=tk (by kernel_rfl)
theorem MB:shs D.toDcf 178=some ([.g],1):=by kernel_rfl
theorem EC:Kok D 179 ux:=tk (by kernel_rfl)
theorem MC:shs D.toDcf 179=some ([.g,.g],1):=by kernel_rfl
theorem ED:Kok D 180 uy:=tk (by kernel_rfl)
theorem MD:shs D.toDcf 180=some ([.g,.c],1):=by kernel_rfl
theorem EE:Kok D 184 uz:=tk (by kernel_rfl)
theorem ME:shs D.toDcf 184=some ([.c,.c],1):=by kernel_rfl
theorem k192_ok:Kok D 192 k192:=tk (by kernel_rfl)
theorem s192:shs D.toDcf 192=some ([.g,.g,.c,.c],1):=by kernel_rfl
theorem EF:Kok D 206 uA:=tk (by kernel_rfl)
theorem MF:shs D.toDcf 206=some ([.g],1):=by kernel_rfl
theorem EG:Kok D 207 uB:=tk (by kernel_rfl)
theorem MG:shs D.toDcf 207=some ([.g],1):=by kernel_rfl
theorem EH:Kok D 208 uC:=tk (by kernel_rfl)
theorem MH:shs D.toDcf 208=some ([.g],1):=by kernel_rfl
theorem EI:Kok D 209 uD:=tk (by kernel_rfl)
theorem MI:shs D.toDcf 209=some ([.g],1):=by kernel_rfl
theorem EJ:Kok D 210 uE:=tk (by kernel_rfl)
theorem MJ:shs D.toDcf 210=some ([.g,.g],1):=by kernel_rfl
theorem EK:Kok D 211 uF:=tk (by kernel_rfl)
theorem MK:shs D.toDcf 211=some ([.c,.c],1):=by kernel_rfl
theorem EL:Kok D 212 uG:=tk (by kernel_rfl)
theorem ML:shs D.toDcf 212=some ([.g,.g],1):=by kernel_rfl
theorem EN:Kok D 213 uH:=tk (by kernel_rfl)
theorem MM:shs D.toDcf 213=some ([.c,.c],1):=by kernel_rfl
theorem EO:Kok D 215 uI:=tk (by kernel_rfl)
theorem MN:shs D.toDcf 215=some ([.g],1):=by kernel_rfl
theorem k217_ok:Kok D 217 k217:=tk (by kernel_rfl)
theorem s217:shs D.toDcf 217=some ([.g,.g,.c],2):=by kernel_rfl
theorem EQ:Kok D 218 uJ:=tk (by kernel_rfl)
theorem MO:shs D.toDcf 218=some ([.g,.g,.c],2):=by kernel_rfl
theorem ER:Kok D 220 uK:=tk (by kernel_rfl)
theorem MP:shs D.toDcf 220=some ([.g,.g],2):=by kernel_rfl
theorem kC:Kok D 221 kR:=tk (by kernel_rfl)
theorem A6:shs D.toDcf 221=some ([.c,.g,.c,.c,.c,.c],1):=by kernel_rfl
theorem ES:Kok D 222 uL:=tk (by kernel_rfl)
theorem MQ:shs D.toDcf 222=some ([.c,.c],1):=by kernel_rfl
theorem ET:Kok D 223 uM:=tk (by kernel_rfl)
theorem MS:shs D.toDcf 223=some ([.c],1):=by kernel_rfl
theorem EU:Kok D 224 uN:=tk (by kernel_rfl)
theorem MU:shs D.toDcf 224=some ([.g,.g],1):=by kernel_rfl
theorem EW:Kok D 227 uO:=tk (by kernel_rfl)
theorem MV:shs D.toDcf 227=some ([.g,.g,.c],2):=by kernel_rfl
theorem EX:Kok D 229 uP:=tk (by kernel_rfl)
theorem MW:shs D.toDcf 229=some ([.g,.g],1):=by kernel_rfl
theorem k230_ok:Kok D 230 k230:=tk (by kernel_rfl)
theorem s230:shs D.toDcf 230=some ([.g,.g],1):=by kernel_rfl
theorem EY:Kok D 231 uQ:=tk (by kernel_rfl)
theorem MX:shs D.toDcf 231=some ([.g],1):=by kernel_rfl
theorem k232_ok:Kok D 232 k232:=tk (by kernel_rfl)
theorem s232:shs D.toDcf 232=some ([.c],2):=by kernel_rfl
theorem EZ:Kok D 234 uR:=tk (by kernel_rfl)
theorem MY:shs D.toDcf 234=some ([.c,.c],1):=by kernel_rfl
theorem k238_ok:Kok D 238 k238:=tk (by kernel_rfl)
theorem s238:shs D.toDcf 238=some ([.g,.g],3):=by kernel_rfl
theorem E0:Kok D 239 uS:=tk (by kernel_rfl)
theorem MZ:shs D.toDcf 239=some ([.g],1):=by kernel_rfl
theorem E3:Kok D 240 uT:=tk (by kernel_rfl)
theorem M0:shs D.toDcf 240=some ([.g,.g,.c],1):=by kernel_rfl
theorem E4:Kok D 241 uU:=tk (by kernel_rfl)
theorem M1:shs D.toDcf 241=some ([.c],1):=by kernel_rfl
theorem E5:Kok D 242 uV:=tk (by kernel_rfl)
theorem M2:shs D.toDcf 242=some ([.g,.c],1):=by kernel_rfl
theorem E6:Kok D 243 uW:=tk (by kernel_rfl)
theorem M3:shs D.toDcf 243=some ([.g,.g,.g],1):=by kernel_rfl
theorem E7:Kok D 244 uX:=tk (by kernel_rfl)
theorem M4:shs D.toDcf 244=some ([.g],1):=by kernel_rfl
theorem E8:Kok D 245 uY:=tk (by kernel_rfl)
theorem M5:shs D.toDcf 245=some ([.g],1):=by kernel_rfl
theorem E9:Kok D 246 uZ:=tk (by kernel_rfl)
theorem M6:shs D.toDcf 246=some ([.g,.g,.g],3):=by kernel_rfl
theorem Fa:Kok D 247 u7:=tk (by kernel_rfl)
theorem M7:shs D.toDcf 247=some ([.c,.g],1):=by kernel_rfl
theorem Fb:Kok D 248 u9:=tk (by kernel_rfl)
theorem M8:shs D.toDcf 248=some ([.g,.c],2):=by kernel_rfl
theorem Fc:Kok D 249 vb:=tk (by kernel_rfl)
theorem M9:shs D.toDcf 249=some ([.g,.g,.g],2):=by kernel_rfl
theorem Fe:Kok D 250 vd:=tk (by kernel_rfl)
theorem Na:shs D.toDcf 250=some ([.c],1):=by kernel_rfl
theorem Ff:Kok D 258 vg:=tk (by kernel_rfl)
theorem Nb:shs D.toDcf 258=some ([.g],1):=by kernel_rfl
theorem Fg:Kok D 259 vk:=tk (by kernel_rfl)
theorem Nc:shs D.toDcf 259=some ([.g,.g],1):=by kernel_rfl
theorem Fh:Kok D 260 vl:=tk (by kernel_rfl)
theorem Nd:shs D.toDcf 260=some ([.g],1):=by kernel_rfl
theorem k261_ok:Kok D 261 k261:=tk (by kernel_rfl)
theorem s261:shs D.toDcf 261=some ([.g,.g,.g],2):=by kernel_rfl
theorem k262_ok:Kok D 262 k262:=tk (by kernel_rfl)
theorem s262:shs D.toDcf 262=some ([.g,.g],2):=by kernel_rfl
theorem Fi:Kok D 263 vn:=tk (by kernel_rfl)
theorem Nf:shs D.toDcf 263=some ([.g,.g],1):=by kernel_rfl
theorem k264_ok:Kok D 264 k264:=tk (by kernel_rfl)
theorem s264:shs D.toDcf 264=some ([.g,.g,.g],1):=by kernel_rfl
theorem Fj:Kok D 265 vo:=tk (by kernel_rfl)
theorem Ng:shs D.toDcf 265=some ([.c],1):=by kernel_rfl
theorem Fk:Kok D 266 vp:=tk (by kernel_rfl)
theorem Nh:shs D.toDcf 266=some ([.g,.c],1):=by kernel_rfl
theorem Fl:Kok D 267 vq:=tk (by kernel_rfl)
theorem Ni:shs D.toDcf 267=some ([.g,.g,.c,.c],1):=by kernel_rfl
theorem Fm:Kok D 268 vr:=tk (by kernel_rfl)
theorem Nj:shs D.toDcf 268=some ([.g,.g],1):=by kernel_rfl
theorem kD:Kok D 269 kS:=tk (by kernel_rfl)
theorem A7:shs D.toDcf 269=some ([.c,.c,.c],1):=by kernel_rfl
theorem Fo:Kok D 270 vt:=tk (by kernel_rfl)
theorem Nk:shs D.toDcf 270=some ([.g],1):=by kernel_rfl
theorem Fq:Kok D 271 vu:=tk (by kernel_rfl)
theorem Nl:shs D.toDcf 271=some ([.g,.c],2):=by kernel_rfl
theorem Fr:Kok D 277 vw:=tk (by kernel_rfl)
theorem Nn:shs D.toDcf 277=some ([.c,.c],2):=by kernel_rfl
theorem k280_ok:Kok D 280 k280:=tk (by kernel_rfl)
theorem s280:shs D.toDcf 280=some ([.g,.g,.c,.c],1):=by kernel_rfl
theorem k281_ok:Kok D 281 k281:=tk (by kernel_rfl)
theorem s281:shs D.toDcf 281=some ([.g,.c],2):=by kernel_rfl
theorem Fs:Kok D 285 vz:=tk (by kernel_rfl)
theorem No:shs D.toDcf 285=some ([.g],1):=by kernel_rfl
theorem Ft:Kok D 286 vA:=tk (by kernel_rfl)
theorem Np:shs D.toDcf 286=some ([.g],1):=by kernel_rfl
theorem Fu:Kok D 287 vB:=tk (by kernel_rfl)
theorem Nq:shs D.toDcf 287=some ([.c],1):=by kernel_rfl
theorem Fv:Kok D 288 vC:=tk (by kernel_rfl)
theorem Nr:shs D.toDcf 288=some ([.c,.c],1):=by kernel_rfl
theorem Fw:Kok D 289 vD:=tk (by kernel_rfl)
theorem Ns:shs D.toDcf 289=some ([.c,.c],2):=by kernel_rfl
theorem Fx:Kok D 291 vE:=tk (by kernel_rfl)
theorem Nt:shs D.toDcf 291=some ([.c],1):=by kernel_rfl
theorem Fy:Kok D 292 vF:=tk (by kernel_rfl)
theorem Nu:shs D.toDcf 292=some ([.c],1):=by kernel_rfl
theorem Fz:Kok D 293 vG:=tk (by kernel_rfl)
theorem Nv:shs D.toDcf 293=some ([.c],1):=by kernel_rfl
theorem FA:Kok D 294 vH:=tk (by kernel_rfl)
theorem Nw:shs D.toDcf 294=some ([.c],1):=by kernel_rfl
theorem FB:Kok D 299 vI:=tk (by kernel_rfl)
theorem Ny:shs D.toDcf 299=some ([.g],1):=by kernel_rfl
theorem k300_ok:Kok D 300 k300:=tk (by kernel_rfl)
theorem s300:shs D.toDcf 300=some ([.g,.g],1):=by kernel_rfl
theorem FC:Kok D 301 vJ:=tk (by kernel_rfl)
theorem Nz:shs D.toDcf 301=some ([.g,.c],1):=by kernel_rfl
theorem FD:Kok D 302 vK:=tk (by kernel_rfl)
theorem NA:shs D.toDcf 302=some ([.g,.g,.c,.c],1):=by kernel_rfl
theorem k303_ok:Kok D 303 k303:=tk (by kernel_rfl)
theorem s303:shs D.toDcf 303=some ([.g,.g],1):=by kernel_rfl
theorem FE:Kok D 304 vL:=tk (by kernel_rfl)
theorem NB:shs D.toDcf 304=some ([.c,.c],1):=by kernel_rfl
theorem FF:Kok D 305 vM:=tk (by kernel_rfl)
theorem NC:shs D.toDcf 305=some ([.g],1):=by kernel_rfl
theorem FG:Kok D 306 vN:=tk (by kernel_rfl)
theorem ND:shs D.toDcf 306=some ([.g,.g],1):=by kernel_rfl
theorem k311_ok:Kok D 311 k311:=tk (by kernel_rfl)
theorem s311:shs D.toDcf 311=some ([.g,.g],3):=by kernel_rfl
theorem k312_ok:Kok D 312 k312:=tk (by kernel_rfl)
theorem s312:shs D.toDcf 312=some ([.g,.g],1):=by kernel_rfl
theorem FH:Kok D 313 BJ:=tk (by kernel_rfl)
theorem NE:shs D.toDcf 313=some ([.c,.c],1):=by kernel_rfl
theorem FI:Kok D 314 vO:=tk (by kernel_rfl)
theorem NF:shs D.toDcf 314=some ([.c],2):=by kernel_rfl
theorem FJ:Kok D 315 vP:=tk (by kernel_rfl)
theorem NG:shs D.toDcf 315=some ([.g,.c],1):=by kernel_rfl
theorem k317_ok:Kok D 317 k317:=tk (by kernel_rfl)
theorem s317:shs D.toDcf 317=some ([.g,.g,.c],3):=by kernel_rfl
theorem FK:Kok D 320 vQ:=tk (by kernel_rfl)
theorem NH:shs D.toDcf 320=some ([.g,.g],3):=by kernel_rfl
theorem FL:Kok D 321 vR:=tk (by kernel_rfl)
theorem NI:shs D.toDcf 321=some ([.g,.g,.c],1):=by kernel_rfl
theorem FM:Kok D 322 vS:=tk (by kernel_rfl)
theorem NJ:shs D.toDcf 322=some ([.c],1):=by kernel_rfl
theorem FN:Kok D 323 vT:=tk (by kernel_rfl)
theorem NK:shs D.toDcf 323=some ([.g,.g,.g],1):=by kernel_rfl
theorem FO:Kok D 324 vU:=tk (by kernel_rfl)
theorem NL:shs D.toDcf 324=some ([.g],1):=by kernel_rfl
theorem FQ:Kok D 325 vV:=tk (by kernel_rfl)
theorem NM:shs D.toDcf 325=some ([.g],1):=by kernel_rfl
theorem FR:Kok D 326 vW:=tk (by kernel_rfl)
theorem NN:shs D.toDcf 326=some ([.g,.g],1):=by kernel_rfl
theorem FS:Kok D 327 vX:=tk (by kernel_rfl)
theorem NO:shs D.toDcf 327=some ([.g,.g,.g],3):=by kernel_rfl
theorem FU:Kok D 328 vY:=tk (by kernel_rfl)
theorem NQ:shs D.toDcf 328=some ([.g,.g,.g],1):=by kernel_rfl
theorem FV:Kok D 329 vZ:=tk (by kernel_rfl)
theorem NR:shs D.toDcf 329=some ([.g,.g,.g],1):=by kernel_rfl
theorem FW:Kok D 344 v6:=tk (by kernel_rfl)
theorem NS:shs D.toDcf 344=some ([.g],1):=by kernel_rfl
theorem FX:Kok D 345 v7:=tk (by kernel_rfl)
theorem NT:shs D.toDcf 345=some ([.g],1):=by kernel_rfl
theorem FY:Kok D 346 v8:=tk (by kernel_rfl)
theorem NU:shs D.toDcf 346=some ([.g],1):=by kernel_rfl
theorem FZ:Kok D 347 wa:=tk (by kernel_rfl)
theorem NV:shs D.toDcf 347=some ([.g,.g],1):=by kernel_rfl
theorem F0:Kok D 348 wb:=tk (by kernel_rfl)
theorem NW:shs D.toDcf 348=some ([.g,.g,.g],2):=by kernel_rfl
theorem F1:Kok D 349 wc:=tk (by kernel_rfl)
theorem NX:shs D.toDcf 349=some ([.g,.g],1):=by kernel_rfl
theorem F3:Kok D 350 wd:=tk (by kernel_rfl)
theorem NY:shs D.toDcf 350=some ([.g,.g,.g,.c,.c,.c],2):=by kernel_rfl
theorem F4:Kok D 354 wg:=tk (by kernel_rfl)
theorem NZ:shs D.toDcf 354=some ([.c,.c],1):=by kernel_rfl
theorem F5:Kok D 359 wj:=tk (by kernel_rfl)
theorem N0:shs D.toDcf 359=some ([.c],1):=by kernel_rfl
theorem rA:Kok D 367 qc:=tk (by kernel_rfl)
theorem H6:shs D.toDcf 367=some ([.g,.c],2):=by kernel_rfl
theorem F6:Kok D 368 wl:=tk (by kernel_rfl)
theorem N1:shs D.toDcf 368=some ([.c,.c],1):=by kernel_rfl
theorem F7:Kok D 373 wm:=tk (by kernel_rfl)
theorem N2:shs D.toDcf 373=some ([.g],1):=by kernel_rfl
theorem k374_ok:Kok D 374 k374:=tk (by kernel_rfl)
theorem s374:shs D.toDcf 374=some ([.g,.g,.c],2):=by kernel_rfl
theorem F8:Kok D 375 wo:=tk (by kernel_rfl)
theorem N3:shs D.toDcf 375=some ([.g,.g],3):=by kernel_rfl
theorem F9:Kok D 376 wq:=tk (by kernel_rfl)
theorem N4:shs D.toDcf 376=some ([.c,.c],1):=by kernel_rfl
theorem Ga:Kok D 378 wv:=tk (by kernel_rfl)
theorem N5:shs D.toDcf 378=some ([.g],1):=by kernel_rfl
theorem k382_ok:Kok D 382 k382:=tk (by kernel_rfl)
theorem s382:shs D.toDcf 382=some ([.g],3):=by kernel_rfl
theorem k384_ok:Kok D 384 k384:=tk (by kernel_rfl)
theorem s384:shs D.toDcf 384=some ([.g,.g,.g],1):=by kernel_rfl
theorem Gb:Kok D 386 ww:=tk (by kernel_rfl)
theorem N6:shs D.toDcf 386=some ([.c,.c],1):=by kernel_rfl
theorem Gc:Kok D 387 wx:=tk (by kernel_rfl)
theorem N7:shs D.toDcf 387=some ([.c],1):=by kernel_rfl
theorem k388_ok:Kok D 388 k388:=tk (by kernel_rfl)
theorem s388:shs D.toDcf 388=some ([.g,.g],2):=by kernel_rfl
theorem Ge:Kok D 389 wy:=tk (by kernel_rfl)
theorem N8:shs D.toDcf 389=some ([.g],1):=by kernel_rfl
theorem Gf:Kok D 395 wA:=tk (by kernel_rfl)
theorem N9:shs D.toDcf 395=some ([.c],1):=by kernel_rfl
theorem Gg:Kok D 396 wB:=tk (by kernel_rfl)
theorem Oa:shs D.toDcf 396=some ([.g,.g],1):=by kernel_rfl
theorem Gh:Kok D 397 wC:=tk (by kernel_rfl)
theorem Ob:shs D.toDcf 397=some ([.g,.g,.c,.c],1):=by kernel_rfl
theorem k409_ok:Kok D 409 k409:=tk (by kernel_rfl)
theorem s409:shs D.toDcf 409=some ([.g],2):=by kernel_rfl
theorem Gi:Kok D 412 wD:=tk (by kernel_rfl)
theorem Oc:shs D.toDcf 412=some ([.c],2):=by kernel_rfl
theorem Gj:Kok D 413 wE:=tk (by kernel_rfl)
theorem Od:shs D.toDcf 413=some ([.g],1):=by kernel_rfl
theorem kE:Kok D 414 kV:=tk (by kernel_rfl)
theorem A8:shs D.toDcf 414=some ([.g,.g],1):=by kernel_rfl
theorem Gk:Kok D 415 wF:=tk (by kernel_rfl)
theorem Oe:shs D.toDcf 415=some ([.c,.c],1):=by kernel_rfl
theorem k416_ok:Kok D 416 k416:=tk (by kernel_rfl)
theorem s416:shs D.toDcf 416=some ([.c,.c],2):=by kernel_rfl
theorem Gl:Kok D 419 wG:=tk (by kernel_rfl)
theorem Of:shs D.toDcf 419=some ([.c,.c],2):=by kernel_rfl
theorem Gm:Kok D 422 wH:=tk (by kernel_rfl)
theorem Og:shs D.toDcf 422=some ([.c],1):=by kernel_rfl
theorem Gn:Kok D 423 wI:=tk (by kernel_rfl)
theorem Oh:shs D.toDcf 423=some ([.g,.g],1):=by kernel_rfl
theorem Gp:Kok D 424 wJ:=tk (by kernel_rfl)
theorem Oi:shs D.toDcf 424=some ([.g,.c,.c],2):=by kernel_rfl
theorem Gq:Kok D 425 wK:=tk (by kernel_rfl)
theorem Oj:shs D.toDcf 425=some ([.c,.g,.g],2):=by kernel_rfl
end Go.Proofs.YtfghdmmapmdcgaaGreat
