import Derived.Test.YtfghdmmapmdcgaaGreatF1
import Derived.Test.YtfghdmmapmdcgaaGreatE1
import Derived.Test.YtfghdmmapmdcgaaGreatR1
import Derived.Test.YtfghdmmapmdcgaaGreatC3
set_option linter.unusedVariables false
set_option linter.unusedSimpArgs false
set_option linter.defProp false
noncomputable section
namespace Go.Proofs.YtfghdmmapmdcgaaGreat
open Go.Sym Bnd
set_option maxRecDepth 100000
open Classical in
theorem Qy {c:Clock}{es:List Crt}(h:ClkOk c)(hn0:In64 c.now)(hE:EdgOk c.pts es):den (PhiS D) 1001 k217 [] [CL c,F c.pts,sl crow es]=some (renewA es c):=by
 have hl:=h.2.1;have hlen:=hE.len;have m1:=phi (pP (gy h hn0) (gW_of h));rw[decide_eq_true h,show okE true=0 from rfl] at m1
 have m2:=phi (vN c.pts);rw[fD.2 hl] at m2;unfold k217;simp only[den_lt,shCL,shapeF,m1,m2,EV,decide_true,ak,ad,if_false,aa];refine(run_list (m:=1001) (l:=es) (p:=fun _=>true) (st:=fun i=>[.i64 (i:Int)]) (r:=none) (fin:=some (renewA es c)) (fun i x self hx _=>?_) (fun _ self=>?_) (by omega)).trans (if_pos (by simp))
 ·obtain⟨o1,o2,o3,o4,o5⟩:=hE.ok x (ah hx);unfold xD;simp only[den_lt,tixM hx (lenC _),eltM hx,rowC,cCP0,cCP1,EV,decide_eq_true_eq,if_lt (get_lt hx),gt_iff_lt,up1 (show i<1000000000 by have:=get_lt hx;omega)]
  rw[if_neg (by omega),if_neg (by omega),if_neg (by omega),if_neg (by omega),if_neg o5,if_pos trivial]
 ·unfold xD;simp only[EV,decide_eq_true_eq,if_ge];unfold GH;simp only[EV,aa];refine(run_list (m:=1001) (l:=es) (p:=fun _=>true) (st:=fun i=>[.i64 (i:Int)]) (r:=none) (fin:=some (renewA es c)) (fun i x self hx _=>?_) (fun _ self=>?_) (by omega)).trans (if_pos (by simp))
  ·have hn:x∉es.take i:=fun hm=>by
    obtain⟨j,hj⟩:=aA.1 hm;have hji:j<i:=by have:=get_lt hj;rw[aH] at this;omega
    rw[dB hji] at hj;have:=nodup_get.1 hE.nd j i x hj hx;omega
   have m3:=phi (c155 (l:=es.take i) x (by rw[aH];omega));rw[decide_eq_false hn] at m3;have hi:=get_lt hx;unfold xC;simp only[den_lt,tixM hx (lenC _),eltM hx,rowC,XE (show i≤es.length by omega),Sq (show i≤es.length by omega),m3,EV,aa,decide_eq_true_eq,if_lt hi,ad,if_false,if_true,up1 (show i<1000000000 by omega)]
  ·unfold xC;simp only[EV,decide_eq_true_eq,if_ge];unfold GG;simp only[EV,aa];refine(run_list (m:=1001) (l:=es) (p:=fun _=>true) (st:=fun i=>[.i64 (i:Int)]) (r:=none) (fin:=some (renewA es c)) (fun i x self hx _=>?_) (fun _ self=>?_) (by omega)).trans (if_pos (by simp))
   ·obtain⟨a,p,a1,a2,_⟩:=Kq hl (hE.low x (ah hx));obtain⟨b,q,b1,b2,_⟩:=Kq hl (hE.high x (ah hx));have n1:=phi (c248 hl a1);have n2:=phi (c248 hl b1);rw[a2] at n1;rw[b2] at n2;unfold k217_2;simp only[den_lt,tixM hx (lenC _),eltM hx,rowC,cCP0,cCP1,n1,n2,shPt,EV,aa,decide_eq_true_eq,if_lt (get_lt hx),decide_true,ak,ad,if_false,if_true,up1 (show i<1000000000 by have:=get_lt hx;omega)]
   ·unfold k217_2;simp only[EV,decide_eq_true_eq,if_ge];unfold GF;have m4:=phi (Kx h hn0 ⟨hE.ok,hE.low,hE.high⟩ (by omega));have pz:RF.ev (.part 0 11) [CLz]=some CLz:=rfl;unfold renewA at m4⊢;cases hr:renewC es c with
    |none=>
     rw[hr] at m4;simp only[EV,den_lt,phi (c299 (cs_of h)),m4,shCLz,pz]
    |some d=>
     rw[hr] at m4;simp only[EV,den_lt,phi (c299 (cs_of h)),m4,shCL,pCL11]
theorem Bw {c:Clock}{es:List Crt}(h:ClkOk c)(hn:In64 c.now)(hE:EdgOk c.pts es):Ans D 217 [CL c,F c.pts,sl crow es] (renewA es c):=by
 have key:=Qy h hn hE;unfold renewA at key⊢;cases hr:renewC es c with
 |none=>rw[hr] at key;exact ans_of k217_ok s217 rfl ⟨1001,key⟩
 |some d=>rw[hr] at key;exact ans_of k217_ok s217 rfl ⟨1001,key⟩
def KTz:PV:= .agg [.i64 0,.i64 0,.sl [],.i64 0,.sl [],.sl [],.sl [],.sl [],.sl [],.sl [],.sl [],.sl [],.sl []]
def HTz:PV:= .agg [.i64 0,.i64 0,.sl [],.i64 0,.sl [],.sl [],.sl [],.sl [],.sl [],.sl [],.sl [],.i64 0,.sl []]
def KHz:PV:= .agg [.i64 0,.i64 0,.sl [],.i64 0,.sl [],.sl [],.sl [],.sl [],.sl [],.sl [],.sl [],.sl []]
theorem aggKTz:RF.ev .agg [.i64 0,.i64 0,.sl [],.i64 0,.sl [],.sl [],.sl [],.sl [],.sl [],.sl [],.sl [],.sl [],.sl []]=some KTz:=rfl
theorem aggHTz:RF.ev .agg [.i64 0,.i64 0,.sl [],.i64 0,.sl [],.sl [],.sl [],.sl [],.sl [],.sl [],.sl [],.i64 0,.sl []]=some HTz:=rfl
theorem aggKHz:RF.ev .agg [.i64 0,.i64 0,.sl [],.i64 0,.sl [],.sl [],.sl [],.sl [],.sl [],.sl [],.sl [],.sl []]=some KHz:=rfl
def setTo (c:Clock)(pl:List Int):List PV:=match renewC (edsB (bracketOf c.now c.pts pl).wins pl (bracketOf c.now c.pts pl).wins.length) c with
 |some d=>[KT ⟨d,bracketOf c.now c.pts pl⟩,.i64 0]
 |none=>[KTz,.i64 18]
def setHt (c:Clock):List PV:=match renewC (edgsT (cart c.now c.pts).nodes c.pts.length) c with
 |some d=>[HT ⟨d,cart c.now c.pts⟩,.i64 0]
 |none=>[HTz,.i64 18]
def setHg (c:Clock):List PV:=match renewC (edgesU c.pts (upsO c.now c.pts)) c with
 |some d=>[KH ⟨d,upsO c.now c.pts⟩,.i64 0]
 |none=>[KHz,.i64 18]
theorem g18:(!decide ((18:Int)=0))=true:=rfl
section
variable {c:Clock}(h:ClkOk c)(hn:In64 c.now)
include h hn
theorem SJ {pl:List Int}(h1:1≤pl.length)(h2:pl.length≤64)(hv: ∀x∈pl,valK c.pts x)(ho:dO pl):Ans D 122 [CL c,F c.pts,sl I1 pl] (setTo c pl):=by
 have hl:=h.2.1;have hE:=oP (t:=c.now) hl h1 h2 hv ho;have m1:PhiS D 123 [F c.pts,R c.now,sl I1 pl]=some [BR (bracketOf c.now c.pts pl),sl crow (edsB (bracketOf c.now c.pts pl).wins pl (bracketOf c.now c.pts pl).wins.length)]:=phi (IZ hl hn h.1 h1 h2 hv ho rfl);have m2:=phi (Bw h hn hE);unfold renewA at m2;unfold setTo;cases hr:renewC (edsB (bracketOf c.now c.pts pl).wins pl (bracketOf c.now c.pts pl).wins.length) c with
 |none=>
  rw[hr] at m2;refine ans_of k122_ok s122 rfl ⟨1,?_⟩;unfold k122;simp only[den_lt,shCL,shapeF,pCL0,m1,shBR,m2,EV,shCLz,g18,if_true,aggKTz]
 |some d=>
  rw[hr] at m2;refine ans_of k122_ok s122 rfl ⟨1,?_⟩;unfold k122;simp only[den_lt,shCL,shapeF,pCL0,m1,shBR,m2,EV,decide_true,ak,ad,if_false,pCL11,pBR2,aggKT]
theorem SK {pl:List Int}(h1:1≤pl.length)(h2:pl.length≤64)(hv: ∀x∈pl,valK c.pts x)(ho:dO pl):Ans D 145 [CL c,F c.pts,sl I1 pl] (setTo c pl):=by
 have hl:=h.2.1;have hE:=oP (t:=c.now) hl h1 h2 hv ho;obtain⟨b1,b2,b3⟩:=gI (t:=c.now) hl h1 h2 hv ho;have mb:=phi (Qe (b:=bracketOf c.now c.pts pl) (by rw[b1];show pl.length=_;omega) (by show pl.length≤70;omega) (fun i hi=>(b2.2 i hi).1) (fun j=>jl hl (brk_val (b:=bracketOf c.now c.pts pl) b2 hv j)))
 have mb:PhiS D 176 [BR (bracketOf c.now c.pts pl)]=some [sl crow (edsB (bracketOf c.now c.pts pl).wins pl (bracketOf c.now c.pts pl).wins.length)]:=mb;have m2:=phi (vk h hn ⟨hE.ok,hE.low,hE.high⟩ (by have:=hE.len;omega));unfold renewA at m2;unfold setTo;cases hr:renewC (edsB (bracketOf c.now c.pts pl).wins pl (bracketOf c.now c.pts pl).wins.length) c with
 |none=>
  rw[hr] at m2;refine ans_of k145_ok s145 rfl ⟨1,?_⟩;unfold k145;simp only[den_lt,shCL,shapeF,pCL0,phi (c240 hl hn h1 h2 hv),shBR,mb,m2,EV,shCLz,g18,if_true,aggKTz]
 |some d=>
  rw[hr] at m2;refine ans_of k145_ok s145 rfl ⟨1,?_⟩;unfold k145;simp only[den_lt,shCL,shapeF,pCL0,phi (c240 hl hn h1 h2 hv),shBR,mb,m2,EV,decide_true,ak,ad,if_false,pCL11,pBR2,aggKT]
theorem SM:Ans D 124 [CL c,F c.pts] (setHt c):=by
 have hl:=h.2.1;have hE:=qG (t:=c.now) hl;have m2:=phi (Bw h hn hE);unfold renewA at m2;unfold setHt;cases hr:renewC (edgsT (cart c.now c.pts).nodes c.pts.length) c with
 |none=>
  rw[hr] at m2;refine ans_of k124_ok s124 rfl ⟨1,?_⟩;unfold k124;simp only[den_lt,shCL,shapeF,pCL0,phi (c125 hl hn h.1 (cart_one hl) (cart_lt hl)),shTR,m2,EV,shCLz,g18,if_true,aggHTz]
 |some d=>
  rw[hr] at m2;refine ans_of k124_ok s124 rfl ⟨1,?_⟩;unfold k124;simp only[den_lt,shCL,shapeF,pCL0,phi (c125 hl hn h.1 (cart_one hl) (cart_lt hl)),shTR,m2,EV,decide_true,ak,ad,if_false,pCL11,pTR2,aggHT]
theorem SN:Ans D 148 [CL c,F c.pts] (setHt c):=by
 have hl:=h.2.1;have hE:=qG (t:=c.now) hl;have mb:=phi (Qb (x:=cart c.now c.pts) (cart_one hl) (by rw[cart_len hl];have:=hl.1;omega));rw[cart_len hl] at mb;have m2:=phi (vk h hn ⟨hE.ok,hE.low,hE.high⟩ (by have:=hE.len;omega));unfold renewA at m2;unfold setHt;cases hr:renewC (edgsT (cart c.now c.pts).nodes c.pts.length) c with
 |none=>
  rw[hr] at m2;refine ans_of k148_ok s148 rfl ⟨1,?_⟩;unfold k148;simp only[den_lt,shCL,shapeF,pCL0,phi (c177 hl hn),shTR,mb,m2,EV,shCLz,g18,if_true,aggHTz]
 |some d=>
  rw[hr] at m2;refine ans_of k148_ok s148 rfl ⟨1,?_⟩;unfold k148;simp only[den_lt,shCL,shapeF,pCL0,phi (c177 hl hn),shTR,mb,m2,EV,decide_true,ak,ad,if_false,pCL11,pTR2,aggHT]
theorem SO:Ans D 126 [CL c,F c.pts] (setHg c):=by
 have hl:=h.2.1;have hE:=qF (t:=c.now) hl;have m2:=phi (Bw h hn hE);unfold renewA at m2;unfold setHg;cases hr:renewC (edgesU c.pts (upsO c.now c.pts)) c with
 |none=>
  rw[hr] at m2;refine ans_of k126_ok s126 rfl ⟨1,?_⟩;unfold k126;simp only[den_lt,shCL,shapeF,pCL0,phi (c127 hl hn h.1),m2,EV,shCLz,g18,if_true,aggKHz]
 |some d=>
  rw[hr] at m2;refine ans_of k126_ok s126 rfl ⟨1,?_⟩;unfold k126;simp only[den_lt,shCL,shapeF,pCL0,phi (c127 hl hn h.1),m2,EV,decide_true,ak,ad,if_false,pCL11,aggKH]
theorem SP:Ans D 149 [CL c,F c.pts] (setHg c):=by
 have hl:=h.2.1;have hE:=qF (t:=c.now) hl;have m2:=phi (vk h hn ⟨hE.ok,hE.low,hE.high⟩ (by have:=hE.len;omega));unfold renewA at m2;unfold setHg;cases hr:renewC (edgesU c.pts (upsO c.now c.pts)) c with
 |none=>
  rw[hr] at m2;refine ans_of k149_ok s149 rfl ⟨1,?_⟩;unfold k149;simp only[den_lt,shCL,shapeF,pCL0,phi (c179 hl hn),phi (c180 (l:=c.pts) (up:=upsO c.now c.pts) (ups_len c.now c.pts).symm (by have:=hl.1;omega)),m2,EV,shCLz,g18,if_true,aggKHz]
 |some d=>
  rw[hr] at m2;refine ans_of k149_ok s149 rfl ⟨1,?_⟩;unfold k149;simp only[den_lt,shCL,shapeF,pCL0,phi (c179 hl hn),phi (c180 (l:=c.pts) (up:=upsO c.now c.pts) (ups_len c.now c.pts).symm (by have:=hl.1;omega)),m2,EV,decide_true,ak,ad,if_false,pCL11,aggKH]
end
theorem mn {l:List Pt}(h:okF l):EdgH l fun t=>edgesU l (upsO t l):=⟨fun t _ _=>let q:=qF (t:=t) h;⟨q.ok,q.low,q.high⟩,fun t _ _ x hx=>(eu h hx).2.2⟩
theorem mo {l:List Pt}(h:okF l):EdgH l fun t=>edgsT (cart t l).nodes l.length:=⟨fun t _ _=>let q:=qG (t:=t) h;⟨q.ok,q.low,q.high⟩,fun t _ _ x hx=>(fH h hx).2.2⟩
theorem kq {l:List Pt}{pl:List Int}(h:okF l)(h1:1≤pl.length)(h2:pl.length≤64)(hv: ∀x∈pl,valK l x)(ho:dO pl):EdgH l fun t=>edsB (bracketOf t l pl).wins pl (bracketOf t l pl).wins.length:=
 ⟨fun t _ _=>let q:=oP (t:=t) h h1 h2 hv ho;⟨q.ok,q.low,q.high⟩,fun t _ _ x hx=>let⟨_,b2,b3⟩:=gI (t:=t) h h1 h2 hv ho;(iG (b:=bracketOf t l pl) h b2 hv b3 hx).2.2⟩
theorem aggKHs (c:Clock)(u:List Int):RF.ev .agg [CL c,sl I1 u]=some (KH ⟨c,u⟩):=rfl
theorem bsCr (x:Crt):RF.ev (.bs 1 [KP.z,KP.z] [0]) [CP x]=some (sl crow [x]):=rfl
theorem subCr (x:Crt):RF.ev .sub [sl crow [x],.v (.int .i64 0),.v (.int .i64 1)]=some (sl crow [x]):=rfl
theorem cKHn (k:KHeap):RF.ev (.cell 11) [KH k]=some (sl I1 k.heap):=rfl
section
variable (k:KHeap)
theorem cH0:RF.ev (.cell 0) [KH k]=some (.i64 k.clock.now.num):=rfl
theorem cH1:RF.ev (.cell 1) [KH k]=some (.i64 k.clock.now.den):=rfl
theorem cH2:RF.ev (.cell 2) [KH k]=some (sl row k.clock.pts):=rfl
theorem cH3:RF.ev (.cell 3) [KH k]=some (.i64 k.clock.certs.next):=rfl
theorem cH4:RF.ev (.cell 4) [KH k]=some (sl hrow k.clock.certs.list):=rfl
theorem cH5:RF.ev (.cell 5) [KH k]=some (sl I1 k.clock.agenda.slots.uses):=rfl
theorem cH6:RF.ev (.cell 6) [KH k]=some (sl B1 k.clock.agenda.slots.used):=rfl
theorem cH7:RF.ev (.cell 7) [KH k]=some (sl I1 k.clock.agenda.slots.free):=rfl
theorem cH8:RF.ev (.cell 8) [KH k]=some (sl erow k.clock.agenda.heap):=rfl
theorem cH9:RF.ev (.cell 9) [KH k]=some (sl I1 k.clock.agenda.wher):=rfl
theorem cH10:RF.ev (.cell 10) [KH k]=some (sl bF k.clock.due):=rfl
end
theorem shKHz:RF.ev (.shape 12) [KHz]=some KHz:=rfl
theorem Fv {N:Nat}{f:JT}{l:List Pt}{t:Rt}(hl:okF l)(hr:rok t=true)(ht:In64 t){e0 e1 e2 e4 e5 e6 e7 e8 e9 e10 e11:PV}: ∀(n m:Nat) (c:Clock) (out:List Crt) (r:Option (Clock×List Crt)),n≤m→out.length+n≤1000000→Stl l c→crs c.now t≤0→adv (fun t=>edgesU l (upsO t l)) t n c out=some r→
  denW (PhiS D) N k48_2 [f] [e0,e1,e2,R t,e4,e5,e6,e7,e8,e9,e10,e11] m (stC c++[sl I1 (upsO c.now l),sl crow out,.i64 (out.length:Int)])=match r with
   |some (d,out')=>f (sl crow out':: .i64 (out'.length:Int)::(stC d++[sl I1 (upsO d.now l)]))
   |none=>some [KHz,.sl [],.i64 18]
 |0,m,c,out,r,hm,ho,h,hp,ha=>by cases ha
 |n+1,m,c,out,r,hm,ho,h,hp,ha=>by
  obtain⟨m,rfl⟩: ∃m',m=m'+1:=⟨m-1,by omega⟩;rw[denW_succ];unfold adv at ha;cases he:ee c t with
  |none=>
   rw[he] at ha;cases ha;have m1:=phi (vg h.ok h.n64 hr ht hp (nextE_none he));have g6:(!decide ((6:Int)=0))=true:=rfl;unfold k48_2;simp only[stC,ay,ax,EV,den_lt,aggCL,m1,shCLz,shEP,shCPt,g6,if_true]
  |some e=>
   obtain⟨n1,n2,n3⟩:=cC he;obtain⟨i,x,hi,hxe,hce,hf⟩:=eB h.ok n1;obtain⟨f1,f2⟩:=ea h.ok n1 h.n64;have hpt:(bY c e).pts=l:=h.pts;have hnow:(bY c e).now=e.time:=rfl;have m1:=phi (Bt h.ok h.n64 hr ht hp n1 n3 hi hxe);have m2:=phi (SO f1 f2);unfold setHg at m2;rw[hpt,hnow] at m2;rw[he] at ha;simp only at ha;cases hd:renewC (edgesU l (upsO e.time l)) (bY c e) with
   |none=>
    rw[hd] at ha m2;cases ha;unfold k48_2;simp only[stC,ay,ax,EV,den_lt,aggCL,m1,shCL,shEP,shCPt,decide_true,ak,ad,if_false,pCL2,hpt,m2,shKHz,g18,if_true,aggKHz]
   |some d=>
    rw[hd] at ha m2;simp only at ha m2;obtain⟨s1,s2,s3⟩:=fK (mn hl) h n1 hd;have ap:=dc (f:=crow) (l:=out) (k:=[certE c e]) (bytes:=16) (z:=2) (by simp;omega) lenC;rw[hce] at ap ha;have ih:=Fv (N:=N) (f:=f) (l:=l) (t:=t) hl hr ht (e0:=e0) (e1:=e1) (e2:=e2) (e4:=e4) (e5:=e5) (e6:=e6) (e7:=e7) (e8:=e8) (e9:=e9) (e10:=e10) (e11:=e11) n m d (out++[x.cert]) r (by omega) (by rw[an,az];omega) s1 (by rw[s2];exact n2) ha;rw[s2] at ih;simp only[stC,ay,ax] at ih;refine bP ?_ ih;unfold k48_2;simp only[stC,ay,ax,EV,den_lt,aggCL,m1,shCL,shEP,shCPt,decide_true,ak,ad,if_false,pCL2,hpt,m2,shKH,bsCr,subCr,ap,aa,cH0,cH1,cH2,cH3,cH4,cH5,cH6,cH7,cH8,cH9,cH10,cKHn,s2]
theorem AE {N:Nat}{f:JT}{l:List Pt}{t:Rt}(hl:okF l)(hr:rok t=true)(ht:In64 t){e0 e1 e2:PV}: ∀(n m:Nat) (c:Clock) (out:List Crt) (r:Option (Clock×List Crt)),n≤m→out.length+n≤1000000→Stl l c→crs c.now t≤0→adv (fun t=>edgesU l (upsO t l)) t n c out=some r→
  denW (PhiS D) N k133_2 [f] [e0,e1,e2,R t] m (stC c++[sl I1 (upsO c.now l),sl crow out,.i64 (out.length:Int)])=match r with
   |some (d,out')=>f (sl crow out':: .i64 (out'.length:Int)::(stC d++[sl I1 (upsO d.now l)]))
   |none=>some [KHz,.sl [],.i64 18]
 |0,m,c,out,r,hm,ho,h,hp,ha=>by cases ha
 |n+1,m,c,out,r,hm,ho,h,hp,ha=>by
  obtain⟨m,rfl⟩: ∃m',m=m'+1:=⟨m-1,by omega⟩;rw[denW_succ];unfold adv at ha;cases he:ee c t with
  |none=>
   rw[he] at ha;cases ha;have m0:=phi (qH (c:=c) (gy h.ok h.n64) ht);rw[nextE_none he] at m0;unfold k133_2;simp only[stC,ay,ax,EV,den_lt,aggCL,m0,ad,if_false]
  |some e=>
   obtain⟨n1,n2,n3⟩:=cC he;obtain⟨i,x,hi,hxe,hce,hf⟩:=eB h.ok n1;obtain⟨f1,f2⟩:=ea h.ok n1 h.n64;have hpt:(bY c e).pts=l:=h.pts;have hnow:(bY c e).now=e.time:=rfl;have m0:=phi (qH (c:=c) (gy h.ok h.n64) ht);rw[n3] at m0;have m1:=phi (Bu h.ok h.n64 n1 hi hxe);have m2:=phi (SP f1 f2);unfold setHg at m2;rw[hpt,hnow] at m2;rw[he] at ha;simp only at ha;cases hd:renewC (edgesU l (upsO e.time l)) (bY c e) with
   |none=>
    rw[hd] at ha m2;cases ha;unfold k133_2;simp only[stC,ay,ax,EV,den_lt,aggCL,m0,if_true,m1,shCL,shEP,shCPt,decide_true,ak,ad,if_false,pCL2,hpt,m2,shKHz,g18,if_true,aggKHz]
   |some d=>
    rw[hd] at ha m2;simp only at ha m2;obtain⟨s1,s2,s3⟩:=fK (mn hl) h n1 hd;have ap:=dc (f:=crow) (l:=out) (k:=[certE c e]) (bytes:=16) (z:=2) (by simp;omega) lenC;rw[hce] at ap ha;have ih:=AE (N:=N) (f:=f) (l:=l) (t:=t) hl hr ht (e0:=e0) (e1:=e1) (e2:=e2) n m d (out++[x.cert]) r (by omega) (by rw[an,az];omega) s1 (by rw[s2];exact n2) ha;rw[s2] at ih;simp only[stC,ay,ax] at ih;refine bP ?_ ih;unfold k133_2;simp only[stC,ay,ax,EV,den_lt,aggCL,m0,if_true,m1,shCL,shEP,shCPt,decide_true,ak,ad,if_false,pCL2,hpt,m2,shKH,bsCr,subCr,ap,aa,cH0,cH1,cH2,cH3,cH4,cH5,cH6,cH7,cH8,cH9,cH10,cKHn,s2]
section
variable (k:Heater)
theorem cQ0:RF.ev (.cell 0) [HT k]=some (.i64 k.clock.now.num):=rfl
theorem cQ1:RF.ev (.cell 1) [HT k]=some (.i64 k.clock.now.den):=rfl
theorem cQ2:RF.ev (.cell 2) [HT k]=some (sl row k.clock.pts):=rfl
theorem cQ3:RF.ev (.cell 3) [HT k]=some (.i64 k.clock.certs.next):=rfl
theorem cQ4:RF.ev (.cell 4) [HT k]=some (sl hrow k.clock.certs.list):=rfl
theorem cQ5:RF.ev (.cell 5) [HT k]=some (sl I1 k.clock.agenda.slots.uses):=rfl
theorem cQ6:RF.ev (.cell 6) [HT k]=some (sl B1 k.clock.agenda.slots.used):=rfl
theorem cQ7:RF.ev (.cell 7) [HT k]=some (sl I1 k.clock.agenda.slots.free):=rfl
theorem cQ8:RF.ev (.cell 8) [HT k]=some (sl erow k.clock.agenda.heap):=rfl
theorem cQ9:RF.ev (.cell 9) [HT k]=some (sl I1 k.clock.agenda.wher):=rfl
theorem cQ10:RF.ev (.cell 10) [HT k]=some (sl bF k.clock.due):=rfl
theorem cQ11:RF.ev (.cell 11) [HT k]=some (.i64 k.tree.root):=rfl
theorem cQ12:RF.ev (.cell 12) [HT k]=some (sl nrow k.tree.nodes):=rfl
end
section
variable (k:KTourn)
theorem cY0:RF.ev (.cell 0) [KT k]=some (.i64 k.clock.now.num):=rfl
theorem cY1:RF.ev (.cell 1) [KT k]=some (.i64 k.clock.now.den):=rfl
theorem cY2:RF.ev (.cell 2) [KT k]=some (sl row k.clock.pts):=rfl
theorem cY3:RF.ev (.cell 3) [KT k]=some (.i64 k.clock.certs.next):=rfl
theorem cY4:RF.ev (.cell 4) [KT k]=some (sl hrow k.clock.certs.list):=rfl
theorem cY5:RF.ev (.cell 5) [KT k]=some (sl I1 k.clock.agenda.slots.uses):=rfl
theorem cY6:RF.ev (.cell 6) [KT k]=some (sl B1 k.clock.agenda.slots.used):=rfl
theorem cY7:RF.ev (.cell 7) [KT k]=some (sl I1 k.clock.agenda.slots.free):=rfl
theorem cY8:RF.ev (.cell 8) [KT k]=some (sl erow k.clock.agenda.heap):=rfl
theorem cY9:RF.ev (.cell 9) [KT k]=some (sl I1 k.clock.agenda.wher):=rfl
theorem cY10:RF.ev (.cell 10) [KT k]=some (sl bF k.clock.due):=rfl
theorem cY11:RF.ev (.cell 11) [KT k]=some (sl I1 k.brk.places):=rfl
theorem cY12:RF.ev (.cell 12) [KT k]=some (sl I1 k.brk.wins):=rfl
end
theorem shHTz:RF.ev (.shape 13) [HTz]=some HTz:=rfl
theorem shKTz:RF.ev (.shape 13) [KTz]=some KTz:=rfl
theorem Fw {N:Nat}{f:JT}{l:List Pt}{t:Rt}(hl:okF l)(hr:rok t=true)(ht:In64 t){e0 e1 e2 e4 e5 e6 e7 e8 e9 e10 e11:PV}: ∀(n m:Nat) (c:Clock) (out:List Crt) (r:Option (Clock×List Crt)),n≤m→out.length+n≤1000000→Stl l c→crs c.now t≤0→adv (fun t=>edgsT (cart t l).nodes l.length) t n c out=some r→
  denW (PhiS D) N k47_2 [f] [e0,e1,e2,R t,e4,e5,e6,e7,e8,e9,e10,e11] m (stC c++[.i64 (cart c.now l).root,sl nrow (cart c.now l).nodes,sl crow out,.i64 (out.length:Int)])=match r with
   |some (d,out')=>f (sl crow out':: .i64 (out'.length:Int)::(stC d++[.i64 (cart d.now l).root,sl nrow (cart d.now l).nodes]))
   |none=>some [HTz,.sl [],.i64 18]
 |0,m,c,out,r,hm,ho,h,hp,ha=>by cases ha
 |n+1,m,c,out,r,hm,ho,h,hp,ha=>by
  obtain⟨m,rfl⟩: ∃m',m=m'+1:=⟨m-1,by omega⟩;rw[denW_succ];unfold adv at ha;cases he:ee c t with
  |none=>
   rw[he] at ha;cases ha;have m1:=phi (vg h.ok h.n64 hr ht hp (nextE_none he));have g6:(!decide ((6:Int)=0))=true:=rfl;unfold k47_2;simp only[stC,ay,ax,EV,den_lt,aggCL,m1,shCLz,shEP,shCPt,g6,if_true]
  |some e=>
   obtain⟨n1,n2,n3⟩:=cC he;obtain⟨i,x,hi,hxe,hce,hf⟩:=eB h.ok n1;obtain⟨f1,f2⟩:=ea h.ok n1 h.n64;have hpt:(bY c e).pts=l:=h.pts;have hnow:(bY c e).now=e.time:=rfl;have m1:=phi (Bt h.ok h.n64 hr ht hp n1 n3 hi hxe);have m2:=phi (SM f1 f2);unfold setHt at m2;rw[hpt,hnow] at m2;rw[he] at ha;simp only at ha;cases hd:renewC (edgsT (cart e.time l).nodes l.length) (bY c e) with
   |none=>
    rw[hd] at ha m2;cases ha;unfold k47_2;simp only[stC,ay,ax,EV,den_lt,aggCL,m1,shCL,shEP,shCPt,decide_true,ak,ad,if_false,pCL2,hpt,m2,shHTz,g18,if_true,aggHTz]
   |some d=>
    rw[hd] at ha m2;simp only at ha m2;obtain⟨s1,s2,s3⟩:=fK (mo hl) h n1 hd;have ap:=dc (f:=crow) (l:=out) (k:=[certE c e]) (bytes:=16) (z:=2) (by simp;omega) lenC;rw[hce] at ap ha;have ih:=Fw (N:=N) (f:=f) (l:=l) (t:=t) hl hr ht (e0:=e0) (e1:=e1) (e2:=e2) (e4:=e4) (e5:=e5) (e6:=e6) (e7:=e7) (e8:=e8) (e9:=e9) (e10:=e10) (e11:=e11) n m d (out++[x.cert]) r (by omega) (by rw[an,az];omega) s1 (by rw[s2];exact n2) ha;rw[s2] at ih;simp only[stC,ay,ax] at ih;refine bP ?_ ih;unfold k47_2;simp only[stC,ay,ax,EV,den_lt,aggCL,m1,shCL,shEP,shCPt,decide_true,ak,ad,if_false,pCL2,hpt,m2,shHT,bsCr,subCr,ap,aa,cQ0,cQ1,cQ2,cQ3,cQ4,cQ5,cQ6,cQ7,cQ8,cQ9,cQ10,cQ11,cQ12,s2]
theorem AF {N:Nat}{f:JT}{l:List Pt}{t:Rt}(hl:okF l)(hr:rok t=true)(ht:In64 t){e0 e1 e2:PV}: ∀(n m:Nat) (c:Clock) (out:List Crt) (r:Option (Clock×List Crt)),n≤m→out.length+n≤1000000→Stl l c→crs c.now t≤0→adv (fun t=>edgsT (cart t l).nodes l.length) t n c out=some r→
  denW (PhiS D) N k132_2 [f] [e0,e1,e2,R t] m (stC c++[.i64 (cart c.now l).root,sl nrow (cart c.now l).nodes,sl crow out,.i64 (out.length:Int)])=match r with
   |some (d,out')=>f (sl crow out':: .i64 (out'.length:Int)::(stC d++[.i64 (cart d.now l).root,sl nrow (cart d.now l).nodes]))
   |none=>some [HTz,.sl [],.i64 18]
 |0,m,c,out,r,hm,ho,h,hp,ha=>by cases ha
 |n+1,m,c,out,r,hm,ho,h,hp,ha=>by
  obtain⟨m,rfl⟩: ∃m',m=m'+1:=⟨m-1,by omega⟩;rw[denW_succ];unfold adv at ha;cases he:ee c t with
  |none=>
   rw[he] at ha;cases ha;have m0:=phi (qH (c:=c) (gy h.ok h.n64) ht);rw[nextE_none he] at m0;unfold k132_2;simp only[stC,ay,ax,EV,den_lt,aggCL,m0,ad,if_false]
  |some e=>
   obtain⟨n1,n2,n3⟩:=cC he;obtain⟨i,x,hi,hxe,hce,hf⟩:=eB h.ok n1;obtain⟨f1,f2⟩:=ea h.ok n1 h.n64;have hpt:(bY c e).pts=l:=h.pts;have hnow:(bY c e).now=e.time:=rfl;have m0:=phi (qH (c:=c) (gy h.ok h.n64) ht);rw[n3] at m0;have m1:=phi (Bu h.ok h.n64 n1 hi hxe);have m2:=phi (SN f1 f2);unfold setHt at m2;rw[hpt,hnow] at m2;rw[he] at ha;simp only at ha;cases hd:renewC (edgsT (cart e.time l).nodes l.length) (bY c e) with
   |none=>
    rw[hd] at ha m2;cases ha;unfold k132_2;simp only[stC,ay,ax,EV,den_lt,aggCL,m0,if_true,m1,shCL,shEP,shCPt,decide_true,ak,ad,if_false,pCL2,hpt,m2,shHTz,g18,if_true,aggHTz]
   |some d=>
    rw[hd] at ha m2;simp only at ha m2;obtain⟨s1,s2,s3⟩:=fK (mo hl) h n1 hd;have ap:=dc (f:=crow) (l:=out) (k:=[certE c e]) (bytes:=16) (z:=2) (by simp;omega) lenC;rw[hce] at ap ha;have ih:=AF (N:=N) (f:=f) (l:=l) (t:=t) hl hr ht (e0:=e0) (e1:=e1) (e2:=e2) n m d (out++[x.cert]) r (by omega) (by rw[an,az];omega) s1 (by rw[s2];exact n2) ha;rw[s2] at ih;simp only[stC,ay,ax] at ih;refine bP ?_ ih;unfold k132_2;simp only[stC,ay,ax,EV,den_lt,aggCL,m0,if_true,m1,shCL,shEP,shCPt,decide_true,ak,ad,if_false,pCL2,hpt,m2,shHT,bsCr,subCr,ap,aa,cQ0,cQ1,cQ2,cQ3,cQ4,cQ5,cQ6,cQ7,cQ8,cQ9,cQ10,cQ11,cQ12,s2]
theorem Fx {N:Nat}{f:JT}{l:List Pt}{t:Rt}(hl:okF l)(hr:rok t=true)(ht:In64 t){pl:List Int}(h1:1≤pl.length)(h2:pl.length≤64)(hv: ∀x∈pl,valK l x)(hoc:dO pl){e0 e1 e2 e4 e5 e6 e7 e8 e9 e10 e11:PV}: ∀(n m:Nat) (c:Clock) (out:List Crt) (r:Option (Clock×List Crt)),n≤m→out.length+n≤1000000→Stl l c→crs c.now t≤0→adv (fun t=>edsB (bracketOf t l pl).wins pl (bracketOf t l pl).wins.length) t n c out=some r→
  denW (PhiS D) N k46_2 [f] [e0,e1,e2,R t,e4,e5,e6,e7,e8,e9,e10,e11] m (stC c++[sl I1 pl,sl I1 (bracketOf c.now l pl).wins,sl crow out,.i64 (out.length:Int)])=match r with
   |some (d,out')=>f (sl crow out':: .i64 (out'.length:Int)::(stC d++[sl I1 pl,sl I1 (bracketOf d.now l pl).wins]))
   |none=>some [KTz,.sl [],.i64 18]
 |0,m,c,out,r,hm,ho,h,hp,ha=>by cases ha
 |n+1,m,c,out,r,hm,ho,h,hp,ha=>by
  obtain⟨m,rfl⟩: ∃m',m=m'+1:=⟨m-1,by omega⟩;rw[denW_succ];unfold adv at ha;cases he:ee c t with
  |none=>
   rw[he] at ha;cases ha;have m1:=phi (vg h.ok h.n64 hr ht hp (nextE_none he));have g6:(!decide ((6:Int)=0))=true:=rfl;unfold k46_2;simp only[stC,ay,ax,EV,den_lt,aggCL,m1,shCLz,shEP,shCPt,g6,if_true]
  |some e=>
   obtain⟨n1,n2,n3⟩:=cC he;obtain⟨i,x,hi,hxe,hce,hf⟩:=eB h.ok n1;obtain⟨f1,f2⟩:=ea h.ok n1 h.n64;have hpt:(bY c e).pts=l:=h.pts;have hnow:(bY c e).now=e.time:=rfl;have m1:=phi (Bt h.ok h.n64 hr ht hp n1 n3 hi hxe);have m2:=phi (SJ f1 f2 h1 h2 (fun x hx=>by rw[hpt];exact hv x hx) hoc);unfold setTo at m2;rw[hpt,hnow] at m2;rw[he] at ha;simp only at ha;cases hd:renewC (edsB (bracketOf e.time l pl).wins pl (bracketOf e.time l pl).wins.length) (bY c e) with
   |none=>
    rw[hd] at ha m2;cases ha;unfold k46_2;simp only[stC,ay,ax,EV,den_lt,aggCL,m1,shCL,shEP,shCPt,decide_true,ak,ad,if_false,pCL2,hpt,m2,shKTz,g18,if_true,aggKTz]
   |some d=>
    rw[hd] at ha m2;simp only at ha m2;obtain⟨s1,s2,s3⟩:=fK (kq hl h1 h2 hv hoc) h n1 hd;have ap:=dc (f:=crow) (l:=out) (k:=[certE c e]) (bytes:=16) (z:=2) (by simp;omega) lenC;rw[hce] at ap ha;have ih:=Fx (N:=N) (f:=f) (l:=l) (t:=t) hl hr ht h1 h2 hv hoc (e0:=e0) (e1:=e1) (e2:=e2) (e4:=e4) (e5:=e5) (e6:=e6) (e7:=e7) (e8:=e8) (e9:=e9) (e10:=e10) (e11:=e11) n m d (out++[x.cert]) r (by omega) (by rw[an,az];omega) s1 (by rw[s2];exact n2) ha;rw[s2] at ih;simp only[stC,ay,ax] at ih;refine bP ?_ ih;unfold k46_2;simp only[stC,ay,ax,EV,den_lt,aggCL,m1,shCL,shEP,shCPt,decide_true,ak,ad,if_false,pCL2,hpt,m2,shKT,bsCr,subCr,ap,aa,cY0,cY1,cY2,cY3,cY4,cY5,cY6,cY7,cY8,cY9,cY10,cY11,cY12,s2];rfl
theorem AH {N:Nat}{f:JT}{l:List Pt}{t:Rt}(hl:okF l)(hr:rok t=true)(ht:In64 t){pl:List Int}(h1:1≤pl.length)(h2:pl.length≤64)(hv: ∀x∈pl,valK l x)(hoc:dO pl){e0 e1 e2:PV}: ∀(n m:Nat) (c:Clock) (out:List Crt) (r:Option (Clock×List Crt)),n≤m→out.length+n≤1000000→Stl l c→crs c.now t≤0→adv (fun t=>edsB (bracketOf t l pl).wins pl (bracketOf t l pl).wins.length) t n c out=some r→
  denW (PhiS D) N k131_2 [f] [e0,e1,e2,R t] m (stC c++[sl I1 pl,sl I1 (bracketOf c.now l pl).wins,sl crow out,.i64 (out.length:Int)])=match r with
   |some (d,out')=>f (sl crow out':: .i64 (out'.length:Int)::(stC d++[sl I1 pl,sl I1 (bracketOf d.now l pl).wins]))
   |none=>some [KTz,.sl [],.i64 18]
 |0,m,c,out,r,hm,ho,h,hp,ha=>by cases ha
 |n+1,m,c,out,r,hm,ho,h,hp,ha=>by
  obtain⟨m,rfl⟩: ∃m',m=m'+1:=⟨m-1,by omega⟩;rw[denW_succ];unfold adv at ha;cases he:ee c t with
  |none=>
   rw[he] at ha;cases ha;have m0:=phi (qH (c:=c) (gy h.ok h.n64) ht);rw[nextE_none he] at m0;unfold k131_2;simp only[stC,ay,ax,EV,den_lt,aggCL,m0,ad,if_false]
  |some e=>
   obtain⟨n1,n2,n3⟩:=cC he;obtain⟨i,x,hi,hxe,hce,hf⟩:=eB h.ok n1;obtain⟨f1,f2⟩:=ea h.ok n1 h.n64;have hpt:(bY c e).pts=l:=h.pts;have hnow:(bY c e).now=e.time:=rfl;have m0:=phi (qH (c:=c) (gy h.ok h.n64) ht);rw[n3] at m0;have m1:=phi (Bu h.ok h.n64 n1 hi hxe);have m2:=phi (SK f1 f2 h1 h2 (fun x hx=>by rw[hpt];exact hv x hx) hoc);unfold setTo at m2;rw[hpt,hnow] at m2;rw[he] at ha;simp only at ha;cases hd:renewC (edsB (bracketOf e.time l pl).wins pl (bracketOf e.time l pl).wins.length) (bY c e) with
   |none=>
    rw[hd] at ha m2;cases ha;unfold k131_2;simp only[stC,ay,ax,EV,den_lt,aggCL,m0,if_true,m1,shCL,shEP,shCPt,decide_true,ak,ad,if_false,pCL2,hpt,m2,shKTz,g18,if_true,aggKTz]
   |some d=>
    rw[hd] at ha m2;simp only at ha m2;obtain⟨s1,s2,s3⟩:=fK (kq hl h1 h2 hv hoc) h n1 hd;have ap:=dc (f:=crow) (l:=out) (k:=[certE c e]) (bytes:=16) (z:=2) (by simp;omega) lenC;rw[hce] at ap ha;have ih:=AH (N:=N) (f:=f) (l:=l) (t:=t) hl hr ht h1 h2 hv hoc (e0:=e0) (e1:=e1) (e2:=e2) n m d (out++[x.cert]) r (by omega) (by rw[an,az];omega) s1 (by rw[s2];exact n2) ha;rw[s2] at ih;simp only[stC,ay,ax] at ih;refine bP ?_ ih;unfold k131_2;simp only[stC,ay,ax,EV,den_lt,aggCL,m0,if_true,m1,shCL,shEP,shCPt,decide_true,ak,ad,if_false,pCL2,hpt,m2,shKT,bsCr,subCr,ap,aa,cY0,cY1,cY2,cY3,cY4,cY5,cY6,cY7,cY8,cY9,cY10,cY11,cY12,s2];rfl
theorem Bx (c:Clock):RF.ev (.part 0 10) [CL c]=some (.agg ((clC c).take 10)):=rfl
theorem Fy (c:Clock)(u:List Int):RF.ev .agg [.agg ((clC c).take 10),sl bF c.due,sl I1 u]=some (KH ⟨c,u⟩):=rfl
theorem Qz (c:Clock)(b:Brk):RF.ev .agg [.agg ((clC c).take 10),sl bF c.due,BR b]=some (KT ⟨c,b⟩):=rfl
theorem QA (c:Clock)(b:Tree):RF.ev .agg [.agg ((clC c).take 10),sl bF c.due,TR b]=some (HT ⟨c,b⟩):=rfl
theorem c39 {k:KHeap}(h:CSm k.clock)(hh:k.heap.length≤1000):Ans D 39 [KH k] [KH k]:=by
 have s0:=nG k.clock;refine ans_of Pj s39 rfl ⟨1,?_⟩;unfold k39;simp only[den_lt,shKH,pKH,phi (c112 h),shCL,cCL10,cKH,ed (l:=k.heap) (f:=I1) (bytes:=8) (z:=1) (by omega) lenI,EV,aa,subM,Bx,s0,Fy]
theorem c42 {k:KHeap}(h:CSm k.clock)(hh:k.heap.length≤1000):Ans D 42 [KH k] [KH k]:=by
 have s0:=nG k.clock;refine ans_of Pm s42 rfl ⟨1,?_⟩;unfold k42;simp only[den_lt,shKH,pKH,phi (c112 h),shCL,cCL10,cKH,ed (l:=k.heap) (f:=I1) (bytes:=8) (z:=1) (by omega) lenI,EV,aa,subM,Bx,s0,Fy]
theorem XY {b:Brk}(h1:b.places.length≤1000)(h2:b.wins.length≤1000):Ans D 113 [BR b] [BR b]:=by
 refine ans_of LC TD rfl ⟨1,?_⟩;unfold BT;simp only[den_lt,shBR,iD,cBR1,ed (l:=b.places) (f:=I1) (bytes:=8) (z:=1) (by omega) lenI,ed (l:=b.wins) (f:=I1) (bytes:=8) (z:=1) (by omega) lenI,EV,aa,subM];rfl
theorem XZ {x:Tree}(h:x.nodes.length≤1000):Ans D 114 [TR x] [TR x]:=by
 refine ans_of LD TE rfl ⟨1,?_⟩;unfold BU;simp only[den_lt,shTR,cTR0,cTR1,ed (l:=x.nodes) (f:=nrow) (bytes:=24) (z:=3) (by omega) lenN,EV,aa,subM];rfl
theorem c40 {k:KTourn}(h:CSm k.clock)(h1:k.brk.places.length≤1000)(h2:k.brk.wins.length≤1000):Ans D 40 [KT k] [KT k]:=by
 have s0:=nG k.clock;refine ans_of Pk s40 rfl ⟨1,?_⟩;unfold k40;simp only[den_lt,shKT,pKT,phi (c112 h),shCL,cCL10,pKTb,phi (XY h1 h2),shBR,pBR2,EV,aa,Bx,s0,Qz]
theorem c41 {k:Heater}(h:CSm k.clock)(h1:k.tree.nodes.length≤1000):Ans D 41 [HT k] [HT k]:=by
 have s0:=nG k.clock;refine ans_of Pl s41 rfl ⟨1,?_⟩;unfold k41;simp only[den_lt,shHT,pHT,phi (c112 h),shCL,cCL10,pHTt,phi (XZ h1),shTR,pTR2,EV,aa,Bx,s0,QA]
theorem rG {c:Clock}(h:gCl c=false):CSm c:=by
 unfold gCl gF gAg gSl at h;simp only[aY,iA,decide_eq_false_iff_not] at h;obtain⟨⟨⟨h1,h2⟩,h3,h4⟩,⟨⟨⟨h5,h6⟩,h7⟩,h8⟩,h9⟩:=h;exact⟨by omega,by omega,⟨⟨by omega,by omega,by omega⟩,by omega,by omega⟩,by omega⟩
theorem c14 {c:Choice}(h:gCh c=false):Ans D 14 [CHO c] [CHO c]:=by
 unfold gCh gKh gKt gHt at h;simp only[aY,decide_eq_false_iff_not] at h;obtain⟨⟨⟨⟨a1,a2⟩,b1,b2,b3⟩,d1,d2⟩,e1,e2⟩:=h;have p12: ∀k:KHeap,RF.ev (.part 0 12) [KH k]=some (KH k):=fun _=>rfl;have p13: ∀k:KTourn,RF.ev (.part 0 13) [KT k]=some (KT k):=fun _=>rfl;have p14: ∀k:Heater,RF.ev (.part 0 13) [HT k]=some (HT k):=fun _=>rfl;have ag:RF.ev .agg [.v (.int .u8 c.tag),KH c.heap,KT c.tourn,HT c.heater,KH c.hanger]=some (CHO c):=rfl;refine ans_of O9 s14 rfl ⟨1,?_⟩;unfold k14;simp only[den_lt,shCH,pCH1,pCH2,pCH3,pCH4,phi (c39 (rG a1) (by omega)),phi (c40 (rG b1) (by omega) (by omega)),phi (c41 (rG d1) (by omega)),phi (c42 (rG e1) (by omega)),shKH,shKT,shHT,cCH,p12,p13,p14,EV,ag]
theorem c12 (l:List Pt):Ans D 12 [F l] [.bool (decide (10<l.length))]:=by
 have e:decide ((10:Int)<(l.length:Int))=decide (10<l.length):=aV.2 (by omega);refine ans_of O7 s12 rfl ⟨1,?_⟩;unfold k12;simp only[den_lt,shapeF,cellF,EV,aa,gt_iff_lt,e]
theorem Fz (l k:List Pt):(l.flatMap fun p=>k.map fun q=>(p,q)).length=l.length*k.length:=by
 induction l with
 |nil=>simp
 |cons a l ih=>rw[df,an,aa,ih,aD,bw];omega
theorem uA {l:List Pt}(h:okF l)(t:Rt):flips t l<5000:=by
 have h1:flips t l≤(ob l).length:=mX;have h2:(ob l).length=l.length*l.length:=Fz l l;have h3:l.length*l.length≤64*64:=dx h.1 h.1;omega
def fq (E:Rt→List Crt)(t:Rt)(c:Clock):Option (Clock×List Crt):=(adv E t 5000 c []).getD none
theorem gJ {l:List Pt}{E:Rt→List Crt}(hl:okF l)(hE:EdgH l E){t:Rt}{c:Clock}(h:Stl l c):adv E t 5000 c []=some (fq E t c):=by
 obtain⟨r,hr⟩:=zZ hE (t:=t) 5000 c [] h (uA hl _);unfold fq;rw[hr];rfl
theorem f6 {l:List Pt}{E:Rt→List Crt}(hE:EdgH l E){t:Rt}: ∀(n:Nat) (c:Clock) (out:List Crt) (d:Clock) (out':List Crt),Stl l c→crs c.now t≤0→adv E t n c out=some (some (d,out'))→Stl l d∧crs d.now t≤0∧waits d t=false∧(d=c∨ ∀y∈d.certs.list,y.cert∈E d.now)∧out'.length≤out.length+n
 |0,c,out,d,out',_,_,h=>by cases h
 |n+1,c,out,d,out',h,hp,ha=>by
  unfold adv at ha;cases he:ee c t with
  |none=>
   rw[he] at ha;cases ha;exact⟨h,hp,nextE_none he,.inl rfl,by omega⟩
  |some e=>
   rw[he] at ha;simp only at ha;cases hd:renewC (E e.time) (bY c e) with
   |none=>rw[hd] at ha;cases ha
   |some d0=>
    rw[hd] at ha;simp only at ha;obtain⟨n1,n2,_⟩:=cC he;obtain⟨s1,s2,s3⟩:=fK hE h n1 hd;obtain⟨q1,q2,q3,q4,q5⟩:=f6 hE n d0 _ d out' s1 (by rw[s2];exact n2) ha;refine⟨q1,q2,q3,.inr ?_,by rw[an,az] at q5;omega⟩;rcases q4 with q4|q4
    ·subst q4;obtain⟨f1,f2⟩:=ea h.ok n1 h.n64;have hr:=(h.ok.2.2.2.1.2.2.1 e (ah n1)).1;have hpt:(bY c e).pts=l:=h.pts;rw[s2];exact pJ (by rw[hpt];exact hE.ok _ hr f2) f1 f2 hd
    ·exact q4
def goU (k:KHeap)(t:Rt):List PV:=match fq (fun t=>edgesU k.clock.pts (upsO t k.clock.pts)) t k.clock with
 |some (d,out)=>[KH ⟨atC d t,upsO t k.clock.pts⟩,sl crow out,.i64 0]
 |none=>[KHz,.sl [],.i64 18]
theorem c48 {k:KHeap}{t:Rt}(hchk:Ans D 80 [KH k] [.i64 0])(h:Stl k.clock.pts k.clock)(hu:k.heap=upsO k.clock.now k.clock.pts)(hr:rok t=true)(ht:In64 t)(hp:crs k.clock.now t≤0):Ans D 48 [KH k,R t] (goU k t):=by
 have hl:=h.ok.2.1;have hE:=mn hl;have ha:=gJ hl hE (t:=t) h;have m1:=phi hchk;have m2:=phi (c43 ht);rw[hr,show okE true=0 from rfl] at m2
 have m3:=phi (kw ht h.n64);rw[hr,h.ok.1] at m3;have ng:¬sgn (crs t k.clock.now)<0:=by
  have:=crs_neg t k.clock.now;unfold sgn;rw[if_neg (by omega)];split<;>omega
 have pR0:RF.ev (.part 0 2) [KH k]=some (R k.clock.now):=rfl;have key:den (PhiS D) 5001 k48 [] [KH k,R t]=some (goU k t):=by
  unfold k48;simp only[den_lt,shKH,shRt,m1,m2,EV,decide_true,ak,ad,if_false,pR0,m3,bV,if_true,ng,decide_false,cH0,cH1,cH2,cH3,cH4,cH5,cH6,cH7,cH8,cH9,cH10,cKHn,hu];refine(Fv (N:=5001) hl hr ht 5000 5001 k.clock [] _ (by omega) (by simp) h hp ha).trans ?_;unfold goU;cases hg:fq (fun t=>edgesU k.clock.pts (upsO t k.clock.pts)) t k.clock with
  |none=>rfl
  |some z=>
   obtain⟨d,out⟩:=z;rw[hg] at ha;obtain⟨q1,q2,q3,_,q5⟩:=f6 hE 5000 k.clock [] d out h hp ha;have m4:=phi (Bv q1.ok q1.n64 hr ht q2 q3);have fp:(atC d t).pts=k.clock.pts:=q1.pts;have s0:=subM (f:=crow) (l:=out);unfold KX;simp only[stC,ay,ax,EV,den_lt,aggCL,m4,shCL,pCL2,fp,phi (c127 hl ht hr),pCL11,aggKHs,s0]
 unfold goU at key⊢;cases hg:fq (fun t=>edgesU k.clock.pts (upsO t k.clock.pts)) t k.clock with
 |none=>rw[hg] at key;exact ans_of k48_ok s48 rfl ⟨5001,key⟩
 |some z=>rw[hg] at key;exact ans_of k48_ok s48 rfl ⟨5001,key⟩
theorem qI {l:List Pt}{es:List Crt}{d:Clock}{t:Rt}(h:Stl l d)(hr:rok t=true)(hp:crs d.now t≤0)(hw:waits d t=false)(ha: ∀x∈es,∃y∈d.certs.list,y.cert=x): ∀x∈es,leads t (ptOf l x.high) (ptOf l x.low)=true:=fun x hx=>by
 obtain⟨y,hy,e⟩:=ha x hx;have:=Kb h.ok hr hp hw hy (h.holds y hy);rw[h.pts,e] at this;exact this
theorem X3 {k:KHeap}{t:Rt}(h:Stl k.clock.pts k.clock)(hu:k.heap=upsO k.clock.now k.clock.pts)(hall: ∀x∈edgesU k.clock.pts (upsO k.clock.now k.clock.pts),∃y∈k.clock.certs.list,y.cert=x)(hr:rok t=true)(ht:In64 t)(hp:crs k.clock.now t≤0):Ans D 133 [KH k,R t] (goU k t):=by
 have hl:=h.ok.2.1;have hE:=mn hl;have ha:=gJ hl hE (t:=t) h;have key:den (PhiS D) 5001 wO [] [KH k,R t]=some (goU k t):=by
  unfold wO;simp only[den_lt,shKH,shRt,EV,cH0,cH1,cH2,cH3,cH4,cH5,cH6,cH7,cH8,cH9,cH10,cKHn,hu];refine(AE (N:=5001) hl hr ht 5000 5001 k.clock [] _ (by omega) (by simp) h hp ha).trans ?_;unfold goU;cases hg:fq (fun t=>edgesU k.clock.pts (upsO t k.clock.pts)) t k.clock with
  |none=>rfl
  |some z=>
   obtain⟨d,out⟩:=z;rw[hg] at ha;obtain⟨q1,q2,q3,_,q5⟩:=f6 hE 5000 k.clock [] d out h hp ha;have hs:=qe hE 5000 k.clock [] d out h hall ha;have same:=Kc (t:=d.now) (t':=t) hl (qI q1 hr q2 q3 hs);have s0:=subM (f:=crow) (l:=out);have hul:(upsO d.now k.clock.pts).length≤1000:=by unfold upsO;rw[aa];have:=hl.1;omega
   have s1:=subM (f:=I1) (l:=upsO d.now k.clock.pts);unfold F1;simp only[stC,ay,ax,EV,den_lt,aggCL,phi (c228 (cs_of q1.ok) (t:=t)),shCL,pCL11,ed (l:=upsO d.now k.clock.pts) (f:=I1) (bytes:=8) (z:=1) (by omega) lenI,aa,s1,aggKHs,s0,same]
 unfold goU at key⊢;cases hg:fq (fun t=>edgesU k.clock.pts (upsO t k.clock.pts)) t k.clock with
 |none=>rw[hg] at key;exact ans_of k133_ok s133 rfl ⟨5001,key⟩
 |some z=>rw[hg] at key;exact ans_of k133_ok s133 rfl ⟨5001,key⟩
def goH (k:Heater)(t:Rt):List PV:=match fq (fun t=>edgsT (cart t k.clock.pts).nodes k.clock.pts.length) t k.clock with
 |some (d,out)=>[HT ⟨atC d t,cart t k.clock.pts⟩,sl crow out,.i64 0]
 |none=>[HTz,.sl [],.i64 18]
theorem Ky (x:Tree):RF.ev (.shape 2) [TR x]=some (TR x):=rfl
theorem c47 {k:Heater}{t:Rt}(hchk:Ans D 79 [HT k] [.i64 0])(h:Stl k.clock.pts k.clock)(hu:k.tree=cart k.clock.now k.clock.pts)(hr:rok t=true)(ht:In64 t)(hp:crs k.clock.now t≤0):Ans D 47 [HT k,R t] (goH k t):=by
 have hl:=h.ok.2.1;have hE:=mo hl;have ha:=gJ hl hE (t:=t) h;have m1:=phi hchk;have m2:=phi (c43 ht);rw[hr,show okE true=0 from rfl] at m2
 have m3:=phi (kw ht h.n64);rw[hr,h.ok.1] at m3;have ng:¬sgn (crs t k.clock.now)<0:=by
  have:=crs_neg t k.clock.now;unfold sgn;rw[if_neg (by omega)];split<;>omega
 have pR0:RF.ev (.part 0 2) [HT k]=some (R k.clock.now):=rfl;have key:den (PhiS D) 5001 k47 [] [HT k,R t]=some (goH k t):=by
  unfold k47;simp only[den_lt,shHT,shRt,m1,m2,EV,decide_true,ak,ad,if_false,pR0,m3,bV,if_true,ng,decide_false,cQ0,cQ1,cQ2,cQ3,cQ4,cQ5,cQ6,cQ7,cQ8,cQ9,cQ10,cQ11,cQ12,hu];refine(Fw (N:=5001) hl hr ht 5000 5001 k.clock [] _ (by omega) (by simp) h hp ha).trans ?_;unfold goH;cases hg:fq (fun t=>edgsT (cart t k.clock.pts).nodes k.clock.pts.length) t k.clock with
  |none=>rfl
  |some z=>
   obtain⟨d,out⟩:=z;rw[hg] at ha;obtain⟨q1,q2,q3,_,q5⟩:=f6 hE 5000 k.clock [] d out h hp ha;have m4:=phi (Bv q1.ok q1.n64 hr ht q2 q3);have fp:(atC d t).pts=k.clock.pts:=q1.pts;have s0:=subM (f:=crow) (l:=out);unfold KW;simp only[stC,ay,ax,EV,den_lt,aggCL,m4,shCL,pCL2,fp,phi (c125 hl ht hr (cart_one hl) (cart_lt hl)),Ky,pTR2,pCL11,aggHT,s0]
 unfold goH at key⊢;cases hg:fq (fun t=>edgsT (cart t k.clock.pts).nodes k.clock.pts.length) t k.clock with
 |none=>rw[hg] at key;exact ans_of k47_ok s47 rfl ⟨5001,key⟩
 |some z=>rw[hg] at key;exact ans_of k47_ok s47 rfl ⟨5001,key⟩
theorem Oh (c:Clock)(x:Tree):RF.ev .agg [.i64 c.now.num,.i64 c.now.den,sl row c.pts,.i64 c.certs.next,sl hrow c.certs.list,sl I1 c.agenda.slots.uses,sl B1 c.agenda.slots.used,sl I1 c.agenda.slots.free,sl erow c.agenda.heap,sl I1 c.agenda.wher,sl bF c.due,.i64 x.root,sl nrow x.nodes]=some (HT ⟨c,x⟩):=rfl
theorem Oi (c:Clock)(b:Brk):RF.ev .agg [.i64 c.now.num,.i64 c.now.den,sl row c.pts,.i64 c.certs.next,sl hrow c.certs.list,sl I1 c.agenda.slots.uses,sl B1 c.agenda.slots.used,sl I1 c.agenda.slots.free,sl erow c.agenda.heap,sl I1 c.agenda.wher,sl bF c.due,sl I1 b.places,sl I1 b.wins]=some (KT ⟨c,b⟩):=rfl
theorem Kz (x:Brk):RF.ev (.shape 2) [BR x]=some (BR x):=rfl
theorem X4 {k:Heater}{t:Rt}(h:Stl k.clock.pts k.clock)(hu:k.tree=cart k.clock.now k.clock.pts)(hall: ∀x∈edgsT (cart k.clock.now k.clock.pts).nodes k.clock.pts.length,∃y∈k.clock.certs.list,y.cert=x)(hr:rok t=true)(ht:In64 t)(hp:crs k.clock.now t≤0):Ans D 132 [HT k,R t] (goH k t):=by
 have hl:=h.ok.2.1;have hE:=mo hl;have ha:=gJ hl hE (t:=t) h;have key:den (PhiS D) 5001 wN [] [HT k,R t]=some (goH k t):=by
  unfold wN;simp only[den_lt,shHT,shRt,EV,cQ0,cQ1,cQ2,cQ3,cQ4,cQ5,cQ6,cQ7,cQ8,cQ9,cQ10,cQ11,cQ12,hu];refine(AF (N:=5001) hl hr ht 5000 5001 k.clock [] _ (by omega) (by simp) h hp ha).trans ?_;unfold goH;cases hg:fq (fun t=>edgsT (cart t k.clock.pts).nodes k.clock.pts.length) t k.clock with
  |none=>rfl
  |some z=>
   obtain⟨d,out⟩:=z;rw[hg] at ha;obtain⟨q1,q2,q3,_,q5⟩:=f6 hE 5000 k.clock [] d out h hp ha;have hs:=qe hE 5000 k.clock [] d out h hall ha;have same:=Fa (t:=d.now) (t':=t) hl (qI q1 hr q2 q3 hs);have s0:=subM (f:=crow) (l:=out);have m5:=phi (c41 (k:=⟨d,cart d.now k.clock.pts⟩) (cs_of q1.ok) (by show(cart d.now k.clock.pts).nodes.length≤1000;rw[cart_len hl];have:=hl.1;omega))
   unfold F0;simp only[stC,ay,ax,EV,den_lt,Oh,m5,shHT,pHT,phi (c228 (cs_of q1.ok) (t:=t)),pHTt,shCL,Ky,pCL11,pTR2,aggHT,s0,same]
 unfold goH at key⊢;cases hg:fq (fun t=>edgsT (cart t k.clock.pts).nodes k.clock.pts.length) t k.clock with
 |none=>rw[hg] at key;exact ans_of k132_ok s132 rfl ⟨5001,key⟩
 |some z=>rw[hg] at key;exact ans_of k132_ok s132 rfl ⟨5001,key⟩
def edT (l:List Pt)(pl:List Int)(t:Rt):List Crt:=edsB (bracketOf t l pl).wins pl (bracketOf t l pl).wins.length
def goT (k:KTourn)(t:Rt):List PV:=match fq (edT k.clock.pts k.brk.places) t k.clock with
 |some (d,out)=>[KT ⟨atC d t,bracketOf t k.clock.pts k.brk.places⟩,sl crow out,.i64 0]
 |none=>[KTz,.sl [],.i64 18]
section
variable {k:KTourn}{t:Rt}(h:Stl k.clock.pts k.clock)(hu:k.brk=bracketOf k.clock.now k.clock.pts k.brk.places)(h1:1≤k.brk.places.length)(h2:k.brk.places.length≤64)(hv: ∀x∈k.brk.places,valK k.clock.pts x)(ho:dO k.brk.places)(hr:rok t=true)(ht:In64 t)(hp:crs k.clock.now t≤0)
include h hu h1 h2 hv ho hr ht hp
theorem c46 (hchk:Ans D 78 [KT k] [.i64 0]):Ans D 46 [KT k,R t] (goT k t):=by
 have hl:=h.ok.2.1;have hE:=kq hl h1 h2 hv ho;have ha:=gJ hl hE (t:=t) h;have m1:=phi hchk;have m2:=phi (c43 ht);rw[hr,show okE true=0 from rfl] at m2
 have m3:=phi (kw ht h.n64);rw[hr,h.ok.1] at m3;have ng:¬sgn (crs t k.clock.now)<0:=by
  have:=crs_neg t k.clock.now;unfold sgn;rw[if_neg (by omega)];split<;>omega
 have pR0:RF.ev (.part 0 2) [KT k]=some (R k.clock.now):=rfl;have hw:k.brk.wins=(bracketOf k.clock.now k.clock.pts k.brk.places).wins:=congrArg Brk.wins hu;have key:den (PhiS D) 5001 k46 [] [KT k,R t]=some (goT k t):=by
  unfold k46;simp only[den_lt,shKT,shRt,m1,m2,EV,decide_true,ak,ad,if_false,pR0,m3,bV,if_true,ng,decide_false,cY0,cY1,cY2,cY3,cY4,cY5,cY6,cY7,cY8,cY9,cY10,cY11,cY12];rw[hw];refine(Fx (N:=5001) hl hr ht h1 h2 hv ho 5000 5001 k.clock [] _ (by omega) (by simp) h hp ha).trans ?_;unfold goT;have e:edT k.clock.pts k.brk.places=fun t=>edsB (bracketOf t k.clock.pts k.brk.places).wins k.brk.places (bracketOf t k.clock.pts k.brk.places).wins.length:=rfl;rw[e];cases hg:fq (fun t=>edsB (bracketOf t k.clock.pts k.brk.places).wins k.brk.places (bracketOf t k.clock.pts k.brk.places).wins.length) t k.clock with
  |none=>rfl
  |some z=>
   obtain⟨d,out⟩:=z;rw[hg] at ha;obtain⟨q1,q2,q3,_,q5⟩:=f6 hE 5000 k.clock [] d out h hp ha;have m4:=phi (Bv q1.ok q1.n64 hr ht q2 q3);have fp:(atC d t).pts=k.clock.pts:=q1.pts;have s0:=subM (f:=crow) (l:=out);have m6:PhiS D 123 [F k.clock.pts,R t,sl I1 k.brk.places]=some [BR (bracketOf t k.clock.pts k.brk.places),sl crow (edsB (bracketOf t k.clock.pts k.brk.places).wins k.brk.places (bracketOf t k.clock.pts k.brk.places).wins.length)]:=phi (IZ hl ht hr h1 h2 hv ho rfl);unfold KV;simp only[stC,ay,ax,EV,den_lt,aggCL,m4,shCL,pCL2,fp,m6,Kz,pBR2,pCL11,aggKT,s0]
 unfold goT at key⊢;cases hg:fq (edT k.clock.pts k.brk.places) t k.clock with
 |none=>rw[hg] at key;exact ans_of k46_ok s46 rfl ⟨5001,key⟩
 |some z=>rw[hg] at key;exact ans_of k46_ok s46 rfl ⟨5001,key⟩
theorem X5 (hall: ∀x∈edT k.clock.pts k.brk.places k.clock.now,∃y∈k.clock.certs.list,y.cert=x):Ans D 131 [KT k,R t] (goT k t):=by
 have hl:=h.ok.2.1;have hE:=kq hl h1 h2 hv ho;have ha:=gJ hl hE (t:=t) h;have hw:k.brk.wins=(bracketOf k.clock.now k.clock.pts k.brk.places).wins:=congrArg Brk.wins hu;have key:den (PhiS D) 5001 wM [] [KT k,R t]=some (goT k t):=by
  unfold wM;simp only[den_lt,shKT,shRt,EV,cY0,cY1,cY2,cY3,cY4,cY5,cY6,cY7,cY8,cY9,cY10,cY11,cY12];rw[hw];refine(AH (N:=5001) hl hr ht h1 h2 hv ho 5000 5001 k.clock [] _ (by omega) (by simp) h hp ha).trans ?_;unfold goT;have e:edT k.clock.pts k.brk.places=fun t=>edsB (bracketOf t k.clock.pts k.brk.places).wins k.brk.places (bracketOf t k.clock.pts k.brk.places).wins.length:=rfl;rw[e];cases hg:fq (fun t=>edsB (bracketOf t k.clock.pts k.brk.places).wins k.brk.places (bracketOf t k.clock.pts k.brk.places).wins.length) t k.clock with
  |none=>rfl
  |some z=>
   obtain⟨d,out⟩:=z;rw[hg] at ha;obtain⟨q1,q2,q3,_,q5⟩:=f6 hE 5000 k.clock [] d out h hp ha;have hs:=qe hE 5000 k.clock [] d out h hall ha;have same:=z6 (t:=d.now) (t':=t) hl h1 h2 hv ho (qI q1 hr q2 q3 hs);have s0:=subM (f:=crow) (l:=out);have wl:=(gI (t:=d.now) hl h1 h2 hv ho).1;have m5:=phi (c40 (k:=⟨d,bracketOf d.now k.clock.pts k.brk.places⟩) (cs_of q1.ok) (by show k.brk.places.length≤1000;omega) (by show(bracketOf d.now k.clock.pts k.brk.places).wins.length≤1000;omega))
   have ag:=Oi d (bracketOf d.now k.clock.pts k.brk.places);have bp:(bracketOf d.now k.clock.pts k.brk.places).places=k.brk.places:=rfl;rw[bp] at ag;unfold k131_1;simp only[stC,ay,ax,EV,den_lt,ag,m5,shKT,pKT,phi (c228 (cs_of q1.ok) (t:=t)),pKTb,shCL,Kz,pCL11,pBR2,aggKT,s0,same]
 unfold goT at key⊢;cases hg:fq (edT k.clock.pts k.brk.places) t k.clock with
 |none=>rw[hg] at key;exact ans_of k131_ok s131 rfl ⟨5001,key⟩
 |some z=>rw[hg] at key;exact ans_of k131_ok s131 rfl ⟨5001,key⟩
end
theorem ix_at {l:List Int}(hn:l.Nodup){m:Nat}{v:Int}(h:l[m]?=some v):jP (fun y=>decide (v=y)) l=(m:Int):=by
 have:l.findIdx? (fun y=>decide (v=y))=some m:=by
  obtain⟨h1,h2⟩:=aj.1 h;rw[ba];refine⟨h1,by rw[h2];simp,fun j hj e=>?_⟩;simp only[decide_eq_true_eq] at e;have:=nodup_get.1 hn j m v (by rw[ac (kX hj h1),e]) h;omega
 unfold jP;rw[this];rfl
theorem QB {l:List Int}(hn:l.Nodup)(hl:l.length≤1000){m:Nat}{v:Int}(h:l[m]?=some v):Ans D 199 [sl I1 l,.i64 v] [.i64 (m:Int)]:=by
 have key:den (PhiS D) 1001 xA [] [sl I1 l,.i64 v]=some [.i64 (m:Int)]:=by
  unfold xA;simp only[EV];refine(eY (m:=1001) (l:=l) (p:=fun g=>decide (g=v)) (st:=fun i=>[.i64 (i:Int)]) (ret:=fun i=>some [.i64 (i:Int)]) (fin:=some [.i64 (-1)]) (fun k g self hg=>?_) (fun self=>?_) (by omega)).trans ?_
  ·unfold xz;simp only[den_lt,EV,aa,decide_eq_true_eq,if_lt (get_lt hg),tixM hg (lenI _),eltM hg,rowI,up1 (show k<1000000000 by have:=get_lt hg;omega)]
  ·unfold xz;simp only[den_lt,EV,aa,decide_eq_true_eq,if_ge,GD]
  ·have:l.findIdx? (fun g=>decide (g=v))=some m:=by
    obtain⟨h1,h2⟩:=aj.1 h;rw[ba];refine⟨h1,by rw[h2];simp,fun j hj e=>?_⟩;simp only[decide_eq_true_eq] at e;have:=nodup_get.1 hn j m v (by rw[ac (kX hj h1),e]) h;omega
   rw[this];rfl
 exact ans_of Mf Ui rfl ⟨1001,key⟩
theorem SQ {k:KHeap}{t:Rt}(h:ClkOk k.clock)(hn:In64 k.clock.now)(hr:rok t=true)(ht:In64 t)(hp:crs k.clock.now t≤0)(hw:waits k.clock t=false):Ans D 118 [KH k,R t] [KHz,CP C0,.i64 6]:=by
 have m1:=phi (vg h hn hr ht hp hw);have g6:(!decide ((6:Int)=0))=true:=rfl;refine ans_of k118_ok s118 rfl ⟨1,?_⟩;unfold k118;simp only[den_lt,shKH,shRt,pKH,m1,shCLz,shEP,shCPt,EV,g6,if_true,aggKHz,Kv]
def KHe (u:List Int):PV:= .agg [.i64 0,.i64 0,.sl [],.i64 0,.sl [],.sl [],.sl [],.sl [],.sl [],.sl [],.sl [],sl I1 u]
theorem aggKHe (u:List Int):RF.ev .agg [CLz,sl I1 u]=some (KHe u):=rfl
def evH (c:Clock)(e:Evt)(x:Crt)(hp:List Int):List PV:=match renewC (edgesH hp) (bY c e) with
 |some d=>[KH ⟨d,hp⟩,CP x,.i64 0]
 |none=>[KHe hp,CP x,.i64 18]
theorem X6 {k:KHeap}{t:Rt}(h:ClkOk k.clock)(hn:In64 k.clock.now)(hr:rok t=true)(ht:In64 t)(hp:crs k.clock.now t≤0){e:Evt}(he:k.clock.agenda.heap[0]?=some e)(hw:waits k.clock t=true){i:Nat}{x:Held}(hx:k.clock.certs.list[i]?=some x)(hxe:x.number=e.number)
  (hnd:k.heap.Nodup) (hl:k.heap.length≤64) {n m:Nat} (hnm:n<m) (ha:k.heap[n]?=some x.cert.high) (hb:k.heap[m]?=some x.cert.low) (hE:EdgF k.clock.pts (edgesH (swapI k.heap n m x.cert.high x.cert.low))):Ans D 118 [KH k,R t] (evH k.clock e x.cert (swapI k.heap n m x.cert.high x.cert.low)):=by
 have m1:=phi (Bt h hn hr ht hp he hw hx hxe);obtain⟨f1,f2⟩:=ea h he hn;have hlen:(swapI k.heap n m x.cert.high x.cert.low).length=k.heap.length:=by unfold swapI;rw[aB,aB]
 have hle:(edgesH (swapI k.heap n m x.cert.high x.cert.low)).length≤1000:=by unfold edgesH;rw[gS];omega
 have m2:=phi (Kx f1 f2 (es:=edgesH (swapI k.heap n m x.cert.high x.cert.low)) hE hle);have m3:=phi (P8 (l:=swapI k.heap n m x.cert.high x.cert.low) (by omega));have m4:=phi (jQ (l:=k.heap) (by omega));have i1:=phi (IT (l:=k.heap) x.cert.low (by omega));have i2:=phi (IT (l:=k.heap) x.cert.high (by omega));rw[ix_at hnd hb] at i1;rw[ix_at hnd ha] at i2;have hnl:=aP ha;have hml:=aP hb;have s0:=subM (f:=I1) (l:=k.heap);have s1:=setI (l:=k.heap) hml x.cert.high;have s2:=setI (l:=k.heap.set m x.cert.high) (i:=n) (by rw[aB];exact hnl) x.cert.low;have sw:(k.heap.set m x.cert.high).set n x.cert.low=swapI k.heap n m x.cert.high x.cert.low:=by unfold swapI;rw[fX _ _ (by omega)]
 rw[sw] at s2;have s3:=subM (f:=I1) (l:=swapI k.heap n m x.cert.high x.cert.low);rw[hlen] at s3;have fp:(bY k.clock e).pts=k.clock.pts:=rfl;have pz:RF.ev (.part 0 11) [CLz]=some CLz:=rfl;unfold renewA at m2;rw[fp] at m2;unfold evH;cases hq:renewC (edgesH (swapI k.heap n m x.cert.high x.cert.low)) (bY k.clock e) with
 |none=>
  rw[hq] at m2;refine ans_of k118_ok s118 rfl ⟨1,?_⟩;unfold k118;simp only[den_lt,shKH,shRt,pKH,m1,shCL,shEP,shCPt,EV,decide_true,ak,ad,if_false,cKHn,m4,aa,s0,cCP0,cCP1,i1,i2,ixM hnl,ixM hml,eltM ha,eltM hb,rowI,s1,s2,pCL2,fp,s3,m3,m2,shCLz,pz,aggKHe]
 |some d=>
  rw[hq] at m2;refine ans_of k118_ok s118 rfl ⟨1,?_⟩;unfold k118;simp only[den_lt,shKH,shRt,pKH,m1,shCL,shEP,shCPt,EV,decide_true,ak,ad,if_false,cKHn,m4,aa,s0,cCP0,cCP1,i1,i2,ixM hnl,ixM hml,eltM ha,eltM hb,rowI,s1,s2,pCL2,fp,s3,m3,m2,pCL11,aggKHs]
theorem flatC (l:List Crt):RF.ev .flatL [sl crow l]=some (sl crow l):=by
 have:(l.map crow).flatten.all isV=true:=by
  induction l with
  |nil=>rfl
  |cons a l ih=>simp[crow,isV]
 show(if _ then _ else _)=_
 rw[if_pos this]
theorem AI {N:Nat}{f:JT}{l:List Pt}{t:Rt}(hl:okF l)(hr:rok t=true)(ht:In64 t){L:Nat}{e0 e1 e2 e4 e5 e6 e8:PV}: ∀(n m:Nat) (c:Clock) (hp:List Int) (out:List Crt) (r:Option (Clock×List Int×List Crt)),n≤m→out.length+n≤100000000→HStl l c hp→hp.length=L→crs c.now t≤0→advH t n c hp out=some r→
  denW (PhiS D) N k130_2 [f] [e0,e1,e2,R t,e4,e5,e6,.i64 (L:Int),e8] m (stC c++[sl I1 hp,sl crow out,.i64 (out.length:Int)])=match r with
   |some (d,hq,out')=>f (sl crow out':: .i64 (out'.length:Int)::sl I1 hq::stC d)
   |none=>some [KHz,.sl [],.i64 18]
 |0,m,c,hp,out,r,hm,ho,h,hL,hp0,ha=>by cases ha
 |n+1,m,c,hp,out,r,hm,ho,h,hL,hp0,ha=>by
  obtain⟨m,rfl⟩: ∃m',m=m'+1:=⟨m-1,by omega⟩;rw[denW_succ];unfold advH at ha;have m0:=phi (qH (c:=c) (gy h.ok h.n64) ht);cases he:ee c t with
  |none=>
   rw[he] at ha;cases ha;rw[nextE_none he] at m0;unfold k130_2;simp only[stC,ay,ax,EV,den_lt,aggCL,m0,ad,if_false]
  |some e=>
   obtain⟨n1,n2,n3⟩:=cC he;rw[n3] at m0;obtain⟨i,x,hi,hxe,hce,hf⟩:=eB h.ok n1;obtain⟨p,q,q1,q2,q3,q4⟩:=ki h n1;obtain⟨f1,f2⟩:=ea h.ok n1 h.n64;have hpt:(bY c e).pts=l:=h.pts;have m1:=phi (Bu h.ok h.n64 n1 hi hxe);have h64:hp.length≤64:=by rw[h.len];exact hl.1
   rw[he] at ha;simp only at ha;rw[q4] at ha;rw[hce] at q2 q3 ha;have pm:=od q2 q3;have nd:=pm.nodup_iff.2 h.nd;have hE:EdgF (bY c e).pts (edgesH (swapI hp p q x.cert.high x.cert.low)):=by rw[hpt];exact Ab hl nd fun y hy=>h.inl y (pm.mem_iff.1 hy)
   have hlen:(swapI hp p q x.cert.high x.cert.low).length=hp.length:=pm.length_eq;have hle:(edgesH (swapI hp p q x.cert.high x.cert.low)).length≤1000:=by unfold edgesH;rw[gS];omega
   have m2:=phi (vk f1 f2 hE hle);unfold renewA at m2;rw[hpt] at m2;have i1:=phi (QB h.nd (by omega) q3);have i2:=phi (QB h.nd (by omega) q2);have hnl:=aP q2;have hml:=aP q3;have s0:=subM (f:=I1) (l:=hp);have s1:=setI (l:=hp) hml x.cert.high;have s2:=setI (l:=hp.set q x.cert.high) (i:=p) (by rw[aB];exact hnl) x.cert.low;have sw:(hp.set q x.cert.high).set p x.cert.low=swapI hp p q x.cert.high x.cert.low:=by unfold swapI;rw[fX _ _ (by omega)]
   rw[sw] at s2;have s3:=subM (f:=I1) (l:=swapI hp p q x.cert.high x.cert.low);rw[hlen,hL] at s3;rw[hL] at s0;have m3:=phi (P9 (l:=swapI hp p q x.cert.high x.cert.low) (by omega));have s4:=subM (f:=crow) (l:=edgesH (swapI hp p q x.cert.high x.cert.low));cases hd:renewC (edgesH (swapI hp p q x.cert.high x.cert.low)) (bY c e) with
   |none=>
    rw[hd] at ha m2;cases ha;unfold k130_2;simp only[stC,ay,ax,EV,den_lt,aggCL,m0,if_true,m1,shCL,shEP,shCPt,s0,cCP0,cCP1,i1,i2,ixM (show p<L by omega),ixM (show q<L by omega),eltM q2,eltM q3,rowI,s1,s2,pCL2,hpt,s3,m3,flatC,aa,s4,m2,shCLz,g18,aggKHz]
   |some d=>
    rw[hd] at ha m2;simp only at ha m2;obtain⟨t1,t2,t3⟩:=lL hl h n1 q1 (by rw[hce];exact q2) (by rw[hce];exact q3) (by rw[hce];exact hd);rw[hce] at t1;have ap:=dc (f:=crow) (l:=out) (k:=[x.cert]) (bytes:=16) (z:=2) (by simp;omega) lenC;have ih:=AI (N:=N) (f:=f) (l:=l) (t:=t) hl hr ht (L:=L) (e0:=e0) (e1:=e1) (e2:=e2) (e4:=e4) (e5:=e5) (e6:=e6) (e8:=e8) n m d (swapI hp p q x.cert.high x.cert.low) (out++[x.cert]) r (by omega) (by rw[an,az];omega) t1 (hlen.trans hL) (by rw[t2];exact n2) ha;simp only[stC,ay,ax] at ih;refine bP ?_ ih;unfold k130_2;simp only[stC,ay,ax,EV,den_lt,aggCL,m0,if_true,m1,shCL,shEP,shCPt,s0,cCP0,cCP1,i1,i2,ixM (show p<L by omega),ixM (show q<L by omega),eltM q2,eltM q3,rowI,s1,s2,pCL2,hpt,s3,m3,flatC,aa,s4,m2,decide_true,ak,ad,if_false,pCL11,bsCr,subCr,ap,cCL0,cCL1,cCL2,cCL3,cCL4,cCL5,cCL6,cCL7,cCL8,cCL9,cCL10]
theorem aggKH12 (c:Clock)(u:List Int):RF.ev .agg [.i64 c.now.num,.i64 c.now.den,sl row c.pts,.i64 c.certs.next,sl hrow c.certs.list,sl I1 c.agenda.slots.uses,sl B1 c.agenda.slots.used,sl I1 c.agenda.slots.free,sl erow c.agenda.heap,sl I1 c.agenda.wher,sl bF c.due,sl I1 u]=some (KH ⟨c,u⟩):=rfl
theorem shKHe (u:List Int):RF.ev (.shape 12) [KHe u]=some (KHe u):=rfl
theorem FA {N:Nat}{f:JT}{l:List Pt}{t:Rt}(hl:okF l)(hr:rok t=true)(ht:In64 t){e0 e1 e2 e4 e5 e6 e7 e8 e9 e10 e11:PV}: ∀(n m:Nat) (c:Clock) (hp:List Int) (out:List Crt) (r:Option (Clock×List Int×List Crt)),n≤m→out.length+n≤100000000→HStl l c hp→crs c.now t≤0→advH t n c hp out=some r→
  denW (PhiS D) N k45_2 [f] [e0,e1,e2,R t,e4,e5,e6,e7,e8,e9,e10,e11] m (stC c++[sl I1 hp,sl crow out,.i64 (out.length:Int)])=match r with
   |some (d,hq,out')=>f (sl crow out':: .i64 (out'.length:Int)::(stC d++[sl I1 hq]))
   |none=>some [KHz,.sl [],.i64 18]
 |0,m,c,hp,out,r,hm,ho,h,hp0,ha=>by cases ha
 |n+1,m,c,hp,out,r,hm,ho,h,hp0,ha=>by
  obtain⟨m,rfl⟩: ∃m',m=m'+1:=⟨m-1,by omega⟩;rw[denW_succ];unfold advH at ha;have n6:decide ((0:Int)=6)=false:=rfl;have n18:decide ((18:Int)=6)=false:=rfl;have y6:decide ((6:Int)=6)=true:=rfl;cases he:ee c t with
  |none=>
   rw[he] at ha;cases ha;have m1:=phi (SQ (k:=⟨c,hp⟩) h.ok h.n64 hr ht hp0 (nextE_none he));unfold k45_2;simp only[stC,ay,ax,EV,den_lt,aggKH12,m1,shKHz,shCPt,y6,decide_true,if_true]
  |some e=>
   obtain⟨n1,n2,n3⟩:=cC he;obtain⟨i,x,hi,hxe,hce,hf⟩:=eB h.ok n1;obtain⟨p,q,q1,q2,q3,q4⟩:=ki h n1;have h64:hp.length≤64:=by rw[h.len];exact hl.1
   rw[he] at ha;simp only at ha;rw[q4] at ha;rw[hce] at q2 q3 ha;have pm:=od q2 q3;have nd:=pm.nodup_iff.2 h.nd;have hE:EdgF c.pts (edgesH (swapI hp p q x.cert.high x.cert.low)):=by rw[h.pts];exact Ab hl nd fun y hy=>h.inl y (pm.mem_iff.1 hy)
   have m1:=phi (X6 (k:=⟨c,hp⟩) h.ok h.n64 hr ht hp0 n1 n3 hi hxe h.nd h64 q1 q2 q3 hE);unfold evH at m1;simp only at m1;cases hd:renewC (edgesH (swapI hp p q x.cert.high x.cert.low)) (bY c e) with
   |none=>
    rw[hd] at ha m1;cases ha;simp only at m1;unfold k45_2;simp only[stC,ay,ax,EV,den_lt,aggKH12,m1,shKHe,shCPt,n18,ad,if_false,g18,if_true,aggKHz]
   |some d=>
    rw[hd] at ha m1;simp only at ha m1;obtain⟨t1,t2,t3⟩:=lL hl h n1 q1 (by rw[hce];exact q2) (by rw[hce];exact q3) (by rw[hce];exact hd);rw[hce] at t1;have ap:=dc (f:=crow) (l:=out) (k:=[x.cert]) (bytes:=16) (z:=2) (by simp;omega) lenC;have ih:=FA (N:=N) (f:=f) (l:=l) (t:=t) hl hr ht (e0:=e0) (e1:=e1) (e2:=e2) (e4:=e4) (e5:=e5) (e6:=e6) (e7:=e7) (e8:=e8) (e9:=e9) (e10:=e10) (e11:=e11) n m d (swapI hp p q x.cert.high x.cert.low) (out++[x.cert]) r (by omega) (by rw[an,az];omega) t1 (by rw[t2];exact n2) ha;simp only[stC,ay,ax] at ih;refine bP ?_ ih;unfold k45_2;simp only[stC,ay,ax,EV,den_lt,aggKH12,m1,shKH,shCPt,n6,decide_true,ak,ad,if_false,bsCr,subCr,ap,aa,cH0,cH1,cH2,cH3,cH4,cH5,cH6,cH7,cH8,cH9,cH10,cKHn]
def oR (t:Rt)(c:Clock)(hp:List Int):Option (Clock×List Int×List Crt):=(advH t 30000000 c hp []).getD none
theorem tw {l:List Pt}(hl:okF l){t:Rt}{c:Clock}{hp:List Int}(h:HStl l c hp):advH t 30000000 c hp []=some (oR t c hp):=by
 obtain⟨r,hr⟩:=uV hl (t:=t) 30000000 c hp [] h (IA hl h.len (uA hl _));unfold oR;rw[hr];rfl
def goK (k:KHeap)(t:Rt):List PV:=match oR t k.clock k.heap with
 |some (d,hq,out)=>[KH ⟨atC d t,hq⟩,sl crow out,.i64 0]
 |none=>[KHz,.sl [],.i64 18]
theorem X7 {k:KHeap}{t:Rt}(h:HStl k.clock.pts k.clock k.heap)(hr:rok t=true)(ht:In64 t)(hp:crs k.clock.now t≤0):Ans D 130 [KH k,R t] (goK k t):=by
 have hl:=h.ok.2.1;have ha:=tw hl (t:=t) h;have h64:k.heap.length≤64:=by rw[h.len];exact hl.1
 have key:den (PhiS D) 30000001 wL [] [KH k,R t]=some (goK k t):=by
  unfold wL;simp only[den_lt,shKH,shRt,EV,pKH,cKHn,shCL,ed (l:=k.heap) (f:=I1) (bytes:=8) (z:=1) (by omega) lenI,aa,cCL0,cCL1,cCL2,cCL3,cCL4,cCL5,cCL6,cCL7,cCL8,cCL9,cCL10];refine(AI (N:=30000001) hl hr ht (L:=k.heap.length) 30000000 30000001 k.clock k.heap [] _ (by omega) (by simp) h rfl hp ha).trans ?_;unfold goK;cases hg:oR t k.clock k.heap with
  |none=>rfl
  |some z=>
   obtain⟨d,hq,out⟩:=z;rw[hg] at ha;obtain⟨q1,q2,q3,q5⟩:=oe hl 30000000 k.clock k.heap [] d hq out h hp ha;have s0:=subM (f:=crow) (l:=out);have s1:=subM (f:=I1) (l:=hq);rw[q1.len,←h.len] at s1;unfold k130_1;simp only[stC,ay,ax,EV,den_lt,aggCL,phi (c228 (cs_of q1.ok) (t:=t)),shCL,pCL11,s1,aggKHs,s0]
 unfold goK at key⊢;cases hg:oR t k.clock k.heap with
 |none=>rw[hg] at key;exact ans_of k130_ok s130 rfl ⟨30000001,key⟩
 |some z=>rw[hg] at key;exact ans_of k130_ok s130 rfl ⟨30000001,key⟩
theorem c45 {k:KHeap}{t:Rt}(hchk:Ans D 77 [KH k] [.i64 0])(h:HStl k.clock.pts k.clock k.heap)(hr:rok t=true)(ht:In64 t)(hp:crs k.clock.now t≤0):Ans D 45 [KH k,R t] (goK k t):=by
 have hl:=h.ok.2.1;have ha:=tw hl (t:=t) h;have m1:=phi hchk;have m2:=phi (c43 ht);rw[hr,show okE true=0 from rfl] at m2
 have m3:=phi (kw ht h.n64);rw[hr,h.ok.1] at m3;have ng:¬sgn (crs t k.clock.now)<0:=by
  have:=crs_neg t k.clock.now;unfold sgn;rw[if_neg (by omega)];split<;>omega
 have pR0:RF.ev (.part 0 2) [KH k]=some (R k.clock.now):=rfl;have key:den (PhiS D) 30000001 k45 [] [KH k,R t]=some (goK k t):=by
  unfold k45;simp only[den_lt,shKH,shRt,m1,m2,EV,decide_true,ak,ad,if_false,pR0,m3,bV,if_true,ng,decide_false,cH0,cH1,cH2,cH3,cH4,cH5,cH6,cH7,cH8,cH9,cH10,cKHn];refine(FA (N:=30000001) hl hr ht 30000000 30000001 k.clock k.heap [] _ (by omega) (by simp) h hp ha).trans ?_;unfold goK;cases hg:oR t k.clock k.heap with
  |none=>rfl
  |some z=>
   obtain⟨d,hq,out⟩:=z;rw[hg] at ha;obtain⟨q1,q2,q3,q5⟩:=oe hl 30000000 k.clock k.heap [] d hq out h hp ha;have m4:=phi (Bv q1.ok q1.n64 hr ht q2 q3);have m5:=phi (jQ (l:=hq) (by rw[q1.len];have:=hl.1;omega));have s0:=subM (f:=crow) (l:=out);have s1:=subM (f:=I1) (l:=hq);unfold KU;simp only[stC,ay,ax,EV,den_lt,aggCL,m4,shCL,m5,aa,pCL11,s1,aggKHs,s0]
 unfold goK at key⊢;cases hg:oR t k.clock k.heap with
 |none=>rw[hg] at key;exact ans_of k45_ok s45 rfl ⟨30000001,key⟩
 |some z=>rw[hg] at key;exact ans_of k45_ok s45 rfl ⟨30000001,key⟩
theorem wx {c:Clock}{es:List Crt}(hc:bW c.certs)(hn:es.Nodup)(hJ:JustR c es): ∀y∈c.certs.list,y.cert∈es:=
 ((li hc hn fun e he=>(hJ.2 e he).2).2 hJ).2
theorem wy {c:Clock}{es:List Crt}(hk:ClkOk c)(h64:In64 c.now)(hn:es.Nodup)(hJ:JustR c es):Stl c.pts c∧ ∀x∈es,∃y∈c.certs.list,y.cert=x:=
 ⟨⟨hk,h64,rfl,fun y hy=>(hJ.2 _ (wx hk.2.2.1 hn hJ y hy)).2⟩,fun x hx=>(hJ.2 x hx).1⟩
theorem Jb {k:KHeap}(h:fO k)(h64:c6 k.clock):Stl k.clock.pts k.clock∧ ∀x∈edgesU k.clock.pts (upsO k.clock.now k.clock.pts),∃y∈k.clock.certs.list,y.cert=x:=
 wy h.1 h64.1 (iF (risen_ids h.1.2.1.2.2)) h.2.2
theorem Jc {k:Heater}(h:fP k)(h64:c6 k.clock):Stl k.clock.pts k.clock∧ ∀x∈edgsT (cart k.clock.now k.clock.pts).nodes k.clock.pts.length,∃y∈k.clock.certs.list,y.cert=x:=
 wy h.1 h64.1 (j4 h.1.2.1 _ (am _)) h.2.2
theorem Jd {k:KHeap}(h:eP k)(h64:c6 k.clock):HStl k.clock.pts k.clock k.heap:=
 ⟨h.1,h64.1,rfl,wx h.1.2.2.1 (qg h.2.2.2.1) h.2.2.2.2,h.2.2.2.1,h.2.2.1,h.2.1⟩
theorem FB {k:KTourn}(h:dh k)(h64:c6 k.clock):Stl k.clock.pts k.clock∧k.brk=bracketOf k.clock.now k.clock.pts k.brk.places∧(1≤k.brk.places.length∧k.brk.places.length≤64∧dO k.brk.places)∧ ∀x∈edT k.clock.pts k.brk.places k.clock.now,∃y∈k.clock.certs.list,y.cert=x:=by
 obtain⟨h1,h2,h3,h4,h5,h6,h7⟩:=h;have hm:k.brk.wins.length=k.brk.places.length-1:=by have:=h2.1.1.2.2;omega
 have hw:playD (wonI k.clock.now k.clock.pts) k.brk.places (k.brk.places.length-1) (k.brk.places.length-1)=k.brk.wins:=(lK hm).2 h6;have hb:k.brk=bracketOf k.clock.now k.clock.pts k.brk.places:=by unfold bracketOf;rw[hw]
 obtain⟨s1,s2⟩:=wy h1 h64.1 (j5 (b:=k.brk) h1.2.1 h2 h4 h6 _ (am _)) h7;refine⟨s1,hb,⟨h2.1.1.1,h2.1.1.2.1,h2.1.2.1⟩,?_⟩;unfold edT;rw[←congrArg Brk.wins hb];exact s2
theorem mq (n:Int):sgn n<0↔n<0:=by
 unfold sgn;split
 ·omega
 ·split<;>omega
section
variable {t:Rt}(hr:rok t=true)(ht:In64 t)
include hr ht
theorem X8 {k:KHeap}(hchk:Ans D 77 [KH k] [.i64 0])(hk:rok k.clock.now=true)(hn:In64 k.clock.now)(hp:crs t k.clock.now<0):Ans D 45 [KH k,R t] [KHz,.sl [],.i64 44]:=by
 have m1:=phi hchk;have m2:=phi (c43 ht);rw[hr,show okE true=0 from rfl] at m2
 have m3:=phi (kw ht hn);rw[hr,hk] at m3;have ng:=(mq _).2 hp;have pR0:RF.ev (.part 0 2) [KH k]=some (R k.clock.now):=rfl;refine ans_of k45_ok s45 rfl ⟨1,?_⟩;unfold k45;simp only[den_lt,shKH,shRt,m1,m2,EV,decide_true,ak,ad,if_false,pR0,m3,bV,if_true,ng,aggKHz]
theorem X9 {k:KHeap}(hchk:Ans D 80 [KH k] [.i64 0])(hk:rok k.clock.now=true)(hn:In64 k.clock.now)(hp:crs t k.clock.now<0):Ans D 48 [KH k,R t] [KHz,.sl [],.i64 44]:=by
 have m1:=phi hchk;have m2:=phi (c43 ht);rw[hr,show okE true=0 from rfl] at m2
 have m3:=phi (kw ht hn);rw[hr,hk] at m3;have ng:=(mq _).2 hp;have pR0:RF.ev (.part 0 2) [KH k]=some (R k.clock.now):=rfl;refine ans_of k48_ok s48 rfl ⟨1,?_⟩;unfold k48;simp only[den_lt,shKH,shRt,m1,m2,EV,decide_true,ak,ad,if_false,pR0,m3,bV,if_true,ng,aggKHz]
theorem Ya {k:KTourn}(hchk:Ans D 78 [KT k] [.i64 0])(hk:rok k.clock.now=true)(hn:In64 k.clock.now)(hp:crs t k.clock.now<0):Ans D 46 [KT k,R t] [KTz,.sl [],.i64 44]:=by
 have m1:=phi hchk;have m2:=phi (c43 ht);rw[hr,show okE true=0 from rfl] at m2
 have m3:=phi (kw ht hn);rw[hr,hk] at m3;have ng:=(mq _).2 hp;have pR0:RF.ev (.part 0 2) [KT k]=some (R k.clock.now):=rfl;refine ans_of k46_ok s46 rfl ⟨1,?_⟩;unfold k46;simp only[den_lt,shKT,shRt,m1,m2,EV,decide_true,ak,ad,if_false,pR0,m3,bV,if_true,ng,aggKTz]
theorem Yb {k:Heater}(hchk:Ans D 79 [HT k] [.i64 0])(hk:rok k.clock.now=true)(hn:In64 k.clock.now)(hp:crs t k.clock.now<0):Ans D 47 [HT k,R t] [HTz,.sl [],.i64 44]:=by
 have m1:=phi hchk;have m2:=phi (c43 ht);rw[hr,show okE true=0 from rfl] at m2
 have m3:=phi (kw ht hn);rw[hr,hk] at m3;have ng:=(mq _).2 hp;have pR0:RF.ev (.part 0 2) [HT k]=some (R k.clock.now):=rfl;refine ans_of k47_ok s47 rfl ⟨1,?_⟩;unfold k47;simp only[den_lt,shHT,shRt,m1,m2,EV,decide_true,ak,ad,if_false,pR0,m3,bV,if_true,ng,aggHTz]
end
theorem Yc {c:Clock}{t:Rt}(hr:rok t=true)(ht:In64 t)(hn:In64 c.now):Ans D 129 [CL c,R t] [.i64 (if crs t c.now<0 then 44 else 0)]:=by
 have m2:=phi (vI ht);rw[hr,show okE true=0 from rfl] at m2
 refine ans_of LN TN rfl ⟨1,?_⟩;unfold B5;simp only[den_lt,shCL,shRt,m2,EV,decide_true,ak,ad,if_false,pCL0,phi (IF ht hn),decide_eq_true_eq,mq];split<;>rfl
def Je (c:Choice)(t:Rt):Int:=if asked t=0 then if crs t (ckOf c).now<0 then 44 else 0 else asked t
theorem c49 {c:Choice}{t:Rt}(ht:In64 t)(hn:In64 (ckOf c).now):Ans D 49 [CHO c,R t] [.i64 (Je c t)]:=by
 have m1:=phi (vI ht);have m2:=phi (c64 ht);have n8:decide ((8:Int)=0)=false:=rfl;have n2:decide ((2:Int)=0)=false:=rfl;refine ans_of Pp s49 rfl ⟨1,?_⟩;unfold k49 Je;cases hr:rok t with
 |false=>
  have e:asked t=8:=by unfold asked;rw[hr];rfl
  rw[hr,show okE false=8 from rfl] at m1
  simp only[den_lt,shCH,shRt,m1,EV,n8,aM,if_true,e,show¬(8:Int)=0 by decide,if_false,decide_false]
 |true=>
  rw[hr,show okE true=0 from rfl] at m1
  have m3:=phi (Yc hr ht hn);have e2:asked t=0∨asked t=2:=by
   unfold asked;rw[if_pos hr];split
   ·exact .inl rfl
   ·exact .inr rfl
  rcases e2 with e|e
  ·rw[e] at m2⊢;simp only[den_lt,shCH,shRt,m1,EV,decide_true,ak,ad,if_false,m2,phi (c13 c),m3,if_true]
  ·rw[e] at m2⊢;simp only[den_lt,shCH,shRt,m1,EV,decide_true,ak,ad,if_false,m2,n2,aM,if_true,show¬(2:Int)=0 by decide,decide_false]
def gx (l:List PV)(i:Nat):PV:=l.getD i (.i64 0)
theorem vl {l:List PV}{i:Nat}(h:i<l.length):RF.ev (.cell i) [.agg l]=some (gx l i):=by
 show l[i]?=_
 unfold gx;rw[ac h,List.getD_eq_getElem?_getD,ac h];rfl
theorem fh (c:Choice){i:Nat}(h1:1≤i)(h2:i≤50):RF.ev (.cell i) [CHO c]=some (gx (aL c) i):=vl (show i<51 by omega)
theorem jD (k:KHeap){i:Nat}(h:i≤11):RF.ev (.cell i) [KH k]=some (gx (khC k) i):=vl (show i<12 by omega)
theorem rH (k:KTourn){i:Nat}(h:i≤12):RF.ev (.cell i) [KT k]=some (gx (ktC k) i):=vl (show i<13 by omega)
theorem rI (k:Heater){i:Nat}(h:i≤12):RF.ev (.cell i) [HT k]=some (gx (htC k) i):=vl (show i<13 by omega)
def eZ (c:Choice)(L:PV)(e:Int):List PV:=if e=0 then [CHO c,L,.i64 0] else [CHO zCH,.sl [],.i64 e]
theorem gl {c:Choice}{L:PV}{e:Int}:(eZ c L e).length=3:=by unfold eZ;split<;>rfl
section
variable (g:Int)(c:Choice)
theorem KA (k:KHeap):RF.ev .agg [.v (.int .u8 g),gx (khC k) 0,gx (khC k) 1,gx (khC k) 2,gx (khC k) 3,gx (khC k) 4,gx (khC k) 5,gx (khC k) 6,gx (khC k) 7,gx (khC k) 8,gx (khC k) 9,gx (khC k) 10,gx (khC k) 11,gx (aL c) 13,gx (aL c) 14,gx (aL c) 15,gx (aL c) 16,gx (aL c) 17,gx (aL c) 18,gx (aL c) 19,gx (aL c) 20,gx (aL c) 21,gx (aL c) 22,gx (aL c) 23,gx (aL c) 24,gx (aL c) 25,gx (aL c) 26,gx (aL c) 27,gx (aL c) 28,gx (aL c) 29,gx (aL c) 30,gx (aL c) 31,gx (aL c) 32,gx (aL c) 33,gx (aL c) 34,gx (aL c) 35,gx (aL c) 36,gx (aL c) 37,gx (aL c) 38,gx (aL c) 39,gx (aL c) 40,gx (aL c) 41,gx (aL c) 42,gx (aL c) 43,gx (aL c) 44,gx (aL c) 45,gx (aL c) 46,gx (aL c) 47,gx (aL c) 48,gx (aL c) 49,gx (aL c) 50]=some (CHO ⟨g,k,c.tourn,c.heater,c.hanger⟩):=rfl
theorem KB (k:KTourn):RF.ev .agg [.v (.int .u8 g),gx (aL c) 1,gx (aL c) 2,gx (aL c) 3,gx (aL c) 4,gx (aL c) 5,gx (aL c) 6,gx (aL c) 7,gx (aL c) 8,gx (aL c) 9,gx (aL c) 10,gx (aL c) 11,gx (aL c) 12,gx (ktC k) 0,gx (ktC k) 1,gx (ktC k) 2,gx (ktC k) 3,gx (ktC k) 4,gx (ktC k) 5,gx (ktC k) 6,gx (ktC k) 7,gx (ktC k) 8,gx (ktC k) 9,gx (ktC k) 10,gx (ktC k) 11,gx (ktC k) 12,gx (aL c) 26,gx (aL c) 27,gx (aL c) 28,gx (aL c) 29,gx (aL c) 30,gx (aL c) 31,gx (aL c) 32,gx (aL c) 33,gx (aL c) 34,gx (aL c) 35,gx (aL c) 36,gx (aL c) 37,gx (aL c) 38,gx (aL c) 39,gx (aL c) 40,gx (aL c) 41,gx (aL c) 42,gx (aL c) 43,gx (aL c) 44,gx (aL c) 45,gx (aL c) 46,gx (aL c) 47,gx (aL c) 48,gx (aL c) 49,gx (aL c) 50]=some (CHO ⟨g,c.heap,k,c.heater,c.hanger⟩):=rfl
theorem KC (k:Heater):RF.ev .agg [.v (.int .u8 g),gx (aL c) 1,gx (aL c) 2,gx (aL c) 3,gx (aL c) 4,gx (aL c) 5,gx (aL c) 6,gx (aL c) 7,gx (aL c) 8,gx (aL c) 9,gx (aL c) 10,gx (aL c) 11,gx (aL c) 12,gx (aL c) 13,gx (aL c) 14,gx (aL c) 15,gx (aL c) 16,gx (aL c) 17,gx (aL c) 18,gx (aL c) 19,gx (aL c) 20,gx (aL c) 21,gx (aL c) 22,gx (aL c) 23,gx (aL c) 24,gx (aL c) 25,gx (htC k) 0,gx (htC k) 1,gx (htC k) 2,gx (htC k) 3,gx (htC k) 4,gx (htC k) 5,gx (htC k) 6,gx (htC k) 7,gx (htC k) 8,gx (htC k) 9,gx (htC k) 10,gx (htC k) 11,gx (htC k) 12,gx (aL c) 39,gx (aL c) 40,gx (aL c) 41,gx (aL c) 42,gx (aL c) 43,gx (aL c) 44,gx (aL c) 45,gx (aL c) 46,gx (aL c) 47,gx (aL c) 48,gx (aL c) 49,gx (aL c) 50]=some (CHO ⟨g,c.heap,c.tourn,k,c.hanger⟩):=rfl
theorem KD (k:KHeap):RF.ev .agg [.v (.int .u8 g),gx (aL c) 1,gx (aL c) 2,gx (aL c) 3,gx (aL c) 4,gx (aL c) 5,gx (aL c) 6,gx (aL c) 7,gx (aL c) 8,gx (aL c) 9,gx (aL c) 10,gx (aL c) 11,gx (aL c) 12,gx (aL c) 13,gx (aL c) 14,gx (aL c) 15,gx (aL c) 16,gx (aL c) 17,gx (aL c) 18,gx (aL c) 19,gx (aL c) 20,gx (aL c) 21,gx (aL c) 22,gx (aL c) 23,gx (aL c) 24,gx (aL c) 25,gx (aL c) 26,gx (aL c) 27,gx (aL c) 28,gx (aL c) 29,gx (aL c) 30,gx (aL c) 31,gx (aL c) 32,gx (aL c) 33,gx (aL c) 34,gx (aL c) 35,gx (aL c) 36,gx (aL c) 37,gx (aL c) 38,gx (khC k) 0,gx (khC k) 1,gx (khC k) 2,gx (khC k) 3,gx (khC k) 4,gx (khC k) 5,gx (khC k) 6,gx (khC k) 7,gx (khC k) 8,gx (khC k) 9,gx (khC k) 10,gx (khC k) 11]=some (CHO ⟨g,c.heap,c.tourn,c.heater,k⟩):=rfl
end
section
variable {c:Choice}{t:Rt}{L:PV}{e:Int}
theorem a15_1 (hc:PhiS D 26 [CHO c]=some [.i64 0])(hr:rok t=true)(ht:In64 t)(ha:asked t=0)(t1:c.tag=1){k:KHeap}(h:Ans D 45 [KH c.heap,R t] [KH k,L,.i64 e]):Ans D 15 [CHO c,R t] (eZ ⟨1,k,c.tourn,c.heater,c.hanger⟩ L e):=by
 have m1:=phi (c43 ht);rw[hr,show okE true=0 from rfl] at m1
 have m2:=phi (c44 ht);rw[ha] at m2;have m3:=phi h;refine ans_of (hl:=gl) md s15 rfl ⟨1,?_⟩;unfold k15 eZ;by_cases he:e=0
 ·subst he;simp only[den_lt,shCH,shRt,hc,m1,m2,EV,decide_true,ak,ad,if_false,cCH,t1,u8E,if_true,pCH1,m3,shKH,jD,fh,Nat.reduceLeDiff,am,j8,KA]
 ·have de:decide (e=0)=false:=decide_eq_false he;simp only[den_lt,shCH,shRt,hc,m1,m2,EV,decide_true,ak,ad,if_false,cCH,t1,u8E,if_true,pCH1,m3,shKH,jD,fh,Nat.reduceLeDiff,am,j8,de,aM,aggZ,if_neg he];rfl
theorem a15_2 (hc:PhiS D 26 [CHO c]=some [.i64 0])(hr:rok t=true)(ht:In64 t)(ha:asked t=0)(t1:c.tag=2){k:KTourn}(h:Ans D 46 [KT c.tourn,R t] [KT k,L,.i64 e]):Ans D 15 [CHO c,R t] (eZ ⟨2,c.heap,k,c.heater,c.hanger⟩ L e):=by
 have m1:=phi (c43 ht);rw[hr,show okE true=0 from rfl] at m1
 have m2:=phi (c44 ht);rw[ha] at m2;have m3:=phi h;refine ans_of (hl:=gl) md s15 rfl ⟨1,?_⟩;unfold k15 eZ;have d21:decide ((2:Int)=1)=false:=rfl;by_cases he:e=0
 ·subst he;simp only[den_lt,shCH,shRt,hc,m1,m2,EV,decide_true,ak,ad,if_false,cCH,t1,u8E,d21,if_true,pCH2,m3,shKT,rH,fh,Nat.reduceLeDiff,am,nH,j8,KB]
 ·have de:decide (e=0)=false:=decide_eq_false he;simp only[den_lt,shCH,shRt,hc,m1,m2,EV,decide_true,ak,ad,if_false,cCH,t1,u8E,d21,if_true,pCH2,m3,shKT,rH,fh,Nat.reduceLeDiff,am,nH,j8,de,aM,aggZ,if_neg he];rfl
theorem a15_3 (hc:PhiS D 26 [CHO c]=some [.i64 0])(hr:rok t=true)(ht:In64 t)(ha:asked t=0)(t1:c.tag=3){k:Heater}(h:Ans D 47 [HT c.heater,R t] [HT k,L,.i64 e]):Ans D 15 [CHO c,R t] (eZ ⟨3,c.heap,c.tourn,k,c.hanger⟩ L e):=by
 have m1:=phi (c43 ht);rw[hr,show okE true=0 from rfl] at m1
 have m2:=phi (c44 ht);rw[ha] at m2;have m3:=phi h;refine ans_of (hl:=gl) md s15 rfl ⟨1,?_⟩;unfold k15 eZ;have d31:decide ((3:Int)=1)=false:=rfl;have d32:decide ((3:Int)=2)=false:=rfl;by_cases he:e=0
 ·subst he;simp only[den_lt,shCH,shRt,hc,m1,m2,EV,decide_true,ak,ad,if_false,cCH,t1,u8E,d31,d32,if_true,pCH3,m3,shHT,rI,fh,Nat.reduceLeDiff,am,rK,nH,j8,KC]
 ·have de:decide (e=0)=false:=decide_eq_false he;simp only[den_lt,shCH,shRt,hc,m1,m2,EV,decide_true,ak,ad,if_false,cCH,t1,u8E,d31,d32,if_true,pCH3,m3,shHT,rI,fh,Nat.reduceLeDiff,am,rK,nH,j8,de,aM,aggZ,if_neg he];rfl
theorem a15_4 (hc:PhiS D 26 [CHO c]=some [.i64 0])(hr:rok t=true)(ht:In64 t)(ha:asked t=0)(t1:c.tag=4){k:KHeap}(h:Ans D 48 [KH c.hanger,R t] [KH k,L,.i64 e]):Ans D 15 [CHO c,R t] (eZ ⟨4,c.heap,c.tourn,c.heater,k⟩ L e):=by
 have m1:=phi (c43 ht);rw[hr,show okE true=0 from rfl] at m1
 have m2:=phi (c44 ht);rw[ha] at m2;have m3:=phi h;refine ans_of (hl:=gl) md s15 rfl ⟨1,?_⟩;unfold k15 eZ;have d41:decide ((4:Int)=1)=false:=rfl;have d42:decide ((4:Int)=2)=false:=rfl;have d43:decide ((4:Int)=3)=false:=rfl;by_cases he:e=0
 ·subst he;simp only[den_lt,shCH,shRt,hc,m1,m2,EV,decide_true,ak,ad,if_false,cCH,t1,u8E,d41,d42,d43,if_true,pCH4,m3,shKH,jD,fh,Nat.reduceLeDiff,am,rK,nH,j8,KD]
 ·have de:decide (e=0)=false:=decide_eq_false he;simp only[den_lt,shCH,shRt,hc,m1,m2,EV,decide_true,ak,ad,if_false,cCH,t1,u8E,d41,d42,d43,if_true,pCH4,m3,shKH,jD,fh,Nat.reduceLeDiff,am,rK,nH,j8,de,aM,aggZ,if_neg he];rfl
theorem ST (t1:c.tag=1){k:KHeap}(h:Ans D 130 [KH c.heap,R t] [KH k,L,.i64 e]):Ans D 50 [CHO c,R t] (eZ ⟨1,k,c.tourn,c.heater,c.hanger⟩ L e):=by
 have m3:=phi h;refine ans_of (hl:=gl) q9 s50 rfl ⟨1,?_⟩;unfold k50 eZ;by_cases he:e=0
 ·subst he;simp only[den_lt,shCH,shRt,EV,decide_true,ak,ad,if_false,cCH,t1,u8E,if_true,pCH1,m3,shKH,jD,fh,Nat.reduceLeDiff,am,j9,KA]
 ·have de:decide (e=0)=false:=decide_eq_false he;simp only[den_lt,shCH,shRt,EV,decide_true,ak,ad,if_false,cCH,t1,u8E,if_true,pCH1,m3,shKH,jD,fh,Nat.reduceLeDiff,am,j9,de,aM,aggZ,if_neg he];rfl
theorem SU (t1:c.tag=2){k:KTourn}(h:Ans D 131 [KT c.tourn,R t] [KT k,L,.i64 e]):Ans D 50 [CHO c,R t] (eZ ⟨2,c.heap,k,c.heater,c.hanger⟩ L e):=by
 have m3:=phi h;refine ans_of (hl:=gl) q9 s50 rfl ⟨1,?_⟩;unfold k50 eZ;have d21:decide ((2:Int)=1)=false:=rfl;by_cases he:e=0
 ·subst he;simp only[den_lt,shCH,shRt,EV,decide_true,ak,ad,if_false,cCH,t1,u8E,d21,if_true,pCH2,m3,shKT,rH,fh,Nat.reduceLeDiff,am,nI,j9,KB]
 ·have de:decide (e=0)=false:=decide_eq_false he;simp only[den_lt,shCH,shRt,EV,decide_true,ak,ad,if_false,cCH,t1,u8E,d21,if_true,pCH2,m3,shKT,rH,fh,Nat.reduceLeDiff,am,nI,j9,de,aM,aggZ,if_neg he];rfl
theorem SX (t1:c.tag=3){k:Heater}(h:Ans D 132 [HT c.heater,R t] [HT k,L,.i64 e]):Ans D 50 [CHO c,R t] (eZ ⟨3,c.heap,c.tourn,k,c.hanger⟩ L e):=by
 have m3:=phi h;refine ans_of (hl:=gl) q9 s50 rfl ⟨1,?_⟩;unfold k50 eZ;have d31:decide ((3:Int)=1)=false:=rfl;have d32:decide ((3:Int)=2)=false:=rfl;by_cases he:e=0
 ·subst he;simp only[den_lt,shCH,shRt,EV,decide_true,ak,ad,if_false,cCH,t1,u8E,d31,d32,if_true,pCH3,m3,shHT,rI,fh,Nat.reduceLeDiff,am,rL,nI,j9,KC]
 ·have de:decide (e=0)=false:=decide_eq_false he;simp only[den_lt,shCH,shRt,EV,decide_true,ak,ad,if_false,cCH,t1,u8E,d31,d32,if_true,pCH3,m3,shHT,rI,fh,Nat.reduceLeDiff,am,rL,nI,j9,de,aM,aggZ,if_neg he];rfl
theorem SY (t1:c.tag=4){k:KHeap}(h:Ans D 133 [KH c.hanger,R t] [KH k,L,.i64 e]):Ans D 50 [CHO c,R t] (eZ ⟨4,c.heap,c.tourn,c.heater,k⟩ L e):=by
 have m3:=phi h;refine ans_of (hl:=gl) q9 s50 rfl ⟨1,?_⟩;unfold k50 eZ;have d41:decide ((4:Int)=1)=false:=rfl;have d42:decide ((4:Int)=2)=false:=rfl;have d43:decide ((4:Int)=3)=false:=rfl;by_cases he:e=0
 ·subst he;simp only[den_lt,shCH,shRt,EV,decide_true,ak,ad,if_false,cCH,t1,u8E,d41,d42,d43,if_true,pCH4,m3,shKH,jD,fh,Nat.reduceLeDiff,am,BG,rL,nI,j9,KD]
 ·have de:decide (e=0)=false:=decide_eq_false he;simp only[den_lt,shCH,shRt,EV,decide_true,ak,ad,if_false,cCH,t1,u8E,d41,d42,d43,if_true,pCH4,m3,shKH,jD,fh,Nat.reduceLeDiff,am,BG,rL,nI,j9,de,aM,aggZ,if_neg he];rfl
end
theorem vn {c:Clock}{t:Rt}(h:gW c):gW (atC c t):=by obtain⟨h1,h2,h3,h4⟩:=h;exact⟨h1,h2,h3,h4⟩
section
variable {t:Rt}(hr:rok t=true)(ht:In64 t)
include hr ht
open Classical in
theorem go1 {k:KHeap}(hk:eP k)(h64:c6 k.clock)(hg:gKh k=false)(hp:crs k.clock.now t≤0): ∃(x:KHeap) (out:List Crt) (e:Int),(Ans D 45 [KH k,R t] [KH x,sl crow out,.i64 e]∧Ans D 130 [KH k,R t] [KH x,sl crow out,.i64 e])∧(gW x.clock∧x.heap.length≤1000)∧out.length≤30000000:=by
 have h:=Jd hk h64;have hl:=h.ok.2.1;have hchk:=c77 h64 hg;rw[decide_eq_true hk] at hchk;have a:=c45 hchk h hr ht hp;have b:=X7 h hr ht hp;have ha:=tw hl (t:=t) h;unfold goK at a b;cases hgo:oR t k.clock k.heap with
 |none=>rw[hgo] at a b;exact⟨zKH,[],18,⟨a,b⟩,⟨zC_w,bD _⟩,bD _⟩
 |some z=>
  obtain⟨d,hq,out⟩:=z;rw[hgo] at a b ha;obtain⟨q1,q2,q3,q5⟩:=oe hl 30000000 k.clock k.heap [] d hq out h hp ha;exact⟨⟨atC d t,hq⟩,out,0,⟨a,b⟩,⟨vn (gW_of q1.ok),by have:=q1.len;have:=hl.1;show hq.length≤1000;omega⟩,by simpa using q5⟩
open Classical in
theorem go2 {k:KTourn}(hk:dh k)(h64:c6 k.clock)(hg:gKt k=false)(hp:crs k.clock.now t≤0): ∃(x:KTourn) (out:List Crt) (e:Int),(Ans D 46 [KT k,R t] [KT x,sl crow out,.i64 e]∧Ans D 131 [KT k,R t] [KT x,sl crow out,.i64 e])∧(gW x.clock∧x.brk.places.length≤1000∧x.brk.wins.length≤1000)∧out.length≤30000000:=by
 obtain⟨h,hu,⟨h1,h2,ho⟩,hall⟩:=FB hk h64;have hl:=h.ok.2.1;have hv:=hk.2.2.2.1;have hchk:=c78 h64 hg;rw[decide_eq_true hk] at hchk;have a:=c46 h hu h1 h2 hv ho hr ht hp hchk;have b:=X5 h hu h1 h2 hv ho hr ht hp hall;have ha:=gJ hl (kq hl h1 h2 hv ho) (t:=t) h;have e:edT k.clock.pts k.brk.places=fun t=>edsB (bracketOf t k.clock.pts k.brk.places).wins k.brk.places (bracketOf t k.clock.pts k.brk.places).wins.length:=rfl;unfold goT at a b;rw[e] at a b;cases hgo:fq (fun t=>edsB (bracketOf t k.clock.pts k.brk.places).wins k.brk.places (bracketOf t k.clock.pts k.brk.places).wins.length) t k.clock with
 |none=>rw[hgo] at a b;exact⟨zKT,[],18,⟨a,b⟩,⟨zC_w,bD _,bD _⟩,bD _⟩
 |some z=>
  obtain⟨d,out⟩:=z;rw[hgo] at a b ha;obtain⟨q1,q2,q3,_,q5⟩:=f6 (kq hl h1 h2 hv ho) 5000 k.clock [] d out h hp ha;have wl:=(gI (t:=t) hl h1 h2 hv ho).1;exact⟨⟨atC d t,bracketOf t k.clock.pts k.brk.places⟩,out,0,⟨a,b⟩,⟨vn (gW_of q1.ok),by show k.brk.places.length≤1000;omega,by show(bracketOf t k.clock.pts k.brk.places).wins.length≤1000;omega⟩,by rw[bJ] at q5;omega⟩
open Classical in
theorem go3 {k:Heater}(hk:fP k)(h64:c6 k.clock)(hg:gHt k=false)(hp:crs k.clock.now t≤0): ∃(x:Heater) (out:List Crt) (e:Int),(Ans D 47 [HT k,R t] [HT x,sl crow out,.i64 e]∧Ans D 132 [HT k,R t] [HT x,sl crow out,.i64 e])∧(gW x.clock∧x.tree.nodes.length≤1000)∧out.length≤30000000:=by
 obtain⟨h,hall⟩:=Jc hk h64;have hl:=h.ok.2.1;have hchk:=c79 h64 hg;rw[decide_eq_true hk] at hchk;have a:=c47 hchk h hk.2.1.symm hr ht hp;have b:=X4 h hk.2.1.symm hall hr ht hp;have ha:=gJ hl (mo hl) (t:=t) h;unfold goH at a b;cases hgo:fq (fun t=>edgsT (cart t k.clock.pts).nodes k.clock.pts.length) t k.clock with
 |none=>rw[hgo] at a b;exact⟨zHT,[],18,⟨a,b⟩,⟨zC_w,bD _⟩,bD _⟩
 |some z=>
  obtain⟨d,out⟩:=z;rw[hgo] at a b ha;obtain⟨q1,q2,q3,_,q5⟩:=f6 (mo hl) 5000 k.clock [] d out h hp ha;exact⟨⟨atC d t,cart t k.clock.pts⟩,out,0,⟨a,b⟩,⟨vn (gW_of q1.ok),by show(cart t k.clock.pts).nodes.length≤1000;rw[cart_len hl];have:=hl.1;omega⟩,by rw[bJ] at q5;omega⟩
open Classical in
theorem go4 {k:KHeap}(hk:fO k)(h64:c6 k.clock)(hg:gKh k=false)(hp:crs k.clock.now t≤0): ∃(x:KHeap) (out:List Crt) (e:Int),(Ans D 48 [KH k,R t] [KH x,sl crow out,.i64 e]∧Ans D 133 [KH k,R t] [KH x,sl crow out,.i64 e])∧(gW x.clock∧x.heap.length≤1000)∧out.length≤30000000:=by
 obtain⟨h,hall⟩:=Jb hk h64;have hl:=h.ok.2.1;have hchk:=c80 h64 hg;rw[decide_eq_true hk] at hchk;have a:=c48 hchk h hk.2.1.symm hr ht hp;have b:=X3 h hk.2.1.symm hall hr ht hp;have ha:=gJ hl (mn hl) (t:=t) h;unfold goU at a b;cases hgo:fq (fun t=>edgesU k.clock.pts (upsO t k.clock.pts)) t k.clock with
 |none=>rw[hgo] at a b;exact⟨zKH,[],18,⟨a,b⟩,⟨zC_w,bD _⟩,bD _⟩
 |some z=>
  obtain⟨d,out⟩:=z;rw[hgo] at a b ha;obtain⟨q1,q2,q3,_,q5⟩:=f6 (mn hl) 5000 k.clock [] d out h hp ha;exact⟨⟨atC d t,upsO t k.clock.pts⟩,out,0,⟨a,b⟩,⟨vn (gW_of q1.ok),by show(upsO t k.clock.pts).length≤1000;rw[ups_len];have:=hl.1;omega⟩,by rw[bJ] at q5;omega⟩
end
theorem gch_w {c:Choice}(hg:gCh c=false):ChW c:=by
 obtain⟨g1,g2,g3,g4⟩:=nz hg;obtain⟨b1,b2,b3⟩:=mh g2;have hh:=rm g3;exact⟨uZ g1,⟨gCl_w b1,by omega,by omega⟩,⟨gCl_w hh.1,by have:=hh.2;omega⟩,uZ g4⟩
section
variable {c:Choice}{t:Rt}
def Wnt (c:Choice)(t:Rt)(f g:FuncId):Prop:= ∃(x:Choice) (out:List Crt) (e:Int),(Ans D f [CHO c,R t] [CHO x,sl crow out,.i64 e]∧Ans D g [CHO c,R t] [CHO x,sl crow out,.i64 e])∧ChW x∧out.length≤30000000
theorem rJ {f g:FuncId}{x:Choice}{out:List Crt}{e:Int}(h1:Ans D f [CHO c,R t] (eZ x (sl crow out) e))(h2:Ans D g [CHO c,R t] (eZ x (sl crow out) e))(hx:ChW x)(ho:out.length≤30000000):Wnt c t f g:=by
 unfold eZ at h1 h2;by_cases he:e=0
 ·rw[if_pos he] at h1 h2;exact⟨x,out,0,⟨h1,h2⟩,hx,ho⟩
 ·rw[if_neg he] at h1 h2;exact⟨zCH,[],e,⟨h1,h2⟩,zCH_w,bD _⟩
open Classical in
theorem Yd (h64:Cho64 c)(hg:gCh c=false)(hok:iI c)(hr:rok t=true)(ht:In64 t)(ha:asked t=0)(hp:crs (ckOf c).now t≤0):Wnt c t 15 50:=by
 obtain⟨g1,g2,g3,g4⟩:=nz hg;obtain⟨w1,w2,w3,w4⟩:=gch_w hg;have hc:=phi (c26 h64 hg);rw[decide_eq_true hok,I7] at hc;have hq:=hok.2.1;unfold cY at hq;unfold ckOf at hp;by_cases t1:c.tag=1
 ·rw[if_pos t1] at hq hp;obtain⟨x,out,e,⟨a,b⟩,hx,ho⟩:=go1 hr ht hq h64.h1 g1 hp;exact rJ (a15_1 hc hr ht ha t1 a) (ST t1 b) ⟨hx,w2,w3,w4⟩ ho
 rw[if_neg t1] at hq hp;by_cases t2:c.tag=2
 ·rw[if_pos t2] at hq hp;obtain⟨x,out,e,⟨a,b⟩,hx,ho⟩:=go2 hr ht hq h64.h2 g2 hp;exact rJ (a15_2 hc hr ht ha t2 a) (SU t2 b) ⟨w1,hx,w3,w4⟩ ho
 rw[if_neg t2] at hq hp;by_cases t3:c.tag=3
 ·rw[if_pos t3] at hq hp;obtain⟨x,out,e,⟨a,b⟩,hx,ho⟩:=go3 hr ht hq h64.h3 g3 hp;exact rJ (a15_3 hc hr ht ha t3 a) (SX t3 b) ⟨w1,w2,hx,w4⟩ ho
 rw[if_neg t3] at hq hp;by_cases t4:c.tag=4
 ·rw[if_pos t4] at hq;obtain⟨x,out,e,⟨a,b⟩,hx,ho⟩:=go4 hr ht hq h64.h4 g4 hp;exact rJ (a15_4 hc hr ht ha t4 a) (SY t4 b) ⟨w1,w2,w3,hx⟩ ho
 ·rw[if_neg t4] at hq;exact hq.elim
open Classical in
theorem past (h64:Cho64 c)(hg:gCh c=false)(hok:iI c)(hr:rok t=true)(ht:In64 t)(ha:asked t=0)(hp:crs t (ckOf c).now<0):Ans D 15 [CHO c,R t] [CHO zCH,.sl [],.i64 44]:=by
 obtain⟨g1,g2,g3,g4⟩:=nz hg;have hc:=phi (c26 h64 hg);rw[decide_eq_true hok,I7] at hc;have hq:=hok.2.1;unfold cY at hq;unfold ckOf at hp;by_cases t1:c.tag=1
 ·rw[if_pos t1] at hq hp;have hchk:=c77 h64.h1 g1;rw[decide_eq_true hq] at hchk;exact a15_1 (k:=zKH) (e:=44) hc hr ht ha t1 (X8 hr ht hchk hq.1.1 h64.h1.1 hp)
 rw[if_neg t1] at hq hp;by_cases t2:c.tag=2
 ·rw[if_pos t2] at hq hp;have hchk:=c78 h64.h2 g2;rw[decide_eq_true hq] at hchk;exact a15_2 (k:=zKT) (e:=44) hc hr ht ha t2 (Ya hr ht hchk hq.1.1 h64.h2.1 hp)
 rw[if_neg t2] at hq hp;by_cases t3:c.tag=3
 ·rw[if_pos t3] at hq hp;have hchk:=c79 h64.h3 g3;rw[decide_eq_true hq] at hchk;exact a15_3 (k:=zHT) (e:=44) hc hr ht ha t3 (Yb hr ht hchk hq.1.1 h64.h3.1 hp)
 rw[if_neg t3] at hq hp;by_cases t4:c.tag=4
 ·rw[if_pos t4] at hq;have hchk:=c80 h64.h4 g4;rw[decide_eq_true hq] at hchk;exact a15_4 (k:=zKH) (e:=44) hc hr ht ha t4 (X9 hr ht hchk hq.1.1 h64.h4.1 hp)
 ·rw[if_neg t4] at hq;exact hq.elim
theorem n8:decide ((8:Int)=0)=false:=rfl
theorem n2:decide ((2:Int)=0)=false:=rfl
theorem b15 (hc:PhiS D 26 [CHO c]=some [.i64 8]):Ans D 15 [CHO c,R t] [CHO zCH,.sl [],.i64 8]:=by
 refine ans_of md s15 rfl ⟨1,?_⟩;unfold k15;simp only[den_lt,shCH,shRt,hc,EV,n8,aM,if_true,aggZ];rfl
theorem d15 (hc:PhiS D 26 [CHO c]=some [.i64 0])(ht:In64 t)(ha:asked t≠0):Ans D 15 [CHO c,R t] [CHO zCH,.sl [],.i64 (asked t)]:=by
 have m1:=phi (c43 ht);have m2:=phi (c44 ht);refine ans_of md s15 rfl ⟨1,?_⟩;unfold k15;cases hr:rok t with
 |false=>
  have e:asked t=8:=by unfold asked;rw[hr];rfl
  rw[hr,show okE false=8 from rfl] at m1
  simp only[den_lt,shCH,shRt,hc,m1,EV,decide_true,ak,ad,if_false,n8,aM,if_true,aggZ,e];rfl
 |true=>
  have e:asked t=2:=(Ft hr).resolve_left ha;rw[hr,show okE true=0 from rfl] at m1
  rw[e] at m2⊢;simp only[den_lt,shCH,shRt,hc,m1,m2,EV,decide_true,ak,ad,if_false,n2,aM,if_true,aggZ];rfl
theorem b16 (hc:PhiS D 27 [CHO c]=some [.i64 8]):Ans D 16 [CHO c,R t] [CHO zCH,.sl [],.i64 8]:=by
 refine ans_of vF s16 rfl ⟨1,?_⟩;unfold k16;simp only[den_lt,shCH,shRt,hc,EV,n8,aM,if_true,aggZ];rfl
theorem d16 (hc:PhiS D 27 [CHO c]=some [.i64 0]){e:Int}(h:Ans D 49 [CHO c,R t] [.i64 e])(he:e≠0):Ans D 16 [CHO c,R t] [CHO zCH,.sl [],.i64 e]:=by
 refine ans_of vF s16 rfl ⟨1,?_⟩;unfold k16;simp only[den_lt,shCH,shRt,hc,phi h,EV,decide_true,ak,ad,if_false,decide_eq_false he,aM,if_true,aggZ];rfl
theorem e16 (hc:PhiS D 27 [CHO c]=some [.i64 0])(h:Ans D 49 [CHO c,R t] [.i64 0]){x:Choice}{out:List Crt}{e:Int}(hw:Ans D 50 [CHO c,R t] [CHO x,sl crow out,.i64 e]):Ans D 16 [CHO c,R t] [CHO x,sl crow out,.i64 e]:=by
 refine ans_of vF s16 rfl ⟨1,?_⟩;unfold k16;simp only[den_lt,shCH,shRt,hc,phi h,phi hw,EV,decide_true,ak,ad,if_false]
open Classical in
theorem Ye (h64:Cho64 c)(hg:gCh c=false)(ht:In64 t):Wnt c t 15 16:=by
 have m26:=phi (c26 h64 hg);have m27:=phi (c27 h64 hg);by_cases hok:iI c
 ·rw[decide_eq_true hok,I7] at m26 m27;have h49:=c49 (c:=c) ht (I2 h64).1;unfold Je at h49;by_cases ha:asked t=0
  ·rw[if_pos ha] at h49;have hr:rok t=true:=by
    cases e:rok t with
    |true=>rfl
    |false=>unfold asked at ha;rw[e] at ha;cases ha
   by_cases hp:crs t (ckOf c).now<0
   ·rw[if_pos hp] at h49;exact⟨zCH,[],44,⟨past h64 hg hok hr ht ha hp,d16 m27 h49 (by decide)⟩,zCH_w,bD _⟩
   ·rw[if_neg hp] at h49;obtain⟨x,out,e,⟨a,b⟩,hx,ho⟩:=Yd h64 hg hok hr ht ha (by rw[crs_neg t];omega);exact⟨x,out,e,⟨a,e16 m27 h49 b⟩,hx,ho⟩
  ·rw[if_neg ha] at h49;exact⟨zCH,[],asked t,⟨d15 m26 ht ha,d16 m27 h49 ha⟩,zCH_w,bD _⟩
 ·rw[decide_eq_false hok] at m26 m27;exact⟨zCH,[],8,⟨b15 m26,b16 m27⟩,zCH_w,bD _⟩
end
theorem c18b {l:List Crt}(hl:l.length≤30000000):Ans D 18 [sl crow l,sl crow l] [.bool true]:=by
 refine ans_of Pa s18 rfl ⟨30000001,?_⟩;unfold k18;simp only[EV,aa,decide_true,ak,ad,if_false];refine(dQ (m:=30000001) (n:=l.length) (st:=fun i=>[.i64 (i:Int)]) (fin:=some [.bool true]) (fun k self hk=>?_) (fun self=>?_) (by omega))
 ·have hx:l[k]?=some l[k]:=ac _;unfold By;simp only[EV,aa,decide_eq_true_eq,if_lt hk,den_lt,tixM hx (lenC _),eltM hx,rowC,eqvC,decide_true,ak,ad,if_false,up1 (show k<1000000000 by omega)]
 ·unfold By;simp only[EV,aa,decide_eq_true_eq,if_ge,KE]
theorem chooseMoves {c:Choice}{t:Rt}(ht:In64 t)(h64:Cho64 c):Ans D 4 [CHO c,R t] [.bool true]:=by
 refine ans_of R7 s4 rfl ⟨1,?_⟩;unfold k4;have g2:=phi (c7 c);cases hg:gCh c with
 |true=>
  rw[hg] at g2;simp only[den_lt,shCH,shRt,EV,g2,if_true]
 |false=>
  rw[hg] at g2;obtain⟨x,out,e,⟨a,b⟩,hx,ho⟩:=Ye h64 hg ht;have m12:=phi (c12 (ckOf c).pts);by_cases h10:10<(ckOf c).pts.length
  ·rw[decide_eq_true h10] at m12;simp only[den_lt,shCH,shRt,EV,g2,ad,if_false,phi (c13 c),pCL2,m12,if_true]
  ·rw[decide_eq_false h10] at m12;simp only[den_lt,shCH,shRt,EV,g2,ad,if_false,phi (c13 c),pCL2,m12,phi (c14 hg),phi a,phi b,phi (c17 hx),phi (c18b ho),phi (c17 (gch_w hg)),decide_true,if_true,k4_1]
end Go.Proofs.YtfghdmmapmdcgaaGreat
