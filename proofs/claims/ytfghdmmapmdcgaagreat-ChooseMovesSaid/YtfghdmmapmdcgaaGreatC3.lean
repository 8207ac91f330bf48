import Derived.Test.YtfghdmmapmdcgaaGreatC2
import Derived.Test.YtfghdmmapmdcgaaGreatP1
set_option linter.unusedVariables false
set_option linter.unusedSimpArgs false
set_option linter.defProp false
noncomputable section
namespace Go.Proofs.YtfghdmmapmdcgaaGreat
open Go.Sym Bnd
set_option maxRecDepth 100000
def ldF (t:Rt)(l:List Pt)(i j:Nat):Bool:=leads t ((l[i]?).getD ⟨0,0,0⟩) ((l[j]?).getD ⟨0,0,0⟩)
theorem ldF_get {t:Rt}{l:List Pt}{i j:Nat}{p q:Pt}(hp:l[i]?=some p)(hq:l[j]?=some q):ldF t l i j=leads t p q:=by
 unfold ldF;rw[hp,hq];rfl
theorem dr {t:Rt}{l:List Pt}(hs:eN l):Lin (ldF t l) l.length where
 asymm:=fun i j h=>cZ h
 trans:=fun i j k h1 h2=>gU h1 h2
 total:=fun i j hi hj hne=>by
  unfold ldF;refine leads_total ?_;rw[ac hi,ac hj];intro e;refine hne (nodup_get.1 (risen_ids hs) i j l[i].id ?_ ?_)
  ·rw[aI,ac hi];rfl
  ·rw[aI,ac hj,aZ];exact congrArg some e.symm
def mkN (l:List Pt)(lk:List (Int×Int)):List Nod:=(l.zip lk).map fun x=>⟨x.1.id,x.2.1,x.2.2⟩
theorem mkN_len (l:List Pt)(lk:List (Int×Int))(h:lk.length≤l.length):(mkN l lk).length=lk.length:=by simp[mkN,cv];omega
theorem fZ {l:List Pt}{lk:List (Int×Int)}{i:Nat}{p:Pt}{x:Int×Int}(hp:l[i]?=some p)(hx:lk[i]?=some x):(mkN l lk)[i]?=some ⟨p.id,x.1,x.2⟩:=by
 unfold mkN;rw[aI,(gi (l₁:=l) (l₂:=lk) (z:=(p,x))).2 ⟨hp,hx⟩];rfl
def cart (t:Rt)(l:List Pt):Tree:=⟨(cmake (ldF t l) l.length).2.1,mkN l (cmake (ldF t l) l.length).2.2⟩
theorem W4 {l:List Pt}{t:Rt}(h:okF l)(ht:In64 t)(hr:rok t=true):Ans D 303 [F l,R t] [.i64 0]:=by
 have h1:=phi (vN l);rw[fD.2 h] at h1;have h2:=phi (c43 ht);rw[hr] at h2;have e0:okE true=0:=rfl;rw[e0] at h2;refine ans_of k303_ok s303 rfl ⟨1,?_⟩;unfold k303;simp only[den_lt,shapeF,shapeR,EV,h1,h2,decide_true,ak,ad,if_false]
def ln (l:List Nat):List Int:=l.map fun n:Nat=>(n:Int)
theorem vZ {l:List Pt}{t:Rt}(h:okF l)(ht:In64 t)(hr:rok t=true){N:Nat}{i:Nat}{p:Pt}(hp:l[i]?=some p){f0 f1 f2:JT}{e0 e1 e4 e5 e6 e7 e8 e9 e10 e13 e14 e15 e16 e17:PV}{E:List Int}(hE:E.length≤1000): ∀(rem:List Nat) (m:Nat) (left:Int),rem.length<m→(∀(k:Nat) (e:Nat),rem.reverse[k]?=some e→E[k]?=some (e:Int))→(∀e∈rem,e<i)→rem.length≤E.length→
  denW (PhiS D) N k220_4 [f0,f1,f2] [e0,e1,F l,R t,e4,e5,e6,e7,e8,e9,e10,sl I1 E,.i64 (E.length:Int),e13,e14,e15,e16,e17,PP p] m [.i64 (rem.length:Int),.i64 left]=
   f2 [.i64 (popAll (ldF t l) i rem left).2,.i64 ((popAll (ldF t l) i rem left).1.length:Int),.bool (decide (0<(popAll (ldF t l) i rem left).1.length))]
 |[],m,left,hm,_,_,_=>by
  obtain⟨m,rfl⟩: ∃m',m=m'+1:=⟨m-1,by omega⟩;rw[denW_succ];unfold k220_4 popAll;simp only[EV,bJ,cO,decide_eq_true_eq];rw[if_neg (by omega)];rfl
 |e::es,m,left,hm,hk,hlt,hEl=>by
  obtain⟨m,rfl⟩: ∃m',m=m'+1:=⟨m-1,by omega⟩;have hee:E[es.length]?=some (e:Int):=hk es.length e (by rw[gR,bg (by simp)];simp);simp only[aD] at hm hEl;obtain⟨q,hq⟩: ∃q,l[e]?=some q:=⟨l[e]'(by have:=hlt e (by simp);have:=get_lt hp;omega),ac _⟩;have hne:q.id≠p.id:=by have:=eO h.2.2 (hlt e (by simp)) hq hp;omega
  have hA:=phi (A8 (p:=q) (q:=p) ht);rw[if_pos (ik (okF_pt h hq) (okF_pt h hp) hr hne),←ldF_get hq hp] at hA;have ih:=vZ h ht hr (N:=N) hp (f0:=f0) (f1:=f1) (f2:=f2) (e0:=e0) (e1:=e1) (e4:=e4) (e5:=e5) (e6:=e6) (e7:=e7) (e8:=e8) (e9:=e9) (e10:=e10) (e13:=e13) (e14:=e14) (e15:=e15) (e16:=e16) (e17:=e17) hE es m (e:Int) (by omega) (fun k e' hke=>hk k e' (by
   rw[gR,aw (get_lt hke)];exact hke)) (fun x hx=>hlt x (aF _ hx)) (by omega)
  rw[denW_succ];generalize hkk:k220_4=kk at ih;subst hkk;unfold k220_4 popAll;have d1:IntKind.i64.wrap (((es.length+1:Nat):Int)-1)=(es.length:Int):=m9 (by omega);have bn:RF.ev .bnd [.v (.int .i64 (es.length:Int)),.v (.int .i64 (E.length:Int))]=some (.i64 (es.length:Int)):=by rw[gZ,if_pos ⟨by omega,by omega⟩]
  have g0:decide ((0:Int)<((es.length+1:Nat):Int))=true:=decide_eq_true (by omega);simp only[EV,aD,g0,eq_self,if_true,d1,ixM (show es.length<es.length+1 by omega),eltM hee,rowI,den_lt,cellF,tixM hq (row_len _),eltM hq,rowP,hA,bn]
  cases hL:ldF t l e i with
  |true=>
   simp only[if_true,aD];rw[show decide (0<es.length+1)=true from decide_eq_true (by omega)]
  |false=>
   simp only[ad,if_false];exact ih
theorem Fi {l:List Nat}{k e:Nat}(h:l[k]?=some e):(ln l)[k]?=some (e:Int):=by
 unfold ln;rw[aI,h];rfl
theorem Kj {l:List Nod}{i:Nat}{n:Nod}(h:l[i]?=some n)(r:Int):RF.ev (.set 2) [sl nrow l,.v (.int .i64 (i:Int)),.v (.int .i64 r)]=some (sl nrow (l.set i ⟨n.id,n.left,r⟩)):=by
 rw[qb,if_pos (by omega),aq,aI,h];simp only[aZ,show(PV.v (.int .i64 r)).cells=[.v (.int .i64 r)] from rfl,az,show(nrow n).length=3 from rfl,Nat.reduceAdd,am,if_true]
 exact congrArg (fun x=>some (PV.sl x)) (gB (f:=nrow) (l:=l) (i:=i) (a:=⟨n.id,n.left,r⟩)).symm
theorem bsN (n:Nod):RF.ev (.bs 1 [KP.z,KP.z,KP.z] [0]) [NP n]=some (sl nrow [n]):=rfl
theorem subN1 (n:Nod):RF.ev .sub [sl nrow [n],.v (.int .i64 0),.v (.int .i64 1)]=some (sl nrow [n]):=rfl
theorem aggN (a b c:Int):RF.ev .agg [.i64 a,.i64 b,.i64 c]=some (NP ⟨a,b,c⟩):=rfl
theorem mkN_set {l:List Pt}{lk:List (Int×Int)}{e:Nat}{p:Pt}{x:Int×Int}{r:Int}(hp:l[e]?=some p)(hx:lk[e]?=some x):(mkN l lk).set e ⟨p.id,x.1,r⟩=mkN l (lk.modify e fun x=>(x.1,r)):=by
 refine b9 fun k=>?_;have hlen:(lk.modify e fun x=>(x.1,r)).length=lk.length:=bN ..;by_cases hk:k<l.length∧k<lk.length
 ·have h1:=ac hk.1;have h2:=ac hk.2;by_cases e':k=e
  ·subst e';rw[aC (by simp[mkN,cv];omega)];rw[fZ hp (x:=(x.1,r)) (by rw[dH,hx];rfl)]
  ·rw[aE (by omega),fZ h1 h2,fZ h1 (x:=lk[k]) (by rw[cM _ _ (by omega)];exact h2)]
 ·rw[bk (by simp[mkN,cv];omega),bk (by simp[mkN,cv];omega)]
theorem mkN_app {l:List Pt}{lk:List (Int×Int)}{p:Pt}{x:Int×Int}(hp:l[lk.length]?=some p):mkN l lk++[⟨p.id,x.1,x.2⟩]=mkN l (lk++[x]):=by
 unfold mkN;have hlt:=get_lt hp;have:l.zip (lk++[x])=l.zip lk++[(p,x)]:=by
  have h1:l=l.take lk.length++l.drop lk.length:=(d6 _ _).symm;have h2:l.drop lk.length=p::l.drop (lk.length+1):=by
   rw[bG hlt,(aj.1 hp).2]
  rw[h1,List.zip_append (by rw[aH];omega),h2];rw[←aJ lk];rw[aJ]
  conv=>rhs;rw[show l.take lk.length++p::l.drop (lk.length+1)=l.take lk.length++([p]++l.drop (lk.length+1)) from rfl]
  rw[show lk=lk++[] by simp,List.zip_append (by rw[aH,aJ];omega)]
  simp
 rw[this,dg];rfl
theorem Fj (l:List Nat)(n:Nat):ln (l++[n])=ln l++[(n:Int)]:=by simp[ln]
def ce (t:Rt)(l:List Pt):Nat→List Int
 |0=>[]
 |i+1=>(ce t l i).take (popAll (ldF t l) i (cmake (ldF t l) i).1 (-1)).1.length++[(i:Int)]++(ce t l i).drop ((popAll (ldF t l) i (cmake (ldF t l) i).1 (-1)).1.length+1)
theorem Bl (ld:Nat→Nat→Bool)(i:Nat)(s:List Nat×Int×List (Int×Int)):(lJ ld i s).1=i::(popAll ld i s.1 (-1)).1:=by
 unfold lJ;split
 ·rename_i e;rw[e]
 ·rename_i e;rw[e]
theorem Kk (t:Rt)(l:List Pt): ∀i,(ce t l i).take (cmake (ldF t l) i).1.length=ln (cmake (ldF t l) i).1.reverse∧(cmake (ldF t l) i).1.length≤(ce t l i).length∧(ce t l i).length≤i
 |0=>⟨rfl,am _,am _⟩
 |i+1=>by
  obtain⟨h1,h2,h3⟩:=Kk t l i;have hs:cmake (ldF t l) (i+1)=lJ (ldF t l) i (cmake (ldF t l) i):=rfl;rw[hs,Bl];obtain⟨gone,p1,_⟩:=iT (ld:=ldF t l) i (cmake (ldF t l) i).1 (-1);unfold ce;generalize (popAll (ldF t l) i (cmake (ldF t l) i).1 (-1)).1=kept at p1;generalize (cmake (ldF t l) i).1=edge at p1 h1 h2;have hk:kept.length≤edge.length:=by rw[p1,an];omega
  have h4:(ce t l i).take kept.length=ln kept.reverse:=by
   have:(ce t l i).take kept.length=((ce t l i).take edge.length).take kept.length:=by rw[b8,bi hk]
   rw[this,h1,p1,oy];unfold ln;rw[dg,gj (by simp)]
  have hl:((ce t l i).take kept.length).length=kept.length:=by rw[aH];omega
  refine⟨?_,?_,?_⟩
  ·rw[cd (by simp;omega),aR (by simp;omega),h4,gR,Fj]
  ·simp;omega
  ·simp;omega
def cst (t:Rt)(l:List Pt)(i:Nat):List PV:=
 [.i64 (cmake (ldF t l) i).2.1,sl nrow (mkN l (cmake (ldF t l) i).2.2),.i64 (i:Int),sl I1 (ce t l i),.i64 ((ce t l i).length:Int),.i64 ((cmake (ldF t l) i).1.length:Int),.i64 (i:Int)]
theorem W5 {E:List Int}{n:Nat}{x:Int}(h:n≤E.length)(hE:E.length≤1000):RF.ev (.appK 8 1) [sl I1 E,.v (.int .i64 (n:Int)),sl I1 [x]]=some (sl I1 (E.take n++[x]++E.drop (n+1))):=by
 show(if(0:Int)≤n∧(n:Int)≤((E.map I1).length:Nat)∧((n:Int).toNat+([x].map I1).length)*8≤140737488355328∧elsOk' 1 ([x].map I1)=true then some (PV.sl ((E.map I1).take (n:Int).toNat++[x].map I1++(E.map I1).drop ((n:Int).toNat+([x].map I1).length))) else none)=_
 rw[if_pos ⟨by omega,by simp;omega,by simp;omega,rfl⟩];simp
theorem W6 {l:List Pt}{t:Rt}(h:okF l)(ht:In64 t)(hr:rok t=true):Ans D 220 [F l,R t] [TR (cart t l),.i64 0]:=by
 have hl:=h.1;refine ans_of Ms Uv rfl ⟨1001,?_⟩;unfold CN;simp only[den_lt,shapeF,shapeR,cellF,EV,aa,phi (W4 h ht hr),decide_true,ak,ad,if_false];have e0:([PV.v (.int .i64 (-1)),.sl [],.v (.int .i64 0),.sl [],.v (.int .i64 0),.v (.int .i64 0),.v (.int .i64 0)]:List PV)=cst t l 0:=by simp[cst,cmake,mkN,ce]
 rw[e0];refine(dQ (m:=1001) (n:=l.length) (st:=cst t l) (fin:=some [TR (cart t l),.i64 0]) (fun i self hi=>?_) (fun self=>?_) (by omega))
 ·obtain⟨p,hp⟩: ∃p,l[i]?=some p:=⟨l[i],ac _⟩;have I:=ek (dr (t:=t) h.2.2) i (by omega);obtain⟨ce1,ce2,ce3⟩:=Kk t l i;unfold cst;have hs:cmake (ldF t l) (i+1)=lJ (ldF t l) i (cmake (ldF t l) i):=rfl;have hce:ce t l (i+1)=(ce t l i).take (popAll (ldF t l) i (cmake (ldF t l) i).1 (-1)).1.length++[(i:Int)]++(ce t l i).drop ((popAll (ldF t l) i (cmake (ldF t l) i).1 (-1)).1.length+1):=rfl;rw[hs,hce];generalize cmake (ldF t l) i=s at I ce1 ce2;generalize ce t l i=E at ce1 ce2 ce3;obtain⟨edge,root,lk⟩:=s;obtain⟨desc,mem,_,len,_⟩:=I;simp only at desc mem len ce1 ce2;have helt: ∀e∈edge,e<i:=fun e he=>((mem e).1 he).1;have hk: ∀(k:Nat) (e:Nat),edge.reverse[k]?=some e→E[k]?=some (e:Int):=fun k e hk=>by
   have h1:=Fi hk;rw[←ce1,cu] at h1;split at h1
   ·exact h1
   ·cases h1
  unfold xF;simp only[EV,decide_eq_true_eq,if_lt hi,den_lt,cellF,tixM hp (row_len _),eltM hp,rowP];refine(vZ h ht hr hp (E:=E) (by omega) edge 1001 (-1) (by omega) hk helt ce2).trans ?_;obtain⟨gone,p1,_,_,_⟩:=iT (ld:=ldF t l) i edge (-1);unfold lJ;simp only;generalize popAll (ldF t l) i edge (-1)=pr at p1;obtain⟨kept,y⟩:=pr;simp only at p1;have hkl:kept.length≤E.length:=by rw[p1,an] at ce2;omega
  have hkl':kept.length≤1000:=by omega
  have hpl:l[lk.length]?=some p:=by rw[len];exact hp
  have u1:=up1 (show i<1000000000 by omega)
  have uk:((kept.length:Int)+((1:Nat):Int))=((kept.length+1:Nat):Int):=by omega
  simp only[EV];unfold GP;simp only[EV,Int.natCast_pos,gt_iff_lt];have ae:=W5 (E:=E) (n:=kept.length) (x:=(i:Int)) hkl (by omega);cases kept with
  |nil=>
   simp only[bJ,cp,decide_false,ad,if_false,EV,cO];have ap:RF.ev (.app 24 3) [sl nrow (mkN l lk),.v (.int .i64 (i:Int)),sl nrow [⟨p.id,y,-1⟩]]=some (sl nrow (mkN l (lk++[(y,-1)]))):=by
    have:=dc (f:=nrow) (l:=mkN l lk) (k:=[⟨p.id,y,-1⟩]) (bytes:=24) (z:=3) (by rw[mkN_len _ _ (by omega)];simp;omega) lenN;rw[mkN_len _ _ (by omega),len] at this;rw[this,←mkN_app (x:=(y,-1)) hpl]
   simp only[bJ,cO] at ae;unfold k220_2;simp only[den_lt,cellP0,aggN,bsN,subN1,ae,ap,bsI,subI1,EV,aa,u1,mkN_len _ _ (show(lk++[(y,-1)]).length≤l.length by simp;omega),an,len,az,aD,bJ,be]
   rfl
  |cons e es=>
   have hee:E[es.length]?=some (e:Int):=hk es.length e (by
    rw[p1,oy,gR,aw (by simp),bg (by simp)];simp)
   have hei:e<i:=helt e (by rw[p1];simp);obtain⟨q,hq⟩: ∃q,l[e]?=some q:=⟨l[e]'(by omega),ac _⟩;obtain⟨x,hx⟩: ∃x,lk[e]?=some x:=⟨lk[e]'(by omega),ac _⟩;have hnod:=fZ hq hx;have g0:decide (0<(e::es).length)=true:=by simp
   have d1:IntKind.i64.wrap (((es.length+1:Nat):Int)-1)=(es.length:Int):=m9 (by simp at hkl';omega);have ap:RF.ev (.app 24 3) [sl nrow (mkN l (lk.modify e fun x=>(x.1,(i:Int)))),.v (.int .i64 (i:Int)),sl nrow [⟨p.id,y,-1⟩]]=some (sl nrow (mkN l ((lk.modify e fun x=>(x.1,(i:Int)))++[(y,-1)]))):=by
    have:=dc (f:=nrow) (l:=mkN l (lk.modify e fun x=>(x.1,(i:Int)))) (k:=[⟨p.id,y,-1⟩]) (bytes:=24) (z:=3) (by rw[mkN_len _ _ (by rw[bN];omega),bN];simp;omega) lenN;rw[mkN_len _ _ (by rw[bN];omega),bN,len] at this;rw[this,←mkN_app (x:=(y,-1)) (by rw[bN];exact hpl)]
   simp only[g0,if_true,EV,aD,d1,ixM (show es.length<es.length+1 by omega),eltM hee,rowI,ixM hei,Kj hnod,mkN_set hq hx]
   unfold k220_2;simp only[aD] at ae uk;simp only[den_lt,cellP0,aggN,ae,ap,bsN,subN1,bsI,subI1,EV,aa,u1,uk,aD,mkN_len _ _ (show((lk.modify e fun x=>(x.1,(i:Int)))++[(y,-1)]).length≤l.length by simp;omega),an,bN,len,az,bJ,be]
   rw[if_pos (decide_eq_true (by omega))]
 ·unfold cst xF;have hlk:(cmake (ldF t l) l.length).2.2.length=l.length:=(ek (dr (t:=t) h.2.2) l.length (by omega)).len;have hs:=subM (f:=nrow) (l:=mkN l (cmake (ldF t l) l.length).2.2);rw[mkN_len _ _ (by omega),hlk] at hs;have ag:RF.ev .agg [.i64 (cmake (ldF t l) l.length).2.1,sl nrow (mkN l (cmake (ldF t l) l.length).2.2)]=some (TR (cart t l)):=rfl;simp only[EV,decide_eq_true_eq,if_ge,GO,hs,ag]
def nodC (i:Nat)(n:Nod):Bool:=decide (n.left=(i:Int))||decide (n.right=(i:Int))
def lS (l:List Nod)(i:Nat):Int:=((l[i]?).map Nod.id).getD 0
theorem kA {l:List Nod}{i:Nat}{n:Nod}(h:l[i]?=some n):lS l i=n.id:=by unfold lS;rw[h];rfl
def edgT (l:List Nod)(i:Nat):List Crt:=match l.findIdx? (nodC i) with|some k=>[⟨lS l i,lS l k⟩]|none=>[]
def edgsT (l:List Nod)(n:Nat):List Crt:=(List.range n).flatMap (edgT l)
theorem jZ (l:List Nod)(n:Nat):edgsT l (n+1)=edgsT l n++edgT l n:=by
 unfold edgsT;rw[lN,ov];simp
theorem il (l:List Nod): ∀n,(edgsT l n).length≤n
 |0=>by simp[edgsT]
 |n+1=>by
  have:=il l n;rw[jZ,an];unfold edgT;split<;>simp<;>omega
def u7 (l:List Nod):Prop:= ∀(i k k':Nat) (x x':Nod),l[k]?=some x→nodC i x=true→l[k']?=some x'→nodC i x'=true→k=k'
theorem Sj (n:Nod):rowPart 1 0 (nrow n)=some (.i64 n.left):=rfl
theorem Sk (n:Nod):rowPart 2 0 (nrow n)=some (.i64 n.right):=rfl
theorem rowN0 (n:Nod):rowPart 0 0 (nrow n)=some (.i64 n.id):=rfl
theorem IW {l:List Nod}(h:u7 l)(i:Nat):(l.filter (nodC i)).map (fun n=>(⟨lS l i,n.id⟩:Crt))=edgT l i:=by
 rw[qq (fun k k' x x' h1 h2 h3 h4=>h i k k' x x' h1 h2 h3 h4)];unfold edgT;cases e:l.findIdx? (nodC i) with
 |none=>rfl
 |some k=>
  obtain⟨hk,_,_⟩:=ba.1 e;have:=ac hk;simp only;rw[this,kA this];rfl
theorem Qb {x:Tree}(h:u7 x.nodes)(hl:x.nodes.length≤1000):Ans D 178 [TR x] [sl crow (edgsT x.nodes x.nodes.length)]:=by
 refine ans_of Mc Uf rfl ⟨1001,?_⟩;unfold Cw;simp only[den_lt,shTR,EV];have e0:([PV.sl [],.v (.int .i64 0),.v (.int .i64 0)]:List PV)=[sl crow (edgsT x.nodes 0),.i64 ((edgsT x.nodes 0).length:Int),.i64 ((0:Nat):Int)]:=rfl;rw[e0];refine(dQ (m:=1001) (n:=x.nodes.length) (st:=fun i=>[sl crow (edgsT x.nodes i),.i64 ((edgsT x.nodes i).length:Int),.i64 (i:Int)]) (fin:=some [sl crow (edgsT x.nodes x.nodes.length)]) (fun i self hi=>?_) (fun self=>?_) (by omega))
 ·obtain⟨n,hn⟩: ∃n,x.nodes[i]?=some n:=⟨x.nodes[i],ac _⟩;have hel:=il x.nodes i;unfold xx;simp only[den_lt,cTR1,EV,aa,decide_eq_true_eq,if_lt hi];have e1:([sl crow (edgsT x.nodes i),PV.i64 ((edgsT x.nodes i).length:Int),.v (.int .i64 0)]:List PV)=[sl crow (edgsT x.nodes i++[]),.i64 ((edgsT x.nodes i++[]).length:Int),.i64 ((0:Nat):Int)]:=by rw[aJ];rfl
  rw[e1];refine(er (m:=1001) (l:=x.nodes) (g:=fun acc m=>if nodC i m=true then acc++[⟨n.id,m.id⟩] else acc) (I:=fun k acc=>acc.length≤k) (S:=fun acc k=>[sl crow (edgsT x.nodes i++acc),.i64 ((edgsT x.nodes i++acc).length:Int),.i64 (k:Int)]) (fin:=fun acc=>self [sl crow (edgsT x.nodes i++acc),.i64 ((edgsT x.nodes i++acc).length:Int),.i64 ((i+1:Nat):Int)]) (x:=[]) (by simp) (fun k a acc _ h=>by
   split
   ·rw[an,az];omega
   ·omega) (fun k m acc self' hm hI=>?_) (fun acc self' hI=>?_) (by omega)).1.trans ?_
  ·have hk:=get_lt hm;have fin: ∀(e14 e15 e16 e17:PV) (b:Bool),b=nodC i m→den (PhiS D) 1001 xv
     [jR (PhiS D) 1001 rR [] [TR x,TR x],self,jR (PhiS D) 1001 xu [jR (PhiS D) 1001 rR [] [TR x,TR x],self] [TR x,TR x,sl crow (edgsT x.nodes i),.i64 ((edgsT x.nodes i).length:Int),.i64 (i:Int),sl nrow x.nodes,.v (.int .i64 (x.nodes.length:Int)),.v (.bool (decide ((i:Int)<(x.nodes.length:Int))))],self']
     [TR x,TR x,sl crow (edgsT x.nodes i),.i64 ((edgsT x.nodes i).length:Int),.i64 (i:Int),sl nrow x.nodes,.v (.int .i64 (x.nodes.length:Int)),.v (.bool (decide ((i:Int)<(x.nodes.length:Int)))),sl crow (edgsT x.nodes i++acc),.i64 ((edgsT x.nodes i++acc).length:Int),.i64 (k:Int),sl nrow x.nodes,.v (.int .i64 (x.nodes.length:Int)),.v (.bool (decide ((k:Int)<(x.nodes.length:Int)))),e14,e15,e16,e17,.v (.bool b)]=
     self' [sl crow (edgsT x.nodes i++if nodC i m=true then acc++[⟨n.id,m.id⟩] else acc),.i64 ((edgsT x.nodes i++if nodC i m=true then acc++[⟨n.id,m.id⟩] else acc).length:Int),.i64 ((k+1:Nat):Int)]:=fun e14 e15 e16 e17 b hb=>by
    subst hb;unfold xv;simp only[EV];cases nodC i m with
    |true=>
     have ap:=dc (f:=crow) (l:=edgsT x.nodes i++acc) (k:=[⟨n.id,m.id⟩]) (bytes:=16) (z:=2) (by rw[an];simp;omega) lenC;rw[aO] at ap;simp only[if_true,den_lt,cTR1,tixM hn (lenN _),eltM hn,tixM hm (lenN _),eltM hm,rowN0,aggC,bsC,subC1,ap,EV,aa,k178_3,up1 (show k<1000000000 by omega)]
    |false=>
     simp only[ad,if_false,EV,k178_3,up1 (show k<1000000000 by omega)]
   unfold xw;simp only[den_lt,cTR1,tixM hm (lenN _),eltM hm,Sj,Sk,EV,aa,decide_eq_true_eq,if_lt hk];by_cases c1:m.left=(i:Int)
   ·rw[if_pos c1];exact fin _ _ _ _ true (by unfold nodC;rw[decide_eq_true c1];rfl)
   ·rw[if_neg c1];exact fin _ _ _ _ _ (by unfold nodC;rw[decide_eq_false c1,jS])
  ·unfold xw;simp only[den_lt,cTR1,EV,aa,decide_eq_true_eq,if_ge,xu,up1 (show i<1000000000 by omega)]
  ·rw[jZ];have:x.nodes.foldl (fun acc m=>if nodC i m=true then acc++[(⟨n.id,m.id⟩:Crt)] else acc) []=edgT x.nodes i:=by
    rw[←IW h i,kA hn];have: ∀(l:List Nod) (acc:List Crt),l.foldl (fun acc m=>if nodC i m=true then acc++[(⟨n.id,m.id⟩:Crt)] else acc) acc=acc++(l.filter (nodC i)).map (fun m=>⟨n.id,m.id⟩):=by
     intro l;induction l with
     |nil=>simp
     |cons a l ih=>
      intro acc;rw[bI,ih,bE];cases nodC i a<;>simp
    rw[this,ax]
   rw[this]
 ·unfold xx;simp only[den_lt,cTR1,EV,aa,decide_eq_true_eq,if_ge,rR,subM]
theorem um (x:Int×Int): ∀(l:List (Int×Int)) (j:Nat) (u:List Int),upArr (l++[x]) j u=upArr [x] (j+l.length) (upArr l j u)
 |[],j,u=>rfl
 |y::l,j,u=>by
  show upArr (l++[x]) (j+1) _=_
  rw[um x l];show _=upArr [x] (j+(l.length+1)) (upArr l (j+1) _)
  rw[show j+1+l.length=j+(l.length+1) by omega]
theorem IX (i n:Nat)(h:i<n):(List.replicate i (-1:Int)++List.replicate (n-i) 0).set i (-1)=List.replicate (i+1) (-1)++List.replicate (n-(i+1)) 0:=by
 refine b9 fun k=>?_;simp only[List.getElem?_set,ef,bX,an,aQ]
 repeat' split
 all_goals first|rfl|omega
theorem fG {l:List Pt}{t:Rt}(h:okF l){k:Nat}{x:Int×Int}(hx:(cmake (ldF t l) l.length).2.2[k]?=some x): ∃n,(cart t l).nodes[k]?=some n∧n.left=x.1∧n.right=x.2∧ ∃p,l[k]?=some p∧n.id=p.id:=by
 have hlen:(cmake (ldF t l) l.length).2.2.length=l.length:=(ek (dr (t:=t) h.2.2) l.length (by omega)).len;obtain⟨p,hp⟩: ∃p,l[k]?=some p:=⟨l[k]'(by have:=get_lt hx;omega),ac _⟩;exact⟨_,fZ hp hx,rfl,rfl,p,hp,rfl⟩
theorem jC {n:Nod}{x:Int×Int}(h1:n.left=x.1)(h2:n.right=x.2)(i:Nat):nodC i n=decide (ic x i):=by
 unfold nodC;rw[h1,h2,cj];simp only[ct,decide_eq_true_eq];exact Iff.rfl
theorem Fk {l:List Pt}{t:Rt}(h:okF l)(i:Nat):(cmake (ldF t l) l.length).2.2.findIdx? (fun x=>decide (ic x i))=(cart t l).nodes.findIdx? (nodC i):=by
 have hlen:(cmake (ldF t l) l.length).2.2.length=l.length:=(ek (dr (t:=t) h.2.2) l.length (by omega)).len;have hnl:(cart t l).nodes.length=l.length:=by unfold cart;rw[mkN_len _ _ (by omega)];exact hlen
 cases e:(cart t l).nodes.findIdx? (nodC i) with
 |none=>
  rw[bO] at e⊢;intro x hx;obtain⟨k,hk⟩:=aA.1 hx;obtain⟨n,a1,a2,a3,_⟩:=fG h hk;rw[←jC a2 a3];exact e n (ah a1)
 |some k=>
  rw[ba] at e⊢;obtain⟨e1,e2,e3⟩:=e;have hk:=ac (show k<(cmake (ldF t l) l.length).2.2.length by omega)
  refine⟨by omega,?_,fun j hj=>?_⟩
  ·obtain⟨n,a1,a2,a3,_⟩:=fG h hk;rw[←jC a2 a3];rw[ac e1] at a1;cases a1;exact e2
  ·have hj':=ac (show j<(cmake (ldF t l) l.length).2.2.length by omega)
   obtain⟨n,a1,a2,a3,_⟩:=fG h hj';rw[←jC a2 a3];rw[ac (by omega)] at a1;have a1:=eX a1;rw[←a1];exact e3 j hj
theorem c125 {l:List Pt}{t:Rt}(h:okF l)(ht:In64 t)(hr:rok t=true)(hone:u7 (cart t l).nodes)(hlk: ∀x∈(cmake (ldF t l) l.length).2.2,x.1<l.length∧x.2<l.length):Ans D 125 [F l,R t] [TR (cart t l),sl crow (edgsT (cart t l).nodes l.length)]:=by
 have hl:=h.1;have hlen:(cmake (ldF t l) l.length).2.2.length=l.length:=(ek (dr (t:=t) h.2.2) l.length (by omega)).len;have hnl:(cart t l).nodes.length=l.length:=by unfold cart;rw[mkN_len _ _ (by omega)];exact hlen
 refine ans_of LJ TK rfl ⟨1001,?_⟩;unfold B2;have rp:=vW (n:=(cart t l).nodes.length) (by omega);simp only[den_lt,shapeF,shapeR,phi (W6 h ht hr),shTR,cTR1,EV,aa,rp,aQ];have e0:([sl I1 (List.replicate (cart t l).nodes.length 0),.v (.int .i64 0)]:List PV)=[sl I1 (List.replicate 0 (-1)++List.replicate ((cart t l).nodes.length-0) 0),.i64 ((0:Nat):Int)]:=rfl;rw[e0];refine dQ (m:=1001) (n:=(cart t l).nodes.length) (st:=fun i=>[sl I1 (List.replicate i (-1)++List.replicate ((cart t l).nodes.length-i) 0),.i64 (i:Int)]) (fun i self hi=>?_) (fun self=>?_) (by omega)
 ·unfold tA;simp only[EV,decide_eq_true_eq,if_lt hi,ixM hi,setI (l:=List.replicate i (-1)++List.replicate ((cart t l).nodes.length-i) 0) (i:=i) (by simp;omega),IX i _ hi,up1 (show i<1000000000 by omega)]
 unfold tA;simp only[EV,decide_eq_true_eq,if_ge,FY,den_lt,cTR1,aa,fC,List.replicate_zero,aJ];generalize hLK:(cmake (ldF t l) l.length).2.2=lk at*;have e1:([sl I1 (List.replicate (cart t l).nodes.length (-1)),.v (.int .i64 0)]:List PV)=[sl I1 (upArr (lk.take 0) 0 (List.replicate (cart t l).nodes.length (-1))),.i64 ((0:Nat):Int)]:=rfl;rw[e1];refine dQ (m:=1001) (n:=(cart t l).nodes.length) (st:=fun i=>[sl I1 (upArr (lk.take i) 0 (List.replicate (cart t l).nodes.length (-1))),.i64 (i:Int)]) (fun i self hi=>?_) (fun self=>?_) (by omega)
 ·obtain⟨x,hx⟩: ∃x,lk[i]?=some x:=⟨lk[i]'(by omega),ac _⟩;obtain⟨nd,a1,a2,a3,_⟩:=fG (t:=t) h (by rw[hLK];exact hx);obtain⟨b1,b2⟩:=hlk x (ah hx);have hnext:upArr (lk.take (i+1)) 0 (List.replicate (cart t l).nodes.length (-1))=upArr [x] i (upArr (lk.take i) 0 (List.replicate (cart t l).nodes.length (-1))):=by
   rw[cG,hx];show upArr (lk.take i++[x]) 0 _=_
   rw[um,aH,be,bi (by omega)]
  have hul:(upArr (lk.take i) 0 (List.replicate (cart t l).nodes.length (-1))).length=(cart t l).nodes.length:=by rw[uP];simp
  rw[hnext];generalize upArr (lk.take i) 0 (List.replicate (cart t l).nodes.length (-1))=u at hul;have pN:RF.ev (.part 1 2) [NP nd]=some (.agg [.i64 x.1,.i64 x.2]):=by rw[←a2,←a3];rfl
  unfold wI;simp only[EV,decide_eq_true_eq,if_lt hi,den_lt,cTR1,tixM a1 (lenN _),eltM a1,rowN,pN]
  let us:Nat→List Int:=fun j=>match j with|0=>u|1=>(if 0≤x.1 then u.set x.1.toNat i else u)|_=>(if 0≤x.2 then(if 0≤x.1 then u.set x.1.toNat i else u).set x.2.toNat i else(if 0≤x.1 then u.set x.1.toNat i else u))
  have hus: ∀j,(us j).length=(cart t l).nodes.length:=fun j=>by
   match j with
   |0=>exact hul
   |1=>simp only[us];split<;>simp[hul]
   |j+2=>simp only[us];repeat' split
         all_goals simp[hul]
  refine(dQ (m:=1001) (n:=2) (st:=fun j=>[sl I1 (us j),.i64 (j:Int)]) (fin:=self [sl I1 (us 2),.i64 ((i+1:Nat):Int)]) (fun j self' hj=>?_) (fun self'=>?_) (by omega)).trans rfl
  ·obtain⟨c,hc,haix,hu⟩: ∃c:Int,c<l.length∧RF.ev (.aix 1 2 0) [.agg [.i64 x.1,.i64 x.2],.i64 (j:Int)]=some (.i64 c)∧us (j+1)=(if 0≤c then(us j).set c.toNat i else us j):=by
    match j,hj with
    |0,_=>exact⟨x.1,b1,rfl,rfl⟩
    |1,_=>exact⟨x.2,b2,rfl,rfl⟩
   unfold wH;have l2:decide ((j:Int)<2)=true:=decide_eq_true (by omega);simp only[EV,l2,eq_self,if_true,haix,decide_eq_true_eq,ge_iff_le];rw[hu];by_cases c0:0≤c
   ·obtain⟨m,rfl⟩:=lP c0;rw[if_pos c0,if_pos c0,aq];simp only[EV,ixM (show m<(cart t l).nodes.length by omega),setI (l:=us j) (i:=m) (by rw[hus];omega),wG,up1 (show j<1000000000 by omega)]
   ·rw[if_neg c0,if_neg c0];simp only[EV,wG,up1 (show j<1000000000 by omega)]
  ·unfold wH;simp only[EV,show decide (((2:Nat):Int)<2)=false from rfl,ad,if_false,FX,up1 (show i<1000000000 by omega)]
 unfold wI;simp only[EV,decide_eq_true_eq,if_ge,FW,den_lt,cTR1,aa];rw[aR (by omega)];have hU: ∀i,i<(cart t l).nodes.length→(upArr lk 0 (List.replicate (cart t l).nodes.length (-1)))[i]?=match(cart t l).nodes.findIdx? (nodC i) with|some k=>some ((k:Nat):Int)|none=>some (-1):=fun i hi=>by
  rw[uQ lk 0 _ i (by simpa using hi) ?_,←hLK,Fk h i]
  ·cases(cart t l).nodes.findIdx? (nodC i) with
   |none=>simp only;rw[bX,if_pos hi]
   |some k=>simp only[be]
  ·intro k x hk hc k' x' hk' hc';rw[←hLK] at hk hk';obtain⟨n,a1,a2,a3,_⟩:=fG h hk;obtain⟨n',b1,b2,b3,_⟩:=fG h hk';exact hone i k k' n n' a1 (by rw[jC a2 a3];exact decide_eq_true hc) b1 (by rw[jC b2 b3];exact decide_eq_true hc')
 generalize upArr lk 0 (List.replicate (cart t l).nodes.length (-1))=U at hU;have e2:([PV.sl [],.v (.int .i64 0),.v (.int .i64 0)]:List PV)=[sl crow (edgsT (cart t l).nodes 0),.i64 ((edgsT (cart t l).nodes 0).length:Int),.i64 ((0:Nat):Int)]:=rfl;rw[e2];refine dQ (m:=1001) (n:=(cart t l).nodes.length) (st:=fun i=>[sl crow (edgsT (cart t l).nodes i),.i64 ((edgsT (cart t l).nodes i).length:Int),.i64 (i:Int)]) (fun i self hi=>?_) (fun self=>?_) (by omega)
 ·obtain⟨n,hn⟩: ∃n,(cart t l).nodes[i]?=some n:=⟨(cart t l).nodes[i],ac _⟩;have hel:=il (cart t l).nodes i;have hu:=hU i hi;rw[jZ];unfold edgT;unfold wF;cases e:(cart t l).nodes.findIdx? (nodC i) with
  |none=>
   rw[e] at hu;simp only[aJ];simp only[EV,decide_eq_true_eq,if_lt hi,den_lt,cTR1,tixM hn (lenN _),eltM hn,rowN,ixM hi,eltM hu,rowI,ge_iff_le,Int.reduceNeg,Int.reduceLE,if_false,k125_2,up1 (show i<1000000000 by omega)]
  |some k=>
   rw[e] at hu;obtain⟨hk,_,_⟩:=ba.1 e;have hm:=ac hk;have c0:((0:Int)≤(k:Nat)):=by omega
   have cN:RF.ev (.cell 0) [NP n]=some (.i64 n.id):=rfl;have ap:=dc (f:=crow) (l:=edgsT (cart t l).nodes i) (k:=[⟨n.id,(cart t l).nodes[k].id⟩]) (bytes:=16) (z:=2) (by simp;omega) lenC;simp only[EV,decide_eq_true_eq,if_lt hi,den_lt,cTR1,tixM hn (lenN _),eltM hn,rowN,ixM hi,eltM hu,rowI,ge_iff_le,if_pos c0,tixM hm (lenN _),eltM hm,rowN0,cN,aggC,bsC,subC1,ap,aa,k125_2,up1 (show i<1000000000 by omega),kA hn,kA hm]
 ·unfold wF;simp only[EV,decide_eq_true_eq,if_ge,FV,den_lt,subM,hnl]
theorem v6 {l:List Pt}{t:Rt}(h:okF l)(ht:In64 t){N:Nat}{f0:JT}{e0 e1 e2:PV}{b:Nat}(hb:b≤l.length): ∀(m i:Nat) (best:Option Nat) (n:Nat),i+m=b→m<n→(∀k,best=some k→k<i)→
  denW (PhiS D) (N+1) k397_4 [f0] [e0,e1,e2,.i64 (b:Int),F l,R t] n [.i64 (lk best),.i64 (i:Int)]=f0 [.i64 (lk (topFrom (ldF t l) m i best))]
 |0,i,best,n,hi,hn,_=>by
  obtain⟨n,rfl⟩: ∃n',n=n'+1:=⟨n-1,by omega⟩;rw[denW_succ];unfold k397_4 topFrom;simp only[EV,decide_eq_true_eq];rw[if_neg (by omega)]
 |m+1,i,best,n,hi,hn,hbest=>by
  obtain⟨n,rfl⟩: ∃n',n=n'+1:=⟨n-1,by omega⟩;have hl:=h.1;obtain⟨p,hp⟩: ∃p,l[i]?=some p:=⟨l[i]'(by omega),ac _⟩;have ih:=fun best' hb'=>v6 h ht (N:=N) (f0:=f0) (e0:=e0) (e1:=e1) (e2:=e2) hb m (i+1) best' n (by omega) (by omega) hb';rw[denW_succ];generalize hkk:k397_4=kk at ih;subst hkk;unfold k397_4 topFrom;have u1:=up1 (show i<1000000000 by omega)
  simp only[EV,decide_eq_true_eq];rw[if_pos (by omega)];cases best with
  |none=>
   have ih:=ih (some i) (fun k hk=>by simp only[aK] at hk;omega);simp only[lk] at ih;simp only[lk,EV,show decide ((-1:Int)<0)=true from rfl,if_true,yP,k397_2,u1]
   exact ih
  |some q=>
   have hq:q<i:=hbest q rfl;obtain⟨r,hr⟩: ∃r,l[q]?=some r:=⟨l[q]'(by omega),ac _⟩;have g0:decide ((q:Int)<0)=false:=decide_eq_false (by omega);simp only[lk,EV,g0,ad,if_false,den_lt,cellF,tixM hp (row_len _),eltM hp,tixM hr (row_len _),eltM hr,rowP,phi (c323 (okF_pt h hp) (okF_pt h hr) ht),←ldF_get hp hr,yP];cases hL:ldF t l i q with
   |true=>
    have ih:=ih (some i) (fun k hk=>by simp only[aK] at hk;omega);simp only[lk] at ih;simp only[if_true,EV,k397_2,u1];exact ih
   |false=>
    have ih:=ih (some q) (fun k hk=>by simp only[aK] at hk;omega);simp only[lk] at ih;simp only[ad,if_false,EV,k397_2,u1];exact ih
theorem W7 {l:List Pt}{t:Rt}(h:okF l)(ht:In64 t){a b:Nat}(hab:a≤b)(hb:b≤l.length):Ans D 397 [F l,R t,.i64 (a:Int),.i64 (b:Int)] [.i64 (lk (n7 (ldF t l) a b))]:=by
 have hl:=h.1;refine ans_of NX VW rfl ⟨1001,?_⟩;unfold Ei;simp only[den_lt,shapeF,shapeR,EV];refine(v6 h ht (N:=1000) hb (b-a) a none 1001 (by omega) (by omega) (by simp)).trans ?_;unfold HM;simp only[EV];rfl
theorem Sl {l:List Nod}{i:Nat}{n:Nod}(h:l[i]?=some n)(r:Int):RF.ev (.set 1) [sl nrow l,.v (.int .i64 (i:Int)),.v (.int .i64 r)]=some (sl nrow (l.set i ⟨n.id,r,n.right⟩)):=by
 rw[qb,if_pos (by omega),aq,aI,h];simp only[aZ,show(PV.v (.int .i64 r)).cells=[.v (.int .i64 r)] from rfl,az,show(nrow n).length=3 from rfl,Nat.reduceAdd,Nat.reduceLeDiff,if_true]
 exact congrArg (fun x=>some (PV.sl x)) (gB (f:=nrow) (l:=l) (i:=i) (a:=⟨n.id,r,n.right⟩)).symm
theorem mkN_setL {l:List Pt}{lk:List (Int×Int)}{e:Nat}{p:Pt}{x:Int×Int}{r:Int}(hp:l[e]?=some p)(hx:lk[e]?=some x):(mkN l lk).set e ⟨p.id,r,x.2⟩=mkN l (lk.modify e fun x=>(r,x.2)):=by
 refine b9 fun k=>?_;have hlen:(lk.modify e fun x=>(r,x.2)).length=lk.length:=bN ..;by_cases hk:k<l.length∧k<lk.length
 ·have h1:=ac hk.1;have h2:=ac hk.2;by_cases e':k=e
  ·subst e';rw[aC (by simp[mkN,cv];omega)];rw[fZ hp (x:=(r,x.2)) (by rw[dH,hx];rfl)]
  ·rw[aE (by omega),fZ h1 h2,fZ h1 (x:=lk[k]) (by rw[cM _ _ (by omega)];exact h2)]
 ·rw[bk (by simp[mkN,cv];omega),bk (by simp[mkN,cv];omega)]
theorem ny {ld:Nat→Nat→Bool}: ∀(f a b:Nat) (l:List (Int×Int)),(grow ld f a b l).1.length=l.length
 |0,_,_,_=>rfl
 |f+1,a,b,l=>by
  unfold grow;split
  ·rfl
  ·simp only[bN,ny f]
theorem Fl {ld:Nat→Nat→Bool}{f a b:Nat}{l:List (Int×Int)}(e:n7 ld a b=none):grow ld (f+1) a b l=(l,-1):=by
 rw[grow];simp only[e]
theorem grow_some {ld:Nat→Nat→Bool}{f a b i:Nat}{l rl s:List (Int×Int)}{rr sr:Int}(e:n7 ld a b=some i)(h1:grow ld f a i l=(rl,rr))(h2:grow ld f (i+1) b (rl.modify i fun x=>(rr,x.2))=(s,sr)):grow ld (f+1) a b l=(s.modify i fun x=>(x.1,sr),(i:Int)):=by
 rw[grow];simp only[e,h1,h2]
theorem W8 (l:List Nod):RF.ev .len [sl nrow l]=some (.i64 (l.length:Int)):=by
 rw[f_len,aa]
def T0:PV:=TR ⟨0,[]⟩
theorem cT0:RF.ev (.cell 0) [T0]=some (.i64 0):=rfl
theorem W9:RF.ev (.shape 2) [T0]=some T0:=rfl
theorem agT0:RF.ev .agg [.v (.int .i64 0),.sl []]=some T0:=rfl
theorem IY {l:List Pt}{t:Rt}(h:okF l)(ht:In64 t): ∀(f a b:Nat) (ks:List (Int×Int)),b-a<f→a≤b→b≤l.length→ks.length=l.length→
  Ans D 350 [F l,R t,T0,.i64 (a:Int),.i64 (b:Int),sl nrow (mkN l ks)] [.i64 (grow (ldF t l) f a b ks).2,sl nrow (mkN l (grow (ldF t l) f a b ks).1)]
 |0,a,b,ks,hf,_,_,_=>by omega
 |f+1,a,b,ks,hf,hab,hb,hk=>by
  have hl:=h.1;have ht1:=zT (dr (t:=t) h.2.2) hb hab;refine ans_of NF VD rfl ⟨1,?_⟩;unfold D1;simp only[den_lt,W9,shapeF,shapeR,EV,aa,phi (W7 h ht hab hb),mkN_len l ks (by omega),hk];cases e:n7 (ldF t l) a b with
  |none=>
   rw[Fl e];simp only[lk,EV,k350_1,decide_eq_true_eq];rw[if_neg (by decide)]
  |some i=>
   rw[e] at ht1;rcases ht1 with⟨_,t1⟩|⟨k,t1,t2⟩
   ·simp[lk] at t1
   have hik:i=k:=by simp only[lk] at t1;omega
   subst hik;obtain⟨t3,t4,_⟩:=t2;have u1:=up1 (show i<1000000000 by omega)
   have hgl:=ny (ld:=ldF t l) f a i ks;have p1:=phi (IY h ht f a i ks (by omega) t3 (by omega) hk);generalize hg1:grow (ldF t l) f a i ks=r at hgl p1;obtain⟨rl,rr⟩:=r;simp only at hgl p1;obtain⟨p,hp⟩: ∃p,l[i]?=some p:=⟨l[i]'(by omega),ac _⟩;obtain⟨x,hx⟩: ∃x,rl[i]?=some x:=⟨rl[i]'(by omega),ac _⟩;have s1:=Sl (fZ hp hx) rr;simp only at s1;rw[mkN_setL hp hx] at s1;have hgl1:(rl.modify i fun x=>(rr,x.2)).length=l.length:=by rw[bN];omega
   have p2:=phi (IY h ht f (i+1) b _ (by omega) (by omega) hb hgl1);have hgl2:=ny (ld:=ldF t l) f (i+1) b (rl.modify i fun x=>(rr,x.2));simp only[lk,decide_eq_true_eq,if_pos (show(0:Int)≤(i:Int) by omega),EV,den_lt,cT0,agT0,p1,ixM (show i<l.length by omega),s1,u1,p2]
   generalize hg2:grow (ldF t l) f (i+1) b (rl.modify i fun x=>(rr,x.2))=s at hgl2 p2;obtain⟨sl',sr⟩:=s;simp only at hgl2;obtain⟨y,hy⟩: ∃y,sl'[i]?=some y:=⟨sl'[i]'(by omega),ac _⟩;have s2:=Kj (fZ hp hy) sr;simp only at s2;rw[mkN_set hp hy] at s2;rw[grow_some e hg1 hg2];simp only[s2,k350_1,EV];exact if_pos (decide_eq_true (by omega))
theorem zeros_app {l:List Pt}{i:Nat}{p:Pt}(hp:l[i]?=some p):mkN l (List.replicate i (0,0))++[⟨p.id,0,0⟩]=mkN l (List.replicate (i+1) (0,0)):=by
 rw[List.replicate_succ'];exact mkN_app (x:=(0,0)) (by rw[aQ];exact hp)
theorem Xa {l:List Pt}{t:Rt}(h:okF l)(ht:In64 t):Ans D 268 [F l,R t] [TR (cart t l)]:=by
 have hl:=h.1;refine ans_of MX UX rfl ⟨1001,?_⟩;unfold Dj;simp only[den_lt,shapeF,shapeR,EV];have e0:([PV.sl [],.v (.int .i64 0),.v (.int .i64 0)]:List PV)=[sl nrow (mkN l (List.replicate 0 (0,0))),.i64 ((0:Nat):Int),.i64 ((0:Nat):Int)]:=by simp[mkN]
 rw[e0];refine(dQ (m:=1001) (n:=l.length) (st:=fun i=>[sl nrow (mkN l (List.replicate i (0,0))),.i64 (i:Int),.i64 (i:Int)]) (fin:=some [TR (cart t l)]) (fun i self hi=>?_) (fun self=>?_) (by omega))
 ·obtain⟨p,hp⟩: ∃p,l[i]?=some p:=⟨l[i],ac _⟩;have ap:RF.ev (.app 24 3) [sl nrow (mkN l (List.replicate i (0,0))),.v (.int .i64 (i:Int)),sl nrow [⟨p.id,0,0⟩]]=some (sl nrow (mkN l (List.replicate (i+1) (0,0)))):=by
   have:=dc (f:=nrow) (l:=mkN l (List.replicate i (0,0))) (k:=[⟨p.id,0,0⟩]) (bytes:=24) (z:=3) (by rw[mkN_len _ _ (by rw[aQ];omega),aQ];simp;omega) lenN;rw[mkN_len _ _ (by rw[aQ];omega),aQ] at this;rw[this,zeros_app hp]
  unfold k268_2;simp only[den_lt,cellF,EV,aa,decide_eq_true_eq,if_lt hi,tixM hp (row_len _),eltM hp,lh,aggN,bsN,subN1,ap,W8,mkN_len l (List.replicate (i+1) ((0:Int),(0:Int))) (by rw[aQ];omega),aQ,up1 (show i<1000000000 by omega)]
 ·have p1:=phi (IY h ht (l.length+1) 0 l.length (List.replicate l.length (0,0)) (by omega) (by omega) (am _) (by rw[aQ]));have hgl:=ny (ld:=ldF t l) (l.length+1) 0 l.length (List.replicate l.length (0,0));rw[aQ] at hgl;have L:=dr (t:=t) h.2.2;obtain⟨g1,g2,_,g4⟩:=ir L (l.length+1) 0 l.length (List.replicate l.length (0,0)) (by omega) (by rw[aQ]) ⟨by omega,am _,.inl rfl,.inl rfl⟩;have hu:=uN L (gL L) ⟨g1,g2,fun k x hx=>g4 k x (by omega) (by have:=get_lt hx;omega) hx⟩;have hs:=subM (f:=nrow) (l:=mkN l (grow (ldF t l) (l.length+1) 0 l.length (List.replicate l.length (0,0))).1);rw[mkN_len _ _ (by omega),hgl] at hs;unfold k268_2;have ag:RF.ev .agg [.i64 (grow (ldF t l) (l.length+1) 0 l.length (List.replicate l.length (0,0))).2,sl nrow (mkN l (grow (ldF t l) (l.length+1) 0 l.length (List.replicate l.length (0,0))).1)]=some (TR (cart t l)):=by
   rw[←hu.1,←hu.2];rfl
  simp only[cO] at p1;simp only[den_lt,cellF,EV,aa,decide_eq_true_eq,if_ge,k268_1,agT0,p1,hs,ag]
theorem cart_lt {l:List Pt}{t:Rt}(h:okF l): ∀x∈(cmake (ldF t l) l.length).2.2,x.1<l.length∧x.2<l.length:=fun x hx=>by
 obtain⟨k,hk⟩:=aA.1 hx;have C:=gL (dr (t:=t) h.2.2);obtain⟨a,b,⟨a1,_⟩,⟨b1,b2,_⟩,l1,l2⟩:=C.2.2 k x hk;constructor
 ·rcases l1 with⟨_,l1⟩|⟨i,l1,t1,t2,_⟩
  ·omega
  ·have:=get_lt hk;have:=C.2.1;omega
 ·rcases l2 with⟨_,l2⟩|⟨i,l2,t1,t2,_⟩<;>omega
theorem cart_len {l:List Pt}{t:Rt}(h:okF l):(cart t l).nodes.length=l.length:=by
 unfold cart;have hlen:(cmake (ldF t l) l.length).2.2.length=l.length:=(ek (dr (t:=t) h.2.2) l.length (by omega)).len;rw[mkN_len _ _ (by omega)];exact hlen
theorem j0 {l:List Pt}{t:Rt}(h:okF l){i k:Nat}{x:Nod}(hx:(cart t l).nodes[k]?=some x)(hc:nodC i x=true):Below (cmake (ldF t l) l.length).2.2 i k:=by
 have hk:=get_lt hx;rw[cart_len h] at hk;have hlen:(cmake (ldF t l) l.length).2.2.length=l.length:=(ek (dr (t:=t) h.2.2) l.length (by omega)).len;obtain⟨y,hy⟩: ∃y,(cmake (ldF t l) l.length).2.2[k]?=some y:=⟨_,ac (by omega)⟩;obtain⟨n,a1,a2,a3,_⟩:=fG h hy;rw[hx] at a1;cases a1;refine⟨y,hy,?_⟩;unfold nodC at hc;rw[a2,a3] at hc;simpa using hc
theorem cart_one {l:List Pt}{t:Rt}(h:okF l):u7 (cart t l).nodes:=fun i k k' x x' h1 h2 h3 h4=>
 sY (dr (t:=t) h.2.2) (gL (dr (t:=t) h.2.2)) (j0 h h1 h2) (j0 h h3 h4)
theorem cart_id {l:List Pt}{t:Rt}(h:okF l){i:Nat}{p:Pt}(hp:l[i]?=some p):lS (cart t l).nodes i=p.id:=by
 have hlen:(cmake (ldF t l) l.length).2.2.length=l.length:=(ek (dr (t:=t) h.2.2) l.length (by omega)).len;have:=get_lt hp;obtain⟨y,hy⟩: ∃y,(cmake (ldF t l) l.length).2.2[i]?=some y:=⟨_,ac (by omega)⟩;obtain⟨n,a1,a2,a3,q,hq,e⟩:=fG h hy;rw[kA a1,e,hp.symm.trans hq|>eX]
theorem uo {l:List Nod}{n:Nat}{e:Crt}(h:e∈edgsT l n): ∃i k,i<n∧l.findIdx? (nodC i)=some k∧e=⟨lS l i,lS l k⟩:=by
 unfold edgsT at h;obtain⟨i,hi,he⟩:=fL.1 h;rw[bT] at hi;unfold edgT at he;cases e':l.findIdx? (nodC i) with
 |none=>rw[e'] at he;cases he
 |some k=>
  rw[e'] at he;exact⟨i,k,hi,e',bm.1 he⟩
theorem fH {l:List Pt}{t:Rt}(h:okF l){e:Crt}(he:e∈edgsT (cart t l).nodes l.length):inF l e.low=true∧inF l e.high=true∧leads t (ptOf l e.high) (ptOf l e.low)=true:=by
 obtain⟨i,k,hi,hf,rfl⟩:=uo he;obtain⟨hk,hc,_⟩:=ba.1 hf;have hb:=j0 h (ac hk) hc;rw[cart_len h] at hk;have hp:=ac hi;have hq:=ac hk;obtain⟨hl,_⟩:=lZ (dr (t:=t) h.2.2) (gL (dr (t:=t) h.2.2)) hb;rw[ldF_get hq hp] at hl;simp only;rw[cart_id h hp,cart_id h hq,ptOf_some h hp,ptOf_some h hq];exact⟨in_ids.2 (aN.2 ⟨_,ah hp,rfl⟩),in_ids.2 (aN.2 ⟨_,ah hq,rfl⟩),hl⟩
theorem j4 {l:List Pt}{t:Rt}(h:okF l): ∀n,n≤l.length→(edgsT (cart t l).nodes n).Nodup
 |0,_=>by simp[edgsT]
 |n+1,hn=>by
  rw[jZ];have ih:=j4 (t:=t) h n (by omega);unfold edgT;split
  ·rw[cU];refine⟨ih,by simp,fun a ha b hb e=>?_⟩;subst e;obtain⟨i,k,hi,hf,e⟩:=uo ha;rw[bm] at hb;rw[e] at hb;simp only[Crt.mk.injEq] at hb;have hp:=ac (show i<l.length by omega)
   have hq:=ac (show n<l.length by omega)
   rw[cart_id h hp,cart_id h hq] at hb;have:=eO h.2.2 hi hp hq;omega
  ·rw[aJ];exact ih
theorem c177 {l:List Pt}{t:Rt}(h:okF l)(ht:In64 t):Ans D 177 [F l,R t] [TR (cart t l)]:=by
 refine ans_of Mb Ue rfl ⟨1,?_⟩;unfold Cv;simp only[den_lt,shapeF,shapeR,phi (Xa h ht),shTR,EV]
def fP (k:Heater):Prop:=ClkOk k.clock∧cart k.clock.now k.clock.pts=k.tree∧JustR k.clock (edgsT (cart k.clock.now k.clock.pts).nodes k.clock.pts.length)
theorem rm {k:Heater}(h:gHt k=false):gCl k.clock=false∧k.tree.nodes.length≤70:=by
 unfold gHt at h;simp only[aY,decide_eq_false_iff_not] at h;exact⟨h.1,by omega⟩
open Classical in
theorem c83 {k:Heater}(h64:c6 k.clock)(hg:gHt k=false):Ans D 83 [HT k] [.i64 (okE (decide (fP k)))]:=by
 obtain⟨g1,g2⟩:=rm hg;have no: ∀h:¬fP k,(some [PV.v (.int .i64 8)]:Option (List PV))=some [.i64 (okE (decide (fP k)))]:=fun h=>by rw[decide_eq_false h];rfl
 have pHT2:RF.ev (.part 2 1) [HT k]=some (F k.clock.pts):=rfl;have pHT0:RF.ev (.part 0 2) [HT k]=some (R k.clock.now):=rfl;refine ans_of PF s83 rfl ⟨1001,?_⟩;unfold k83;simp only[den_lt,shHT,pHT,EV,phi (Bf h64 g1),eK,ai,decide_eq_false_iff_not];by_cases h1:ClkOk k.clock
 ·have hF:=h1.2.1;have hl:=hF.1;have hnl:=cart_len (t:=k.clock.now) hF;rw[decide_eq_true h1,if_pos rfl];simp only[den_lt,pHT,pHT2,pHT0,pHTt,shTR,phi (c177 hF h64.1),phi (P3 (s:=cart k.clock.now k.clock.pts) (t:=k.tree) (by omega)),EV,ai,decide_eq_false_iff_not];by_cases h2:cart k.clock.now k.clock.pts=k.tree
  ·rw[if_neg (by simp[h2])];have hel:=il (cart k.clock.now k.clock.pts).nodes k.clock.pts.length;have e178:=phi (Qb (x:=cart k.clock.now k.clock.pts) (cart_one hF) (by omega));rw[hnl] at e178;simp only[den_lt,EV,e178,phi (c169 (c:=k.clock) (edges:=edgsT (cart k.clock.now k.clock.pts).nodes k.clock.pts.length) hF h64.1 (by omega) (by have:=dS g1;omega) (fun e he=>⟨(fH hF he).1,(fH hF he).2.1⟩)),ai,decide_eq_false_iff_not];by_cases h3:JustR k.clock (edgsT (cart k.clock.now k.clock.pts).nodes k.clock.pts.length)
   ·rw[if_neg (by simp[h3]),decide_eq_true (show fP k from⟨h1,h2,h3⟩)];rfl
   ·rw[if_pos h3];exact no (fun h=>h3 h.2.2)
  ·rw[if_pos h2];exact no (fun h=>h2 h.2.1)
 ·rw[decide_eq_false h1,if_neg (by simp)];exact no (fun h=>h1 h.1)
open Classical in
theorem c79 {k:Heater}(h64:c6 k.clock)(hg:gHt k=false):Ans D 79 [HT k] [.i64 (okE (decide (fP k)))]:=by
 obtain⟨g1,g2⟩:=rm hg;have no: ∀h:¬fP k,(some [PV.v (.int .i64 8)]:Option (List PV))=some [.i64 (okE (decide (fP k)))]:=fun h=>by rw[decide_eq_false h];rfl
 have pHT2:RF.ev (.part 2 1) [HT k]=some (F k.clock.pts):=rfl;have pHT0:RF.ev (.part 0 2) [HT k]=some (R k.clock.now):=rfl;have cHT11:RF.ev (.cell 11) [HT k]=some (.i64 k.tree.root):=rfl;have cHT12:RF.ev (.cell 12) [HT k]=some (sl nrow k.tree.nodes):=rfl;have cc:=dS g1;refine ans_of PB s79 rfl ⟨1001,?_⟩;unfold k79;simp only[den_lt,shHT,pHT,EV,phi (Bj h64 g1),eK,ai,decide_eq_false_iff_not];by_cases h1:ClkOk k.clock
 ·have hF:=h1.2.1;have hl:=hF.1;have hnl:=cart_len (t:=k.clock.now) hF;have hel:=il (cart k.clock.now k.clock.pts).nodes k.clock.pts.length;rw[decide_eq_true h1,if_pos rfl];simp only[den_lt,pHT,pHT2,pHT0,cHT11,cHT12,cTR0,cTR1,shTR,phi (c125 hF h64.1 h1.1 (cart_one hF) (cart_lt hF)),phi (WV (l:=(cart k.clock.now k.clock.pts).nodes) (k:=k.tree.nodes) (by omega)),EV,ai,decide_eq_false_iff_not];have hJ:=li (c:=k.clock) h1.2.2.1 (j4 (t:=k.clock.now) hF k.clock.pts.length (by omega)) (fun e he=>(fH hF he).2.2);by_cases h2:(cart k.clock.now k.clock.pts).root=k.tree.root
  ·rw[if_neg (by simp[h2])];by_cases h3:(cart k.clock.now k.clock.pts).nodes=k.tree.nodes
   ·rw[if_neg (by simp[h3])];have h4:cart k.clock.now k.clock.pts=k.tree:=by
     generalize cart k.clock.now k.clock.pts=a at h2 h3;obtain⟨a,b⟩:=a;simp only at h2 h3;rw[h2,h3]
    have hJ':fP k↔JustP k.clock (edgsT (cart k.clock.now k.clock.pts).nodes k.clock.pts.length):=⟨fun h=>hJ.2 h.2.2,fun h=>⟨h1,h4,hJ.1 h⟩⟩;have hd:decide (fP k)=decide (JustP k.clock (edgsT (cart k.clock.now k.clock.pts).nodes k.clock.pts.length)):=by
     rw[cj,decide_eq_true_eq,decide_eq_true_eq];exact hJ'
    rw[hd];clear hd hJ' hJ;generalize edgsT (cart k.clock.now k.clock.pts).nodes k.clock.pts.length=E at hel;simp only[den_lt,cCL4,EV,aa];by_cases c1:E.length=k.clock.certs.list.length
    ·rw[if_pos (decide_eq_true (by omega))];refine(run_list (m:=1001) (l:=k.clock.certs.list) (p:=fun h=>decide (h.cert∈E)) (st:=fun i=>[.i64 (i:Int)]) (r:=some [.i64 8]) (fin:=some [.i64 0]) (fun i a self ha _=>?_) (fun _ self=>?_) (by omega)).trans ?_
     ·unfold BL;simp only[den_lt,cCL4,tixM ha (lenH _),eltM ha,rowH,pHP,phi (c155 (l:=E) a.cert (by omega)),EV,aa,decide_eq_true_eq,if_lt (get_lt ha),up1 (show i<1000000000 by have:=get_lt ha;omega),ai,decide_eq_false_iff_not]
      by_cases c2:a.cert∈E
      ·rw[if_neg (by simp[c2]),if_pos c2]
      ·rw[if_pos c2,if_neg c2];unfold vp;simp only[EV];rfl
     ·unfold BL K6 vp;simp only[EV,decide_eq_true_eq,if_ge];rfl
     ·have:(k.clock.certs.list.all fun h=>decide (h.cert∈E))=decide (JustP k.clock E):=by
       rw[cj,decide_eq_true_eq];unfold JustP;simp[c1]
      rw[this];cases decide (JustP k.clock E)<;>rfl
    ·rw[if_neg (by simp;omega),show decide (JustP k.clock E)=false from decide_eq_false (fun h=>c1 h.1)]
     unfold vp;simp only[EV];rfl
   ·rw[if_pos h3];exact no (fun h=>h3 (by rw[h.2.1]))
  ·rw[if_pos h2];exact no (fun h=>h2 (by rw[h.2.1]))
 ·rw[decide_eq_false h1,if_neg (by simp)];exact no (fun h=>h1 h.1)
theorem mmX (a b:Int):RF.ev (.mm true) [.v (.int .i64 a),.v (.int .i64 b)]=some (.v (.int .i64 (max a b))):=rfl
theorem mmN (a b:Int):RF.ev (.mm false) [.v (.int .i64 a),.v (.int .i64 b)]=some (.v (.int .i64 (min a b))):=rfl
theorem dbl {i:Nat}(h:i<100000000):IntKind.i64.wrap (2*(i:Int))=((2*i:Nat):Int):=by rw[bU (by omega) (by omega)];omega
theorem up2 {i:Nat}(h:i<1000000000):IntKind.i64.wrap ((i:Int)+2)=((i+2:Nat):Int):=by rw[bU (by omega) (by omega)];rfl
theorem v7 {i j:Nat}(h:j≤i)(k:i<1000000000):IntKind.i64.wrap ((i:Int)-(j:Int))=((i-j:Nat):Int):=by rw[bU (by omega) (by omega)];omega
theorem Bn {b:Brk}{i:Nat}(hi:i<b.wins.length+b.places.length)(hb:b.wins.length+b.places.length≤1000):Ans D 242 [BR b,.i64 (i:Int)] [.i64 (nodeV b.wins b.places i)]:=by
 refine ans_of MF UH rfl ⟨1,?_⟩;unfold C3;by_cases h:i<b.wins.length
 ·obtain⟨x,hx⟩: ∃x,b.wins[i]?=some x:=⟨_,ac h⟩;have w:IntKind.i64.wrap ((i:Int)-(b.wins.length:Int))=(i:Int)-(b.wins.length:Int):=bU (by omega) (by omega);simp only[den_lt,shBR,cBR1,iD,EV,aa,w,decide_eq_true_eq,ge_iff_le,if_neg (show¬(0:Int)≤(i:Int)-(b.wins.length:Int) by omega),tixM hx (lenI _),eltM hx,rowI,qc hx]
 ·obtain⟨x,hx⟩: ∃x,b.places[i-b.wins.length]?=some x:=⟨_,ac (by omega)⟩;simp only[den_lt,shBR,cBR1,iD,EV,aa,v7 (show b.wins.length≤i by omega) (by omega),decide_eq_true_eq,ge_iff_le,if_pos (show(0:Int)≤((i-b.wins.length:Nat):Int) by omega),tixM hx (lenI _),eltM hx,rowI,t7 h hx]
theorem oJ {b:Brk}{i:Nat}(hi:i<b.wins.length+b.places.length)(hb:b.wins.length+b.places.length≤1000):Ans D 266 [BR b,.i64 (i:Int)] [.i64 (nodeV b.wins b.places i)]:=by
 refine ans_of MV UV rfl ⟨1,?_⟩;unfold Dh;by_cases h:i<b.wins.length
 ·obtain⟨x,hx⟩: ∃x,b.wins[i]?=some x:=⟨_,ac h⟩;simp only[den_lt,shBR,cBR1,iD,EV,aa,decide_eq_true_eq,if_lt h,tixM hx (lenI _),eltM hx,rowI,qc hx]
 ·obtain⟨x,hx⟩: ∃x,b.places[i-b.wins.length]?=some x:=⟨_,ac (by omega)⟩;simp only[den_lt,shBR,cBR1,iD,EV,aa,v7 (show b.wins.length≤i by omega) (by omega),decide_eq_true_eq,if_neg (show¬(i:Int)<(b.wins.length:Int) by omega),tixM hx (lenI _),eltM hx,rowI,t7 h hx]
open Classical in
theorem Xc {l:List Int}(hl:l.length≤1000):Ans D 265 [sl I1 l] [.bool (decide (¬dO l))]:=by
 refine ans_of MU UU rfl ⟨1001,?_⟩;unfold Dg;simp only[EV];refine(run_if (m:=1001) (n:=l.length) (P:=fun i=> ∀x,l[i]?=some x→0≤x→ ∀j,j<i→l[j]?≠some x) (st:=fun i=>[.i64 (i:Int)]) (r:=some [.bool true]) (fin:=some [.bool false]) (fun i self hi _=>?_) (fun hall self=>?_) (by omega)).trans ?_
 ·have hx:=dF hi;generalize nthI l i=x at hx;have hP:(∀x',l[i]?=some x'→0≤x'→ ∀j,j<i→l[j]?≠some x')↔(0≤x→ ∀j,j<i→l[j]?≠some x):=
   ⟨fun h=>h x hx,fun h x' e=>by rw[hx] at e;cases e;exact h⟩
  unfold xZ;simp only[hP,EV,aa,decide_eq_true_eq,if_lt hi];refine(run_if (m:=1001) (n:=i) (P:=fun j=>0≤x→l[j]?≠some x) (st:=fun i=>[.i64 (i:Int)]) (r:=some [.bool true]) (fin:=self [.i64 ((i+1:Nat):Int)]) (fun j self' hj _=>?_) (fun _ self'=>?_) (by omega)).trans ?_
  ·have hy:=dF (l:=l) (i:=j) (by omega);generalize nthI l j=y at hy;unfold k265_4;simp only[tixM hx (lenI _),eltM hx,tixM hy (lenI _),eltM hy,rowI,EV,decide_eq_true_eq,if_lt hj,ge_iff_le,k265_3,up1 (show j<1000000000 by omega),hy,ne_eq,aK]
   by_cases c0:0≤x
   ·by_cases c1:y=x
    ·simp[c0,c1]
    ·simp[c0,c1,Ne.symm c1]
   ·simp[c0]
  ·unfold k265_4;simp only[EV,decide_eq_true_eq,if_ge,Hd,up1 (show i<1000000000 by omega)]
  ·by_cases hq:0≤x→ ∀j,j<i→l[j]?≠some x
   ·rw[if_pos hq,if_pos (fun j hj h0=>hq h0 j hj)]
   ·rw[if_neg hq,if_neg (fun h=>hq fun h0 j hj=>h j hj h0)]
 ·unfold xZ;simp only[EV,aa,decide_eq_true_eq,if_ge,Hc]
 ·by_cases h:dO l
  ·rw[if_pos (show∀i,i<l.length→_ from h),decide_eq_false (by simpa using h)]
  ·rw[if_neg (show¬ ∀i,i<l.length→_ from h),decide_eq_true h]
def Bm (m:List (Int×Bool)):PV:= .sl (m.map fun p=>[.i64 p.1]++[.bool p.2])
def bget:List (Int×Bool)→Int→Bool
 |[],_=>false
 |p::m,k=>if p.1=k then p.2 else bget m k
def bset:List (Int×Bool)→Int→Bool→List (Int×Bool)
 |[],k,v=>[(k,v)]
 |p::m,k,v=>if p.1=k then(p.1,v)::m else p::bset m k v
theorem v8 (k j:Int)(v:Bool): ∀m,bget (bset m k v) j=if j=k then v else bget m j
 |[]=>by simp only[bset,bget];by_cases h:k=j<;>simp[h,eq_comm]
 |p::m=>by
  unfold bset;by_cases h:p.1=k
  ·rw[if_pos h];unfold bget;by_cases h2:j=k
   ·rw[if_pos h2,if_pos (by rw[h,h2])]
   ·rw[if_neg h2,if_neg (by rw[h];exact fun e=>h2 e.symm),if_neg (by rw[h];exact fun e=>h2 e.symm)]
  ·rw[if_neg h];unfold bget;rw[v8 k j v m];by_cases h2:p.1=j
   ·rw[if_pos h2,if_pos h2,if_neg (by rw[←h2];exact h)]
   ·rw[if_neg h2,if_neg h2]
theorem wa (k:Int): ∀m:List (Int×Bool),(mapGet [.i] [.i64 k] (m.map fun p=>[.i64 p.1]++[.bool p.2])).map (fun o=>o.getD [.bool false])=some [.bool (bget m k)]
 |[]=>by simp[mapGet,bget,eqN]
 |p::m=>by
  simp only[bz,mapGet];rw[show List.take [Ck.i].length ([PV.i64 p.fst]++[PV.bool p.snd])=[PV.i64 p.fst] from rfl,show List.drop [Ck.i].length ([PV.i64 p.fst]++[PV.bool p.snd])=[PV.bool p.snd] from rfl,eqN]
  unfold bget;by_cases e:p.1=k
  ·rw[decide_eq_true e,if_pos e];rfl
  ·rw[decide_eq_false e,if_neg e];exact wa k m
theorem wb (k:Int)(v:Bool): ∀m:List (Int×Bool),mapSet [.i] [.i64 k] [.bool v] (m.map fun p=>[.i64 p.1]++[.bool p.2])=some ((bset m k v).map fun p=>[.i64 p.1]++[.bool p.2])
 |[]=>by simp[mapSet,bset,eqN]
 |p::m=>by
  simp only[bz,mapSet];rw[show List.take [Ck.i].length ([PV.i64 p.fst]++[PV.bool p.snd])=[PV.i64 p.fst] from rfl,eqN]
  unfold bset;by_cases e:p.1=k
  ·rw[decide_eq_true e,if_pos e];simp[e]
  ·rw[decide_eq_false e,if_neg e];simp only;rw[wb k v m];rfl
theorem getBm (m:List (Int×Bool))(k:Int):RF.ev (.mget [.i] [.v (.bool false)]) [Bm m,.v (.int .i64 k)]=some (.bool (bget m k)):=by
 have h:=wa k m;unfold Bm;simp only[RF.ev,show(PV.v (.int .i64 k)).cells=[.i64 k] from rfl]
 cases hg:mapGet [.i] [.i64 k] (m.map fun p=>[.i64 p.1]++[.bool p.2]) with
 |none=>rw[hg] at h;cases h
 |some o=>
  rw[hg] at h;simp only[aZ,aK] at h;cases o with
  |none=>simp only[Option.getD_none] at h;simp only[h];rfl
  |some r=>simp only[bj] at h;subst h;rfl
theorem setBm (m:List (Int×Bool))(k:Int)(v:Bool):RF.ev (.mset [.i] 1) [Bm m,.v (.int .i64 k),.v (.bool v)]=some (Bm (bset m k v)):=by
 have h:=wb k v m;unfold Bm;simp only[RF.ev,show(PV.v (.int .i64 k)).cells=[.i64 k] from rfl,show(PV.v (.bool v)).cells=[.bool v] from rfl,h]
 rfl
def mAt (l:List Int)(i:Nat):List (Int×Bool):=(l.take i).foldl (fun m x=>bset m x (decide (0≤x))) [(-1,false)]
theorem uq: ∀(l:List Int) (m:List (Int×Bool)) (k:Int),bget (l.foldl (fun m x=>bset m x (decide (0≤x))) m) k=if k∈l then decide (0≤k) else bget m k
 |[],m,k=>by simp
 |x::l,m,k=>by
  rw[bI,uq l,v8];by_cases h:k∈l
  ·simp[h]
  ·by_cases e:k=x
   ·subst e;simp[h]
   ·simp[h,e]
theorem bget_at {l:List Int}{i:Nat}{x:Int}(hx:l[i]?=some x):bget (mAt l i) x=decide (¬ ∀y,l[i]?=some y→0≤y→ ∀j,j<i→l[j]?≠some y):=by
 unfold mAt;rw[uq];have e1:(¬ ∀y,l[i]?=some y→0≤y→ ∀j,j<i→l[j]?≠some y)↔(x∈l.take i∧0≤x):=by
  constructor
  ·intro h;simp only[i5,Classical.not_not,not_imp] at h;obtain⟨y,h1,h2,j,h3,h4⟩:=h;rw[hx] at h1;cases h1;exact⟨aA.2 ⟨j,by rw[cu,if_pos h3];exact h4⟩,h2⟩
  ·rintro⟨h1,h2⟩ h;obtain⟨j,hj⟩:=aA.1 h1;rw[cu] at hj;split at hj
   ·rename_i h3;exact h x hx h2 j h3 hj
   ·cases hj
 rw[show decide (¬ ∀y,l[i]?=some y→0≤y→ ∀j,j<i→l[j]?≠some y)=decide (x∈l.take i∧0≤x) from aV.2 e1]
 by_cases h:x∈l.take i
 ·simp[h]
 ·rw[if_neg h,decide_eq_false (fun e=>h e.1)];unfold bget bget;split<;>rfl
theorem mAt_succ {l:List Int}{i:Nat}{x:Int}(hx:l[i]?=some x):bset (mAt l i) x (decide (0≤x))=mAt l (i+1):=by
 unfold mAt;rw[cG,hx];simp[List.foldl_append]
open Classical in
theorem Qc {l:List Int}(hl:l.length≤1000):Ans D 250 [sl I1 l] [.bool (decide (dO l))]:=by
 refine ans_of MN UP rfl ⟨1001,?_⟩;unfold Db;have e0:RF.ev (.mset [.i] 1) [.sl [],.v (.int .i64 (-1)),.v (.bool false)]=some (Bm (mAt l 0)):=setBm [] (-1) false;simp only[e0,EV,aa];refine(run_if (m:=1001) (n:=l.length) (P:=fun i=> ∀x,l[i]?=some x→0≤x→ ∀j,j<i→l[j]?≠some x) (st:=fun i=>[Bm (mAt l i),.i64 (i:Int)]) (r:=some [.bool false]) (fin:=some [.bool true]) (fun i self hi _=>?_) (fun hall self=>?_) (by omega)).trans ?_
 ·have hx:=dF hi;generalize nthI l i=x at hx;unfold k250_2;simp only[tixM hx (lenI _),eltM hx,rowI,EV,decide_eq_true_eq,if_lt hi,getBm,bget_at hx,ge_iff_le,setBm,mAt_succ hx,up1 (show i<1000000000 by omega)]
  by_cases hq: ∀y,l[i]?=some y→0≤y→ ∀j,j<i→l[j]?≠some y
  ·rw[decide_eq_false (eb hq),if_pos hq];simp only[EV,aM,ak,ad,if_false]
  ·rw[decide_eq_true hq,if_neg hq];simp only[EV,aM,ak,if_true];rw[decide_eq_true (show(0:Int)≤(i:Int) by omega)]
   rfl
 ·unfold k250_2 k250_1;simp only[EV,decide_eq_true_eq,if_ge];rfl
 ·by_cases h:dO l
  ·rw[if_pos (show∀i,i<l.length→_ from h),decide_eq_true h]
  ·rw[if_neg (show¬ ∀i,i<l.length→_ from h),decide_eq_false h]
theorem wn {b:Brk}{i:Nat}(hi:i<b.wins.length):b.wins[i]?=some (nodeV b.wins b.places i):=by
 obtain⟨x,hx⟩: ∃x,b.wins[i]?=some x:=⟨_,ac hi⟩;rw[hx,qc hx]
open Classical in
theorem Xd {b:Brk}(h1:b.places.length≤70)(h2:b.wins.length≤70):Ans D 157 [BR b] [.i64 (okE (decide (f9 b.wins b.places)))]:=by
 have no: ∀h:¬f9 b.wins b.places,(some [PV.v (.int .i64 8)]:Option (List PV))=some [.i64 (okE (decide (f9 b.wins b.places)))]:=fun h=>by rw[decide_eq_false h];rfl
 refine ans_of LY TZ rfl ⟨1001,?_⟩;unfold Ce;have wp:IntKind.i64.wrap ((b.places.length:Int)-1)=(b.places.length:Int)-1:=bU (by omega) (by omega);simp only[den_lt,shBR,iD,cBR1,EV,aa,wp,phi (Qc (l:=b.places) (by omega)),decide_eq_true_eq,ai,decide_eq_false_iff_not];by_cases a1:b.places.length<1
 ·rw[if_pos (by omega)];exact no (fun h=>by have:=h.1.1.1;omega)
 rw[if_neg (by omega)];by_cases a2:64<b.places.length
 ·rw[if_pos (by omega)];exact no (fun h=>by have:=h.1.1.2.1;omega)
 rw[if_neg (by omega)];by_cases a3:b.places.length=b.wins.length+1
 rotate_left
 ·rw[if_pos (by omega)];exact no (fun h=>a3 h.1.1.2.2)
 rw[if_neg (by omega)];by_cases a4:dO b.places
 rotate_left
 ·rw[if_pos (by simpa using a4)]
  exact no (fun h=>a4 h.1.2.1)
 rw[if_neg (by simpa using a4)]
 refine(run_list (m:=1001) (l:=b.places) (p:=fun x=>decide (-1≤x)&& decide (x≤65535)) (st:=fun i=>[.i64 (i:Int)]) (r:=some [.i64 8]) (fin:=some [.i64 (okE (decide (f9 b.wins b.places)))]) (fun i x self hx _=>?_) (fun hall self=>?_) (by omega)).trans ?_
 ·unfold k157_9;simp only[den_lt,iD,EV,decide_eq_true_eq,if_lt (get_lt hx),tixM hx (lenI _),eltM hx,rowI];have u1:=up1 (show i<1000000000 by have:=get_lt hx;omega)
  have g0:decide ((i:Int)≥0)=true:=decide_eq_true (by omega);by_cases c1: -1≤x
  ·rw[if_pos (by omega)];by_cases c2:x≤65535
   ·simp only[rQ,EV,c1,c2,decide_true,ak,ad,if_false,u1,bV,if_true]
   ·simp only[rQ,EV,c1,c2,decide_true,decide_false,ak,aM,ad,if_false,if_true,g0,mR]
  ·rw[if_neg (by omega)];simp only[rQ,EV,c1,decide_false,aM,ak,if_true,g0,gM,ad,if_false]
 ·have hbase:ku b.wins b.places:=⟨⟨by omega,by omega,a3⟩,a4,fun x hx=>by have:=aG.1 hall x hx;simp at this;omega⟩;unfold k157_9;simp only[den_lt,cBR1,EV,aa,decide_eq_true_eq,if_ge,k157_4,ak,aM,ad,if_false,show decide ((-1:Int)≥0)=false from rfl]
  refine(run_if (m:=1001) (n:=b.wins.length) (P:=fun i=>pickA b.wins b.places i∧¬(nodeV b.wins b.places i<0∧0≤max (nodeV b.wins b.places (2*i+1)) (nodeV b.wins b.places (2*i+2)))) (st:=fun i=>[.i64 (i:Int)]) (r:=some [.i64 8]) (fin:=some [.i64 0]) (fun i self hi _=>?_) (fun _ self=>?_) (by omega)).trans ?_
  ·have hx:=wn hi;unfold xf pickA;simp only[den_lt,cBR1,EV,decide_eq_true_eq,if_lt hi,tixM hx (lenI _),eltM hx,rowI,dbl (show i<100000000 by omega),up1 (show 2*i<1000000000 by omega),up2 (show 2*i<1000000000 by omega),phi (Bn (b:=b) (i:=2*i+1) (by omega) (by omega)),phi (Bn (b:=b) (i:=2*i+2) (by omega) (by omega)),mmX,ge_iff_le,Gj,up1 (show i<1000000000 by omega),ai,decide_eq_false_iff_not]
   generalize nodeV b.wins b.places i=w;generalize nodeV b.wins b.places (2*i+1)=p;generalize nodeV b.wins b.places (2*i+2)=q;by_cases c1:w=p
   ·by_cases c3:w<0
    ·by_cases c4:0≤max p q<;>simp[c1,c3,c4]
     all_goals (subst c1;simp[c3,c4]<;>intro h<;>omega)
    ·simp[c1,c3];subst c1;simp[c3]
   ·by_cases c2:w=q
    ·by_cases c3:w<0
     ·by_cases c4:0≤max p q<;>simp[c1,c2,c3,c4]
      all_goals (subst c2;simp[c1,c3,c4]<;>intro h<;>omega)
     ·simp[c1,c2,c3];subst c2;simp[c1,c3]
    ·simp[c1,c2]
  ·unfold xf;simp only[EV,decide_eq_true_eq,if_ge,Gi]
  ·by_cases hr:f9 b.wins b.places
   ·rw[if_pos hr.2,decide_eq_true hr];rfl
   ·rw[if_neg (fun h=>hr ⟨hbase,h⟩),decide_eq_false hr];rfl
 ·by_cases hr:f9 b.wins b.places
  ·rw[if_pos (by rw[aG];intro x hx;have:=hr.1.2.2 x hx;simp;omega)]
  ·split
   ·rfl
   ·exact no hr
open Classical in
theorem Xe {b:Brk}(h1:b.places.length≤70)(h2:b.wins.length≤70):Ans D 171 [BR b] [.i64 (okE (decide (f9 b.wins b.places)))]:=by
 rw[show decide (f9 b.wins b.places)=decide (qU b.wins b.places) from aV.2 J7]
 have no: ∀h:¬qU b.wins b.places,(some [PV.v (.int .i64 8)]:Option (List PV))=some [.i64 (okE (decide (qU b.wins b.places)))]:=fun h=>by rw[decide_eq_false h];rfl
 refine ans_of L5 T8 rfl ⟨1001,?_⟩;unfold Cl;have wp:IntKind.i64.wrap ((b.places.length:Int)-1)=(b.places.length:Int)-1:=bU (by omega) (by omega);simp only[den_lt,shBR,iD,cBR1,EV,aa,wp,phi (Xc (l:=b.places) (by omega)),decide_eq_true_eq,ai,decide_eq_false_iff_not];by_cases a1:b.places.length<1
 ·rw[if_pos (by omega)];exact no (fun h=>by have:=h.1.1.1;omega)
 rw[if_neg (by omega)];by_cases a2:64<b.places.length
 ·rw[if_pos (by omega)];exact no (fun h=>by have:=h.1.1.2.1;omega)
 rw[if_neg (by omega)];by_cases a3:b.places.length=b.wins.length+1
 rotate_left
 ·rw[if_pos (by omega)];exact no (fun h=>a3 h.1.1.2.2)
 rw[if_neg (by omega)];by_cases a4:dO b.places
 rotate_left
 ·rw[if_pos a4];exact no (fun h=>a4 h.1.2.1)
 rw[if_neg (by simpa using a4)]
 refine(run_list (m:=1001) (l:=b.places) (p:=fun x=>decide (-1≤x)&& decide (x≤65535)) (st:=fun i=>[.i64 (i:Int)]) (r:=some [.i64 8]) (fin:=some [.i64 (okE (decide (qU b.wins b.places)))]) (fun i x self hx _=>?_) (fun hall self=>?_) (by omega)).trans ?_
 ·unfold k171_5;simp only[den_lt,iD,EV,decide_eq_true_eq,if_lt (get_lt hx),tixM hx (lenI _),eltM hx,rowI,up1 (show i<1000000000 by have:=get_lt hx;omega)]
  by_cases c1:x< -1
  ·rw[if_pos c1,if_neg (by simp;omega)]
  ·rw[if_neg c1];by_cases c2:65535<x
   ·rw[if_pos c2,if_neg (by simp;omega)]
   ·rw[if_neg c2,if_pos (by simp;omega)]
 ·have hbase:ku b.wins b.places:=⟨⟨by omega,by omega,a3⟩,a4,fun x hx=>by have:=aG.1 hall x hx;simp at this;omega⟩;unfold k171_5;simp only[EV,decide_eq_true_eq,if_ge,k171_4];refine(run_if (m:=1001) (n:=b.wins.length) (P:=fun i=>pickA b.wins b.places i∧¬(nodeV b.wins b.places i= -1∧(nodeV b.wins b.places (2*i+1)≠ -1∨nodeV b.wins b.places (2*i+2)≠ -1))) (st:=fun i=>[.i64 (i:Int)]) (r:=some [.i64 8]) (fin:=some [.i64 0]) (fun i self hi _=>?_) (fun _ self=>?_) (by omega)).trans ?_
  ·have hx:=wn hi;unfold xm pickA;simp only[den_lt,cBR1,EV,aa,decide_eq_true_eq,if_lt hi,tixM hx (lenI _),eltM hx,rowI,dbl (show i<100000000 by omega),up1 (show 2*i<1000000000 by omega),up2 (show 2*i<1000000000 by omega),phi (oJ (b:=b) (i:=2*i+1) (by omega) (by omega)),phi (oJ (b:=b) (i:=2*i+2) (by omega) (by omega)),Gr,up1 (show i<1000000000 by omega),ai,decide_eq_false_iff_not]
   generalize nodeV b.wins b.places i=w;generalize nodeV b.wins b.places (2*i+1)=p;generalize nodeV b.wins b.places (2*i+2)=q;by_cases c1:w=p
   ·by_cases c3:w= -1
    ·by_cases c4:p= -1
     ·by_cases c5:q= -1<;>simp[c1,c3,c4,c5]
     ·omega
    ·simp only[c1,c3];subst c1;simp[c3]
   ·by_cases c2:w=q
    ·by_cases c3:w= -1
     ·subst c3;subst c2;simp[c1,Ne.symm c1]
     ·subst c2;simp[c1,c3]
    ·simp[c1,c2]
  ·unfold xm;simp only[den_lt,cBR1,EV,aa,decide_eq_true_eq,if_ge,Gq]
  ·by_cases hr:qU b.wins b.places
   ·rw[if_pos hr.2,decide_eq_true hr];rfl
   ·rw[if_neg (fun h=>hr ⟨hbase,h⟩),decide_eq_false hr];rfl
 ·by_cases hr:qU b.wins b.places
  ·rw[if_pos (by rw[aG];intro x hx;have:=hr.1.2.2 x hx;simp;omega)]
  ·split
   ·rfl
   ·exact no hr
def valK (l:List Pt)(x:Int):Prop:=x= -1∨inF l x=true
def wonI (t:Rt)(l:List Pt)(a b:Int):Int:=if a<0 then b else if b<0 then a else if leads t (ptOf l a) (ptOf l b)=true then a else b
theorem qC {t:Rt}{l:List Pt}(a b:Int)(ha:valK l a)(hb:valK l b):valK l (wonI t l a b):=by
 unfold wonI;split
 ·exact hb
 ·split
  ·exact ha
  ·split<;>assumption
theorem valK_in {l:List Pt}(h:okF l){x:Int}(hv:valK l x):x= -1∨ ∃(i:Nat) (p:Pt),l[i]?=some p∧p.id=x∧pos l x=(i:Nat)∧ptOf l x=p∧0≤x:=by
 rcases hv with e|e
 ·exact .inl e
 ·obtain⟨i,p,h1,h2,h3,h4⟩:=cH h e;exact .inr ⟨i,p,h1,h2,h3,h4,by rw[←h2];exact(gE h p (ah h1)).1⟩
open Classical in
theorem Xf {l:List Pt}{pl:List Int}(hl:l.length≤1000)(hp:pl.length≤1000):Ans D 173 [F l,sl I1 pl] [.bool (decide (∀x∈pl,valK l x))]:=by
 refine ans_of L7 Ua rfl ⟨1001,?_⟩;unfold Cp;simp only[den_lt,shapeF,EV];refine(run_list (m:=1001) (l:=pl) (p:=fun x=>decide (valK l x)) (st:=fun i=>[.i64 (i:Int)]) (r:=some [.bool false]) (fin:=some [.bool true]) (fun i x self hx _=>?_) (fun hall self=>?_) (by omega)).trans ?_
 ·unfold xn;simp only[den_lt,EV,aa,decide_eq_true_eq,if_lt (get_lt hx),tixM hx (lenI _),eltM hx,rowI,phi (lO hl x),Gu,up1 (show i<1000000000 by have:=get_lt hx;omega),ai,decide_eq_false_iff_not]
  unfold valK inF;by_cases c1:x= -1
  ·simp[c1]
  ·by_cases c2:pos l x<0
   ·simp[c1,c2,show¬0≤pos l x by omega]
   ·simp[c1,c2,show 0≤pos l x by omega]
 ·unfold xn;simp only[EV,aa,decide_eq_true_eq,if_ge,Gt]
 ·by_cases h: ∀x∈pl,valK l x
  ·rw[if_pos (by simpa using h),decide_eq_true h]
  ·rw[if_neg (by simpa using h),decide_eq_false h]
open Classical in
theorem Xg {l:List Pt}{pl:List Int}(h:okF l)(hp:pl.length≤1000):Ans D 301 [F l,sl I1 pl] [.bool (decide (∀x∈pl,valK l x))]:=by
 refine ans_of Nf Vf rfl ⟨1001,?_⟩;unfold DB;simp only[den_lt,shapeF,EV,aa];refine(run_list (m:=1001) (l:=pl) (p:=fun x=>decide (valK l x)) (st:=fun i=>[.i64 (i:Int)]) (r:=some [.bool false]) (fin:=some [.bool true]) (fun i x self hx _=>?_) (fun hall self=>?_) (by omega)).trans ?_
 ·have u1:=up1 (show i<1000000000 by have:=get_lt hx;omega)
  unfold yh;rcases has_cases l x with hn|⟨j,p,hj,rfl⟩
  ·obtain⟨P,hP⟩:=Sa h hn;have hf:inF l x=false:=by
    unfold inF;rcases pos_cases l x with⟨e,_⟩|⟨i,p,h1,h2,_⟩
    ·rw[e];rfl
    ·exact absurd h2 (hn p (ah h1))
   simp only[den_lt,EV,decide_eq_true_eq,if_lt (get_lt hx),tixM hx (lenI _),eltM hx,rowI,phi hP,ad,if_false,yg,u1];unfold valK;rw[hf];by_cases c1:x= -1
   ·simp[c1]
   ·simp[c1]
  ·have hf:inF l p.id=true:=in_ids.2 (aN.2 ⟨p,ah hj,rfl⟩);simp only[den_lt,EV,decide_eq_true_eq,if_lt (get_lt hx),tixM hx (lenI _),eltM hx,rowI,phi (II h hj),if_true,yg,u1];unfold valK;rw[hf];simp
 ·unfold yh Hj;simp only[EV,decide_eq_true_eq,if_ge];rfl
 ·by_cases h: ∀x∈pl,valK l x
  ·rw[if_pos (by simpa using h),decide_eq_true h]
  ·rw[if_neg (by simpa using h),decide_eq_false h]
theorem Xh {l:List Pt}{t:Rt}(h:okF l)(ht:In64 t)(hr:rok t=true):Ans D 300 [F l,R t] [.i64 0]:=by
 have h1:=phi (vN l);rw[fD.2 h] at h1;have h2:=phi (c43 ht);rw[hr] at h2;have e0:okE true=0:=rfl;rw[e0] at h2;refine ans_of k300_ok s300 rfl ⟨1,?_⟩;unfold k300;simp only[den_lt,shapeF,shapeR,EV,h1,h2,decide_true,ak,ad,if_false]
theorem Xi {l:List Pt}{t:Rt}(h:okF l)(ht:In64 t)(hr:rok t=true){a b:Int}(ha:valK l a)(hb:valK l b):Ans D 302 [F l,R t,.i64 a,.i64 b] [.i64 (wonI t l a b)]:=by
 refine ans_of Ng Vg rfl ⟨1,?_⟩;unfold DC wonI;rcases valK_in h ha with e|⟨i,p,p1,p2,p3,p4,p5⟩
 ·rcases valK_in h hb with e'|⟨j,q,q1,q2,q3,q4,q5⟩
  ·subst e;subst e';simp only[den_lt,shapeF,shapeR,mmN,mmX,EV];rfl
  ·subst e;simp only[den_lt,shapeF,shapeR,mmN,mmX,EV,decide_eq_true_eq,if_pos (show min (-1) b<0 by omega),if_pos (show(-1:Int)<0 by omega),show max (-1) b=b by omega]
 ·rcases valK_in h hb with e'|⟨j,q,q1,q2,q3,q4,q5⟩
  ·subst e';simp only[den_lt,shapeF,shapeR,mmN,mmX,EV,decide_eq_true_eq,if_pos (show min a (-1)<0 by omega),if_neg (show¬a<0 by omega),if_pos (show(-1:Int)<0 by omega),show max a (-1)=a by omega]
  ·have d1:=phi (II h p1);have d2:=phi (II h q1);rw[p2] at d1;rw[q2] at d2;have d3: ∃e:Int,PhiS D 249 [PP p,PP q,R t]=some [.bool (leads t p q),.i64 e]:=by
    have:=phi (A8 (p:=p) (q:=q) ht);by_cases e:p.id=q.id
    ·have:p=q:=(risen_ids h.2.2).inj (ah p1) (ah q1) e;subst this;by_cases c:f8 p p t=0
     ·rw[if_pos c] at this;exact⟨_,this⟩
     ·rw[if_neg c] at this;rw[leads_irr];exact⟨_,this⟩
    ·rw[if_pos (ik (okF_pt h p1) (okF_pt h q1) hr e)] at this;exact⟨_,this⟩
   obtain⟨e,d3⟩:=d3;simp only[den_lt,shapeF,shapeR,cellF,mmN,mmX,EV,decide_eq_true_eq,if_neg (show¬min a b<0 by omega),if_neg (show¬a<0 by omega),if_neg (show¬b<0 by omega),d1,d2,tixM p1 (row_len _),eltM p1,tixM q1 (row_len _),eltM q1,rowP,d3,p4,q4]
   cases leads t p q<;>rfl
theorem Qd {l:List Pt}{t:Rt}(h:okF l)(ht:In64 t){a b:Int}(ha:valK l a)(hb:valK l b):Ans D 267 [F l,R t,.i64 a,.i64 b] [.i64 (wonI t l a b)]:=by
 have hl:=h.1;refine ans_of MW UW rfl ⟨1,?_⟩;unfold Di wonI;simp only[den_lt,shapeF,shapeR,EV,decide_eq_true_eq];by_cases c1:a<0
 ·rw[if_pos c1,if_pos c1]
 rw[if_neg c1,if_neg c1];by_cases c2:b<0
 ·rw[if_pos c2,if_pos c2]
 rw[if_neg c2,if_neg c2];rcases valK_in h ha with e|⟨i,p,p1,p2,p3,p4,p5⟩
 ·omega
 rcases valK_in h hb with e|⟨j,q,q1,q2,q3,q4,q5⟩
 ·omega
 simp only[den_lt,cellF,phi (lO (l:=l) (by omega) a),phi (lO (l:=l) (by omega) b),p3,q3,tixM p1 (row_len _),eltM p1,tixM q1 (row_len _),eltM q1,rowP,phi (c323 (okF_pt h p1) (okF_pt h q1) ht),p4,q4,EV];split<;>rfl
open Classical in
theorem Xj {l:List Pt}{t:Rt}{pl:List Int}(h:okF l)(ht:In64 t)(hr:rok t=true)(h1:1≤pl.length)(h2:pl.length≤64)(hv: ∀x∈pl,valK l x)(ho:dO pl):Ans D 218 [F l,R t,sl I1 pl] [BR ⟨pl,playD (wonI t l) pl (pl.length-1) (pl.length-1)⟩,.i64 0]:=by
 have wp:IntKind.i64.wrap ((pl.length:Int)-1)=((pl.length-1:Nat):Int):=by rw[bU (by omega) (by omega)];omega
 have e1:=phi (Xg h (pl:=pl) (by omega));rw[decide_eq_true hv] at e1;have e2:=phi (Qc (l:=pl) (by omega));rw[decide_eq_true ho] at e2;have rp:=vW (n:=pl.length-1) (by omega);have agB: ∀w:List Int,RF.ev .agg [sl I1 pl,sl I1 w]=some (BR ⟨pl,w⟩):=fun w=>rfl;refine ans_of Mr Uu rfl ⟨1001,?_⟩;unfold CM;simp only[den_lt,shapeF,shapeR,EV,phi (Xh h ht hr),aa,decide_true,ak,ad,if_false,decide_eq_true_eq,if_neg (show¬(pl.length:Int)<1 by omega),GN,gt_iff_lt,decide_eq_false (show¬(64:Int)<(pl.length:Int) by omega),e1,e2,GK,GL,GM,GJ,phi (jQ (l:=pl) (by omega)),wp,rp,aQ]
 generalize hm:pl.length-1=m at*;have w1:IntKind.i64.wrap ((m:Int)-1)=(m:Int)-1:=bU (by omega) (by omega);rw[w1];have e0:([sl I1 (List.replicate m 0),PV.v (.int .i64 ((m:Int)-1))]:List PV)=[sl I1 (playD (wonI t l) pl m 0),.i64 ((m:Int)-1-((0:Nat):Int))]:=by
  simp[playD]
 rw[e0];refine(dQ (m:=1001) (n:=m) (st:=fun k=>[sl I1 (playD (wonI t l) pl m k),.i64 ((m:Int)-1-(k:Int))]) (fun k self hk=>?_) (fun self=>?_) (by omega))
 ·obtain⟨i,hi⟩: ∃i:Nat,m-1-k=i:=⟨_,rfl⟩;have hii:(m:Int)-1-(k:Int)=(i:Int):=by omega
  have hdn:IntKind.i64.wrap ((i:Int)-1)=(m:Int)-1-((k+1:Nat):Int):=by rw[bU (by omega) (by omega)];omega
  have hP:=qd (P:=valK l) (.inl rfl) (won:=wonI t l) (fun a b=>qC a b) hv k (by omega:k≤m);have hlen:=dU (won:=wonI t l) (places:=pl) (m:=m) k;have hnx:playD (wonI t l) pl m (k+1)=(playD (wonI t l) pl m k).set i (wonI t l (nodeV (playD (wonI t l) pl m k) pl (2*i+1)) (nodeV (playD (wonI t l) pl m k) pl (2*i+2))):=by rw[←hi];rfl
  rw[hnx];generalize playD (wonI t l) pl m k=w at hP hlen;have su:RF.ev .sub [sl I1 w,.v (.int .i64 0),.v (.int .i64 (m:Int))]=some (sl I1 w):=by rw[←hlen];exact subM
  unfold xE;simp only[EV,hii,decide_eq_true_eq,ge_iff_le,if_pos (show(0:Int)≤(i:Int) by omega),dbl (show i<100000000 by omega),up1 (show 2*i<1000000000 by omega),up2 (show 2*i<1000000000 by omega),subM,su,agB,den_lt,phi (Bn (b:=⟨pl,w⟩) (i:=2*i+1) (by simp only;omega) (by simp only;omega)),phi (Bn (b:=⟨pl,w⟩) (i:=2*i+2) (by simp only;omega) (by simp only;omega)),phi (Xi h ht hr (hP (2*i+1) (by omega)) (hP (2*i+2) (by omega))),ixM (show i<m by omega),setI (l:=w) (i:=i) (by omega),hdn]
 ·have hlen:=dU (won:=wonI t l) (places:=pl) (m:=m) m;generalize playD (wonI t l) pl m m=w at hlen;have su:RF.ev .sub [sl I1 w,.v (.int .i64 0),.v (.int .i64 (m:Int))]=some (sl I1 w):=by rw[←hlen];exact subM
  unfold xE;simp only[EV,decide_eq_true_eq,ge_iff_le,if_neg (show¬(0:Int)≤(m:Int)-1-(m:Int) by omega),GI,subM,su,agB,den_lt]
def edB (w p:List Int)(i:Nat):List Crt:=if 0≤nodeV w p (2*i+1)∧0≤nodeV w p (2*i+2) then [⟨nodeV w p (2*i+1)+nodeV w p (2*i+2)-nodeV w p i,nodeV w p i⟩] else []
def edsB (w p:List Int)(n:Nat):List Crt:=(List.range n).flatMap (edB w p)
theorem edsB_succ (w p:List Int)(n:Nat):edsB w p (n+1)=edsB w p n++edB w p n:=by
 unfold edsB;rw[lN,ov];simp
theorem hG (w p:List Int): ∀n,(edsB w p n).length≤n
 |0=>by simp[edsB]
 |n+1=>by
  have:=hG w p n;rw[edsB_succ,an];unfold edB;split<;>simp<;>omega
theorem jl {l:List Pt}(h:okF l){x:Int}(hv:valK l x): -1≤x∧x≤65535:=by
 rcases valK_in h hv with e|⟨i,p,p1,p2,_⟩
 ·omega
 ·have:=gE h p (ah p1);omega
theorem ur {w p:List Int}{j:Nat}(hj:j<w.length+p.length):(j<w.length→w[j]?=some (nodeV w p j))∧(¬j<w.length→p[j-w.length]?=some (nodeV w p j)):=by
 constructor
 ·intro h;obtain⟨x,hx⟩: ∃x,w[j]?=some x:=⟨_,ac h⟩;rw[hx,qc hx]
 ·intro h;obtain⟨x,hx⟩: ∃x,p[j-w.length]?=some x:=⟨_,ac (by omega)⟩;rw[hx,t7 h hx]
open Classical in
theorem IZ {l:List Pt}{t:Rt}{pl:List Int}(h:okF l)(ht:In64 t)(hr:rok t=true)(h1:1≤pl.length)(h2:pl.length≤64)(hv: ∀x∈pl,valK l x)(ho:dO pl){w:List Int}(hw:w=playD (wonI t l) pl (pl.length-1) (pl.length-1)):Ans D 123 [F l,R t,sl I1 pl] [BR ⟨pl,w⟩,sl crow (edsB w pl w.length)]:=by
 have hlen:w.length=pl.length-1:=by rw[hw,dU]
 have hP: ∀j,valK l (nodeV w pl j):=fun j=>by rw[hw];exact qd (P:=valK l) (.inl rfl) (won:=wonI t l) (fun a b=>qC a b) hv _ (am _) j (by omega)
 have e218:=phi (Xj h ht hr h1 h2 hv ho);rw[←hw] at e218;refine ans_of k123_ok s123 rfl ⟨1001,?_⟩;unfold k123;simp only[den_lt,shapeF,shapeR,EV,e218,shBR,cBR1,aa];have e0:([PV.sl [],.v (.int .i64 0),.v (.int .i64 0)]:List PV)=[sl crow (edsB w pl 0),.i64 ((edsB w pl 0).length:Int),.i64 ((0:Nat):Int)]:=rfl;rw[e0];refine(dQ (m:=1001) (n:=w.length) (st:=fun i=>[sl crow (edsB w pl i),.i64 ((edsB w pl i).length:Int),.i64 (i:Int)]) (fun i self hi=>?_) (fun self=>?_) (by omega))
 ·have hx:=wn (b:=⟨pl,w⟩) (i:=i) hi;have hel:=hG w pl i;have b0:=jl h (hP i);have b1:=jl h (hP (2*i+1));have b2:=jl h (hP (2*i+2));have c1':(2*i+1<w.length→w[2*i+1]?=some (nodeV w pl (2*i+1)))∧(¬2*i+1<w.length→pl[2*i+1-w.length]?=some (nodeV w pl (2*i+1))):=ur (by omega);have c2':(2*i+2<w.length→w[2*i+2]?=some (nodeV w pl (2*i+2)))∧(¬2*i+2<w.length→pl[2*i+2-w.length]?=some (nodeV w pl (2*i+2))):=ur (by omega);simp only at hx;rw[edsB_succ];unfold edB;generalize nodeV w pl i=v at hx b0;generalize nodeV w pl (2*i+1)=a at b1 c1';generalize nodeV w pl (2*i+2)=b at b2 c2';have w1:IntKind.i64.wrap (a+b)=a+b:=bU (by omega) (by omega);have w2:IntKind.i64.wrap (a+b-v)=a+b-v:=bU (by omega) (by omega);have ap:=dc (f:=crow) (l:=edsB w pl i) (k:=[⟨a+b-v,v⟩]) (bytes:=16) (z:=2) (by simp;omega) lenC;have u1:=up1 (show i<1000000000 by omega)
  unfold tz;by_cases q1:2*i+1<w.length
  ·have r1:=c1'.1 q1;by_cases q2:2*i+2<w.length
   ·have r2:=c2'.1 q2;simp only[den_lt,cBR1,iD,EV,aa,decide_eq_true_eq,if_lt hi,tixM hx (lenI _),eltM hx,rowI,dbl (show i<100000000 by omega),up1 (show 2*i<1000000000 by omega),up2 (show 2*i<1000000000 by omega),if_lt q1,if_lt q2,tixM r1 (lenI _),eltM r1,tixM r2 (lenI _),eltM r2,ge_iff_le,FQ,FO,rO,u1,w1,w2,aggC,bsC,subC1]
    by_cases g1:0≤a
    ·by_cases g2:0≤b
     ·simp only[g1,g2,if_true,decide_true,eG,ap,denF_some,den_lt,EV,aa,u1]
     ·simp only[g1,g2,if_true,decide_false,and_false,if_false,ad,aJ]
    ·simp only[g1,if_false,false_and,ad,aJ]
   ·have r2:=c2'.2 q2;simp only[den_lt,cBR1,iD,EV,aa,decide_eq_true_eq,if_lt hi,tixM hx (lenI _),eltM hx,rowI,dbl (show i<100000000 by omega),up1 (show 2*i<1000000000 by omega),up2 (show 2*i<1000000000 by omega),if_lt q1,if_neg (show¬((2*i+2:Nat):Int)<(w.length:Int) by omega),v7 (show w.length≤2*i+2 by omega) (by omega),tixM r1 (lenI _),eltM r1,tixM r2 (lenI _),eltM r2,ge_iff_le,FS,FR,rO,u1,w1,w2,aggC,bsC,subC1]
    by_cases g1:0≤a
    ·by_cases g2:0≤b
     ·simp only[g1,g2,if_true,decide_true,eG,ap,denF_some,den_lt,EV,aa,u1]
     ·simp only[g1,g2,if_true,decide_false,and_false,if_false,ad,aJ]
    ·simp only[g1,if_false,false_and,ad,aJ]
  ·have r1:=c1'.2 q1;have q2:¬2*i+2<w.length:=by omega
   have r2:=c2'.2 q2;simp only[den_lt,cBR1,iD,EV,aa,decide_eq_true_eq,if_lt hi,tixM hx (lenI _),eltM hx,rowI,dbl (show i<100000000 by omega),up1 (show 2*i<1000000000 by omega),up2 (show 2*i<1000000000 by omega),if_neg (show¬((2*i+1:Nat):Int)<(w.length:Int) by omega),if_neg (show¬((2*i+2:Nat):Int)<(w.length:Int) by omega),v7 (show w.length≤2*i+1 by omega) (by omega),v7 (show w.length≤2*i+2 by omega) (by omega),tixM r1 (lenI _),eltM r1,tixM r2 (lenI _),eltM r2,ge_iff_le,AJ,FU,rO,u1,w1,w2,aggC,bsC,subC1]
   by_cases g1:0≤a
   ·by_cases g2:0≤b
    ·simp only[g1,g2,if_true,decide_true,eG,ap,denF_some,den_lt,EV,aa,u1]
    ·simp only[g1,g2,if_true,decide_false,and_false,if_false,ad,aJ]
   ·simp only[g1,if_false,false_and,ad,aJ]
 ·unfold tz;simp only[EV,decide_eq_true_eq,if_ge,FN,subM,den_lt]
theorem Qe {b:Brk}(h1:b.places.length=b.wins.length+1)(h2:b.places.length≤70)(hk: ∀i,i<b.wins.length→pickA b.wins b.places i)(hb: ∀j,-1≤nodeV b.wins b.places j∧nodeV b.wins b.places j≤65535):Ans D 176 [BR b] [sl crow (edsB b.wins b.places b.wins.length)]:=by
 refine ans_of Ma Ud rfl ⟨1001,?_⟩;unfold Cu;simp only[den_lt,shBR,EV];have e0:([PV.sl [],.v (.int .i64 0),.v (.int .i64 0)]:List PV)=[sl crow (edsB b.wins b.places 0),.i64 ((edsB b.wins b.places 0).length:Int),.i64 ((0:Nat):Int)]:=rfl;rw[e0];refine(dQ (m:=1001) (n:=b.wins.length) (st:=fun i=>[sl crow (edsB b.wins b.places i),.i64 ((edsB b.wins b.places i).length:Int),.i64 (i:Int)]) (fun i self hi=>?_) (fun self=>?_) (by omega))
 ·have hx:=wn (b:=b) (i:=i) hi;have hel:=hG b.wins b.places i;have hpk:=hk i hi;have b0:=hb i;have b1:=hb (2*i+1);have b2:=hb (2*i+2);have c1':=phi (oJ (b:=b) (i:=2*i+1) (by omega) (by omega));have c2':=phi (oJ (b:=b) (i:=2*i+2) (by omega) (by omega));rw[edsB_succ];unfold edB;unfold pickA at hpk;generalize nodeV b.wins b.places i=v at hx b0 hpk;generalize nodeV b.wins b.places (2*i+1)=p at b1 c1' hpk;generalize nodeV b.wins b.places (2*i+2)=q at b2 c2' hpk;have ap:=fun c=>dc (f:=crow) (l:=edsB b.wins b.places i) (k:=[c]) (bytes:=16) (z:=2) (by simp;omega) lenC;unfold xr;simp only[den_lt,cBR1,EV,aa,decide_eq_true_eq,if_lt hi,dbl (show i<100000000 by omega),up1 (show 2*i<1000000000 by omega),up2 (show 2*i<1000000000 by omega),c1',c2',GA,up1 (show i<1000000000 by omega),tixM hx (lenI _),eltM hx,rowI,GB,aggC,bsC,subC1,ap]
  by_cases g1:p<0
  ·rw[if_pos g1,if_neg (by omega),aJ]
  by_cases g2:q<0
  ·rw[if_neg g1,if_pos g2,if_neg (by omega),aJ]
  rw[if_neg g1,if_neg g2,if_pos (show 0≤p∧0≤q by omega)]
  by_cases g3:v=p
  ·rw[if_pos g3,g3,show p+q-p=q by omega]
  ·rw[if_neg g3,show v=q by omega,show p+q-q=p by omega]
 ·unfold xr;simp only[den_lt,cBR1,EV,aa,decide_eq_true_eq,if_ge,Gz,subM]
open Classical in
theorem Xk {b:Brk}{l:List Pt}{t:Rt}(h:okF l)(ht:In64 t)(h1:b.places.length=b.wins.length+1)(h2:b.places.length≤70)(hv: ∀j,valK l (nodeV b.wins b.places j)):Ans D 175 [BR b,F l,R t] [.bool (decide (gh (wonI t l) b.wins b.places))]:=by
 refine ans_of L9 Uc rfl ⟨1001,?_⟩;unfold Cr;simp only[den_lt,shBR,shapeF,shapeR,EV];refine(run_if (m:=1001) (n:=b.wins.length) (P:=fun i=>nodeV b.wins b.places i=wonI t l (nodeV b.wins b.places (2*i+1)) (nodeV b.wins b.places (2*i+2))) (st:=fun i=>[.i64 (i:Int)]) (r:=some [.bool false]) (fin:=some [.bool true]) (fun i self hi _=>?_) (fun _ self=>?_) (by omega)).trans ?_
 ·have hx:=wn (b:=b) (i:=i) hi;unfold xq;simp only[den_lt,cBR1,EV,aa,decide_eq_true_eq,if_lt hi,dbl (show i<100000000 by omega),up1 (show 2*i<1000000000 by omega),up2 (show 2*i<1000000000 by omega),phi (oJ (b:=b) (i:=2*i+1) (by omega) (by omega)),phi (oJ (b:=b) (i:=2*i+2) (by omega) (by omega)),phi (Qd h ht (hv (2*i+1)) (hv (2*i+2))),up1 (show i<1000000000 by omega),tixM hx (lenI _),eltM hx,rowI,ai,decide_eq_false_iff_not]
  by_cases g:nodeV b.wins b.places i=wonI t l (nodeV b.wins b.places (2*i+1)) (nodeV b.wins b.places (2*i+2))
  ·rw[if_neg (by simpa using g),if_pos g]
  ·rw[if_pos g,if_neg g]
 ·unfold xq;simp only[den_lt,cBR1,EV,aa,decide_eq_true_eq,if_ge,Gy]
 ·by_cases h:gh (wonI t l) b.wins b.places
  ·rw[if_pos (show∀i,i<b.wins.length→_ from h),decide_eq_true h]
  ·rw[if_neg (show¬ ∀i,i<b.wins.length→_ from h),decide_eq_false h]
def szd (n:Nat):Bool:=decide (n∈[1,2,4,8,16,32,64])
theorem Oe: ∀n:Nat,n<65→1≤n→((BitVec.ofInt 64 (n:Int)&&& BitVec.ofInt 64 ((n:Int)-1)).toNat=0↔szd n=true):=by decide
theorem Xl {n:Nat}(h:n≤1000):Ans D 172 [.i64 (n:Int)] [.bool (szd n)]:=by
 have wr: ∀m:Nat,m≤1000→IntKind.i64.wrap ((m:Int)*2)=((m*2:Nat):Int):=fun m hm=>by rw[bU (by omega) (by omega)];omega
 refine ans_of L6 T9 rfl ⟨1001,?_⟩;unfold Co;simp only[EV];refine(eY (m:=1001) (l:=[1,2,4,8,16,32,64]) (p:=fun a:Nat=>decide (n=a)) (st:=fun i=>[.i64 ((2^ i:Nat):Int)]) (ret:=fun _=>some [.bool true]) (fin:=some [.bool false]) (fun i a self ha=>?_) (fun self=>?_) (by decide)).trans ?_
 ·have hi:=get_lt ha;have ha2:a=2^ i:=by
   match i,hi with
   |0,_=>simpa using ha.symm
   |1,_=>simpa using ha.symm
   |2,_=>simpa using ha.symm
   |3,_=>simpa using ha.symm
   |4,_=>simpa using ha.symm
   |5,_=>simpa using ha.symm
   |6,_=>simpa using ha.symm
  have h64:2^ i≤64:=by
   have:i≤6:=by simp at hi;omega
   exact bc (Nat.pow_le_pow_right (by omega) this) (by decide)
  have hnx:2^(i+1)=2^ i*2:=Nat.pow_succ ..;rw[hnx];subst ha2;generalize 2^ i=m at h64;unfold k172_2;simp only[EV,decide_eq_true_eq,if_pos (show(m:Int)≤64 by omega),wr m (by omega)]
  by_cases c:n=m
  ·rw[if_pos (by omega),if_pos c]
  ·rw[if_neg (by omega),if_neg c]
 ·unfold k172_2;simp only[EV,aD,bJ,show decide ((((2:Nat)^(0+1+1+1+1+1+1+1):Nat):Int)≤64)=false from rfl,ad,if_false,Gs]
 ·cases e:List.findIdx? (fun a:Nat=>decide (n=a)) [1,2,4,8,16,32,64] with
  |none=>
   rw[bO] at e;have:szd n=false:=decide_eq_false (fun h=>by have:=e n h;simp at this);rw[this];rfl
  |some i=>
   obtain⟨hi,h2,_⟩:=ba.1 e;have:szd n=true:=decide_eq_true (by rw[of_decide_eq_true h2];exact List.getElem_mem hi);rw[this];rfl
theorem Xm {l:List Int}(hl:l.length≤1000):Ans D 174 [sl I1 l] [sl I1 (l.filter fun x=>decide (0≤x))]:=by
 refine ans_of L8 Ub rfl ⟨1001,?_⟩;unfold Cq;simp only[EV];have e0:([PV.sl [],.v (.int .i64 0),.v (.int .i64 0)]:List PV)=[sl I1 [],.i64 (([]:List Int).length:Int),.i64 ((0:Nat):Int)]:=rfl;rw[e0];refine(er (m:=1001) (l:=l) (g:=fun acc x=>if 0≤x then acc++[x] else acc) (I:=fun k acc=>acc.length≤k) (S:=fun acc k=>[sl I1 acc,.i64 (acc.length:Int),.i64 (k:Int)]) (fin:=fun acc=>some [sl I1 acc]) (x:=[]) (by simp) (fun k a acc _ h=>by
   split
   ·rw[an,az];omega
   ·omega) (fun k x acc self hx hI=>?_) (fun acc self hI=>?_) (by omega)).1.trans ?_
 ·have hk:=get_lt hx;have ap:=dc (f:=I1) (l:=acc) (k:=[x]) (bytes:=8) (z:=1) (by simp;omega) lenI;unfold xp;simp only[den_lt,EV,aa,decide_eq_true_eq,if_lt hk,tixM hx (lenI _),eltM hx,rowI,ge_iff_le,Gx,up1 (show k<1000000000 by omega),bsI,subI1,ap]
  by_cases c:0≤x
  ·simp only[c,if_true]
  ·simp only[c,if_false]
 ·unfold xp;simp only[EV,aa,decide_eq_true_eq,if_ge,Gw,subM]
 ·have: ∀(l acc:List Int),l.foldl (fun acc x=>if 0≤x then acc++[x] else acc) acc=acc++l.filter fun x=>decide (0≤x):=by
   intro l;induction l with
   |nil=>simp
   |cons a l ih=>
    intro acc;rw[bI,ih,bE];by_cases c:0≤a<;>simp[c]
  rw[this,ax]
def ro (l:List Int):List Int:=sortL l
theorem Xn {l:List Int}(hl:l.length≤1000):Ans D 160 [.sl [],sl I1 l] [sl I1 (ro l)]:=by
 have h0:D.T 160=none:=by kernel_rfl
 refine Tp h0 ?_;show nZ 160 160 [.sl [],.sl (fi l)]=some [.sl (fi (sortL l))]
 unfold nZ;simp only[gC,qo];rw[if_pos (by omega)]
def dh (k:KTourn):Prop:=ClkOk k.clock∧f9 k.brk.wins k.brk.places∧szd k.brk.places.length=true∧(∀x∈k.brk.places,valK k.clock.pts x)∧(k.brk.places.filter fun x=>decide (0≤x)).length=k.clock.pts.length∧gh (wonI k.clock.now k.clock.pts) k.brk.wins k.brk.places∧JustR k.clock (edsB k.brk.wins k.brk.places k.brk.wins.length)
theorem mh {k:KTourn}(h:gKt k=false):gCl k.clock=false∧k.brk.places.length≤70∧k.brk.wins.length≤70:=by
 unfold gKt at h;simp only[aY,decide_eq_false_iff_not] at h;exact⟨h.1,by omega⟩
theorem brk_val {b:Brk}{l:List Pt}(hb:f9 b.wins b.places)(hv: ∀x∈b.places,valK l x)(j:Nat):valK l (nodeV b.wins b.places j):=
 O2 (P:=valK l) (.inl rfl) hb.1.1.2.2 hv (fun i hi=>(hb.2 i hi).1) _ j rfl
theorem wc {w p:List Int}{n:Nat}{e:Crt}(h:e∈edsB w p n): ∃i,i<n∧(0≤nodeV w p (2*i+1)∧0≤nodeV w p (2*i+2))∧e=⟨nodeV w p (2*i+1)+nodeV w p (2*i+2)-nodeV w p i,nodeV w p i⟩:=by
 unfold edsB at h;obtain⟨i,hi,he⟩:=fL.1 h;rw[bT] at hi;unfold edB at he;split at he
 ·rename_i c;exact⟨i,hi,c,bm.1 he⟩
 ·cases he
theorem iG {b:Brk}{l:List Pt}{t:Rt}(h:okF l)(hb:f9 b.wins b.places)(hv: ∀x∈b.places,valK l x)(hf:gh (wonI t l) b.wins b.places){e:Crt}(he:e∈edsB b.wins b.places b.wins.length):inF l e.low=true∧inF l e.high=true∧leads t (ptOf l e.high) (ptOf l e.low)=true:=by
 obtain⟨i,hi,⟨c1,c2⟩,rfl⟩:=wc he;have hF:=hf i hi;have hd:nodeV b.wins b.places (2*i+1)≠nodeV b.wins b.places (2*i+2):=fun e=>zU (pD hb) c1 hi rfl e.symm;rcases valK_in h (brk_val hb hv (2*i+1)) with e|⟨j1,p,p1,p2,p3,p4,p5⟩
 ·omega
 rcases valK_in h (brk_val hb hv (2*i+2)) with e|⟨j2,q,q1,q2,q3,q4,q5⟩
 ·omega
 have ip:inF l (nodeV b.wins b.places (2*i+1))=true:=by rw[←p2];exact in_ids.2 (aN.2 ⟨p,ah p1,rfl⟩)
 have iq:inF l (nodeV b.wins b.places (2*i+2))=true:=by rw[←q2];exact in_ids.2 (aN.2 ⟨q,ah q1,rfl⟩)
 unfold wonI at hF;rw[if_neg (by omega),if_neg (by omega),p4,q4] at hF;simp only;cases hL:leads t p q with
 |true=>
  rw[hL,if_pos rfl] at hF;rw[hF,show nodeV b.wins b.places (2*i+1)+nodeV b.wins b.places (2*i+2)-nodeV b.wins b.places (2*i+1)=nodeV b.wins b.places (2*i+2) by omega,p4,q4]
  exact⟨iq,ip,hL⟩
 |false=>
  rw[hL,if_neg (by simp)] at hF;rw[hF,Int.add_sub_cancel,p4,q4];refine⟨ip,iq,?_⟩;rcases leads_total (t:=t) (p:=p) (q:=q) (by rw[p2,q2];exact hd) with g|g
  ·rw[hL] at g;cases g
  ·exact g
theorem j5 {b:Brk}{l:List Pt}{t:Rt}(h:okF l)(hb:f9 b.wins b.places)(hv: ∀x∈b.places,valK l x)(hf:gh (wonI t l) b.wins b.places): ∀n,n≤b.wins.length→(edsB b.wins b.places n).Nodup
 |0,_=>by simp[edsB]
 |n+1,hn=>by
  rw[edsB_succ];have ih:=j5 h hb hv hf n (by omega);have one: ∀i,i<b.wins.length→(0≤nodeV b.wins b.places (2*i+1)∧0≤nodeV b.wins b.places (2*i+2))→ ∃c,(c=2*i+1∨c=2*i+2)∧nodeV b.wins b.places c=nodeV b.wins b.places (2*i+1)+nodeV b.wins b.places (2*i+2)-nodeV b.wins b.places i∧nodeV b.wins b.places i≠nodeV b.wins b.places c∧0≤nodeV b.wins b.places c:=fun i hi hc=>by
   have hd:nodeV b.wins b.places (2*i+1)≠nodeV b.wins b.places (2*i+2):=fun e=>zU (pD hb) hc.1 hi rfl e.symm;rcases(hb.2 i hi).1 with g|g
   ·exact⟨2*i+2,.inr rfl,by omega,by omega,hc.2⟩
   ·exact⟨2*i+1,.inl rfl,by omega,by omega,hc.1⟩
  unfold edB;split
  ·rename_i c;rw[cU];refine⟨ih,by simp,fun a ha b' hb' e=>?_⟩;subst e;obtain⟨i,hi,c',e⟩:=wc ha;rw[bm] at hb';rw[e] at hb';simp only[Crt.mk.injEq] at hb';obtain⟨x,x1,x2,x3,x4⟩:=one i (by omega) c';obtain⟨y,y1,y2,y3,y4⟩:=one n (by omega) c;have:=Im (pD hb) (z:=nodeV b.wins b.places x) x4 (i:=i) (j:=n) (by omega) (by omega) x1 y1 rfl (by omega) x3 (by omega);omega
  ·rw[aJ];exact ih
open Classical in
theorem c82 {k:KTourn}(h64:c6 k.clock)(hg:gKt k=false):Ans D 82 [KT k] [.i64 (okE (decide (dh k)))]:=by
 obtain⟨g1,g2,g3⟩:=mh hg;have no: ∀h:¬dh k,(some [PV.v (.int .i64 8)]:Option (List PV))=some [.i64 (okE (decide (dh k)))]:=fun h=>by rw[decide_eq_false h];rfl
 have pKT2:RF.ev (.part 2 1) [KT k]=some (F k.clock.pts):=rfl;have pKT0:RF.ev (.part 0 2) [KT k]=some (R k.clock.now):=rfl;have cKT11:RF.ev (.cell 11) [KT k]=some (sl I1 k.brk.places):=rfl;refine ans_of PE s82 rfl ⟨1001,?_⟩;unfold k82;simp only[den_lt,shKT,pKT,pKTb,pKT2,pKT0,cKT11,cellF,EV,aa,phi (Bf h64 g1),phi (Xe g2 g3),phi (Xl (n:=k.brk.places.length) (by omega)),eK,ai,decide_eq_false_iff_not,decide_eq_true_eq];by_cases h1:ClkOk k.clock
 rotate_left
 ·rw[if_neg h1];exact no (fun h=>h1 h.1)
 rw[if_pos h1];by_cases h2:f9 k.brk.wins k.brk.places
 rotate_left
 ·rw[if_neg h2];exact no (fun h=>h2 h.2.1)
 rw[if_pos h2];cases h3:szd k.brk.places.length with
 |false=>
  rw[if_pos rfl];exact no (fun h=>by have:=h.2.2.1;rw[h3] at this;cases this)
 |true=>
 rw[if_neg (by simp)];have hF:=h1.2.1;have hl:=hF.1;simp only[den_lt,pKT2,cKT11,cellF,EV,aa,phi (Xf (l:=k.clock.pts) (pl:=k.brk.places) (by omega) (by omega)),phi (Xm (l:=k.brk.places) (by omega)),ai,decide_eq_false_iff_not,decide_eq_true_eq];by_cases h4: ∀x∈k.brk.places,valK k.clock.pts x
 rotate_left
 ·rw[if_pos h4];exact no (fun h=>h4 h.2.2.2.1)
 rw[if_neg (fun g=>g h4)];by_cases h5:(k.brk.places.filter fun x=>decide (0≤x)).length=k.clock.pts.length
 rotate_left
 ·rw[if_pos (by omega)];exact no (fun h=>h5 h.2.2.2.2.1)
 rw[if_neg (by omega)];have hlen:=h2.1.1.2.2;have hval:=brk_val h2 h4;simp only[den_lt,pKTb,pKT0,EV,phi (Xk (b:=k.brk) (l:=k.clock.pts) (t:=k.clock.now) hF h64.1 hlen (by omega) hval),ai,decide_eq_false_iff_not];by_cases h6:gh (wonI k.clock.now k.clock.pts) k.brk.wins k.brk.places
 rotate_left
 ·rw[if_pos h6];exact no (fun h=>h6 h.2.2.2.2.2.1)
 rw[if_neg (fun g=>g h6)];have hel:=hG k.brk.wins k.brk.places k.brk.wins.length;simp only[den_lt,pKT,pKTb,EV,phi (Qe (b:=k.brk) hlen (by omega) (fun i hi=>(h2.2 i hi).1) (fun j=>jl hF (hval j))),phi (c169 (c:=k.clock) (edges:=edsB k.brk.wins k.brk.places k.brk.wins.length) hF h64.1 (by omega) (by have:=dS g1;omega) (fun e he=>⟨(iG hF h2 h4 h6 he).1,(iG hF h2 h4 h6 he).2.1⟩)),ai,decide_eq_false_iff_not];by_cases h7:JustR k.clock (edsB k.brk.wins k.brk.places k.brk.wins.length)
 ·rw[if_neg (fun g=>g h7),decide_eq_true (show dh k from⟨h1,h2,h3,h4,h5,h6,h7⟩)];rfl
 ·rw[if_pos h7];exact no (fun h=>h7 h.2.2.2.2.2.2)
theorem I0 {l:List Pt}{pl:List Int}(hF:okF l)(ho:dO pl)(hb: ∀x∈pl,-1≤x):ro (pl.filter fun x=>decide (0≤x))=l.map Pt.id↔(∀x∈pl,valK l x)∧(pl.filter fun x=>decide (0≤x)).length=l.length:=by
 have hperm:(ro (pl.filter fun x=>decide (0≤x))).Perm (pl.filter fun x=>decide (0≤x)):=ow _ _;constructor
 ·intro h;rw[h] at hperm;refine⟨fun x hx=>?_,by have:=hperm.length_eq;rw[aa] at this;exact this.symm⟩;by_cases c:0≤x
  ·exact .inr (in_ids.2 (hperm.mem_iff.2 (aX.2 ⟨hx,by simpa using c⟩)))
  ·exact .inl (by have:=hb x hx;omega)
 ·rintro⟨h1,h2⟩;have hnd:(pl.filter fun x=>decide (0≤x)).Nodup:=by
   have: ∀(l:List Int),(∀(i j:Nat) (x:Int),0≤x→l[i]?=some x→l[j]?=some x→i=j)→(l.filter fun x=>decide (0≤x)).Nodup:=by
    intro l;induction l with
    |nil=>intro _;simp
    |cons a l ih=>
     intro h;have ih:=ih fun i j x hx hi hj=>by have:=h (i+1) (j+1) x hx (by simpa using hi) (by simpa using hj);omega
     rw[bE];split
     ·rename_i c;refine bA.2 ⟨fun hm=>?_,ih⟩;obtain⟨j,hj⟩:=aA.1 (aX.1 hm).1;have:=h 0 (j+1) a (by simpa using c) (by simp) (by simpa using hj)
      omega
     ·exact ih
   exact this pl (uR.1 ho)
  have hp:(pl.filter fun x=>decide (0≤x)).Perm (l.map Pt.id):=sub_perm hnd (fun x hx=>by
   obtain⟨a,b⟩:=aX.1 hx;rcases h1 x a with e|e
   ·simp at b;omega
   ·exact in_ids.1 e) (by rw[aa];omega)
  refine List.Perm.eq_of_pairwise (le:=fun a b=>a≤b) (fun a b _ _ h1 h2=>by omega) ?_ ?_ (hperm.trans hp)
  ·have:=lf (le:=fun a b:Int=>decide (a≤b)) (fun a b c h1 h2=>by simp at h1 h2⊢;omega) (fun a b=>by simp;omega) (pl.filter fun x=>decide (0≤x));exact this.imp fun h=>by simpa using h
  ·rw[cX];intro i j hi hj hij;rw[aa] at hi hj;have:=eO hF.2.2 hij (ac hi) (ac hj);rw[List.getElem_map,List.getElem_map];omega
theorem Ax {S:List Int}{k:List Pt}(h:S.length=k.length)(ha:(S.zip k).all (fun x=>decide (x.1=x.2.id))=true):S=k.map Pt.id:=by
 rw[aG] at ha;refine List.ext_getElem (by simpa using h) fun i h1 h2=>?_
 have:=ha (S[i],k[i]'(by omega)) (List.mem_iff_getElem.2 ⟨i,by rw[cv];omega,by simp⟩);simpa using this
theorem wd {S:List Int}{k:List Pt}(h:S=k.map Pt.id):(S.zip k).all (fun x=>decide (x.1=x.2.id))=true:=by
 subst h;rw[aG];intro x hx;obtain⟨i,hi⟩:=aA.1 hx;obtain⟨h1,h2⟩:=dK hi;rw[aI,h2] at h1;simpa using h1.symm
def cpt (l:List Int)(i:Nat):Nat→List Int×Nat
 |0=>(l,i)
 |t+1=>if 0≤nthI l (i+1+t) then((cpt l i t).1.set (cpt l i t).2 (nthI l (i+1+t)),(cpt l i t).2+1) else cpt l i t
theorem wg {l:List Int}{i:Nat}{a:Int}(ha:l[i]?=some a)(hn:a<0)(hp:(l.take i).all (fun x=>!decide (x<0))=true): ∀t,i+1+t≤l.length→(cpt l i t).1.length=l.length∧(cpt l i t).2≤i+t∧(cpt l i t).1.take (cpt l i t).2=(l.take (i+1+t)).filter (fun x=>decide (0≤x))∧ ∀j,i+1+t≤j→(cpt l i t).1[j]?=l[j]?
 |0,_=>by
  refine⟨rfl,am _,?_,fun j _=>rfl⟩;rw[fB,cG,ha,List.filter_append];have h1:(l.take i).filter (fun x=>decide (0≤x))=l.take i:=di.2 fun x hx=>by
   have:=aG.1 hp x hx;simp at this⊢;omega
  have h2:(some a).toList.filter (fun x=>decide (0≤x))=[]:=by simp;omega
  rw[h1,h2,aJ];rfl
 |t+1,h=>by
  obtain⟨h1,h2,h3,h4⟩:=wg ha hn hp t (by omega);have hx:=dF (l:=l) (i:=i+1+t) (by omega);have e1:(l.take (i+1+(t+1))).filter (fun x=>decide (0≤x))=(l.take (i+1+t)).filter (fun x=>decide (0≤x))++if 0≤nthI l (i+1+t) then [nthI l (i+1+t)] else []:=by
   rw[show i+1+(t+1)=i+1+t+1 by omega,cG,hx,List.filter_append]
   congr 1
   simp[bE]
  rw[e1];unfold cpt;by_cases c:0≤nthI l (i+1+t)
  ·rw[if_pos c,if_pos c];refine⟨by rw[aB];exact h1,by simp only;omega,?_,fun j hj=>?_⟩
   ·simp only;rw[cG,aC (by omega),List.take_set,List.set_eq_of_length_le (by rw[aH];omega),h3];rfl
   ·simp only;rw[aE (by omega)];exact h4 j (by omega)
  ·rw[if_neg c,if_neg c,aJ];exact⟨h1,by omega,h3,fun j hj=>h4 j (by omega)⟩
theorem Qf {L S:List Int}(h:S.length≤L.length):RF.ev (.appK 0 1) [sl I1 L,.v (.int .i64 0),sl I1 S]=some (sl I1 (S++L.drop S.length)):=by
 show(if(0:Int)≤0∧(0:Int)≤((L.map I1).length:Nat)∧((0:Int).toNat+(S.map I1).length)*0≤140737488355328∧elsOk' 1 (S.map I1)=true then some (PV.sl ((L.map I1).take (0:Int).toNat++S.map I1++(L.map I1).drop ((0:Int).toNat+(S.map I1).length))) else none)=_
 have he:elsOk' 1 (S.map I1)=true:=by
  cases S with
  |nil=>rfl
  |cons a k=>simp[elsOk',lenI]
 rw[if_pos ⟨by omega,by omega,by omega,he⟩];simp
theorem Xo {L:List Int}{a n:Nat}(h:a+n=L.length):RF.ev (.clr [KP.z]) [sl I1 L,.v (.int .i64 (a:Int)),.v (.int .i64 (n:Int))]=some (sl I1 (L.take a++List.replicate n 0)):=by
 show(if(0:Int)≤a∧(0:Int)≤n∧(a:Int)+n≤((L.map I1).length:Nat) then some (PV.sl ((L.map I1).take (a:Int).toNat++List.replicate (n:Int).toNat [KP.z]++(L.map I1).drop ((a:Int).toNat+(n:Int).toNat))) else none)=_
 rw[if_pos ⟨by omega,by omega,by rw[aa];omega⟩,bR (by simp;omega)];simp;exact .inr rfl
theorem Xp {L Z:List Int}:RF.ev .sub [sl I1 (L++Z),.v (.int .i64 0),.v (.int .i64 (L.length:Int))]=some (sl I1 L):=by
 rw[qa,if_pos (by simp;omega)];simp
open Classical in
theorem c78 {k:KTourn}(h64:c6 k.clock)(hg:gKt k=false):Ans D 78 [KT k] [.i64 (okE (decide (dh k)))]:=by
 obtain⟨g1,g2,g3⟩:=mh hg;have no: ∀h:¬dh k,(some [PV.v (.int .i64 8)]:Option (List PV))=some [.i64 (okE (decide (dh k)))]:=fun h=>by rw[decide_eq_false h];rfl
 have pKT2:RF.ev (.part 2 1) [KT k]=some (F k.clock.pts):=rfl;have pKT0:RF.ev (.part 0 2) [KT k]=some (R k.clock.now):=rfl;have cKT2:RF.ev (.cell 2) [KT k]=some (sl row k.clock.pts):=rfl;have cKT11:RF.ev (.cell 11) [KT k]=some (sl I1 k.brk.places):=rfl;have cKT12:RF.ev (.cell 12) [KT k]=some (sl I1 k.brk.wins):=rfl;have wp:IntKind.i64.wrap ((k.brk.places.length:Int)-1)=(k.brk.places.length:Int)-1:=bU (by omega) (by omega);refine ans_of PA s78 rfl ⟨1001,?_⟩;unfold k78;simp only[den_lt,shKT,pKT,pKTb,cKT11,EV,aa,wp,phi (Bj h64 g1),phi (Xd g2 g3),eK,ai,decide_eq_false_iff_not,decide_eq_true_eq];by_cases h1:ClkOk k.clock
 rotate_left
 ·rw[if_neg h1];exact no (fun h=>h1 h.1)
 rw[if_pos h1];by_cases h2:f9 k.brk.wins k.brk.places
 rotate_left
 ·rw[if_neg h2];exact no (fun h=>h2 h.2.1)
 rw[if_pos h2];have hF:=h1.2.1;have hl:=hF.1;have hpl:=h2.1.1;have hand:IntKind.i64.wrap (((BitVec.ofInt IntKind.i64.bits (k.brk.places.length:Int)&&& BitVec.ofInt IntKind.i64.bits ((k.brk.places.length:Int)-1)).toNat:Nat):Int)=(((BitVec.ofInt 64 (k.brk.places.length:Int)&&& BitVec.ofInt 64 ((k.brk.places.length:Int)-1)).toNat:Nat):Int):=by
  show IntKind.i64.wrap (((BitVec.ofInt 64 (k.brk.places.length:Int)&&& BitVec.ofInt 64 ((k.brk.places.length:Int)-1)).toNat:Nat):Int)=_
  have:(BitVec.ofInt 64 (k.brk.places.length:Int)&&& BitVec.ofInt 64 ((k.brk.places.length:Int)-1)).toNat≤k.brk.places.length:=by
   rw[kU];refine bc Nat.and_le_left ?_;rw[gA];omega
  exact bU (by omega) (by omega)
 have hsz:=Oe k.brk.places.length (by omega) (by omega);rw[hand];generalize (BitVec.ofInt 64 (k.brk.places.length:Int)&&& BitVec.ofInt 64 ((k.brk.places.length:Int)-1)).toNat=z at hsz;by_cases h3:z=0
 rotate_left
 ·rw[if_pos (by omega)];exact no (fun h=>h3 (hsz.2 h.2.2.1))
 rw[if_neg (by omega)];have h3:=hsz.1 h3;have hfl:=fx (fun x=>decide (0≤x)) k.brk.places;have hsl:(ro (k.brk.places.filter fun x=>decide (0≤x))).length=(k.brk.places.filter fun x=>decide (0≤x)).length:=mZ ..;have hsame:=I0 (l:=k.clock.pts) (pl:=k.brk.places) hF h2.1.2.1 (fun x hx=>(h2.1.2.2 x hx).1);generalize hS:ro (k.brk.places.filter fun x=>decide (0≤x))=S at hsl hsame;have hs160:=phi (Xn (l:=k.brk.places.filter fun x=>decide (0≤x)) (by omega));rw[hS] at hs160;generalize hfe:(k.brk.places.filter fun x=>decide (0≤x))=fl at hsl hsame hs160 hfl hS;have ho:=h2.1.2.1;have hmm:k.brk.wins.length=k.brk.places.length-1:=by have:=h2.1.1.2.2;omega
 have hwl:=dU (won:=wonI k.clock.now k.clock.pts) (places:=k.brk.places) (m:=k.brk.places.length-1) (k.brk.places.length-1);have hfine:=lK (won:=wonI k.clock.now k.clock.pts) (places:=k.brk.places) (v:=k.brk.wins) hmm;obtain⟨w,hw⟩: ∃w,w=playD (wonI k.clock.now k.clock.pts) k.brk.places (k.brk.places.length-1) (k.brk.places.length-1):=⟨_,rfl⟩;have t123:(∀x∈k.brk.places,valK k.clock.pts x)→PhiS D 123 [F k.clock.pts,R k.clock.now,sl I1 k.brk.places]=some [BR ⟨k.brk.places,w⟩,sl crow (edsB w k.brk.places w.length)]∧True:=fun hv=>⟨phi (IZ hF h64.1 h1.1 hpl.1 hpl.2.1 hv ho hw),trivial⟩;rw[←hw] at hwl hfine;have cB1:RF.ev (.cell 1) [BR ⟨k.brk.places,w⟩]=some (sl I1 w):=rfl;have tOk:(∀x∈k.brk.places,valK k.clock.pts x)→fl.length=k.clock.pts.length→w=k.brk.wins→decide (dh k)=decide (JustP k.clock (edsB w k.brk.places w.length)):=fun hv hlen5 h6=>by
  have h6':=hfine.1 h6;have hJ:=li (c:=k.clock) h1.2.2.1 (j5 (b:=k.brk) hF h2 hv h6' _ (am _)) (fun e he=>(iG (b:=k.brk) hF h2 hv h6' he).2.2);rw[h6,cj,decide_eq_true_eq,decide_eq_true_eq];exact⟨fun h=>hJ.2 h.2.2.2.2.2.2,fun h=>⟨h1,h2,h3,hv,by rw[hfe];exact hlen5,h6',hJ.1 h⟩⟩
 have cKT2':RF.ev (.cell 0) [F k.clock.pts]=some (sl row k.clock.pts):=rfl;simp only[den_lt,cKT11,phi (jQ (l:=k.brk.places) (by omega)),EV,aa];refine(run_list (m:=1001) (l:=k.brk.places) (p:=fun x=>!decide (x<0)) (st:=fun i=>[.i64 (i:Int)]) (r:=some [.i64 (okE (decide (dh k)))]) (fin:=some [.i64 (okE (decide (dh k)))]) (fun i a self ha hp=>?_) (fun hall self=>?_) (by omega)).trans ?_
 ·have hi:=get_lt ha;unfold wD;simp only[EV,decide_eq_true_eq,if_lt hi,ixM hi,eltM ha,rowI,up1 (show i<1000000000 by omega)]
  by_cases c:a<0
  rotate_left
  ·rw[if_neg c,if_pos (by simp;omega)]
  ·rw[if_pos c,if_neg (show¬(i:Int)= -1 by omega),if_neg (by simp[c])]
   have hend:=wg ha c hp (k.brk.places.length-(i+1)) (by omega);refine(dQ (m:=1001) (n:=k.brk.places.length-(i+1)) (st:=fun t=>[sl I1 (cpt k.brk.places i t).1,.i64 ((cpt k.brk.places i t).2:Int),.i64 ((i+1+t:Nat):Int)]) (fin:=some [.i64 (okE (decide (dh k)))]) (fun t self ht=>?_) (fun self=>?_) (by omega))
   ·obtain⟨q1,q2,_,q4⟩:=wg ha c hp t (by omega);have hx:=dF (l:=k.brk.places) (i:=i+1+t) (by omega);have hy:=q4 (i+1+t) (am _);rw[hx] at hy;have hz:cpt k.brk.places i (t+1)=if 0≤nthI k.brk.places (i+1+t) then((cpt k.brk.places i t).1.set (cpt k.brk.places i t).2 (nthI k.brk.places (i+1+t)),(cpt k.brk.places i t).2+1) else cpt k.brk.places i t:=rfl
    rw[hz];generalize cpt k.brk.places i t=s at q1 q2 hy;generalize nthI k.brk.places (i+1+t)=x at hy;unfold k78_51;simp only[EV,decide_eq_true_eq,if_lt (show i+1+t<k.brk.places.length by omega),ixM (show i+1+t<k.brk.places.length by omega),eltM hy,rowI,ixM (show s.2<k.brk.places.length by omega),setI (l:=s.1) (i:=s.2) (by omega),up1 (show s.2<1000000000 by omega),FG,up1 (show i+1+t<1000000000 by omega)]
    by_cases c0:x<0
    ·rw[if_neg (by simp[c0]),if_neg (by omega)];rfl
    ·rw[if_pos (by simp[c0]),if_pos (by omega)];rfl
   ·rw[show i+1+(k.brk.places.length-(i+1))=k.brk.places.length by omega,ii,hfe] at hend
    rw[show i+1+(k.brk.places.length-(i+1))=k.brk.places.length by omega]
    generalize cpt k.brk.places i (k.brk.places.length-(i+1))=s at hend;obtain⟨L,n⟩:=s;obtain⟨q1,q2,q3,q4⟩:=hend;simp only at q1 q2 q3;have hn:n=fl.length:=by rw[←q3,aH];omega
    subst hn;have cl:=Xo (L:=L) (a:=fl.length) (n:=k.brk.places.length-fl.length) (by omega);rw[q3] at cl;have bn:RF.ev .bnd [.v (.int .i64 (fl.length:Int)),.v (.int .i64 (k.brk.places.length:Int))]=some (.i64 (fl.length:Int)):=by rw[gZ,if_pos ⟨by omega,by omega⟩]
    have dd:(k.brk.places.length:Int)-(fl.length:Int)=((k.brk.places.length-fl.length:Nat):Int):=by omega
    have ap:=Qf (L:=fl++List.replicate (k.brk.places.length-fl.length) 0) (S:=S) (by rw[an];omega);unfold k78_51;simp only[EV,decide_eq_true_eq,if_neg (show¬((k.brk.places.length:Nat):Int)<((k.brk.places.length:Nat):Int) by omega),FF,bn,Int.zero_add,dd,cl,Xp,den_lt,hs160,ap,cKT2,aa,ai,decide_eq_false_iff_not,aM,if_true]
    by_cases h5:fl.length=k.clock.pts.length
    rotate_left
    ·rw[if_pos (by omega)];exact no (fun h=>h5 (by have:=h.2.2.2.2.1;rw[hfe] at this;exact this))
    rw[if_neg (by omega)];have hzl:(S.zip k.clock.pts).length=fl.length:=by rw[cv];omega
    refine(run_list (m:=1001) (l:=S.zip k.clock.pts) (p:=fun x=>decide (x.1=x.2.id)) (st:=fun i=>[.i64 (i:Int)]) (r:=some [.i64 8]) (fin:=some [.i64 (okE (decide (dh k)))]) (fun i x self hx _=>?_) (fun hall self=>?_) (by omega)).trans ?_
    ·obtain⟨hp,hq⟩:=dK hx;have hp':(S++(fl++List.replicate (k.brk.places.length-fl.length) 0).drop S.length)[i]?=some x.1:=by rw[aw (get_lt hp)];exact hp
     have hi:=get_lt hx;unfold wC;simp only[den_lt,cKT2,EV,aa,decide_eq_true_eq,if_lt (show i<fl.length by omega),ixM (show i<fl.length by omega),eltM hp',tixM hq (row_len _),eltM hq,rowI,rowP,cellP0,up1 (show i<1000000000 by omega),ai,decide_eq_false_iff_not]
     by_cases e:x.1=x.2.id
     ·rw[if_neg (by simp[e]),if_pos e]
     ·rw[if_pos e,if_neg e];rfl
    ·rw[hzl];have h4:S=k.clock.pts.map Pt.id:=Ax (by omega) hall;obtain⟨hv,hlen5⟩:=hsame.1 h4;obtain⟨e123,hmm⟩:=t123 hv;unfold wC;simp only[EV,decide_eq_true_eq,aa,if_neg (show¬((fl.length:Nat):Int)<((fl.length:Nat):Int) by omega),if_neg (show¬((fl.length:Nat):Int)<((fl.length:Nat):Int) by omega),FE,ak,ad,if_false,den_lt,pKT2,pKT0,cKT11,cKT12,e123,shBR,cB1,phi (IU (l:=w) (k:=k.brk.wins) (by omega)),ai,decide_eq_false_iff_not]
     by_cases h6:w=k.brk.wins
     rotate_left
     ·rw[if_pos h6];exact no (fun h=>h6 (hfine.2 h.2.2.2.2.2.1))
     rw[if_neg (by simp[h6])];have hd:=tOk hv hlen5 h6;rw[hd];have hEl:(edsB w k.brk.places w.length).length≤w.length:=hG ..;generalize edsB w k.brk.places w.length=E at hEl;have cc:=dS g1;simp only[den_lt,pKT,cCL4,EV,aa];by_cases c1:E.length=k.clock.certs.list.length
     ·rw[if_pos (decide_eq_true (by omega))];refine(run_list (m:=1001) (l:=k.clock.certs.list) (p:=fun h=>decide (h.cert∈E)) (st:=fun i=>[.i64 (i:Int)]) (r:=some [.i64 8]) (fin:=some [.i64 0]) (fun i a self ha _=>?_) (fun _ self=>?_) (by omega)).trans ?_
      ·unfold wB;simp only[den_lt,cCL4,tixM ha (lenH _),eltM ha,rowH,pHP,phi (c155 (l:=E) a.cert (by omega)),EV,aa,decide_eq_true_eq,if_lt (get_lt ha),up1 (show i<1000000000 by have:=get_lt ha;omega),ai,decide_eq_false_iff_not]
       by_cases c2:a.cert∈E
       ·rw[if_neg (by simp[c2]),if_pos c2]
       ·rw[if_pos c2,if_neg c2];unfold rM;simp only[EV];rfl
      ·unfold wB FD rM;simp only[EV,decide_eq_true_eq,if_ge];rfl
      ·have:(k.clock.certs.list.all fun h=>decide (h.cert∈E))=decide (JustP k.clock E):=by
        rw[cj,decide_eq_true_eq];unfold JustP;simp[c1]
       rw[this];cases decide (JustP k.clock E)<;>rfl
     ·rw[if_neg (by simp;omega),show decide (JustP k.clock E)=false from decide_eq_false (fun h=>c1 h.1)]
      unfold rM;simp only[EV];rfl
    ·by_cases hT:dh k
     ·rw[if_pos (wd (hsame.2 ⟨hT.2.2.2.1,by have:=hT.2.2.2.2.1;rw[hfe] at this;exact this⟩))]
     ·split
      ·rfl
      ·exact no hT
 ·have hall':fl=k.brk.places:=by
   rw[←hfe];exact di.2 fun x hx=>by
    have:=aG.1 hall x hx;simp at this⊢;omega
  have ap:=Qf (L:=k.brk.places) (S:=S) (by omega);have hsu:RF.ev .sub [sl I1 k.brk.places,.v (.int .i64 0),.v (.int .i64 (k.brk.places.length:Int))]=some (sl I1 fl):=by rw[hall'];exact subM
  unfold wD;simp only[EV,decide_eq_true_eq,if_ge,FC,eq_self,if_true,hsu,den_lt,hs160,ap,cKT2,aa,ai,decide_eq_false_iff_not,aM];have hpl':k.brk.places.length=fl.length:=by rw[hall']
  rw[hpl'];by_cases h5:fl.length=k.clock.pts.length
  rotate_left
  ·rw[if_pos (by omega)];exact no (fun h=>h5 (by have:=h.2.2.2.2.1;rw[hfe] at this;exact this))
  rw[if_neg (by omega)];have hzl:(S.zip k.clock.pts).length=fl.length:=by rw[cv];omega
  refine(run_list (m:=1001) (l:=S.zip k.clock.pts) (p:=fun x=>decide (x.1=x.2.id)) (st:=fun i=>[.i64 (i:Int)]) (r:=some [.i64 8]) (fin:=some [.i64 (okE (decide (dh k)))]) (fun i x self hx _=>?_) (fun hall self=>?_) (by omega)).trans ?_
  ·obtain⟨hp,hq⟩:=dK hx;have hp':(S++k.brk.places.drop S.length)[i]?=some x.1:=by rw[aw (get_lt hp)];exact hp
   have hi:=get_lt hx;unfold wA;simp only[den_lt,cKT2,EV,aa,decide_eq_true_eq,if_lt (show i<fl.length by omega),ixM (show i<fl.length by omega),eltM hp',tixM hq (row_len _),eltM hq,rowI,rowP,cellP0,up1 (show i<1000000000 by omega),ai,decide_eq_false_iff_not]
   by_cases e:x.1=x.2.id
   ·rw[if_neg (by simp[e]),if_pos e]
   ·rw[if_pos e,if_neg e];rfl
  ·rw[hzl];have h4:S=k.clock.pts.map Pt.id:=Ax (by omega) hall;obtain⟨hv,hlen5⟩:=hsame.1 h4;obtain⟨e123,hmm⟩:=t123 hv;unfold wA;simp only[EV,decide_eq_true_eq,aa,if_neg (show¬((fl.length:Nat):Int)<((fl.length:Nat):Int) by omega),if_neg (show¬((fl.length:Nat):Int)<((fl.length:Nat):Int) by omega),K5,ak,ad,if_false,den_lt,pKT2,pKT0,cKT11,cKT12,e123,shBR,cB1,phi (IU (l:=w) (k:=k.brk.wins) (by omega)),ai,decide_eq_false_iff_not]
   by_cases h6:w=k.brk.wins
   rotate_left
   ·rw[if_pos h6];exact no (fun h=>h6 (hfine.2 h.2.2.2.2.2.1))
   rw[if_neg (by simp[h6])];have hd:=tOk hv hlen5 h6;rw[hd];have hEl:(edsB w k.brk.places w.length).length≤w.length:=hG ..;generalize edsB w k.brk.places w.length=E at hEl;have cc:=dS g1;simp only[den_lt,pKT,cCL4,EV,aa];by_cases c1:E.length=k.clock.certs.list.length
   ·rw[if_pos (decide_eq_true (by omega))];refine(run_list (m:=1001) (l:=k.clock.certs.list) (p:=fun h=>decide (h.cert∈E)) (st:=fun i=>[.i64 (i:Int)]) (r:=some [.i64 8]) (fin:=some [.i64 0]) (fun i a self ha _=>?_) (fun _ self=>?_) (by omega)).trans ?_
    ·unfold BK;simp only[den_lt,cCL4,tixM ha (lenH _),eltM ha,rowH,pHP,phi (c155 (l:=E) a.cert (by omega)),EV,aa,decide_eq_true_eq,if_lt (get_lt ha),up1 (show i<1000000000 by have:=get_lt ha;omega),ai,decide_eq_false_iff_not]
     by_cases c2:a.cert∈E
     ·rw[if_neg (by simp[c2]),if_pos c2]
     ·rw[if_pos c2,if_neg c2];unfold vo;simp only[EV];rfl
    ·unfold BK K4 vo;simp only[EV,decide_eq_true_eq,if_ge];rfl
    ·have:(k.clock.certs.list.all fun h=>decide (h.cert∈E))=decide (JustP k.clock E):=by
      rw[cj,decide_eq_true_eq];unfold JustP;simp[c1]
     rw[this];cases decide (JustP k.clock E)<;>rfl
   ·rw[if_neg (by simp;omega),show decide (JustP k.clock E)=false from decide_eq_false (fun h=>c1 h.1)]
    unfold vo;simp only[EV];rfl
  ·by_cases hT:dh k
   ·rw[if_pos (wd (hsame.2 ⟨hT.2.2.2.1,by have:=hT.2.2.2.2.1;rw[hfe] at this;exact this⟩))]
   ·split
    ·rfl
    ·exact no hT
 ·split<;>rfl
def zC:Clock:=⟨⟨0,0⟩,[],⟨0,[]⟩,⟨⟨[],[],[]⟩,[],[]⟩,[]⟩
def zKH:KHeap:=⟨zC,[]⟩
def zKT:KTourn:=⟨zC,⟨[],[]⟩⟩
def zHT:Heater:=⟨zC,⟨0,[]⟩⟩
theorem Sn {l:List Pt}(h:gF l=false):l.length≤70:=by
 unfold gF at h;simp only[aY,decide_eq_false_iff_not] at h;omega
theorem c76 {c:Clock}(hg:gCl c=false):Ans D 76 [CL c] [.bool (decide (c=zC))]:=by
 unfold gCl gAg gSl at hg;simp only[aY,decide_eq_false_iff_not] at hg;obtain⟨⟨⟨g1,g2⟩,g3⟩,⟨⟨⟨g4,g5⟩,g6⟩,g7⟩,g8⟩:=hg;have g3:=Sn g3;have pS:RF.ev (.part 5 3) [CL c]=some (SL c.agenda.slots):=rfl;have c3:RF.ev (.cell 3) [CL c]=some (.i64 c.certs.next):=rfl;have sAG:RF.ev (.shape 5) [AG c.agenda]=some (AG c.agenda):=rfl;have sSL:RF.ev (.shape 3) [SL c.agenda.slots]=some (SL c.agenda.slots):=rfl;have a2:RF.ev .agg [.v (.int .i64 0),.v (.int .i64 0)]=some (R ⟨0,0⟩):=rfl;refine ans_of Py s76 rfl ⟨1,?_⟩;unfold k76;have w: ∀a b:Nat,a≤10000→b≤10000→IntKind.i64.wrap ((a:Int)+(b:Int))=((a+b:Nat):Int):=fun a b ha hb=>by rw[bU (by omega) (by omega)];omega
 simp only[den_lt,shCL,pCL5,pS,sAG,sSL,pCL0,c3,cCL2,cCL4,cCL10,cAG3,cAG4,cSL0,cSL1,cSL2,a2,eqvR,EV,aa,KY,decide_eq_true_eq];rw[w _ _ (by omega) (by omega),w _ _ (by omega) (by omega),w _ _ (by omega) (by omega),w _ _ (by omega) (by omega),w _ _ (by omega) (by omega),w _ _ (by omega) (by omega),w _ _ (by omega) (by omega)];obtain⟨n,p,⟨nx,cl⟩,⟨⟨u,ud,f⟩,hp,wh⟩,d⟩:=c;simp only at*;by_cases e1:n=⟨0,0⟩
 ·by_cases e2:nx=0
  ·rw[if_pos e1,if_pos e2]
   congr 4
   refine aV.2 ?_;subst e1;subst e2;unfold zC;simp only[Clock.mk.injEq,Certs.mk.injEq,Agenda.mk.injEq,Slots.mk.injEq,true_and,←bM];omega
  ·rw[if_pos e1,if_neg e2,decide_eq_false (fun h=>e2 (by cases h;rfl))]
 ·rw[if_neg e1,decide_eq_false (fun h=>e1 (by cases h;rfl))]
def ckOf (c:Choice):Clock:=if c.tag=1 then c.heap.clock else if c.tag=2 then c.tourn.clock else if c.tag=3 then c.heater.clock else c.hanger.clock
section
variable (c:Choice)
theorem pK1:RF.ev (.part 1 11) [CHO c]=some (CL c.heap.clock):=rfl
theorem pK2:RF.ev (.part 13 11) [CHO c]=some (CL c.tourn.clock):=rfl
theorem pK3:RF.ev (.part 26 11) [CHO c]=some (CL c.heater.clock):=rfl
theorem pK4:RF.ev (.part 39 11) [CHO c]=some (CL c.hanger.clock):=rfl
theorem Xq:RF.ev (.cell 12) [CHO c]=some (sl I1 c.heap.heap):=rfl
theorem Xr:RF.ev (.cell 24) [CHO c]=some (sl I1 c.tourn.brk.places):=rfl
theorem Xs:RF.ev (.cell 25) [CHO c]=some (sl I1 c.tourn.brk.wins):=rfl
theorem Xt:RF.ev (.cell 37) [CHO c]=some (.i64 c.heater.tree.root):=rfl
theorem Xu:RF.ev (.cell 38) [CHO c]=some (sl nrow c.heater.tree.nodes):=rfl
theorem Xv:RF.ev (.cell 50) [CHO c]=some (sl I1 c.hanger.heap):=rfl
end
theorem u8E (a b:Int):RF.ev (.bin .eql) [.v (.int .u8 a),.v (.int .u8 b)]=some (.v (.bool (decide (a=b)))):=rfl
theorem d66 (c:Choice): ∃N,den (PhiS D) N k66 [] [CHO c]=some [CL (ckOf c)]:=by
 refine⟨1,?_⟩;unfold k66 ckOf;simp only[den_lt,shCH,cCH,pK1,pK2,pK3,pK4,u8E,EV,decide_eq_true_eq];split
 ·rfl
 split
 ·rfl
 split<;>rfl
theorem c66 (c:Choice):Ans D 66 [CHO c] [CL (ckOf c)]:=ans_of Pw s66 rfl (d66 c)
theorem c13 (c:Choice):Ans D 13 [CHO c] [CL (ckOf c)]:=ans_of O8 s13 rfl (d66 c)
def lr (c:Choice):Prop:=(c.tag≠1→c.heap=zKH)∧(c.tag≠2→c.tourn=zKT)∧(c.tag≠3→c.heater=zHT)∧(c.tag≠4→c.hanger=zKH)
def cY (c:Choice):Prop:=if c.tag=1 then eP c.heap else if c.tag=2 then dh c.tourn else if c.tag=3 then fP c.heater else if c.tag=4 then fO c.hanger else False
def iI (c:Choice):Prop:=lr c∧cY c∧asked (ckOf c).now=0
structure Cho64 (c:Choice):Prop where
 tag:0≤c.tag∧c.tag≤255
 h1:c6 c.heap.clock
 h2:c6 c.tourn.clock
 h3:c6 c.heater.clock
 h4:c6 c.hanger.clock
theorem I2 {c:Choice}(h:Cho64 c):c6 (ckOf c):=by
 unfold ckOf;split
 ·exact h.h1
 split
 ·exact h.h2
 split
 ·exact h.h3
 ·exact h.h4
theorem nz {c:Choice}(h:gCh c=false):gKh c.heap=false∧gKt c.tourn=false∧gHt c.heater=false∧gKh c.hanger=false:=by
 unfold gCh at h;simp only[aY] at h;exact⟨h.1.1.1,h.1.1.2,h.1.2,h.2⟩
def lu (b:Bool)(e:Int):Int:=if b=false then 8 else if e≠0 then 8 else 0
open Classical in
theorem wj {c:Choice}(ha:lr c):lu (decide (cY c)) (asked (ckOf c).now)=okE (decide (iI c)):=by
 unfold lu;by_cases h1:cY c
 ·rw[decide_eq_true h1,if_neg (by simp)];by_cases h2:asked (ckOf c).now=0
  ·rw[if_neg (fun g=>g h2),decide_eq_true (show iI c from⟨ha,h1,h2⟩)];rfl
  ·rw[if_pos h2,decide_eq_false (fun h=>h2 h.2.2)];rfl
 ·rw[decide_eq_false h1,if_pos rfl,decide_eq_false (fun h=>h1 h.2.1)];rfl
def usedB (c:Choice):Nat→Bool
 |0=>!decide (c.heap=zKH)
 |1=>!decide (c.tourn=zKT)
 |2=>!decide (c.heater=zHT)
 |_=>!decide (c.hanger=zKH)
theorem ut {c:Choice}(ht:0≤c.tag∧c.tag≤255):(∀i:Nat,i<4→¬(usedB c i=true∧((i+1:Nat):Int)≠c.tag))↔lr c:=by
 unfold lr;constructor
 ·intro h;have h0:=h 0 (by omega);have h1:=h 1 (by omega);have h2:=h 2 (by omega);have h3:=h 3 (by omega);simp only[usedB,ai,decide_eq_false_iff_not,not_and,Decidable.not_not] at h0 h1 h2 h3;refine⟨fun g=>?_,fun g=>?_,fun g=>?_,fun g=>?_⟩
  ·exact dy fun k=>g (h0 k).symm
  ·exact dy fun k=>g (h1 k).symm
  ·exact dy fun k=>g (h2 k).symm
  ·exact dy fun k=>g (h3 k).symm
 ·rintro⟨h0,h1,h2,h3⟩ i hi ⟨hu,hne⟩
  match i,hi with
  |0,_=>simp only[usedB,ai,decide_eq_false_iff_not] at hu;exact hu (h0 (fun e=>hne (by omega)))
  |1,_=>simp only[usedB,ai,decide_eq_false_iff_not] at hu;exact hu (h1 (fun e=>hne (by omega)))
  |2,_=>simp only[usedB,ai,decide_eq_false_iff_not] at hu;exact hu (h2 (fun e=>hne (by omega)))
  |3,_=>simp only[usedB,ai,decide_eq_false_iff_not] at hu;exact hu (h3 (fun e=>hne (by omega)))
open Classical in
theorem e26 {c:Choice}(h64:Cho64 c)(hg:gCh c=false){e2 e3 e4 e5:PV}:den (PhiS D) 1001 BA [] [CHO c,CHO c,e2,e3,e4,e5]=some [.i64 (lu (decide (cY c)) (asked (ckOf c).now))]:=by
 obtain⟨g1,g2,g3,g4⟩:=nz hg;have fin: ∀(x:Int) (p:Prop),x=okE (decide p)→(cY c↔p)→den (PhiS D) 1001 Bz [] [CHO c,CHO c,e2,e3,e4,e5,.v (.int .u8 c.tag),.v (.bool (decide (c.tag=1))),.i64 x]=some [.i64 (lu (decide (cY c)) (asked (ckOf c).now))]:=fun x p hx hp=>by
  subst hx;unfold Bz lu;simp only[den_lt,EV,eK,ai,decide_eq_false_iff_not,phi (c66 c),pCL0,phi (c44 (I2 h64).1)];by_cases hp':p
  ·rw[decide_eq_true hp',if_pos rfl,if_neg (show¬¬cY c from fun g=>g (hp.2 hp'))]
   by_cases e:asked (ckOf c).now=0<;>simp[e]
  ·rw[decide_eq_false hp',if_neg (by simp),if_pos (fun h=>hp' (hp.1 h))]
 unfold BA;simp only[den_lt,cCH,u8E,pCH1,pCH2,pCH3,pCH4,EV,decide_eq_true_eq,phi (c77 h64.h1 g1),phi (c78 h64.h2 g2),phi (c79 h64.h3 g3),phi (c80 h64.h4 g4),KG,KI,KJ];by_cases t1:c.tag=1
 ·rw[if_pos t1];exact fin _ _ rfl (by unfold cY;rw[if_pos t1])
 rw[if_neg t1];by_cases t2:c.tag=2
 ·rw[if_pos t2];exact fin _ _ rfl (by unfold cY;rw[if_neg t1,if_pos t2])
 rw[if_neg t2];by_cases t3:c.tag=3
 ·rw[if_pos t3];exact fin _ _ rfl (by unfold cY;rw[if_neg t1,if_neg t2,if_pos t3])
 rw[if_neg t3];by_cases t4:c.tag=4
 ·rw[if_pos t4];exact fin _ _ rfl (by unfold cY;rw[if_neg t1,if_neg t2,if_neg t3,if_pos t4])
 rw[if_neg t4];exact fin 8 False (by simp;rfl) (by unfold cY;rw[if_neg t1,if_neg t2,if_neg t3,if_neg t4])
end Go.Proofs.YtfghdmmapmdcgaaGreat
