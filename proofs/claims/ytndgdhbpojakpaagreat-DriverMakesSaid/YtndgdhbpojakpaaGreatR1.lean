import Derived.Test.YtndgdhbpojakpaaGreatE1
set_option linter.unusedVariables false
set_option linter.unusedSimpArgs false
set_option linter.defProp false
noncomputable section
namespace Go.Proofs.YtndgdhbpojakpaaGreat
open Go.Sym Bnd
def Qb (s:Slots)(i:Nat):Slots:=⟨s.uses,s.used.set i false,s.free++[(i:Int)]⟩
def kid (hp:List Evt)(i:Nat):Nat:=match hp[2*i+1]?,hp[2*i+2]? with
 |some a,some b=>if evLess b a=true then 2*i+2 else 2*i+1
 |_,_=>2*i+1
def Qc:Nat->List Evt->List Int->Nat->List Evt×List Int
 |0,hp,wh,_=>(hp,wh)
 |n+1,hp,wh,i=>match hp[i]?,hp[kid hp i]? with
  |some e,some c=>if evLess c e=true then Qc n (kD hp i (kid hp i) e c) (qt wh i (kid hp i) e c) (kid hp i) else(hp,wh)
  |_,_=>(hp,wh)
def adX (a:Agenda)(i j:Nat):Agenda:=match a.heap[a.heap.length-1]? with
 |some f=>if i=a.heap.length-1 then⟨Qb a.slots j,a.heap.take (a.heap.length-1),a.wher.set j (-1)⟩ else
  let u:=upS (i+1) ((a.heap.take (a.heap.length-1)).set i f) ((a.wher.set j (-1)).set f.hnd.index.toNat (i:Int)) i
  let d:=Qc (a.heap.length-1) u.1 u.2.1 u.2.2
  ⟨Qb a.slots j,d.1,d.2⟩
 |none=>a
def Mw {c:Certs}:cU c↔c.list.length<=200/\ 0<=c.next/\ c.next<=1000000/\(∀h∈c.list,h.cert.ok/\ 0<=h.number/\ h.number<c.next)/\ c.list.Pairwise λg h=>g.number<h.number/\ g.cert≠h.cert:=by
 constructor
 .intro hc;have hc':=hc;obtain⟨h1,h2,h3,h4⟩:=hc';refine⟨h1,h2,h3,λh hh=>?_,?_⟩
  .obtain⟨i,hi⟩:=aN.1 hh
   grind
  .rw[d6];intro i j hi hj hij;exact⟨yG hc j i _ _ hij (ak hi) (ak hj),(h4 j _ (ak hj)).2.2.2.2 i hij _ (ak hi)⟩
 .rintro⟨h1,h2,h3,h4,h5⟩;rw[d6] at h5;refine⟨h1,h2,h3,λi h hi=>?_⟩
  grind
open Classical in
def Qd (n:Int)(m:Int):Bool:=!decide (m=n)
def aaJ (c:Clock)(n:Int):Agenda:=match c.due.find? λd=>decide (d.number=n) with
 |some d=>adX c.agenda ((c.agenda.wher[d.hnd.index.toNat]?).getD 0).toNat d.hnd.index.toNat
 |none=>c.agenda
def uK (c:Clock)(n:Int):Clock:=⟨c.now,c.pts,⟨c.certs.next,c.certs.list.filter λx=>Qd n x.number⟩,aaJ c n,c.due.filter λd=>Qd n d.number⟩
structure CAd (c:Clock)(x:Crt):Prop where
 ok:dp c
 cok:x.ok
 new:∀g∈c.certs.list,g.cert≠x
 low:inF c.pts x.low=true
 high:inF c.pts x.high=true
def Zi (c:Clock)(x:Crt):Prop:=(c.certs.list.length=200\/c.certs.next=1000000)\/((fT c x).2=true/\ uO c.agenda.slots=false)
def CAd.add {c:Clock}{x:Crt}(h:CAd c x)(hf:¬Zi c x):CAdd c x:=by
 have h1:=h.ok.2.2.1.1;have h2:=h.ok.2.2.1.2.2.1;unfold Zi at hf;exact⟨h.ok,h.cok,h.new,by omega,by omega,h.low,h.high⟩
structure Sim (c a:Clock):Prop where
 ok:dp a
 pts:a.pts=c.pts
 now:a.now=c.now
structure EdgF (l:List Pt)(es:List Crt):Prop where
 ok:∀x∈es,x.ok
 low:∀x∈es,inF l x.low=true
 high:∀x∈es,inF l x.high=true
def Holds (c:Clock)(x:Crt):Prop:=leads c.now (bo c.pts x.high) (bo c.pts x.low)=true
structure Stl (l:List Pt)(c:Clock):Prop where
 ok:dp c
 n64:bi c.now
 pts:c.pts=l
 holds:∀x∈c.certs.list,Holds c x.cert
structure EdgH (l:List Pt)(E:Rt->List Crt):Prop where
 ok:∀t,rok t=true->bi t->EdgF l (E t)
 holds:∀t,rok t=true->bi t->∀x∈E t,leads t (bo l x.high) (bo l x.low)=true
end Go.Proofs.YtndgdhbpojakpaaGreat
