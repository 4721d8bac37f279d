/- Dashes: the intervals one by one, in the first text. -/
import Derived.Test.YtkngjacccoklaaaGreatDoorMA
import Derived.Test.YtkngjacccoklaaaGreatDoorMAX
import Derived.Test.YtkngjacccoklaaaGreatDoorMAS
import Derived.Test.YtkngjacccoklaaaGreatDoorMAP
import Derived.Test.YtkngjacccoklaaaGreatDoorMAT
import Derived.Defers
import Derived.Test.YtkngjacccoklaaaGreatDoorMAO
import Derived.Test.YtkngjacccoklaaaGreatDoorMAN
import Derived.Test.YtkngjacccoklaaaGreatDoorMAM
set_option maxRecDepth 100000
set_option maxHeartbeats 8000000
set_option linter.all false
namespace Go.Gs
open Go.Proofs
def runE(q:Nat×Nat):List SV:=[i64 (q.1:Int),i64 (q.2:Int)]
def zA6{pen:Pen}{long:Int}(h1:kC pen)(h2:¬long<1)(h3:¬u4 1 pen.d pen.d.length=0)(h4:¬u4 0 pen.d pen.d.length=0):kS pen long=kJ (onD pen) long.toNat:=by
 have hs:=zbD pen.d pen.d.length (Xk _);rw[yI]at hs;have hd:=zd0 pen.d;unfold kS;rw[Xc (λh=>by rcases h with h|h|h;exact h h1;exact h2 h;omega),Xc oM]
def zsD{pen:Pen}{long:Int}(h1:kC pen)(h2:¬long<1)(h3:u4 1 pen.d pen.d.length=0):kS pen long=[(0,long.toNat)]:=by
 have hs:=zbD pen.d pen.d.length (Xk _);rw[yI]at hs;have hd:=zd0 pen.d;unfold kS;rw[Xc (λh=>by rcases h with h|h|h;exact h h1;exact h2 h;omega),Xe oM]
def zvI{pen:Pen}{long:Int}(h1:kC pen)(h2:¬long<1)(h3:¬u4 1 pen.d pen.d.length=0)(h4:u4 0 pen.d pen.d.length=0)(h5:∀n∈pen.d,0<=n):kS pen long=[]:=by
 have hs:=zbD pen.d pen.d.length (Xk _);rw[yI]at hs;have hd:=zd0 pen.d;have hp:=yf (r:=1) h5 pen.d.length (Xk _);unfold kS;rw[Xe (.inr (.inr ⟨oM,oM⟩))]
variable{pen:Pen}{long:Int}
def zqV(h:¬kC pen∨long<1):kS pen long=[]:=by
 unfold kS;rw[Xe (by rcases h with h|h;exact .inl h;exact .inr (.inl h))]
structure Wk where
 a:Nat
 i:Nat
 l:Int
def okW(pen:Pen)(long:Int)(s:Wk):Prop:=
 (s.a:Int)<=long/\s.i<pen.d.length/\0<=s.l/\(∃e,pen.d[s.i]?=some e/\s.l<=256*e)/\((s.a:Int)<long->qB pen.d ∣ qu pen.d (s.i+1)-s.l-((s.a:Int)+256*pen.ph))
def jw(pen:Pen)(long:Int)(s:Wk):Wk:=⟨s.a+(min s.l (long-s.a)).toNat,(s.i+1)%pen.d.length,256*pen.d.getD ((s.i+1)%pen.d.length) 0⟩
def muW(pen:Pen)(long:Int)(j:Nat)(s:Wk):Nat:=(long.toNat-s.a)*(pen.d.length+2)+if s.l=0 then 1+(j+pen.d.length-1-s.i)%pen.d.length else 0
def zA7{s:Wk}(hd:uz pen.d)(h:okW pen long s)(hlt:(s.a:Int)<long):okW pen long (jw pen long s):=by
 obtain⟨h1,h2,h3,⟨e,h4,h5⟩,h6⟩:=h;obtain⟨d1,d2,d3,d4⟩:=yg hd;have hm:(s.i+1)%pen.d.length<pen.d.length:=Kk _ oM
 have hx:pen.d[(s.i+1)%pen.d.length]?=some (pen.d.getD ((s.i+1)%pen.d.length) 0):=by
  rw[Xt,Xb hm];rfl
 have hx1:=d1 _ (Xf hx);refine⟨by unfold jw;dsimp only;omega,hm,by unfold jw;dsimp only;omega,⟨_,hx,Qo _⟩,λhl=>?_⟩;unfold jw at hl ⊢;dsimp only at hl ⊢;exact zA5 h2 hx (h6 hlt) oM
def zA8{s:Wk}{j:Nat}(hd:uz pen.d)(h:okW pen long s)(hlt:(s.a:Int)<long)(hj:∃x,pen.d[j]?=some x/\0<x):muW pen long j (jw pen long s)<muW pen long j s:=by
 obtain⟨h1,h2,h3,⟨e,h4,h5⟩,h6⟩:=h;obtain⟨x,hx,hx0⟩:=hj;have hjl:j<pen.d.length:=(Xd.1 hx).1;unfold muW jw;dsimp only
 by_cases z:s.l=0
 ·rw[Xe z];have e0:(min s.l (long-s.a)).toNat=0:=oM;rw[e0,XQ];refine Nat.add_lt_add_left ?_ _
  split
  ·rename_i hz
   -- the next is none of the entries that are more than zero
   have hne:(s.i+1)%pen.d.length≠j:=λhe=>by
    rw[he,Xt,hx]at hz;have hz:256*x=0:=hz;omega
   have key:(j+pen.d.length-1-(s.i+1)%pen.d.length)%pen.d.length+1=(j+pen.d.length-1-s.i)%pen.d.length:=by
    by_cases c:s.i+1<pen.d.length
    ·rw[Xy c]at hne ⊢
     by_cases c2:s.i<j
     ·rw[show j+pen.d.length-1-(s.i+1)=(j-1-(s.i+1))+pen.d.length by omega,show j+pen.d.length-1-s.i=(j-1-s.i)+pen.d.length by omega,JV,JV,Xy oM,Xy oM];omega
     rw[Xy oM,Xy oM];omega
    have hl:s.i+1=pen.d.length:=by omega
    rw[hl,Ya]at hne ⊢;rw[show j+pen.d.length-1-0=(j-1)+pen.d.length by omega,JV,Xy (show j-1<pen.d.length by omega),Xy (show j+pen.d.length-1-s.i<pen.d.length by omega)];omega
   omega
  omega
 rw[Xc z];have hm:(j+pen.d.length-1-(s.i+1)%pen.d.length)%pen.d.length<pen.d.length:=Kk _ oM;have e1:long.toNat-s.a=(long.toNat-(s.a+(min s.l (long-s.a)).toNat))+(min s.l (long-s.a)).toNat:=oM;have e2:1<=(min s.l (long-s.a)).toNat:=oM;have e3:1*(pen.d.length+2)<=(min s.l (long-s.a)).toNat*(pen.d.length+2):=Xu _ e2;rw[e1,X0]
 split <;> omega
def zyQ{s:Wk}(hd:uz pen.d)(h:okW pen long s)(hlt:(s.a:Int)<long)(hm:¬min s.l (long-s.a)=0):
  (s.i%2=0->z7 (onD pen) (jw pen long s).a=((z7 (onD pen) s.a).1,some ((z7 (onD pen) s.a).2.getD s.a)))/\(¬s.i%2=0->z7 (onD pen) (jw pen long s).a=(kJ (onD pen) s.a,none)):=by
 obtain⟨h1,h2,h3,⟨e,h4,h5⟩,h6⟩:=h;obtain⟨d1,d2,d3,d4⟩:=yg hd
 have on:∀t,s.a<=t->t<(jw pen long s).a->(onD pen t↔s.i%2=0):=λt ht ht2=>by
  unfold jw at ht2;dsimp only at ht2;exact zCz d1 h4 h5 (h6 hlt) ht oM
 have hab:s.a<(jw pen long s).a:=by unfold jw;dsimp only;omega
 exact⟨λk=>zya hab λt a b=>(on t a b).2 k,λk=>ztS hab λt a b c=>k ((on t a b).1 c)⟩
def zA9(pen:Pen)(long:Int)(hlong:long<=70368744177664):zfc Tryz.prog 270 [.dptr (jb pen),.dptr [i64 long]] runE (kS pen long):=by
 refine zi2 (caps:=[.dptr (jb pen),.dptr [i64 long]]) (enc:=runE) (xs:=kS pen long) tok mix Tryz.func270 rfl rfl rfl rfl (λl=>?_);have bad:¬kC pen∨long<1->0=(kS pen long).length:=λh=>by rw[zqV h];rfl
 refine zb.t (zey pen)<|⟨λk=>.inr (bad (.inl k)),λk=>?_⟩;have hk:kC pen:=Xa.1 k;refine⟨λk2=>.inr (bad (.inr (by have k2:long<=0:=k2;omega))),λk2=>?_⟩;have k2:¬long<=0:=k2;have hd:=hk.2.2.2.2.1;obtain⟨d1,d2,d3,d4⟩:=yg hd;intro hl1
 refine⟨Nat,λi=>⟨[(0,.val (.func (.yield l) #[] #[])),(1,.dptr (jb pen)),(2,.dptr [i64 long]),(4,.loc 0 0),(20,.sl zV pen.d),(21,i64 (pen.d.length:Int)),(22,i64 (i:Int))],[(0,.box 187 [i64 (u4 0 pen.d i),i64 (u4 1 pen.d i)])],1,103,0⟩,λ_=>0,λi=>i<=pen.d.length,λi=>pen.d.length-i,0,?_,?_,rfl,rfl,?_⟩
 ·exact Xh _
 ·exact zf [0]
 rintro i hi
 have hs:=zbD pen.d i hi;have hpi:=zdZ d1 hi;have p0:=yf (r:=0) d1 i hi;have p1:=yf (r:=1) d1 i hi;refine⟨λg=>?_,λg=>?_⟩
 ·have g:(i:Int)<pen.d.length:=g;refine Ob.o ?_;intro x hx;have hx:pen.d[i]?=some x:=hx;have hx1:=d1 x (Xf hx);have hx2:=d2 x (Xf hx);refine Dv.pos ⟨oM,dC⟩ ?_
  rcases JO i with h|h
  ·rw[show(i:Int)%2=0 by omega];(iterate 2 refine Ar.o ?_);exact⟨i+1,oM,zu [0] ⟨(show some (Mem.box 187 [i64 (u4 0 pen.d i+x),i64 (u4 1 pen.d i)])=some (Mem.box 187 [i64 (u4 0 pen.d (i+1)),i64 (u4 1 pen.d (i+1))]) by rw[zeJ hx h,zhW (r:=1) oM]),trivial⟩,rfl,rfl,by dsimp only;omega⟩
  rw[show(i:Int)%2=1 by omega];(iterate 2 refine Ar.o ?_);exact⟨i+1,oM,zu [0] ⟨(show some (Mem.box 187 [i64 (u4 0 pen.d i),i64 (u4 1 pen.d i+x)])=some (Mem.box 187 [i64 (u4 0 pen.d (i+1)),i64 (u4 1 pen.d (i+1))]) by rw[zeJ hx h,zhW (r:=0) oM]),trivial⟩,rfl,rfl,by dsimp only;omega⟩
 have g:¬(i:Int)<pen.d.length:=g;have ei:i=pen.d.length:=oM;refine⟨λq1=>?_,λq1=>?_⟩
 ·have q1:u4 1 pen.d i=0:=q1;rw[ei]at q1;have e:=zsD (long:=long) hk oM q1;refine⟨rfl,(0,long.toNat),by rw[e];rfl,rfl,.C (.cons (ze (show long=((long.toNat:Nat):Int) by omega)) .nil),(λk m h=>?_),?_⟩
  ·cases h with
   |head=>rfl
   |tail _ h=>cases h
  exact⟨.inr (by rw[e];rfl),.inl rfl⟩
 have q1:¬u4 1 pen.d i=0:=q1;rw[ei]at q1;refine⟨λq0=>?_,λq0=>?_⟩
 ·have q0:u4 0 pen.d i=0:=q0;rw[ei]at q0;exact .inr (by rw[zvI (long:=long) hk oM q1 q0 d1];rfl)
 have q0:¬u4 0 pen.d i=0:=q0;rw[ei]at q0 hs p0 p1;rw[yI]at hs;have eR:=zA6 (long:=long) hk oM q1 q0;have hper:0<qB pen.d:=oM
 obtain⟨j,y,hj,hy⟩:∃(j:Nat) (y:Int),pen.d[j]?=some y/\0<y:=by
  have hn:=hd.2.1.resolve_left λh=>q1 (by rw[h];rfl)
  obtain⟨n,hn,h0⟩:=hn;obtain⟨j,hj,he⟩:=Kl hn;exact⟨j,n,by rw[Xb hj,he],h0⟩
 refine zb.t (zvH pen hk hper) ?_
 -- where it begins
 have k0:=Kb ((0:Nat)+256*pen.ph) (show qB pen.d≠0 by omega);have k1:=X3 ((0:Nat)+256*pen.ph) hper;rw[←zqU pen 0]at k0 k1;obtain⟨i0,e0,g1,g2,g3⟩:=zoj d1 k0 k1;have gp:=zeD (i0:=0) d1 g1 g2 g3;rw[Ka]at gp;have gs:=ym g1
 have ok0:okW pen long ⟨0,i0,qu pen.d i0+256*e0-phD pen (0:Nat)⟩:=by
  refine⟨by dsimp only;omega,(Xd.1 g1).1,by dsimp only;omega,⟨e0,g1,by dsimp only;omega⟩,λ_=>?_⟩;dsimp only;rw[show qu pen.d (i0+1)-(qu pen.d i0+256*e0-phD pen (0:Nat))-(((0:Nat):Int)+256*pen.ph)=phD pen (0:Nat)-(((0:Nat):Int)+256*pen.ph) by omega,zqU];have:=Yi (((0:Nat):Int)+256*pen.ph) (qB pen.d);exact⟨-((((0:Nat):Int)+256*pen.ph)/qB pen.d),by rw[QR];omega⟩
 have gp:yr pen.d (phD pen 0) 0=(i0,qu pen.d i0+256*e0-phD pen (0:Nat)):=gp;refine⟨Wk,λs=>⟨[(0,.val (.func (.yield l) #[] #[])),(1,.dptr (jb pen)),(2,.dptr [i64 long]),(7,i64 (frI (z7 (onD pen) s.a).2)),(8,i64 (s.i:Int)),(9,i64 s.l),(10,i64 (s.a:Int))],[],0,103,0⟩,λs=>(z7 (onD pen) s.a).1.length,okW pen long,muW pen long j,⟨0,i0,qu pen.d i0+256*e0-phD pen (0:Nat)⟩,ok0,?_,rfl,rfl,?_⟩
 ·exact jh [] ⟨rfl,rfl,rfl,rfl,Xg (λq=>some (i64 q)) (by rw[gp]),Xg (λq=>some (i64 q)) (by rw[gp]),rfl,trivial⟩ trivial
 rintro s hs0
 obtain⟨h1,h2,h3,⟨e,h4,h5⟩,h6⟩:=id hs0;have hpl:=zdZ d1 (show s.i<=pen.d.length by omega);have he2:=d2 e (Xf h4);refine⟨λc=>?_,λc=>?_⟩;rotate_left
 ·have c:¬(s.a:Int)<long:=c;have ea:s.a=long.toNat:=oM;have eF:kS pen long=(z7 (onD pen) s.a).1++((z7 (onD pen) s.a).2.map λf=>(f,s.a)).toList:=by rw[eR,←ea];rfl
  refine⟨λf=>?_,λf=>?_⟩
  ·have f:0<=frI (z7 (onD pen) s.a).2:=f;obtain⟨q,hq,hq2⟩:=zoD (show¬frI (z7 (onD pen) s.a).2<0 by omega);rw[hq]at eF;refine⟨rfl,(q,s.a),by rw[eF];exact Qn ..,rfl,.cons (ze hq2) (.cons (ze (show long=((s.a:Nat):Int) by omega)) .nil),(λ_ _ h=>by cases h),?_⟩;exact⟨.inr (by rw[eF,Xq];rfl),.inl rfl⟩
  have f:¬0<=frI (z7 (onD pen) s.a).2:=f;rw[zoC (show frI (z7 (onD pen) s.a).2<0 by omega)]at eF;exact .inr (by rw[eF];exact(Xg List.length (XE _)).symm)
 have c:(s.a:Int)<long:=c;have nok:=zA7 hd hs0 c;have nmu:=zA8 hd hs0 c ⟨y,hj,hy⟩;have nrun:=zyQ hd hs0 c;have na:((jw pen long s).a:Int)=s.a+min s.l (long-s.a):=by unfold jw;dsimp only;omega
 have ni:(((jw pen long s).i:Nat):Int)=((s.i:Int)+1)%pen.d.length:=by unfold jw;dsimp only;exact QU ..
 have m3:=Kb ((s.i:Int)+1) (show(pen.d.length:Int)≠0 by omega);have m4:=X3 ((s.i:Int)+1) (show 0<(pen.d.length:Int) by omega)
 have e2:(((s.i:Int)+1)%pen.d.length).toNat=(s.i+1)%pen.d.length:=by
  rw[show(s.i:Int)+1=((s.i+1:Nat):Int) by omega];omega
 have tailX:∀x,pen.d[(((s.i:Int)+1)%pen.d.length).toNat]?=some x->(0<=x/\x<=1048576)/\(jw pen long s).l=256*x:=λx hx=>by
  refine⟨⟨d1 x (Xf hx),d2 x (Xf hx)⟩,?_⟩;rw[e2]at hx;unfold jw;dsimp only;rw[Xt,hx];rfl
 have hmin:zbM s.l [long-(s.a:Int)]=min s.l (long-s.a):=rfl;refine Ar.o<|Br.mk (λz=>?_) (λz=>?_)
 ·have z:min s.l (long-s.a)=0:=z;have ea:(jw pen long s).a=s.a:=oM;(iterate 2 refine Ar.o ?_);intro hl2;refine Dv.pos ⟨oM,oM⟩<|Ob.mk ⟨m3,m4⟩ ?_;intro x hx;obtain⟨hx1,hx2⟩:=tailX x hx;exact Ar.o<|⟨jw pen long s,nok,jh [] ⟨rfl,rfl,rfl,Xg (λq=>some (i64 (frI (z7 (onD pen) q).2))) ea.symm,Xg (λq=>some (i64 q)) ni.symm,Xg (λq=>some (i64 q)) hx2.symm,Xg (λq=>some (i64 q)) na.symm,trivial⟩ trivial,Xg (λq=>(z7 (onD pen) q).1.length) ea.symm,rfl,nmu⟩
 have z:¬min s.l (long-s.a)=0:=z;obtain⟨rOn,rOff⟩:=nrun z;have rF:=zyb (on:=onD pen) (show(jw pen long s).a<=long.toNat by have:=nok.1;omega);rw[←eR]at rF;refine Dv.pos ⟨oM,dC⟩<|⟨λev=>?_,λev=>?_⟩
 ·have ev:s.i%2=0:=by have ev:(s.i:Int)%2=0:=ev;omega
  have rOn:=rOn ev;have cnt:(z7 (onD pen) s.a).1.length=(z7 (onD pen) (jw pen long s).a).1.length:=by rw[rOn]
  refine⟨λf=>?_,λf=>?_⟩
  ·have f:frI (z7 (onD pen) s.a).2<0:=f;have hfr:(s.a:Int)=frI (z7 (onD pen) (jw pen long s).a).2:=by rw[rOn,zoC f];rfl
   (iterate 2 refine Ar.o ?_);intro hl2;refine Dv.pos ⟨oM,oM⟩<|Ob.mk ⟨m3,m4⟩ ?_;intro x hx;obtain⟨hx1,hx2⟩:=tailX x hx;exact Ar.o<|⟨jw pen long s,nok,jh [] ⟨rfl,rfl,rfl,Xg (λq=>some (i64 q)) hfr,Xg (λq=>some (i64 q)) ni.symm,Xg (λq=>some (i64 q)) hx2.symm,Xg (λq=>some (i64 q)) na.symm,trivial⟩ trivial,cnt,rfl,nmu⟩
  have f:¬frI (z7 (onD pen) s.a).2<0:=f;obtain⟨q,hq,hq2⟩:=zoD f;have hfr:frI (z7 (onD pen) s.a).2=frI (z7 (onD pen) (jw pen long s).a).2:=by rw[rOn,hq];rfl
  refine Dv.pos ⟨oM,dC⟩<|⟨λod=>absurd (show(s.i:Int)%2=1 from od) oM,λ_=>?_⟩;(iterate 2 refine Ar.o ?_);intro hl2;refine Dv.pos ⟨oM,oM⟩<|Ob.mk ⟨m3,m4⟩ ?_;intro x hx;obtain⟨hx1,hx2⟩:=tailX x hx;exact Ar.o<|⟨jw pen long s,nok,jh [] ⟨rfl,rfl,rfl,Xg (λq=>some (i64 q)) hfr,Xg (λq=>some (i64 q)) ni.symm,Xg (λq=>some (i64 q)) hx2.symm,Xg (λq=>some (i64 q)) na.symm,trivial⟩ trivial,cnt,rfl,nmu⟩
 have ev:¬s.i%2=0:=by have ev:¬(s.i:Int)%2=0:=ev;omega
 have rOff:=rOff ev;refine Dv.pos ⟨oM,dC⟩<|⟨λ_=>?_,λod=>absurd (show(s.i:Int)%2=1 by omega) od⟩;refine⟨λf=>?_,λf=>?_⟩
 ·have f:0<=frI (z7 (onD pen) s.a).2:=f;obtain⟨q,hq,hq2⟩:=zoD (show¬frI (z7 (onD pen) s.a).2<0 by omega);have eA:(z7 (onD pen) (jw pen long s).a).1=(z7 (onD pen) s.a).1++[(q,s.a)]:=by rw[rOff];unfold kJ;rw[hq];rfl
  obtain⟨r,hr⟩:=rF;rw[eA]at hr;refine⟨rfl,(q,s.a),?_,rfl,.cons (ze hq2) (.C .nil),(λ_ _ h=>by cases h),?_⟩
  ·show(kS pen long)[(z7 (onD pen) s.a).1.length]?=some (q,s.a);rw[hr,XY,XF (Xk _),QY];rfl
  refine Br.mk ?_ (.inl rfl);have hfr:(-1:Int)=frI (z7 (onD pen) (jw pen long s).a).2:=by rw[rOff];rfl
  have cnt:(z7 (onD pen) s.a).1.length+1=(z7 (onD pen) (jw pen long s).a).1.length:=by rw[eA,Xq];rfl
  (iterate 2 refine Ar.o ?_);intro hl2;refine Dv.pos ⟨oM,oM⟩<|Ob.mk ⟨m3,m4⟩ ?_;intro x hx;obtain⟨hx1,hx2⟩:=tailX x hx;exact Ar.o<|⟨jw pen long s,nok,jh [] ⟨rfl,rfl,rfl,Xg (λq=>some (i64 q)) hfr,Xg (λq=>some (i64 q)) ni.symm,Xg (λq=>some (i64 q)) hx2.symm,Xg (λq=>some (i64 q)) na.symm,trivial⟩ trivial,cnt,rfl,nmu⟩
 have f:¬0<=frI (z7 (onD pen) s.a).2:=f;have hq:=zoC (show frI (z7 (onD pen) s.a).2<0 by omega);have hfr:frI (z7 (onD pen) s.a).2=frI (z7 (onD pen) (jw pen long s).a).2:=by rw[rOff,hq]
 have cnt:(z7 (onD pen) s.a).1.length=(z7 (onD pen) (jw pen long s).a).1.length:=by rw[rOff];unfold kJ;rw[hq];exact(Xg List.length (XE _)).symm
 (iterate 2 refine Ar.o ?_);intro hl2;refine Dv.pos ⟨oM,oM⟩<|Ob.mk ⟨m3,m4⟩ ?_;intro x hx;obtain⟨hx1,hx2⟩:=tailX x hx;exact Ar.o<|⟨jw pen long s,nok,jh [] ⟨rfl,rfl,rfl,Xg (λq=>some (i64 q)) hfr,Xg (λq=>some (i64 q)) ni.symm,Xg (λq=>some (i64 q)) hx2.symm,Xg (λq=>some (i64 q)) na.symm,trivial⟩ trivial,cnt,rfl,nmu⟩
def p_on(pen:Pen)(long:Int):CG0 193 [.agg (jb pen),i64 long] [] (.dfn 270 [.dptr (jb pen),.dptr [i64 long]]) []:=by
 exact u0 2 tok mix Tryz.func193 rfl rfl rfl<|.refl
variable{c:List Pt}{x:Int}{i:Nat}
def zkU(h:¬x<atS c i):zkB c x i=i:=by
 cases i with
 |zero=>rfl
 |succ i=>unfold zkB;rw[Xc h]
def zyR(h:x<atS c (i+1)):zkB c x (i+1)=zkB c x i:=by
 show(if x<atS c (i+1) then zkB c x i else i+1)=_;rw[Xe h]
def zyS{q:Pl}(h2:2<=(zX q).length)(hi:i<=(zX q).length-2):nth q.pts ((i+1)%q.pts.length)=nth (zX q) (i+1):=by
 by_cases h:q.cl=true/\2<=q.pts.length
 ·have hl:=zcS h.1 h.2
  by_cases e:i+1=q.pts.length
  ·rw[e,Ya,zqT h.1 h.2]
  rw[Xy oM,zbn oM]
 have hl:=zbC h;rw[Xy oM,zbn oM]
def meQ(q:Pl):Me:=⟨q.pts,tsL (zX q) ((zX q).length-1),atS (zX q) ((zX q).length-1)⟩
def zBa{p:Pl}(h:∀q∈p.pts,zr q):zt4 p=meQ (zt p):=Xe h
def zt5(q:Pl)(x:Int)(hq:q.pts.length<=4096)(h2:2<=(zX q).length)(hx:0<=x/\x<=70368744177664):CG0 272 [.agg (meE (meQ q)),i64 x] [] (.agg (ptE (zdd (zX q) x))) []:=by
 refine zc Tryz.func272 ?_;have ll:=jD q;have tl:(meQ q).ts.length=(zX q).length-1:=zi8 ..;intro hl1;refine Ar.o<|⟨Nat,λi=>⟨[(1,i64 x),(2,.loc 0 0),(4,.loc 1 0),(5,i64 (i:Int))],[(0,.box 229 (meE (meQ q))),(1,.box 28 [i64 0,i64 0])],2,68,0⟩,λi=>i<=(zX q).length-2/\zkB (zX q) x ((zX q).length-2)=zkB (zX q) x i,λi=>i,(zX q).length-2,?_,?_,?_⟩
 ·exact⟨Xk _,rfl⟩
 ·exact zT [0,1] ⟨rfl,rfl,rfl,Xg (λq=>some (i64 q)) (by rw[tl];omega),trivial⟩ ⟨rfl,rfl,trivial⟩
 rintro i ⟨hi,hidx⟩
 have ar:=vT (zX q) i;have ar2:=vT (zX q) (i+1);have ar3:=vT (zX q) ((zX q).length-1);refine⟨λg=>Ob.mk (by have g:(0:Int)<(i:Int):=g;omega) λy hy=>Br.mk (λc=>?_) (λc=>?_),λg=>?_⟩
 ·have g:(0:Int)<(i:Int):=g;have hy:=zhV (show(tsL (zX q) ((zX q).length-1))[i]?=some y from hy);have c:x<y:=c;obtain⟨k,rfl⟩:∃k,i=k+1:=⟨i-1,oM⟩;exact Ar.o<|⟨k,⟨oM,by rw[hidx,zyR (by rw[←hy];exact c)]⟩,zT [0,1] ⟨rfl,rfl,rfl,Xg (λq=>some (i64 q)) oM,trivial⟩ ⟨rfl,rfl,trivial⟩,XX k⟩
 all_goals
  have hix:zkB (zX q) x ((zX q).length-2)=i:=by
   first
   |exact hidx.trans (zkU (by rw[←zhV (show(tsL (zX q) ((zX q).length-1))[i]?=some y from hy)];exact c))
   |exact hidx.trans (by rw[show i=0 by have g:¬(0:Int)<(i:Int):=g;omega];rfl)
  clear g;refine Ar.o ?_;intro hl2;refine⟨λd=>Ar.fit oM (Ob.mk ⟨oM,d⟩ λz hz=>?_),λd=>?_⟩
  all_goals
   have hn:1<=q.pts.length:=oM;have m3:=Kb ((i:Int)+1) (show(q.pts.length:Int)≠0 by omega);have m4:=X3 ((i:Int)+1) (show 0<(q.pts.length:Int) by omega)
   have e2:(((i:Int)+1)%q.pts.length).toNat=(i+1)%q.pts.length:=by
    rw[show(i:Int)+1=((i+1:Nat):Int) by omega];omega
   refine Dr.k<|Ob.mk (show 0<=(i:Int)/\(i:Int)<q.pts.length by omega) ?_;intro a ha;have ha:=qn (show q.pts[i]?=some a from ha);rw[←zbn (q:=q) (i:=i) oM]at ha;refine Ar.o ?_;intro hl3;refine Dv.pos ⟨oM,(show 0<(q.pts.length:Int) by omega)⟩<|Ob.mk ⟨m3,m4⟩ ?_;intro b hb;have hb:=qn (show q.pts[(((i:Int)+1)%q.pts.length).toNat]?=some b from hb);rw[e2,zyS h2 hi]at hb;refine Ob.mk (show 0<=(i:Int)/\(i:Int)<((meQ q).ts.length:Int) by omega) ?_;intro u hu
   have hu:=zhV (show(tsL (zX q) ((zX q).length-1))[i]?=some u from hu);refine Ar.o<|Ob.mk (show 0<=(i:Int)/\(i:Int)<((meQ q).ts.length:Int) by omega) ?_;intro u' hu';have hu':=zhV (show(tsL (zX q) ((zX q).length-1))[i]?=some u' from hu')
   have key:∀T,T=atS (zX q) (i+1)->uJ a b (x-u) (T-u')=zdd (zX q) x:=λT h=>by
    unfold zdd;dsimp only;rw[hix,h,hu,hu',ha,hb]
   first
   |have hT:=zhV (show(tsL (zX q) ((zX q).length-1))[i+1]?=some z from hz)
    exact Ar.o<|zb.t (zxR a b (x-u) (z-u'))<|ub (Xg (λp=>SV.agg (ptE p)) (key _ hT))
   |have d:¬(i:Int)+1<((meQ q).ts.length:Int):=d
    have hT:atS (zX q) ((zX q).length-1)=atS (zX q) (i+1):=by rw[show(zX q).length-1=i+1 by omega]
    exact Ar.fit (show-9223372036854775808<=atS (zX q) ((zX q).length-1)-u'/\atS (zX q) ((zX q).length-1)-u'<=9223372036854775807 by omega)<|zb.t (zxR a b (x-u) (atS (zX q) ((zX q).length-1)-u'))<|ub (Xg (λp=>SV.agg (ptE p)) (key _ hT))
def zyT(q:List Pt)(x:Pt)(hq:0<q.length/\q.length<=100000):CG0 273 [.agg (ptE x),.loc 0 0] [(0,.box 127 [.own 1]),(1,.arr 28 ptE 2 q)] (.tup []) [(0,.box 127 [.own 2]),(2,.arr 28 ptE 2 (yW q x))]:=by
 refine yy tok mix Tryz.func273 rfl rfl rfl<|Dr.d ?_;intro hl;refine Ar.o<|Ob.o<|Ob.o ?_;intro z hz
 have hz:q[q.length-1]?=some z:=by
  have hz:q[((q.length:Int)-1).toNat]?=some z:=hz
  rwa [show((q.length:Int)-1).toNat=q.length-1 by omega]at hz
 refine Ob.mk (by kernel_rfl)<|⟨λk=>?_,λk=>?_⟩
 ·have k:¬z=x:=λh=>k (qi.2 h)
  refine⟨Pt,ptE,[x],rfl,Ob.o0 ?_⟩;refine⟨[x],rfl,Ob.o3 ?_⟩;refine⟨⟨[],[(0,.box 127 [.own 2]),(2,.arr 28 ptE 2 (yW q x))],3,15,2⟩,zu [0,1,4] ⟨rfl,Xg (λq=>some (Mem.arr 28 ptE 2 q)) (zi5 hz k).symm,trivial⟩,rfl,.refl⟩
 have k:z=x:=qi.1 (Xa.1 k);refine⟨⟨[],[(0,.box 127 [.own 2]),(2,.arr 28 ptE 2 (yW q x))],3,15,2⟩,zu [0,1,1] ⟨rfl,Xg (λq=>some (Mem.arr 28 ptE 2 q)) (zop hz k).symm,trivial⟩,rfl,.refl⟩
def zmT(q more:List Pt)(x:Pt):kw q (more++[x])=yW (kw q more) x:=by unfold kw;rw[KW];rfl
def zeK(c:List Pt)(f t:Int)(n:Nat):zfa c f t (n+1)=zfa c f t n++if f<atS c n/\atS c n<t then[nth c n] else[]:=by
 unfold zfa;rw[Kx,KO,XB];congr 1
 by_cases h:f<atS c n/\atS c n<t
 ·rw[Xe h,List.filter_cons_of_pos (by simpa using h)];rfl
 rw[Xc h,List.filter_cons_of_neg (by simpa using h)];rfl
def zbS(c:List Pt)(f t:Int)(n:Nat):List Pt:=kw [] ([zdd c f]++zfa c f t n)
variable{f:Int}
def zqW{t:Int}{n:Nat}(h:f<atS c n/\atS c n<t):zbS c f t (n+1)=yW (zbS c f t n) (nth c n):=by
 unfold zbS;rw[zeK,Xe h,←XY,zmT]
def zt6{t:Int}{n:Nat}(h:¬(f<atS c n/\atS c n<t)):zbS c f t (n+1)=zbS c f t n:=by
 unfold zbS;rw[zeK,Xc h,XE]
def zqX(c:List Pt)(f t:Int):vi c f t=yW (zbS c f t (c.length-1)) (zdd c t):=by
 unfold vi zbS;rw[zmT]
def zqY(c:List Pt)(f t:Int)(n:Nat):0<(zbS c f t n).length/\(zbS c f t n).length<=n+1:=by
 induction n with
 |zero=>exact⟨XX 0,Xk 1⟩
 |succ n ih=>
  by_cases h:f<atS c n/\atS c n<t
  ·rw[zqW h];have h1:=zgH (zbS c f t n) (nth c n);refine⟨?_,oM⟩;unfold yW
   split
   ·exact ih.1
   simp
  rw[zt6 h];omega
def zoE(c:List Pt)(f t:Int):0<(vi c f t).length/\(vi c f t).length<=c.length+2:=by
 rw[zqX];have h:=zqY c f t (c.length-1);have h1:=zgH (zbS c f t (c.length-1)) (zdd c t);refine⟨?_,oM⟩;unfold yW
 split
 ·exact h.1
 simp
def zCA(q:Pl)(f t:Int)(hq:q.pts.length<=4096)(h2:2<=(zX q).length)(hf:0<=f/\f<=70368744177664)(ht:0<=t/\t<=70368744177664):CG0 194 [.agg (meE (meQ q)),i64 f,i64 t] [] (.sl ptE (vi (zX q) f t)) []:=by
 refine zc Tryz.func194 ?_;have ll:=jD q;have tl:(meQ q).ts.length=(zX q).length-1:=zi8 ..;refine zb.t (zt5 q f hq h2 hf)<|⟨Pt,ptE,[zdd (zX q) f],rfl,Ob.o0 ?_⟩;intro hl1;refine⟨Nat,λi=>⟨[(1,i64 f),(2,i64 t),(3,.loc 0 0),(7,.loc 1 0),(8,.fn 273 [.loc 1 0]),(17,.sl zV (meQ q).ts),(18,i64 ((meQ q).ts.length:Int)),(19,i64 (i:Int))],[(0,.box 229 (meE (meQ q))),(1,.box 127 [.own 2]),(2,.arr 28 ptE 2 (zbS (zX q) f t i))],3,46,0⟩,λi=>i<=(zX q).length-1,λi=>(zX q).length-i,0,?_,?_,?_⟩
 ·exact Xh _
 ·exact zf [0,2,1]
 rintro i hi
 have cl:=zqY (zX q) f t i;refine⟨λg=>?_,λg=>?_⟩
 ·have g:(i:Int)<((meQ q).ts.length:Int):=g;have stay:¬(f<atS (zX q) i/\atS (zX q) i<t)->zbS (zX q) f t i=zbS (zX q) f t (i+1):=λh=>(zt6 h).symm
  refine Ob.o ?_;intro y hy;have hy:=zhV (show(tsL (zX q) ((zX q).length-1))[i]?=some y from hy);refine⟨λk1=>Br.mk (λk2=>?_) (λk2=>?_),λk1=>?_⟩;rotate_left
  ·have k2:¬y<t:=k2;exact Ar.o<|⟨i+1,oM,zu [0,1,2] ⟨rfl,rfl,Xg (λq=>some (Mem.arr 28 ptE 2 q)) (stay λh=>k2 (by rw[hy];exact h.2)),trivial⟩,by dsimp only;omega⟩
  ·have k1:¬f<y:=k1;exact Ar.o<|⟨i+1,oM,zu [0,1,2] ⟨rfl,rfl,Xg (λq=>some (Mem.arr 28 ptE 2 q)) (stay λh=>k1 (by rw[hy];exact h.1)),trivial⟩,by dsimp only;omega⟩
  have k1:f<y:=k1;have k2:y<t:=k2;rw[hy]at k1 k2;refine Ob.mk (show 0<=(i:Int)/\(i:Int)<(q.pts.length:Int) by omega) ?_;intro x hx;have hx:=qn (show q.pts[i]?=some x from hx);rw[←zbn (q:=q) (i:=i) oM]at hx
  refine zb.give [1,2] 1 [.agg (ptE x),.loc 0 0] [(0,.box 127 [.own 1]),(1,.arr 28 ptE 2 (zbS (zX q) f t i))] [(0,.box 127 [.own 2]),(2,.arr 28 ptE 2 (yW (zbS (zX q) f t i) x))] (.tup []) (zyT (zbS (zX q) f t i) x ⟨cl.1,oM⟩)
   LEs.refl rfl rfl rfl ⟨⟨_,rfl,rfl,rfl⟩,⟨_,rfl,rfl,trivial⟩,trivial⟩ rfl ⟨⟨rfl,rfl⟩,⟨rfl,trivial⟩,trivial⟩ ?_
  exact Ar.o<|⟨i+1,oM,zu [0,1,3] ⟨rfl,rfl,Xg (λq=>some (Mem.arr 28 ptE 2 q)) (by rw[zqW ⟨k1,k2⟩,hx]),trivial⟩,by dsimp only;omega⟩
 have g:¬(i:Int)<((meQ q).ts.length:Int):=g;have ei:i=(zX q).length-1:=oM;refine zb.t (zt5 q t hq h2 ht) ?_
 refine zb.give [1,2] 1 [.agg (ptE (zdd (zX q) t)),.loc 0 0] [(0,.box 127 [.own 1]),(1,.arr 28 ptE 2 (zbS (zX q) f t i))] [(0,.box 127 [.own 2]),(2,.arr 28 ptE 2 (yW (zbS (zX q) f t i) (zdd (zX q) t)))] (.tup []) (zyT (zbS (zX q) f t i) (zdd (zX q) t) ⟨cl.1,oM⟩)
  LEs.refl rfl rfl rfl ⟨⟨_,rfl,rfl,rfl⟩,⟨_,rfl,rfl,trivial⟩,trivial⟩ rfl ⟨⟨rfl,rfl⟩,⟨rfl,trivial⟩,trivial⟩ ?_
 refine z0 ?_;rw[zqX,ei]
def zcj(t:AF)(p:Pt)(ht:t.le 100000):CG0 142 [.agg (afE t),.agg (ptE p)] [] (.tup [.agg (ptE (kr t p).1),i64 (kr t p).2]) []:=by
 obtain⟨ha,hb,hc,hd,he,hf⟩:=ht;refine zc Tryz.func142 ?_;have fin:∀(q:Pt) (n:Int),(kr t p)=(q,n)->LE (.tup [.agg (ptE q),i64 n]) (.tup [.agg (ptE (kr t p).1),i64 (kr t p).2]):=λq n h=>by rw[h];exact .refl
 refine zb.t (zb8 t ⟨oM,oM,oM,oM,oM,oM⟩)<|⟨λh1=>?_,λh1=>?_⟩
 ·exact fin zp 5 (by rw[kr,Xe h1])
 refine zb.t (z9 p)<|⟨λh2=>?_,λh2=>?_⟩
 ·exact fin zp 6 (by rw[kr,Xc h1,Xe h2])
 have hp:zr p:=XN h2;have hx:R64 p.x:=by unfold R64;unfold zr at hp;omega
 have hy:R64 p.y:=by unfold R64;unfold zr at hp;omega
 have lx:=zdG p.x;have ly:=zdG p.y;have zx:=jj hx;have zy:=jj hy;refine Dr.k<|zb.t (yB p.x hx)<|zb.t (yB p.y hy)<|zb.t (zu7 t (ofQ (p.x:Rat)) (ofQ (p.y:Rat)) ⟨oM,oM,oM,oM,oM,oM⟩ (by rw[zF];omega) (by rw[zF];omega)) ?_;rw[kv,kv];have lX:=qQ t.a (ofQ (p.x:Rat)) t.c (ofQ (p.y:Rat)) t.e (n:=100000) ha (by rw[zF];omega) hc (by rw[zF];omega) he;have lY:=qQ t.b (ofQ (p.x:Rat)) t.d (ofQ (p.y:Rat)) t.f (n:=100000) hb (by rw[zF];omega) hd (by rw[zF];omega) hf;rw[kv,kv]at lX lY
 have lh:yS (Rat.divInt 1 2)<=1:=by decide +kernel
 have mX:=zbf (vD t p.x p.y) (Rat.divInt 1 2);have mY:=zbf (vE t p.x p.y) (Rat.divInt 1 2);have lX2:yS (vD t p.x p.y)<=500007:=lX.2;have lY2:yS (vE t p.x p.y)<=500007:=lY.2
 have fl:∀q:Rat,jk q.floor<=yS q:=λq=>XC (zb3 (by
  rw[J0]
  exact Q0 _ _)) (qt q)
 have fX:=fl (vD t p.x p.y+Rat.divInt 1 2);have fY:=fl (vE t p.x p.y+Rat.divInt 1 2);refine zb.t (zp0 1 2 dC dC dC)<|zb.t (zdH (ofQ (vD t p.x p.y)) (ofQ (Rat.divInt 1 2)) (by rw[zF];omega) (by rw[zF];omega)) ?_;rw[kv,kv];refine zb.t (zp1 (ofQ (vD t p.x p.y+Rat.divInt 1 2)) (by rw[zF];omega)) ?_;rw[kv];refine zb.t (zj3 (ofZ (vD t p.x p.y+Rat.divInt 1 2).floor) (by rw[zR];omega))<|zb.t (zdH (ofQ (vE t p.x p.y)) (ofQ (Rat.divInt 1 2)) (by rw[zF];omega) (by rw[zF];omega)) ?_;rw[kv,kv]
 refine zb.t (zp1 (ofQ (vE t p.x p.y+Rat.divInt 1 2)) (by rw[zF];omega)) ?_;rw[kv];refine zb.t (zj3 (ofZ (vE t p.x p.y+Rat.divInt 1 2).floor) (by rw[zR];omega)) ?_;rw[zY,zY];obtain⟨X,hX⟩:∃X,(vD t p.x p.y+Rat.divInt 1 2).floor=X:=⟨_,rfl⟩;obtain⟨Y,hY⟩:∃Y,(vE t p.x p.y+Rat.divInt 1 2).floor=Y:=⟨_,rfl⟩;have hg:goP t p=⟨X,Y⟩:=by unfold goP;rw[hX,hY]
 rw[hX,hY];have out:¬zr ⟨X,Y⟩->kr t p=(zp,6):=λh=>by rw[kr,Xc h1,Xc h2,Xc (by rw[hg];exact h)]
 have inn:zr ⟨X,Y⟩->kr t p=(⟨X,Y⟩,0):=λh=>by rw[kr,Xc h1,Xc h2,Xe (by rw[hg];exact h),hg]
 have big:zr ⟨X,Y⟩->(-9223372036854775808<=X/\X<=9223372036854775807)/\(-9223372036854775808<=Y/\Y<=9223372036854775807):=λh=>by unfold zr at h;dsimp only at h;omega
 refine⟨λh3=>?_,λh3=>?_⟩
 ·exact fin zp 6 (out λh=>h3 (big h).1)
 have h3:=XN h3;refine⟨λh4=>?_,λh4=>?_⟩
 ·exact fin zp 6 (out λh=>h4 (big h).2)
 have h4:=XN h4;refine zb.t (z9 ⟨yZ X,yZ Y⟩) ?_;rw[yZ,Xe h3,yZ,Xe h4];refine⟨λh5=>?_,λh5=>?_⟩
 ·exact fin zp 6 (out h5)
 exact fin ⟨X,Y⟩ 0 (inn (XN h5))
def zmY(t:AF){s:Sg}(hf:zdc s):vQ t s=zfb (λp=>(kr t p).1) s:=by
 unfold vQ;obtain⟨f1,f2,f3⟩:=hf;have hr:=zdM s.v;have k:nm s.v<=0∨nm s.v=1∨nm s.v=2∨nm s.v=3:=oM;unfold kB zfb zkm part
 rcases k with k|k|k|k
 ·rw[show(nm s.v).toNat=0 by omega,f1.2 oM,f2.2 oM,f3.2 oM];rfl
 ·rw[show(nm s.v).toNat=1 by omega,f2.2 oM,f3.2 oM];rfl
 ·rw[show(nm s.v).toNat=2 by omega,f3.2 oM];rfl
 rw[show(nm s.v).toNat=3 by omega];rfl
variable{l:List Sg}
def zhZ{t:AF}(h1:qN l){x:Sg}{p:Pt}{k:Nat}(h0:qT t (qe (l.take i))=0)(hx:l[i]?=some x)(hk:qT t ((kB x).take k)=0)(hp:(kB x)[k]?=some p)(he:(kr t p).2≠0):trans t l=([],(kr t p).2):=by
 have e2:=(vr hk hp).2 he
 have e3:qT t (qe l)=(kr t p).2:=by
  have hd:=zgs hx
  have:qe l=qe (l.take i)++(kB x++qe (l.drop (i+1))):=by
   conv=>lhs;rw[←Kj i l,hd]
   simp[qe]
  rw[this,jB,h0];simp only[ne_eq,not_true_eq_false,if_false];rw[jB,e2,Xe he]
 rw[trans,Xc (λk=>k h1),e3,Xe he]
def zvV{t:AF}{x:Sg}(h0:qT t (qe (l.take i))=0)(hx:l[i]?=some x)(hk:qT t (kB x)=0):qT t (qe (l.take (i+1)))=0:=by
 rw[zin hx,jB,h0];simpa using hk
def zy4(l:List Sg)(t:AF)(ht:t.le 100000):CG0 96 [.sl sgE l,.agg (afE t)] [] (.tup [.sl sgE (trans t l).1,i64 (trans t l).2]) []:=by
 refine zc Tryz.func96 ?_
 have bad:∀e:Int,trans t l=([],e)->LE (.tup [.val (.slice none 0 0),i64 e]) (.tup [.sl sgE (trans t l).1,i64 (trans t l).2]):=λe h=>by
  rw[h];exact zM zD .refl
 refine zb.t (zgt l)<|⟨λh1=>?_,λh1=>?_⟩
 ·exact bad 10 (by rw[trans,Xe h1])
 have h:=Xa.1 h1;have hvl:=zhA h;refine⟨Sg,sgE,[],rfl,Ob.o2 ?_⟩
 refine⟨Nat,λi=>⟨[(7,i64 i),(6,.own 1),(3,.loc 0 0),(0,.sl sgE l)],[(1,.arr 111 sgE 7 ((l.take i).map (vQ t))),(0,.box 38 (afE t))],2,67,0⟩,λi=>i<=l.length/\qT t (qe (l.take i))=0,λi=>l.length-i,0,⟨Xh _,rfl⟩,
  zf [0,1],?_⟩
 rintro i ⟨hil0,hi0⟩
 intro _;refine⟨λg1=>?_,λg1=>?_⟩
 ·have g1:(i:Int)<l.length:=g1;have hx:=Xb (show i<l.length by omega);generalize l[i]'oM=x at hx;have hf:=zye h (Xf hx);have hnr:=zdM x.v;refine Ob.mk ⟨oM,g1⟩ ?_;intro y hy;have hy:l[i]?=some y:=hy;rw[hx]at hy;cases hy
  refine zb.t (ztG x) ?_;have hml:((l.take i).map (vQ t)).length<=256:=by simp;omega
  refine⟨Nat,λk=>⟨[(9,i64 k),(8,.loc 2 0),(7,i64 i),(6,.own 1),(3,.loc 0 0),(0,.sl sgE l)],[(2,.box 174 (ptE (part (λp=>(kr t p).1) k x).a++ptE (part (λp=>(kr t p).1) k x).b++ptE (part (λp=>(kr t p).1) k x).c)),(1,.arr 111 sgE 7 ((l.take i).map (vQ t))),(0,.box 38 (afE t))],3,67,0⟩,
   λk=>k<=(nm x.v).toNat/\qT t ((kB x).take k)=0,λk=>3-k,0,⟨Xh _,rfl⟩,zf [0,1,2],?_⟩
  rintro k ⟨hk0,hke⟩
  refine Ob.mk ⟨oM,g1⟩ ?_;intro y hy;have hy:l[i]?=some y:=hy;rw[hx]at hy;cases hy
  refine zb.t (zp5 x.v)<|⟨λg2=>?_,λg2=>?_⟩
  ·have g2:(k:Int)<nm x.v:=g2;have hat:=zDy (s:=x) g2;have e:k=0∨k=1∨k=2:=oM
   rcases e with rfl|rfl|rfl
   ·refine Dr.k<|zb.t (zcj t x.a ht)<|⟨λh5=>bad _ (zhZ h hi0 hx hke hat h5),λh5=>?_⟩;have h5:(kr t x.a).2=0:=XN h5;exact Ar.fit dC<|⟨1,⟨by show 1<=_;omega,(vr hke hat).1 h5⟩,zf [0,1,2],dC⟩
   ·refine Dr.k<|zb.t (zcj t x.b ht)<|⟨λh5=>bad _ (zhZ h hi0 hx hke hat h5),λh5=>?_⟩;have h5:(kr t x.b).2=0:=XN h5;exact Ar.fit dC<|⟨2,⟨by show 2<=_;omega,(vr hke hat).1 h5⟩,zf [0,1,2],dC⟩
   refine Dr.k<|zb.t (zcj t x.c ht)<|⟨λh5=>bad _ (zhZ h hi0 hx hke hat h5),λh5=>?_⟩;have h5:(kr t x.c).2=0:=XN h5;exact Ar.fit dC<|⟨3,⟨by show 3<=_;omega,(vr hke hat).1 h5⟩,zf [0,1,2],dC⟩
  have g2:¬(k:Int)<nm x.v:=g2;have hku:k=(nm x.v).toNat:=oM
  have hall:(kB x).take k=kB x:=by
   rw[Xi];unfold kB;simp;omega
  rw[hall]at hke;refine Dr.k<|Ob.mk ⟨oM,g1⟩ ?_;intro y hy;have hy:l[i]?=some y:=hy;rw[hx]at hy;cases hy
  refine⟨Sg,sgE,[part (λp=>(kr t p).1) k x],rfl,Ob.o0 ?_⟩;refine⟨[part (λp=>(kr t p).1) k x],rfl,Ob.mk ⟨(by show _*(56:Int)<=_;simp only[Xn,Xr];omega),(by simp only[Xn,Xr];omega),dC,λ_ _=>rfl⟩ ?_⟩;exact Ar.o<|⟨i+1,⟨by show i+1<=_;omega,zvV hi0 hx hke⟩,zu [0,4] ⟨Xg (λq=>some (Mem.arr 111 sgE 7 q)) (by rw[Xl,hx,hku];simp[zmY t hf,zfb]),rfl,trivial⟩,by dsimp only;omega⟩
 have hil:i=l.length:=by omega
 rw[hil,X5]at hi0;have htr:trans t l=(l.map (vQ t),0):=by rw[trans,Xc h1,hi0,Xc (λk=>k rfl)]
 rw[show(trans t l).1=(l.take i).map (vQ t) by rw[htr,hil,X5],show(trans t l).2=0 by rw[htr]];exact zM .refl .refl
instance (t:AF) (n:Nat):Decidable (t.le n):=inferInstanceAs (Decidable (_/\_))
def yY(p:Nat×SV):Nat×SV:=
 match p.2 with
 |.loc k o=>(p.1,.loc k o)
 |_=>(p.1,.junk)
def zgU:∀(L:List (Nat×SV)) (t:Nat) (s:SV),kK (L.map yY) t=some s->s=.junk∨∃k o,s=.loc k o/\kK L t=some (.loc k o)
 |[],t,s,h=>by simp[kK]at h
 |(d,s0)::L,t,s,h=>by
  have e:(((d,s0)::L).map yY)=(d,(yY (d,s0)).2)::L.map yY:=by
   simp only[QO];congr 1;unfold yY;dsimp only;split <;> rfl
  rw[e,kq]at h
  split at h
  ·rename_i hd
   cases h
   unfold yY;dsimp only
   split
   ·rename_i k o;exact .inr ⟨k,o,rfl,by rw[kq,Xe hd]⟩
   exact .inl rfl
  rename_i hd
  rcases zgU L t s h with h|⟨k,o,h1,h2⟩
  ·exact .inl h
  exact .inr ⟨k,o,h1,by rw[kq,Xc hd,h2]⟩
def zy5:SV->Bool
 |.loc _ _=>true
 |_=>false
def zCC(K:St->Prop):Ex->St->Prop
 |.exit _,_=>False
 |.normal,σ=>K σ
 |.ret,σ=>K σ
def zud(n:Nat)(P:Program)(Γ:List (TypeId×TI))(fn cfn:Func)(cc:Code)(caps:List SV)(r:SV)(σ3:St):Prop:=
 Nat.beq σ3.M.length σ3.nk=true/\jH P Γ cc ⟨jI 0 caps,σ3.M,σ3.M.length,cfn.ntmps,σ3.M.length⟩ (zCC λσ4=>zbV σ4 Γ cfn.results.toList λ_=>
  zbV ⟨σ3.L.map yY,σ4.M,σ4.nk,σ3.nt,0⟩ Γ fn.results.toList λs=>LE (ziJ (zS σ4.M) n s) r)
def zBj(n:Nat)(P:Program)(Γ:List (TypeId×TI))(fn cfn:Func)(cc:Code)(caps:List SV)(r:SV)(σ3:St):Prop:=∃σ',Sub σ3 σ'/\zud n P Γ fn cfn cc caps r σ'
def zEb(n:Nat)(P:Program)(Γ:List (TypeId×TI))(fn cfn:Func)(cf:FuncId)(t:Tmp)(rest cc:Code)(r:SV)(σ2:St):Prop:=
 ∃caps,kK σ2.L t=some (.fn cf caps)/\Nat.ble caps.length cfn.ntmps=true/\caps.all zy5=true/\jH P Γ rest ⟨σ2.L,σ2.M,σ2.nk,σ2.nt,σ2.nk⟩ (zCC (zBj n P Γ fn cfn cc caps r))
def vcDf(n:Nat)(P:Program)(Γ:List (TypeId×TI))(fn cfn:Func)(cf:FuncId)(cc:Code)(r:SV):Nat->Code->St->Prop
 |0,c,σ=>∃id o1 o2 rest t,c=.seq (.region id #[o1,o2] false) rest/\o2.op=.defer ⟨.value (.tmp t),#[],#[]⟩/\o2.guard=none/\o2.dst=none/\
   u6 P Γ false [o1,o2] [o1] 0 σ (zEb n P Γ fn cfn cf t rest cc r)
 |k+1,c,σ=>∃x y,c=.seq x y/\jH P Γ x σ λe σ=>match e with
   |.normal=>vcDf n P Γ fn cfn cf cc r k y σ
   |.ret=>zbV σ Γ fn.results.toList λs=>LE (ziJ (zS σ.M) n s) r
   |.exit _=>False
variable{r:SV}
def zy6{E:Env}{M:List (Nat×Mem)}{ρ:zi}{w:World}{n:Nat}{s:SV}{v:Value}(hm:zK E.Keep M ρ w)(hle:LE (ziJ (zS M) n s) r)(hg:G (λb=>E.Keep b∨Own M ρ b) (Own M ρ) ρ w s v):G (λb=>E.Keep b∨Own [] ρ b) (Own [] ρ) ρ w r v:=by
 have hd:∀{s:SV} {v:Value},G (λb=>E.Keep b∨Own M ρ b) (Own M ρ) ρ w s v->D (λb=>E.Keep b∨Own [] ρ b) w (frz (zS M) n s) v:=λh=>
  (zmB (λk m h=>zw h) hm n h).less λb hb=>hb.resolve_right zP
 refine hle _ _ _ _ _ ?_;unfold ziJ
 split
 ·rename_i cs;obtain⟨vs,rfl,hvs⟩:=hg.tup_inv;refine .tup _ vs (by rw[Xx];exact hvs.1) λj s v hs hv=>?_
  rw[XD]at hs
  cases hc:cs[j]? with
  |none=>simp[hc]at hs
  |some c=>
   simp[hc]at hs;subst hs;exact .d _ _ (hd (hvs.2 j c v hc hv))
 exact .d _ _ (hd hg)
def zq6{n:Nat}{P:Program}{Γ:List (TypeId×TI)}(hT:TOK P Γ)(hm:P.follows .mixedOrders=true){cf:FuncId}{fn cfn:Func}{cc:Code}{r:SV}(hcf:P.funcs[cf]?=some cfn)(hcb:cfn.body=some cc)(hcn:(cfn.name== "runtime.NumGoroutine")=false) {Keep:Nat->Prop} {ρ:zi} {w:World} (hk:∀b,Keep b->b<w.heap.size) (hρ:∀k,0<=k->ρ k=none) {RF:Ending->World->Prop}
  (hRF:∀e w',RF e w'↔∃v ρ',e=.returned v/\Stp (Own [] ρ) (Own [] ρ') ρ ρ' w w'/\zK Keep [] ρ' w'/\G (λb=>Keep b∨Own [] ρ' b) (Own [] ρ') ρ' w' r v):
  ∀(k:Nat) (c:Code) {σ1:St} {ρ1:zi} {a1:Act} {w1:World},Rel ⟨w,ρ,Keep,Own [] ρ,[]⟩ σ1 ρ1 a1 w1->vcDf n P Γ fn cfn cf cc r k c σ1->c.wp P (bodyPostD P fn RF) a1 w1
 |k+1,c,σ1,ρ1,a1,w1,hr1,h=>by
  obtain⟨x,y,rfl,h⟩:=h;refine wp_seq (Code.wp_mono (λe a2 w2 hq=>?_) (qa hT hm x hr1 h))
  cases e with
  |normal=>obtain⟨σ,ρ',h1,h2⟩:=hq;exact zq6 hT hm hcf hcb hcn hk hρ hRF k y h2 h1
  |ret=>
   obtain⟨σ,ρ',h1,hr⟩:=hq;obtain⟨s,hles,h8⟩:=yj hT h1;obtain⟨v,hv,hgv⟩:=h8 hr;have hst:=hr.stp;show Leaves P fn a2.tmps RF a2.defers .returning w2;have hd0:a2.defers=[]:=hr.defers;rw[hd0];refine⟨v,hv,(hRF _ _).2 ⟨v,ρ',rfl,?_,(qr hr.mem.kp λ_ _ h=>hr.mem.glc h),zy6 hr.mem hles hgv⟩⟩;exact⟨hst.os,hst.tape,hst.output,hst.size,λb hb hn=>hst.block b hb λh=>hn h,λb hb=>absurd hb zP,hst.rho⟩
  |exit id=>obtain⟨σ,ρ',h1,_⟩:=hq;exact h1.elim
  |_=>exact hq.elim
 |0,c,σ1,ρ1,a1,w1,hr1,h=>by
  obtain⟨id,o1,o2,rest,t,rfl,ho,hg,hd,h1⟩:=h;refine wp_seq (wp_region_list ?_);obtain⟨σ',run,svs,s,md,h2,hgd,href,hdst,hrun⟩:=zgd hT hr1 h1
  have hr1':Rel ⟨w,ρ,Keep,Own [] ρ,[]⟩ σ' ρ1 a1 w1:=by
   rcases href with rfl|⟨t,s0,s1,q2,q3,rfl⟩
   ·exact hr1
   exact hr1.refine q2 q3
  have hnt:σ'.nt=σ1.nt:=by rcases href with rfl|⟨t,s0,s1,q2,q3,rfl⟩ <;> rfl
  have go2:∀{ρ2:zi} {a2:Act} {w2:World} {Q:Exit->Act->World->Prop},(∀a w,rest.wp P (bodyPostD P fn RF) a w->Q .normal a w)->Rel ⟨w,ρ,Keep,Own [] ρ,[]⟩ (σ'.app o1.dst s md) ρ2 a2 w2->
    wpList P #[o1,o2] Q [o2] a2 w2:=by
   intro ρ2 a2 w2 Q hQ hr2;obtain⟨caps,hlt,hcle,hall,h3⟩:=h2;have hgt:=(hr2.regs t _ hlt).2;obtain⟨cvs,hcv,hcg⟩:=hgt.fn_inv;have hw:Region.wanted o2 (yielded (#[o1,o2]:Array Oper) a2.tmps)=true:=hr2.wanted (all:=[o1,o2]) (by simp[qV,hg]);unfold wpList;rw[hw];simp only[if_true];refine .inl ?_;unfold Oper.wp
   have hex:(execOp a2.eval o2).run P w2=.ok (.defer ⟨.fn (.func cf) cvs.toArray,#[]⟩) w2:=by
    have hev:a2.eval (.tmp t)=.func (.func cf) #[] cvs.toArray:=hcv;simp only[execOp,ho,resolve,hev,Deferred.ofValue,Sem.run_bind,Sem.run_pure,Result.andThen_ok];simp
   rw[hex,Oper.upon_defer,hd];refine hQ _ _ ?_;show rest.wp P _ { a2 with defers:=_::a2.defers } w2;have hd0:a2.defers=[]:=hr2.defers;rw[hd0]
   -- the rest,with the call put off
   let E3:Env:=⟨w2,ρ2,Keep,Own (σ'.app o1.dst s md).M ρ2,[⟨.fn (.func cf) cvs.toArray,#[]⟩]⟩
   have hr3:Rel E3 ⟨(σ'.app o1.dst s md).L,(σ'.app o1.dst s md).M,(σ'.app o1.dst s md).nk,(σ'.app o1.dst s md).nt,(σ'.app o1.dst s md).nk⟩ ρ2 { a2 with defers:=[⟨.fn (.func cf) cvs.toArray,#[]⟩] } w2:=
    ⟨hr2.size,rfl,hr2.regs,hr2.mem,hr2.fresh,.refl,hr2.mem.kp,λk v hv=>by
     rcases Qe k (σ'.app o1.dst s md).nk with h|h
     ·exact h
     have hv:ρ2 k=some v:=hv
     rw[hr2.fresh k h]at hv;cases hv⟩
   refine Code.wp_mono (λe a3 w3 hq=>?_) (qa hT hm rest hr3 h3)
   have fin:∀σ3 ρ3,zud n P Γ fn cfn cc caps r σ3->Rel E3 σ3 ρ3 a3 w3->Leaves P fn a3.tmps RF a3.defers .returning w3:=by
    intro σ3 ρ3 ⟨hbeq,h4⟩ hr3;have hlen:=Xj hbeq;have hd3:a3.defers=[⟨.fn (.func cf) cvs.toArray,#[]⟩]:=hr3.defers;rw[hd3];have hρ3:∀k,σ3.M.length<=k->ρ3 k=none:=λk hk=>hr3.fresh k oM
    have hcg3:Gs (λb=>Keep b∨Own σ3.M ρ3 b) (Own σ3.M ρ3) ρ3 w3 caps cvs:=by
     refine⟨hcg.1,λj s v hs hv=>?_⟩;have hl:zy5 s=true:=XR.1 hall s (Xf hs)
     cases s <;> try (simp[zy5]at hl)
     rename_i k off;obtain⟨b,hb1,rfl⟩:=(hcg.2 j _ v hs hv).loc_inv;exact .loc _ _ _ (hr3.stp.rho _ _ hb1)
    have hent:=vL (nt:=cfn.ntmps) hr3.mem hρ3 hcg3 (Xz hcle);refine leaves_cons (by simp) (f:=cf) (args:=cvs.toArray) ?_ ?_
    ·simp only[invoke,callFunc,Sem.run_bind,Sem.run_pure,Result.andThen_ok,run_program,hcf,hcn,hcb,Option.isNone_some,Kr,if_false];simp
    refine(callsD_of_wp (R:=λe w4=>∃v0,e=.returned v0/\Leaves P fn a3.tmps RF [] .returning w4) hcf hcb ?_).mono ?_
    ·refine Code.wp_mono (λe a4 w4 hq=>?_) (qa hT hm cc hent h4)
     have fin2:∀σ4 ρ4,(zbV σ4 Γ cfn.results.toList λ_=>zbV ⟨σ3.L.map yY,σ4.M,σ4.nk,σ3.nt,0⟩ Γ fn.results.toList λs=>LE (ziJ (zS σ4.M) n s) r)->
       Rel ⟨w3,ρ3,Keep,Own σ3.M ρ3,[]⟩ σ4 ρ4 a4 w4->a4.defers=[]/\∃v,(results cfn a4.tmps).run P w4=.ok v w4/\∃v0,Ending.returned v=.returned v0/\
        Leaves P fn a3.tmps RF [] .returning w4:=by
      intro σ4 ρ4 h5 hr4;obtain⟨s0,h6,h7⟩:=yj hT h5;obtain⟨v0,hv0,_⟩:=h7 hr4;refine⟨hr4.defers,v0,hv0,v0,rfl,?_⟩;have hst:Stp (Own [] ρ) (Own σ4.M ρ4) ρ ρ4 w w4:=(hr2.stp.trans hr3.stp).trans hr4.stp
      have hfin:Rel ⟨w,ρ,Keep,Own [] ρ,a3.defers⟩ ⟨σ3.L.map yY,σ4.M,σ4.nk,σ3.nt,0⟩ ρ4 a3 w4:=by
       refine⟨hr3.size,rfl,λt s hl=>?_,hr4.mem,hr4.fresh,hst,hk,λk v hv=>?_⟩
       ·rcases zgU σ3.L t s hl with rfl|⟨k,o,rfl,h8⟩
        ·refine⟨?_,.d _ _ (.junk _)⟩
         have:∃s,kK σ3.L t=some s:=by
          clear h5 h6 h7 h4 hr3 hr4 hent
          revert hl
          generalize σ3.L=L;intro hl
          induction L with
          |nil=>simp[kK]at hl
          |cons p L ih=>
           obtain⟨d,s0⟩:=p
           by_cases hd:d=t
           ·exact⟨s0,by rw[kq,Xe hd]⟩
           rw[kq,Xc hd];refine ih ?_
           have e:(((d,s0)::L).map yY)=(d,(yY (d,s0)).2)::L.map yY:=by
            simp only[QO];congr 1;unfold yY;dsimp only;split <;> rfl
           have hl':kK (((d,s0)::L).map yY) t=some .junk:=hl;rw[e,kq,Xc hd]at hl';exact hl'
         obtain⟨s,hs⟩:=this;exact(hr3.regs t s hs).1
        obtain⟨h9,h10⟩:=hr3.regs t _ h8;refine⟨h9,?_⟩;obtain⟨b,hb1,hb2⟩:=h10.loc_inv;rw[hb2];exact .loc _ _ _ (hr4.stp.rho _ _ hb1)
       have hv:ρ k=some v:=hv;rw[hρ k (Xh _)]at hv;cases hv
      obtain⟨s,hles,h8⟩:=yj hT h6;obtain⟨v,hv,hgv⟩:=h8 hfin;refine⟨v,hv,(hRF _ _).2 ⟨v,ρ4,rfl,?_,(qr hfin.mem.kp λ_ _ h=>hfin.mem.glc h),?_⟩⟩
      ·exact⟨hst.os,hst.tape,hst.output,hst.size,λb hb hn=>hst.block b hb hn,λb hb=>absurd hb zP,hst.rho⟩
      exact zy6 hfin.mem hles hgv
     cases e with
     |normal=>obtain⟨σ4,ρ4,h5,hr4⟩:=hq;exact fin2 σ4 ρ4 h5 hr4
     |ret=>obtain⟨σ4,ρ4,h5,hr4⟩:=hq;exact fin2 σ4 ρ4 h5 hr4
     |exit id=>obtain⟨σ4,ρ4,h5,_⟩:=hq;exact h5.elim
     |_=>exact hq.elim
    rintro e u' w4 ⟨rfl,v0,rfl,hL⟩
    exact hL
   cases e with
   |normal=>obtain⟨σ3,ρ3,⟨σ',hs,h4⟩,hr3⟩:=hq;obtain⟨ρ',hr'⟩:=hs _ _ _ _ hr3;exact fin σ' ρ' h4 hr'
   |ret=>obtain⟨σ3,ρ3,⟨σ',hs,h4⟩,hr3⟩:=hq;obtain⟨ρ',hr'⟩:=hs _ _ _ _ hr3;exact fin σ' ρ' h4 hr'
   |exit id=>obtain⟨σ3,ρ3,h4,_⟩:=hq;exact h4.elim
   |_=>exact hq.elim
  unfold wpList;rw[hr1'.wanted hgd]
  obtain⟨rfl,hst⟩|⟨rfl,rfl,rfl⟩:=hrun
  ·simp only[if_true];refine .inl ((hst.does hr1').wp λv w' ha=>?_);obtain⟨ρ',hrel⟩:=hr1'.app (λt e=>hnt ▸ hdst t e) ha;exact go2 (λ_ _ h=>h) hrel
  simp only[Kr,if_false];obtain⟨ρ',hrel⟩:=hr1'.app (λt e=>hnt ▸ hdst t e) (uT hr1'.mem);exact go2 (λ_ _ h=>h) hrel
def zmZ(n k:Nat){P:Program}{Γ:List (TypeId×TI)}(hT:TOK P Γ)(hm:P.follows .mixedOrders=true){f cf:FuncId}{fn cfn:Func}{c:Code}{args:List SV}{cc:Code}(hf:P.funcs[f]?=some fn)(hb:fn.body=some c)(hn:(fn.name== "runtime.NumGoroutine")=false)
  (hle:Nat.ble args.length fn.ntmps=true) (hcf:P.funcs[cf]?=some cfn) (hcb:cfn.body=some cc) (hcn:(cfn.name== "runtime.NumGoroutine")=false)
  (h:vcDf n P Γ fn cfn cf cc r k c ⟨jI 0 args,[],0,fn.ntmps,0⟩):qx P f args [] r []:=by
 refine⟨⟨fn,hf,hn,by rw[hb];rfl⟩,λKeep ρ w vs hk hmem hρ hgs=>?_⟩;have hRF:∃RF:Ending->World->Prop,∀e w',RF e w'↔∃v ρ',e=.returned v/\Stp (Own [] ρ) (Own [] ρ') ρ ρ' w w'/\zK Keep [] ρ' w'/\G (λb=>Keep b∨Own [] ρ' b) (Own [] ρ') ρ' w' r v:=⟨_,λ_ _=>K7⟩;obtain⟨RF,hRF⟩:=hRF;refine Calls.mono ?_ λe w' h=>(hRF e w').1 h
 refine calls_of_wp_defers hf hb ?_;have hrel:=vL (nt:=fn.ntmps) hmem hρ hgs (Xz hle);exact zq6 hT hm hcf hcb hcn hk hρ hRF k c hrel h
structure Pix where
 r:Int
 g:Int
 b:Int
 a:Int
 deriving DecidableEq
def zd3(p:Pix):List SV:=[u8 p.r,u8 p.g,u8 p.b,u8 p.a]
structure Img where
 w:Int
 h:Int
 px:List Pix
 deriving DecidableEq
def zk2(m:Img):List SV:=[i64 m.w,i64 m.h,.sl zd3 m.px]
def zfQ(p:Pix):Prop:=p.r<=p.a/\p.g<=p.a/\p.b<=p.a
instance (p:Pix):Decidable (zfQ p):=inferInstanceAs (Decidable (_/\_))
def zff(m:Img):Prop:=(1<=m.w/\m.w<=4096)/\(1<=m.h/\m.h<=4096)/\m.w*m.h<=65536/\(m.px.length:Int)=m.w*m.h/\∀p∈m.px,zfQ p
instance (m:Img):Decidable (zff m):=inferInstanceAs (Decidable (_/\_))
def zgZ(x r g b a:Int):CG0 438 [u8 x,.ptr [u8 r,u8 g,u8 b,u8 a]] [] (u8 (min x a)) []:=by
 refine zc Tryz.func438 ?_;exact ze rfl
def zEd(p:Pix)(r g b a:Int):CG0 437 [.agg (zd3 p),.fn 438 [.ptr [u8 r,u8 g,u8 b,u8 a]]] [] (.agg [u8 (min p.r a),u8 (min p.g a),u8 (min p.b a),u8 (min p.a a)]) []:=by
 refine zc Tryz.func437 ?_;exact Dr.k<|zb.t (zgZ _ r g b a)<|zb.t (zgZ _ r g b a)<|zb.t (zgZ _ r g b a)<|zb.t (zgZ _ r g b a)<|.refl
def zy7(p:Pix):CG0 377 [.agg (zd3 p)] [] (.agg [u8 (min p.r p.a),u8 (min p.g p.a),u8 (min p.b p.a),u8 (min p.a p.a)]) []:=by
 refine zc Tryz.func377 ?_;exact zb.t (zEd p p.r p.g p.b p.a)<|.refl
def zy8(p:Pix):CG0 314 [.agg (zd3 p)] [] (pr (zfQ p)) []:=by
 refine zc Tryz.func314 ?_;refine Dr.k<|zb.t (zy7 p)<|zE (p:=min p.r p.a=p.r/\min p.g p.a=p.g/\min p.b p.a=p.b/\min p.a p.a=p.a/\True) ?_;constructor
 ·rintro⟨h1,h2,h3,_⟩
  exact⟨oM,oM,oM⟩
 rintro⟨h1,h2,h3⟩
 exact⟨oM,oM,oM,oM,trivial⟩
def zvY(p:Pix):CG0 313 [.agg (zd3 p)] [] (pr (¬zfQ p)) []:=by
 refine zc Tryz.func313 ?_;exact zb.t (zy8 p)<|zE K7
def zfR(xs:List Pix):Int:=match xs.findIdx? (λp=>decide (¬zfQ p)) with
 |some i=>i
 |none=> -1
def zvZ{xs:List Pix}{i:Nat}{p:Pix}(h:∀(j:Nat) q,j<i->xs[j]?=some q->zfQ q)(hi:xs[i]?=some p)(hp:¬zfQ p):zfR xs=i:=by
 have:xs.findIdx? (λp=>decide (¬zfQ p))=some i:=by
  rw[KH];obtain⟨hl,he⟩:=Xd.1 hi;refine⟨hl,by simp[he,hp],λj hj=>?_⟩;have:=h j xs[j] hj (Xb _);simp[this]
 simp only[zfR,this]
variable{xs:List Pix}
def ziy(h:∀p∈xs,zfQ p):zfR xs= -1:=by
 have:xs.findIdx? (λp=>decide (¬zfQ p))=none:=by
  rw[Ku];intro p hp;simp[h p hp]
 simp only[zfR,this]
def zlL:0<=zfR xs↔¬∀p∈xs,zfQ p:=by
 constructor
 ·intro h hall;rw[ziy hall]at h;omega
 intro h;unfold zfR
 split
 ·omega
 rename_i hn;rw[Ku]at hn;exact absurd (λp hp=>by simpa using hn p hp) h
def zBo(xs:List Pix)(hl:xs.length<=9223372036854775807):CG0 376 [.sl zd3 xs,.fn 313 []] [] (i64 (zfR xs)) []:=by
 refine zc Tryz.func376 ?_;intro hl0;refine⟨Int,λi=>⟨[(8,i64 i),(7,i64 xs.length),(0,.sl zd3 xs),(1,.fn 313 [])],[],0,19,0⟩,λi=>0<=i/\i<=xs.length/\∀(j:Nat) q,(j:Int)<i->xs[j]?=some q->zfQ q,λi=>((xs.length:Int)-i).toNat,0,?_,?_,?_⟩
 ·exact⟨oM,oM,λj q hj=>by omega⟩
 ·exact zC []
 rintro i ⟨h1,h2,h3⟩
 refine⟨λh4=>?_,λh4=>?_⟩
 ·refine Ob.o ?_;intro x hx;refine zb.t (zvY x)<|⟨λh5=>?_,λh5=>?_⟩
  ·refine ze ?_;rw[zvZ (i:=i.toNat) (λj q hj=>h3 j q oM) hx h5];omega
  refine Ar.o<|⟨i+1,⟨oM,oM,λj q hj hq=>?_⟩,zC [],by dsimp only;omega⟩
  by_cases e:j=i.toNat
  ·subst e;rw[hx]at hq;cases hq;exact Xa.1 h5
  exact h3 j q oM hq
 refine ze (ziy λp hp=>?_).symm;obtain⟨j,hj,he⟩:=Kl hp;exact h3 j p oM (by rw[←he];exact Xb hj)
def zsK(xs:List Pix)(hl:xs.length<=9223372036854775807):CG0 312 [.sl zd3 xs,.fn 313 []] [] (pr (¬∀p∈xs,zfQ p)) []:=by
 refine zc Tryz.func312 ?_;exact zb.t (zBo xs hl)<|zE zlL
def zCD(n:Int):CG0 311 [i64 n] [] (pr (1<=n/\n<=4096)) []:=by
 refine zc Tryz.func311 ?_;refine⟨λh=>?_,λh=>?_⟩
 ·exact zE oM
 exact zd oM
def zy9{a b A B:Int}(h1:0<=a)(h2:a<=A)(h3:0<=b)(h4:b<=B):0<=a*b/\a*b<=A*B:=
 ⟨XJ h1 h3,JK h2 h4 h3 oM⟩
def zm0(m:Img)(hl:m.px.length<=9223372036854775807):CG0 237 [.agg (zk2 m)] [] (pr (zff m)) []:=by
 refine zc Tryz.func237 ?_;refine zb.t (zCD m.w)<|⟨λh1=>?_,λh1=>?_⟩
 ·exact zd (λh=>h1 h.1)
 have h1:=Xa.1 h1;refine zb.t (zCD m.h)<|⟨λh2=>?_,λh2=>?_⟩
 ·exact zd (λh=>h2 h.2.1)
 have h2:=Xa.1 h2;have hm:=zy9 (show 0<=m.w by omega) h1.2 (show 0<=m.h by omega) h2.2;refine Ar.o<|Br.mk (λh3=>?_) (λh3=>?_)
 ·exact zd (λh=>by have:=h.2.2.1;omega)
 intro hl0;refine Ar.o<|Br.mk (λh4=>?_) (λh4=>?_)
 ·exact zd (λh=>h4 h.2.2.2.1)
 exact zb.t (zsK m.px hl)<|zE<|⟨λh=>⟨h1,h2,oM,Xa.1 h4,Xa.1 h⟩,λh h'=>h' h.2.2.2.2⟩
def zEe(w h:Int):CG0 286 [i64 w,i64 h] [] (pr ((1<=w/\w<=4096)/\(1<=h/\h<=4096)/\w*h<=65536)) []:=by
 refine zc Tryz.func286 ?_;refine⟨λh1=>?_,λh1=>zd oM⟩;refine⟨λh2=>?_,λh2=>zd oM⟩;refine⟨λh3=>?_,λh3=>zd oM⟩;refine⟨λh4=>?_,λh4=>zd oM⟩;have hm:=zy9 (show 0<=w by omega) h2 (show 0<=h by omega) h4;exact Ar.o<|zE ⟨λh=>⟨⟨h1,h2⟩,⟨h3,h4⟩,h⟩,λh=>h.2.2⟩
def zv0(p:Pix):CG0 287 [.agg (zd3 p)] [] (pr (zfQ p)) []:=by
 refine zc Tryz.func287 ?_;refine⟨λh1=>?_,λh1=>zd (λh=>h1 h.1)⟩;refine⟨λh2=>?_,λh2=>zd (λh=>h2 h.2.1)⟩;exact zE ⟨λh=>⟨h1,h2,h⟩,λh=>h.2.2⟩
def zk3(m:Img):CG0 203 [.agg (zk2 m)] [] (pr (zff m)) []:=by
 refine zc Tryz.func203 ?_;refine zb.t (zEe m.w m.h)<|⟨λh1=>zd (λh=>h1 ⟨h.1,h.2.1,h.2.2.1⟩),λh1=>?_⟩;have h1:=Xa.1 h1;have hm:=zy9 (show 0<=m.w by omega) h1.1.2 (show 0<=m.h by omega) h1.2.1.2;intro hl0;refine Ar.o<|Br.mk (λh4=>zd (λh=>h4 h.2.2.2.1)) (λh4=>?_);have h4:=Xa.1 h4
 refine⟨Int,λi=>⟨[(3,i64 i),(1,.loc 0 0)],[(0,.box 46 (zk2 m))],1,35,0⟩,λi=>0<=i/\i<=m.px.length/\∀(j:Nat) q,(j:Int)<i->m.px[j]?=some q->zfQ q,λi=>((m.px.length:Int)-i).toNat,0,?_,?_,?_⟩
 ·exact⟨oM,oM,λj q hj=>by omega⟩
 ·exact zf [0]
 rintro i ⟨g1,g2,g3⟩
 intro hl1;refine⟨λg4=>?_,λg4=>?_⟩
 ·refine Ob.o ?_;intro x hx;refine zb.t (zv0 x)<|⟨λg5=>?_,λg5=>?_⟩
  ·exact zd λh=>g5 (h.2.2.2.2 x (Xf hx))
  refine Ar.o<|⟨i+1,⟨oM,oM,λj q hj hq=>?_⟩,zf [0],by dsimp only;omega⟩
  by_cases e:j=i.toNat
  ·subst e;rw[hx]at hq;cases hq;exact Xa.1 g5
  exact g3 j q oM hq
 refine zI ⟨h1.1,h1.2.1,h1.2.2,h4,λp hp=>?_⟩;obtain⟨j,hj,he⟩:=Kl hp;exact g3 j p oM (by rw[←he];exact Xb hj)
def zk4{p q:Pix}:(p.r=q.r/\p.g=q.g/\p.b=q.b/\p.a=q.a/\True)↔p=q:=by
 cases p;cases q;simp
def zBp{ys:List Pix}{i:Int}(hl:(xs.length:Int)=ys.length)(hi:¬i<xs.length)(h:∀j:Nat,(j:Int)<i->xs[j]?=ys[j]?):xs=ys:=by
 refine Kq λj=>?_
 by_cases hj:(j:Int)<i
 ·exact h j hj
 rw[XG oM,XG oM]
def zBq(xs ys:List Pix):CG0 372 [.sl zd3 xs,.sl zd3 ys] [] (pr (xs=ys)) []:=by
 refine zc Tryz.func372 ?_;intro hl1 hl2;refine⟨λh1=>zd λe=>h1 (by rw[e]),λh1=>?_⟩;have h1:=Xa.1 h1;intro hl3;refine⟨Int,λi=>⟨[(13,i64 i),(12,i64 xs.length),(0,.sl zd3 xs),(1,.sl zd3 ys)],[],0,26,0⟩,λi=>0<=i/\i<=xs.length/\∀j:Nat,(j:Int)<i->xs[j]?=ys[j]?,λi=>((xs.length:Int)-i).toNat,0,?_,?_,?_⟩
 ·exact⟨oM,oM,λj hj=>by omega⟩
 ·exact zC []
 rintro i ⟨h4,h5,h6⟩
 refine⟨λh7=>?_,λh7=>?_⟩
 ·refine Dr.k<|Ob.o ?_;intro x hx;refine Ob.o ?_;intro y hy;refine⟨λh8=>?_,λh8=>?_⟩
  ·refine zd λe=>h8 (zk4.2 ?_)
   subst e;rw[hx]at hy;exact Xm hy
  refine Ar.o<|⟨i+1,⟨oM,oM,λj hj=>?_⟩,zC [],by dsimp only;omega⟩
  by_cases e:j=i.toNat
  ·subst e;rw[hx,hy,zk4.1 (Xa.1 h8)]
  exact h6 j oM
 exact zI (zBp h1 h7 h6)
def zm1(m n:Img):CG0 309 [.agg (zk2 m),.agg (zk2 n)] [] (pr (m=n)) []:=by
 refine zc Tryz.func309 ?_;refine⟨λh1=>?_,λh1=>zd λe=>h1 (by rw[e])⟩;refine⟨λh2=>?_,λh2=>zd λe=>h2 (by rw[e])⟩;refine zb.t (zBq m.px n.px)<|zE ⟨λh=>?_,λh=>by rw[h]⟩
 cases m;cases n;simp_all
def zd4:Pix:=⟨0,0,0,0⟩
end Go.Gs
