/- Dashes: the intervals one by one, in the first text. -/
import Derived.Test.YtlckjbeknkkllaaGreatDoorMAO
import Derived.Defers
set_option maxRecDepth 100000
set_option maxHeartbeats 8000000
set_option linter.all false
namespace Go.Gs
open Proofs.Tryz
open Go.Proofs
def runE(q:Nat×Nat):LQ:=[i64 (q.1:Int),i64 (q.2:Int)]
def zBE{pen:Pen}{long:Int}(h1:kV pen)(h2:¬long<1)(h3:¬uB 1 pen.d pen.d.length=0)(h4:¬uB 0 pen.d pen.d.length=0):qt pen long=zfV (onD pen) long.toNat:=by
 have hs:=zgb pen.d pen.d.length (Xi _);rw[vD]at hs;have hd:=zjZ pen.d;unfold qt;rw[Xb (λh=>by rcases h with h|h|h;exact h h1;exact h2 h;omega),Xb oM]
def zr5{pen:Pen}{long:Int}(h1:kV pen)(h2:¬long<1)(h3:uB 1 pen.d pen.d.length=0):qt pen long=[(0,long.toNat)]:=by
 have hs:=zgb pen.d pen.d.length (Xi _);rw[vD]at hs;have hd:=zjZ pen.d;unfold qt;rw[Xb (λh=>by rcases h with h|h|h;exact h h1;exact h2 h;omega),Xe oM]
def zvP{pen:Pen}{long:Int}(h1:kV pen)(h2:¬long<1)(h3:¬uB 1 pen.d pen.d.length=0)(h4:uB 0 pen.d pen.d.length=0)(h5:∀n∈pen.d,0<=n):qt pen long=[]:=by
 have hs:=zgb pen.d pen.d.length (Xi _);rw[vD]at hs;have hd:=zjZ pen.d;have hp:=zcd (r:=1) h5 pen.d.length (Xi _);unfold qt;rw[Xe (.inr (.inr ⟨oM,oM⟩))]
variable{pen:Pen}{long:Int}
def zpW(h:¬kV pen∨long<1):qt pen long=[]:=by
 unfold qt;rw[Xe (by rcases h with h|h;exact .inl h;exact .inr (.inl h))]
structure Wk where
 a:Nat
 i:Nat
 l:Int
def okW(pen:Pen)(long:Int)(s:Wk):Prop:=
 (s.a:Int)<=long/\s.i<pen.d.length/\0<=s.l/\(∃e,pen.d[s.i]?=some e/\s.l<=256*e)/\((s.a:Int)<long->uh pen.d ∣ qF pen.d (s.i+1)-s.l-((s.a:Int)+256*pen.ph))
def qW(pen:Pen)(long:Int)(s:Wk):Wk:=⟨s.a+(min s.l (long-s.a)).toNat,(s.i+1)%pen.d.length,256*pen.d.getD ((s.i+1)%pen.d.length) 0⟩
def muW(pen:Pen)(long:Int)(j:Nat)(s:Wk):Nat:=(long.toNat-s.a)*(pen.d.length+2)+if s.l=0 then 1+(j+pen.d.length-1-s.i)%pen.d.length else 0
def zBF{s:Wk}(hd:vP pen.d)(h:okW pen long s)(hlt:(s.a:Int)<long):okW pen long (qW pen long s):=by
 obtain⟨h1,h2,h3,⟨e,h4,h5⟩,h6⟩:=h;obtain⟨d1,d2,d3,d4⟩:=zce hd;have hm:(s.i+1)%pen.d.length<pen.d.length:=Kr _ oM
 have hx:pen.d[(s.i+1)%pen.d.length]?=some (pen.d.getD ((s.i+1)%pen.d.length) 0):=by
  rw[Xn,Xa hm];rfl
 have hx1:=d1 _ (Xf hx);refine⟨by unfold qW;dsimp only;omega,hm,by unfold qW;dsimp only;omega,⟨_,hx,Qi _⟩,λhl=>?_⟩;unfold qW at hl ⊢;dsimp only at hl ⊢;exact zBD h2 hx (h6 hlt) oM
def zBG{s:Wk}{j:Nat}(hd:vP pen.d)(h:okW pen long s)(hlt:(s.a:Int)<long)(hj:∃x,pen.d[j]?=some x/\0<x):muW pen long j (qW pen long s)<muW pen long j s:=by
 obtain⟨h1,h2,h3,⟨e,h4,h5⟩,h6⟩:=h;obtain⟨x,hx,hx0⟩:=hj;have hjl:j<pen.d.length:=(Xd.1 hx).1;unfold muW qW;dsimp only
 by_cases z:s.l=0
 ·rw[Xe z];have e0:(min s.l (long-s.a)).toNat=0:=oM;rw[e0,XU];refine Nat.add_lt_add_left ?_ _
  split
  ·rename_i hz
   -- the next is none of the entries that are more than zero
   have hne:(s.i+1)%pen.d.length≠j:=λhe=>by
    rw[he,Xn,hx]at hz;have hz:256*x=0:=hz;omega
   have key:(j+pen.d.length-1-(s.i+1)%pen.d.length)%pen.d.length+1=(j+pen.d.length-1-s.i)%pen.d.length:=by
    by_cases c:s.i+1<pen.d.length
    ·rw[Xw c]at hne ⊢
     by_cases c2:s.i<j
     ·rw[show j+pen.d.length-1-(s.i+1)=(j-1-(s.i+1))+pen.d.length by omega,show j+pen.d.length-1-s.i=(j-1-s.i)+pen.d.length by omega,J8,J8,Xw oM,Xw oM];omega
     rw[Xw oM,Xw oM];omega
    have hl:s.i+1=pen.d.length:=by omega
    rw[hl,JU]at hne ⊢;rw[show j+pen.d.length-1-0=(j-1)+pen.d.length by omega,J8,Xw (show j-1<pen.d.length by omega),Xw (show j+pen.d.length-1-s.i<pen.d.length by omega)];omega
   omega
  omega
 rw[Xb z];have hm:(j+pen.d.length-1-(s.i+1)%pen.d.length)%pen.d.length<pen.d.length:=Kr _ oM;have e1:long.toNat-s.a=(long.toNat-(s.a+(min s.l (long-s.a)).toNat))+(min s.l (long-s.a)).toNat:=oM;have e2:1<=(min s.l (long-s.a)).toNat:=oM;have e3:1*(pen.d.length+2)<=(min s.l (long-s.a)).toNat*(pen.d.length+2):=Xs _ e2;rw[e1,X6]
 split <;> omega
def zy3{s:Wk}(hd:vP pen.d)(h:okW pen long s)(hlt:(s.a:Int)<long)(hm:¬min s.l (long-s.a)=0):
  (s.i%2=0->qy (onD pen) (qW pen long s).a=((qy (onD pen) s.a).1,some ((qy (onD pen) s.a).2.getD s.a)))/\(¬s.i%2=0->qy (onD pen) (qW pen long s).a=(zfV (onD pen) s.a,none)):=by
 obtain⟨h1,h2,h3,⟨e,h4,h5⟩,h6⟩:=h;obtain⟨d1,d2,d3,d4⟩:=zce hd
 have on:∀t,s.a<=t->t<(qW pen long s).a->(onD pen t↔s.i%2=0):=λt ht ht2=>by
  unfold qW at ht2;dsimp only at ht2;exact on_at d1 h4 h5 (h6 hlt) ht oM
 have hab:s.a<(qW pen long s).a:=by unfold qW;dsimp only;omega
 exact⟨λk=>zEC hab λt a b=>(on t a b).2 k,λk=>zBi hab λt a b c=>k ((on t a b).1 c)⟩
def zBH(pen:Pen)(long:Int)(hlong:long<=70368744177664):zew prog 332 [.dptr (yK pen),.dptr [i64 long]] runE (qt pen long):=by
 refine zih (caps:=[.dptr (yK pen),.dptr [i64 long]]) (enc:=runE) (xs:=qt pen long) tok mix func332 rfl rfl rfl rfl (λl=>?_);have bad:¬kV pen∨long<1->0=(qt pen long).length:=λh=>by rw[zpW h];rfl
 refine wg (zdV pen)<|⟨λk=>.inr (bad (.inl k)),λk=>?_⟩;have hk:kV pen:=Xc.1 k;refine⟨λk2=>.inr (bad (.inr (by have k2:long<=0:=k2;omega))),λk2=>?_⟩;have k2:¬long<=0:=k2;have hd:=hk.2.2.2.2.1;obtain⟨d1,d2,d3,d4⟩:=zce hd;intro hl1
 refine⟨Nat,λi=>⟨[(0,.val (.func (.yield l) #[] #[])),(1,.dptr (yK pen)),(2,.dptr [i64 long]),(4,.loc 0 0),(20,.sl zN pen.d),(21,i64 pen.d.length),(22,i64 i)],[(0,.box 263 [i64 (uB 0 pen.d i),i64 (uB 1 pen.d i)])],1,103,0⟩,λ_=>0,λi=>i<=pen.d.length,λi=>pen.d.length-i,0,?_,?_,rfl,rfl,?_⟩
 ·exact Xg _
 ·exact zi [0]
 rintro i hi
 have hs:=zgb pen.d i hi;have hpi:=zg1 d1 hi;have p0:=zcd (r:=0) d1 i hi;have p1:=zcd (r:=1) d1 i hi;refine⟨λg:(i:Int)<pen.d.length=>?_,λg:¬(i:Int)<pen.d.length=>?_⟩
 ·refine wb λx(hx:pen.d[i]?=some x)=>?_;have hx1:=d1 x (Xf hx);have hx2:=d2 x (Xf hx);refine Dv.pos ⟨oM,dC⟩ ?_
  rcases J1 i with h|h
  ·rw[show(i:Int)%2=0 by omega];(iterate 2 refine wa ?_);exact⟨i+1,oM,zt [0] ⟨(show some (Mem.box 263 [i64 (uB 0 pen.d i+x),i64 (uB 1 pen.d i)])=some (Mem.box 263 [i64 (uB 0 pen.d (i+1)),i64 (uB 1 pen.d (i+1))]) by rw[zga hx h,zjY (r:=1) oM]),tV⟩,rfl,rfl,oN⟩
  rw[show(i:Int)%2=1 by omega];(iterate 2 refine wa ?_);exact⟨i+1,oM,zt [0] ⟨(show some (Mem.box 263 [i64 (uB 0 pen.d i),i64 (uB 1 pen.d i+x)])=some (Mem.box 263 [i64 (uB 0 pen.d (i+1)),i64 (uB 1 pen.d (i+1))]) by rw[zga hx h,zjY (r:=0) oM]),tV⟩,rfl,rfl,oN⟩
 have ei:i=pen.d.length:=oM;refine⟨λq1:uB 1 pen.d i=0=>?_,λq1:¬uB 1 pen.d i=0=>?_⟩
 ·rw[ei]at q1;have e:=zr5 (long:=long) hk oM q1;refine⟨rfl,(0,long.toNat),by rw[e];rfl,rfl,.C (.cons (zh (show long=((long.toNat:Nat):Int) by omega)) .nil),(λk m h=>?_),?_⟩
  ·cases h with
   |head=>rfl
   |tail _ h=>cases h
  exact⟨.inr (by rw[e];rfl),.inl rfl⟩
 rw[ei]at q1;refine⟨λq0:uB 0 pen.d i=0=>?_,λq0:¬uB 0 pen.d i=0=>?_⟩
 ·rw[ei]at q0;exact .inr (by rw[zvP (long:=long) hk oM q1 q0 d1];rfl)
 rw[ei]at q0 hs p0 p1;rw[vD]at hs;have eR:=zBE (long:=long) hk oM q1 q0;have hper:0<uh pen.d:=oM
 obtain⟨j,y,hj,hy⟩:∃(j:Nat) (y:Int),pen.d[j]?=some y/\0<y:=by
  have hn:=hd.2.1.resolve_left λh=>q1 (by rw[h];rfl)
  obtain⟨n,hn,h0⟩:=hn;obtain⟨j,hj,he⟩:=Kn hn;exact⟨j,n,by rw[Xa hj,he],h0⟩
 refine wg (zvO pen hk hper) ?_
 -- where it begins
 have k0:=K2 ((0:Nat)+256*pen.ph) (show uh pen.d≠0 by omega);have k1:=KY ((0:Nat)+256*pen.ph) hper;rw[←zy2 pen 0]at k0 k1;obtain⟨i0,e0,g1,g2,g3⟩:=ztx d1 k0 k1;have gp:=zig (i0:=0) d1 g1 g2 g3;rw[X9]at gp;have gs:=vi g1
 have ok0:okW pen long ⟨0,i0,qF pen.d i0+256*e0-phD pen (0:Nat)⟩:=by
  refine⟨oN,(Xd.1 g1).1,oN,⟨e0,g1,oN⟩,λ_=>?_⟩;dsimp only;rw[show qF pen.d (i0+1)-(qF pen.d i0+256*e0-phD pen (0:Nat))-(((0:Nat):Int)+256*pen.ph)=phD pen (0:Nat)-(((0:Nat):Int)+256*pen.ph) by omega,zy2];have:=Int.emod_add_mul_ediv (((0:Nat):Int)+256*pen.ph) (uh pen.d);exact⟨-((((0:Nat):Int)+256*pen.ph)/uh pen.d),by rw[QV];omega⟩
 have gp:zhI pen.d (phD pen 0) 0=(i0,qF pen.d i0+256*e0-phD pen (0:Nat)):=gp;refine⟨Wk,λs=>⟨[(0,.val (.func (.yield l) #[] #[])),(1,.dptr (yK pen)),(2,.dptr [i64 long]),(7,i64 (frI (qy (onD pen) s.a).2)),(8,i64 s.i),(9,i64 s.l),(10,i64 s.a)],[],0,103,0⟩,λs=>(qy (onD pen) s.a).1.length,okW pen long,muW pen long j,⟨0,i0,qF pen.d i0+256*e0-phD pen (0:Nat)⟩,ok0,?_,rfl,rfl,?_⟩
 ·exact qN [] ⟨rfl,rfl,rfl,rfl,iR (by rw[gp]),iR (by rw[gp]),rfl,tV⟩ trivial
 rintro s hs0
 obtain⟨h1,h2,h3,⟨e,h4,h5⟩,h6⟩:=id hs0;have hpl:=zg1 d1 (show s.i<=pen.d.length by omega);have he2:=d2 e (Xf h4);refine⟨λc=>?_,λc=>?_⟩;rotate_left
 ·have c:¬(s.a:Int)<long:=c;have ea:s.a=long.toNat:=oM;have eF:qt pen long=(qy (onD pen) s.a).1++((qy (onD pen) s.a).2.map λf=>(f,s.a)).toList:=by rw[eR,←ea];rfl
  refine⟨λf:0<=frI (qy (onD pen) s.a).2=>?_,λf:¬0<=frI (qy (onD pen) s.a).2=>?_⟩
  ·obtain⟨q,hq,hq2⟩:=znN (show¬frI (qy (onD pen) s.a).2<0 by omega);rw[hq]at eF;refine⟨rfl,(q,s.a),by rw[eF];exact QR ..,rfl,.cons (zh hq2) (.cons (zh (show long=((s.a:Nat):Int) by omega)) .nil),(λ_ _ h=>by cases h),?_⟩;exact⟨.inr (by rw[eF,Xp];rfl),.inl rfl⟩
  rw[znM (show frI (qy (onD pen) s.a).2<0 by omega)]at eF;exact .inr (by rw[eF];exact(Xj List.length (XM _)).symm)
 have c:(s.a:Int)<long:=c;have nok:=zBF hd hs0 c;have nmu:=zBG hd hs0 c ⟨y,hj,hy⟩;have nrun:=zy3 hd hs0 c;have na:((qW pen long s).a:Int)=s.a+min s.l (long-s.a):=by unfold qW;dsimp only;omega
 have ni:(((qW pen long s).i:Nat):Int)=((s.i:Int)+1)%pen.d.length:=by unfold qW;dsimp only;exact QZ ..
 have m3:=K2 ((s.i:Int)+1) (show(pen.d.length:Int)≠0 by omega);have m4:=KY ((s.i:Int)+1) (show 0<(pen.d.length:Int) by omega)
 have e2:(((s.i:Int)+1)%pen.d.length).toNat=(s.i+1)%pen.d.length:=by
  rw[show(s.i:Int)+1=((s.i+1:Nat):Int) by omega];omega
 have tailX:∀x,pen.d[(((s.i:Int)+1)%pen.d.length).toNat]?=some x->(0<=x/\x<=1048576)/\(qW pen long s).l=256*x:=λx hx=>by
  refine⟨⟨d1 x (Xf hx),d2 x (Xf hx)⟩,?_⟩;rw[e2]at hx;unfold qW;dsimp only;rw[Xn,hx];rfl
 have hmin:zcE s.l [long-(s.a:Int)]=min s.l (long-s.a):=rfl;refine wa<|Br.mk (λz=>?_) (λz=>?_)
 ·have z:min s.l (long-s.a)=0:=z;have ea:(qW pen long s).a=s.a:=oM;(iterate 2 refine wa ?_);intro hl2;refine Dv.pos ⟨oM,oM⟩<|Ob.mk ⟨m3,m4⟩ λx hx=>?_;obtain⟨hx1,hx2⟩:=tailX x hx;exact wa<|⟨qW pen long s,nok,qN [] ⟨rfl,rfl,rfl,Xj (λq=>some (i64 (frI (qy (onD pen) q).2))) ea.symm,iR ni.symm,iR hx2.symm,iR na.symm,tV⟩ trivial,Xj (λq=>(qy (onD pen) q).1.length) ea.symm,rfl,nmu⟩
 have z:¬min s.l (long-s.a)=0:=z;obtain⟨rOn,rOff⟩:=nrun z;have rF:=zyh (on:=onD pen) (show(qW pen long s).a<=long.toNat by have:=nok.1;omega);rw[←eR]at rF;refine Dv.pos ⟨oM,dC⟩<|⟨λev=>?_,λev=>?_⟩
 ·have ev:s.i%2=0:=by have ev:(s.i:Int)%2=0:=ev;omega
  have rOn:=rOn ev;have cnt:(qy (onD pen) s.a).1.length=(qy (onD pen) (qW pen long s).a).1.length:=by rw[rOn]
  refine⟨λf:frI (qy (onD pen) s.a).2<0=>?_,λf:¬frI (qy (onD pen) s.a).2<0=>?_⟩
  ·have hfr:(s.a:Int)=frI (qy (onD pen) (qW pen long s).a).2:=by rw[rOn,znM f];rfl
   (iterate 2 refine wa ?_);intro hl2;refine Dv.pos ⟨oM,oM⟩<|Ob.mk ⟨m3,m4⟩ λx hx=>?_;obtain⟨hx1,hx2⟩:=tailX x hx;exact wa<|⟨qW pen long s,nok,qN [] ⟨rfl,rfl,rfl,iR hfr,iR ni.symm,iR hx2.symm,iR na.symm,tV⟩ trivial,cnt,rfl,nmu⟩
  obtain⟨q,hq,hq2⟩:=znN f;have hfr:frI (qy (onD pen) s.a).2=frI (qy (onD pen) (qW pen long s).a).2:=by rw[rOn,hq];rfl
  refine Dv.pos ⟨oM,dC⟩<|⟨λod=>absurd (show(s.i:Int)%2=1 from od) oM,λ_=>?_⟩;(iterate 2 refine wa ?_);intro hl2;refine Dv.pos ⟨oM,oM⟩<|Ob.mk ⟨m3,m4⟩ λx hx=>?_;obtain⟨hx1,hx2⟩:=tailX x hx;exact wa<|⟨qW pen long s,nok,qN [] ⟨rfl,rfl,rfl,iR hfr,iR ni.symm,iR hx2.symm,iR na.symm,tV⟩ trivial,cnt,rfl,nmu⟩
 have ev:¬s.i%2=0:=by have ev:¬(s.i:Int)%2=0:=ev;omega
 have rOff:=rOff ev;refine Dv.pos ⟨oM,dC⟩<|⟨λ_=>?_,λod=>absurd (show(s.i:Int)%2=1 by omega) od⟩;refine⟨λf:0<=frI (qy (onD pen) s.a).2=>?_,λf:¬0<=frI (qy (onD pen) s.a).2=>?_⟩
 ·obtain⟨q,hq,hq2⟩:=znN (show¬frI (qy (onD pen) s.a).2<0 by omega);have eA:(qy (onD pen) (qW pen long s).a).1=(qy (onD pen) s.a).1++[(q,s.a)]:=by rw[rOff];unfold zfV;rw[hq];rfl
  obtain⟨r,hr⟩:=rF;rw[eA]at hr;refine⟨rfl,(q,s.a),?_,rfl,.cons (zh hq2) (.C .nil),(λ_ _ h=>by cases h),?_⟩
  ·show(qt pen long)[(qy (onD pen) s.a).1.length]?=some (q,s.a);rw[hr,XS,XB (Xi _),Q3];rfl
  refine Br.mk ?_ (.inl rfl);have hfr:(-1:Int)=frI (qy (onD pen) (qW pen long s).a).2:=by rw[rOff];rfl
  have cnt:(qy (onD pen) s.a).1.length+1=(qy (onD pen) (qW pen long s).a).1.length:=by rw[eA,Xp];rfl
  (iterate 2 refine wa ?_);intro hl2;refine Dv.pos ⟨oM,oM⟩<|Ob.mk ⟨m3,m4⟩ λx hx=>?_;obtain⟨hx1,hx2⟩:=tailX x hx;exact wa<|⟨qW pen long s,nok,qN [] ⟨rfl,rfl,rfl,iR hfr,iR ni.symm,iR hx2.symm,iR na.symm,tV⟩ trivial,cnt,rfl,nmu⟩
 have hq:=znM (show frI (qy (onD pen) s.a).2<0 by omega);have hfr:frI (qy (onD pen) s.a).2=frI (qy (onD pen) (qW pen long s).a).2:=by rw[rOff,hq]
 have cnt:(qy (onD pen) s.a).1.length=(qy (onD pen) (qW pen long s).a).1.length:=by rw[rOff];unfold zfV;rw[hq];exact(Xj List.length (XM _)).symm
 (iterate 2 refine wa ?_);intro hl2;refine Dv.pos ⟨oM,oM⟩<|Ob.mk ⟨m3,m4⟩ λx hx=>?_;obtain⟨hx1,hx2⟩:=tailX x hx;exact wa<|⟨qW pen long s,nok,qN [] ⟨rfl,rfl,rfl,iR hfr,iR ni.symm,iR hx2.symm,iR na.symm,tV⟩ trivial,cnt,rfl,nmu⟩
def p_on(pen:Pen)(long:Int):CX 267 [ws pen,i64 long] (.dfn 332 [.dptr (yK pen),.dptr [i64 long]]):=by
 exact yp 2 tok mix func267 rfl rfl rfl<|.refl
variable{c:LR}{x:Int}{i:Nat}
def zy4(h:¬x<atS c i):zkY c x i=i:=by
 cases i with
 |zero=>rfl
 |succ i=>unfold zkY;rw[Xb h]
def zEQ(h:x<atS c (i+1)):zkY c x (i+1)=zkY c x i:=by
 show(if x<atS c (i+1) then zkY c x i else i+1)=_;rw[Xe h]
def zy5{q:Pl}(h2:2<=(zQ q).length)(hi:i<=(zQ q).length-2):nth q.pts ((i+1)%q.pts.length)=nth (zQ q) (i+1):=by
 by_cases h:q.cl=true/\2<=q.pts.length
 ·have hl:=zcc h.1 h.2
  by_cases e:i+1=q.pts.length
  ·rw[e,JU,zpV h.1 h.2]
  rw[Xw oM,zaI oM]
 have hl:=za3 h;rw[Xw oM,zaI oM]
def meQ(q:Pl):Me:=⟨q.pts,tsL (zQ q) ((zQ q).length-1),atS (zQ q) ((zQ q).length-1)⟩
def zBI{p:Pl}(h:∀q∈p.pts,zm q):ztO p=meQ (zL p):=Xe h
def ztP(q:Pl)(x:Int)(hq:q.pts.length<=4096)(h2:2<=(zQ q).length)(hx:0<=x/\x<=70368744177664):CX 334 [.agg (meE (meQ q)),i64 x] (wk (zh1 (zQ q) x)):=by
 refine zd func334 ?_;have ll:=yr q;have tl:(meQ q).ts.length=(zQ q).length-1:=zij ..;intro hl1;refine wa<|⟨Nat,λi=>⟨[(1,i64 x),(2,.loc 0 0),(4,.loc 1 0),(5,i64 i)],[(0,.box 276 (meE (meQ q))),(1,.box 28 [i64 0,i64 0])],2,68,0⟩,λi=>i<=(zQ q).length-2/\zkY (zQ q) x ((zQ q).length-2)=zkY (zQ q) x i,λi=>i,(zQ q).length-2,?_,?_,?_⟩
 ·exact⟨Xi _,rfl⟩
 ·exact ku [0,1] ⟨rfl,rfl,rfl,iR (by rw[tl];omega),tV⟩ ⟨rfl,rfl,tV⟩
 rintro i ⟨hi,hidx⟩
 have ar:=zbB (zQ q) i;have ar2:=zbB (zQ q) (i+1);have ar3:=zbB (zQ q) ((zQ q).length-1);refine⟨λg=>Ob.mk (by have g:(0:Int)<(i:Int):=g;omega) λy hy=>Br.mk (λc=>?_) (λc=>?_),λg=>?_⟩
 ·have g:(0:Int)<(i:Int):=g;have hy:=zg0 (show(tsL (zQ q) ((zQ q).length-1))[i]?=some y from hy);have c:x<y:=c;obtain⟨k,rfl⟩:∃k,i=k+1:=⟨i-1,oM⟩;exact wa<|⟨k,⟨oM,by rw[hidx,zEQ (by rw[←hy];exact c)]⟩,ku [0,1] ⟨rfl,rfl,rfl,iR oM,tV⟩ ⟨rfl,rfl,tV⟩,X2 k⟩
 all_goals
  have hix:zkY (zQ q) x ((zQ q).length-2)=i:=by
   first
   |exact hidx.trans (zy4 (by rw[←zg0 (show(tsL (zQ q) ((zQ q).length-1))[i]?=some y from hy)];exact c))
   |exact hidx.trans (by rw[show i=0 by have g:¬(0:Int)<(i:Int):=g;omega];rfl)
  clear g;refine wa λhl2=>?_;refine⟨λd=>Ar.fit oM (Ob.mk ⟨oM,d⟩ λz hz=>?_),λd=>?_⟩
  all_goals
   have hn:1<=q.pts.length:=oM;have m3:=K2 ((i:Int)+1) (show(q.pts.length:Int)≠0 by omega);have m4:=KY ((i:Int)+1) (show 0<(q.pts.length:Int) by omega)
   have e2:(((i:Int)+1)%q.pts.length).toNat=(i+1)%q.pts.length:=by
    rw[show(i:Int)+1=((i+1:Nat):Int) by omega];omega
   refine wc<|Ob.mk (show 0<=(i:Int)/\(i:Int)<q.pts.length by omega) λa ha=>?_;have ha:=ul (show q.pts[i]?=some a from ha);rw[←zaI (q:=q) (i:=i) oM]at ha;refine wa λhl3=>Dv.pos ⟨oM,(show 0<(q.pts.length:Int) by omega)⟩<|Ob.mk ⟨m3,m4⟩ λb hb=>?_;have hb:=ul (show q.pts[(((i:Int)+1)%q.pts.length).toNat]?=some b from hb);rw[e2,zy5 h2 hi]at hb;refine Ob.mk (show 0<=(i:Int)/\(i:Int)<((meQ q).ts.length:Int) by omega) λu hu=>?_
   have hu:=zg0 (show(tsL (zQ q) ((zQ q).length-1))[i]?=some u from hu);refine wa<|Ob.mk (show 0<=(i:Int)/\(i:Int)<((meQ q).ts.length:Int) by omega) λu' hu'=>?_;have hu':=zg0 (show(tsL (zQ q) ((zQ q).length-1))[i]?=some u' from hu')
   have key:∀T,T=atS (zQ q) (i+1)->zlD a b (x-u) (T-u')=zh1 (zQ q) x:=λT h=>by
    unfold zh1;dsimp only;rw[hix,h,hu,hu',ha,hb]
   first
   |have hT:=zg0 (show(tsL (zQ q) ((zQ q).length-1))[i+1]?=some z from hz)
    exact wa<|wg (zxZ a b (x-u) (z-u'))<|zat (Xj (λp=>SV.agg (ptE p)) (key _ hT))
   |have d:¬(i:Int)+1<((meQ q).ts.length:Int):=d
    have hT:atS (zQ q) ((zQ q).length-1)=atS (zQ q) (i+1):=by rw[show(zQ q).length-1=i+1 by omega]
    exact Ar.fit (show-9223372036854775808<=atS (zQ q) ((zQ q).length-1)-u'/\atS (zQ q) ((zQ q).length-1)-u'<=9223372036854775807 by omega)<|wg (zxZ a b (x-u) (atS (zQ q) ((zQ q).length-1)-u'))<|zat (Xj (λp=>SV.agg (ptE p)) (key _ hT))
def zy6(q:LR)(x:Pt)(hq:0<q.length/\q.length<=100000):CG0 335 [wk x,.loc 0 0] [(0,.box 155 [.own 1]),(1,.arr 28 ptE 2 q)] (.tup []) [(0,.box 155 [.own 2]),(2,.arr 28 ptE 2 (ye q x))]:=by
 refine u6 tok mix func335 rfl rfl rfl<|wd λhl=>wa<|wb<|wb λz hz=>?_
 have hz:q[q.length-1]?=some z:=by
  have hz:q[((q.length:Int)-1).toNat]?=some z:=hz
  rwa [show((q.length:Int)-1).toNat=q.length-1 by omega]at hz
 refine wh<|⟨λk=>?_,λk=>?_⟩
 ·have k:¬z=x:=λh=>k (qU.2 h)
  refine⟨Pt,ptE,[x],rfl,wb0 ?_⟩;refine⟨[x],rfl,wb12 ?_⟩;refine⟨⟨[],[(0,.box 155 [.own 2]),(2,.arr 28 ptE 2 (ye q x))],3,15,2⟩,zt [0,1,4] ⟨rfl,aR (ztF hz k).symm,tV⟩,rfl,.refl⟩
 have k:z=x:=qU.1 (Xc.1 k);refine⟨⟨[],[(0,.box 155 [.own 2]),(2,.arr 28 ptE 2 (ye q x))],3,15,2⟩,zt [0,1,1] ⟨rfl,aR (zyF hz k).symm,tV⟩,rfl,.refl⟩
def zmb(q more:LR)(x:Pt):qj q (more++[x])=ye (qj q more) x:=by unfold qj;rw[Qg];rfl
def zmc(c:LR)(f t:Int)(n:Nat):zpv c f t (n+1)=zpv c f t n++if f<atS c n/\atS c n<t then[nth c n] else[]:=by
 unfold zpv;rw[KI,Ke,XG];congr 1
 by_cases h:f<atS c n/\atS c n<t
 ·rw[Xe h,List.filter_cons_of_pos (by simpa using h)];rfl
 rw[Xb h,List.filter_cons_of_neg (by simpa using h)];rfl
def zbh(c:LR)(f t:Int)(n:Nat):LR:=qj [] ([zh1 c f]++zpv c f t n)
variable{f:Int}
def zpX{t:Int}{n:Nat}(h:f<atS c n/\atS c n<t):zbh c f t (n+1)=ye (zbh c f t n) (nth c n):=by
 unfold zbh;rw[zmc,Xe h,←XS,zmb]
def ztQ{t:Int}{n:Nat}(h:¬(f<atS c n/\atS c n<t)):zbh c f t (n+1)=zbh c f t n:=by
 unfold zbh;rw[zmc,Xb h,XM]
def zpY(c:LR)(f t:Int):zed c f t=ye (zbh c f t (c.length-1)) (zh1 c t):=by
 unfold zed zbh;rw[zmb]
def zpZ(c:LR)(f t:Int)(n:Nat):0<(zbh c f t n).length/\(zbh c f t n).length<=n+1:=by
 induction n with
 |zero=>exact⟨X2 0,Xi 1⟩
 |succ n ih=>
  by_cases h:f<atS c n/\atS c n<t
  ·rw[zpX h];have h1:=znH (zbh c f t n) (nth c n);refine⟨?_,oM⟩;unfold ye
   split
   ·exact ih.1
   simp
  rw[ztQ h];omega
def zBJ(c:LR)(f t:Int):0<(zed c f t).length/\(zed c f t).length<=c.length+2:=by
 rw[zpY];have h:=zpZ c f t (c.length-1);have h1:=znH (zbh c f t (c.length-1)) (zh1 c t);refine⟨?_,oM⟩;unfold ye
 split
 ·exact h.1
 simp
def zDn(q:Pl)(f t:Int)(hq:q.pts.length<=4096)(h2:2<=(zQ q).length)(hf:0<=f/\f<=70368744177664)(ht:0<=t/\t<=70368744177664):CX 268 [.agg (meE (meQ q)),i64 f,i64 t] (.sl ptE (zed (zQ q) f t)):=by
 refine zd func268 ?_;have ll:=yr q;have tl:(meQ q).ts.length=(zQ q).length-1:=zij ..;refine wg (ztP q f hq h2 hf)<|⟨Pt,ptE,[zh1 (zQ q) f],rfl,wb0 ?_⟩;intro hl1;refine⟨Nat,λi=>⟨[(1,i64 f),(2,i64 t),(3,.loc 0 0),(7,.loc 1 0),(8,.fn 335 [.loc 1 0]),(17,.sl zN (meQ q).ts),(18,i64 ((meQ q).ts.length:Int)),(19,i64 i)],[(0,.box 276 (meE (meQ q))),(1,.box 155 [.own 2]),(2,.arr 28 ptE 2 (zbh (zQ q) f t i))],3,46,0⟩,λi=>i<=(zQ q).length-1,λi=>(zQ q).length-i,0,?_,?_,?_⟩
 ·exact Xg _
 ·exact zi [0,2,1]
 rintro i hi
 have cl:=zpZ (zQ q) f t i;refine⟨λg:(i:Int)<((meQ q).ts.length:Int)=>?_,λg:¬(i:Int)<((meQ q).ts.length:Int)=>?_⟩
 ·have stay:¬(f<atS (zQ q) i/\atS (zQ q) i<t)->zbh (zQ q) f t i=zbh (zQ q) f t (i+1):=λh=>(ztQ h).symm
  refine wb λy hy=>?_;have hy:=zg0 (show(tsL (zQ q) ((zQ q).length-1))[i]?=some y from hy);refine⟨λk1=>Br.mk (λk2=>?_) (λk2=>?_),λk1=>?_⟩;rotate_left
  ·have k2:¬y<t:=k2;exact wa<|⟨i+1,oM,zt [0,1,2] ⟨rfl,rfl,aR (stay λh=>k2 (by rw[hy];exact h.2)),tV⟩,oN⟩
  ·have k1:¬f<y:=k1;exact wa<|⟨i+1,oM,zt [0,1,2] ⟨rfl,rfl,aR (stay λh=>k1 (by rw[hy];exact h.1)),tV⟩,oN⟩
  have k1:f<y:=k1;have k2:y<t:=k2;rw[hy]at k1 k2;refine Ob.mk (show 0<=(i:Int)/\(i:Int)<(q.pts.length:Int) by omega) λx hx=>?_;have hx:=ul (show q.pts[i]?=some x from hx);rw[←zaI (q:=q) (i:=i) oM]at hx
  refine zb.give [1,2] 1 [wk x,.loc 0 0] [(0,.box 155 [.own 1]),(1,.arr 28 ptE 2 (zbh (zQ q) f t i))] [(0,.box 155 [.own 2]),(2,.arr 28 ptE 2 (ye (zbh (zQ q) f t i) x))] (.tup []) (zy6 (zbh (zQ q) f t i) x ⟨cl.1,oM⟩)
   LEs.refl rfl rfl rfl ⟨⟨_,rfl,rfl,rfl⟩,⟨_,rfl,rfl,tV⟩,tV⟩ rfl ⟨⟨rfl,rfl⟩,⟨rfl,tV⟩,tV⟩ ?_
  exact wa<|⟨i+1,oM,zt [0,1,3] ⟨rfl,rfl,aR (by rw[zpX ⟨k1,k2⟩,hx]),tV⟩,oN⟩
 have ei:i=(zQ q).length-1:=oM;refine wg (ztP q t hq h2 ht) ?_
 refine zb.give [1,2] 1 [wk (zh1 (zQ q) t),.loc 0 0] [(0,.box 155 [.own 1]),(1,.arr 28 ptE 2 (zbh (zQ q) f t i))] [(0,.box 155 [.own 2]),(2,.arr 28 ptE 2 (ye (zbh (zQ q) f t i) (zh1 (zQ q) t)))] (.tup []) (zy6 (zbh (zQ q) f t i) (zh1 (zQ q) t) ⟨cl.1,oM⟩)
  LEs.refl rfl rfl rfl ⟨⟨_,rfl,rfl,rfl⟩,⟨_,rfl,rfl,tV⟩,tV⟩ rfl ⟨⟨rfl,rfl⟩,⟨rfl,tV⟩,tV⟩ ?_
 refine kM ?_;rw[zpY,ei]
def zvU(t:AF){s:Sg}(hf:zb3 s):vQ t s=zbw (λp=>(kU t p).1) s:=by
 unfold vQ;obtain⟨f1,f2,f3⟩:=hf;have hr:=zc5 s.v;have k:nm s.v<=0∨nm s.v=1∨nm s.v=2∨nm s.v=3:=oM;unfold z9 zbw zhC part
 rcases k with k|k|k|k
 ·rw[show(nm s.v).toNat=0 by omega,f1.2 oM,f2.2 oM,f3.2 oM];rfl
 ·rw[show(nm s.v).toNat=1 by omega,f2.2 oM,f3.2 oM];rfl
 ·rw[show(nm s.v).toNat=2 by omega,f3.2 oM];rfl
 rw[show(nm s.v).toNat=3 by omega];rfl
instance (t:AF) (n:Nat):Decidable (t.le n):=wi
def yh(p:Nat×SV):Nat×SV:=
 match p.2 with
 |.loc k o=>(p.1,.loc k o)
 |_=>(p.1,.junk)
def zgc:∀(L:LP) (t:Nat) (s:SV),z6 (L.map yh) t=some s->s=.junk∨∃k o,s=.loc k o/\z6 L t=some (.loc k o)
 |[],t,s,h=>by simp[z6]at h
 |(d,s0)::L,t,s,h=>by
  have e:(((d,s0)::L).map yh)=(d,(yh (d,s0)).2)::L.map yh:=by
   simp only[K8];congr 1;unfold yh;dsimp only;split <;> rfl
  rw[e,zK]at h
  split at h
  ·rename_i hd
   cases h
   unfold yh;dsimp only
   split
   ·rename_i k o;exact .inr ⟨k,o,rfl,by rw[zK,Xe hd]⟩
   exact .inl rfl
  rename_i hd
  rcases zgc L t s h with h|⟨k,o,h1,h2⟩
  ·exact .inl h
  exact .inr ⟨k,o,h1,by rw[zK,Xb hd,h2]⟩
def zy8:SV->Bool
 |.loc _ _=>true
 |_=>false
def zDo(K:St->Prop):LF
 |.exit _,_=>False
 |.normal,σ=>K σ
 |.ret,σ=>K σ
def ztS(n:Nat)(P:Program)(Γ:LS)(fn cfn:Func)(cc:Code)(caps:LQ)(r:SV)(σ3:St):Prop:=
 Nat.beq σ3.M.length σ3.nk=true/\qS P Γ cc ⟨qI 0 caps,σ3.M,σ3.M.length,cfn.ntmps,σ3.M.length⟩ (zDo λσ4=>zal σ4 Γ cfn.results.toList λ_=>
  zal ⟨σ3.L.map yh,σ4.M,σ4.nk,σ3.nt,0⟩ Γ fn.results.toList λs=>LE (zh2 (zH σ4.M) n s) r)
def zBP(n:Nat)(P:Program)(Γ:LS)(fn cfn:Func)(cc:Code)(caps:LQ)(r:SV)(σ3:St):Prop:=∃σ',Sub σ3 σ'/\ztS n P Γ fn cfn cc caps r σ'
def zES(n:Nat)(P:Program)(Γ:LS)(fn cfn:Func)(cf:FuncId)(t:Tmp)(rest cc:Code)(r:SV)(σ2:St):Prop:=
 ∃caps,z6 σ2.L t=some (.fn cf caps)/\Nat.ble caps.length cfn.ntmps=true/\caps.all zy8=true/\qS P Γ rest ⟨σ2.L,σ2.M,σ2.nk,σ2.nt,σ2.nk⟩ (zDo (zBP n P Γ fn cfn cc caps r))
def vcDf(n:Nat)(P:Program)(Γ:LS)(fn cfn:Func)(cf:FuncId)(cc:Code)(r:SV):Nat->Code->St->Prop
 |0,c,σ=>∃id o1 o2 rest t,c=.seq (.region id #[o1,o2] false) rest/\o2.op=.defer ⟨.value (.tmp t),#[],#[]⟩/\o2.guard=none/\o2.dst=none/\
   uu P Γ false [o1,o2] [o1] 0 σ (zES n P Γ fn cfn cf t rest cc r)
 |k+1,c,σ=>∃x y,c=.seq x y/\qS P Γ x σ λe σ=>match e with
   |.normal=>vcDf n P Γ fn cfn cf cc r k y σ
   |.ret=>zal σ Γ fn.results.toList λs=>LE (zh2 (zH σ.M) n s) r
   |.exit _=>False
def zy9{E:Env}{M:LT}{ρ:ze}{w:World}{n:Nat}{s r:SV}{v:Value}(hm:zB E.Keep M ρ w)(hle:LE (zh2 (zH M) n s) r)(hg:G (λb=>E.Keep b∨Own M ρ b) (Own M ρ) ρ w s v):G (λb=>E.Keep b∨Own [] ρ b) (Own [] ρ) ρ w r v:=by
 have hd:∀{s:SV} {v:Value},G (λb=>E.Keep b∨Own M ρ b) (Own M ρ) ρ w s v->D (λb=>E.Keep b∨Own [] ρ b) w (frz (zH M) n s) v:=λh=>
  (zlR (λk m h=>zn h) hm n h).less λb hb=>hb.resolve_right zF
 refine hle _ _ _ _ _ ?_;unfold zh2
 split
 ·rename_i cs;obtain⟨vs,rfl,hvs⟩:=hg.tup_inv;refine .tup _ vs (by rw[Xz];exact hvs.1) λj s v hs hv=>?_
  rw[XA]at hs
  cases hc:cs[j]? with
  |none=>simp[hc]at hs
  |some c=>
   simp[hc]at hs;subst hs;exact .d _ _ (hd (hvs.2 j c v hc hv))
 exact .d _ _ (hd hg)
def zp3{n:Nat}{P:Program}{Γ:LS}(hT:TOK P Γ)(hm:P.follows .mixedOrders=true){cf:FuncId}{fn cfn:Func}{cc:Code}{r:SV}(hcf:P.funcs[cf]?=some cfn)(hcb:cfn.body=some cc)(hcn:(cfn.name== "runtime.NumGoroutine")=false) {Keep:LG} {ρ:ze} {w:World} (hk:∀b,Keep b->b<w.heap.size) (hρ:∀k,0<=k->ρ k=none) {RF:Ending->World->Prop}
  (hRF:∀e w',RF e w'↔∃v ρ',e=.returned v/\Stp (Own [] ρ) (Own [] ρ') ρ ρ' w w'/\zB Keep [] ρ' w'/\G (λb=>Keep b∨Own [] ρ' b) (Own [] ρ') ρ' w' r v):
  ∀(k:Nat) (c:Code) {σ1:St} {ρ1:ze} {a1:Act} {w1:World},Rel ⟨w,ρ,Keep,Own [] ρ,[]⟩ σ1 ρ1 a1 w1->vcDf n P Γ fn cfn cf cc r k c σ1->c.wp P (bodyPostD P fn RF) a1 w1
 |k+1,c,σ1,ρ1,a1,w1,hr1,h=>by
  obtain⟨x,y,rfl,h⟩:=h;refine wp_seq (Code.wp_mono (λe a2 w2 hq=>?_) (ky hT hm x hr1 h))
  cases e with
  |normal=>obtain⟨σ,ρ',h1,h2⟩:=hq;exact zp3 hT hm hcf hcb hcn hk hρ hRF k y h2 h1
  |ret=>
   obtain⟨σ,ρ',h1,hr⟩:=hq;obtain⟨s,hles,h8⟩:=jb hT h1;obtain⟨v,hv,hgv⟩:=h8 hr;have hst:=hr.stp;show Leaves P fn a2.tmps RF a2.defers .returning w2;have hd0:a2.defers=[]:=hr.defers;rw[hd0];refine⟨v,hv,(hRF _ _).2 ⟨v,ρ',rfl,?_,(kS hr.mem.kp λ_ _ h=>hr.mem.glc h),zy9 hr.mem hles hgv⟩⟩;exact⟨hst.os,hst.tape,hst.output,hst.size,λb hb hn=>hst.block b hb λh=>hn h,λb hb=>absurd hb zF,hst.rho⟩
  |exit id=>obtain⟨σ,ρ',h1,_⟩:=hq;exact h1.elim
  |_=>exact hq.elim
 |0,c,σ1,ρ1,a1,w1,hr1,h=>by
  obtain⟨id,o1,o2,rest,t,rfl,ho,hg,hd,h1⟩:=h;refine wp_seq (wp_region_list ?_);obtain⟨σ',run,svs,s,md,h2,hgd,href,hdst,hrun⟩:=zfy hT hr1 h1
  have hr1':Rel ⟨w,ρ,Keep,Own [] ρ,[]⟩ σ' ρ1 a1 w1:=by
   rcases href with rfl|⟨t,s0,s1,q2,q3,rfl⟩
   ·exact hr1
   exact hr1.refine q2 q3
  have hnt:σ'.nt=σ1.nt:=by rcases href with rfl|⟨t,s0,s1,q2,q3,rfl⟩ <;> rfl
  have go2:∀{ρ2:ze} {a2:Act} {w2:World} {Q:LC},(∀a w,rest.wp P (bodyPostD P fn RF) a w->Q .normal a w)->Rel ⟨w,ρ,Keep,Own [] ρ,[]⟩ (σ'.app o1.dst s md) ρ2 a2 w2->
    wpList P #[o1,o2] Q [o2] a2 w2:=by
   intro ρ2 a2 w2 Q hQ hr2;obtain⟨caps,hlt,hcle,hall,h3⟩:=h2;have hgt:=(hr2.regs t _ hlt).2;obtain⟨cvs,hcv,hcg⟩:=hgt.fn_inv;have hw:Region.wanted o2 (yielded (#[o1,o2]:Array Oper) a2.tmps)=true:=hr2.wanted (all:=[o1,o2]) (by simp[qB,hg]);unfold wpList;rw[hw];simp only[if_true];refine .inl ?_;unfold Oper.wp
   have hex:(execOp a2.eval o2).run P w2=.ok (.defer ⟨.fn (.func cf) cvs.toArray,#[]⟩) w2:=by
    have hev:a2.eval (.tmp t)=.func (.func cf) #[] cvs.toArray:=hcv;simp only[execOp,ho,resolve,hev,Deferred.ofValue,Sem.run_bind,Sem.run_pure,Result.andThen_ok];simp
   rw[hex,Oper.upon_defer,hd];refine hQ _ _ ?_;show rest.wp P _ { a2 with defers:=_::a2.defers } w2;have hd0:a2.defers=[]:=hr2.defers;rw[hd0]
   -- the rest,with the call put off
   let E3:Env:=⟨w2,ρ2,Keep,Own (σ'.app o1.dst s md).M ρ2,[⟨.fn (.func cf) cvs.toArray,#[]⟩]⟩
   have hr3:Rel E3 ⟨(σ'.app o1.dst s md).L,(σ'.app o1.dst s md).M,(σ'.app o1.dst s md).nk,(σ'.app o1.dst s md).nt,(σ'.app o1.dst s md).nk⟩ ρ2 { a2 with defers:=[⟨.fn (.func cf) cvs.toArray,#[]⟩] } w2:=
    ⟨hr2.size,rfl,hr2.regs,hr2.mem,hr2.fresh,.refl,hr2.mem.kp,λk v hv=>by
     rcases X7 k (σ'.app o1.dst s md).nk with h|h
     ·exact h
     have hv:ρ2 k=some v:=hv
     rw[hr2.fresh k h]at hv;cases hv⟩
   refine Code.wp_mono (λe a3 w3 hq=>?_) (ky hT hm rest hr3 h3)
   have fin:∀σ3 ρ3,ztS n P Γ fn cfn cc caps r σ3->Rel E3 σ3 ρ3 a3 w3->Leaves P fn a3.tmps RF a3.defers .returning w3:=by
    intro σ3 ρ3 ⟨hbeq,h4⟩ hr3;have hlen:=Xh hbeq;have hd3:a3.defers=[⟨.fn (.func cf) cvs.toArray,#[]⟩]:=hr3.defers;rw[hd3];have hρ3:∀k,σ3.M.length<=k->ρ3 k=none:=λk hk=>hr3.fresh k oM
    have hcg3:Gs (λb=>Keep b∨Own σ3.M ρ3 b) (Own σ3.M ρ3) ρ3 w3 caps cvs:=by
     refine⟨hcg.1,λj s v hs hv=>?_⟩;have hl:zy8 s=true:=XV.1 hall s (Xf hs)
     cases s <;> try (simp[zy8]at hl)
     rename_i k off;obtain⟨b,hb1,rfl⟩:=(hcg.2 j _ v hs hv).loc_inv;exact .loc _ _ _ (hr3.stp.rho _ _ hb1)
    have hent:=uw (nt:=cfn.ntmps) hr3.mem hρ3 hcg3 (Xx hcle);refine leaves_cons sI (f:=cf) (args:=cvs.toArray) ?_ ?_
    ·simp only[invoke,callFunc,Sem.run_bind,Sem.run_pure,Result.andThen_ok,run_program,hcf,hcn,hcb,Option.isNone_some,KC,if_false];simp
    refine(callsD_of_wp (R:=λe w4=>∃v0,e=.returned v0/\Leaves P fn a3.tmps RF [] .returning w4) hcf hcb ?_).mono ?_
    ·refine Code.wp_mono (λe a4 w4 hq=>?_) (ky hT hm cc hent h4)
     have fin2:∀σ4 ρ4,(zal σ4 Γ cfn.results.toList λ_=>zal ⟨σ3.L.map yh,σ4.M,σ4.nk,σ3.nt,0⟩ Γ fn.results.toList λs=>LE (zh2 (zH σ4.M) n s) r)->
       Rel ⟨w3,ρ3,Keep,Own σ3.M ρ3,[]⟩ σ4 ρ4 a4 w4->a4.defers=[]/\∃v,(results cfn a4.tmps).run P w4=.ok v w4/\∃v0,Ending.returned v=.returned v0/\
        Leaves P fn a3.tmps RF [] .returning w4:=by
      intro σ4 ρ4 h5 hr4;obtain⟨s0,h6,h7⟩:=jb hT h5;obtain⟨v0,hv0,_⟩:=h7 hr4;refine⟨hr4.defers,v0,hv0,v0,rfl,?_⟩;have hst:Stp (Own [] ρ) (Own σ4.M ρ4) ρ ρ4 w w4:=(hr2.stp.trans hr3.stp).trans hr4.stp
      have hfin:Rel ⟨w,ρ,Keep,Own [] ρ,a3.defers⟩ ⟨σ3.L.map yh,σ4.M,σ4.nk,σ3.nt,0⟩ ρ4 a3 w4:=by
       refine⟨hr3.size,rfl,λt s hl=>?_,hr4.mem,hr4.fresh,hst,hk,λk v hv=>?_⟩
       ·rcases zgc σ3.L t s hl with rfl|⟨k,o,rfl,h8⟩
        ·refine⟨?_,.d _ _ (.junk _)⟩
         have:∃s,z6 σ3.L t=some s:=by
          clear h5 h6 h7 h4 hr3 hr4 hent
          revert hl
          generalize σ3.L=L;intro hl
          induction L with
          |nil=>simp[z6]at hl
          |cons p L ih=>
           obtain⟨d,s0⟩:=p
           by_cases hd:d=t
           ·exact⟨s0,by rw[zK,Xe hd]⟩
           rw[zK,Xb hd];refine ih ?_
           have e:(((d,s0)::L).map yh)=(d,(yh (d,s0)).2)::L.map yh:=by
            simp only[K8];congr 1;unfold yh;dsimp only;split <;> rfl
           have hl':z6 (((d,s0)::L).map yh) t=some .junk:=hl;rw[e,zK,Xb hd]at hl';exact hl'
         obtain⟨s,hs⟩:=this;exact(hr3.regs t s hs).1
        obtain⟨h9,h10⟩:=hr3.regs t _ h8;refine⟨h9,?_⟩;obtain⟨b,hb1,hb2⟩:=h10.loc_inv;rw[hb2];exact .loc _ _ _ (hr4.stp.rho _ _ hb1)
       have hv:ρ k=some v:=hv;rw[hρ k (Xg _)]at hv;cases hv
      obtain⟨s,hles,h8⟩:=jb hT h6;obtain⟨v,hv,hgv⟩:=h8 hfin;refine⟨v,hv,(hRF _ _).2 ⟨v,ρ4,rfl,?_,(kS hfin.mem.kp λ_ _ h=>hfin.mem.glc h),?_⟩⟩
      ·exact⟨hst.os,hst.tape,hst.output,hst.size,λb hb hn=>hst.block b hb hn,λb hb=>absurd hb zF,hst.rho⟩
      exact zy9 hfin.mem hles hgv
     cases e with
     |normal=>obtain⟨σ4,ρ4,h5,hr4⟩:=hq;exact fin2 σ4 ρ4 h5 hr4
     |ret=>obtain⟨σ4,ρ4,h5,hr4⟩:=hq;exact fin2 σ4 ρ4 h5 hr4
     |exit id=>obtain⟨σ4,ρ4,h5,_⟩:=hq;exact h5.elim
     |_=>exact hq.elim
    rintro e u' w4 ⟨rfl,v0,rfl,hL⟩
    exact hL
   cases e with
   |normal=>obtain⟨σ3,ρ3,⟨σ',hs,h4⟩,hr3⟩:=hq;obtain⟨ρ',hr'⟩:=hs _ _ _ _ hr3;exact fin σ' ρ' h4 hr'
   |ret=>obtain⟨σ3,ρ3,⟨σ',hs,h4⟩,hr3⟩:=hq;obtain⟨ρ',hr'⟩:=hs _ _ _ _ hr3;exact fin σ' ρ' h4 hr'
   |exit id=>obtain⟨σ3,ρ3,h4,_⟩:=hq;exact h4.elim
   |_=>exact hq.elim
  unfold wpList;rw[hr1'.wanted hgd]
  obtain⟨rfl,hst⟩|⟨rfl,rfl,rfl⟩:=hrun
  ·simp only[if_true];refine .inl ((hst.does hr1').wp λv w' ha=>?_);obtain⟨ρ',hrel⟩:=hr1'.app (λt e=>hnt ▸ hdst t e) ha;exact go2 (λ_ _ h=>h) hrel
  simp only[KC,if_false];obtain⟨ρ',hrel⟩:=hr1'.app (λt e=>hnt ▸ hdst t e) (ub hr1'.mem);exact go2 (λ_ _ h=>h) hrel
def zmf(n k:Nat){P:Program}{Γ:LS}(hT:TOK P Γ)(hm:P.follows .mixedOrders=true){f cf:FuncId}{fn cfn:Func}{c:Code}{args:LQ}{r:SV}{cc:Code}(hf:P.funcs[f]?=some fn)(hb:fn.body=some c)(hn:(fn.name== "runtime.NumGoroutine")=false)
  (hle:Nat.ble args.length fn.ntmps=true) (hcf:P.funcs[cf]?=some cfn) (hcb:cfn.body=some cc) (hcn:(cfn.name== "runtime.NumGoroutine")=false)
  (h:vcDf n P Γ fn cfn cf cc r k c ⟨qI 0 args,[],0,fn.ntmps,0⟩):kK P f args [] r []:=by
 refine⟨⟨fn,hf,hn,by rw[hb];rfl⟩,λKeep ρ w vs hk hmem hρ hgs=>?_⟩;have hRF:∃RF:Ending->World->Prop,∀e w',RF e w'↔∃v ρ',e=.returned v/\Stp (Own [] ρ) (Own [] ρ') ρ ρ' w w'/\zB Keep [] ρ' w'/\G (λb=>Keep b∨Own [] ρ' b) (Own [] ρ') ρ' w' r v:=⟨_,λ_ _=>Qd⟩;obtain⟨RF,hRF⟩:=hRF;refine Calls.mono ?_ λe w' h=>(hRF e w').1 h
 refine calls_of_wp_defers hf hb ?_;have hrel:=uw (nt:=fn.ntmps) hmem hρ hgs (Xx hle);exact zp3 hT hm hcf hcb hcn hk hρ hRF k c hrel h
structure Pix where
 r:Int
 g:Int
 b:Int
 a:Int
 deriving DecidableEq
def zbD(p:Pix):LQ:=[u8 p.r,u8 p.g,u8 p.b,u8 p.a]
structure Img where
 w:Int
 h:Int
 px:List Pix
 deriving DecidableEq
def zj4(m:Img):LQ:=[i64 m.w,i64 m.h,.sl zbD m.px]
def ze4(p:Pix):Prop:=p.r<=p.a/\p.g<=p.a/\p.b<=p.a
instance (p:Pix):Decidable (ze4 p):=wi
def zex(m:Img):Prop:=(1<=m.w/\m.w<=4096)/\(1<=m.h/\m.h<=4096)/\m.w*m.h<=65536/\(m.px.length:Int)=m.w*m.h/\∀p∈m.px,ze4 p
instance (m:Img):Decidable (zex m):=wi
def zge(x r g b a:Int):CX 415 [u8 x,.ptr [u8 r,u8 g,u8 b,u8 a]] (u8 (min x a)):=by
 exact zd func415<|zh rfl
def zET(p:Pix)(r g b a:Int):CX 414 [.agg (zbD p),.fn 415 [.ptr [u8 r,u8 g,u8 b,u8 a]]] (.agg [u8 (min p.r a),u8 (min p.g a),u8 (min p.b a),u8 (min p.a a)]):=by
 refine zd func414<|wc<|wg (zge _ r g b a)<|wg (zge _ r g b a)<|wg (zge _ r g b a)<|wg (zge _ r g b a) ?_;exact .refl
def zza(p:Pix):CX 361 [.agg (zbD p)] (.agg [u8 (min p.r p.a),u8 (min p.g p.a),u8 (min p.b p.a),u8 (min p.a p.a)]):=by
 exact zd func361<|wg (zET p p.r p.g p.b p.a)<|.refl
def zzb(p:Pix):CX 296 [.agg (zbD p)] (pr (ze4 p)):=by
 refine zd func296<|wc<|wg (zza p)<|zr (p:=min p.r p.a=p.r/\min p.g p.a=p.g/\min p.b p.a=p.b/\min p.a p.a=p.a/\True) ?_;constructor
 ·rintro⟨h1,h2,h3,_⟩
  exact⟨oM,oM,oM⟩
 rintro⟨h1,h2,h3⟩
 exact⟨oM,oM,oM,oM,tV⟩
def zvX(p:Pix):CX 295 [.agg (zbD p)] (pr (¬ze4 p)):=by
 exact zd func295<|wg (zzb p)<|zr Qd
def ze5(xs:List Pix):Int:=match xs.findIdx? (λp=>decide (¬ze4 p)) with
 |some i=>i
 |none=> -1
def zvY{xs:List Pix}{i:Nat}{p:Pix}(h:∀(j:Nat) q,j<i->xs[j]?=some q->ze4 q)(hi:xs[i]?=some p)(hp:¬ze4 p):ze5 xs=i:=by
 have:xs.findIdx? (λp=>decide (¬ze4 p))=some i:=by
  rw[KP];obtain⟨hl,he⟩:=Xd.1 hi;refine⟨hl,by simp[he,hp],λj hj=>?_⟩;have:=h j xs[j] hj (Xa _);simp[this]
 simp only[ze5,this]
variable{xs:List Pix}
def zhQ(h:∀p∈xs,ze4 p):ze5 xs= -1:=by
 have:xs.findIdx? (λp=>decide (¬ze4 p))=none:=by
  rw[KA];intro p hp;simp[h p hp]
 simp only[ze5,this]
def zk0:0<=ze5 xs↔¬∀p∈xs,ze4 p:=by
 constructor
 ·intro h hall;rw[zhQ hall]at h;omega
 intro h;unfold ze5
 split
 ·omega
 rename_i hn;rw[KA]at hn;exact absurd (λp hp=>by simpa using hn p hp) h
def zBU(xs:List Pix)(hl:xs.length<=9223372036854775807):CX 360 [.sl zbD xs,.fn 295 []] (i64 (ze5 xs)):=by
 refine zd func360 λhl0=>?_;refine⟨Int,λi=>⟨[(8,i64 i),(7,i64 xs.length),(0,.sl zbD xs),(1,.fn 295 [])],[],0,19,0⟩,λi=>0<=i/\i<=xs.length/\∀(j:Nat) q,(j:Int)<i->xs[j]?=some q->ze4 q,λi=>((xs.length:Int)-i).toNat,0,?_,?_,?_⟩
 ·exact⟨oM,oM,λj q hj=>by omega⟩
 ·exact zA []
 rintro i ⟨h1,h2,h3⟩
 refine⟨λh4=>?_,λh4=>?_⟩
 ·refine wb λx hx=>wg (zvX x)<|⟨λh5=>?_,λh5=>?_⟩
  ·refine zh ?_;rw[zvY (i:=i.toNat) (λj q hj=>h3 j q oM) hx h5];omega
  refine wa<|⟨i+1,⟨oM,oM,λj q hj hq=>?_⟩,zA [],oN⟩
  by_cases e:j=i.toNat
  ·subst e;rw[hx]at hq;cases hq;exact Xc.1 h5
  exact h3 j q oM hq
 refine zh (zhQ λp hp=>?_).symm;obtain⟨j,hj,he⟩:=Kn hp;exact h3 j p oM (by rw[←he];exact Xa hj)
def zsb(xs:List Pix)(hl:xs.length<=9223372036854775807):CX 294 [.sl zbD xs,.fn 295 []] (pr (¬∀p∈xs,ze4 p)):=by
 exact zd func294<|wg (zBU xs hl)<|zr zk0
def zDp(n:Int):CX 293 [i64 n] (pr (1<=n/\n<=4096)):=by
 refine zd func293<|Br.mk (λh=>?_) (λh=>?_)
 ·exact zr oM
 exact zc oM
variable{A:Int}{B:Int}
def zzc{a b:Int}(h1:0<=a)(h2:a<=A)(h3:0<=b)(h4:b<=B):0<=a*b/\a*b<=A*B:=
 ⟨XI h1 h3,JW h2 h4 h3 oM⟩
def zmg(m:Img)(hl:m.px.length<=9223372036854775807):CX 224 [.agg (zj4 m)] (pr (zex m)):=by
 refine zd func224<|wg (zDp m.w)<|⟨λh1=>?_,λh1=>?_⟩
 ·exact zc (λh=>h1 h.1)
 have h1:=Xc.1 h1;refine wg (zDp m.h)<|⟨λh2=>?_,λh2=>?_⟩
 ·exact zc (λh=>h2 h.2.1)
 have h2:=Xc.1 h2;have hm:=zzc (show 0<=m.w by omega) h1.2 (show 0<=m.h by omega) h2.2;refine wa<|Br.mk (λh3=>?_) (λh3=>?_)
 ·exact zc (λh=>by have:=h.2.2.1;omega)
 intro hl0;refine wa<|Br.mk (λh4=>?_) (λh4=>?_)
 ·exact zc (λh=>h4 h.2.2.2.1)
 exact wg (zsb m.px hl)<|zr<|⟨λh=>⟨h1,h2,oM,Xc.1 h4,Xc.1 h⟩,λh h'=>h' h.2.2.2.2⟩
def zEU(w h:Int):CX 209 [i64 w,i64 h] (pr ((1<=w/\w<=4096)/\(1<=h/\h<=4096)/\w*h<=65536)):=by
 refine zd func209<|Br.mk (λh1=>?_) (λh1=>zc oM);refine⟨λh2=>?_,λh2=>zc oM⟩;refine⟨λh3=>?_,λh3=>zc oM⟩;refine⟨λh4=>?_,λh4=>zc oM⟩;have hm:=zzc (show 0<=w by omega) h2 (show 0<=h by omega) h4;exact wa<|zr ⟨λh=>⟨⟨h1,h2⟩,⟨h3,h4⟩,h⟩,λh=>h.2.2⟩
def zvZ(p:Pix):CX 210 [.agg (zbD p)] (pr (ze4 p)):=by
 refine zd func210<|Br.mk (λh1=>?_) (λh1=>zc (λh=>h1 h.1));refine⟨λh2=>?_,λh2=>zc (λh=>h2 h.2.1)⟩;exact zr ⟨λh=>⟨h1,h2,h⟩,λh=>h.2.2⟩
def zj5(m:Img):CX 145 [.agg (zj4 m)] (pr (zex m)):=by
 refine zd func145<|wg (zEU m.w m.h)<|⟨λh1=>zc (λh=>h1 ⟨h.1,h.2.1,h.2.2.1⟩),λh1=>?_⟩;have h1:=Xc.1 h1;have hm:=zzc (show 0<=m.w by omega) h1.1.2 (show 0<=m.h by omega) h1.2.1.2;intro hl0;refine wa<|Br.mk (λh4=>zc (λh=>h4 h.2.2.2.1)) (λh4=>?_);have h4:=Xc.1 h4
 refine⟨Int,λi=>⟨[(3,i64 i),(1,.loc 0 0)],[(0,.box 58 (zj4 m))],1,35,0⟩,λi=>0<=i/\i<=m.px.length/\∀(j:Nat) q,(j:Int)<i->m.px[j]?=some q->ze4 q,λi=>((m.px.length:Int)-i).toNat,0,?_,?_,?_⟩
 ·exact⟨oM,oM,λj q hj=>by omega⟩
 ·exact zi [0]
 rintro i ⟨g1,g2,g3⟩
 intro hl1;refine⟨λg4=>?_,λg4=>?_⟩
 ·refine wb λx hx=>wg (zvZ x)<|⟨λg5=>?_,λg5=>?_⟩
  ·exact zc λh=>g5 (h.2.2.2.2 x (Xf hx))
  refine wa<|⟨i+1,⟨oM,oM,λj q hj hq=>?_⟩,zi [0],oN⟩
  by_cases e:j=i.toNat
  ·subst e;rw[hx]at hq;cases hq;exact Xc.1 g5
  exact g3 j q oM hq
 refine zI ⟨h1.1,h1.2.1,h1.2.2,h4,λp hp=>?_⟩;obtain⟨j,hj,he⟩:=Kn hp;exact g3 j p oM (by rw[←he];exact Xa hj)
def zj6{p q:Pix}:(p.r=q.r/\p.g=q.g/\p.b=q.b/\p.a=q.a/\True)↔p=q:=by
 cases p;cases q;simp
def zBV{ys:List Pix}{i:Int}(hl:(xs.length:Int)=ys.length)(hi:¬i<xs.length)(h:∀j:Nat,(j:Int)<i->xs[j]?=ys[j]?):xs=ys:=by
 refine Kv λj=>?_
 by_cases hj:(j:Int)<i
 ·exact h j hj
 rw[XF oM,XF oM]
def zBW(xs ys:List Pix):CX 356 [.sl zbD xs,.sl zbD ys] (pr (xs=ys)):=by
 refine zd func356 λhl1 hl2=>?_;refine⟨λh1=>zc λe=>h1 (by rw[e]),λh1=>?_⟩;have h1:=Xc.1 h1;intro hl3;refine⟨Int,λi=>⟨[(13,i64 i),(12,i64 xs.length),(0,.sl zbD xs),(1,.sl zbD ys)],[],0,26,0⟩,λi=>0<=i/\i<=xs.length/\∀j:Nat,(j:Int)<i->xs[j]?=ys[j]?,λi=>((xs.length:Int)-i).toNat,0,?_,?_,?_⟩
 ·exact⟨oM,oM,λj hj=>by omega⟩
 ·exact zA []
 rintro i ⟨h4,h5,h6⟩
 refine⟨λh7=>?_,λh7=>?_⟩
 ·refine wc<|wb λx hx=>wb λy hy=>?_;refine⟨λh8=>?_,λh8=>?_⟩
  ·refine zc λe=>h8 (zj6.2 ?_)
   subst e;rw[hx]at hy;exact Xl hy
  refine wa<|⟨i+1,⟨oM,oM,λj hj=>?_⟩,zA [],oN⟩
  by_cases e:j=i.toNat
  ·subst e;rw[hx,hy,zj6.1 (Xc.1 h8)]
  exact h6 j oM
 exact zI (zBV h1 h7 h6)
def zmh(m n:Img):CX 291 [.agg (zj4 m),.agg (zj4 n)] (pr (m=n)):=by
 refine zd func291<|Br.mk (λh1=>?_) (λh1=>zc λe=>h1 (by rw[e]));refine⟨λh2=>?_,λh2=>zc λe=>h2 (by rw[e])⟩;refine wg (zBW m.px n.px)<|zr ⟨λh=>?_,λh=>by rw[h]⟩
 cases m;cases n;simp_all
def zdo:Pix:=⟨0,0,0,0⟩
structure ze6 where
 o:Int
 c:Pix
 deriving DecidableEq
def zaK(s:ze6):LQ:=[i64 s.o,u8 s.c.r,u8 s.c.g,u8 s.c.b,u8 s.c.a]
def ztU{p q:ze6}:(p.o=q.o/\p.c.r=q.c.r/\p.c.g=q.c.g/\p.c.b=q.c.b/\p.c.a=q.c.a/\True)↔p=q:=by
 obtain⟨a,b,c,d,e⟩:=p;obtain⟨a',b',c',d',e'⟩:=q;simp
def zp6:Int->List ze6->Prop
 |_,[]=>True
 |lo,s::l=>(lo<=s.o/\s.o<=65536)/\zp6 s.o l
instance upDec:∀lo l,Decidable (zp6 lo l)
 |_,[]=>isTrue trivial
 |_,s::l=>haveI:=upDec s.o l;inferInstanceAs (Decidable (_/\_))
def zd4(l:List ze6):Prop:=(1<=(l.length:Int)/\(l.length:Int)<=16)/\zp6 0 l
instance (l:List ze6):Decidable (zd4 l):=wi
def zzd(l:List ze6):CX 460 [.sl zaK l] (pr (zd4 l)):=by
 refine zd func460 λhl1=>?_;refine⟨λh=>zc (λk=>by have:=k.1.1;omega),λh2=>?_⟩;intro hl2;refine⟨λh=>zc (λk=>by have:=k.1.2;omega),λh3=>?_⟩;intro hl4;refine⟨Int×Int,λ⟨i,at_⟩=>⟨[(3,i64 at_),(14,.sl zaK l),(15,i64 l.length),(16,i64 i)],[],0,32,0⟩,λ(i,at_)=>0<=i/\i<=l.length/\(zp6 0 l↔zp6 at_ (l.drop i.toNat)),λ(i,_)=>((l.length:Int)-i).toNat,(0,0),?_,?_,?_⟩
 ·exact⟨oM,oM,Qd⟩
 ·exact zA []
 rintro⟨i,at_⟩ ⟨g1,g2,g3⟩
 refine⟨λh5=>?_,λh5=>?_⟩
 ·refine wb λx hx=>?_
  have hd:l.drop i.toNat=x::l.drop (i.toNat+1):=by
   obtain⟨hi,he⟩:=Xd.1 hx;rw[K5 hi,he]
  rw[hd]at g3;refine⟨λh6=>zc (λk=>by have:=(g3.1 k.2).1;omega),λh6=>?_⟩;refine⟨λh7=>zc (λk=>by have:=(g3.1 k.2).1;omega),λh7=>?_⟩;refine wa<|⟨(i+1,x.o),⟨oM,oM,?_⟩,zA [],oN⟩;rw[g3,show(i+1).toNat=i.toNat+1 by omega];exact⟨λk=>k.2,λk=>⟨oM,k⟩⟩
 refine zI ⟨oM,g3.2 ?_⟩;rw[KB oM];trivial
def zmi(l:List ze6):CX 400 [.sl zaK l] (pr (zd4 l)):=by
 refine zd func400<|⟨Int×Int,λ⟨i,_⟩=>⟨[(0,.sl zaK l),(3,i64 i)],[],0,50,0⟩,λ(i,at_)=>0<=i/\i<=l.length/\(i=0->at_=0)/\(0<i->0<=at_/\∃y,l[(i-1).toNat]?=some y/\y.o=at_)/\(zp6 0 l↔zp6 at_ (l.drop i.toNat)),λ(i,_)=>((l.length:Int)-i).toNat,(0,0),?_,?_,?_⟩
 ·exact⟨oM,oM,λ_=>rfl,λh=>by omega,Qd⟩
 ·exact zA []
 rintro⟨i,at_⟩ ⟨g1,g2,g4,g5,g3⟩
 intro hl1;refine⟨λh5=>?_,λh5=>?_⟩
 ·refine wc<|wb λx hx=>?_
  have hd:l.drop i.toNat=x::l.drop (i.toNat+1):=by
   obtain⟨hi,he⟩:=Xd.1 hx;rw[K5 hi,he]
  rw[hd]at g3
  have hat:0<=at_:=by
   by_cases h0:0<i
   ·exact(g5 h0).1
   have:=g4 oM;omega
  refine⟨λh6=>zc (λk=>by have:=(g3.1 k.2).1;omega),λh6=>?_⟩;refine wb λx' hx'=>?_;rw[hx]at hx';cases hx'
  refine⟨λh7=>zc (λk=>by have:=(g3.1 k.2).1;omega),λh7=>?_⟩;refine⟨λh8=>?_,λh8=>?_⟩
  ·obtain⟨_,y,hy,hyo⟩:=g5 h8;refine wb λx' hx'=>?_;rw[hx]at hx';cases hx'
   refine wa<|wb λy' hy'=>?_;rw[hy]at hy';cases hy'
   refine⟨λh9=>zc (λk=>by have:=(g3.1 k.2).1;omega),λh9=>?_⟩;refine wa<|⟨(i+1,x.o),⟨oM,oM,λh=>by omega,λ_=>⟨oM,x,by rw[show(i+1-1).toNat=i.toNat by omega];exact hx,rfl⟩,?_⟩,zA [],oN⟩;rw[g3,show(i+1).toNat=i.toNat+1 by omega];exact⟨λk=>k.2,λk=>⟨oM,k⟩⟩
  refine wa ?_;have:=g4 oM;refine⟨(i+1,x.o),⟨oM,oM,λh=>by omega,λ_=>⟨oM,x,by rw[show(i+1-1).toNat=i.toNat by omega];exact hx,rfl⟩,?_⟩,zA [],oN⟩;rw[g3,show(i+1).toNat=i.toNat+1 by omega];exact⟨λk=>k.2,λk=>⟨oM,k⟩⟩
 have hall:zp6 0 l:=g3.2 (by rw[KB oM];trivial);intro hl2;refine⟨λh6=>?_,λh6=>?_⟩
 ·intro hl3;exact zr ⟨λk=>⟨⟨oM,k⟩,hall⟩,λk=>k.1.2⟩
 exact zc λk=>h6 k.1.1
def zsc{xs ys:List ze6}{i:Int}(hl:(xs.length:Int)=ys.length)(hi:¬i<xs.length)(h:∀j:Nat,(j:Int)<i->xs[j]?=ys[j]?):xs=ys:=by
 refine Kv λj=>?_
 by_cases hj:(j:Int)<i
 ·exact h j hj
 rw[XF oM,XF oM]
def zBX(xs ys:List ze6):CX 459 [.sl zaK xs,.sl zaK ys] (pr (xs=ys)):=by
 refine zd func459 λhl1 hl2=>?_;refine⟨λh1=>zc λe=>h1 (by rw[e]),λh1=>?_⟩;have h1:=Xc.1 h1;intro hl3;refine⟨Int,λi=>⟨[(13,i64 i),(12,i64 xs.length),(0,.sl zaK xs),(1,.sl zaK ys)],[],0,26,0⟩,λi=>0<=i/\i<=xs.length/\∀j:Nat,(j:Int)<i->xs[j]?=ys[j]?,λi=>((xs.length:Int)-i).toNat,0,?_,?_,?_⟩
 ·exact⟨oM,oM,λj hj=>by omega⟩
 ·exact zA []
 rintro i ⟨h4,h5,h6⟩
 refine⟨λh7=>?_,λh7=>?_⟩
 ·refine wc<|wb λx hx=>wb λy hy=>?_;refine⟨λh8=>?_,λh8=>?_⟩
  ·refine zc λe=>h8 (ztU.2 ?_)
   subst e;rw[hx]at hy;exact Xl hy
  refine wa<|⟨i+1,⟨oM,oM,λj hj=>?_⟩,zA [],oN⟩
  by_cases e:j=i.toNat
  ·subst e;rw[hx,hy,ztU.1 (Xc.1 h8)]
  exact h6 j oM
 exact zI (zsc h1 h7 h6)
def zp7(m:Int):Prop:=1<=m/\m<=3
instance (m:Int):Decidable (zp7 m):=wi
def zze{n:Int}(h:R64 n):yJ (n:Rat)<=2:=by
 have h1:=zjp n;have h2:=zaz h;omega
structure Pnt where
 k:Int
 c:Pix
 p0:Pt
 p1:Pt
 r:Int
 st:List ze6
 sp:Int
 im:Img
 sm:Int
 t:AF
def qb(p:Pnt):LQ:=
 i64 p.k::u8 p.c.r::u8 p.c.g::u8 p.c.b::u8 p.c.a::i64 p.p0.x::i64 p.p0.y::i64 p.p1.x::i64 p.p1.y::i64 p.r::.sl zaK p.st::i64 p.sp::i64 p.im.w::i64 p.im.h::.sl zbD p.im.px::i64 p.sm::afE p.t
def Pnt.same(p q:Pnt):Prop:=p.k=q.k/\p.c=q.c/\p.p0=q.p0/\p.p1=q.p1/\p.r=q.r/\p.st=q.st/\p.sp=q.sp/\p.im=q.im/\p.sm=q.sm/\p.t.same q.t
instance (p q:Pnt):Decidable (p.same q):=wi
def zsd(p q:Pnt)(hp:p.t.le 10000000)(hq:q.t.le 10000000):CX 409 [.agg (qb p),.agg (qb q)] (pr (p.same q)):=by
 refine zd func409<|Br.mk (λh1=>?_) (λh1=>zc (λe=>h1 e.1));refine⟨λh2=>?_,λh2=>zc (λe=>h2 (zj6.2 e.2.1))⟩;refine⟨λh3=>?_,λh3=>zc (λe=>h3 (qU.2 e.2.2.1))⟩;refine⟨λh4=>?_,λh4=>zc (λe=>h4 (qU.2 e.2.2.2.1))⟩;refine⟨λh5=>?_,λh5=>zc (λe=>h5 e.2.2.2.2.1)⟩;refine⟨λh6=>?_,λh6=>zc (λe=>h6 e.2.2.2.2.2.2.1)⟩;refine⟨λh7=>?_,λh7=>zc (λe=>h7 e.2.2.2.2.2.2.2.2.1)⟩;refine wg (zBX p.st q.st) ?_
 refine⟨λh8=>?_,λh8=>zc (λe=>h8 e.2.2.2.2.2.1)⟩;refine wg (zmh p.im q.im)<|⟨λh9=>?_,λh9=>zc (λe=>h9 e.2.2.2.2.2.2.2.1)⟩;exact wg (zth p.t q.t hp hq)<|zr ⟨λh=>⟨h1,zj6.1 h2,qU.1 h3,qU.1 h4,h5,h8,h6,h9,h7,h⟩,λe=>e.2.2.2.2.2.2.2.2.2⟩
def zj7:LEs uM (afE qh):=by
 have h0:LEs z4 (brE zBR):=yc;have h:LEs (z4++(z4++(z4++(z4++(z4++z4))))) (afE qh):=LEs.append h0 (LEs.append h0 (LEs.append h0 (LEs.append h0 (LEs.append h0 h0))));exact h
def yW(k:Int):Pnt:=⟨k,zdo,zp,zp,0,[],0,⟨0,0,[]⟩,0,qh⟩
def nil1:SV:=nS
def zzf(k:Int):LE (.agg (i64 k::u8 0::u8 0::u8 0::u8 0::i64 0::i64 0::i64 0::i64 0::i64 0::nil1::i64 0::i64 0::i64 0::nil1::i64 0::uM)) (.agg (qb (yW k))):=by
 have h:=zj7;exact jg (.C (.C (.C (.C (.C (.C (.C (.C (.C (.C (.cons zw (.C (.C (.C (.cons zw (.C h))))))))))))))))
def uA(p:Pnt):Pnt:=
 if p.k=1 then { p with c:=zdo,t:=qh } else if p.k=2 then { p with p0:=zp,p1:=zp,st:=[],sp:=0,t:=qh }
 else if p.k=3 then { p with p0:=zp,r:=0,st:=[],sp:=0,t:=qh } else if p.k=4 then { p with im:=⟨0,0,[]⟩,sp:=0,sm:=0,t:=qh } else { p with t:=qh }
def zv0(p:Pnt):CX 410 [.agg (qb p)] (.agg (qb (uA p))):=by
 have fin:∀{σ:SV} {q:Pnt},uA p=q->LE σ (.agg (qb q))->LE σ (.agg (qb (uA p))):=λe h=>e ▸ h
 refine zd func410<|Br.mk (λh1=>?_) (λh1=>?_)
 ·exact fin (q:={ p with c:=zdo,t:=qh }) (by rw[uA,Xe h1])<|jg (.C (.C (.C (.C (.C (.C (.C (.C (.C (.C (.C (.C (.C (.C (.C (.C zj7))))))))))))))))
 refine⟨λh2=>?_,λh2=>?_⟩
 ·exact fin (q:={ p with p0:=zp,p1:=zp,st:=[],sp:=0,t:=qh }) (by rw[uA,Xb h1,Xe h2])<|jg (.C (.C (.C (.C (.C (.C (.C (.C (.C (.C (.cons zw (.C (.C (.C (.C (.C zj7))))))))))))))))
 refine⟨λh3=>?_,λh3=>?_⟩
 ·exact fin (q:={ p with p0:=zp,r:=0,st:=[],sp:=0,t:=qh }) (by rw[uA,Xb h1,Xb h2,Xe h3])<|jg (.C (.C (.C (.C (.C (.C (.C (.C (.C (.C (.cons zw (.C (.C (.C (.C (.C zj7))))))))))))))))
 refine⟨λh4=>?_,λh4=>?_⟩
 ·exact fin (q:={ p with im:=⟨0,0,[]⟩,sp:=0,sm:=0,t:=qh }) (by rw[uA,Xb h1,Xb h2,Xb h3,Xe h4])<|jg (.C (.C (.C (.C (.C (.C (.C (.C (.C (.C (.C (.C (.C (.C (.cons zw (.C zj7))))))))))))))))
 exact fin (q:={ p with t:=qh }) (by rw[uA,Xb h1,Xb h2,Xb h3,Xb h4])<|jg (.C (.C (.C (.C (.C (.C (.C (.C (.C (.C (.C (.C (.C (.C (.C (.C zj7))))))))))))))))
def zey(n:Int):CX 413 [i64 n] (pr (zp7 n)):=by
 refine zd func413<|Br.mk (λh1=>?_) (λh1=>zc (λh=>h1 h.1));exact zr ⟨λh=>⟨h1,h⟩,λh=>h.2⟩
def zaL(n:Int):CX 401 [i64 n] (pr (zp7 n)):=by
 refine zd func401<|Br.mk (λh1=>?_) (λh1=>zc (λh=>h1 h.1));exact zr ⟨λh=>⟨h1,h⟩,λh=>h.2⟩
def zgf(p:Pnt):CX 412 [.agg (qb p)] (pr (zd4 p.st/\zp7 p.sp)):=by
 refine zd func412<|wg (zzd p.st)<|⟨λh1=>?_,λh1=>zc (λh=>h1 h.1)⟩;exact wg (zey p.sp)<|zr ⟨λh=>⟨h1,h⟩,λh=>h.2⟩
def uQ(p:Pnt):Prop:=p.im.w=0/\p.im.h=0/\p.im.px=[]/\p.sm=0
instance (p:Pnt):Decidable (uQ p):=wi
def zdp(p:Pnt):Prop:=p.p0=zp/\p.p1=zp/\p.r=0/\p.st=[]
instance (p:Pnt):Decidable (zdp p):=wi
def has1(p:Pnt):Prop:=zdp p/\uQ p/\p.sp=0/\p.t.same qh
instance (p:Pnt):Decidable (has1 p):=wi
def has2(p:Pnt):Prop:=uQ p/\p.c=zdo/\p.r=0/\zm p.p0/\zm p.p1/\zd4 p.st/\zp7 p.sp
instance (p:Pnt):Decidable (has2 p):=wi
def has3(p:Pnt):Prop:=uQ p/\p.c=zdo/\p.p1=zp/\zm p.p0/\1<=p.r/\p.r<=1048576/\zd4 p.st/\zp7 p.sp
instance (p:Pnt):Decidable (has3 p):=wi
def has4(p:Pnt):Prop:=zdp p/\p.c=zdo/\zex p.im/\(p.sp=0∨zp7 p.sp)/\(p.sm=1∨p.sm=2)
instance (p:Pnt):Decidable (has4 p):=wi
def znS(p:Pnt):Prop:=(p.k=1/\has1 p)∨(p.k=2/\has2 p)∨(p.k=3/\has3 p)∨(p.k=4/\has4 p)
instance (p:Pnt):Decidable (znS p):=wj
def yu(p:Pnt):Prop:=p.t.ok/\znS p/\(p.k=1∨v7 p.t≠0)
instance (p:Pnt):Decidable (yu p):=wi
def zDq{p:Pnt}(h:p.k=1):(uA p).same (yW p.k)↔zdp p/\uQ p/\p.sp=0:=by
 rw[uA,Xe h]
 obtain⟨k,c,p0,p1,r,st,sp,⟨w,hh,px⟩,sm,t⟩:=p
 simp only[Pnt.same,yW,zdp,uQ,Img.mk.injEq];constructor
 ·rintro⟨_,_,h3,h4,h5,h6,h7,⟨h8,h9,h10⟩,h11,_⟩
  exact⟨⟨h3,h4,h5,h6⟩,⟨h8,h9,h10,h11⟩,h7⟩
 rintro⟨⟨h3,h4,h5,h6⟩,⟨h8,h9,h10,h11⟩,h7⟩
 exact⟨tV,tV,h3,h4,h5,h6,h7,⟨h8,h9,h10⟩,h11,rfl,rfl,rfl,rfl,rfl,rfl⟩
def zDr{p:Pnt}(h:p.k=2):(uA p).same (yW p.k)↔uQ p/\p.c=zdo/\p.r=0:=by
 rw[uA,Xb oM,Xe h]
 obtain⟨k,c,p0,p1,r,st,sp,⟨w,hh,px⟩,sm,t⟩:=p
 simp only[Pnt.same,yW,uQ,Img.mk.injEq];constructor
 ·rintro⟨_,h2,_,_,h5,_,_,⟨h8,h9,h10⟩,h11,_⟩
  exact⟨⟨h8,h9,h10,h11⟩,h2,h5⟩
 rintro⟨⟨h8,h9,h10,h11⟩,h2,h5⟩
 exact⟨tV,h2,tV,tV,h5,tV,tV,⟨h8,h9,h10⟩,h11,rfl,rfl,rfl,rfl,rfl,rfl⟩
def zDs{p:Pnt}(h:p.k=3):(uA p).same (yW p.k)↔uQ p/\p.c=zdo/\p.p1=zp:=by
 rw[uA,Xb oM,Xb oM,Xe h]
 obtain⟨k,c,p0,p1,r,st,sp,⟨w,hh,px⟩,sm,t⟩:=p
 simp only[Pnt.same,yW,uQ,Img.mk.injEq];constructor
 ·rintro⟨_,h2,_,h4,_,_,_,⟨h8,h9,h10⟩,h11,_⟩
  exact⟨⟨h8,h9,h10,h11⟩,h2,h4⟩
 rintro⟨⟨h8,h9,h10,h11⟩,h2,h4⟩
 exact⟨tV,h2,tV,h4,tV,tV,tV,⟨h8,h9,h10⟩,h11,rfl,rfl,rfl,rfl,rfl,rfl⟩
def zDt{p:Pnt}(h:p.k=4):(uA p).same (yW p.k)↔zdp p/\p.c=zdo:=by
 rw[uA,Xb oM,Xb oM,Xb oM,Xe h]
 obtain⟨k,c,p0,p1,r,st,sp,⟨w,hh,px⟩,sm,t⟩:=p
 simp only[Pnt.same,yW,zdp];constructor
 ·rintro⟨_,h2,h3,h4,h5,h6,_⟩
  exact⟨⟨h3,h4,h5,h6⟩,h2⟩
 rintro⟨⟨h3,h4,h5,h6⟩,h2⟩
 exact⟨tV,h2,h3,h4,h5,h6,tV,tV,tV,rfl,rfl,rfl,rfl,rfl,rfl⟩
def zBY(p:Pnt):(uA p).t=qh:=by
 unfold uA;repeat (first|rfl|split)
def vl(n:Nat):qh.le n:=⟨Xg _,Xg _,Xg _,Xg _,Xg _,Xg _⟩
def yX(x:Rat):¬zjq x 0=0↔x≠0:=by
 have h1:=znm (x:=x) (y:=0);have h2:=ztg (x:=x) (y:=0);constructor
 ·rintro h rfl
  exact h (JJ (h2.2 Rat.le_refl) (h1.2 Rat.le_refl))
 intro h k;exact h (Rat.le_antisymm (h2.1 oM) (h1.1 oM))
def zgg{t:AF}{n:Nat}(h:t.le n):yJ (v7 t)<=4*n+5:=by
 obtain⟨ha,hb,hc,hd,_,_⟩:=h;have h1:=zxE (t.a.v*t.d.v) (t.b.v*t.c.v);have h2:=yT t.a.v t.d.v;have h3:=yT t.b.v t.c.v;have h4:=zM t.a;have h5:=zM t.b;have h6:=zM t.c;have h7:=zM t.d;unfold v7;omega
def zse(p:Pnt)(hp:p.t.le 1000)(hl:p.im.px.length<=9223372036854775807):CX 359 [.agg (qb p)] (pr (yu p)):=by
 refine zd func359 ?_;have hp7:p.t.le 10000000:=hp.up dC;refine wc<|wg (zfK p.t (hp.up dC))<|⟨λh1=>zc (λk=>h1 k.1),λh1=>?_⟩;have h1:=Xc.1 h1;refine wg (zv0 p)<|wg ((zsd (uA p) (yW p.k) (by rw[zBY];exact vl _) (vl _)).args (.C (.cons (zzf p.k) .nil))) ?_
 have only:p.k=1∨p.k=2∨p.k=3∨p.k=4->¬(uA p).same (yW p.k)->¬znS p:=by
  intro _ h2 k
  obtain⟨e,k⟩|⟨e,k⟩|⟨e,k⟩|⟨e,k⟩:=k
  ·exact h2 ((zDq e).2 ⟨k.1,k.2.1,k.2.2.1⟩)
  ·exact h2 ((zDr e).2 ⟨k.1,k.2.1,k.2.2.1⟩)
  ·exact h2 ((zDs e).2 ⟨k.1,k.2.1,k.2.2.1⟩)
  exact h2 ((zDt e).2 ⟨k.1,k.2.1⟩)
 refine⟨λh2=>zc (λk=>only (by rcases k.2.1 with h|h|h|h <;> omega) h2 k.2.1),λh2=>?_⟩;have h2:=Xc.1 h2;have hcmp:=zhB (ofQ (v7 p.t)) zBR (by have:=zgg hp;rw[zO];omega) (Xg _);rw[kA,zBR_v]at hcmp;have det:=hcmp.args (args:=[wm (ofQ (v7 p.t)),.agg [bl false,nS,bl false,nS]]) (.C (.cons (jg yc) .nil));refine⟨λk1=>?_,λk1=>?_⟩
 ·have hb:=(zDq k1).1 h2;refine wg ((zth p.t qh hp7 (vl _)).args (.C (.cons zdU .nil)))<|zr ⟨λh=>⟨h1,.inl ⟨k1,hb.1,hb.2.1,hb.2.2,h⟩,.inl k1⟩,λh=>?_⟩
  obtain⟨e,k⟩|⟨e,_⟩|⟨e,_⟩|⟨e,_⟩:=h.2.1
  ·exact k.2.2.2
  all_goals omega
 refine⟨λk2=>?_,λk2=>?_⟩
 ·have hb:=(zDr k2).1 h2
  have get:yu p->has2 p:=λh=>by
   obtain⟨e,_⟩|⟨e,k⟩|⟨e,_⟩|⟨e,_⟩:=h.2.1
   ·omega
   ·exact k
   all_goals omega
  refine wg (kC p.p0)<|⟨λh3=>zc (λk=>h3 (get k).2.2.2.1),λh3=>?_⟩;refine wg (kC p.p1)<|⟨λh4=>zc (λk=>h4 (get k).2.2.2.2.1),λh4=>?_⟩;refine wg (zgf p)<|⟨λh5=>zc (λk=>h5 (get k).2.2.2.2.2),λh5=>?_⟩;refine wg (zjr p.t hp7)<|wg det ?_;refine zr ((yX _).trans ⟨λh=>⟨h1,.inr (.inl ⟨k2,hb.1,hb.2.1,hb.2.2,Xc.1 h3,Xc.1 h4,Xc.1 h5⟩),.inr h⟩,λh=>h.2.2.resolve_left oM⟩)
 refine⟨λk3=>?_,λk3=>?_⟩
 ·have hb:=(zDs k3).1 h2
  have get:yu p->has3 p:=λh=>by
   obtain⟨e,_⟩|⟨e,_⟩|⟨e,k⟩|⟨e,_⟩:=h.2.1
   ·omega
   ·omega
   ·exact k
   omega
  refine wg (kC p.p0)<|⟨λh3=>zc (λk=>h3 (get k).2.2.2.1),λh3=>?_⟩;refine⟨λh4=>zc (λk=>by have:=(get k).2.2.2.2.1;omega),λh4=>?_⟩;refine⟨λh5=>zc (λk=>by have:=(get k).2.2.2.2.2.1;omega),λh5=>?_⟩;refine wg (zgf p)<|⟨λh6=>zc (λk=>h6 (get k).2.2.2.2.2.2),λh6=>?_⟩;refine wg (zjr p.t hp7)<|wg det ?_
  refine zr ((yX _).trans ⟨λh=>⟨h1,.inr (.inr (.inl ⟨k3,hb.1,hb.2.1,hb.2.2,Xc.1 h3,oM,oM,Xc.1 h6⟩)),.inr h⟩,λh=>h.2.2.resolve_left oM⟩)
 refine⟨λk4=>?_,λk4=>?_⟩
 ·have hb:=(zDt k4).1 h2
  have get:yu p->has4 p:=λh=>by
   obtain⟨e,_⟩|⟨e,_⟩|⟨e,_⟩|⟨e,k⟩:=h.2.1
   ·omega
   ·omega
   ·omega
   exact k
  refine wg (zmg p.im hl)<|⟨λh3=>zc (λk=>h3 (get k).2.2.1),λh3=>?_⟩;refine⟨λh4=>?_,λh4=>?_⟩
  ·refine wg (zey p.sp)<|⟨λh5=>zc (λk=>by rcases(get k).2.2.2.1 with h|h;exact h4 h;exact h5 h),λh5=>?_⟩;refine⟨λh6=>?_,λh6=>?_⟩
   ·refine⟨λh7=>zc (λk=>by have:=(get k).2.2.2.2;omega),λh7=>?_⟩;refine wg (zjr p.t hp7)<|wg det ?_;refine zr ((yX _).trans ⟨λh=>⟨h1,.inr (.inr (.inr ⟨k4,hb.1,hb.2,Xc.1 h3,.inr (Xc.1 h5),oM⟩)),.inr h⟩,λh=>h.2.2.resolve_left oM⟩)
   refine wg (zjr p.t hp7)<|wg det ?_;refine zr ((yX _).trans ⟨λh=>⟨h1,.inr (.inr (.inr ⟨k4,hb.1,hb.2,Xc.1 h3,.inr (Xc.1 h5),oM⟩)),.inr h⟩,λh=>h.2.2.resolve_left oM⟩)
  refine⟨λh6=>?_,λh6=>?_⟩
  ·refine⟨λh7=>zc (λk=>by have:=(get k).2.2.2.2;omega),λh7=>?_⟩;refine wg (zjr p.t hp7)<|wg det ?_;refine zr ((yX _).trans ⟨λh=>⟨h1,.inr (.inr (.inr ⟨k4,hb.1,hb.2,Xc.1 h3,.inl oM,oM⟩)),.inr h⟩,λh=>h.2.2.resolve_left oM⟩)
  refine wg (zjr p.t hp7)<|wg det ?_;refine zr ((yX _).trans ⟨λh=>⟨h1,.inr (.inr (.inr ⟨k4,hb.1,hb.2,Xc.1 h3,.inl oM,oM⟩)),.inr h⟩,λh=>h.2.2.resolve_left oM⟩)
 exact zc (λk=>by obtain⟨e,_⟩|⟨e,_⟩|⟨e,_⟩|⟨e,_⟩:=k.2.1 <;> omega)
def mulb{a b:Int}(h0:0<=a)(h1:a<=A)(k0:0<=b)(k1:b<=B):0<=a*b/\a*b<=A*B:=
 ⟨XI h0 k0,JW h1 k1 k0 oM⟩
def zj9(mode:Int):Prop:=1<=mode/\mode<=13
instance instB01 (m:Int):Decidable (zj9 m):=wi
structure Rc where
 x0:Int
 y0:Int
 x1:Int
 y1:Int
def rcE(r:Rc):LQ:=[i64 r.x0,i64 r.y0,i64 r.x1,i64 r.y1]
def k8:Rc:=⟨0,0,0,0⟩
def zDu{p q:Rc}:(p.x0=q.x0/\p.y0=q.y0/\p.x1=q.x1/\p.y1=q.y1/\True)↔p=q:=by
 obtain⟨a,b,c,d⟩:=p;obtain⟨a',b',c',d'⟩:=q;simp
instance instG01:DecidableEq Rc:=λ_ _=>decidable_of_iff _ zDu
def v9(n:Int):Prop:= -4096<=n/\n<=4096
instance instG02 (n:Int):Decidable (v9 n):=wi
def Rc.ok(r:Rc):Prop:=v9 r.x0/\v9 r.y0/\v9 r.x1/\v9 r.y1
instance instG03 (r:Rc):Decidable r.ok:=wi
def Rc.mt(r:Rc):Prop:=¬r.ok∨r.x1<=r.x0∨r.y1<=r.y0
instance instG04 (r:Rc):Decidable r.mt:=wj
def Rc.canon(r:Rc):Rc:=if r.mt then k8 else r
def Rc.w(r:Rc):Int:=r.x1-r.x0
def Rc.h(r:Rc):Int:=r.y1-r.y0
def Rc.area(r:Rc):Int:=r.canon.w*r.canon.h
def Rc.meet(a b:Rc):Rc:=if a.mt∨b.mt then k8 else Rc.canon ⟨max a.x0 b.x0,max a.y0 b.y0,min a.x1 b.x1,min a.y1 b.y1⟩
def ji:k8.mt:=dC
def Rc.canon_canon(r:Rc):r.canon.canon=r.canon:=by
 unfold Rc.canon
 by_cases h:r.mt
 ·rw[Xe h];decide
 rw[Xb h,Xb h]
variable{r:Rc}
def Rc.canon_self(h:r.canon=r):(r=k8)∨(¬r.mt):=by
 unfold Rc.canon at h
 by_cases k:r.mt
 ·rw[Xe k]at h;exact .inl h.symm
 exact .inr k
def Rc.notmt(h:¬r.mt):r.ok/\r.x0<r.x1/\r.y0<r.y1:=by
 unfold Rc.mt at h;refine⟨Xc.1 λk=>h (.inl k),?_,?_⟩
 ·rcases Qa r.x0 r.x1 with k|k
  ·exact k
  exact absurd (.inr (.inl k)) h
 rcases Qa r.y0 r.y1 with k|k
 ·exact k
 exact absurd (.inr (.inr k)) h
def Rc.sides(h:r.canon=r):v9 r.x0/\v9 r.y0/\v9 r.x1/\v9 r.y1/\0<=r.w/\r.w<=8192/\0<=r.h/\r.h<=8192/\(r.w=0↔r.h=0):=by
 unfold Rc.w Rc.h
 rcases Rc.canon_self h with rfl|k
 ·decide
 obtain⟨⟨⟨a,b⟩,⟨c,d⟩,⟨e,f⟩,g,i⟩,j,k⟩:=Rc.notmt k;unfold v9;omega
def zaN{p q:Rc}(h:p=q):LE (.agg (rcE p)) (.agg (rcE q)):=by subst h;exact .refl
def Rc.canon_pos(h:r.mt):r.canon=k8:=Xe h
def Rc.canon_neg(h:¬r.mt):r.canon=r:=Xb h
def Rc.canon_R(r:Rc):v9 r.canon.x0/\v9 r.canon.y0/\v9 r.canon.x1/\v9 r.canon.y1/\0<=r.canon.x1-r.canon.x0/\r.canon.x1-r.canon.x0<=8192/\0<=r.canon.y1-r.canon.y0/\r.canon.y1-r.canon.y0<=8192:=by
 obtain⟨a,b,c,d,e,f,g,h,_⟩:=Rc.sides r.canon_canon;exact⟨a,b,c,d,e,f,g,h⟩
def Rc.meet_canon(a b:Rc):Rc.canon ⟨max a.canon.x0 b.canon.x0,max a.canon.y0 b.canon.y0,min a.canon.x1 b.canon.x1,min a.canon.y1 b.canon.y1⟩=a.meet b:=by
 unfold Rc.meet;have e0:k8.x0=0/\k8.y0=0/\k8.x1=0/\k8.y1=0:=⟨rfl,rfl,rfl,rfl⟩
 by_cases ha:a.mt
 ·rw[Xe (.inl ha),Rc.canon_pos ha,Rc.canon_pos]
  right;left;dsimp only;rw[e0.1,e0.2.2.1];omega
 by_cases hb:b.mt
 ·rw[Xe (.inr hb),Rc.canon_pos hb,Rc.canon_pos]
  right;left;dsimp only;rw[e0.1,e0.2.2.1];omega
 rw[Xb (λh=>h.elim ha hb),Rc.canon_neg ha,Rc.canon_neg hb]
def ztV(n:Int):CX 116 [i64 n] (pr (v9 n)):=by
 refine zd func116<|Br.mk (λh1=>?_) (λh1=>zc (λh=>h1 h.1));exact zr ⟨λh=>⟨h1,h⟩,λh=>h.2⟩
def zBZ(r:Rc):CX 75 [.agg (rcE r)] (pr r.ok):=by
 refine zd func75<|wg (ztV r.x0)<|⟨λh1=>?_,λh1=>zc (λh=>h1 h.1)⟩;refine wg (ztV r.y0)<|⟨λh2=>?_,λh2=>zc (λh=>h2 h.2.1)⟩;refine wg (ztV r.x1)<|⟨λh3=>?_,λh3=>zc (λh=>h3 h.2.2.1)⟩;exact wg (ztV r.y1)<|zr ⟨λh=>⟨h1,h2,h3,h⟩,λh=>h.2.2.2⟩
def zcf(r:Rc):CX 48 [.agg (rcE r)] (pr r.mt):=by
 refine zd func48<|wg (zBZ r)<|⟨λh1=>zI (.inl h1),λh1=>?_⟩;refine⟨λh2=>zI (.inr (.inl h2)),λh2=>?_⟩;exact zr ⟨λh=>.inr (.inr h),λh=>by rcases h with h|h|h;exact absurd h h1;exact absurd h h2;exact h⟩
def zd5(r:Rc):CX 74 [.agg (rcE r)] (.agg (rcE r.canon)):=by
 refine zd func74<|wg (zcf r) ?_;refine⟨λh1=>zaN (Rc.canon_pos h1).symm,λh1=>zaN (Rc.canon_neg h1).symm⟩
def zka(r:Rc):CX 76 [.agg (rcE r)] (i64 r.area):=by
 obtain⟨a,b,c,d,e,f,g,h⟩:=r.canon_R;unfold v9 at a b c d;have hm:=mulb e f g h;refine zd func76<|wg (zd5 r) ?_;(iterate 3 refine wa ?_);exact .refl
def zil(n:Int):CX 107 [i64 n] (pr (v9 n)):=by
 refine zd func107<|Br.mk (λh1=>?_) (λh1=>zc (λh=>h1 h.1));exact zr ⟨λh=>⟨h1,h⟩,λh=>h.2⟩
def zB0(r:Rc):CX 70 [.agg (rcE r)] (pr r.ok):=by
 refine zd func70<|wg (zil r.x0)<|⟨λh1=>?_,λh1=>zc (λh=>h1 h.1)⟩;refine wg (zil r.y0)<|⟨λh2=>?_,λh2=>zc (λh=>h2 h.2.1)⟩;refine wg (zil r.x1)<|⟨λh3=>?_,λh3=>zc (λh=>h3 h.2.2.1)⟩;exact wg (zil r.y1)<|zr ⟨λh=>⟨h1,h2,h3,h⟩,λh=>h.2.2.2⟩
def znT(r:Rc):CX 43 [.agg (rcE r)] (pr r.mt):=by
 refine zd func43<|wg (zB0 r)<|⟨λh1=>zI (.inl h1),λh1=>?_⟩;refine⟨λh2=>zI (.inr (.inl h2)),λh2=>?_⟩;exact zr ⟨λh=>.inr (.inr h),λh=>by rcases h with h|h|h;exact absurd h h1;exact absurd h h2;exact h⟩
def zB1(r:Rc):CX 52 [.agg (rcE r)] (.agg (rcE r.canon)):=by
 refine zd func52<|wg (znT r) ?_;refine⟨λh1=>zaN (Rc.canon_pos h1).symm,λh1=>zaN (Rc.canon_neg h1).symm⟩
def znU(a b:Rc):CX 80 [.agg (rcE a),.agg (rcE b)] (.agg (rcE (a.meet b))):=by
 refine zd func80<|wd<|wg (zd5 a)<|wg (zd5 b)<|wh<|wg (zd5 ⟨max a.canon.x0 b.canon.x0,max a.canon.y0 b.canon.y0,min a.canon.x1 b.canon.x1,min a.canon.y1 b.canon.y1⟩) ?_;exact zaN (Rc.meet_canon a b)
def zEV(a b:Rc):CX 30 [.agg (rcE a),.agg (rcE b)] (.agg (rcE (a.meet b))):=by
 refine zd func30<|wg (znT a)<|⟨λh1=>zaN (p:=k8) (by unfold Rc.meet;rw[Xe (.inl h1)]),λh1=>?_⟩;refine wg (znT b)<|⟨λh2=>zaN (p:=k8) (by unfold Rc.meet;rw[Xe (.inr h2)]),λh2=>?_⟩;exact wg (zB1 ⟨max a.x0 b.x0,max a.y0 b.y0,min a.x1 b.x1,min a.y1 b.y1⟩)<|zaN (by unfold Rc.meet;rw[Xb (λh=>h.elim h1 h2)])
def zEW(m:Int):CX 222 [i64 m] (pr (zj9 m)):=by
 refine zd func222<|Br.mk (λh1=>?_) (λh1=>zc (λh=>h1 h.1));exact zr ⟨λh=>⟨h1,h⟩,λh=>h.2⟩
def zEX(m:Int):CX 144 [i64 m] (pr (zj9 m)):=by
 refine zd func144<|Br.mk (λh1=>?_) (λh1=>zc (λh=>h1 h.1));exact zr ⟨λh=>⟨h1,h⟩,λh=>h.2⟩
def znY(ks:LU):List (Int×SV):=ks.map λk=>(k,bl true)
def zv7{n:Int}{A K0:Prop}{F:Int×SV->List (Int×SV)->Prop->Prop}{ks:LU}(hF:∀k r ih,(n=k->A)->(¬n=k->ih)->F (k,bl true) r ih)(h1:n∈ks->A)(h0:n∉ks->K0):
  List.rec (motive:=λ_=>Prop) K0 F (znY ks):=by
 induction ks with
 |nil=>exact h0 sI
 |cons k r ih=>
  exact hF k (znY r) _ (λe=>h1 (by rw[e];exact .head _)) λe=>ih (λh=>h1 (.tail _ h)) λh=>h0 λhm=>by
   cases hm with
   |head=>exact e rfl
   |tail _ h'=>exact h h'
def zqc{n:Int}:∀{ks:LU} {K:List (Int×SV)->Prop},n∉ks->K (znY (ks++[n]))->zwQ (znY ks) n (bl true) K
 |[],_,_,k=>k
 |a::r,K,hn,k=>by
  show Br (n=a->K ((n,bl true)::znY r)) (¬n=a->zwQ (znY r) n (bl true) λr'=>K ((a,bl true)::r'));exact⟨λe=>absurd (e ▸ .head _) hn,λ_=>zqc (λh=>hn (.tail _ h)) k⟩
def zmo{p:Pix}:(p.r=0/\p.g=0/\p.b=0/\p.a=0/\True)↔p=zdo:=zj6 (q:=zdo)
variable{p:Pt}
def pt_z:(p.x=0/\p.y=0/\True)↔p=zp:=qU (q:=zp)
def zzs(p:Pnt):CX 397 [.agg (qb p)] (pr (zdp p)):=by
 refine zd func397<|Br.mk (λh1=>?_) (λh1=>zc (λh=>h1 (qU.2 h.1)));refine⟨λh2=>?_,λh2=>zc (λh=>h2 (qU.2 h.2.1))⟩;refine⟨λh3=>?_,λh3=>zc (λh=>h3 h.2.2.1)⟩;intro hl;exact zr ⟨λh=>⟨pt_z.1 h1,pt_z.1 h2,h3,XN.1 oM⟩,λh=>by rw[h.2.2.2];rfl⟩
def zg7(p:Pnt):CX 398 [.agg (qb p)] (pr (uQ p)):=by
 refine zd func398<|Br.mk (λh1=>?_) (λh1=>zc (λh=>h1 h.1));refine⟨λh2=>?_,λh2=>zc (λh=>h2 h.2.1)⟩;intro hl;refine⟨λh3=>?_,λh3=>zc (λh=>h3 (by rw[h.2.2.1];rfl))⟩;exact zr ⟨λh=>⟨h1,h2,XN.1 oM,h⟩,λh=>h.2.2.2⟩
def zCb(t:AF)(ht:t.le 10000000):CX 399 [wo t] (pr (t.same qh)):=by
 exact zd func399<|wg ((zu5 t qh ht (vl _)).args (.C (.cons zdU .nil)))<|.refl
def c_has(p:Pnt)(hp:p.t.le 10000000):CX 342 [.agg (qb p)] (pr (znS p)):=by
 refine zd func342<|Br.mk (λk1=>?_) (λk1=>?_)
 ·have get:znS p->has1 p:=λh=>by obtain⟨e,k⟩|⟨e,k⟩|⟨e,k⟩|⟨e,k⟩:=h <;> first|exact k|omega
  refine wg (zzs p)<|⟨λh1=>?_,λh1=>zc (λk=>h1 (get k).1)⟩;refine wg (zg7 p)<|⟨λh2=>?_,λh2=>zc (λk=>h2 (get k).2.1)⟩;refine⟨λh3=>?_,λh3=>zc (λk=>h3 (get k).2.2.1)⟩;exact wg (zCb p.t hp)<|zr ⟨λh=>.inl ⟨k1,h1,h2,h3,h⟩,λk=>(get k).2.2.2⟩
 refine⟨λk2=>?_,λk2=>?_⟩
 ·have get:znS p->has2 p:=λh=>by obtain⟨e,k⟩|⟨e,k⟩|⟨e,k⟩|⟨e,k⟩:=h <;> first|exact k|omega
  refine wg (zg7 p)<|⟨λh1=>?_,λh1=>zc (λk=>h1 (get k).1)⟩;refine⟨λh2=>?_,λh2=>zc (λk=>h2 (zmo.2 (get k).2.1))⟩;refine⟨λh3=>?_,λh3=>zc (λk=>h3 (get k).2.2.1)⟩;refine wg (vd p.p0)<|⟨λh4=>?_,λh4=>zc (λk=>h4 (get k).2.2.2.1)⟩;refine wg (vd p.p1)<|⟨λh5=>?_,λh5=>zc (λk=>h5 (get k).2.2.2.2.1)⟩;refine wg (zmi p.st)<|⟨λh6=>?_,λh6=>zc (λk=>h6 (get k).2.2.2.2.2.1)⟩;refine wg (zaL p.sp) ?_
  exact zr ⟨λh=>.inr (.inl ⟨k2,h1,zmo.1 h2,h3,h4,h5,h6,h⟩),λk=>(get k).2.2.2.2.2.2⟩
 refine⟨λk3=>?_,λk3=>?_⟩
 ·have get:znS p->has3 p:=λh=>by obtain⟨e,k⟩|⟨e,k⟩|⟨e,k⟩|⟨e,k⟩:=h <;> first|exact k|omega
  refine wg (zg7 p)<|⟨λh1=>?_,λh1=>zc (λk=>h1 (get k).1)⟩;refine⟨λh2=>?_,λh2=>zc (λk=>h2 (zmo.2 (get k).2.1))⟩;refine⟨λh3=>?_,λh3=>zc (λk=>h3 (pt_z.2 (get k).2.2.1))⟩;refine wg (vd p.p0)<|⟨λh4=>?_,λh4=>zc (λk=>h4 (get k).2.2.2.1)⟩;refine⟨λh5=>?_,λh5=>zc (λk=>h5 (get k).2.2.2.2.1)⟩;refine⟨λh6=>?_,λh6=>zc (λk=>h6 (get k).2.2.2.2.2.1)⟩;refine wg (zmi p.st) ?_
  refine⟨λh7=>?_,λh7=>zc (λk=>h7 (get k).2.2.2.2.2.2.1)⟩;exact wg (zaL p.sp)<|zr ⟨λh=>.inr (.inr (.inl ⟨k3,h1,zmo.1 h2,pt_z.1 h3,h4,h5,h6,h7,h⟩)),λk=>(get k).2.2.2.2.2.2.2⟩
 refine⟨λk4=>?_,λk4=>?_⟩
 ·have get:znS p->has4 p:=λh=>by obtain⟨e,k⟩|⟨e,k⟩|⟨e,k⟩|⟨e,k⟩:=h <;> first|exact k|omega
  refine wg (zzs p)<|⟨λh1=>?_,λh1=>zc (λk=>h1 (get k).1)⟩;refine⟨λh2=>?_,λh2=>zc (λk=>h2 (zmo.2 (get k).2.1))⟩;refine wg (zj5 p.im)<|⟨λh3=>?_,λh3=>zc (λk=>h3 (get k).2.2.1)⟩;have yes:(p.sp=0∨zp7 p.sp)->(p.sm=1∨p.sm=2)->znS p:=λa b=>.inr (.inr (.inr ⟨k4,h1,zmo.1 h2,h3,a,b⟩))
  refine⟨λh4=>?_,λh4=>?_⟩
  ·refine⟨λh5=>zI (yes (.inl h4) (.inl h5)),λh5=>?_⟩;exact zr ⟨λh=>yes (.inl h4) (.inr h),λk=>(get k).2.2.2.2.resolve_left h5⟩
  refine wg (zaL p.sp)<|⟨λh6=>?_,λh6=>zc (λk=>by rcases(get k).2.2.2.1 with h|h;exact h4 h;exact h6 h)⟩;refine⟨λh5=>zI (yes (.inr h6) (.inl h5)),λh5=>?_⟩;exact zr ⟨λh=>yes (.inr h6) (.inr h),λk=>(get k).2.2.2.2.resolve_left h5⟩
 exact zc (λk=>by obtain⟨e,_⟩|⟨e,_⟩|⟨e,_⟩|⟨e,_⟩:=k <;> omega)
def zqf(p:Pnt)(hp:p.t.le 1000):CX 278 [.agg (qb p)] (pr (yu p)):=by
 refine zd func278<|wg (zlB p.t (hp.up dC))<|⟨λh1=>zc (λk=>h1 k.1),λh1=>?_⟩;have h1:=Xc.1 h1;refine wg (c_has p (hp.up dC))<|⟨λh2=>zc (λk=>h2 k.2.1),λh2=>?_⟩;have h2:=Xc.1 h2;refine⟨λh3=>zI ⟨h1,h2,.inl h3⟩,λh3=>?_⟩;refine wg (zti p.t (hp.up dC)) ?_;have hz:=uf 0 dC;refine wg hz ?_;have hcmp:=zxL (ofQ (v7 p.t)) (ofQ ((0:Int):Rat)) (by have:=zgg hp;rw[zO];omega) (by have:=zze (n:=0) dC;rw[zO];omega);rw[kA,kA]at hcmp
 refine wg hcmp ?_;refine zr ((yX _).trans ⟨λh=>⟨h1,h2,.inr h⟩,λh=>h.2.2.resolve_left h3⟩)
def orP(a b p:Pt):Int:=wdg (zns b a) (zns p a)
def jL(a b p:Pt):Int:=if a.y<=p.y/\p.y<b.y/\0<orP a b p then 1 else if b.y<=p.y/\p.y<a.y/\0<orP b a p then-1 else 0
def zqr(a b p:Pt): -1<=jL a b p/\jL a b p<=1:=by
 unfold jL;split
 ·omega
 split <;> omega
def yx(r:LR)(p:Pt)(n:Nat):Int:=((List.range n).map λi=>jL (r.getD i zp) (r.getD ((i+1)%r.length) zp) p).sum
def yy(r:LR)(p:Pt)(n:Nat):yx r p (n+1)=yx r p n+jL (r.getD n zp) (r.getD ((n+1)%r.length) zp) p:=by
 unfold yx;rw[KI,XG,QP];simp
def zhV(r:LR)(p:Pt)(n:Nat): -(n:Int)<=yx r p n/\yx r p n<=n:=by
 induction n with
 |zero=>exact⟨by simp[yx],by simp[yx]⟩
 |succ n ih=>
  have:=zqr (r.getD n zp) (r.getD ((n+1)%r.length) zp) p;rw[yy];omega
def zwh{r:LR}{x y:Pt}(hx:r[i]?=some x)(hy:r[(((i:Int)+1)%(r.length:Int)).toNat]?=some y)(h:i<r.length):yx r p (i+1)=yx r p i+jL x y p:=by
 rw[ztr h,XX]at hy;rw[yy,Xn,Xn,hx,hy];rfl
def za7(rs:LN)(p:Pt)(n:Nat):Int:=((List.range n).map λi=>yx (rs.getD i []) p (rs.getD i []).length).sum
def zck{rs:LN}{p:Pt}{n:Nat}{r:LR}(h:rs[n]?=some r):za7 rs p (n+1)=za7 rs p n+yx r p r.length:=by
 unfold za7;rw[KI,XG,QP];simp[Xn,h]
def zdt(rs:LN)(p:Pt):∀n,n<=rs.length-> -(qx (rs.take n):Int)<=za7 rs p n/\za7 rs p n<=qx (rs.take n)
 |0,_=>⟨by simp[za7],by simp[za7]⟩
 |n+1,h=>by
  have ih:=zdt rs p n oM;obtain⟨r,hr⟩:∃r,rs[n]?=some r:=⟨_,Xa oM⟩;have:=zhV r p r.length;rw[zck hr,zae hr];omega
def zdu(rs:LN)(p:Pt):Int:=if kE rs/\zm p then za7 rs p rs.length else 0
def zqs(rs:LN)(p:Pt): -4096<=zdu rs p/\zdu rs p<=4096:=by
 unfold zdu;split
 ·rename_i h;have h1:=zdt rs p rs.length (Xi _);have h2:=zb7 rs rs.length;have h3:=h.1.1;omega
 omega
def zbj(n rule:Int):Prop:=rule=1/\n≠0∨rule=2/\n%2≠0
instance (n rule:Int):Decidable (zbj n rule):=wj
def qQ(rs:LN)(rule:Int)(p:Pt):Prop:=zbj (zdu rs p) rule
instance (rs:LN) (rule:Int) (p:Pt):Decidable (qQ rs rule p):=inferInstanceAs (Decidable (zbj _ _))
def zqt(a b:Pt):zjD (zns a b):=zgV (y5 _) (y5 _)
def zzP(p q:Pt)(hp:zjD p)(hq:zjD q):CX 182 [wk p,wk q] (i64 (wdg p q)):=by
 have h:=zpq hp hq;refine zd func182 ?_;(iterate 3 refine wa ?_);exact .refl
def zzQ(a b p:Pt):CX 127 [wk a,wk b,wk p] (i64 (sgn (orP a b p))):=by
 refine zd func127<|wc<|wg (zxW b a)<|wg (zxW p a)<|wg (zzP (zns b a) (zns p a) (zqt _ _) (zqt _ _))<|wg (znr (orP a b p) (-1) 1) ?_;exact zh (zu8 _)
def zgk{n:Int}:0<sgn n↔0<n:=by unfold sgn;split <;> (try split) <;> omega
variable{a:Pt}{b:Pt}
def zCq(h1:a.y<=p.y)(h2:p.y<b.y)(h3:0<sgn (orP a b p)):jL a b p=1:=Xe ⟨h1,h2,zgk.1 h3⟩
def zCr(h0:¬(a.y<=p.y/\p.y<b.y/\0<sgn (orP a b p)))(h1:b.y<=p.y)(h2:p.y<a.y)(h3:0<sgn (orP b a p)):jL a b p= -1:=by
 unfold jL;rw[Xb (λh=>h0 ⟨h.1,h.2.1,zgk.2 h.2.2⟩),Xe ⟨h1,h2,zgk.1 h3⟩]
def zCs(h0:¬(a.y<=p.y/\p.y<b.y/\0<sgn (orP a b p)))(h1:¬(b.y<=p.y/\p.y<a.y/\0<sgn (orP b a p))):jL a b p=0:=by
 unfold jL;rw[Xb (λh=>h0 ⟨h.1,h.2.1,zgk.2 h.2.2⟩),Xb (λh=>h1 ⟨h.1,h.2.1,zgk.2 h.2.2⟩)]
abbrev wq(x:Rc):SV:=.agg (rcE x)
abbrev ww(x:Pnt):SV:=.agg (qb x)
abbrev LX:=List Pnt
end Go.Gs
