/- Dashes in the second text: the intervals. -/
import Derived.Test.YtkngjacccoklaaaGreatDoorMA
import Derived.Test.YtkngjacccoklaaaGreatDoorMBB
import Derived.Test.YtkngjacccoklaaaGreatDoorMAY
set_option maxRecDepth 100000
set_option maxHeartbeats 8000000
set_option linter.all false
namespace Go.Gs
open Go.Proofs
def zd1(pen:Pen)(a:Nat):Int:=(yr pen.d (phD pen a) 0).2
def zbo(pen:Pen)(long:Nat):Nat->Nat->Nat
 |0,a=>a
 |k+1,a=>if a<long/\(kJ (onD pen) a).length<=4096 then zbo pen long k (a+(min (zd1 pen a) ((long:Int)-a)).toNat) else a
def qL(pen:Pen)(long:Int):List (Nat×Nat):=
 if¬kC pen∨long<1∨(0<qB pen.d/\drawn pen.d=0) then[]
 else if qB pen.d=drawn pen.d then[(0,long.toNat)] else kJ (onD pen) (zbo pen long.toNat long.toNat 0)
variable{pen:Pen}{a:Nat}
def zvM{long k:Nat}(h:¬(a<long/\(kJ (onD pen) a).length<=4096)):zbo pen long k a=a:=by
 cases k with
 |zero=>rfl
 |succ k=>unfold zbo;rw[Xc h]
def zkW{pen:Pen}{a:Nat}(hd:uz pen.d)(hper:0<qB pen.d):∃e,pen.d[(yr pen.d (phD pen a) 0).1]?=some e/\1<=zd1 pen a/\zd1 pen a<=256*e/\
  qB pen.d ∣ qu pen.d ((yr pen.d (phD pen a) 0).1+1)-zd1 pen a-((a:Int)+256*pen.ph):=by
 obtain⟨d1,d2,d3,d4⟩:=yg hd;have k0:=Kb ((a:Int)+256*pen.ph) (show qB pen.d≠0 by omega);have k1:=X3 ((a:Int)+256*pen.ph) hper;rw[←zqU pen a]at k0 k1;obtain⟨i,e,g1,g2,g3⟩:=zoj d1 k0 k1;have gp:=zeD (i0:=0) d1 g1 g2 g3;have gs:=ym g1;unfold zd1;rw[gp,Ka];refine⟨e,g1,by dsimp only;omega,by dsimp only;omega,?_⟩;dsimp only;rw[show qu pen.d (i+1)-(qu pen.d i+256*e-phD pen a)-((a:Int)+256*pen.ph)=phD pen a-((a:Int)+256*pen.ph) by omega,zqU]
 have:=Yi ((a:Int)+256*pen.ph) (qB pen.d);exact⟨-(((a:Int)+256*pen.ph)/qB pen.d),by rw[QR];omega⟩
def zvN{pen:Pen}{a b:Nat}(hd:uz pen.d)(hper:0<qB pen.d)(hab:a<b)(hb:(b:Int)<=a+zd1 pen a):
  ((yr pen.d (phD pen a) 0).1%2=0->z7 (onD pen) b=((z7 (onD pen) a).1,some ((z7 (onD pen) a).2.getD a)))/\(¬(yr pen.d (phD pen a) 0).1%2=0->z7 (onD pen) b=(kJ (onD pen) a,none)):=by
 obtain⟨d1,d2,d3,d4⟩:=yg hd;obtain⟨e,h1,h2,h3,h4⟩:=zkW (a:=a) hd hper;have on:∀t,a<=t->t<b->(onD pen t↔(yr pen.d (phD pen a) 0).1%2=0):=λt ht ht2=>zCz d1 h1 h3 h4 ht oM
 exact⟨λk=>zya hab λt a b=>(on t a b).2 k,λk=>ztS hab λt a b c=>k ((on t a b).1 c)⟩
variable{on:Nat->Prop}{b:Nat}
def zlJ[DecidablePred on](h:a<=b):(kJ on a).length<=(kJ on b).length:=by
 obtain⟨k,rfl⟩:∃k,b=a+k:=⟨b-a,oM⟩;clear h
 induction k with
 |zero=>exact Xk _
 |succ k ih=>
  refine XC ih ?_;show(kJ on (a+k)).length<=(kJ on (a+k+1)).length;unfold kJ;rw[ve]
  split
  ·cases (z7 on (a+k)).2 <;> simp
  cases (z7 on (a+k)).2 <;> simp
def zua{pen:Pen}{long:Nat}:∀(k a:Nat),a<=long->zbo pen long k a<=long
 |0,a,h=>h
 |k+1,a,h=>by
  unfold zbo
  split
  ·exact zua k _ oM
  exact h
def zq1{pen:Pen}{long:Nat}(hd:uz pen.d)(hper:0<qB pen.d):∀(k a:Nat),a<=long->long-a<=k->zbo pen long k a=long∨4096<(kJ (onD pen) (zbo pen long k a)).length
 |0,a,h,hk=>.inl (by show a=long;omega)
 |k+1,a,h,hk=>by
  obtain⟨e,h1,h2,h3,h4⟩:=zkW (a:=a) hd hper;unfold zbo
  split
  ·rename_i c;exact zq1 hd hper k _ oM oM
  rename_i c
  by_cases c2:a<long
  ·exact .inr (by have:¬(kJ (onD pen) a).length<=4096:=λk=>c ⟨c2,k⟩;omega)
  exact .inl oM
def zq2(pen:Pen)(long:Int):(qL pen long=kS pen long∨(4096<(qL pen long).length/\4096<(kS pen long).length))/\∀q∈qL pen long,q.1<q.2/\(q.2:Int)<=long/\1<=long:=by
 unfold qL kS
 split
 ·exact⟨.inl rfl,λq hq=>by cases hq⟩
 rename_i h;have hk:kC pen:=Xa.1 λk=>h (.inl k)
 have hl:¬long<1:=λk=>h (.inr (.inl k))
 split
 ·refine⟨.inl rfl,λq hq=>?_⟩;have:=Xv.1 hq;subst this;dsimp only;omega
 rename_i hne;have hd:=hk.2.2.2.2.1;obtain⟨d1,d2,d3,d4⟩:=yg hd;have hps:=zbD pen.d pen.d.length (Xk _);rw[yI]at hps;have q0:=yf (r:=0) d1 pen.d.length (Xk _);have q1:=yf (r:=1) d1 pen.d.length (Xk _);have hdr:=zd0 pen.d;have hper:0<qB pen.d:=oM;have hs:=zua (pen:=pen) (long:=long.toNat) long.toNat 0 (Xh _);refine⟨?_,λq hq=>?_⟩
 ·rcases zq1 (long:=long.toNat) hd hper long.toNat 0 (Xh _) oM with h|h
  ·rw[h];exact .inl rfl
  exact .inr ⟨h,Xw h (zlJ hs)⟩
 have:=zkA q hq;omega
def zvO[DecidablePred on]{z:Nat×Nat}(h:(kJ on a)[(kJ on a).length-1]?=some z):(z.2=a↔∃f,(z7 on a).2=some f)/\∀f,(z7 on a).2=some f->z=(f,a):=by
 unfold kJ at h
 cases ho:(z7 on a).2 with
 |some f=>
  rw[ho]at h;have h:((z7 on a).1++[(f,a)])[((z7 on a).1++[(f,a)]).length-1]?=some z:=h;rw[Xq,show(z7 on a).1.length+[(f,a)].length-1=(z7 on a).1.length from rfl,Qn]at h
  cases h
  exact⟨⟨λ_=>⟨f,rfl⟩,λ_=>rfl⟩,λg hg=>by cases hg;rfl⟩
 |none=>
  rw[ho]at h;have h:((z7 on a).1++[])[((z7 on a).1++[]).length-1]?=some z:=h;rw[XE]at h;have:=((zcf (on:=on) a).1 z (Xf h)).2;exact⟨⟨λk=>by omega,λ⟨f,k⟩=>by cases k⟩,λf k=>by cases k⟩
def zhX(q:Int×Int):List SV:=[i64 q.1,i64 q.2]
def rI(l:List (Nat×Nat)):List (Int×Int):=l.map λq=>((q.1:Int),(q.2:Int))
def zsE(l:List (Nat×Nat))(q:Nat×Nat):rI (l++[q])=rI l++[((q.1:Int),(q.2:Int))]:=by unfold rI;rw[XB];rfl
def zkX(l:List (Nat×Nat)):(rI l).length=l.length:=by unfold rI;simp
variable{i:Nat}
def zyX{l:List (Nat×Nat)}{z:Int×Int}(h:(rI l)[i]?=some z):∃q,l[i]?=some q/\z=((q.1:Int),(q.2:Int)):=by
 unfold rI at h;rw[XD]at h
 cases hq:l[i]? with
 |none=>rw[hq]at h;cases h
 |some q=>rw[hq]at h;exact⟨q,rfl,(Xm h).symm⟩
def zyY[DecidablePred on](h:z7 on b=(kJ on a,none)):kJ on b=kJ on a:=by
 show(z7 on b).1++((z7 on b).2.map λf=>(f,b)).toList=_;rw[h];exact XE _
def zq3[DecidablePred on]{f:Nat}(h:z7 on b=((z7 on a).1,some ((z7 on a).2.getD a)))(hf:(z7 on a).2=some f):
  kJ on a=(z7 on a).1++[(f,a)]/\kJ on b=(z7 on a).1++[(f,b)]:=by
 constructor
 ·unfold kJ;rw[hf];rfl
 show(z7 on b).1++((z7 on b).2.map λf=>(f,b)).toList=_;rw[h,hf];rfl
def zyZ[DecidablePred on](h:z7 on b=((z7 on a).1,some ((z7 on a).2.getD a)))(hf:(z7 on a).2=none):
  kJ on b=kJ on a++[(a,b)]:=by
 show(z7 on b).1++((z7 on b).2.map λf=>(f,b)).toList=((z7 on a).1++((z7 on a).2.map λf=>(f,a)).toList)++[(a,b)];rw[h,hf];simp
def zD8(pen:Pen)(long:Int)(hk:kC pen)(hlong:long<=70368744177664):CG0 151 [.agg (jb pen),i64 long,i64 4096] [] (.sl zhX (rI (qL pen long))) []:=by
 refine zc Tryz.func151 ?_;refine⟨Int×Int,zhX,[],rfl,Ob.o2 ?_⟩;have bad:(¬kC pen∨long<1∨(0<qB pen.d/\drawn pen.d=0))->([]:List (Int×Int))=rI (qL pen long):=λh=>by unfold qL;rw[Xe h];rfl
 have hd:=hk.2.2.2.2.1;obtain⟨d1,d2,d3,d4⟩:=yg hd;have hps:=zbD pen.d pen.d.length (Xk _);rw[yI]at hps;have q0:=yf (r:=0) d1 pen.d.length (Xk _);have q1:=yf (r:=1) d1 pen.d.length (Xk _);have hdr:=zd0 pen.d;refine zb.t (zCB pen.d hd)<|⟨λl1=>?_,λl1=>?_⟩
 ·have l1:long<1:=l1;exact z0 (bad (.inr (.inl l1)))
 have l1:¬long<1:=l1;refine zb.t (zcM pen)<|⟨λh=>absurd hk h,λ_=>?_⟩
 have good:(qB pen.d=drawn pen.d->rI (qL pen long)=[((0:Int),long)])/\(¬qB pen.d=drawn pen.d->¬(0<qB pen.d/\drawn pen.d=0)->qL pen long=kJ (onD pen) (zbo pen long.toNat long.toNat 0)):=by
  refine⟨λh=>?_,λh h0=>?_⟩
  ·unfold qL;rw[Xc (λk=>by rcases k with k|k|k;exact k hk;exact l1 k;omega),Xe h];show[(((0:Nat):Int),((long.toNat:Nat):Int))]=_;rw[show((long.toNat:Nat):Int)=long by omega];rfl
  unfold qL;rw[Xc (λk=>by rcases k with k|k|k;exact k hk;exact l1 k;exact h0 k),Xc h]
 refine⟨λpp=>Br.mk (λdz=>?_) (λdz=>?_),λpp=>?_⟩
 ·have pp:0<qB pen.d:=pp;have dz:drawn pen.d=0:=dz;exact z0 (bad (.inr (.inr ⟨pp,dz⟩)))
 all_goals
  have npd:¬(0<qB pen.d/\drawn pen.d=0):=by
   first
   |exact λh=>dz h.2
   |exact λh=>pp h.1
  clear pp;refine⟨λe=>?_,λe=>?_⟩
  ·have e:qB pen.d=drawn pen.d:=e;refine⟨Int×Int,zhX,[((0:Int),long)],rfl,Ob.o0 ?_⟩;refine⟨[((0:Int),long)],rfl,Ob.o3 ?_⟩;exact z0 (good.1 e).symm
  have e:¬qB pen.d=drawn pen.d:=e;have hR:=good.2 e npd;have hper:0<qB pen.d:=oM
  refine⟨Nat×Nat,λs=>⟨[(1,i64 long),(2,i64 4096),(3,.loc 0 0),(7,.own 1),(10,i64 (s.2:Int))],[(0,.box 43 (jb pen)),(1,.arr 187 zhX 2 (rI (kJ (onD pen) s.2)))],2,107,0⟩,
   λs=>s.2<=long.toNat/\long.toNat-s.2<=s.1/\zbo pen long.toNat s.1 s.2=zbo pen long.toNat long.toNat 0,λs=>s.1,(long.toNat,0),?_,?_,?_⟩
  ·exact⟨Xh _,Xk _,rfl⟩
  ·exact zf [0,1]
  rintro⟨k,a⟩ ⟨h1,h2,h3⟩
  dsimp only at h1 h2 h3;have len:=zkX (kJ (onD pen) a);have over:¬(a<long.toNat/\(kJ (onD pen) a).length<=4096)->LE (.sl zhX (rI (kJ (onD pen) a))) (.sl zhX (rI (qL pen long))):=λh=>z0 (by rw[hR,←h3,zvM h])
  refine⟨λg=>?_,λg=>over λh=>g (show(a:Int)<long by omega)⟩;have g:(a:Int)<long:=g;intro hl1;refine⟨λg2=>?_,λg2=>over λh=>g2 (show((rI (kJ (onD pen) a)).length:Int)<=4096 by omega)⟩;have g2:((rI (kJ (onD pen) a)).length:Int)<=4096:=g2;obtain⟨x,p1,p2,p3,p4⟩:=zkW (a:=a) hd hper;have ax:=d2 x (Xf p1);refine zb.t (zD7 pen a hk hper oM)<|Ar.o ?_;obtain⟨b,hb⟩:∃b,b=a+(min (zd1 pen a) ((long.toNat:Int)-a)).toNat:=⟨_,rfl⟩
  obtain⟨rOn,rOff⟩:=zvN (b:=b) hd hper (show a<b by omega) oM;have hk1:k=(k-1)+1:=oM;have hb1:b<=long.toNat:=oM;have hb2:long.toNat-b<=k-1:=oM
  have hb3:zbo pen long.toNat (k-1) b=zbo pen long.toNat long.toNat 0:=by
   rw[←h3]
   conv=>rhs;rw[hk1]
   show _=if a<long.toNat/\(kJ (onD pen) a).length<=4096 then zbo pen long.toNat (k-1) (a+(min (zd1 pen a) ((long.toNat:Int)-a)).toNat) else a
   rw[Xe ⟨oM,oM⟩,←hb]
  have p5:(yr pen.d (phD pen a) 0).2=zd1 pen a:=rfl;refine⟨λc=>Ar.fit oM ?_,λc=>?_⟩;have hT:((a:Int)+(yr pen.d (phD pen a) 0).2)=(b:Int):=by have c:zd1 pen a<long-a:=c;omega
  rotate_left;have hT:long=(b:Int):=by have c:¬zd1 pen a<long-a:=c;omega
  all_goals
   intro hl2;refine Dv.pos ⟨oM,dC⟩<|⟨λev=>?_,λev=>?_⟩
   ·have ev:(yr pen.d (phD pen a) 0).1%2=0:=by have ev:((yr pen.d (phD pen a) 0).1:Int)%2=0:=ev;omega
    have rOn:=rOn ev;have new:∀T:Int,T=(b:Int)->(z7 (onD pen) a).2=none->rI (kJ (onD pen) a)++[((a:Int),T)]=rI (kJ (onD pen) b):=λT hT h=>by rw[zyZ rOn h,zsE,hT]
    refine⟨λn0=>?_,λn0=>?_⟩
    ·have n0:(0:Int)<((rI (kJ (onD pen) a)).length:Int):=n0;refine Ar.o<|Ob.o<|Ob.o ?_;intro z hz;obtain⟨q,hq,hzq⟩:=zyX (show(rI (kJ (onD pen) a))[(((rI (kJ (onD pen) a)).length:Int)-1).toNat]?=some z from hz);rw[show(((rI (kJ (onD pen) a)).length:Int)-1).toNat=(kJ (onD pen) a).length-1 by omega]at hq;obtain⟨w1,w2⟩:=zvO hq;refine⟨λm=>?_,λm=>?_⟩
     ·have m:z.2=(a:Int):=m;obtain⟨f,hf⟩:=w1.1 (by rw[hzq]at m;dsimp only at m;omega);obtain⟨e1,e2⟩:=zq3 rOn hf;have hz1:z.1=(f:Int):=by rw[hzq,w2 f hf]
      have ll:((((rI (kJ (onD pen) a)).length:Int)-1).toNat)=(rI (z7 (onD pen) a).1).length:=by
       have:(kJ (onD pen) a).length=(z7 (onD pen) a).1.length+1:=by rw[e1,Xq];rfl
       rw[zkX]at len ⊢;rw[zkX];omega
      refine Ar.o<|Ob.o<|Ob.o ?_;intro z' hz';have hzz:z'=z:=Xm (hz'.symm.trans hz)
      first|refine⟨(z'.1,((a:Int)+(yr pen.d (phD pen a) 0).2)),rfl,?_⟩|refine⟨(z'.1,long),rfl,?_⟩
      have eq:∀T:Int,T=(b:Int)->(rI (kJ (onD pen) a)).set (((rI (kJ (onD pen) a)).length:Int)-1).toNat (z'.1,T)=rI (kJ (onD pen) b):=by
       intro T hT;rw[ll,e1,e2,zsE,zsE,zi4 rfl,hzz,hz1,hT]
      exact⟨(k-1,b),⟨hb1,hb2,hb3⟩,zT [0,1] ⟨rfl,rfl,rfl,rfl,Xg (λq=>some (i64 q)) hT,trivial⟩ ⟨rfl,Xg (λq=>some (Mem.arr 187 zhX 2 q)) (eq _ hT),trivial⟩,by dsimp only;omega⟩
     have m:¬z.2=(a:Int):=m
     have hn:(z7 (onD pen) a).2=none:=by
      cases ho:(z7 (onD pen) a).2 with
      |none=>rfl
      |some f=>exact absurd (by rw[hzq];dsimp only;rw[w1.2 ⟨f,ho⟩]) m
     refine Dv.pos ⟨oM,dC⟩<|⟨λ_=>?_,λh=>absurd (show((yr pen.d (phD pen a) 0).1:Int)%2=0 by omega) h⟩;refine⟨Int×Int,zhX,[((a:Int),_)],rfl,Ob.o0 ?_⟩;refine⟨[((a:Int),_)],rfl,Ob.o3 ?_⟩;exact⟨(k-1,b),⟨hb1,hb2,hb3⟩,zT [0,3] ⟨rfl,rfl,rfl,rfl,Xg (λq=>some (i64 q)) hT,trivial⟩ ⟨rfl,Xg (λq=>some (Mem.arr 187 zhX 2 q)) (new _ hT hn),trivial⟩,by dsimp only;omega⟩
    have n0:¬(0:Int)<((rI (kJ (onD pen) a)).length:Int):=n0
    have hn:(z7 (onD pen) a).2=none:=by
     cases ho:(z7 (onD pen) a).2 with
     |none=>rfl
     |some f=>
      have:(kJ (onD pen) a).length=(z7 (onD pen) a).1.length+1:=by rw[(zq3 rOn ho).1,Xq];rfl
      omega
    refine Dv.pos ⟨oM,dC⟩<|⟨λ_=>?_,λh=>absurd (show((yr pen.d (phD pen a) 0).1:Int)%2=0 by omega) h⟩;refine⟨Int×Int,zhX,[((a:Int),_)],rfl,Ob.o0 ?_⟩;refine⟨[((a:Int),_)],rfl,Ob.o3 ?_⟩;exact⟨(k-1,b),⟨hb1,hb2,hb3⟩,zT [0,3] ⟨rfl,rfl,rfl,rfl,Xg (λq=>some (i64 q)) hT,trivial⟩ ⟨rfl,Xg (λq=>some (Mem.arr 187 zhX 2 q)) (new _ hT hn),trivial⟩,by dsimp only;omega⟩
   have ev:¬(yr pen.d (phD pen a) 0).1%2=0:=by have ev:¬((yr pen.d (phD pen a) 0).1:Int)%2=0:=ev;omega
   refine Dv.pos ⟨oM,dC⟩<|⟨λh=>absurd (show((yr pen.d (phD pen a) 0).1:Int)%2=0 from h) oM,λ_=>?_⟩;exact⟨(k-1,b),⟨hb1,hb2,hb3⟩,zT [0,1] ⟨rfl,rfl,rfl,rfl,Xg (λq=>some (i64 q)) hT,trivial⟩ ⟨rfl,Xg (λq=>some (Mem.arr 187 zhX 2 q)) (by rw[zyY (rOff ev)]),trivial⟩,by dsimp only;omega⟩
def zsF(q:List Pt)(x:Pt)(hq:q.length<=100000):CG0 222 [.sl ptE q,.agg (ptE x)] [] (.own 0) [(0,.arr 28 ptE 2 (yW q x))]:=by
 refine qE tok mix Tryz.func222 rfl rfl rfl<|⟨Pt,ptE,[],rfl,Ob.o2 ?_⟩;refine⟨Nat,λi=>⟨[(0,.sl ptE q),(3,.loc 0 0),(5,.own 1),(6,i64 (i:Int))],[(0,.box 28 (ptE x)),(1,.arr 28 ptE 2 (q.take i))],2,40,0⟩,λi=>i<=q.length,λi=>q.length-i,0,?_,?_,?_⟩
 ·exact Xh _
 ·exact zf [0,1]
 rintro i hi
 intro hl1;refine⟨λg=>?_,λg=>?_⟩
 ·have g:(i:Int)<q.length:=g;refine Ob.o ?_;intro y hy;have hy:q[i]?=some y:=hy;refine⟨Pt,ptE,[y],rfl,Ob.o0 ?_⟩;refine⟨[y],rfl,Ob.o15 ?_⟩;exact Ar.o<|⟨i+1,oM,zu [0,3] ⟨rfl,Xg (λq=>some (Mem.arr 28 ptE 2 q)) (by rw[Xl,hy];rfl),trivial⟩,by dsimp only;omega⟩
 have g:¬(i:Int)<q.length:=g;have et:q.take i=q:=Xi oM;have tl:(q.take i).length<=100000:=by rw[et];exact hq
 intro hl2;refine Dr.d<|Br.mk (λz=>?_) (λz=>?_)
 ·have z:(q.length:Int)=0:=z;refine Ob.mk (by kernel_rfl)<|⟨Pt,ptE,[x],rfl,Ob.o0 ?_⟩;refine⟨[x],rfl,Ob.o3 ?_⟩;exact⟨some 3,.own _ rfl,Xg (λq=>some (Mem.arr 28 ptE 2 q)) (by rw[et,zoq oM]),λ_ _=>rfl⟩
 have z:¬(q.length:Int)=0:=z;refine Ar.o<|Ob.o ?_;intro y hy
 have hy:q[q.length-1]?=some y:=by
  have hy:q[((q.length:Int)-1).toNat]?=some y:=hy
  rwa [show((q.length:Int)-1).toNat=q.length-1 by omega]at hy
 refine Ob.mk (by kernel_rfl)<|⟨λk=>?_,λk=>?_⟩
 ·have k:¬y=x:=λh=>k (qi.2 h)
  refine⟨Pt,ptE,[x],rfl,Ob.o0 ?_⟩;refine⟨[x],rfl,Ob.o3 ?_⟩;exact⟨some 3,.own _ rfl,Xg (λq=>some (Mem.arr 28 ptE 2 q)) (by rw[et,zi5 hy k]),λ_ _=>rfl⟩
 have k:y=x:=qi.1 (Xa.1 k);exact⟨some 1,.own _ rfl,Xg (λq=>some (Mem.arr 28 ptE 2 q)) (by rw[et,zop hy k]),λ_ _=>rfl⟩
def zkY{c:List Pt}{i j:Nat}(h:i<=j):atS c i<=atS c j:=by
 obtain⟨k,rfl⟩:∃k,j=i+k:=⟨j-i,oM⟩;clear h
 induction k with
 |zero=>exact Qo _
 |succ k ih=>
  have:=yu (nth c (i+k)) (nth c (i+k+1));show atS c i<=atS c (i+k)+jd (nth c (i+k)) (nth c (i+k+1));omega
def zy0{c:List Pt}{x:Int}{i:Nat}(h1:¬x<atS c i)(h2:x<atS c (i+1)):∀m,i<=m->zkB c x m=i
 |0,h=>by
   have:i=0:=oM;subst this;rfl
 |m+1,h=>by
  by_cases e:i=m+1
  ·rw[e]at h1 ⊢;exact zkU h1
  have:=zkY (c:=c) (show i+1<=m+1 by omega);rw[zyR oM];exact zy0 h1 h2 m oM
def zoF{c:List Pt}{x:Int}{i:Nat}(h:i<=c.length-2)(h1:¬x<atS c i)(h2:x<atS c (i+1)):zdd c x=uJ (nth c i) (nth c (i+1)) (x-atS c i) (jd (nth c i) (nth c (i+1))):=by
 unfold zdd;rw[zy0 h1 h2 _ h];dsimp only;rw[show atS c (i+1)-atS c i=jd (nth c i) (nth c (i+1)) by show atS c i+jd (nth c i) (nth c (i+1))-atS c i=_;omega]
def zvP{a b:Pt}{d:Int}(hd:1<=d/\d<=1099511627776)(ha:zr a):uJ a b 0 d=a:=by
 unfold uJ;rw[Xc oM,zbB ha.1,zbB ha.2,show kV 0 0 d=0 from(zdI oM).2 ⟨Qo 0,oM⟩,Int.zero_mul,Int.zero_mul]
 have e:z6 0 d=0:=by
  have h1:=zyg (M:=0) (show 0<d by omega) (Qo 0) oM;omega
 rw[e]
 cases a
 simp
def zq4{x d:Int}(hd:1<=d):z6 (d*x) d=x:=by
 obtain⟨D,rfl⟩:∃D:Nat,d=D:=⟨d.toNat,oM⟩;have hD:0<D:=oM
 have e:(2*((D:Int)*x).natAbs+(D:Int).natAbs)/(2*(D:Int).natAbs)=x.natAbs:=by
  rw[QF,QJ,show 2*(D*x.natAbs)+D=D+(2*D)*x.natAbs by rw[KC];omega,Nat.add_mul_div_left _ _ oM,Kh oM,Ka]
 unfold z6;rw[e]
 by_cases hx:x<0
 ·have:=Int.mul_neg_of_pos_of_neg (show(0:Int)<D by omega) hx;rw[Xc oM];omega
 have:=XJ (show(0:Int)<=D by omega) (show 0<=x by omega);rw[Xe oM];omega
def zvQ{a b:Pt}{d:Int}(hd:1<=d/\d<=1099511627776)(ha:zr a)(hb:zr b):uJ a b d d=b:=by
 unfold uJ;rw[Xc oM,zbB ha.1,zbB ha.2,zbB hb.1,zbB hb.2,show kV d 0 d=d from(zdI oM).2 ⟨oM,Qo d⟩,zq4 hd.1,zq4 hd.1]
 cases b
 simp;omega
def zvR{a b:Pt}(ha:zr a)(hb:zr b)(h:a≠b):1<=jd a b:=by
 have hs:=zku hb ha;have hr:=yu a b;refine Jr.1 λk=>?_
 unfold jd zp3 at k hr;have dr:=zex (jn (zae b a)) (jn (zae b a))
 have d0:1<=ziI (zae b a) (zae b a):=by
  unfold ziI dtp;have x0:=ja (js (zae b a)).x;have y0:=ja (js (zae b a)).y;refine Jr.1 λk2=>h ?_
  have zx:(js (zae b a)).x*(js (zae b a)).x=0:=oM;have zy:(js (zae b a)).y*(js (zae b a)).y=0:=oM;have zx:=(Int.mul_eq_zero.1 zx).elim id id;have zy:=(Int.mul_eq_zero.1 zy).elim id id;rw[hs]at zx zy;have zx:hI (b.x-a.x)=0:=zx;have zy:hI (b.y-a.y)=0:=zy;have e:∀n,hI n=0->n=0:=λn hn=>by unfold hI kV at hn;split at hn <;> (try split at hn) <;> omega
  have:=e _ zx;have:=e _ zy
  cases a;cases b
  simp only[Pt.mk.injEq];dsimp only at*;omega
 have:=zse (n:=65536*ziI (zae b a) (zae b a)) (a:=256) oM (by unfold ziI at d0 ⊢;omega) oM;omega
def zmW:∀{l:List Pt} {i:Nat},jA l->i+1<l.length->nth l i≠nth l (i+1)
 |[],_,_,h=>by cases h
 |[_],i,_,h=>by simp at h
 |a::b::r,0,h,_=>h.1 b rfl
 |a::b::r,i+1,h,hl=>zmW (l:=b::r) (i:=i) h.2 (by simpa using hl)
def zsG(p:Pl):jA (zj p):=by
 have ha:jA (zt p).pts:=by
  unfold zt;dsimp only
  split
  ·exact zbl (ue _)
  exact ue _
 rw[yJ]
 by_cases h:(zt p).cl=true/\2<=(zt p).pts.length
 ·rw[zgQ h.1 h.2];refine zfA ha λe=>?_
  have hc:p.cl=true:=h.1;have ed:=zfI hc;have ht:=zms (l:=qU p.pts) (ue _) (by rw[←ed];omega);rw[←ed,e]at ht;refine ht ?_;unfold nth;rw[Xt,Jl,Xb (show 0<(zt p).pts.length by omega)];rfl
 rw[zoA h];exact ha
variable{p:Pl}
def zgT(h:∀q∈p.pts,zr q)(hi:i<(zj p).length):zr (nth (zj p) i):=h _ (zyh (ztU hi))
def zub(h:∀q∈p.pts,zr q)(hi:i+1<(zj p).length):1<=jd (nth (zj p) i) (nth (zj p) (i+1)):=
 zvR (zgT h oM) (zgT h hi) (zmW (zsG p) hi)
def zbp(c:List Pt)(i:Nat):atS c (i+1)=atS c i+jd (nth c i) (nth c (i+1)):=rfl
def zuc(h:∀q∈p.pts,zr q){t:Int}(hi:i+1<(zj p).length)(h1:atS (zj p) i<t)(h2:t<=atS (zj p) (i+1)):
  zdd (zj p) t=uJ (nth (zj p) i) (nth (zj p) (i+1)) (t-atS (zj p) i) (jd (nth (zj p) i) (nth (zj p) (i+1))):=by
 have pr:=yu (nth (zj p) i) (nth (zj p) (i+1));have sp:=zub h hi
 by_cases c:t<atS (zj p) (i+1)
 ·exact zoF oM oM c
 have e:t=atS (zj p) (i+1):=oM
 by_cases c2:i+2<(zj p).length
 ·have sp2:=zub h (i:=i+1) c2;have pr2:=yu (nth (zj p) (i+1)) (nth (zj p) (i+1+1));rw[zoF (i:=i+1) oM oM (by rw[zbp (zj p) (i+1)];omega),e,Int.sub_self,zvP oM (zgT h hi)];rw[show atS (zj p) (i+1)-atS (zj p) i=jd (nth (zj p) i) (nth (zj p) (i+1)) by rw[zbp];omega,zvQ oM (zgT h oM) (zgT h hi)]
 unfold zdd;rw[show(zj p).length-2=i by omega,zkU oM];dsimp only;rw[show atS (zj p) (i+1)-atS (zj p) i=jd (nth (zj p) i) (nth (zj p) (i+1)) by rw[zbp];omega]
def zq5{c:List Pt}{f t:Int}:∀{n:Nat},(∀j,j<n->¬f<atS c j)->zfa c f t n=[]
 |0,_=>rfl
 |n+1,h=>by rw[zeK,zq5 λj hj=>h j oM,Xc λk=>h n oM k.1];rfl
def zsH(c:List Pt)(f t:Int)(i:Nat):List Pt:=(if f<atS c i then[zdd c f] else[])++zfa c f t i++(if t<=atS c i then[zdd c t] else[])
def ziK(c:List Pt)(f t:Int)(i:Nat):List Pt:=kw [] (zsH c f t i)
variable{f:Int}
def zvS(h:∀q∈p.pts,zr q){t:Int}(hi:i+1<(zj p).length)(hft:f<t):
  ziK (zj p) f t (i+1)=kw (ziK (zj p) f t i)
   ((if¬f<atS (zj p) i/\f<atS (zj p) (i+1) then[uJ (nth (zj p) i) (nth (zj p) (i+1)) (f-atS (zj p) i) (jd (nth (zj p) i) (nth (zj p) (i+1)))] else[])++
    (if f<atS (zj p) i/\atS (zj p) i<t then[nth (zj p) i] else[])++
    (if atS (zj p) i<t/\t<=atS (zj p) (i+1) then[uJ (nth (zj p) i) (nth (zj p) (i+1)) (t-atS (zj p) i) (jd (nth (zj p) i) (nth (zj p) (i+1)))] else[])):=by
 have mono:=zkY (c:=zj p) (show i<=i+1 by omega);have key:∀A B,kw [] (A++B)=kw (kw [] A) B:=λA B=>by unfold kw;rw[KW]
 unfold ziK;rw[←key];congr 1;unfold zsH;rw[zeK]
 by_cases F:f<atS (zj p) i
 ·rw[Xe F,Xe (show f<atS (zj p) (i+1) by omega),Xc (show¬(¬f<atS (zj p) i/\f<atS (zj p) (i+1)) from λk=>k.1 F)]
  by_cases T:t<=atS (zj p) i
  ·rw[Xe T,Xe (show t<=atS (zj p) (i+1) by omega),Xc (show¬(f<atS (zj p) i/\atS (zj p) i<t) by omega),Xc (show¬(atS (zj p) i<t/\t<=atS (zj p) (i+1)) by omega)];simp
  rw[Xc T,Xe (show f<atS (zj p) i/\atS (zj p) i<t by omega)]
  by_cases T2:t<=atS (zj p) (i+1)
  ·rw[Xe T2,Xe (show atS (zj p) i<t/\t<=atS (zj p) (i+1) by omega),zuc h hi oM T2];simp
  rw[Xc T2,Xc (show¬(atS (zj p) i<t/\t<=atS (zj p) (i+1)) by omega)];simp
 have mn:zfa (zj p) f t i=[]:=zq5 λj hj k=>F (by have:=zkY (c:=zj p) (show j<=i by omega);omega)
 rw[Xc F,mn,Xc (show¬(f<atS (zj p) i/\atS (zj p) i<t) by omega),Xc (show¬t<=atS (zj p) i by omega)]
 by_cases F2:f<atS (zj p) (i+1)
 ·rw[Xe F2,Xe (show¬f<atS (zj p) i/\f<atS (zj p) (i+1) by omega),zoF (i:=i) oM F F2]
  by_cases T2:t<=atS (zj p) (i+1)
  ·rw[Xe T2,Xe (show atS (zj p) i<t/\t<=atS (zj p) (i+1) by omega),zuc h hi oM T2];simp
  rw[Xc T2,Xc (show¬(atS (zj p) i<t/\t<=atS (zj p) (i+1)) by omega)];simp
 rw[Xc F2,Xc (show¬(¬f<atS (zj p) i/\f<atS (zj p) (i+1)) by omega),Xc (show¬t<=atS (zj p) (i+1) by omega),Xc (show¬(atS (zj p) i<t/\t<=atS (zj p) (i+1)) by omega)];simp
def zy1{t:Int}(hft:f<t)(ht:t<=zL p):ziK (zj p) f t ((zj p).length-1)=vi (zj p) f t:=by
 have e:atS (zj p) ((zj p).length-1)=zL p:=rfl;unfold ziK zsH vi;rw[Xe (show f<atS (zj p) ((zj p).length-1) by omega),Xe (show t<=atS (zj p) ((zj p).length-1) by omega)]
def zy2(c:List Pt)(f t:Int)(i:Nat):(ziK c f t i).length<=i+2:=by
 have h:=vu (zsH c f t i) []
 have hm:(zfa c f t i).length<=i:=by
  unfold zfa;rw[Xx];exact XC (KY _ _) (by simp)
 unfold ziK
 have h2:(zsH c f t i).length<=i+2:=by
  unfold zsH;rw[Xq,Xq]
  split <;> split <;> simp <;> omega
 have h3:([]:List Pt).length=0:=rfl;omega
def zBg(p:Pl)(f t:Int)(hp:p.pts.length<=4096)(ok:∀q∈p.pts,zr q)(hf:0<=f)(hft:f<t)(ht:t<=zL p):
  CG0 153 [.agg (plE p),i64 f,i64 t] [] (.agg (plE ⟨vi (zj p) f t,false⟩)) []:=by
 refine zc Tryz.func153 ?_;have lr:=zfM p hp;have dl:=jp p;have ll:=jD (zt p);rw[←yJ]at ll;refine zb.t (zq0 p hp ok) ?_;have ef:zc9 0 [zbM f [zL p]]=f:=show max 0 (min f (zL p))=f by omega
 have et:zc9 0 [zbM t [zL p]]=t:=show max 0 (min t (zL p))=t by omega
 refine⟨λh=>absurd (show zc9 0 [zbM t [zL p]]<=zc9 0 [zbM f [zL p]] from h) oM,λ_=>?_⟩;refine zb.t (zyW p hp)<|⟨Pt,ptE,[],rfl,Ob.o2 ?_⟩;refine⟨Nat,λi=>⟨[(6,.loc 0 0),(8,i64 f),(9,i64 t),(10,.sl ptE (zj p)),(11,.own 1),(12,i64 (atS (zj p) i)),(13,i64 ((i:Int)+1))],[(0,.box 143 [.val (.slice none 0 0),.val (.bool false)]),(1,.arr 28 ptE 2 (ziK (zj p) f t i))],2,120,0⟩,λi=>i<=(zj p).length-1,λi=>(zj p).length-i,0,?_,?_,?_⟩
 ·exact Xh _
 ·refine zT [1,2] ⟨rfl,Xg (λq=>some (i64 q)) ef,Xg (λq=>some (i64 q)) et,rfl,rfl,rfl,rfl,trivial⟩ ⟨rfl,Xg (λq=>some (Mem.arr 28 ptE 2 q)) ?_,trivial⟩;unfold ziK zsH;rw[show atS (zj p) 0=0 from rfl,Xc oM,Xc oM];rfl
 rintro i hi
 have ar:=vT (zj p) i;have sl:=zy2 (zj p) f t i;intro hl1;refine⟨λg=>?_,λg=>?_⟩;rotate_left
 ·have g:¬(i:Int)+1<(zj p).length:=g;refine ji (.cons (z0 ?_) (.cons (zd (show¬(false=true) by decide)) .nil));rw[show i=(zj p).length-1 by omega,zy1 hft ht]
 have g:(i:Int)+1<(zj p).length:=g;have hi1:i+1<(zj p).length:=oM;have key:=zvS ok hi1 hft;rw[zbp]at key;refine Dr.k<|Ar.o<|Ob.o ?_;intro x hx
 have hx:=qn (show(zj p)[i]?=some x by
  have hx:(zj p)[((i:Int)+1-1).toNat]?=some x:=hx
  rwa [show((i:Int)+1-1).toNat=i by omega]at hx)
 have hxs:∀x',(zj p)[((i:Int)+1-1).toNat]?=some x'->x'=x:=λx' h=>by
  rw[show((i:Int)+1-1).toNat=i by omega]at h;exact(qn h).trans hx.symm
 refine Ob.o ?_;intro y hy;have hy:=qn (show(zj p)[i+1]?=some y from hy);have hys:∀y',(zj p)[((i:Int)+1).toNat]?=some y'->y'=y:=λy' h=>(qn (show(zj p)[i+1]?=some y' from h)).trans hy.symm
 refine zb.t (zt9 x y) ?_;have pr:=yu x y;rw[←hx,←hy]at key;refine⟨λa1=>?_,λa1=>?_⟩;have a1:atS (zj p) i<=f:=a1;refine Ar.o<|Br.mk (λa2=>?_) (λa2=>?_);have a2:f<atS (zj p) i+jd x y:=a2;refine Dr.d<|Ar.o<|Ob.o ?_;intro x' hx';have hx':=hxs x' hx';refine Ob.o ?_;intro y' hy';have hy':=hys y' hy';rw[hx',hy'];refine Ar.o<|zb.t (zxS x y (f-atS (zj p) i) (jd x y))<|zb.fresh _ _ (zsF _ (uJ x y (f-atS (zj p) i) (jd x y)) oM) rfl (λ_ _=>rfl) (.inr (λ_ _=>rfl)) ?_
 refine Ob.mk (by kernel_rfl) ?_;have s1:=zgH (ziK (zj p) f t i) (uJ x y (f-atS (zj p) i) (jd x y));refine⟨λb1=>absurd (show f<atS (zj p) i from b1) oM,λ_=>?_⟩;rotate_left;have a2:¬f<atS (zj p) i+jd x y:=a2;refine⟨λb1=>absurd (show f<atS (zj p) i from b1) oM,λ_=>?_⟩;rotate_left;have a1:¬atS (zj p) i<=f:=a1;refine⟨λb1=>?_,λb1=>absurd (show f<atS (zj p) i by omega) b1⟩;refine⟨λb2=>?_,λb2=>?_⟩;have b2:atS (zj p) i<t:=b2;refine Ar.o<|Ob.o ?_;intro x' hx'
 have hx':=hxs x' hx';rw[hx'];have s2:=zgH (ziK (zj p) f t i) x;refine zb.fresh _ _ (zsF (ziK (zj p) f t i) x oM) rfl (λ_ _=>rfl) (.inr (λ_ _=>rfl)) ?_;rotate_left;have b2:¬atS (zj p) i<t:=b2;rotate_left
 all_goals
  refine⟨λc1=>?_,λc1=>?_⟩;have c1:atS (zj p) i<t:=c1;refine Ar.o<|Br.mk (λc2=>?_) (λc2=>?_);have c2:t<=atS (zj p) i+jd x y:=c2;refine Dr.d<|Ar.o<|Ob.o ?_;intro x' hx';have hx':=hxs x' hx';refine Ob.o ?_;intro y' hy';have hy':=hys y' hy';rw[hx',hy'];refine Ar.o<|zb.t (zxS x y (t-atS (zj p) i) (jd x y))<|zb.fresh _ _ (zsF _ (uJ x y (t-atS (zj p) i) (jd x y)) oM) rfl (λ_ _=>rfl) (.inr (λ_ _=>rfl))<|Ob.mk (by kernel_rfl) ?_;rotate_left
  have c2:¬t<=atS (zj p) i+jd x y:=c2;rotate_left;have c1:¬atS (zj p) i<t:=c1
  all_goals
   (iterate 2 refine Ar.o ?_);refine⟨i+1,oM,?_,by dsimp only;omega⟩;have E:=key
   split at E <;> split at E <;> split at E <;> first
    |(exfalso;omega)
    |exact zT [0,1] ⟨rfl,rfl,rfl,rfl,rfl,Xg (λq=>some (i64 q)) (by rw[zbp,←hx,←hy]),Xg (λq=>some (i64 q)) oM,trivial⟩ ⟨rfl,Xg (λq=>some (Mem.arr 28 ptE 2 q)) E.symm,trivial⟩
    |exact zT [0,2] ⟨rfl,rfl,rfl,rfl,rfl,Xg (λq=>some (i64 q)) (by rw[zbp,←hx,←hy]),Xg (λq=>some (i64 q)) oM,trivial⟩ ⟨rfl,Xg (λq=>some (Mem.arr 28 ptE 2 q)) E.symm,trivial⟩
    |exact zT [0,3] ⟨rfl,rfl,rfl,rfl,rfl,Xg (λq=>some (i64 q)) (by rw[zbp,←hx,←hy]),Xg (λq=>some (i64 q)) oM,trivial⟩ ⟨rfl,Xg (λq=>some (Mem.arr 28 ptE 2 q)) E.symm,trivial⟩
def zvT{long:Int}{q:Nat×Nat}(h:q∈kS pen long)(h1:q.1=0)(h2:(q.2:Int)=long):kS pen long=[q]:=by
 unfold kS at h ⊢
 split at h
 ·cases h
 rename_i k;rw[Xc k]
 split at h
 ·rename_i k2;rw[Xe k2];have:=Xv.1 h;rw[this]
 rename_i k2;rw[Xc k2];exact zAP h h1 oM
def zlK(p:Pl)(q:Nat×Nat):Pl:=⟨vi (zj p) q.1 q.2,false⟩
def zy3(h:¬(p.cl=true/\qL pen (zL p)=[(0,(zL p).toNat)]))(hR:qL pen (zL p)=kS pen (zL p)):
  (kS pen (zL p)).map (jW p)=(kS pen (zL p)).map (zlK p):=by
 refine Qm λq hq=>?_
 unfold jW;refine Xc λk=>h ⟨k.1,?_⟩
 rw[hR,zvT hq k.2.1 k.2.2,←k.2.1,show(zL p).toNat=q.2 by omega]
def zd2(p:Pl)(pen:Pen)(j:Nat):Nat:=jm (((qL pen (zL p)).take j).map (zlK p))
def zvU{j:Nat}{y:Nat×Nat}(h:(qL pen (zL p))[j]?=some y):zd2 p pen (j+1)=zd2 p pen j+(zlK p y).pts.length:=by
 unfold zd2;rw[Xl,h,XB,zgS];show _+jm [zlK p y]=_;unfold jm;simp
def zBh(p:Pl)(pen:Pen)(j:Nat):zd2 p pen j<=jm ((qL pen (zL p)).map (zlK p)):=by
 have e:(qL pen (zL p)).map (zlK p)=((qL pen (zL p)).take j).map (zlK p)++((qL pen (zL p)).drop j).map (zlK p):=by
  rw[←XB,Kj]
 rw[e,zgS];exact Jv _ _
def zBi(p:Pl)(pen:Pen)(j:Nat):((qL pen (zL p)).take j).length<=zd2 p pen j:=by
 have:=zeM (l:=((qL pen (zL p)).take j).map (zlK p)) λx hx=>by
  obtain⟨q,hq,rfl⟩:=XP.1 hx;exact(zoE (zj p) q.1 q.2).1
 rwa [Xx]at this
def zD9(p:Pl)(pen:Pen)(hp:p.pts.length<=4096):CG0 100 [.agg (plE p),.agg (jb pen)] [] (zou (jv p pen)) []:=by
 refine zc Tryz.func100 ?_
 have es:jv p pen=if¬kC pen then([],13) else if¬∀q∈p.pts,zr q then([],6) else if 4096<p.pts.length then([],5)
  else if pen.d=[] then([zt p],0) else if 4096<jm ((kS pen (zL p)).map (jW p)) then([],5) else((kS pen (zL p)).map (jW p),0):=rfl
 refine zb.t (zcM pen)<|⟨λk=>?_,λk=>?_⟩
 ·have k:¬kC pen:=k;exact jo (by rw[es,Xe k])
 have k:kC pen:=Xa.1 k;rw[kH k]at es;refine zb.t (zt8 p.pts)<|⟨λok=>?_,λok=>?_⟩
 ·have ok:¬∀q∈p.pts,zr q:=ok;exact jo (by rw[es,Xe ok])
 have ok:∀q∈p.pts,zr q:=Xa.1 ok;rw[kH ok,Xc (show¬4096<p.pts.length by omega)]at es;intro hl1;refine⟨λh=>absurd (show(4096:Int)<p.pts.length from h) oM,λ_=>?_⟩;have lr:=zfM p hp;have dl:=jp p;have ll:=jD (zt p);rw[←yJ]at ll;refine zb.t (zq0 p hp ok)<|zb.t (zD8 pen (zL p) k oM) ?_;have hr:=zq2 pen (zL p);have rl:=zkX (qL pen (zL p));intro hl2
 have whole:pen.d=[]∨(p.cl=true/\qL pen (zL p)=[(0,(zL p).toNat)])->jv p pen=([zt p],0):=λh=>by
  by_cases z:pen.d=[]
  ·rw[es,Xe z]
  obtain⟨c,e⟩:=h.resolve_left z
  have eP:kS pen (zL p)=[(0,(zL p).toNat)]:=by
   rcases hr.1 with h|h
   ·rw[←h,e]
   rw[e]at h;exact absurd h.1 (by simp)
  have q1:=hr.2 (0,(zL p).toNat) (by rw[e];exact .head _)
  have ed:(kS pen (zL p)).map (jW p)=[zt p]:=by
   rw[eP];show[jW p (0,(zL p).toNat)]=_;unfold jW;rw[Xe ⟨c,rfl,by dsimp only;omega⟩]
  rw[es,Xc z,ed,Xc];unfold jm;simp;omega
 have W:LE (.tup [.sl plE [zt p],i64 0]) (zou ([zt p],0)):=.refl;refine⟨λz=>?_,λz=>?_⟩
 ·have z:(pen.d.length:Int)=0:=z;have z:pen.d=[]:=Xp oM;refine zb.t (zi7 p hp)<|⟨Pl,plE,[zt p],rfl,Ob.o0 ?_⟩;rw[whole (.inl z)];exact W
 have z:¬(pen.d.length:Int)=0:=z;rw[Xc (λh=>z (by rw[h];rfl))]at es
 have hq0:∀u,(rI (qL pen (zL p)))[0]?=some u->((rI (qL pen (zL p))).length:Int)=1->(u.1=0/\u.2=zL p↔qL pen (zL p)=[(0,(zL p).toNat)]):=λu hu n1=>by
  obtain⟨q,hq,huq⟩:=zyX hu;have n1:(qL pen (zL p)).length=1:=oM;obtain⟨q',hq'⟩:=J6.1 n1;rw[hq']at hq ⊢
  cases hq
  constructor
  ·rintro⟨a,b⟩
   rw[huq]at a b;dsimp only at a b;rw[show q=(q.1,q.2) from rfl,show q.1=0 by omega,show q.2=(zL p).toNat by omega]
  intro h;have e:q=(0,(zL p).toNat):=List.singleton_inj.1 h;rw[huq,e];exact⟨rfl,by dsimp only;omega⟩
 refine⟨λc=>λhl3=>Br.mk (λn1=>Ob.mk (by have n1:((rI (qL pen (zL p))).length:Int)=1:=n1;omega) λu hu=>Br.mk (λe=>?_) (λe=>?_)) (λn1=>?_),λc=>?_⟩
 ·have e:u.1=0/\u.2=zL p/\True:=e;refine zb.t (zi7 p hp)<|⟨Pl,plE,[zt p],rfl,Ob.o0 ?_⟩;rw[whole (.inr ⟨c,(hq0 u hu n1).1 ⟨e.1,e.2.1⟩⟩)];exact W
 all_goals
  have hnw:¬(p.cl=true/\qL pen (zL p)=[(0,(zL p).toNat)]):=by
   first
   |exact λh=>e ⟨((hq0 u hu n1).2 h.2).1,((hq0 u hu n1).2 h.2).2,trivial⟩
   |exact λh=>n1 (show((rI (qL pen (zL p))).length:Int)=1 by rw[zkX,h.2];rfl)
   |exact λh=>c h.1
  have ed:=zy3 hnw
  have bad:∀i,4096<zd2 p pen i->jv p pen=([],5):=λi h=>by
   rw[es,Xe ?_]
   rcases hr.1 with hR|hR
   ·rw[ed hR,←hR];exact Xw h (zBh p pen i)
   have:=zeM (l:=(kS pen (zL p)).map (jW p)) λx hx=>by
    obtain⟨q,hq,rfl⟩:=XP.1 hx;exact(zeL hp hq).1
   rw[Xx]at this;omega
  refine⟨Pl,plE,[],rfl,Ob.o2 ?_⟩;refine⟨Nat,λi=>⟨[(2,.loc 0 0),(7,.sl zhX (rI (qL pen (zL p)))),(8,.own 1),(9,i64 (zd2 p pen i:Int)),(10,i64 (i:Int))],[(0,.box 143 [.sl ptE p.pts,pr (p.cl=true)]),(1,.arr 143 plE 2 (((qL pen (zL p)).take i).map (zlK p)))],2,83,0⟩,λi=>i<=(qL pen (zL p)).length/\zd2 p pen i<=4096,λi=>(qL pen (zL p)).length-i,0,?_,?_,?_⟩
  ·exact⟨Xh _,Xh _⟩
  ·exact zf [0,2]
  rintro i ⟨h1,h2⟩
  have cg:=zBi p pen i;intro hl4;refine⟨λg=>?_,λg=>?_⟩;rotate_left
  ·have g:¬(i:Int)<((rI (qL pen (zL p))).length:Int):=g;have et:(qL pen (zL p)).take i=qL pen (zL p):=Xi oM;have hR:=hr.1.resolve_right λh=>by rw[et]at cg;omega
   unfold zd2 at h2;rw[et,hR,←ed hR]at h2;rw[es,Xc oM];exact zM (z0 (by rw[et,hR,ed hR])) .refl
  have g:(i:Int)<((rI (qL pen (zL p))).length:Int):=g;refine Dr.d<|Ob.o ?_;intro z hz;obtain⟨q,hq,hzq⟩:=zyX (show(rI (qL pen (zL p)))[i]?=some z from hz);refine Ob.o ?_;intro z' hz';have hzz:z'=z:=Xm (hz'.symm.trans hz);rw[hzz];have f:=hr.2 q (Xf hq);have cs:=zvU hq;have cl:=zoE (zj p) q.1 q.2;have ez1:z.1=(q.1:Int):=by rw[hzq]
  have ez2:z.2=(q.2:Int):=by rw[hzq]
  have ez:vi (zj p) z.1 z.2=vi (zj p) q.1 q.2:=by rw[ez1,ez2]
  refine zb.t (zBg p z.1 z.2 hp ok oM oM oM)<|Ob.mk (by kernel_rfl) ?_;have cs:zd2 p pen (i+1)=zd2 p pen i+(vi (zj p) z.1 z.2).length:=by rw[ez];exact cs
  rw[←ez]at cl;intro hl5;refine Ar.fit (show-9223372036854775808<=(zd2 p pen i:Int)+((vi (zj p) z.1 z.2).length:Int)/\(zd2 p pen i:Int)+((vi (zj p) z.1 z.2).length:Int)<=9223372036854775807 by omega)<|⟨λo=>?_,λo=>?_⟩
  ·have o:(4096:Int)<(zd2 p pen i:Int)+((vi (zj p) z.1 z.2).length:Int):=o;exact jo (bad (i+1) oM)
  have o:¬(4096:Int)<(zd2 p pen i:Int)+((vi (zj p) z.1 z.2).length:Int):=o;refine⟨Pl,plE,[⟨vi (zj p) z.1 z.2,false⟩],rfl,Ob.o0 ?_⟩;refine⟨[⟨vi (zj p) z.1 z.2,false⟩],rfl,Ob.mk ⟨(by show _*(32:Int)<=_;simp only[Xx,Xn,Xr];omega),(by simp only[Xx,Xn,Xr];omega),dC,λ_ _=>rfl⟩ ?_⟩;refine Ar.o ?_
  exact⟨i+1,⟨oM,oM⟩,zT [0,4] ⟨rfl,rfl,rfl,Xg (λn=>some (i64 n)) (show(zd2 p pen i:Int)+((vi (zj p) z.1 z.2).length:Int)=((zd2 p pen (i+1):Nat):Int) by omega),rfl,trivial⟩ ⟨rfl,Xg (λq=>some (Mem.arr 143 plE 2 q)) (by rw[Xl,hq,XB,ez];rfl),trivial⟩,by dsimp only;omega⟩
def jO:List Pl->Pen->List Pl×Int
 |[],_=>([],0)
 |p::r,pen=>if (jv p pen).2≠0 then([],(jv p pen).2)
  else if (jO r pen).2≠0 then([],(jO r pen).2) else((jv p pen).1++(jO r pen).1,0)
def zcT(l:List Pl)(pen:Pen):List Pl:=l.flatMap λp=>(jv p pen).1
def zmX{l:List Pl}{x:Pl}(h:l[i]?=some x):zcT (l.take (i+1)) pen=zcT (l.take i) pen++(jv x pen).1:=by
 unfold zcT;rw[Xl,h,Qk];simp
def zkZ{pen:Pen}:∀{l:List Pl},(∀p∈l,(jv p pen).2=0)->jO l pen=(zcT l pen,0)
 |[],_=>rfl
 |p::r,h=>by
  have ih:=zkZ λq hq=>h q (.tail _ hq)
  unfold jO;rw[qK (h p (.head _)),ih];rfl
def zhY{pen:Pen}:∀{l:List Pl} {i:Nat} {x:Pl},l[i]?=some x->(∀p∈l.take i,(jv p pen).2=0)->¬(jv x pen).2=0->jO l pen=([],(jv x pen).2)
 |p::r,0,x,h,_,hx=>by
  cases h
  unfold jO;rw[Xe hx]
 |p::r,i+1,x,h,ha,hx=>by
  have ih:=zhY (l:=r) (i:=i) h (λq hq=>ha q (by rw[Km];exact .tail _ hq)) hx;unfold jO;rw[qK (ha p (by rw[Km];exact .head _)),ih];exact Xe hx
def zk0:∀{l:List Pl} {q:Pl},q∈l->q.pts.length<=jm l
 |x::r,q,h=>by
  have e:jm (x::r)=x.pts.length+jm r:=by unfold jm;simp
  rw[e]
  cases h with
  |head=>omega
  |tail _ h=>have:=zk0 h;omega
def zbE{p:Pl}{pen:Pen}(hp:p.pts.length<=4096):(jv p pen).1.length<=4096/\∀q∈(jv p pen).1,q.pts.length<=4096:=by
 unfold jv
 split
 ·exact⟨Xh _,λq hq=>by cases hq⟩
 split
 ·exact⟨Xh _,λq hq=>by cases hq⟩
 split
 ·exact⟨Xh _,λq hq=>by cases hq⟩
 split
 ·refine⟨by show 1<=4096;decide,λq hq=>?_⟩;rw[Xv.1 hq];have:=jp p;omega
 split
 ·exact⟨Xh _,λq hq=>by cases hq⟩
 rename_i h
 have hg:=zeM (l:=(kS pen (zL p)).map (jW p)) λx hx=>by
  obtain⟨q,hq,rfl⟩:=XP.1 hx;exact(zeL hp hq).1
 refine⟨by dsimp only;omega,λq hq=>?_⟩;have hq:q∈(kS pen (zL p)).map (jW p):=hq;have:=zk0 hq;omega
def zfO{pen:Pen}:∀{l:List Pl},(∀p∈l,p.pts.length<=4096)->(zcT l pen).length<=4096*l.length/\∀q∈zcT l pen,q.pts.length<=4096
 |[],_=>⟨Xk 0,λq hq=>by cases hq⟩
 |p::r,hl=>by
  obtain⟨i1,i2⟩:=zfO (pen:=pen) (l:=r) λq hq=>hl q (.tail _ hq)
  obtain⟨f1,f2⟩:=zbE (pen:=pen) (hl p (.head _));have e:zcT (p::r) pen=(jv p pen).1++zcT r pen:=rfl;rw[e,Xq,Xn];refine⟨oM,λq hq=>?_⟩
  rcases Xs.1 hq with hq|hq
  ·exact f2 q hq
  exact i2 q hq
def zEa(l:List Pl)(pen:Pen)(hl:l.length<=4096)(hp:∀q∈l,q.pts.length<=4096):CG0 130 [.sl plE l,.agg (jb pen)] [] (zou (jO l pen)) []:=by
 refine zc Tryz.func130 ?_;intro hl1;refine⟨Nat,λi=>⟨[(3,.loc 0 0),(6,.own 1),(11,.sl plE l),(12,i64 (l.length:Int)),(13,i64 (i:Int))],[(0,.box 43 (jb pen)),(1,.arr 143 plE 2 (zcT (l.take i) pen))],2,31,0⟩,λi=>i<=l.length/\∀q∈l.take i,(jv q pen).2=0,λi=>l.length-i,0,?_,?_,?_⟩
 ·exact⟨Xh _,λq hq=>by cases hq⟩
 ·exact zC [(0,some 0),(1,none)]
 rintro i ⟨h1,h2⟩
 obtain⟨f1,_⟩:=zfO (pen:=pen) (l:=l.take i) λq hq=>hp q (XL hq)
 rw[Xo]at f1;refine⟨λg=>?_,λg=>?_⟩
 ·have g:(i:Int)<l.length:=g;refine Ob.o ?_;intro x hx;have hx:l[i]?=some x:=hx;have hpx:=hp x (Xf hx);refine zb.t (zyV x pen hpx)<|⟨λz=>?_,λz=>?_⟩
  ·have z:¬(jv x pen).2=0:=z;exact jo (zhY hx h2 z)
  have z:(jv x pen).2=0:=Xa.1 z;obtain⟨s1,s2⟩:=zbE (pen:=pen) hpx;refine⟨(jv x pen).1,rfl,Ob.o26 ?_⟩;exact Ar.o<|⟨i+1,⟨oM,zgP hx h2 z⟩,zu [0,3] ⟨rfl,Xg (λq=>some (Mem.arr 143 plE 2 q)) (zmX hx).symm,trivial⟩,by dsimp only;omega⟩
 have g:¬(i:Int)<l.length:=g;have et:l.take i=l:=Xi oM;rw[et]at h2;rw[zkZ h2];exact zM (z0 (by rw[et])) .refl
def zvW{l:List Sg}{tol:Int}(h:¬(zW l tol).2=0):(zW l tol).1=[]:=by
 unfold zW at h ⊢
 split at h <;> rename_i k1
 ·rw[Xe k1]
 rw[Xc k1]
 split at h <;> rename_i k2
 ·rw[Xe k2]
 rw[Xc k2]
 split at h <;> rename_i k3
 ·rw[Xe k3]
 rw[Xc k3]
 split at h <;> rename_i k4
 ·rw[Xe k4]
 exact absurd rfl h
def zbF(l:List Sg)(tol:Int):(zW l tol).1.length<=4096/\∀q∈(zW l tol).1,q.pts.length<=4096:=by
 by_cases h:(zW l tol).2=0
 ·have hv:qN l:=by
   refine Xa.1 λk=>?_
   unfold zW at h;rw[Xe k]at h;exact absurd h dC
  obtain⟨_,_,f3,f4⟩:=ziu (lo:=⟨-1048576,-1048576⟩) (hi:=⟨1048576,1048576⟩) h (λp hp=>zyd hv p hp);have hg:=zeM (l:=(zW l tol).1) λx hx=>X9 λe=>(f4 x hx).1 (Xp e)
  exact⟨oM,λq hq=>by have:=zk0 hq;omega⟩
 rw[zvW h];exact⟨Xh _,λq hq=>by cases hq⟩
def zBk(l:List Sg)(t:AF)(tol:Int)(ht:t.le 100000)(hl:l.length<=300):CG0 87 [.sl sgE l,.agg (afE t),i64 tol] [] (rgE (yn l t tol)) []:=by
 refine zmZ 2 1 tok mix Tryz.func87 rfl rfl rfl Tryz.func125 rfl rfl<|⟨_,_,rfl,?_⟩;refine⟨_,_,_,_,_,rfl,rfl,rfl,rfl,?_⟩;refine⟨_,rfl,rfl,rfl,?_⟩;refine zb.t (zAQ l t ht hl) ?_;have fs:=zbF (trans t l).1 tol;refine⟨λe1=>?_,λe1=>?_⟩
 ·have e1:¬(trans t l).2=0:=e1;refine⟨_,.refl,rfl,?_⟩;refine⟨λ_=>?_,λh=>absurd e1 h⟩;exact qJ (by unfold yn;rw[Xe e1])
 have e1:(trans t l).2=0:=Xa.1 e1;refine zb.t (zyC (trans t l).1 tol)<|Dr.d<|zb.t (zyi (zW (trans t l).1 tol).1 fs.1 fs.2)<|Ob.mk (by kernel_rfl)<|⟨_,.refl,rfl,?_⟩;refine⟨λe2=>?_,λe2=>?_⟩
 ·have e2:¬(zW (trans t l).1 tol).2=0:=e2;exact qJ (by unfold yn;rw[qK e1,Xe e2])
 have e2:(zW (trans t l).1 tol).2=0:=Xa.1 e2;have e:yn l t tol=(uA (zW (trans t l).1 tol).1,0):=by unfold yn;rw[qK e1,qK e2]
 rw[e];exact zM .refl (ze e2)
def zoG(l:List Sg)(t:AF)(tol:Int)(ht:t.le 100000):CG0 60 [.sl sgE l,.agg (afE t),i64 tol] [] (rgE (yn l t tol)) []:=by
 refine zc Tryz.func60 ?_;refine zb.t (zy4 l t ht) ?_;have fs:=zbF (trans t l).1 tol;refine⟨λe1=>?_,λe1=>?_⟩
 ·have e1:¬(trans t l).2=0:=e1;exact qJ (by unfold yn;rw[Xe e1])
 have e1:(trans t l).2=0:=Xa.1 e1;refine zb.t (zyD (trans t l).1 tol)<|⟨λe2=>?_,λe2=>?_⟩
 ·have e2:¬(zW (trans t l).1 tol).2=0:=e2;exact qJ (by unfold yn;rw[qK e1,Xe e2])
 have e2:(zW (trans t l).1 tol).2=0:=Xa.1 e2;refine zb.t (zyj (zW (trans t l).1 tol).1 fs.1 fs.2) ?_;have e:yn l t tol=(uA (zW (trans t l).1 tol).1,0):=by unfold yn;rw[qK e1,qK e2]
 rw[e];exact .refl
def zsI(pen:Pen):(jv ⟨[],false⟩ pen).2=if kC pen then 0 else 13:=by
 have hl:zL ⟨[],false⟩=0:=zqq dC;unfold jv
 by_cases k:kC pen
 ·rw[kH k,Xe k,Xc (show¬¬∀q∈(⟨[],false⟩:Pl).pts,zr q from λh=>h λq hq=>by cases hq),Xc (show¬4096<(⟨[],false⟩:Pl).pts.length by decide),hl]
  split
  ·rfl
  rw[zqV (.inr dC)];rfl
 rw[Xe k,Xc k]
def zBl(pen:Pen):CG0 129 [.agg [.val (.slice none 0 0),.val (.bool false)],.agg (jb pen)] [] (zou (jv ⟨[],false⟩ pen)) []:=
 (zyV ⟨[],false⟩ pen (Xh _)).args (.cons (ji (.cons zD (.cons (zd (show¬(false=true) by decide)) .nil))) (.C .nil))
def vw:∀{l:List (List Pt)} {r:List Pt},r∈l->r.length<=qb l
 |x::s,r,h=>by
  rw[zgO]
  cases h with
  |head=>omega
  |tail _ h=>have:=vw h;omega
def zde(t:AF):List Pt->Int
 |[]=>0
 |p::r=>if (kr t p).2≠0 then(kr t p).2 else zde t r
def y5(t:AF)(l:List Pt):List Pt:=l.map λp=>(kr t p).1
def zdf(t:AF):List (List Pt)->Int
 |[]=>0
 |r::s=>if zde t r≠0 then zde t r else zdf t s
def yo(rs:List (List Pt))(t:AF):List (List Pt)×Int:=
 if¬kL rs then([],12) else if zdf t rs≠0 then([],zdf t rs) else(rs.map (y5 t),0)
def zgV{t:AF}:∀{l:List Pt},(∀p∈l,(kr t p).2=0)->zde t l=0
 |[],_=>rfl
 |p::r,h=>by unfold zde;rw[qK (h p (.head _))];exact zgV λq hq=>h q (.tail _ hq)
def zgW{t:AF}:∀{l:List Pt} {i:Nat} {x:Pt},l[i]?=some x->(∀p∈l.take i,(kr t p).2=0)->¬(kr t x).2=0->zde t l=(kr t x).2
 |p::r,0,x,h,_,hx=>by cases h;unfold zde;rw[Xe hx]
 |p::r,i+1,x,h,ha,hx=>by
  unfold zde;rw[qK (ha p (by rw[Km];exact .head _))];exact zgW (l:=r) (i:=i) h (λq hq=>ha q (by rw[Km];exact .tail _ hq)) hx
def zoH{t:AF}:∀{l:List (List Pt)},(∀r∈l,zde t r=0)->zdf t l=0
 |[],_=>rfl
 |p::r,h=>by unfold zdf;rw[qK (h p (.head _))];exact zoH λq hq=>h q (.tail _ hq)
def zgX{t:AF}:∀{l:List (List Pt)} {i:Nat} {x:List Pt},l[i]?=some x->(∀r∈l.take i,zde t r=0)->¬zde t x=0->zdf t l=zde t x
 |p::r,0,x,h,_,hx=>by cases h;unfold zdf;rw[Xe hx]
 |p::r,i+1,x,h,ha,hx=>by
  unfold zdf;rw[qK (ha p (by rw[Km];exact .head _))];exact zgX (l:=r) (i:=i) h (λq hq=>ha q (by rw[Km];exact .tail _ hq)) hx
def yp{α:Type}{P:α->Prop}{l:List α}{x:α}(h:l[i]?=some x)(ha:∀p∈l.take i,P p)(hx:P x):∀p∈l.take (i+1),P p:=by
 intro p hp;rw[Xl,h]at hp
 rcases Xs.1 hp with hp|hp
 ·exact ha p hp
 simp at hp;rw[hp];exact hx
def yK(l:List (List Pt)):List (List SV):=l.map zk
def vg(l:List (List Pt)):(yK l).length=l.length:=by unfold yK;simp
def zaj{tb:List (Nat×Option Nat)}{l m:List (List Pt)}(e:l=m):
  (yK m).length=(yK l).length/\∀(j:Nat) x,(yK l)[j]?=some x->∃x',(yK m)[j]?=some x'/\ren.rens tb x=some x':=by
 subst e;refine⟨rfl,λj x hx=>⟨x,hx,?_⟩⟩;unfold yK at hx;rw[XD]at hx
 cases hy:l[j]? with
 |none=>rw[hy]at hx;cases hx
 |some y=>rw[hy]at hx;cases hx;rfl
def zgY{L:List (List Pt)}{q:List Pt}:∀(i j:Nat) (x':List SV) (s':SV),(yK (L++[q]))[i]?=some x'->x'[j]?=some s'->∃(x:List SV) (s:SV),(yK L++[[.own a]])[i]?=some x/\x[j]?=some s/\(s'=s∨(s=.own a/\s'=.sl ptE q)):=by
 intro i j x' s' hx hs;have e:yK (L++[q])=yK L++[zk q]:=by unfold yK;rw[XB];rfl
 rw[e]at hx;generalize yK L=R at*
 rcases QC i R.length with h|h|h
 ·rw[XK h]at hx;exact⟨x',s',by rw[XK h];exact hx,hs,.inl rfl⟩
 ·subst h;rw[Qn]at hx
  cases hx
  match j,hs with
  |0,hs=>cases hs;exact⟨[.own a],.own a,Qn ..,rfl,.inr ⟨rfl,rfl⟩⟩
  |j+1,hs=>cases hs
 rw[XG (by simp;omega)]at hx;cases hx
def tS(rs:List (List Pt))(t:AF):Nat->St
 |0=>⟨[(0,.sl zk rs),(3,.loc 0 0),(6,.val (.slice none 0 0)),(7,i64 ((0:Nat):Int))],[(0,.box 38 (afE t))],1,54,0⟩
 |i+1=>⟨[(0,.sl zk rs),(3,.loc 0 0),(6,.own 1),(7,i64 ((i+1:Nat):Int))],[(0,.box 38 (afE t)),(1,.garr 127 1 (yK ((rs.take (i+1)).map (y5 t))))],2,54,0⟩
def zBm(rs:List (List Pt))(t:AF)(ht:t.le 100000)(hl:rs.length<=100000):CG0 102 [.sl zk rs,.agg (afE t)] [] (.tup [.own 0,i64 (yo rs t).2]) [(0,.arr 127 zk 1 (yo rs t).1)]:=by
 refine zeZ tok mix Tryz.func102 rfl rfl rfl ?_
 have bad:∀{e:Int},yo rs t=([],e)->za3 none (.tup [.val (.slice none 0 0),i64 e]) (.tup [.own 0,i64 (yo rs t).2])/\(yo rs t).1=[]:=λ{e} h=>
  ⟨.tup _ _ rfl (ze2.ix (.cons (.nil rfl) (.cons (.le _ _ (ze (by rw[h])) rfl) .nil))).2,by rw[h]⟩
 refine zb.t (zkr rs)<|⟨λk=>?_,λk=>?_⟩
 ·have k:¬kL rs:=k;have hb:=bad (e:=12) (by unfold yo;rw[Xe k]);exact⟨_,.refl,none,hb.1,hb.2⟩
 have k:kL rs:=Xa.1 k;have es:yo rs t=if zdf t rs≠0 then([],zdf t rs) else(rs.map (y5 t),0):=by unfold yo;rw[kH k]
 have hc:qb rs<=4096:=by have:=k.1;omega
 refine⟨Nat,tS rs t,λi=>i<=rs.length/\∀r∈rs.take i,zde t r=0,λi=>rs.length-i,0,⟨Xh _,λr hr=>by cases hr⟩,?_,?_⟩
 ·exact zf [0]
 rintro(_|i) ⟨h1,h2⟩
 ·intro hl1;refine⟨λg=>?_,λg=>?_⟩;rotate_left
  ·have g:¬(((0:Nat):Int))<rs.length:=g;have e0:rs=[]:=Xp oM;have hb:=bad (e:=0) (by rw[es,e0];rfl);exact⟨_,.refl,none,hb.1,hb.2⟩
  have g:((0:Nat):Int)<rs.length:=g;obtain⟨x,hx⟩:∃x,rs[0]?=some x:=⟨_,Xb oM⟩;have hxl:=XC (vw (Xf hx)) hc;have same:∀{y:List Pt},rs[((0:Nat):Int).toNat]?=some y->y=x:=λh=>Xm ((show rs[0]?=some _ from h).symm.trans hx)
  refine⟨Nat,λj=>⟨[(0,.sl zk rs),(3,.loc 0 0),(6,.val (.slice none 0 0)),(7,i64 ((0:Nat):Int)),(8,.own 1),(9,i64 (j:Int))],[(0,.box 38 (afE t)),(1,.arr 28 ptE 2 (y5 t (x.take j)))],2,54,0⟩,λj=>j<=x.length/\∀p∈x.take j,(kr t p).2=0,λj=>x.length-j,0,⟨Xh _,λp hp=>by cases hp⟩,?_,?_⟩
  ·exact zC [(0,some 0),(1,none)]
  rintro j ⟨j1,j2⟩
  have ml:(y5 t (x.take j)).length<=4096:=by unfold y5;rw[Xx,Xo];omega
  refine Ob.o ?_;intro y hy;rw[same hy];intro hl2;refine⟨λq=>?_,λq=>?_⟩
  ·have q:(j:Int)<x.length:=q;obtain⟨z,hz⟩:∃z,x[j]?=some z:=⟨_,Xb oM⟩;refine Dr.d<|Ob.o ?_;intro y' hy';rw[same hy'];refine Ob.o ?_;intro z' hz';have ez:z'=z:=Xm ((show x[j]?=some z' from hz').symm.trans hz);rw[ez];refine zb.t (zcj t z ht)<|Ob.mk (by kernel_rfl)<|⟨λe=>?_,λe=>?_⟩
   ·have e:¬(kr t z).2=0:=e;have eL:=zgW hz j2 e;have eR:=zgX hx h2 (by rw[eL];exact e);have hb:=bad (e:=(kr t z).2) (by rw[es,eR,eL,Xe e]);exact⟨_,.refl,none,hb.1,hb.2⟩
   have e:(kr t z).2=0:=Xa.1 e;refine⟨Pt,ptE,[(kr t z).1],rfl,Ob.o0 ?_⟩;refine⟨[(kr t z).1],rfl,Ob.o3 ?_⟩;exact Ar.o<|⟨j+1,⟨oM,yp hz j2 e⟩,zu [0,4] ⟨rfl,Xg (λq=>some (Mem.arr 28 ptE 2 q)) (by unfold y5;rw[Xl,hz,XB];rfl),trivial⟩,by dsimp only;omega⟩
  have q:¬(j:Int)<x.length:=q;have etx:x.take j=x:=Xi oM;rw[etx]at j2;refine⟨[[.own 1]],rfl,Ob.o9 ?_⟩;refine Ob.o27<|Ar.o<|⟨0+1,⟨oM,yp hx h2 (zgV j2)⟩,(zcD (sz0:=1) (T0:=127) 1 3 (enc:=ptE) (ys:=y5 t (x.take j)) rfl rfl (xs':=yK ([]++[y5 t (x.take j)])) (by rfl) (λz hz=>?_) zgY).trans (zu [0,3] ⟨rfl,⟨_,rfl,zaj ?_⟩,trivial⟩),by dsimp only;omega⟩
  ·unfold yK at hz;obtain⟨b,_,rfl⟩:=XP.1 hz;rfl
  rw[etx];rw[Xl,hx];rfl
 intro hl1;refine⟨λg=>?_,λg=>?_⟩;rotate_left
 ·have g:¬((i+1:Nat):Int)<rs.length:=g;have et:rs.take (i+1)=rs:=Xi oM;rw[et]at h2;have er:yo rs t=(rs.map (y5 t),0):=by rw[es,zoH h2];rfl
  refine⟨_,zgg 1 zk ((rs.take (i+1)).map (y5 t)) rfl (λ_ _=>rfl),some 1,.tup _ _ rfl (ze2.ix (.cons (.own 1 rfl) (.cons (.le _ _ (ze (by rw[er])) rfl) .nil))).2,Xg (λq=>some (Mem.arr 127 zk 1 q)) (by rw[er,et]),λ_ _=>rfl⟩
 have g:(((i+1):Nat):Int)<rs.length:=g;obtain⟨x,hx⟩:∃x,rs[(i+1)]?=some x:=⟨_,Xb oM⟩;have hxl:=XC (vw (Xf hx)) hc;have same:∀{y:List Pt},rs[(((i+1):Nat):Int).toNat]?=some y->y=x:=λh=>Xm ((show rs[(i+1)]?=some _ from h).symm.trans hx)
 refine⟨Nat,λj=>⟨[(0,.sl zk rs),(3,.loc 0 0),(6,.own 1),(7,i64 (((i+1):Nat):Int)),(8,.own 2),(9,i64 (j:Int))],[(0,.box 38 (afE t)),(1,.garr 127 1 (yK ((rs.take (i+1)).map (y5 t)))),(2,.arr 28 ptE 2 (y5 t (x.take j)))],3,54,0⟩,λj=>j<=x.length/\∀p∈x.take j,(kr t p).2=0,λj=>x.length-j,0,⟨Xh _,λp hp=>by cases hp⟩,?_,?_⟩
 ·exact zdy [(0,some 0),(1,some 1),(2,none)] ⟨rfl,⟨_,rfl,zaj rfl⟩,rfl,trivial⟩
 rintro j ⟨j1,j2⟩
 have ml:(y5 t (x.take j)).length<=4096:=by unfold y5;rw[Xx,Xo];omega
 refine Ob.o ?_;intro y hy;rw[same hy];intro hl2;refine⟨λq=>?_,λq=>?_⟩
 ·have q:(j:Int)<x.length:=q;obtain⟨z,hz⟩:∃z,x[j]?=some z:=⟨_,Xb oM⟩;refine Dr.d<|Ob.o ?_;intro y' hy';rw[same hy'];refine Ob.o ?_;intro z' hz';have ez:z'=z:=Xm ((show x[j]?=some z' from hz').symm.trans hz);rw[ez];refine zb.t (zcj t z ht)<|Ob.mk (by kernel_rfl)<|⟨λe=>?_,λe=>?_⟩
  ·have e:¬(kr t z).2=0:=e;have eL:=zgW hz j2 e;have eR:=zgX hx h2 (by rw[eL];exact e);have hb:=bad (e:=(kr t z).2) (by rw[es,eR,eL,Xe e]);exact⟨_,.refl,none,hb.1,hb.2⟩
  have e:(kr t z).2=0:=Xa.1 e;refine⟨Pt,ptE,[(kr t z).1],rfl,Ob.o0 ?_⟩;refine⟨[(kr t z).1],rfl,Ob.o3 ?_⟩;exact Ar.o<|⟨j+1,⟨oM,yp hz j2 e⟩,zu [0,1,5] ⟨rfl,⟨_,rfl,zaj rfl⟩,Xg (λq=>some (Mem.arr 28 ptE 2 q)) (by unfold y5;rw[Xl,hz,XB];rfl),trivial⟩,by dsimp only;omega⟩
 have q:¬(j:Int)<x.length:=q;have etx:x.take j=x:=Xi oM;rw[etx]at j2;refine⟨[[.own 2]],rfl,Ob.o9 ?_⟩;refine Ob.mk ⟨by show _*(24:Int)<=_;rw[vg,Xx,Xo];simp only[Xn,Xr];omega,by rw[vg,Xx,Xo];simp only[Xn,Xr];omega,dC⟩<|Ar.o ?_
 refine⟨(i+1)+1,⟨oM,yp hx h2 (zgV j2)⟩,(zcD (sz0:=1) (T0:=127) 2 4 (enc:=ptE) (ys:=y5 t (x.take j)) rfl rfl (xs':=yK ((rs.take (i+1)).map (y5 t)++[y5 t (x.take j)])) (by rw[vg,Xq,Xq,vg];rfl) (λz hz=>?_) zgY).trans (zu [0,4] ⟨rfl,⟨_,rfl,zaj ?_⟩,trivial⟩),by dsimp only;omega⟩
 ·unfold yK at hz;obtain⟨b,_,rfl⟩:=XP.1 hz;rfl
 rw[etx];rw[Xl (l:=rs) (i:=i+1),hx,XB];rfl
def zEc(rs:List (List Pt))(t:AF)(ht:t.le 100000)(hl:rs.length<=100000):CG0 102 [.sl zk rs,.agg (afE t)] [] (rgE (yo rs t)) []:=(zBm rs t ht hl).plain rfl
end Go.Gs
