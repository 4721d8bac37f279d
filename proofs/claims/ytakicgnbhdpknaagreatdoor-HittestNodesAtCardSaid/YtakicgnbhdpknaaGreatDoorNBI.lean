/- Dashes in the second text: the intervals. -/
import Derived.Test.YtakicgnbhdpknaaGreatDoorNBH
set_option maxRecDepth 100000
set_option maxHeartbeats 8000000
set_option linter.all false
namespace Go.Gs
open Proofs.Tryz
open Go.Proofs
def zd0(pen:Pen)(a:Nat):Int:=(yu pen.d (phD pen a) 0).2
def zbm(pen:Pen)(long:Nat):Nat->Nat->Nat
 |0,a=>a
 |k+1,a=>if a<long/\(kJ (onD pen) a).length<=4096 then zbm pen long k (a+(min (zd0 pen a) ((long:Int)-a)).toNat) else a
def qI(pen:Pen)(long:Int):List (Nat×Nat):=
 if¬kC pen∨long<1∨(0<qz pen.d/\drawn pen.d=0) then[]
 else if qz pen.d=drawn pen.d then[(0,long.toNat)] else kJ (onD pen) (zbm pen long.toNat long.toNat 0)
variable{pen:Pen}{a:Nat}
def zvL{long k:Nat}(h:¬(a<long/\(kJ (onD pen) a).length<=4096)):zbm pen long k a=a:=by
 cases k with
 |zero=>rfl
 |succ k=>unfold zbm;rw[Xc h]
def zkU{pen:Pen}{a:Nat}(hd:uy pen.d)(hper:0<qz pen.d):∃e,pen.d[(yu pen.d (phD pen a) 0).1]?=some e/\1<=zd0 pen a/\zd0 pen a<=256*e/\
  qz pen.d ∣ qw pen.d ((yu pen.d (phD pen a) 0).1+1)-zd0 pen a-((a:Int)+256*pen.ph):=by
 obtain⟨d1,d2,d3,d4⟩:=yh hd;have k0:=Kb ((a:Int)+256*pen.ph) (show qz pen.d≠0 by omega);have k1:=X5 ((a:Int)+256*pen.ph) hper;rw[←zqL pen a]at k0 k1;obtain⟨i,e,g1,g2,g3⟩:=zok d1 k0 k1;have gp:=zey (i0:=0) d1 g1 g2 g3;have gs:=yn g1;unfold zd0;rw[gp,Kc];refine⟨e,g1,oN,oN,?_⟩;dsimp only;rw[show qw pen.d (i+1)-(qw pen.d i+256*e-phD pen a)-((a:Int)+256*pen.ph)=phD pen a-((a:Int)+256*pen.ph) by omega,zqL]
 have:=Yh ((a:Int)+256*pen.ph) (qz pen.d);exact⟨-(((a:Int)+256*pen.ph)/qz pen.d),by rw[QS];omega⟩
def zvM{pen:Pen}{a b:Nat}(hd:uy pen.d)(hper:0<qz pen.d)(hab:a<b)(hb:(b:Int)<=a+zd0 pen a):
  ((yu pen.d (phD pen a) 0).1%2=0->z7 (onD pen) b=((z7 (onD pen) a).1,some ((z7 (onD pen) a).2.getD a)))/\(¬(yu pen.d (phD pen a) 0).1%2=0->z7 (onD pen) b=(kJ (onD pen) a,none)):=by
 obtain⟨d1,d2,d3,d4⟩:=yh hd;obtain⟨e,h1,h2,h3,h4⟩:=zkU (a:=a) hd hper;have on:∀t,a<=t->t<b->(onD pen t↔(yu pen.d (phD pen a) 0).1%2=0):=λt ht ht2=>zCB d1 h1 h3 h4 ht oM
 exact⟨λk=>zx2 hab λt a b=>(on t a b).2 k,λk=>ztV hab λt a b c=>k ((on t a b).1 c)⟩
variable{on:LI}{b:Nat}
def zlM[DecidablePred on](h:a<=b):(kJ on a).length<=(kJ on b).length:=by
 obtain⟨k,rfl⟩:∃k,b=a+k:=⟨b-a,oM⟩;clear h
 induction k with
 |zero=>exact Xk _
 |succ k ih=>
  refine XB ih ?_;show(kJ on (a+k)).length<=(kJ on (a+k+1)).length;unfold kJ;rw[u9]
  split
  ·cases (z7 on (a+k)).2 <;> simp
  cases (z7 on (a+k)).2 <;> simp
def zue{pen:Pen}{long:Nat}:∀(k a:Nat),a<=long->zbm pen long k a<=long
 |0,a,h=>h
 |k+1,a,h=>by
  unfold zbm
  split
  ·exact zue k _ oM
  exact h
def zqS{pen:Pen}{long:Nat}(hd:uy pen.d)(hper:0<qz pen.d):∀(k a:Nat),a<=long->long-a<=k->zbm pen long k a=long∨4096<(kJ (onD pen) (zbm pen long k a)).length
 |0,a,h,hk=>.inl (by show a=long;omega)
 |k+1,a,h,hk=>by
  obtain⟨e,h1,h2,h3,h4⟩:=zkU (a:=a) hd hper;unfold zbm
  split
  ·rename_i c;exact zqS hd hper k _ oM oM
  rename_i c
  by_cases c2:a<long
  ·exact .inr (by have:¬(kJ (onD pen) a).length<=4096:=λk=>c ⟨c2,k⟩;omega)
  exact .inl oM
def zqT(pen:Pen)(long:Int):(qI pen long=kQ pen long∨(4096<(qI pen long).length/\4096<(kQ pen long).length))/\∀q∈qI pen long,q.1<q.2/\(q.2:Int)<=long/\1<=long:=by
 unfold qI kQ
 split
 ·exact⟨.inl rfl,λq hq=>by cases hq⟩
 rename_i h;have hk:kC pen:=Xa.1 λk=>h (.inl k)
 have hl:¬long<1:=λk=>h (.inr (.inl k))
 split
 ·refine⟨.inl rfl,λq hq=>?_⟩;have:=Xu.1 hq;subst this;dsimp only;omega
 rename_i hne;have hd:=hk.2.2.2.2.1;obtain⟨d1,d2,d3,d4⟩:=yh hd;have hps:=zbD pen.d pen.d.length (Xk _);rw[yI]at hps;have q0:=yg (r:=0) d1 pen.d.length (Xk _);have q1:=yg (r:=1) d1 pen.d.length (Xk _);have hdr:=zdZ pen.d;have hper:0<qz pen.d:=oM;have hs:=zue (pen:=pen) (long:=long.toNat) long.toNat 0 (Xh _);refine⟨?_,λq hq=>?_⟩
 ·rcases zqS (long:=long.toNat) hd hper long.toNat 0 (Xh _) oM with h|h
  ·rw[h];exact .inl rfl
  exact .inr ⟨h,Xw h (zlM hs)⟩
 have:=zkz q hq;omega
def zvN[DecidablePred on]{z:Nat×Nat}(h:(kJ on a)[(kJ on a).length-1]?=some z):(z.2=a↔∃f,(z7 on a).2=some f)/\∀f,(z7 on a).2=some f->z=(f,a):=by
 unfold kJ at h
 cases ho:(z7 on a).2 with
 |some f=>
  rw[ho]at h;have h:((z7 on a).1++[(f,a)])[((z7 on a).1++[(f,a)]).length-1]?=some z:=h;rw[Xq,show(z7 on a).1.length+[(f,a)].length-1=(z7 on a).1.length from rfl,Qn]at h
  cases h
  exact⟨⟨λ_=>⟨f,rfl⟩,λ_=>rfl⟩,λg hg=>by cases hg;rfl⟩
 |none=>
  rw[ho]at h;have h:((z7 on a).1++[])[((z7 on a).1++[]).length-1]?=some z:=h;rw[XE]at h;have:=((zca (on:=on) a).1 z (Xf h)).2;exact⟨⟨λk=>by omega,λ⟨f,k⟩=>by cases k⟩,λf k=>by cases k⟩
def zhW(q:Int×Int):LR:=[i64 q.1,i64 q.2]
def rI(l:List (Nat×Nat)):List (Int×Int):=l.map λq=>((q.1:Int),(q.2:Int))
def zsz(l:List (Nat×Nat))(q:Nat×Nat):rI (l++[q])=rI l++[((q.1:Int),(q.2:Int))]:=by unfold rI;rw[XA];rfl
def zkV(l:List (Nat×Nat)):(rI l).length=l.length:=by unfold rI;simp
variable{i:Nat}
def zyP{l:List (Nat×Nat)}{z:Int×Int}(h:(rI l)[i]?=some z):∃q,l[i]?=some q/\z=((q.1:Int),(q.2:Int)):=by
 unfold rI at h;rw[XD]at h
 cases hq:l[i]? with
 |none=>rw[hq]at h;cases h
 |some q=>rw[hq]at h;exact⟨q,rfl,(Xm h).symm⟩
def zyQ[DecidablePred on](h:z7 on b=(kJ on a,none)):kJ on b=kJ on a:=by
 show(z7 on b).1++((z7 on b).2.map λf=>(f,b)).toList=_;rw[h];exact XE _
def zqU[DecidablePred on]{f:Nat}(h:z7 on b=((z7 on a).1,some ((z7 on a).2.getD a)))(hf:(z7 on a).2=some f):
  kJ on a=(z7 on a).1++[(f,a)]/\kJ on b=(z7 on a).1++[(f,b)]:=by
 constructor
 ·unfold kJ;rw[hf];rfl
 show(z7 on b).1++((z7 on b).2.map λf=>(f,b)).toList=_;rw[h,hf];rfl
def zyR[DecidablePred on](h:z7 on b=((z7 on a).1,some ((z7 on a).2.getD a)))(hf:(z7 on a).2=none):
  kJ on b=kJ on a++[(a,b)]:=by
 show(z7 on b).1++((z7 on b).2.map λf=>(f,b)).toList=((z7 on a).1++((z7 on a).2.map λf=>(f,a)).toList)++[(a,b)];rw[h,hf];simp
def zD6(pen:Pen)(long:Int)(hk:kC pen)(hlong:long<=70368744177664):CX 230 [wr pen,i64 long,i64 4096] (.sl zhW (rI (qI pen long))):=by
 refine zc func230<|⟨Int×Int,zhW,[],rfl,wb2 ?_⟩;have bad:(¬kC pen∨long<1∨(0<qz pen.d/\drawn pen.d=0))->([]:List (Int×Int))=rI (qI pen long):=λh=>by unfold qI;rw[Xe h];rfl
 have hd:=hk.2.2.2.2.1;obtain⟨d1,d2,d3,d4⟩:=yh hd;have hps:=zbD pen.d pen.d.length (Xk _);rw[yI]at hps;have q0:=yg (r:=0) d1 pen.d.length (Xk _);have q1:=yg (r:=1) d1 pen.d.length (Xk _);have hdr:=zdZ pen.d;refine wg (zCD pen.d hd)<|⟨λl1=>?_,λl1=>?_⟩
 ·have l1:long<1:=l1;exact zZ (bad (.inr (.inl l1)))
 have l1:¬long<1:=l1;refine wg (zcJ pen)<|⟨λh=>absurd hk h,λ_=>?_⟩
 have good:(qz pen.d=drawn pen.d->rI (qI pen long)=[((0:Int),long)])/\(¬qz pen.d=drawn pen.d->¬(0<qz pen.d/\drawn pen.d=0)->qI pen long=kJ (onD pen) (zbm pen long.toNat long.toNat 0)):=by
  refine⟨λh=>?_,λh h0=>?_⟩
  ·unfold qI;rw[Xc (λk=>by rcases k with k|k|k;exact k hk;exact l1 k;omega),Xe h];show[(((0:Nat):Int),((long.toNat:Nat):Int))]=_;rw[show((long.toNat:Nat):Int)=long by omega];rfl
  unfold qI;rw[Xc (λk=>by rcases k with k|k|k;exact k hk;exact l1 k;exact h0 k),Xc h]
 refine⟨λpp=>Br.mk (λdz=>?_) (λdz=>?_),λpp=>?_⟩
 ·have pp:0<qz pen.d:=pp;have dz:drawn pen.d=0:=dz;exact zZ (bad (.inr (.inr ⟨pp,dz⟩)))
 all_goals
  have npd:¬(0<qz pen.d/\drawn pen.d=0):=by
   first
   |exact λh=>dz h.2
   |exact λh=>pp h.1
  clear pp;refine⟨λe:qz pen.d=drawn pen.d=>?_,λe:¬qz pen.d=drawn pen.d=>?_⟩
  ·refine⟨Int×Int,zhW,[((0:Int),long)],rfl,wb0 ?_⟩;refine⟨[((0:Int),long)],rfl,wb3 ?_⟩;exact zZ (good.1 e).symm
  have hR:=good.2 e npd;have hper:0<qz pen.d:=oM
  refine⟨Nat×Nat,λs=>⟨[(1,i64 long),(2,i64 4096),(3,.loc 0 0),(7,.own 1),(10,i64 (s.2:Int))],[(0,.box 61 (jb pen)),(1,.arr 254 zhW 2 (rI (kJ (onD pen) s.2)))],2,107,0⟩,
   λs=>s.2<=long.toNat/\long.toNat-s.2<=s.1/\zbm pen long.toNat s.1 s.2=zbm pen long.toNat long.toNat 0,λs=>s.1,(long.toNat,0),?_,?_,?_⟩
  ·exact⟨Xh _,Xk _,rfl⟩
  ·exact zf [0,1]
  rintro⟨k,a⟩ ⟨h1,h2,h3⟩
  dsimp only at h1 h2 h3;have len:=zkV (kJ (onD pen) a);have over:¬(a<long.toNat/\(kJ (onD pen) a).length<=4096)->LE (.sl zhW (rI (kJ (onD pen) a))) (.sl zhW (rI (qI pen long))):=λh=>zZ (by rw[hR,←h3,zvL h])
  refine⟨λg=>?_,λg=>over λh=>g (show(a:Int)<long by omega)⟩;have g:(a:Int)<long:=g;intro hl1;refine⟨λg2=>?_,λg2=>over λh=>g2 (show((rI (kJ (onD pen) a)).length:Int)<=4096 by omega)⟩;have g2:((rI (kJ (onD pen) a)).length:Int)<=4096:=g2;obtain⟨x,p1,p2,p3,p4⟩:=zkU (a:=a) hd hper;have ax:=d2 x (Xf p1);refine wg (zD5 pen a hk hper oM)<|wa ?_;obtain⟨b,hb⟩:∃b,b=a+(min (zd0 pen a) ((long.toNat:Int)-a)).toNat:=⟨_,rfl⟩
  obtain⟨rOn,rOff⟩:=zvM (b:=b) hd hper (show a<b by omega) oM;have hk1:k=(k-1)+1:=oM;have hb1:b<=long.toNat:=oM;have hb2:long.toNat-b<=k-1:=oM
  have hb3:zbm pen long.toNat (k-1) b=zbm pen long.toNat long.toNat 0:=by
   rw[←h3]
   conv=>rhs;rw[hk1]
   show _=if a<long.toNat/\(kJ (onD pen) a).length<=4096 then zbm pen long.toNat (k-1) (a+(min (zd0 pen a) ((long.toNat:Int)-a)).toNat) else a
   rw[Xe ⟨oM,oM⟩,←hb]
  have p5:(yu pen.d (phD pen a) 0).2=zd0 pen a:=rfl;refine⟨λc=>Ar.fit oM ?_,λc=>?_⟩;have hT:((a:Int)+(yu pen.d (phD pen a) 0).2)=(b:Int):=by have c:zd0 pen a<long-a:=c;omega
  rotate_left;have hT:long=(b:Int):=by have c:¬zd0 pen a<long-a:=c;omega
  all_goals
   intro hl2;refine Dv.pos ⟨oM,dC⟩<|⟨λev=>?_,λev=>?_⟩
   ·have ev:(yu pen.d (phD pen a) 0).1%2=0:=by have ev:((yu pen.d (phD pen a) 0).1:Int)%2=0:=ev;omega
    have rOn:=rOn ev;have new:∀T:Int,T=(b:Int)->(z7 (onD pen) a).2=none->rI (kJ (onD pen) a)++[((a:Int),T)]=rI (kJ (onD pen) b):=λT hT h=>by rw[zyR rOn h,zsz,hT]
    refine⟨λn9=>?_,λn0=>?_⟩
    ·have n0:(0:Int)<((rI (kJ (onD pen) a)).length:Int):=n9;refine wa<|wb<|wb λz hz=>?_;obtain⟨q,hq,hzq⟩:=zyP (show(rI (kJ (onD pen) a))[(((rI (kJ (onD pen) a)).length:Int)-1).toNat]?=some z from hz);rw[show(((rI (kJ (onD pen) a)).length:Int)-1).toNat=(kJ (onD pen) a).length-1 by omega]at hq;obtain⟨w1,w2⟩:=zvN hq;refine⟨λm:z.2=(a:Int)=>?_,λm=>?_⟩
     ·obtain⟨f,hf⟩:=w1.1 (by rw[hzq]at m;dsimp only at m;omega);obtain⟨e1,e2⟩:=zqU rOn hf;have hz1:z.1=(f:Int):=by rw[hzq,w2 f hf]
      have ll:((((rI (kJ (onD pen) a)).length:Int)-1).toNat)=(rI (z7 (onD pen) a).1).length:=by
       have:(kJ (onD pen) a).length=(z7 (onD pen) a).1.length+1:=by rw[e1,Xq];rfl
       rw[zkV]at len ⊢;rw[zkV];omega
      refine wa<|wb<|wb λz' hz'=>?_;have hzz:z'=z:=Xm (hz'.symm.trans hz)
      first|refine⟨(z'.1,((a:Int)+(yu pen.d (phD pen a) 0).2)),rfl,?_⟩|refine⟨(z'.1,long),rfl,?_⟩
      have eq:∀T:Int,T=(b:Int)->(rI (kJ (onD pen) a)).set (((rI (kJ (onD pen) a)).length:Int)-1).toNat (z'.1,T)=rI (kJ (onD pen) b):=by
       intro T hT;rw[ll,e1,e2,zsz,zsz,zi7 rfl,hzz,hz1,hT]
      exact⟨(k-1,b),⟨hb1,hb2,hb3⟩,zS [0,1] ⟨rfl,rfl,rfl,rfl,iR hT,tV⟩ ⟨rfl,aR (eq _ hT),tV⟩,oN⟩
     have m:¬z.2=(a:Int):=m
     have hn:(z7 (onD pen) a).2=none:=by
      cases ho:(z7 (onD pen) a).2 with
      |none=>rfl
      |some f=>exact absurd (by rw[hzq];dsimp only;rw[w1.2 ⟨f,ho⟩]) m
     refine Dv.pos ⟨oM,dC⟩<|⟨λ_=>?_,λh=>absurd (show((yu pen.d (phD pen a) 0).1:Int)%2=0 by omega) h⟩;refine⟨Int×Int,zhW,[((a:Int),_)],rfl,wb0 ?_⟩;refine⟨[((a:Int),_)],rfl,wb3 ?_⟩;exact⟨(k-1,b),⟨hb1,hb2,hb3⟩,zS [0,3] ⟨rfl,rfl,rfl,rfl,iR hT,tV⟩ ⟨rfl,aR (new _ hT hn),tV⟩,oN⟩
    have n0:¬(0:Int)<((rI (kJ (onD pen) a)).length:Int):=n0
    have hn:(z7 (onD pen) a).2=none:=by
     cases ho:(z7 (onD pen) a).2 with
     |none=>rfl
     |some f=>
      have:(kJ (onD pen) a).length=(z7 (onD pen) a).1.length+1:=by rw[(zqU rOn ho).1,Xq];rfl
      omega
    refine Dv.pos ⟨oM,dC⟩<|⟨λ_=>?_,λh=>absurd (show((yu pen.d (phD pen a) 0).1:Int)%2=0 by omega) h⟩;refine⟨Int×Int,zhW,[((a:Int),_)],rfl,wb0 ?_⟩;refine⟨[((a:Int),_)],rfl,wb3 ?_⟩;exact⟨(k-1,b),⟨hb1,hb2,hb3⟩,zS [0,3] ⟨rfl,rfl,rfl,rfl,iR hT,tV⟩ ⟨rfl,aR (new _ hT hn),tV⟩,oN⟩
   have ev:¬(yu pen.d (phD pen a) 0).1%2=0:=by have ev:¬((yu pen.d (phD pen a) 0).1:Int)%2=0:=ev;omega
   refine Dv.pos ⟨oM,dC⟩<|⟨λh=>absurd (show((yu pen.d (phD pen a) 0).1:Int)%2=0 from h) oM,λ_=>?_⟩;exact⟨(k-1,b),⟨hb1,hb2,hb3⟩,zS [0,1] ⟨rfl,rfl,rfl,rfl,iR hT,tV⟩ ⟨rfl,aR (by rw[zyQ (rOff ev)]),tV⟩,oN⟩
def zsA(q:LU)(x:Pt)(hq:q.length<=100000):CG0 293 [.sl ptE q,wk x] [] (.own 0) [(0,.arr 28 ptE 2 (yW q x))]:=by
 refine qC tok mix func293 rfl rfl rfl<|⟨Pt,ptE,[],rfl,wb2 ?_⟩;refine⟨Nat,λi=>⟨[(0,.sl ptE q),(3,.loc 0 0),(5,.own 1),(6,i64 i)],[(0,.box 28 (ptE x)),(1,.arr 28 ptE 2 (q.take i))],2,40,0⟩,λi=>i<=q.length,λi=>q.length-i,0,?_,?_,?_⟩
 ·exact Xh _
 ·exact zf [0,1]
 rintro i hi
 intro hl1;refine⟨λg:(i:Int)<q.length=>?_,λg:¬(i:Int)<q.length=>?_⟩
 ·refine wb λy(hy:q[i]?=some y)=>?_;refine⟨Pt,ptE,[y],rfl,wb0 ?_⟩;refine⟨[y],rfl,wb15 ?_⟩;exact wa<|⟨i+1,oM,zu [0,3] ⟨rfl,aR (by rw[Xl,hy];rfl),tV⟩,oN⟩
 have et:q.take i=q:=Xi oM;have tl:(q.take i).length<=100000:=by rw[et];exact hq
 intro hl2;refine wd<|Br.mk (λz=>?_) (λz=>?_)
 ·have z:(q.length:Int)=0:=z;refine wh<|⟨Pt,ptE,[x],rfl,wb0 ?_⟩;refine⟨[x],rfl,wb3 ?_⟩;exact⟨some 3,.own _ rfl,aR (by rw[et,zor oM]),λ_ _=>rfl⟩
 have z:¬(q.length:Int)=0:=z;refine wa<|wb λy hy=>?_
 have hy:q[q.length-1]?=some y:=by
  have hy:q[((q.length:Int)-1).toNat]?=some y:=hy
  rwa [show((q.length:Int)-1).toNat=q.length-1 by omega]at hy
 refine wh<|⟨λk=>?_,λk=>?_⟩
 ·have k:¬y=x:=λh=>k (qi.2 h)
  refine⟨Pt,ptE,[x],rfl,wb0 ?_⟩;refine⟨[x],rfl,wb3 ?_⟩;exact⟨some 3,.own _ rfl,aR (by rw[et,zi8 hy k]),λ_ _=>rfl⟩
 have k:y=x:=qi.1 (Xa.1 k);exact⟨some 1,.own _ rfl,aR (by rw[et,zoq hy k]),λ_ _=>rfl⟩
def zkW{c:LU}{i j:Nat}(h:i<=j):atS c i<=atS c j:=by
 obtain⟨k,rfl⟩:∃k,j=i+k:=⟨j-i,oM⟩;clear h
 induction k with
 |zero=>exact Qo _
 |succ k ih=>
  have:=yw (nth c (i+k)) (nth c (i+k+1));show atS c i<=atS c (i+k)+jd (nth c (i+k)) (nth c (i+k+1));omega
def zyS{c:LU}{x:Int}{i:Nat}(h1:¬x<atS c i)(h2:x<atS c (i+1)):∀m,i<=m->zkA c x m=i
 |0,h=>by
   have:i=0:=oM;subst this;rfl
 |m+1,h=>by
  by_cases e:i=m+1
  ·rw[e]at h1 ⊢;exact zkS h1
  have:=zkW (c:=c) (show i+1<=m+1 by omega);rw[zyJ oM];exact zyS h1 h2 m oM
def zoG{c:LU}{x:Int}{i:Nat}(h:i<=c.length-2)(h1:¬x<atS c i)(h2:x<atS c (i+1)):zc8 c x=uG (nth c i) (nth c (i+1)) (x-atS c i) (jd (nth c i) (nth c (i+1))):=by
 unfold zc8;rw[zyS h1 h2 _ h];dsimp only;rw[show atS c (i+1)-atS c i=jd (nth c i) (nth c (i+1)) by show atS c i+jd (nth c i) (nth c (i+1))-atS c i=_;omega]
def zvO{a b:Pt}{d:Int}(hd:1<=d/\d<=1099511627776)(ha:zr a):uG a b 0 d=a:=by
 unfold uG;rw[Xc oM,zbz ha.1,zbz ha.2,show kS 0 0 d=0 from(zdx oM).2 ⟨Qo 0,oM⟩,Int.zero_mul,Int.zero_mul]
 have e:z6 0 d=0:=by
  have h1:=zx8 (M:=0) (show 0<d by omega) (Qo 0) oM;omega
 rw[e]
 cases a
 simp
def zqV{x d:Int}(hd:1<=d):z6 (d*x) d=x:=by
 obtain⟨D,rfl⟩:∃D:Nat,d=D:=⟨d.toNat,oM⟩;have hD:0<D:=oM
 have e:(2*((D:Int)*x).natAbs+(D:Int).natAbs)/(2*(D:Int).natAbs)=x.natAbs:=by
  rw[QE,QH,show 2*(D*x.natAbs)+D=D+(2*D)*x.natAbs by rw[KC];omega,Nat.add_mul_div_left _ _ oM,Kh oM,Kc]
 unfold z6;rw[e]
 by_cases hx:x<0
 ·have:=Int.mul_neg_of_pos_of_neg (show(0:Int)<D by omega) hx;rw[Xc oM];omega
 have:=XJ (show(0:Int)<=D by omega) (show 0<=x by omega);rw[Xe oM];omega
def zvP{a b:Pt}{d:Int}(hd:1<=d/\d<=1099511627776)(ha:zr a)(hb:zr b):uG a b d d=b:=by
 unfold uG;rw[Xc oM,zbz ha.1,zbz ha.2,zbz hb.1,zbz hb.2,show kS d 0 d=d from(zdx oM).2 ⟨oM,Qo d⟩,zqV hd.1,zqV hd.1]
 cases b
 simp;omega
def zvQ{a b:Pt}(ha:zr a)(hb:zr b)(h:a≠b):1<=jd a b:=by
 have hs:=zki hb ha;have hr:=yw a b;refine Jp.1 λk=>?_
 unfold jd zpG at k hr;have dr:=zeo (jo (zad b a)) (jo (zad b a))
 have d0:1<=ziJ (zad b a) (zad b a):=by
  unfold ziJ dtp;have x0:=ja (js (zad b a)).x;have y0:=ja (js (zad b a)).y;refine Jp.1 λk2=>h ?_
  have zx:(js (zad b a)).x*(js (zad b a)).x=0:=oM;have zy:(js (zad b a)).y*(js (zad b a)).y=0:=oM;have zx:=(Int.mul_eq_zero.1 zx).elim id id;have zy:=(Int.mul_eq_zero.1 zy).elim id id;rw[hs]at zx zy;have zx:hI (b.x-a.x)=0:=zx;have zy:hI (b.y-a.y)=0:=zy;have e:∀n,hI n=0->n=0:=λn hn=>by unfold hI kS at hn;split at hn <;> (try split at hn) <;> omega
  have:=e _ zx;have:=e _ zy
  cases a;cases b
  simp only[Pt.mk.injEq];dsimp only at*;omega
 have:=zr4 (n:=65536*ziJ (zad b a) (zad b a)) (a:=256) oM (by unfold ziJ at d0 ⊢;omega) oM;omega
def zm0:∀{l:LU} {i:Nat},jB l->i+1<l.length->nth l i≠nth l (i+1)
 |[],_,_,h=>by cases h
 |[_],i,_,h=>by simp at h
 |a::b::r,0,h,_=>h.1 b rfl
 |a::b::r,i+1,h,hl=>zm0 (l:=b::r) (i:=i) h.2 (by simpa using hl)
def zsB(p:Pl):jB (zi p):=by
 have ha:jB (zt p).pts:=by
  unfold zt;dsimp only
  split
  ·exact zbj (uc _)
  exact uc _
 rw[yJ]
 by_cases h:(zt p).cl=true/\2<=(zt p).pts.length
 ·rw[zgS h.1 h.2];refine zfC ha λe=>?_
  have hc:p.cl=true:=h.1;have ed:=zfK hc;have ht:=zmw (l:=qU p.pts) (uc _) (by rw[←ed];omega);rw[←ed,e]at ht;refine ht ?_;unfold nth;rw[Xt,QI,Xb (show 0<(zt p).pts.length by omega)];rfl
 rw[zoB h];exact ha
variable{p:Pl}
def zgV(h:∀q∈p.pts,zr q)(hi:i<(zi p).length):zr (nth (zi p) i):=h _ (zx9 (ztY hi))
def zuf(h:∀q∈p.pts,zr q)(hi:i+1<(zi p).length):1<=jd (nth (zi p) i) (nth (zi p) (i+1)):=
 zvQ (zgV h oM) (zgV h hi) (zm0 (zsB p) hi)
def zbn(c:LU)(i:Nat):atS c (i+1)=atS c i+jd (nth c i) (nth c (i+1)):=rfl
def zug(h:∀q∈p.pts,zr q){t:Int}(hi:i+1<(zi p).length)(h1:atS (zi p) i<t)(h2:t<=atS (zi p) (i+1)):
  zc8 (zi p) t=uG (nth (zi p) i) (nth (zi p) (i+1)) (t-atS (zi p) i) (jd (nth (zi p) i) (nth (zi p) (i+1))):=by
 have pr:=yw (nth (zi p) i) (nth (zi p) (i+1));have sp:=zuf h hi
 by_cases c:t<atS (zi p) (i+1)
 ·exact zoG oM oM c
 have e:t=atS (zi p) (i+1):=oM
 by_cases c2:i+2<(zi p).length
 ·have sp2:=zuf h (i:=i+1) c2;have pr2:=yw (nth (zi p) (i+1)) (nth (zi p) (i+1+1));rw[zoG (i:=i+1) oM oM (by rw[zbn (zi p) (i+1)];omega),e,Int.sub_self,zvO oM (zgV h hi)];rw[show atS (zi p) (i+1)-atS (zi p) i=jd (nth (zi p) i) (nth (zi p) (i+1)) by rw[zbn];omega,zvP oM (zgV h oM) (zgV h hi)]
 unfold zc8;rw[show(zi p).length-2=i by omega,zkS oM];dsimp only;rw[show atS (zi p) (i+1)-atS (zi p) i=jd (nth (zi p) i) (nth (zi p) (i+1)) by rw[zbn];omega]
def zqW{c:LU}{f t:Int}:∀{n:Nat},(∀j,j<n->¬f<atS c j)->ze9 c f t n=[]
 |0,_=>rfl
 |n+1,h=>by rw[zeH,zqW λj hj=>h j oM,Xc λk=>h n oM k.1];rfl
def zsC(c:LU)(f t:Int)(i:Nat):LU:=(if f<atS c i then[zc8 c f] else[])++ze9 c f t i++(if t<=atS c i then[zc8 c t] else[])
def ziM(c:LU)(f t:Int)(i:Nat):LU:=kw [] (zsC c f t i)
variable{f:Int}
def zvR(h:∀q∈p.pts,zr q){t:Int}(hi:i+1<(zi p).length)(hft:f<t):
  ziM (zi p) f t (i+1)=kw (ziM (zi p) f t i)
   ((if¬f<atS (zi p) i/\f<atS (zi p) (i+1) then[uG (nth (zi p) i) (nth (zi p) (i+1)) (f-atS (zi p) i) (jd (nth (zi p) i) (nth (zi p) (i+1)))] else[])++
    (if f<atS (zi p) i/\atS (zi p) i<t then[nth (zi p) i] else[])++
    (if atS (zi p) i<t/\t<=atS (zi p) (i+1) then[uG (nth (zi p) i) (nth (zi p) (i+1)) (t-atS (zi p) i) (jd (nth (zi p) i) (nth (zi p) (i+1)))] else[])):=by
 have mono:=zkW (c:=zi p) (show i<=i+1 by omega);have key:∀A B,kw [] (A++B)=kw (kw [] A) B:=λA B=>by unfold kw;rw[KV]
 unfold ziM;rw[←key];congr 1;unfold zsC;rw[zeH]
 by_cases F:f<atS (zi p) i
 ·rw[Xe F,Xe (show f<atS (zi p) (i+1) by omega),Xc (show¬(¬f<atS (zi p) i/\f<atS (zi p) (i+1)) from λk=>k.1 F)]
  by_cases T:t<=atS (zi p) i
  ·rw[Xe T,Xe (show t<=atS (zi p) (i+1) by omega),Xc (show¬(f<atS (zi p) i/\atS (zi p) i<t) by omega),Xc (show¬(atS (zi p) i<t/\t<=atS (zi p) (i+1)) by omega)];simp
  rw[Xc T,Xe (show f<atS (zi p) i/\atS (zi p) i<t by omega)]
  by_cases T2:t<=atS (zi p) (i+1)
  ·rw[Xe T2,Xe (show atS (zi p) i<t/\t<=atS (zi p) (i+1) by omega),zug h hi oM T2];simp
  rw[Xc T2,Xc (show¬(atS (zi p) i<t/\t<=atS (zi p) (i+1)) by omega)];simp
 have mn:ze9 (zi p) f t i=[]:=zqW λj hj k=>F (by have:=zkW (c:=zi p) (show j<=i by omega);omega)
 rw[Xc F,mn,Xc (show¬(f<atS (zi p) i/\atS (zi p) i<t) by omega),Xc (show¬t<=atS (zi p) i by omega)]
 by_cases F2:f<atS (zi p) (i+1)
 ·rw[Xe F2,Xe (show¬f<atS (zi p) i/\f<atS (zi p) (i+1) by omega),zoG (i:=i) oM F F2]
  by_cases T2:t<=atS (zi p) (i+1)
  ·rw[Xe T2,Xe (show atS (zi p) i<t/\t<=atS (zi p) (i+1) by omega),zug h hi oM T2];simp
  rw[Xc T2,Xc (show¬(atS (zi p) i<t/\t<=atS (zi p) (i+1)) by omega)];simp
 rw[Xc F2,Xc (show¬(¬f<atS (zi p) i/\f<atS (zi p) (i+1)) by omega),Xc (show¬t<=atS (zi p) (i+1) by omega),Xc (show¬(atS (zi p) i<t/\t<=atS (zi p) (i+1)) by omega)];simp
def zyT{t:Int}(hft:f<t)(ht:t<=zK p):ziM (zi p) f t ((zi p).length-1)=vf (zi p) f t:=by
 have e:atS (zi p) ((zi p).length-1)=zK p:=rfl;unfold ziM zsC vf;rw[Xe (show f<atS (zi p) ((zi p).length-1) by omega),Xe (show t<=atS (zi p) ((zi p).length-1) by omega)]
def zyU(c:LU)(f t:Int)(i:Nat):(ziM c f t i).length<=i+2:=by
 have h:=vt (zsC c f t i) []
 have hm:(ze9 c f t i).length<=i:=by
  unfold ze9;rw[Xx];exact XB (KX _ _) sI
 unfold ziM
 have h2:(zsC c f t i).length<=i+2:=by
  unfold zsC;rw[Xq,Xq]
  split <;> split <;> simp <;> omega
 have h3:([]:LU).length=0:=rfl;omega
def zBi(p:Pl)(f t:Int)(hp:p.pts.length<=4096)(ok:∀q∈p.pts,zr q)(hf:0<=f)(hft:f<t)(ht:t<=zK p):
  CX 232 [ws p,i64 f,i64 t] (ws ⟨vf (zi p) f t,false⟩):=by
 refine zc func232 ?_;have lr:=zfO p hp;have dl:=jq p;have ll:=jF (zt p);rw[←yJ]at ll;refine wg (zqR p hp ok) ?_;have ef:zcr 0 [zbL f [zK p]]=f:=show max 0 (min f (zK p))=f by omega
 have et:zcr 0 [zbL t [zK p]]=t:=show max 0 (min t (zK p))=t by omega
 refine⟨λh=>absurd (show zcr 0 [zbL t [zK p]]<=zcr 0 [zbL f [zK p]] from h) oM,λ_=>?_⟩;refine wg (zyO p hp)<|⟨Pt,ptE,[],rfl,wb2 ?_⟩;refine⟨Nat,λi=>⟨[(6,.loc 0 0),(8,i64 f),(9,i64 t),(10,.sl ptE (zi p)),(11,.own 1),(12,i64 (atS (zi p) i)),(13,i64 ((i:Int)+1))],[(0,.box 193 [nS,.val (.bool false)]),(1,.arr 28 ptE 2 (ziM (zi p) f t i))],2,120,0⟩,λi=>i<=(zi p).length-1,λi=>(zi p).length-i,0,?_,?_,?_⟩
 ·exact Xh _
 ·refine zS [1,2] ⟨rfl,iR ef,iR et,rfl,rfl,rfl,rfl,tV⟩ ⟨rfl,aR ?_,tV⟩;unfold ziM zsC;rw[show atS (zi p) 0=0 from rfl,Xc oM,Xc oM];rfl
 rintro i hi
 have ar:=vS (zi p) i;have sl:=zyU (zi p) f t i;intro hl1;refine⟨λg=>?_,λg=>?_⟩;rotate_left
 ·have g:¬(i:Int)+1<(zi p).length:=g;refine jj (.cons (zZ ?_) (.cons (zd (show¬(false=true) by decide)) .nil));rw[show i=(zi p).length-1 by omega,zyT hft ht]
 have g:(i:Int)+1<(zi p).length:=g;have hi1:i+1<(zi p).length:=oM;have key:=zvR ok hi1 hft;rw[zbn]at key;refine wc<|wa<|wb λx hx=>?_
 have hx:=qn (show(zi p)[i]?=some x by
  have hx:(zi p)[((i:Int)+1-1).toNat]?=some x:=hx
  rwa [show((i:Int)+1-1).toNat=i by omega]at hx)
 have hxs:∀x',(zi p)[((i:Int)+1-1).toNat]?=some x'->x'=x:=λx' h=>by
  rw[show((i:Int)+1-1).toNat=i by omega]at h;exact(qn h).trans hx.symm
 refine wb λy hy=>?_;have hy:=qn (show(zi p)[i+1]?=some y from hy);have hys:∀y',(zi p)[((i:Int)+1).toNat]?=some y'->y'=y:=λy' h=>(qn (show(zi p)[i+1]?=some y' from h)).trans hy.symm
 refine wg (zud x y) ?_;have pr:=yw x y;rw[←hx,←hy]at key;refine⟨λa1=>?_,λa1=>?_⟩;have a1:atS (zi p) i<=f:=a1;refine wa<|Br.mk (λa2=>?_) (λa2=>?_);have a2:f<atS (zi p) i+jd x y:=a2;refine wd<|wa<|wb λx' hx'=>?_;have hx':=hxs x' hx';refine wb λy' hy'=>?_;have hy':=hys y' hy';rw[hx',hy'];refine wa<|wg (zxu x y (f-atS (zi p) i) (jd x y))<|zb.fresh _ _ (zsA _ (uG x y (f-atS (zi p) i) (jd x y)) oM) rfl (λ_ _=>rfl) (.inr (λ_ _=>rfl)) ?_
 refine wh ?_;have s1:=zgJ (ziM (zi p) f t i) (uG x y (f-atS (zi p) i) (jd x y));refine⟨λb1=>absurd (show f<atS (zi p) i from b1) oM,λ_=>?_⟩;rotate_left;have a2:¬f<atS (zi p) i+jd x y:=a2;refine⟨λb1=>absurd (show f<atS (zi p) i from b1) oM,λ_=>?_⟩;rotate_left;have a1:¬atS (zi p) i<=f:=a1;refine⟨λb1=>?_,λb1=>absurd (show f<atS (zi p) i by omega) b1⟩;refine⟨λb2=>?_,λb2=>?_⟩;have b2:atS (zi p) i<t:=b2;refine wa<|wb λx' hx'=>?_
 have hx':=hxs x' hx';rw[hx'];have s2:=zgJ (ziM (zi p) f t i) x;refine zb.fresh _ _ (zsA (ziM (zi p) f t i) x oM) rfl (λ_ _=>rfl) (.inr (λ_ _=>rfl)) ?_;rotate_left;have b2:¬atS (zi p) i<t:=b2;rotate_left
 all_goals
  refine⟨λc1=>?_,λc1=>?_⟩;have c1:atS (zi p) i<t:=c1;refine wa<|Br.mk (λc2=>?_) (λc2=>?_);have c2:t<=atS (zi p) i+jd x y:=c2;refine wd<|wa<|wb λx' hx'=>?_;have hx':=hxs x' hx';refine wb λy' hy'=>?_;have hy':=hys y' hy';rw[hx',hy'];refine wa<|wg (zxu x y (t-atS (zi p) i) (jd x y))<|zb.fresh _ _ (zsA _ (uG x y (t-atS (zi p) i) (jd x y)) oM) rfl (λ_ _=>rfl) (.inr (λ_ _=>rfl))<|wh ?_;rotate_left
  have c2:¬t<=atS (zi p) i+jd x y:=c2;rotate_left;have c1:¬atS (zi p) i<t:=c1
  all_goals
   (iterate 2 refine wa ?_);refine⟨i+1,oM,?_,oN⟩;have E:=key
   split at E <;> split at E <;> split at E <;> first
    |(exfalso;omega)
    |exact zS [0,1] ⟨rfl,rfl,rfl,rfl,rfl,iR (by rw[zbn,←hx,←hy]),iR oM,tV⟩ ⟨rfl,aR E.symm,tV⟩
    |exact zS [0,2] ⟨rfl,rfl,rfl,rfl,rfl,iR (by rw[zbn,←hx,←hy]),iR oM,tV⟩ ⟨rfl,aR E.symm,tV⟩
    |exact zS [0,3] ⟨rfl,rfl,rfl,rfl,rfl,iR (by rw[zbn,←hx,←hy]),iR oM,tV⟩ ⟨rfl,aR E.symm,tV⟩
def zvS{long:Int}{q:Nat×Nat}(h:q∈kQ pen long)(h1:q.1=0)(h2:(q.2:Int)=long):kQ pen long=[q]:=by
 unfold kQ at h ⊢
 split at h
 ·cases h
 rename_i k;rw[Xc k]
 split at h
 ·rename_i k2;rw[Xe k2];have:=Xu.1 h;rw[this]
 rename_i k2;rw[Xc k2];exact zAP h h1 oM
def zlN(p:Pl)(q:Nat×Nat):Pl:=⟨vf (zi p) q.1 q.2,false⟩
def zyV(h:¬(p.cl=true/\qI pen (zK p)=[(0,(zK p).toNat)]))(hR:qI pen (zK p)=kQ pen (zK p)):
  (kQ pen (zK p)).map (jX p)=(kQ pen (zK p)).map (zlN p):=by
 refine Qm λq hq=>?_
 unfold jX;refine Xc λk=>h ⟨k.1,?_⟩
 rw[hR,zvS hq k.2.1 k.2.2,←k.2.1,show(zK p).toNat=q.2 by omega]
def zd1(p:Pl)(pen:Pen)(j:Nat):Nat:=jn (((qI pen (zK p)).take j).map (zlN p))
def zvT{j:Nat}{y:Nat×Nat}(h:(qI pen (zK p))[j]?=some y):zd1 p pen (j+1)=zd1 p pen j+(zlN p y).pts.length:=by
 unfold zd1;rw[Xl,h,XA,zgU];show _+jn [zlN p y]=_;unfold jn;simp
def zBj(p:Pl)(pen:Pen)(j:Nat):zd1 p pen j<=jn ((qI pen (zK p)).map (zlN p)):=by
 have e:(qI pen (zK p)).map (zlN p)=((qI pen (zK p)).take j).map (zlN p)++((qI pen (zK p)).drop j).map (zlN p):=by
  rw[←XA,Kj]
 rw[e,zgU];exact Js _ _
def zBk(p:Pl)(pen:Pen)(j:Nat):((qI pen (zK p)).take j).length<=zd1 p pen j:=by
 have:=zeJ (l:=((qI pen (zK p)).take j).map (zlN p)) λx hx=>by
  obtain⟨q,hq,rfl⟩:=XO.1 hx;exact(zoF (zi p) q.1 q.2).1
 rwa [Xx]at this
def zD7(p:Pl)(pen:Pen)(hp:p.pts.length<=4096):CX 157 [ws p,wr pen] (zov (jw p pen)):=by
 refine zc func157 ?_
 have es:jw p pen=if¬kC pen then([],13) else if¬∀q∈p.pts,zr q then([],6) else if 4096<p.pts.length then([],5)
  else if pen.d=[] then([zt p],0) else if 4096<jn ((kQ pen (zK p)).map (jX p)) then([],5) else((kQ pen (zK p)).map (jX p),0):=rfl
 refine wg (zcJ pen)<|⟨λk=>?_,λk=>?_⟩
 ·have k:¬kC pen:=k;exact jp (by rw[es,Xe k])
 have k:kC pen:=Xa.1 k;rw[kH k]at es;refine wg (zuc p.pts)<|⟨λok=>?_,λok=>?_⟩
 ·have ok:¬∀q∈p.pts,zr q:=ok;exact jp (by rw[es,Xe ok])
 have ok:∀q∈p.pts,zr q:=Xa.1 ok;rw[kH ok,Xc (show¬4096<p.pts.length by omega)]at es;intro hl1;refine⟨λh=>absurd (show(4096:Int)<p.pts.length from h) oM,λ_=>?_⟩;have lr:=zfO p hp;have dl:=jq p;have ll:=jF (zt p);rw[←yJ]at ll;refine wg (zqR p hp ok)<|wg (zD6 pen (zK p) k oM) ?_;have hr:=zqT pen (zK p);have rl:=zkV (qI pen (zK p));intro hl2
 have whole:pen.d=[]∨(p.cl=true/\qI pen (zK p)=[(0,(zK p).toNat)])->jw p pen=([zt p],0):=λh=>by
  by_cases z:pen.d=[]
  ·rw[es,Xe z]
  obtain⟨c,e⟩:=h.resolve_left z
  have eP:kQ pen (zK p)=[(0,(zK p).toNat)]:=by
   rcases hr.1 with h|h
   ·rw[←h,e]
   rw[e]at h;exact absurd h.1 sI
  have q1:=hr.2 (0,(zK p).toNat) (by rw[e];exact .head _)
  have ed:(kQ pen (zK p)).map (jX p)=[zt p]:=by
   rw[eP];show[jX p (0,(zK p).toNat)]=_;unfold jX;rw[Xe ⟨c,rfl,oN⟩]
  rw[es,Xc z,ed,Xc];unfold jn;simp;omega
 have W:LE (.tup [.sl plE [zt p],i64 0]) (zov ([zt p],0)):=.refl;refine⟨λz:(pen.d.length:Int)=0=>?_,λz:¬(pen.d.length:Int)=0=>?_⟩
 ·have z:pen.d=[]:=Xp oM;refine wg (zja p hp)<|⟨Pl,plE,[zt p],rfl,wb0 ?_⟩;rw[whole (.inl z)];exact W
 rw[Xc (λh=>z (by rw[h];rfl))]at es
 have hq0:∀u,(rI (qI pen (zK p)))[0]?=some u->((rI (qI pen (zK p))).length:Int)=1->(u.1=0/\u.2=zK p↔qI pen (zK p)=[(0,(zK p).toNat)]):=λu hu n1=>by
  obtain⟨q,hq,huq⟩:=zyP hu;have n1:(qI pen (zK p)).length=1:=oM;obtain⟨q',hq'⟩:=J5.1 n1;rw[hq']at hq ⊢
  cases hq
  constructor
  ·rintro⟨a,b⟩
   rw[huq]at a b;dsimp only at a b;rw[show q=(q.1,q.2) from rfl,show q.1=0 by omega,show q.2=(zK p).toNat by omega]
  intro h;have e:q=(0,(zK p).toNat):=List.singleton_inj.1 h;rw[huq,e];exact⟨rfl,oN⟩
 refine⟨λc=>λhl3=>Br.mk (λn1=>Ob.mk (by have n1:((rI (qI pen (zK p))).length:Int)=1:=n1;omega) λu hu=>Br.mk (λe=>?_) (λe=>?_)) (λn1=>?_),λc=>?_⟩
 ·have e:u.1=0/\u.2=zK p/\True:=e;refine wg (zja p hp)<|⟨Pl,plE,[zt p],rfl,wb0 ?_⟩;rw[whole (.inr ⟨c,(hq0 u hu n1).1 ⟨e.1,e.2.1⟩⟩)];exact W
 all_goals
  have hnw:¬(p.cl=true/\qI pen (zK p)=[(0,(zK p).toNat)]):=by
   first
   |exact λh=>e ⟨((hq0 u hu n1).2 h.2).1,((hq0 u hu n1).2 h.2).2,tV⟩
   |exact λh=>n1 (show((rI (qI pen (zK p))).length:Int)=1 by rw[zkV,h.2];rfl)
   |exact λh=>c h.1
  have ed:=zyV hnw
  have bad:∀i,4096<zd1 p pen i->jw p pen=([],5):=λi h=>by
   rw[es,Xe ?_]
   rcases hr.1 with hR|hR
   ·rw[ed hR,←hR];exact Xw h (zBj p pen i)
   have:=zeJ (l:=(kQ pen (zK p)).map (jX p)) λx hx=>by
    obtain⟨q,hq,rfl⟩:=XO.1 hx;exact(zeI hp hq).1
   rw[Xx]at this;omega
  refine⟨Pl,plE,[],rfl,wb2 ?_⟩;refine⟨Nat,λi=>⟨[(2,.loc 0 0),(7,.sl zhW (rI (qI pen (zK p)))),(8,.own 1),(9,i64 (zd1 p pen i:Int)),(10,i64 i)],[(0,.box 193 [.sl ptE p.pts,pr (p.cl=true)]),(1,.arr 193 plE 2 (((qI pen (zK p)).take i).map (zlN p)))],2,83,0⟩,λi=>i<=(qI pen (zK p)).length/\zd1 p pen i<=4096,λi=>(qI pen (zK p)).length-i,0,?_,?_,?_⟩
  ·exact⟨Xh _,Xh _⟩
  ·exact zf [0,2]
  rintro i ⟨h1,h2⟩
  have cg:=zBk p pen i;intro hl4;refine⟨λg=>?_,λg=>?_⟩;rotate_left
  ·have g:¬(i:Int)<((rI (qI pen (zK p))).length:Int):=g;have et:(qI pen (zK p)).take i=qI pen (zK p):=Xi oM;have hR:=hr.1.resolve_right λh=>by rw[et]at cg;omega
   unfold zd1 at h2;rw[et,hR,←ed hR]at h2;rw[es,Xc oM];exact zM (zZ (by rw[et,hR,ed hR])) .refl
  have g:(i:Int)<((rI (qI pen (zK p))).length:Int):=g;refine wd<|wb λz hz=>?_;obtain⟨q,hq,hzq⟩:=zyP (show(rI (qI pen (zK p)))[i]?=some z from hz);refine wb λz' hz'=>?_;have hzz:z'=z:=Xm (hz'.symm.trans hz);rw[hzz];have f:=hr.2 q (Xf hq);have cs:=zvT hq;have cl:=zoF (zi p) q.1 q.2;have ez1:z.1=(q.1:Int):=by rw[hzq]
  have ez2:z.2=(q.2:Int):=by rw[hzq]
  have ez:vf (zi p) z.1 z.2=vf (zi p) q.1 q.2:=by rw[ez1,ez2]
  refine wg (zBi p z.1 z.2 hp ok oM oM oM)<|wh ?_;have cs:zd1 p pen (i+1)=zd1 p pen i+(vf (zi p) z.1 z.2).length:=by rw[ez];exact cs
  rw[←ez]at cl;intro hl5;refine Ar.fit (show-9223372036854775808<=(zd1 p pen i:Int)+((vf (zi p) z.1 z.2).length:Int)/\(zd1 p pen i:Int)+((vf (zi p) z.1 z.2).length:Int)<=9223372036854775807 by omega)<|⟨λo=>?_,λo=>?_⟩
  ·have o:(4096:Int)<(zd1 p pen i:Int)+((vf (zi p) z.1 z.2).length:Int):=o;exact jp (bad (i+1) oM)
  have o:¬(4096:Int)<(zd1 p pen i:Int)+((vf (zi p) z.1 z.2).length:Int):=o;refine⟨Pl,plE,[⟨vf (zi p) z.1 z.2,false⟩],rfl,wb0 ?_⟩;refine⟨[⟨vf (zi p) z.1 z.2,false⟩],rfl,Ob.mk ⟨(by show _*(32:Int)<=_;simp only[Xx,Xn,Xr];omega),(by simp only[Xx,Xn,Xr];omega),dC,λ_ _=>rfl⟩ ?_⟩;refine wa ?_
  exact⟨i+1,⟨oM,oM⟩,zS [0,4] ⟨rfl,rfl,rfl,iR (show(zd1 p pen i:Int)+((vf (zi p) z.1 z.2).length:Int)=((zd1 p pen (i+1):Nat):Int) by omega),rfl,tV⟩ ⟨rfl,aR (by rw[Xl,hq,XA,ez];rfl),tV⟩,oN⟩
def jP:LZ->Pen->LZ×Int
 |[],_=>([],0)
 |p::r,pen=>if (jw p pen).2≠0 then([],(jw p pen).2)
  else if (jP r pen).2≠0 then([],(jP r pen).2) else((jw p pen).1++(jP r pen).1,0)
def zcR(l:LZ)(pen:Pen):LZ:=l.flatMap λp=>(jw p pen).1
def zm1{l:LZ}{x:Pl}(h:l[i]?=some x):zcR (l.take (i+1)) pen=zcR (l.take i) pen++(jw x pen).1:=by
 unfold zcR;rw[Xl,h,Qk];simp
def zkX{pen:Pen}:∀{l:LZ},(∀p∈l,(jw p pen).2=0)->jP l pen=(zcR l pen,0)
 |[],_=>rfl
 |p::r,h=>by
  have ih:=zkX λq hq=>h q (.tail _ hq)
  unfold jP;rw[qH (h p (.head _)),ih];rfl
def zhX{pen:Pen}:∀{l:LZ} {i:Nat} {x:Pl},l[i]?=some x->(∀p∈l.take i,(jw p pen).2=0)->¬(jw x pen).2=0->jP l pen=([],(jw x pen).2)
 |p::r,0,x,h,_,hx=>by
  cases h
  unfold jP;rw[Xe hx]
 |p::r,i+1,x,h,ha,hx=>by
  have ih:=zhX (l:=r) (i:=i) h (λq hq=>ha q (by rw[Km];exact .tail _ hq)) hx;unfold jP;rw[qH (ha p (by rw[Km];exact .head _)),ih];exact Xe hx
def zkY:∀{l:LZ} {q:Pl},q∈l->q.pts.length<=jn l
 |x::r,q,h=>by
  have e:jn (x::r)=x.pts.length+jn r:=by unfold jn;simp
  rw[e]
  cases h with
  |head=>omega
  |tail _ h=>have:=zkY h;omega
def zbE{p:Pl}{pen:Pen}(hp:p.pts.length<=4096):(jw p pen).1.length<=4096/\∀q∈(jw p pen).1,q.pts.length<=4096:=by
 unfold jw
 split
 ·exact⟨Xh _,λq hq=>by cases hq⟩
 split
 ·exact⟨Xh _,λq hq=>by cases hq⟩
 split
 ·exact⟨Xh _,λq hq=>by cases hq⟩
 split
 ·refine⟨by show 1<=4096;decide,λq hq=>?_⟩;rw[Xu.1 hq];have:=jq p;omega
 split
 ·exact⟨Xh _,λq hq=>by cases hq⟩
 rename_i h
 have hg:=zeJ (l:=(kQ pen (zK p)).map (jX p)) λx hx=>by
  obtain⟨q,hq,rfl⟩:=XO.1 hx;exact(zeI hp hq).1
 refine⟨oN,λq hq=>?_⟩;have hq:q∈(kQ pen (zK p)).map (jX p):=hq;have:=zkY hq;omega
def zfQ{pen:Pen}:∀{l:LZ},(∀p∈l,p.pts.length<=4096)->(zcR l pen).length<=4096*l.length/\∀q∈zcR l pen,q.pts.length<=4096
 |[],_=>⟨Xk 0,λq hq=>by cases hq⟩
 |p::r,hl=>by
  obtain⟨i1,i2⟩:=zfQ (pen:=pen) (l:=r) λq hq=>hl q (.tail _ hq)
  obtain⟨f1,f2⟩:=zbE (pen:=pen) (hl p (.head _));have e:zcR (p::r) pen=(jw p pen).1++zcR r pen:=rfl;rw[e,Xq,Xn];refine⟨oM,λq hq=>?_⟩
  rcases Xs.1 hq with hq|hq
  ·exact f2 q hq
  exact i2 q hq
def zD8(l:LZ)(pen:Pen)(hl:l.length<=4096)(hp:∀q∈l,q.pts.length<=4096):CX 176 [.sl plE l,wr pen] (zov (jP l pen)):=by
 refine zc func176 λhl1=>?_;refine⟨Nat,λi=>⟨[(3,.loc 0 0),(6,.own 1),(11,.sl plE l),(12,i64 l.length),(13,i64 i)],[(0,.box 61 (jb pen)),(1,.arr 193 plE 2 (zcR (l.take i) pen))],2,31,0⟩,λi=>i<=l.length/\∀q∈l.take i,(jw q pen).2=0,λi=>l.length-i,0,?_,?_,?_⟩
 ·exact⟨Xh _,λq hq=>by cases hq⟩
 ·exact zB [(0,some 0),(1,none)]
 rintro i ⟨h1,h2⟩
 obtain⟨f1,_⟩:=zfQ (pen:=pen) (l:=l.take i) λq hq=>hp q (XL hq)
 rw[Xo]at f1;refine⟨λg:(i:Int)<l.length=>?_,λg:¬(i:Int)<l.length=>?_⟩
 ·refine wb λx(hx:l[i]?=some x)=>?_;have hpx:=hp x (Xf hx);refine wg (zyN x pen hpx)<|⟨λz=>?_,λz=>?_⟩
  ·have z:¬(jw x pen).2=0:=z;exact jp (zhX hx h2 z)
  have z:(jw x pen).2=0:=Xa.1 z;obtain⟨s1,s2⟩:=zbE (pen:=pen) hpx;refine⟨(jw x pen).1,rfl,wb26 ?_⟩;exact wa<|⟨i+1,⟨oM,zgR hx h2 z⟩,zu [0,3] ⟨rfl,aR (zm1 hx).symm,tV⟩,oN⟩
 have et:l.take i=l:=Xi oM;rw[et]at h2;rw[zkX h2];exact zM (zZ (by rw[et])) .refl
def zvW{l:LX}{tol:Int}(h:¬(zW l tol).2=0):(zW l tol).1=[]:=by
 unfold zW at h ⊢
 split at h <;> rename_i k1
 ·rw[Xe k1]
 rw[Xc k1]
 split at h <;> rename_i k2
 ·rw[Xe k2]
 rw[Xc k2]
 split at h <;> rename_i k3
 ·rw[Xe k3]
 rw[Xc k3]
 split at h <;> rename_i k4
 ·rw[Xe k4]
 exact absurd rfl h
def zbG(l:LX)(tol:Int):(zW l tol).1.length<=4096/\∀q∈(zW l tol).1,q.pts.length<=4096:=by
 by_cases h:(zW l tol).2=0
 ·have hv:qM l:=by
   refine Xa.1 λk=>?_
   unfold zW at h;rw[Xe k]at h;exact absurd h dC
  obtain⟨_,_,f3,f4⟩:=ziw (lo:=⟨-1048576,-1048576⟩) (hi:=⟨1048576,1048576⟩) h (λp hp=>zx5 hv p hp);have hg:=zeJ (l:=(zW l tol).1) λx hx=>Ka λe=>(f4 x hx).1 (Xp e)
  exact⟨oM,λq hq=>by have:=zkY hq;omega⟩
 rw[zvW h];exact⟨Xh _,λq hq=>by cases hq⟩
def zBm(l:LX)(t:AF)(tol:Int)(ht:t.le 100000)(hl:l.length<=300):CX 117 [.sl sgE l,wo t,i64 tol] (rgE (yo l t tol)):=by
 refine zm3 2 1 tok mix func117 rfl rfl rfl func171 rfl rfl<|⟨_,_,rfl,?_⟩;refine⟨_,_,_,_,_,rfl,rfl,rfl,rfl,?_⟩;refine⟨_,rfl,rfl,rfl,?_⟩;refine wg (zAQ l t ht hl) ?_;have fs:=zbG (trans t l).1 tol;refine⟨λe1:¬(trans t l).2=0=>?_,λe1=>?_⟩
 ·refine⟨_,.refl,rfl,?_⟩;refine⟨λ_=>?_,λh=>absurd e1 h⟩;exact qG (by unfold yo;rw[Xe e1])
 have e1:(trans t l).2=0:=Xa.1 e1;refine wg (zyu (trans t l).1 tol)<|wd<|wg (zya (zW (trans t l).1 tol).1 fs.1 fs.2)<|wh<|⟨_,.refl,rfl,?_⟩;refine⟨λe2:¬(zW (trans t l).1 tol).2=0=>?_,λe2=>?_⟩
 ·exact qG (by unfold yo;rw[qH e1,Xe e2])
 have e2:(zW (trans t l).1 tol).2=0:=Xa.1 e2;have e:yo l t tol=(uz (zW (trans t l).1 tol).1,0):=by unfold yo;rw[qH e1,qH e2]
 rw[e];exact zM .refl (ze e2)
def zoH(l:LX)(t:AF)(tol:Int)(ht:t.le 100000):CX 107 [.sl sgE l,wo t,i64 tol] (rgE (yo l t tol)):=by
 refine zc func107<|wg (zyY l t ht) ?_;have fs:=zbG (trans t l).1 tol;refine⟨λe1:¬(trans t l).2=0=>?_,λe1=>?_⟩
 ·exact qG (by unfold yo;rw[Xe e1])
 have e1:(trans t l).2=0:=Xa.1 e1;refine wg (zyv (trans t l).1 tol)<|⟨λe2=>?_,λe2=>?_⟩
 ·have e2:¬(zW (trans t l).1 tol).2=0:=e2;exact qG (by unfold yo;rw[qH e1,Xe e2])
 have e2:(zW (trans t l).1 tol).2=0:=Xa.1 e2;refine wg (zyb (zW (trans t l).1 tol).1 fs.1 fs.2) ?_;have e:yo l t tol=(uz (zW (trans t l).1 tol).1,0):=by unfold yo;rw[qH e1,qH e2]
 rw[e];exact .refl
def zsD(pen:Pen):(jw ⟨[],false⟩ pen).2=if kC pen then 0 else 13:=by
 have hl:zK ⟨[],false⟩=0:=zqh dC;unfold jw
 by_cases k:kC pen
 ·rw[kH k,Xe k,Xc (show¬¬∀q∈(⟨[],false⟩:Pl).pts,zr q from λh=>h λq hq=>by cases hq),Xc (show¬4096<(⟨[],false⟩:Pl).pts.length by decide),hl]
  split
  ·rfl
  rw[zqM (.inr dC)];rfl
 rw[Xe k,Xc k]
def zBn(pen:Pen):CX 175 [.agg [nS,.val (.bool false)],wr pen] (zov (jw ⟨[],false⟩ pen)):=
 (zyN ⟨[],false⟩ pen (Xh _)).args (.cons (jj (.cons zC (.cons (zd (show¬(false=true) by decide)) .nil))) (.C .nil))
def vv:∀{l:LQ} {r:LU},r∈l->r.length<=qa l
 |x::s,r,h=>by
  rw[zgQ]
  cases h with
  |head=>omega
  |tail _ h=>have:=vv h;omega
end Go.Gs
