/- Dashes in the second text: the intervals. -/
import Derived.Test.YtjgadnaphffpkaaGreatDoorMA
import Derived.Test.YtjgadnaphffpkaaGreatDoorMBA
import Derived.Test.YtjgadnaphffpkaaGreatDoorMAY
import Derived.Test.YtjgadnaphffpkaaGreatDoorMAZ
set_option maxRecDepth 100000
set_option maxHeartbeats 8000000
set_option linter.all false
namespace Go.Gs
open Go.Proofs
def zdN(pen:Pen)(a:Nat):Int:=(qQ pen.d (phD pen a) 0).2
def za9(pen:Pen)(long:Nat):Nat->Nat->Nat
 | 0,a=>a
 | k+1,a=>if a < long/\(kg (onD pen) a).length<=4096 then za9 pen long k (a+(min (zdN pen a) ((long:Int) - a)).toNat) else a
def qN(pen:Pen)(long:Int):List (Nat×Nat):=
 if ¬kF pen∨long < 1∨(0 < qI pen.d/\drawn pen.d=0) then[]
 else if qI pen.d=drawn pen.d then[(0,long.toNat)] else kg (onD pen) (za9 pen long.toNat long.toNat 0)
variable{pen:Pen}{a:Nat}
theorem zur{long k:Nat}(h:¬(a < long/\(kg (onD pen) a).length<=4096)):za9 pen long k a=a:=by
 cases k with
 | zero=>rfl
 | succ k=>unfold za9;rw[if_neg h]
theorem zkj{pen:Pen}{a:Nat}(hd:uC pen.d)(hper:0 < qI pen.d):∃e,pen.d[(qQ pen.d (phD pen a) 0).1]? =some e/\1<=zdN pen a/\zdN pen a<=256*e/\
  qI pen.d ∣ qD pen.d ((qQ pen.d (phD pen a) 0).1+1) - zdN pen a - ((a:Int)+256*pen.ph):=by
 obtain⟨d1,d2,d3,d4⟩:=yj hd;have k0:=Kv ((a:Int)+256*pen.ph) (show qI pen.d≠0 by omega);have k1:=X8 ((a:Int)+256*pen.ph) hper;rw[← zpT pen a]at k0 k1;obtain⟨i,e,g1,g2,g3⟩:=znk d1 k0 k1;have gp:=zeo (i0:=0) d1 g1 g2 g3;have gs:=yw g1;unfold zdN;rw[gp,X6];refine⟨e,g1,by dsimp only;omega,by dsimp only;omega,?_⟩;dsimp only;rw[show qD pen.d (i+1) - (qD pen.d i+256*e - phD pen a) - ((a:Int)+256*pen.ph)=phD pen a - ((a:Int)+256*pen.ph) by omega,zpT]
 have:=J2 ((a:Int)+256*pen.ph) (qI pen.d);exact⟨-(((a:Int)+256*pen.ph) / qI pen.d),by rw[QC];omega⟩
theorem zus{pen:Pen}{a b:Nat}(hd:uC pen.d)(hper:0 < qI pen.d)(hab:a < b)(hb:(b:Int)<=a+zdN pen a):
  ((qQ pen.d (phD pen a) 0).1 % 2=0->z8 (onD pen) b=((z8 (onD pen) a).1,some ((z8 (onD pen) a).2.getD a)))/\(¬(qQ pen.d (phD pen a) 0).1 % 2=0->z8 (onD pen) b=(kg (onD pen) a,none)):=by
 obtain⟨d1,d2,d3,d4⟩:=yj hd;obtain⟨e,h1,h2,h3,h4⟩:=zkj (a:=a) hd hper;have on:∀t,a<=t->t < b->(onD pen t↔(qQ pen.d (phD pen a) 0).1 % 2=0):=λt ht ht2=>zAf d1 h1 h3 h4 ht oM
 exact⟨λk=>zwC hab λt a b=>(on t a b).2 k,λk=>zsC hab λt a b c=>k ((on t a b).1 c)⟩
variable{on:Nat->Prop}{b:Nat}
theorem zk0[DecidablePred on](h:a<=b):(kg on a).length<=(kg on b).length:=by
 obtain⟨k,rfl⟩:∃k,b=a+k:=⟨b - a,oM⟩;clear h
 induction k with
 | zero=>exact Xh _
 | succ k ih=>
  refine Xz ih ?_;show(kg on (a+k)).length<=(kg on (a+k+1)).length;unfold kg;rw[ve]
  split
  ·cases (z8 on (a+k)).2 <;> simp
  ·cases (z8 on (a+k)).2 <;> simp
theorem zsT{pen:Pen}{long:Nat}:∀(k a:Nat),a<=long->za9 pen long k a<=long
 | 0,a,h=>h
 | k+1,a,h=>by
  unfold za9
  split
  ·exact zsT k _ oM
  ·exact h
theorem zp0{pen:Pen}{long:Nat}(hd:uC pen.d)(hper:0 < qI pen.d):∀(k a:Nat),a<=long->long - a<=k->za9 pen long k a=long∨4096 < (kg (onD pen) (za9 pen long k a)).length
 | 0,a,h,hk=>.inl (by show a=long;omega)
 | k+1,a,h,hk=>by
  obtain⟨e,h1,h2,h3,h4⟩:=zkj (a:=a) hd hper;unfold za9
  split
  ·rename_i c;exact zp0 hd hper k _ oM oM
  ·rename_i c
   by_cases c2:a < long
   ·exact .inr (by have:¬(kg (onD pen) a).length<=4096:=λk=>c ⟨c2,k⟩;omega)
   ·exact .inl oM
theorem zp1(pen:Pen)(long:Int):(qN pen long=kT pen long∨(4096 < (qN pen long).length/\4096 < (kT pen long).length))/\∀q∈qN pen long,q.1 < q.2/\(q.2:Int)<=long/\1<=long:=by
 unfold qN kT
 split
 ·exact⟨.inl rfl,λq hq=>by cases hq⟩
 ·rename_i h;have hk:kF pen:=Xa.1 λk=>h (.inl k)
  have hl:¬long < 1:=λk=>h (.inr (.inl k))
  split
  ·refine⟨.inl rfl,λq hq=>?_⟩;have:=Xr.1 hq;subst this;dsimp only;omega
  ·rename_i hne;have hd:=hk.2.2.2.2.1;obtain⟨d1,d2,d3,d4⟩:=yj hd;have hps:=zbs pen.d pen.d.length (Xh _);rw[yK]at hps;have q0:=yi (r:=0) d1 pen.d.length (Xh _);have q1:=yi (r:=1) d1 pen.d.length (Xh _);have hdr:=zdM pen.d;have hper:0 < qI pen.d:=oM;have hs:=zsT (pen:=pen) (long:=long.toNat) long.toNat 0 (Xe _);refine⟨?_,λq hq=>?_⟩
   ·rcases zp0 (long:=long.toNat) hd hper long.toNat 0 (Xe _) oM with h | h
    ·rw[h];exact .inl rfl
    ·exact .inr ⟨h,Xq h (zk0 hs)⟩
   ·have:=zjY q hq;omega
theorem zl9[DecidablePred on]{z:Nat×Nat}(h:(kg on a)[(kg on a).length - 1]? =some z):(z.2=a↔∃f,(z8 on a).2=some f)/\∀f,(z8 on a).2=some f->z=(f,a):=by
 unfold kg at h
 cases ho:(z8 on a).2 with
 | some f=>
  rw[ho]at h;have h:((z8 on a).1++[(f,a)])[((z8 on a).1++[(f,a)]).length - 1]? =some z:=h;rw[Xi,show(z8 on a).1.length+[(f,a)].length - 1=(z8 on a).1.length from rfl,K9]at h
  cases h
  exact⟨⟨λ_=>⟨f,rfl⟩,λ_=>rfl⟩,λg hg=>by cases hg;rfl⟩
 | none=>
  rw[ho]at h;have h:((z8 on a).1++[])[((z8 on a).1++[]).length - 1]? =some z:=h;rw[XE]at h;have:=((zb1 (on:=on) a).1 z (Xd h)).2;exact⟨⟨λk=>by omega,λ⟨f,k⟩=>by cases k⟩,λf k=>by cases k⟩
def zcK(q:Int×Int):List SV:=[i64 q.1,i64 q.2]
def rI(l:List (Nat×Nat)):List (Int×Int):=l.map λq=>((q.1:Int),(q.2:Int))
theorem zhv(l:List (Nat×Nat))(q:Nat×Nat):rI (l++[q])=rI l++[((q.1:Int),(q.2:Int))]:=by unfold rI;rw[XI];rfl
theorem zfo(l:List (Nat×Nat)):(rI l).length=l.length:=by unfold rI;simp
variable{i:Nat}
theorem zsU{l:List (Nat×Nat)}{z:Int×Int}(h:(rI l)[i]? =some z):∃q,l[i]? =some q/\z=((q.1:Int),(q.2:Int)):=by
 unfold rI at h;rw[XA]at h
 cases hq:l[i]? with
 | none=>rw[hq]at h;cases h
 | some q=>rw[hq]at h;exact⟨q,rfl,(Xj h).symm⟩
theorem zp2[DecidablePred on](h:z8 on b=(kg on a,none)):kg on b=kg on a:=by
 show(z8 on b).1++((z8 on b).2.map λf=>(f,b)).toList=_;rw[h];exact XE _
theorem zgu[DecidablePred on]{f:Nat}(h:z8 on b=((z8 on a).1,some ((z8 on a).2.getD a)))(hf:(z8 on a).2=some f):
  kg on a=(z8 on a).1++[(f,a)]/\kg on b=(z8 on a).1++[(f,b)]:=by
 constructor
 ·unfold kg;rw[hf];rfl
 ·show(z8 on b).1++((z8 on b).2.map λf=>(f,b)).toList=_;rw[h,hf];rfl
theorem zp3[DecidablePred on](h:z8 on b=((z8 on a).1,some ((z8 on a).2.getD a)))(hf:(z8 on a).2=none):
  kg on b=kg on a++[(a,b)]:=by
 show(z8 on b).1++((z8 on b).2.map λf=>(f,b)).toList=((z8 on a).1++((z8 on a).2.map λf=>(f,a)).toList)++[(a,b)];rw[h,hf];simp
theorem zBC(pen:Pen)(long:Int)(hk:kF pen)(hlong:long<=70368744177664):CG0 130 [.agg (ji pen),i64 long,i64 4096] [] (.sl zcK (rI (qN pen long))) []:=by
 refine zc Tryz.func130 ?_;refine⟨Int×Int,zcK,[],rfl,Ob.o2 ?_⟩;have bad:(¬kF pen∨long < 1∨(0 < qI pen.d/\drawn pen.d=0))->([]:List (Int×Int))=rI (qN pen long):=λh=>by unfold qN;rw[if_pos h];rfl
 have hd:=hk.2.2.2.2.1;obtain⟨d1,d2,d3,d4⟩:=yj hd;have hps:=zbs pen.d pen.d.length (Xh _);rw[yK]at hps;have q0:=yi (r:=0) d1 pen.d.length (Xh _);have q1:=yi (r:=1) d1 pen.d.length (Xh _);have hdr:=zdM pen.d;refine zb.t (zAh pen.d hd)<|⟨λl1=>?_,λl1=>?_⟩
 ·have l1:long < 1:=l1;exact z9 (bad (.inr (.inl l1)))
 have l1:¬long < 1:=l1;refine zb.t (zcz pen)<|⟨λh=>absurd hk h,λ_=>?_⟩
 have good:(qI pen.d=drawn pen.d->rI (qN pen long)=[((0:Int),long)])/\(¬qI pen.d=drawn pen.d->¬(0 < qI pen.d/\drawn pen.d=0)->qN pen long=kg (onD pen) (za9 pen long.toNat long.toNat 0)):=by
  refine⟨λh=>?_,λh h0=>?_⟩
  ·unfold qN;rw[if_neg (λk=>by rcases k with k | k | k;exact k hk;exact l1 k;omega),if_pos h];show[(((0:Nat):Int),((long.toNat:Nat):Int))]=_;rw[show((long.toNat:Nat):Int)=long by omega];rfl
  ·unfold qN;rw[if_neg (λk=>by rcases k with k | k | k;exact k hk;exact l1 k;exact h0 k),if_neg h]
 refine⟨λpp=>Br.mk (λdz=>?_) (λdz=>?_),λpp=>?_⟩
 ·have pp:0 < qI pen.d:=pp;have dz:drawn pen.d=0:=dz;exact z9 (bad (.inr (.inr ⟨pp,dz⟩)))
 all_goals
  have npd:¬(0 < qI pen.d/\drawn pen.d=0):=by
   first
   | exact λh=>dz h.2
   | exact λh=>pp h.1
  clear pp;refine⟨λe=>?_,λe=>?_⟩
  ·have e:qI pen.d=drawn pen.d:=e;refine⟨Int×Int,zcK,[((0:Int),long)],rfl,Ob.o0 ?_⟩;refine⟨[((0:Int),long)],rfl,Ob.o3 ?_⟩;exact z9 (good.1 e).symm
  have e:¬qI pen.d=drawn pen.d:=e;have hR:=good.2 e npd;have hper:0 < qI pen.d:=oM
  refine⟨Nat×Nat,λs=>⟨[(1,i64 long),(2,i64 4096),(3,.loc 0 0),(7,.own 1),(10,i64 (s.2:Int))],[(0,.box 50 (ji pen)),(1,.arr 33 zcK 2 (rI (kg (onD pen) s.2)))],2,107,0⟩,
   λs=>s.2<=long.toNat/\long.toNat - s.2<=s.1/\za9 pen long.toNat s.1 s.2=za9 pen long.toNat long.toNat 0,λs=>s.1,(long.toNat,0),?_,?_,?_⟩
  ·exact⟨Xe _,Xh _,rfl⟩
  ·exact zf [0,1]
  rintro⟨k,a⟩ ⟨h1,h2,h3⟩
  dsimp only at h1 h2 h3;have len:=zfo (kg (onD pen) a);have over:¬(a < long.toNat/\(kg (onD pen) a).length<=4096)->LE (.sl zcK (rI (kg (onD pen) a))) (.sl zcK (rI (qN pen long))):=λh=>z9 (by rw[hR,← h3,zur h])
  refine⟨λg=>?_,λg=>over λh=>g (show(a:Int) < long by omega)⟩;have g:(a:Int) < long:=g;intro hl1;refine⟨λg2=>?_,λg2=>over λh=>g2 (show((rI (kg (onD pen) a)).length:Int)<=4096 by omega)⟩;have g2:((rI (kg (onD pen) a)).length:Int)<=4096:=g2;obtain⟨x,p1,p2,p3,p4⟩:=zkj (a:=a) hd hper;have ax:=d2 x (Xd p1);refine zb.t (zBB pen a hk hper oM)<|Ar.o ?_;obtain⟨b,hb⟩:∃b,b=a+(min (zdN pen a) ((long.toNat:Int) - a)).toNat:=⟨_,rfl⟩
  obtain⟨rOn,rOff⟩:=zus (b:=b) hd hper (show a < b by omega) oM;have hk1:k=(k - 1)+1:=oM;have hb1:b<=long.toNat:=oM;have hb2:long.toNat - b<=k - 1:=oM
  have hb3:za9 pen long.toNat (k - 1) b=za9 pen long.toNat long.toNat 0:=by
   rw[← h3]
   conv=>rhs;rw[hk1]
   show _=if a < long.toNat/\(kg (onD pen) a).length<=4096 then za9 pen long.toNat (k - 1) (a+(min (zdN pen a) ((long.toNat:Int) - a)).toNat) else a
   rw[if_pos ⟨oM,oM⟩,← hb]
  have p5:(qQ pen.d (phD pen a) 0).2=zdN pen a:=rfl;refine⟨λc=>Ar.fit oM ?_,λc=>?_⟩
  ·have hT:((a:Int)+(qQ pen.d (phD pen a) 0).2)=(b:Int):=by have c:zdN pen a < long - a:=c;omega
   intro hl2;refine Dv.pos ⟨oM,dC⟩<|⟨λev=>?_,λev=>?_⟩
   ·have ev:(qQ pen.d (phD pen a) 0).1 % 2=0:=by have ev:((qQ pen.d (phD pen a) 0).1:Int) % 2=0:=ev;omega
    have rOn:=rOn ev;have new:(z8 (onD pen) a).2=none->rI (kg (onD pen) a)++[((a:Int),((a:Int)+(qQ pen.d (phD pen a) 0).2))]=rI (kg (onD pen) b):=λh=>by rw[zp3 rOn h,zhv,hT]
    refine⟨λn0=>?_,λn0=>?_⟩
    ·have n0:(0:Int) < ((rI (kg (onD pen) a)).length:Int):=n0;refine Ar.o<|Ob.o<|Ob.o ?_;intro z hz;obtain⟨q,hq,hzq⟩:=zsU (show(rI (kg (onD pen) a))[(((rI (kg (onD pen) a)).length:Int) - 1).toNat]? =some z from hz);rw[show(((rI (kg (onD pen) a)).length:Int) - 1).toNat=(kg (onD pen) a).length - 1 by omega]at hq;obtain⟨w1,w2⟩:=zl9 hq;refine⟨λm=>?_,λm=>?_⟩
     ·have m:z.2=(a:Int):=m;obtain⟨f,hf⟩:=w1.1 (by rw[hzq]at m;dsimp only at m;omega);obtain⟨e1,e2⟩:=zgu rOn hf;have hz1:z.1=(f:Int):=by rw[hzq,w2 f hf]
      have ll:((((rI (kg (onD pen) a)).length:Int) - 1).toNat)=(rI (z8 (onD pen) a).1).length:=by
       have:(kg (onD pen) a).length=(z8 (onD pen) a).1.length+1:=by rw[e1,Xi];rfl
       rw[zfo]at len ⊢;rw[zfo];omega
      refine Ar.o<|Ob.o<|Ob.o ?_;intro z' hz';have hzz:z'=z:=Xj (hz'.symm.trans hz);refine⟨(z'.1,((a:Int)+(qQ pen.d (phD pen a) 0).2)),rfl,?_⟩
      have eq:(rI (kg (onD pen) a)).set (((rI (kg (onD pen) a)).length:Int) - 1).toNat (z'.1,((a:Int)+(qQ pen.d (phD pen a) 0).2))=rI (kg (onD pen) b):=by
       rw[ll,e1,e2,zhv,zhv,zgh rfl,hzz,hz1,hT]
      exact⟨(k - 1,b),⟨hb1,hb2,hb3⟩,zL [0,1] ⟨rfl,rfl,rfl,rfl,congrArg (λq=>some (i64 q)) hT,trivial⟩ ⟨rfl,congrArg (λq=>some (Mem.arr 33 zcK 2 q)) eq,trivial⟩,by dsimp only;omega⟩
     ·have m:¬z.2=(a:Int):=m
      have hn:(z8 (onD pen) a).2=none:=by
       cases ho:(z8 (onD pen) a).2 with
       | none=>rfl
       | some f=>exact absurd (by rw[hzq];dsimp only;rw[w1.2 ⟨f,ho⟩]) m
      refine Dv.pos ⟨oM,dC⟩<|⟨λ_=>?_,λh=>absurd (show((qQ pen.d (phD pen a) 0).1:Int) % 2=0 by omega) h⟩;refine⟨Int×Int,zcK,[((a:Int),((a:Int)+(qQ pen.d (phD pen a) 0).2))],rfl,Ob.o0 ?_⟩;refine⟨[((a:Int),((a:Int)+(qQ pen.d (phD pen a) 0).2))],rfl,Ob.o3 ?_⟩;exact⟨(k - 1,b),⟨hb1,hb2,hb3⟩,zL [0,3] ⟨rfl,rfl,rfl,rfl,congrArg (λq=>some (i64 q)) hT,trivial⟩ ⟨rfl,congrArg (λq=>some (Mem.arr 33 zcK 2 q)) (new hn),trivial⟩,by dsimp only;omega⟩
    ·have n0:¬(0:Int) < ((rI (kg (onD pen) a)).length:Int):=n0
     have hn:(z8 (onD pen) a).2=none:=by
      cases ho:(z8 (onD pen) a).2 with
      | none=>rfl
      | some f=>
       have:(kg (onD pen) a).length=(z8 (onD pen) a).1.length+1:=by rw[(zgu rOn ho).1,Xi];rfl
       omega
     refine Dv.pos ⟨oM,dC⟩<|⟨λ_=>?_,λh=>absurd (show((qQ pen.d (phD pen a) 0).1:Int) % 2=0 by omega) h⟩;refine⟨Int×Int,zcK,[((a:Int),((a:Int)+(qQ pen.d (phD pen a) 0).2))],rfl,Ob.o0 ?_⟩;refine⟨[((a:Int),((a:Int)+(qQ pen.d (phD pen a) 0).2))],rfl,Ob.o3 ?_⟩;exact⟨(k - 1,b),⟨hb1,hb2,hb3⟩,zL [0,3] ⟨rfl,rfl,rfl,rfl,congrArg (λq=>some (i64 q)) hT,trivial⟩ ⟨rfl,congrArg (λq=>some (Mem.arr 33 zcK 2 q)) (new hn),trivial⟩,by dsimp only;omega⟩
   ·have ev:¬(qQ pen.d (phD pen a) 0).1 % 2=0:=by have ev:¬((qQ pen.d (phD pen a) 0).1:Int) % 2=0:=ev;omega
    refine Dv.pos ⟨oM,dC⟩<|⟨λh=>absurd (show((qQ pen.d (phD pen a) 0).1:Int) % 2=0 from h) oM,λ_=>?_⟩;exact⟨(k - 1,b),⟨hb1,hb2,hb3⟩,zL [0,1] ⟨rfl,rfl,rfl,rfl,congrArg (λq=>some (i64 q)) hT,trivial⟩ ⟨rfl,congrArg (λq=>some (Mem.arr 33 zcK 2 q)) (by rw[zp2 (rOff ev)]),trivial⟩,by dsimp only;omega⟩
  ·have hT:long=(b:Int):=by have c:¬zdN pen a < long - a:=c;omega
   intro hl2;refine Dv.pos ⟨oM,dC⟩<|⟨λev=>?_,λev=>?_⟩
   ·have ev:(qQ pen.d (phD pen a) 0).1 % 2=0:=by have ev:((qQ pen.d (phD pen a) 0).1:Int) % 2=0:=ev;omega
    have rOn:=rOn ev;have new:(z8 (onD pen) a).2=none->rI (kg (onD pen) a)++[((a:Int),long)]=rI (kg (onD pen) b):=λh=>by rw[zp3 rOn h,zhv,hT]
    refine⟨λn0=>?_,λn0=>?_⟩
    ·have n0:(0:Int) < ((rI (kg (onD pen) a)).length:Int):=n0;refine Ar.o<|Ob.o<|Ob.o ?_;intro z hz;obtain⟨q,hq,hzq⟩:=zsU (show(rI (kg (onD pen) a))[(((rI (kg (onD pen) a)).length:Int) - 1).toNat]? =some z from hz);rw[show(((rI (kg (onD pen) a)).length:Int) - 1).toNat=(kg (onD pen) a).length - 1 by omega]at hq;obtain⟨w1,w2⟩:=zl9 hq;refine⟨λm=>?_,λm=>?_⟩
     ·have m:z.2=(a:Int):=m;obtain⟨f,hf⟩:=w1.1 (by rw[hzq]at m;dsimp only at m;omega);obtain⟨e1,e2⟩:=zgu rOn hf;have hz1:z.1=(f:Int):=by rw[hzq,w2 f hf]
      have ll:((((rI (kg (onD pen) a)).length:Int) - 1).toNat)=(rI (z8 (onD pen) a).1).length:=by
       have:(kg (onD pen) a).length=(z8 (onD pen) a).1.length+1:=by rw[e1,Xi];rfl
       rw[zfo]at len ⊢;rw[zfo];omega
      refine Ar.o<|Ob.o<|Ob.o ?_;intro z' hz';have hzz:z'=z:=Xj (hz'.symm.trans hz);refine⟨(z'.1,long),rfl,?_⟩
      have eq:(rI (kg (onD pen) a)).set (((rI (kg (onD pen) a)).length:Int) - 1).toNat (z'.1,long)=rI (kg (onD pen) b):=by
       rw[ll,e1,e2,zhv,zhv,zgh rfl,hzz,hz1,hT]
      exact⟨(k - 1,b),⟨hb1,hb2,hb3⟩,zL [0,1] ⟨rfl,rfl,rfl,rfl,congrArg (λq=>some (i64 q)) hT,trivial⟩ ⟨rfl,congrArg (λq=>some (Mem.arr 33 zcK 2 q)) eq,trivial⟩,by dsimp only;omega⟩
     ·have m:¬z.2=(a:Int):=m
      have hn:(z8 (onD pen) a).2=none:=by
       cases ho:(z8 (onD pen) a).2 with
       | none=>rfl
       | some f=>exact absurd (by rw[hzq];dsimp only;rw[w1.2 ⟨f,ho⟩]) m
      refine Dv.pos ⟨oM,dC⟩<|⟨λ_=>?_,λh=>absurd (show((qQ pen.d (phD pen a) 0).1:Int) % 2=0 by omega) h⟩;refine⟨Int×Int,zcK,[((a:Int),long)],rfl,Ob.o0 ?_⟩;refine⟨[((a:Int),long)],rfl,Ob.o3 ?_⟩;exact⟨(k - 1,b),⟨hb1,hb2,hb3⟩,zL [0,3] ⟨rfl,rfl,rfl,rfl,congrArg (λq=>some (i64 q)) hT,trivial⟩ ⟨rfl,congrArg (λq=>some (Mem.arr 33 zcK 2 q)) (new hn),trivial⟩,by dsimp only;omega⟩
    ·have n0:¬(0:Int) < ((rI (kg (onD pen) a)).length:Int):=n0
     have hn:(z8 (onD pen) a).2=none:=by
      cases ho:(z8 (onD pen) a).2 with
      | none=>rfl
      | some f=>
       have:(kg (onD pen) a).length=(z8 (onD pen) a).1.length+1:=by rw[(zgu rOn ho).1,Xi];rfl
       omega
     refine Dv.pos ⟨oM,dC⟩<|⟨λ_=>?_,λh=>absurd (show((qQ pen.d (phD pen a) 0).1:Int) % 2=0 by omega) h⟩;refine⟨Int×Int,zcK,[((a:Int),long)],rfl,Ob.o0 ?_⟩;refine⟨[((a:Int),long)],rfl,Ob.o3 ?_⟩;exact⟨(k - 1,b),⟨hb1,hb2,hb3⟩,zL [0,3] ⟨rfl,rfl,rfl,rfl,congrArg (λq=>some (i64 q)) hT,trivial⟩ ⟨rfl,congrArg (λq=>some (Mem.arr 33 zcK 2 q)) (new hn),trivial⟩,by dsimp only;omega⟩
   ·have ev:¬(qQ pen.d (phD pen a) 0).1 % 2=0:=by have ev:¬((qQ pen.d (phD pen a) 0).1:Int) % 2=0:=ev;omega
    refine Dv.pos ⟨oM,dC⟩<|⟨λh=>absurd (show((qQ pen.d (phD pen a) 0).1:Int) % 2=0 from h) oM,λ_=>?_⟩;exact⟨(k - 1,b),⟨hb1,hb2,hb3⟩,zL [0,1] ⟨rfl,rfl,rfl,rfl,congrArg (λq=>some (i64 q)) hT,trivial⟩ ⟨rfl,congrArg (λq=>some (Mem.arr 33 zcK 2 q)) (by rw[zp2 (rOff ev)]),trivial⟩,by dsimp only;omega⟩
theorem zfp(q:List Pt)(x:Pt)(hq:q.length<=100000):CG0 196 [.sl ptE q,.agg (ptE x)] [] (.own 0) [(0,.arr 35 ptE 2 (yE q x))]:=by
 refine qS tok mix Tryz.func196 rfl rfl rfl<|⟨Pt,ptE,[],rfl,Ob.o2 ?_⟩;refine⟨Nat,λi=>⟨[(0,.sl ptE q),(3,.loc 0 0),(5,.own 1),(6,i64 (i:Int))],[(0,.box 35 (ptE x)),(1,.arr 35 ptE 2 (q.take i))],2,40,0⟩,λi=>i<=q.length,λi=>q.length - i,0,?_,?_,?_⟩
 ·exact Xe _
 ·exact zf [0,1]
 rintro i hi
 intro hl1;refine⟨λg=>?_,λg=>?_⟩
 ·have g:(i:Int) < q.length:=g;refine Ob.o ?_;intro y hy;have hy:q[i]? =some y:=hy;refine⟨Pt,ptE,[y],rfl,Ob.o0 ?_⟩;refine⟨[y],rfl,Ob.o16 ?_⟩;exact Ar.o<|⟨i+1,oM,zC [0,3] ⟨rfl,congrArg (λq=>some (Mem.arr 35 ptE 2 q)) (by rw[Xm,hy];rfl),trivial⟩,by dsimp only;omega⟩
 have g:¬(i:Int) < q.length:=g;have et:q.take i=q:=Xg oM;have tl:(q.take i).length<=100000:=by rw[et];exact hq
 intro hl2;refine Dr.d<|Br.mk (λz=>?_) (λz=>?_)
 ·have z:(q.length:Int)=0:=z;refine Ob.mk (by kernel_rfl)<|⟨Pt,ptE,[x],rfl,Ob.o0 ?_⟩;refine⟨[x],rfl,Ob.o3 ?_⟩;exact⟨some 3,.own _ rfl,congrArg (λq=>some (Mem.arr 35 ptE 2 q)) (by rw[et,zns oM]),λ_ _=>rfl⟩
 have z:¬(q.length:Int)=0:=z;refine Ar.o<|Ob.o ?_;intro y hy
 have hy:q[q.length - 1]? =some y:=by
  have hy:q[((q.length:Int) - 1).toNat]? =some y:=hy
  rwa [show((q.length:Int) - 1).toNat=q.length - 1 by omega]at hy
 refine Ob.mk (by kernel_rfl)<|⟨λk=>?_,λk=>?_⟩
 ·have k:¬y=x:=λh=>k (k8.2 h)
  refine⟨Pt,ptE,[x],rfl,Ob.o0 ?_⟩;refine⟨[x],rfl,Ob.o3 ?_⟩;exact⟨some 3,.own _ rfl,congrArg (λq=>some (Mem.arr 35 ptE 2 q)) (by rw[et,zix hy k]),λ_ _=>rfl⟩
 ·have k:y=x:=k8.1 (Xa.1 k);exact⟨some 1,.own _ rfl,congrArg (λq=>some (Mem.arr 35 ptE 2 q)) (by rw[et,znr hy k]),λ_ _=>rfl⟩
theorem zkk{c:List Pt}{i j:Nat}(h:i<=j):atS c i<=atS c j:=by
 obtain⟨k,rfl⟩:∃k,j=i+k:=⟨j - i,oM⟩;clear h
 induction k with
 | zero=>exact Qb _
 | succ k ih=>
  have:=yB (nth c (i+k)) (nth c (i+k+1));show atS c i<=atS c (i+k)+zO (nth c (i+k)) (nth c (i+k+1));omega
theorem zxp{c:List Pt}{x:Int}{i:Nat}(h1:¬x < atS c i)(h2:x < atS c (i+1)):∀m,i<=m->zjZ c x m=i
 | 0,h=>by
   have:i=0:=oM;subst this;rfl
 | m+1,h=>by
  by_cases e:i=m+1
  ·rw[e]at h1 ⊢;exact zkh h1
  ·have:=zkk (c:=c) (show i+1<=m+1 by omega);rw[zxj oM];exact zxp h1 h2 m oM
theorem znH{c:List Pt}{x:Int}{i:Nat}(h:i<=c.length - 2)(h1:¬x < atS c i)(h2:x < atS c (i+1)):zc0 c x=yl (nth c i) (nth c (i+1)) (x - atS c i) (zO (nth c i) (nth c (i+1))):=by
 unfold zc0;rw[zxp h1 h2 _ h];dsimp only;rw[show atS c (i+1) - atS c i=zO (nth c i) (nth c (i+1)) by show atS c i+zO (nth c i) (nth c (i+1)) - atS c i=_;omega]
theorem zut{a b:Pt}{d:Int}(hd:1<=d/\d<=1099511627776)(ha:zr a):yl a b 0 d=a:=by
 unfold yl;rw[if_neg oM,zbq ha.1,zbq ha.2,show qf 0 0 d=0 from(zdw oM).2 ⟨Qb 0,oM⟩,Int.zero_mul,Int.zero_mul]
 have e:zQ 0 d=0:=by
  have h1:=zwI (M:=0) (show 0 < d by omega) (Qb 0) oM;omega
 rw[e]
 cases a
 simp
theorem zp4{x d:Int}(hd:1<=d):zQ (d*x) d=x:=by
 obtain⟨D,rfl⟩:∃D:Nat,d=D:=⟨d.toNat,oM⟩;have hD:0 < D:=oM
 have e:(2*((D:Int)*x).natAbs+(D:Int).natAbs) / (2*(D:Int).natAbs)=x.natAbs:=by
  rw[Qs,Qx,show 2*(D*x.natAbs)+D=D+(2*D)*x.natAbs by rw[KA];omega,Nat.add_mul_div_left _ _ oM,Kd oM,X6]
 unfold zQ;rw[e]
 by_cases hx:x < 0
 ·have:=Int.mul_neg_of_pos_of_neg (show(0:Int) < D by omega) hx;rw[if_neg oM];omega
 ·have:=XG (show(0:Int)<=D by omega) (show 0<=x by omega);rw[if_pos oM];omega
theorem zuu{a b:Pt}{d:Int}(hd:1<=d/\d<=1099511627776)(ha:zr a)(hb:zr b):yl a b d d=b:=by
 unfold yl;rw[if_neg oM,zbq ha.1,zbq ha.2,zbq hb.1,zbq hb.2,show qf d 0 d=d from(zdw oM).2 ⟨oM,Qb d⟩,zp4 hd.1,zp4 hd.1]
 cases b
 simp;omega
theorem zuv{a b:Pt}(ha:zr a)(hb:zr b)(h:a≠b):1<=zO a b:=by
 have hs:=zjS hb ha;have hr:=yB a b;refine Jy.1 λk=>?_
 unfold zO zoZ at k hr;have dr:=zei (jU (zcv b a)) (jU (zcv b a))
 have d0:1<=zib (zcv b a) (zcv b a):=by
  unfold zib dtp;have x0:=jg (jw (zcv b a)).x;have y0:=jg (jw (zcv b a)).y;refine Jy.1 λk2=>h ?_
  have zx:(jw (zcv b a)).x*(jw (zcv b a)).x=0:=oM;have zy:(jw (zcv b a)).y*(jw (zcv b a)).y=0:=oM;have zx:=(Int.mul_eq_zero.1 zx).elim id id;have zy:=(Int.mul_eq_zero.1 zy).elim id id;rw[hs]at zx zy;have zx:hI (b.x - a.x)=0:=zx;have zy:hI (b.y - a.y)=0:=zy;have e:∀n,hI n=0->n=0:=λn hn=>by unfold hI qf at hn;split at hn <;> (try split at hn) <;> omega
  have:=e _ zx;have:=e _ zy
  cases a;cases b
  simp only[Pt.mk.injEq];dsimp only at*;omega
 have:=zq5 (n:=65536*zib (zcv b a) (zcv b a)) (a:=256) oM (by unfold zib at d0 ⊢;omega) oM;omega
theorem zma:∀{l:List Pt} {i:Nat},jD l->i+1 < l.length->nth l i≠nth l (i+1)
 | [],_,_,h=>by cases h
 | [_],i,_,h=>by simp at h
 | a::b::r,0,h,_=>h.1 b rfl
 | a::b::r,i+1,h,hl=>zma (l:=b::r) (i:=i) h.2 (by simpa using hl)
theorem zru(p:Pl):jD (ze p):=by
 have ha:jD (zu p).pts:=by
  unfold zu;dsimp only
  split
  ·exact za5 (ud _)
  ·exact ud _
 rw[yL]
 by_cases h:(zu p).cl=true/\2<=(zu p).pts.length
 ·rw[zgr h.1 h.2];refine zfa ha λe=>?_
  have hc:p.cl=true:=h.1;have ed:=zfi hc;have ht:=zlJ (l:=qX p.pts) (ud _) (by rw[← ed];omega);rw[← ed,e]at ht;refine ht ?_;unfold nth;rw[Xt,Q4,Xb (show 0 < (zu p).pts.length by omega)];rfl
 ·rw[znC h];exact ha
variable{p:Pl}
theorem zgv(h:∀q∈p.pts,zr q)(hi:i < (ze p).length):zr (nth (ze p) i):=h _ (zwJ (zsD hi))
theorem zsV(h:∀q∈p.pts,zr q)(hi:i+1 < (ze p).length):1<=zO (nth (ze p) i) (nth (ze p) (i+1)):=
 zuv (zgv h oM) (zgv h hi) (zma (zru p) hi)
theorem qR(c:List Pt)(i:Nat):atS c (i+1)=atS c i+zO (nth c i) (nth c (i+1)):=rfl
theorem zsW(h:∀q∈p.pts,zr q){t:Int}(hi:i+1 < (ze p).length)(h1:atS (ze p) i < t)(h2:t<=atS (ze p) (i+1)):
  zc0 (ze p) t=yl (nth (ze p) i) (nth (ze p) (i+1)) (t - atS (ze p) i) (zO (nth (ze p) i) (nth (ze p) (i+1))):=by
 have pr:=yB (nth (ze p) i) (nth (ze p) (i+1));have sp:=zsV h hi
 by_cases c:t < atS (ze p) (i+1)
 ·exact znH oM oM c
 have e:t=atS (ze p) (i+1):=oM
 by_cases c2:i+2 < (ze p).length
 ·have sp2:=zsV h (i:=i+1) c2;have pr2:=yB (nth (ze p) (i+1)) (nth (ze p) (i+1+1));rw[znH (i:=i+1) oM oM (by rw[qR (ze p) (i+1)];omega),e,Int.sub_self,zut oM (zgv h hi)];rw[show atS (ze p) (i+1) - atS (ze p) i=zO (nth (ze p) i) (nth (ze p) (i+1)) by rw[qR];omega,zuu oM (zgv h oM) (zgv h hi)]
 ·unfold zc0;rw[show(ze p).length - 2=i by omega,zkh oM];dsimp only;rw[show atS (ze p) (i+1) - atS (ze p) i=zO (nth (ze p) i) (nth (ze p) (i+1)) by rw[qR];omega]
theorem zp5{c:List Pt}{f t:Int}:∀{n:Nat},(∀j,j < n->¬f < atS c j)->zeP c f t n=[]
 | 0,_=>rfl
 | n+1,h=>by rw[zeu,zp5 λj hj=>h j oM,if_neg λk=>h n oM k.1];rfl
def zrv(c:List Pt)(f t:Int)(i:Nat):List Pt:=(if f < atS c i then[zc0 c f] else[])++zeP c f t i++(if t<=atS c i then[zc0 c t] else[])
def zc1(c:List Pt)(f t:Int)(i:Nat):List Pt:=kz [] (zrv c f t i)
variable{f:Int}
theorem zuw(h:∀q∈p.pts,zr q){t:Int}(hi:i+1 < (ze p).length)(hft:f < t):
  zc1 (ze p) f t (i+1)=kz (zc1 (ze p) f t i)
   ((if ¬f < atS (ze p) i/\f < atS (ze p) (i+1) then[yl (nth (ze p) i) (nth (ze p) (i+1)) (f - atS (ze p) i) (zO (nth (ze p) i) (nth (ze p) (i+1)))] else[])++
    (if f < atS (ze p) i/\atS (ze p) i < t then[nth (ze p) i] else[])++
    (if atS (ze p) i < t/\t<=atS (ze p) (i+1) then[yl (nth (ze p) i) (nth (ze p) (i+1)) (t - atS (ze p) i) (zO (nth (ze p) i) (nth (ze p) (i+1)))] else[])):=by
 have mono:=zkk (c:=ze p) (show i<=i+1 by omega);have key:∀A B,kz [] (A++B)=kz (kz [] A) B:=λA B=>by unfold kz;rw[KP]
 unfold zc1;rw[← key];congr 1;unfold zrv;rw[zeu]
 by_cases F:f < atS (ze p) i
 ·rw[if_pos F,if_pos (show f < atS (ze p) (i+1) by omega),if_neg (show ¬(¬f < atS (ze p) i/\f < atS (ze p) (i+1)) from λk=>k.1 F)]
  by_cases T:t<=atS (ze p) i
  ·rw[if_pos T,if_pos (show t<=atS (ze p) (i+1) by omega),if_neg (show ¬(f < atS (ze p) i/\atS (ze p) i < t) by omega),if_neg (show ¬(atS (ze p) i < t/\t<=atS (ze p) (i+1)) by omega)];simp
  ·rw[if_neg T,if_pos (show f < atS (ze p) i/\atS (ze p) i < t by omega)]
   by_cases T2:t<=atS (ze p) (i+1)
   ·rw[if_pos T2,if_pos (show atS (ze p) i < t/\t<=atS (ze p) (i+1) by omega),zsW h hi oM T2];simp
   ·rw[if_neg T2,if_neg (show ¬(atS (ze p) i < t/\t<=atS (ze p) (i+1)) by omega)];simp
 ·have mn:zeP (ze p) f t i=[]:=zp5 λj hj k=>F (by have:=zkk (c:=ze p) (show j<=i by omega);omega)
  rw[if_neg F,mn,if_neg (show ¬(f < atS (ze p) i/\atS (ze p) i < t) by omega),if_neg (show ¬t<=atS (ze p) i by omega)]
  by_cases F2:f < atS (ze p) (i+1)
  ·rw[if_pos F2,if_pos (show ¬f < atS (ze p) i/\f < atS (ze p) (i+1) by omega),znH (i:=i) oM F F2]
   by_cases T2:t<=atS (ze p) (i+1)
   ·rw[if_pos T2,if_pos (show atS (ze p) i < t/\t<=atS (ze p) (i+1) by omega),zsW h hi oM T2];simp
   ·rw[if_neg T2,if_neg (show ¬(atS (ze p) i < t/\t<=atS (ze p) (i+1)) by omega)];simp
  ·rw[if_neg F2,if_neg (show ¬(¬f < atS (ze p) i/\f < atS (ze p) (i+1)) by omega),if_neg (show ¬t<=atS (ze p) (i+1) by omega),if_neg (show ¬(atS (ze p) i < t/\t<=atS (ze p) (i+1)) by omega)];simp
theorem zxq{t:Int}(hft:f < t)(ht:t<=zK p):zc1 (ze p) f t ((ze p).length - 1)=vh (ze p) f t:=by
 have e:atS (ze p) ((ze p).length - 1)=zK p:=rfl;unfold zc1 zrv vh;rw[if_pos (show f < atS (ze p) ((ze p).length - 1) by omega),if_pos (show t<=atS (ze p) ((ze p).length - 1) by omega)]
theorem zxr(c:List Pt)(f t:Int)(i:Nat):(zc1 c f t i).length<=i+2:=by
 have h:=vq (zrv c f t i) []
 have hm:(zeP c f t i).length<=i:=by
  unfold zeP;rw[XF];exact Xz (Q7 _ _) (by simp)
 unfold zc1
 have h2:(zrv c f t i).length<=i+2:=by
  unfold zrv;rw[Xi,Xi]
  split <;> split <;> simp <;> omega
 have h3:([]:List Pt).length=0:=rfl;omega
theorem zzg(p:Pl)(f t:Int)(hp:p.pts.length<=4096)(ok:∀q∈p.pts,zr q)(hf:0<=f)(hft:f < t)(ht:t<=zK p):
  CG0 132 [.agg (plE p),i64 f,i64 t] [] (.agg (plE ⟨vh (ze p) f t,false⟩)) []:=by
 refine zc Tryz.func132 ?_;have lr:=zfm p hp;have dl:=ju p;have ll:=jH (zu p);rw[← yL]at ll;refine zb.t (zpZ p hp ok) ?_;have ef:zcX 0 [zbA f [zK p]]=f:=show max 0 (min f (zK p))=f by omega
 have et:zcX 0 [zbA t [zK p]]=t:=show max 0 (min t (zK p))=t by omega
 refine⟨λh=>absurd (show zcX 0 [zbA t [zK p]]<=zcX 0 [zbA f [zK p]] from h) oM,λ_=>?_⟩;refine zb.t (zxo p hp)<|⟨Pt,ptE,[],rfl,Ob.o2 ?_⟩;refine⟨Nat,λi=>⟨[(6,.loc 0 0),(8,i64 f),(9,i64 t),(10,.sl ptE (ze p)),(11,.own 1),(12,i64 (atS (ze p) i)),(13,i64 ((i:Int)+1))],[(0,.box 118 [.val (.slice none 0 0),.val (.bool false)]),(1,.arr 35 ptE 2 (zc1 (ze p) f t i))],2,120,0⟩,λi=>i<=(ze p).length - 1,λi=>(ze p).length - i,0,?_,?_,?_⟩
 ·exact Xe _
 ·refine zL [1,2] ⟨rfl,congrArg (λq=>some (i64 q)) ef,congrArg (λq=>some (i64 q)) et,rfl,rfl,rfl,rfl,trivial⟩ ⟨rfl,congrArg (λq=>some (Mem.arr 35 ptE 2 q)) ?_,trivial⟩;unfold zc1 zrv;rw[show atS (ze p) 0=0 from rfl,if_neg oM,if_neg oM];rfl
 rintro i hi
 have ar:=vQ (ze p) i;have sl:=zxr (ze p) f t i;intro hl1;refine⟨λg=>?_,λg=>?_⟩;rotate_left
 ·have g:¬(i:Int)+1 < (ze p).length:=g;refine qA (.cons (z9 ?_) (.cons (zd (show ¬(false=true) by decide)) .nil));rw[show i=(ze p).length - 1 by omega,zxq hft ht]
 have g:(i:Int)+1 < (ze p).length:=g;have hi1:i+1 < (ze p).length:=oM;have key:=zuw ok hi1 hft;rw[qR]at key;refine Dr.k<|Ar.o<|Ob.o ?_;intro x hx
 have hx:=qt (show(ze p)[i]? =some x by
  have hx:(ze p)[((i:Int)+1 - 1).toNat]? =some x:=hx
  rwa [show((i:Int)+1 - 1).toNat=i by omega]at hx)
 have hxs:∀x',(ze p)[((i:Int)+1 - 1).toNat]? =some x'->x'=x:=λx' h=>by
  rw[show((i:Int)+1 - 1).toNat=i by omega]at h;exact(qt h).trans hx.symm
 refine Ob.o ?_;intro y hy;have hy:=qt (show(ze p)[i+1]? =some y from hy);have hys:∀y',(ze p)[((i:Int)+1).toNat]? =some y'->y'=y:=λy' h=>(qt (show(ze p)[i+1]? =some y' from h)).trans hy.symm
 refine zb.t (zsS x y) ?_;have pr:=yB x y;rw[← hx,← hy]at key;refine⟨λa1=>?_,λa1=>?_⟩
 ·have a1:atS (ze p) i<=f:=a1;refine Ar.o<|Br.mk (λa2=>?_) (λa2=>?_)
  ·have a2:f < atS (ze p) i+zO x y:=a2;refine Dr.d<|Ar.o<|Ob.o ?_;intro x' hx';have hx':=hxs x' hx';refine Ob.o ?_;intro y' hy';have hy':=hys y' hy';rw[hx',hy'];refine Ar.o<|zb.t (zhc x y (f - atS (ze p) i) (zO x y))<|zb.fresh _ _ (zfp (zc1 (ze p) f t i) (yl x y (f - atS (ze p) i) (zO x y)) oM) rfl (λ_ _=>rfl) (.inr (λ_ _=>rfl))<|Ob.mk (by kernel_rfl) ?_;have s1:=zgi (zc1 (ze p) f t i) (yl x y (f - atS (ze p) i) (zO x y));refine⟨λb1=>absurd (show f < atS (ze p) i from b1) oM,λ_=>?_⟩
   refine⟨λc1=>?_,λc1=>?_⟩
   ·have c1:atS (ze p) i < t:=c1;refine Ar.o<|Br.mk (λc2=>?_) (λc2=>?_)
    ·have c2:t<=atS (ze p) i+zO x y:=c2;refine Dr.d<|Ar.o<|Ob.o ?_;intro x' hx';have hx':=hxs x' hx';refine Ob.o ?_;intro y' hy';have hy':=hys y' hy';rw[hx',hy'];refine Ar.o<|zb.t (zhc x y (t - atS (ze p) i) (zO x y))<|zb.fresh _ _ (zfp (yE (zc1 (ze p) f t i) (yl x y (f - atS (ze p) i) (zO x y))) (yl x y (t - atS (ze p) i) (zO x y)) oM) rfl (λ_ _=>rfl) (.inr (λ_ _=>rfl))<|Ob.mk (by kernel_rfl) ?_;(iterate 2 refine Ar.o ?_)
     exact⟨i+1,oM,zL [0,3] ⟨rfl,rfl,rfl,rfl,rfl,congrArg (λq=>some (i64 q)) (by rw[qR,← hx,← hy]),congrArg (λq=>some (i64 q)) oM,trivial⟩ ⟨rfl,congrArg (λq=>some (Mem.arr 35 ptE 2 q)) (by rw[if_pos (show ¬f < atS (ze p) i/\f < atS (ze p) i+zO x y by omega),if_neg (show ¬(f < atS (ze p) i/\atS (ze p) i < t) by omega),if_pos (show atS (ze p) i < t/\t<=atS (ze p) i+zO x y by omega)]at key;exact key.symm),trivial⟩,by dsimp only;omega⟩
    ·have c2:¬t<=atS (ze p) i+zO x y:=c2;(iterate 2 refine Ar.o ?_);exact⟨i+1,oM,zL [0,2] ⟨rfl,rfl,rfl,rfl,rfl,congrArg (λq=>some (i64 q)) (by rw[qR,← hx,← hy]),congrArg (λq=>some (i64 q)) oM,trivial⟩ ⟨rfl,congrArg (λq=>some (Mem.arr 35 ptE 2 q)) (by rw[if_pos (show ¬f < atS (ze p) i/\f < atS (ze p) i+zO x y by omega),if_neg (show ¬(f < atS (ze p) i/\atS (ze p) i < t) by omega),if_neg (show ¬(atS (ze p) i < t/\t<=atS (ze p) i+zO x y) by omega)]at key;exact key.symm),trivial⟩,by dsimp only;omega⟩
   ·have c1:¬atS (ze p) i < t:=c1;(iterate 2 refine Ar.o ?_);exact⟨i+1,oM,zL [0,2] ⟨rfl,rfl,rfl,rfl,rfl,congrArg (λq=>some (i64 q)) (by rw[qR,← hx,← hy]),congrArg (λq=>some (i64 q)) oM,trivial⟩ ⟨rfl,congrArg (λq=>some (Mem.arr 35 ptE 2 q)) (by rw[if_pos (show ¬f < atS (ze p) i/\f < atS (ze p) i+zO x y by omega),if_neg (show ¬(f < atS (ze p) i/\atS (ze p) i < t) by omega),if_neg (show ¬(atS (ze p) i < t/\t<=atS (ze p) i+zO x y) by omega)]at key;exact key.symm),trivial⟩,by dsimp only;omega⟩
  ·have a2:¬f < atS (ze p) i+zO x y:=a2;refine⟨λb1=>absurd (show f < atS (ze p) i from b1) oM,λ_=>?_⟩;refine⟨λc1=>?_,λc1=>?_⟩
   ·have c1:atS (ze p) i < t:=c1;refine Ar.o<|Br.mk (λc2=>?_) (λc2=>?_)
    ·have c2:t<=atS (ze p) i+zO x y:=c2;refine Dr.d<|Ar.o<|Ob.o ?_;intro x' hx';have hx':=hxs x' hx';refine Ob.o ?_;intro y' hy';have hy':=hys y' hy';rw[hx',hy'];refine Ar.o<|zb.t (zhc x y (t - atS (ze p) i) (zO x y))<|zb.fresh _ _ (zfp (zc1 (ze p) f t i) (yl x y (t - atS (ze p) i) (zO x y)) oM) rfl (λ_ _=>rfl) (.inr (λ_ _=>rfl))<|Ob.mk (by kernel_rfl) ?_;(iterate 2 refine Ar.o ?_)
     exact⟨i+1,oM,zL [0,2] ⟨rfl,rfl,rfl,rfl,rfl,congrArg (λq=>some (i64 q)) (by rw[qR,← hx,← hy]),congrArg (λq=>some (i64 q)) oM,trivial⟩ ⟨rfl,congrArg (λq=>some (Mem.arr 35 ptE 2 q)) (by rw[if_neg (show ¬(¬f < atS (ze p) i/\f < atS (ze p) i+zO x y) by omega),if_neg (show ¬(f < atS (ze p) i/\atS (ze p) i < t) by omega),if_pos (show atS (ze p) i < t/\t<=atS (ze p) i+zO x y by omega)]at key;exact key.symm),trivial⟩,by dsimp only;omega⟩
    ·have c2:¬t<=atS (ze p) i+zO x y:=c2;(iterate 2 refine Ar.o ?_);exact⟨i+1,oM,zL [0,1] ⟨rfl,rfl,rfl,rfl,rfl,congrArg (λq=>some (i64 q)) (by rw[qR,← hx,← hy]),congrArg (λq=>some (i64 q)) oM,trivial⟩ ⟨rfl,congrArg (λq=>some (Mem.arr 35 ptE 2 q)) (by rw[if_neg (show ¬(¬f < atS (ze p) i/\f < atS (ze p) i+zO x y) by omega),if_neg (show ¬(f < atS (ze p) i/\atS (ze p) i < t) by omega),if_neg (show ¬(atS (ze p) i < t/\t<=atS (ze p) i+zO x y) by omega)]at key;exact key.symm),trivial⟩,by dsimp only;omega⟩
   ·have c1:¬atS (ze p) i < t:=c1;(iterate 2 refine Ar.o ?_);exact⟨i+1,oM,zL [0,1] ⟨rfl,rfl,rfl,rfl,rfl,congrArg (λq=>some (i64 q)) (by rw[qR,← hx,← hy]),congrArg (λq=>some (i64 q)) oM,trivial⟩ ⟨rfl,congrArg (λq=>some (Mem.arr 35 ptE 2 q)) (by rw[if_neg (show ¬(¬f < atS (ze p) i/\f < atS (ze p) i+zO x y) by omega),if_neg (show ¬(f < atS (ze p) i/\atS (ze p) i < t) by omega),if_neg (show ¬(atS (ze p) i < t/\t<=atS (ze p) i+zO x y) by omega)]at key;exact key.symm),trivial⟩,by dsimp only;omega⟩
 ·have a1:¬atS (ze p) i<=f:=a1;refine⟨λb1=>?_,λb1=>?_⟩
  ·have b1:f < atS (ze p) i:=b1;refine⟨λb2=>?_,λb2=>?_⟩
   ·have b2:atS (ze p) i < t:=b2;refine Ar.o<|Ob.o ?_;intro x' hx';have hx':=hxs x' hx';rw[hx'];have s2:=zgi (zc1 (ze p) f t i) x;refine zb.fresh _ _ (zfp (zc1 (ze p) f t i) x oM) rfl (λ_ _=>rfl) (.inr (λ_ _=>rfl))<|⟨λc1=>?_,λc1=>?_⟩
    ·have c1:atS (ze p) i < t:=c1;refine Ar.o<|Br.mk (λc2=>?_) (λc2=>?_)
     ·have c2:t<=atS (ze p) i+zO x y:=c2;refine Dr.d<|Ar.o<|Ob.o ?_;intro x' hx';have hx':=hxs x' hx';refine Ob.o ?_;intro y' hy';have hy':=hys y' hy';rw[hx',hy'];refine Ar.o<|zb.t (zhc x y (t - atS (ze p) i) (zO x y))<|zb.fresh _ _ (zfp (yE (zc1 (ze p) f t i) x) (yl x y (t - atS (ze p) i) (zO x y)) oM) rfl (λ_ _=>rfl) (.inr (λ_ _=>rfl))<|Ob.mk (by kernel_rfl) ?_;(iterate 2 refine Ar.o ?_)
      exact⟨i+1,oM,zL [0,3] ⟨rfl,rfl,rfl,rfl,rfl,congrArg (λq=>some (i64 q)) (by rw[qR,← hx,← hy]),congrArg (λq=>some (i64 q)) oM,trivial⟩ ⟨rfl,congrArg (λq=>some (Mem.arr 35 ptE 2 q)) (by rw[if_neg (show ¬(¬f < atS (ze p) i/\f < atS (ze p) i+zO x y) by omega),if_pos (show f < atS (ze p) i/\atS (ze p) i < t by omega),if_pos (show atS (ze p) i < t/\t<=atS (ze p) i+zO x y by omega)]at key;exact key.symm),trivial⟩,by dsimp only;omega⟩
     ·have c2:¬t<=atS (ze p) i+zO x y:=c2;(iterate 2 refine Ar.o ?_);exact⟨i+1,oM,zL [0,2] ⟨rfl,rfl,rfl,rfl,rfl,congrArg (λq=>some (i64 q)) (by rw[qR,← hx,← hy]),congrArg (λq=>some (i64 q)) oM,trivial⟩ ⟨rfl,congrArg (λq=>some (Mem.arr 35 ptE 2 q)) (by rw[if_neg (show ¬(¬f < atS (ze p) i/\f < atS (ze p) i+zO x y) by omega),if_pos (show f < atS (ze p) i/\atS (ze p) i < t by omega),if_neg (show ¬(atS (ze p) i < t/\t<=atS (ze p) i+zO x y) by omega)]at key;exact key.symm),trivial⟩,by dsimp only;omega⟩
    ·have c1:¬atS (ze p) i < t:=c1;(iterate 2 refine Ar.o ?_);exact⟨i+1,oM,zL [0,2] ⟨rfl,rfl,rfl,rfl,rfl,congrArg (λq=>some (i64 q)) (by rw[qR,← hx,← hy]),congrArg (λq=>some (i64 q)) oM,trivial⟩ ⟨rfl,congrArg (λq=>some (Mem.arr 35 ptE 2 q)) (by rw[if_neg (show ¬(¬f < atS (ze p) i/\f < atS (ze p) i+zO x y) by omega),if_pos (show f < atS (ze p) i/\atS (ze p) i < t by omega),if_neg (show ¬(atS (ze p) i < t/\t<=atS (ze p) i+zO x y) by omega)]at key;exact key.symm),trivial⟩,by dsimp only;omega⟩
   ·have b2:¬atS (ze p) i < t:=b2;refine⟨λc1=>?_,λc1=>?_⟩
    ·have c1:atS (ze p) i < t:=c1;refine Ar.o<|Br.mk (λc2=>?_) (λc2=>?_)
     ·have c2:t<=atS (ze p) i+zO x y:=c2;refine Dr.d<|Ar.o<|Ob.o ?_;intro x' hx';have hx':=hxs x' hx';refine Ob.o ?_;intro y' hy';have hy':=hys y' hy';rw[hx',hy'];refine Ar.o<|zb.t (zhc x y (t - atS (ze p) i) (zO x y))<|zb.fresh _ _ (zfp (zc1 (ze p) f t i) (yl x y (t - atS (ze p) i) (zO x y)) oM) rfl (λ_ _=>rfl) (.inr (λ_ _=>rfl))<|Ob.mk (by kernel_rfl) ?_;(iterate 2 refine Ar.o ?_)
      exact⟨i+1,oM,zL [0,2] ⟨rfl,rfl,rfl,rfl,rfl,congrArg (λq=>some (i64 q)) (by rw[qR,← hx,← hy]),congrArg (λq=>some (i64 q)) oM,trivial⟩ ⟨rfl,congrArg (λq=>some (Mem.arr 35 ptE 2 q)) (by rw[if_neg (show ¬(¬f < atS (ze p) i/\f < atS (ze p) i+zO x y) by omega),if_neg (show ¬(f < atS (ze p) i/\atS (ze p) i < t) by omega),if_pos (show atS (ze p) i < t/\t<=atS (ze p) i+zO x y by omega)]at key;exact key.symm),trivial⟩,by dsimp only;omega⟩
     ·have c2:¬t<=atS (ze p) i+zO x y:=c2;(iterate 2 refine Ar.o ?_);exact⟨i+1,oM,zL [0,1] ⟨rfl,rfl,rfl,rfl,rfl,congrArg (λq=>some (i64 q)) (by rw[qR,← hx,← hy]),congrArg (λq=>some (i64 q)) oM,trivial⟩ ⟨rfl,congrArg (λq=>some (Mem.arr 35 ptE 2 q)) (by rw[if_neg (show ¬(¬f < atS (ze p) i/\f < atS (ze p) i+zO x y) by omega),if_neg (show ¬(f < atS (ze p) i/\atS (ze p) i < t) by omega),if_neg (show ¬(atS (ze p) i < t/\t<=atS (ze p) i+zO x y) by omega)]at key;exact key.symm),trivial⟩,by dsimp only;omega⟩
    ·have c1:¬atS (ze p) i < t:=c1;(iterate 2 refine Ar.o ?_);exact⟨i+1,oM,zL [0,1] ⟨rfl,rfl,rfl,rfl,rfl,congrArg (λq=>some (i64 q)) (by rw[qR,← hx,← hy]),congrArg (λq=>some (i64 q)) oM,trivial⟩ ⟨rfl,congrArg (λq=>some (Mem.arr 35 ptE 2 q)) (by rw[if_neg (show ¬(¬f < atS (ze p) i/\f < atS (ze p) i+zO x y) by omega),if_neg (show ¬(f < atS (ze p) i/\atS (ze p) i < t) by omega),if_neg (show ¬(atS (ze p) i < t/\t<=atS (ze p) i+zO x y) by omega)]at key;exact key.symm),trivial⟩,by dsimp only;omega⟩
  ·have b1:¬f < atS (ze p) i:=b1;refine⟨λc1=>?_,λc1=>?_⟩
   ·have c1:atS (ze p) i < t:=c1;refine Ar.o<|Br.mk (λc2=>?_) (λc2=>?_)
    ·have c2:t<=atS (ze p) i+zO x y:=c2;refine Dr.d<|Ar.o<|Ob.o ?_;intro x' hx';have hx':=hxs x' hx';refine Ob.o ?_;intro y' hy';have hy':=hys y' hy';rw[hx',hy'];refine Ar.o<|zb.t (zhc x y (t - atS (ze p) i) (zO x y))<|zb.fresh _ _ (zfp (zc1 (ze p) f t i) (yl x y (t - atS (ze p) i) (zO x y)) oM) rfl (λ_ _=>rfl) (.inr (λ_ _=>rfl))<|Ob.mk (by kernel_rfl) ?_;(iterate 2 refine Ar.o ?_)
     exact⟨i+1,oM,zL [0,2] ⟨rfl,rfl,rfl,rfl,rfl,congrArg (λq=>some (i64 q)) (by rw[qR,← hx,← hy]),congrArg (λq=>some (i64 q)) oM,trivial⟩ ⟨rfl,congrArg (λq=>some (Mem.arr 35 ptE 2 q)) (by rw[if_neg (show ¬(¬f < atS (ze p) i/\f < atS (ze p) i+zO x y) by omega),if_neg (show ¬(f < atS (ze p) i/\atS (ze p) i < t) by omega),if_pos (show atS (ze p) i < t/\t<=atS (ze p) i+zO x y by omega)]at key;exact key.symm),trivial⟩,by dsimp only;omega⟩
    ·have c2:¬t<=atS (ze p) i+zO x y:=c2;(iterate 2 refine Ar.o ?_);exact⟨i+1,oM,zL [0,1] ⟨rfl,rfl,rfl,rfl,rfl,congrArg (λq=>some (i64 q)) (by rw[qR,← hx,← hy]),congrArg (λq=>some (i64 q)) oM,trivial⟩ ⟨rfl,congrArg (λq=>some (Mem.arr 35 ptE 2 q)) (by rw[if_neg (show ¬(¬f < atS (ze p) i/\f < atS (ze p) i+zO x y) by omega),if_neg (show ¬(f < atS (ze p) i/\atS (ze p) i < t) by omega),if_neg (show ¬(atS (ze p) i < t/\t<=atS (ze p) i+zO x y) by omega)]at key;exact key.symm),trivial⟩,by dsimp only;omega⟩
   ·have c1:¬atS (ze p) i < t:=c1;(iterate 2 refine Ar.o ?_);exact⟨i+1,oM,zL [0,1] ⟨rfl,rfl,rfl,rfl,rfl,congrArg (λq=>some (i64 q)) (by rw[qR,← hx,← hy]),congrArg (λq=>some (i64 q)) oM,trivial⟩ ⟨rfl,congrArg (λq=>some (Mem.arr 35 ptE 2 q)) (by rw[if_neg (show ¬(¬f < atS (ze p) i/\f < atS (ze p) i+zO x y) by omega),if_neg (show ¬(f < atS (ze p) i/\atS (ze p) i < t) by omega),if_neg (show ¬(atS (ze p) i < t/\t<=atS (ze p) i+zO x y) by omega)]at key;exact key.symm),trivial⟩,by dsimp only;omega⟩
theorem zux{long:Int}{q:Nat×Nat}(h:q∈kT pen long)(h1:q.1=0)(h2:(q.2:Int)=long):kT pen long=[q]:=by
 unfold kT at h ⊢
 split at h
 ·cases h
 ·rename_i k;rw[if_neg k]
  split at h
  ·rename_i k2;rw[if_pos k2];have:=Xr.1 h;rw[this]
  ·rename_i k2;rw[if_neg k2];exact zyP h h1 oM
def zk1(p:Pl)(q:Nat×Nat):Pl:=⟨vh (ze p) q.1 q.2,false⟩
theorem zxs(h:¬(p.cl=true/\qN pen (zK p)=[(0,(zK p).toNat)]))(hR:qN pen (zK p)=kT pen (zK p)):
  (kT pen (zK p)).map (j9 p)=(kT pen (zK p)).map (zk1 p):=by
 refine List.map_congr_left λq hq=>?_
 unfold j9;refine if_neg λk=>h ⟨k.1,?_⟩
 rw[hR,zux hq k.2.1 k.2.2,← k.2.1,show(zK p).toNat=q.2 by omega]
def zdO(p:Pl)(pen:Pen)(j:Nat):Nat:=jI (((qN pen (zK p)).take j).map (zk1 p))
theorem zuy{j:Nat}{y:Nat×Nat}(h:(qN pen (zK p))[j]? =some y):zdO p pen (j+1)=zdO p pen j+(zk1 p y).pts.length:=by
 unfold zdO;rw[Xm,h,XI,zgt];show _+jI [zk1 p y]=_;unfold jI;simp
theorem zzh(p:Pl)(pen:Pen)(j:Nat):zdO p pen j<=jI ((qN pen (zK p)).map (zk1 p)):=by
 have e:(qN pen (zK p)).map (zk1 p)=((qN pen (zK p)).take j).map (zk1 p)++((qN pen (zK p)).drop j).map (zk1 p):=by
  rw[← XI,Kf]
 rw[e,zgt];exact Jd _ _
theorem zzi(p:Pl)(pen:Pen)(j:Nat):((qN pen (zK p)).take j).length<=zdO p pen j:=by
 have:=zew (l:=((qN pen (zK p)).take j).map (zk1 p)) λx hx=>by
  obtain⟨q,hq,rfl⟩:=XY.1 hx;exact(znG (ze p) q.1 q.2).1
 rwa [XF]at this
theorem zBD(p:Pl)(pen:Pen)(hp:p.pts.length<=4096):CG0 62 [.agg (plE p),.agg (ji pen)] [] (znw (jy p pen)) []:=by
 refine zc Tryz.func62 ?_
 have es:jy p pen=if ¬kF pen then([],13) else if ¬∀q∈p.pts,zr q then([],6) else if 4096 < p.pts.length then([],5)
  else if pen.d=[] then([zu p],0) else if 4096 < jI ((kT pen (zK p)).map (j9 p)) then([],5) else((kT pen (zK p)).map (j9 p),0):=rfl
 refine zb.t (zcz pen)<|⟨λk=>?_,λk=>?_⟩
 ·have k:¬kF pen:=k;exact jt (by rw[es,if_pos k])
 have k:kF pen:=Xa.1 k;rw[kS k]at es;refine zb.t (zsR p.pts)<|⟨λok=>?_,λok=>?_⟩
 ·have ok:¬∀q∈p.pts,zr q:=ok;exact jt (by rw[es,if_pos ok])
 have ok:∀q∈p.pts,zr q:=Xa.1 ok;rw[kS ok,if_neg (show ¬4096 < p.pts.length by omega)]at es;intro hl1;refine⟨λh=>absurd (show(4096:Int) < p.pts.length from h) oM,λ_=>?_⟩;have lr:=zfm p hp;have dl:=ju p;have ll:=jH (zu p);rw[← yL]at ll;refine zb.t (zpZ p hp ok)<|zb.t (zBC pen (zK p) k oM) ?_;have hr:=zp1 pen (zK p);have rl:=zfo (qN pen (zK p));intro hl2
 have whole:pen.d=[]∨(p.cl=true/\qN pen (zK p)=[(0,(zK p).toNat)])->jy p pen=([zu p],0):=λh=>by
  by_cases z:pen.d=[]
  ·rw[es,if_pos z]
  ·obtain⟨c,e⟩:=h.resolve_left z
   have eP:kT pen (zK p)=[(0,(zK p).toNat)]:=by
    rcases hr.1 with h | h
    ·rw[← h,e]
    ·rw[e]at h;exact absurd h.1 (by simp)
   have q1:=hr.2 (0,(zK p).toNat) (by rw[e];exact .head _)
   have ed:(kT pen (zK p)).map (j9 p)=[zu p]:=by
    rw[eP];show[j9 p (0,(zK p).toNat)]=_;unfold j9;rw[if_pos ⟨c,rfl,by dsimp only;omega⟩]
   rw[es,if_neg z,ed,if_neg];unfold jI;simp;omega
 have W:LE (.tup [.sl plE [zu p],i64 0]) (znw ([zu p],0)):=.refl;refine⟨λz=>?_,λz=>?_⟩
 ·have z:(pen.d.length:Int)=0:=z;have z:pen.d=[]:=Xn oM;refine zb.t (ziz p hp)<|⟨Pl,plE,[zu p],rfl,Ob.o0 ?_⟩;rw[whole (.inl z)];exact W
 have z:¬(pen.d.length:Int)=0:=z;rw[if_neg (λh=>z (by rw[h];rfl))]at es
 have hq0:∀u,(rI (qN pen (zK p)))[0]? =some u->((rI (qN pen (zK p))).length:Int)=1->(u.1=0/\u.2=zK p↔qN pen (zK p)=[(0,(zK p).toNat)]):=λu hu n1=>by
  obtain⟨q,hq,huq⟩:=zsU hu;have n1:(qN pen (zK p)).length=1:=oM;obtain⟨q',hq'⟩:=JS.1 n1;rw[hq']at hq ⊢
  cases hq
  constructor
  ·rintro⟨a,b⟩
   rw[huq]at a b;dsimp only at a b;rw[show q=(q.1,q.2) from rfl,show q.1=0 by omega,show q.2=(zK p).toNat by omega]
  ·intro h;have e:q=(0,(zK p).toNat):=List.singleton_inj.1 h;rw[huq,e];exact⟨rfl,by dsimp only;omega⟩
 refine⟨λc=>λhl3=>Br.mk (λn1=>Ob.mk (by have n1:((rI (qN pen (zK p))).length:Int)=1:=n1;omega) λu hu=>Br.mk (λe=>?_) (λe=>?_)) (λn1=>?_),λc=>?_⟩
 ·have e:u.1=0/\u.2=zK p/\True:=e;refine zb.t (ziz p hp)<|⟨Pl,plE,[zu p],rfl,Ob.o0 ?_⟩;rw[whole (.inr ⟨c,(hq0 u hu n1).1 ⟨e.1,e.2.1⟩⟩)];exact W
 all_goals
  have hnw:¬(p.cl=true/\qN pen (zK p)=[(0,(zK p).toNat)]):=by
   first
   | exact λh=>e ⟨((hq0 u hu n1).2 h.2).1,((hq0 u hu n1).2 h.2).2,trivial⟩
   | exact λh=>n1 (show((rI (qN pen (zK p))).length:Int)=1 by rw[zfo,h.2];rfl)
   | exact λh=>c h.1
  have ed:=zxs hnw
  have bad:∀i,4096 < zdO p pen i->jy p pen=([],5):=λi h=>by
   rw[es,if_pos ?_]
   rcases hr.1 with hR | hR
   ·rw[ed hR,← hR];exact Xq h (zzh p pen i)
   ·have:=zew (l:=(kT pen (zK p)).map (j9 p)) λx hx=>by
     obtain⟨q,hq,rfl⟩:=XY.1 hx;exact(zev hp hq).1
    rw[XF]at this;omega
  refine⟨Pl,plE,[],rfl,Ob.o2 ?_⟩;refine⟨Nat,λi=>⟨[(2,.loc 0 0),(7,.sl zcK (rI (qN pen (zK p)))),(8,.own 1),(9,i64 (zdO p pen i:Int)),(10,i64 (i:Int))],[(0,.box 118 [.sl ptE p.pts,pr (p.cl=true)]),(1,.arr 118 plE 2 (((qN pen (zK p)).take i).map (zk1 p)))],2,83,0⟩,λi=>i<=(qN pen (zK p)).length/\zdO p pen i<=4096,λi=>(qN pen (zK p)).length - i,0,?_,?_,?_⟩
  ·exact⟨Xe _,Xe _⟩
  ·exact zf [0,2]
  rintro i ⟨h1,h2⟩
  have cg:=zzi p pen i;intro hl4;refine⟨λg=>?_,λg=>?_⟩;rotate_left
  ·have g:¬(i:Int) < ((rI (qN pen (zK p))).length:Int):=g;have et:(qN pen (zK p)).take i=qN pen (zK p):=Xg oM;have hR:=hr.1.resolve_right λh=>by rw[et]at cg;omega
   unfold zdO at h2;rw[et,hR,← ed hR]at h2;rw[es,if_neg oM];exact zI (z9 (by rw[et,hR,ed hR])) .refl
  have g:(i:Int) < ((rI (qN pen (zK p))).length:Int):=g;refine Dr.d<|Ob.o ?_;intro z hz;obtain⟨q,hq,hzq⟩:=zsU (show(rI (qN pen (zK p)))[i]? =some z from hz);refine Ob.o ?_;intro z' hz';have hzz:z'=z:=Xj (hz'.symm.trans hz);rw[hzz];have f:=hr.2 q (Xd hq);have cs:=zuy hq;have cl:=znG (ze p) q.1 q.2;have ez1:z.1=(q.1:Int):=by rw[hzq]
  have ez2:z.2=(q.2:Int):=by rw[hzq]
  have ez:vh (ze p) z.1 z.2=vh (ze p) q.1 q.2:=by rw[ez1,ez2]
  refine zb.t (zzg p z.1 z.2 hp ok oM oM oM)<|Ob.mk (by kernel_rfl) ?_;have cs:zdO p pen (i+1)=zdO p pen i+(vh (ze p) z.1 z.2).length:=by rw[ez];exact cs
  rw[← ez]at cl;intro hl5;refine Ar.fit (show -9223372036854775808<=(zdO p pen i:Int)+((vh (ze p) z.1 z.2).length:Int)/\(zdO p pen i:Int)+((vh (ze p) z.1 z.2).length:Int)<=9223372036854775807 by omega)<|⟨λo=>?_,λo=>?_⟩
  ·have o:(4096:Int) < (zdO p pen i:Int)+((vh (ze p) z.1 z.2).length:Int):=o;exact jt (bad (i+1) oM)
  have o:¬(4096:Int) < (zdO p pen i:Int)+((vh (ze p) z.1 z.2).length:Int):=o;refine⟨Pl,plE,[⟨vh (ze p) z.1 z.2,false⟩],rfl,Ob.o0 ?_⟩;refine⟨[⟨vh (ze p) z.1 z.2,false⟩],rfl,Ob.mk ⟨(by show _*(32:Int)<=_;simp only[XF,Xl,Xs];omega),(by simp only[XF,Xl,Xs];omega),dC,λ_ _=>rfl⟩ ?_⟩;refine Ar.o ?_
  exact⟨i+1,⟨oM,oM⟩,zL [0,4] ⟨rfl,rfl,rfl,congrArg (λn=>some (i64 n)) (show(zdO p pen i:Int)+((vh (ze p) z.1 z.2).length:Int)=((zdO p pen (i+1):Nat):Int) by omega),rfl,trivial⟩ ⟨rfl,congrArg (λq=>some (Mem.arr 118 plE 2 q)) (by rw[Xm,hq,XI,ez];rfl),trivial⟩,by dsimp only;omega⟩
def yh:List Pl->Pen->List Pl×Int
 | [],_=>([],0)
 | p::r,pen=>if (jy p pen).2≠0 then([],(jy p pen).2)
  else if (yh r pen).2≠0 then([],(yh r pen).2) else((jy p pen).1++(yh r pen).1,0)
def zcL(l:List Pl)(pen:Pen):List Pl:=l.flatMap λp=>(jy p pen).1
theorem zmb{l:List Pl}{x:Pl}(h:l[i]? =some x):zcL (l.take (i+1)) pen=zcL (l.take i) pen++(jy x pen).1:=by
 unfold zcL;rw[Xm,h,K8];simp
theorem zkl{pen:Pen}:∀{l:List Pl},(∀p∈l,(jy p pen).2=0)->yh l pen=(zcL l pen,0)
 | [],_=>rfl
 | p::r,h=>by
  have ih:=zkl λq hq=>h q (.tail _ hq)
  unfold yh;rw[jc (h p (.head _)),ih];rfl
theorem zhw{pen:Pen}:∀{l:List Pl} {i:Nat} {x:Pl},l[i]? =some x->(∀p∈l.take i,(jy p pen).2=0)->¬(jy x pen).2=0->yh l pen=([],(jy x pen).2)
 | p::r,0,x,h,_,hx=>by
  cases h
  unfold yh;rw[if_pos hx]
 | p::r,i+1,x,h,ha,hx=>by
  have ih:=zhw (l:=r) (i:=i) h (λq hq=>ha q (by rw[Ki];exact .tail _ hq)) hx;unfold yh;rw[jc (ha p (by rw[Ki];exact .head _)),ih];exact if_pos hx
theorem zkm:∀{l:List Pl} {q:Pl},q∈l->q.pts.length<=jI l
 | x::r,q,h=>by
  have e:jI (x::r)=x.pts.length+jI r:=by unfold jI;simp
  rw[e]
  cases h with
  | head=>omega
  | tail _ h=>have:=zkm h;omega
theorem zbt{p:Pl}{pen:Pen}(hp:p.pts.length<=4096):(jy p pen).1.length<=4096/\∀q∈(jy p pen).1,q.pts.length<=4096:=by
 unfold jy
 split
 ·exact⟨Xe _,λq hq=>by cases hq⟩
 split
 ·exact⟨Xe _,λq hq=>by cases hq⟩
 split
 ·exact⟨Xe _,λq hq=>by cases hq⟩
 split
 ·refine⟨by show 1<=4096;decide,λq hq=>?_⟩;rw[Xr.1 hq];have:=ju p;omega
 split
 ·exact⟨Xe _,λq hq=>by cases hq⟩
 ·rename_i h
  have hg:=zew (l:=(kT pen (zK p)).map (j9 p)) λx hx=>by
   obtain⟨q,hq,rfl⟩:=XY.1 hx;exact(zev hp hq).1
  refine⟨by dsimp only;omega,λq hq=>?_⟩;have hq:q∈(kT pen (zK p)).map (j9 p):=hq;have:=zkm hq;omega
theorem zfq{pen:Pen}:∀{l:List Pl},(∀p∈l,p.pts.length<=4096)->(zcL l pen).length<=4096*l.length/\∀q∈zcL l pen,q.pts.length<=4096
 | [],_=>⟨Xh 0,λq hq=>by cases hq⟩
 | p::r,hl=>by
  obtain⟨i1,i2⟩:=zfq (pen:=pen) (l:=r) λq hq=>hl q (.tail _ hq)
  obtain⟨f1,f2⟩:=zbt (pen:=pen) (hl p (.head _));have e:zcL (p::r) pen=(jy p pen).1++zcL r pen:=rfl;rw[e,Xi,Xl];refine⟨oM,λq hq=>?_⟩
  rcases Xo.1 hq with hq | hq
  ·exact f2 q hq
  ·exact i2 q hq
theorem zBE(l:List Pl)(pen:Pen)(hl:l.length<=4096)(hp:∀q∈l,q.pts.length<=4096):CG0 122 [.sl plE l,.agg (ji pen)] [] (znw (yh l pen)) []:=by
 refine zc Tryz.func122 ?_;intro hl1;refine⟨Nat,λi=>⟨[(3,.loc 0 0),(6,.own 1),(11,.sl plE l),(12,i64 (l.length:Int)),(13,i64 (i:Int))],[(0,.box 50 (ji pen)),(1,.arr 118 plE 2 (zcL (l.take i) pen))],2,31,0⟩,λi=>i<=l.length/\∀q∈l.take i,(jy q pen).2=0,λi=>l.length - i,0,?_,?_,?_⟩
 ·exact⟨Xe _,λq hq=>by cases hq⟩
 ·exact zE [(0,some 0),(1,none)]
 rintro i ⟨h1,h2⟩
 obtain⟨f1,_⟩:=zfq (pen:=pen) (l:=l.take i) λq hq=>hp q (XC hq)
 rw[Xk]at f1;refine⟨λg=>?_,λg=>?_⟩
 ·have g:(i:Int) < l.length:=g;refine Ob.o ?_;intro x hx;have hx:l[i]? =some x:=hx;have hpx:=hp x (Xd hx);refine zb.t (zxn x pen hpx)<|⟨λz=>?_,λz=>?_⟩
  ·have z:¬(jy x pen).2=0:=z;exact jt (zhw hx h2 z)
  have z:(jy x pen).2=0:=Xa.1 z;obtain⟨s1,s2⟩:=zbt (pen:=pen) hpx;refine⟨(jy x pen).1,rfl,Ob.o26 ?_⟩;exact Ar.o<|⟨i+1,⟨oM,zgq hx h2 z⟩,zC [0,3] ⟨rfl,congrArg (λq=>some (Mem.arr 118 plE 2 q)) (zmb hx).symm,trivial⟩,by dsimp only;omega⟩
 have g:¬(i:Int) < l.length:=g;have et:l.take i=l:=Xg oM;rw[et]at h2;rw[zkl h2];exact zI (z9 (by rw[et])) .refl
theorem zuB{l:List Sg}{tol:Int}(h:¬(z5 l tol).2=0):(z5 l tol).1=[]:=by
 unfold z5 at h ⊢
 split at h <;> rename_i k1
 ·rw[if_pos k1]
 rw[if_neg k1]
 split at h <;> rename_i k2
 ·rw[if_pos k2]
 rw[if_neg k2]
 split at h <;> rename_i k3
 ·rw[if_pos k3]
 rw[if_neg k3]
 split at h <;> rename_i k4
 ·rw[if_pos k4]
 ·exact absurd rfl h
theorem zbu(l:List Sg)(tol:Int):(z5 l tol).1.length<=4096/\∀q∈(z5 l tol).1,q.pts.length<=4096:=by
 by_cases h:(z5 l tol).2=0
 ·have hv:jn l:=by
   refine Xa.1 λk=>?_
   unfold z5 at h;rw[if_pos k]at h;exact absurd h dC
  obtain⟨_,_,f3,f4⟩:=zpn (lo:=⟨-1048576,-1048576⟩) (hi:=⟨1048576,1048576⟩) h (λp hp=>zwG hv p hp);have hg:=zew (l:=(z5 l tol).1) λx hx=>X5 λe=>(f4 x hx).1 (Xn e)
  exact⟨oM,λq hq=>by have:=zkm hq;omega⟩
 ·rw[zuB h];exact⟨Xe _,λq hq=>by cases hq⟩
theorem zzk(l:List Sg)(t:AF)(tol:Int)(ht:t.le 100000)(hl:l.length<=300):CG0 53 [.sl sgE l,.agg (afE t),i64 tol] [] (rgE (zac l t tol)) []:=by
 refine zmc 2 1 tok mix Tryz.func53 rfl rfl rfl Tryz.func105 rfl rfl<|⟨_,_,rfl,?_⟩;refine⟨_,_,_,_,_,rfl,rfl,rfl,rfl,?_⟩;refine⟨_,rfl,rfl,rfl,?_⟩;refine zb.t (zyQ l t ht hl) ?_;have fs:=zbu (trans t l).1 tol;refine⟨λe1=>?_,λe1=>?_⟩
 ·have e1:¬(trans t l).2=0:=e1;refine⟨_,.refl,rfl,?_⟩;refine⟨λ_=>?_,λh=>absurd e1 h⟩;exact qM (by unfold zac;rw[if_pos e1])
 have e1:(trans t l).2=0:=Xa.1 e1;refine zb.t (zw4 (trans t l).1 tol)<|Dr.d<|zb.t (zwK (z5 (trans t l).1 tol).1 fs.1 fs.2)<|Ob.mk (by kernel_rfl)<|⟨_,.refl,rfl,?_⟩;refine⟨λe2=>?_,λe2=>?_⟩
 ·have e2:¬(z5 (trans t l).1 tol).2=0:=e2;exact qM (by unfold zac;rw[jc e1,if_pos e2])
 ·have e2:(z5 (trans t l).1 tol).2=0:=Xa.1 e2;have e:zac l t tol=(zar (z5 (trans t l).1 tol).1,0):=by unfold zac;rw[jc e1,jc e2]
  rw[e];exact zI .refl (zi e2)
theorem zsY(l:List Sg)(t:AF)(tol:Int)(ht:t.le 100000):CG0 28 [.sl sgE l,.agg (afE t),i64 tol] [] (rgE (zac l t tol)) []:=by
 refine zc Tryz.func28 ?_;refine zb.t (zxt l t ht) ?_;have fs:=zbu (trans t l).1 tol;refine⟨λe1=>?_,λe1=>?_⟩
 ·have e1:¬(trans t l).2=0:=e1;exact qM (by unfold zac;rw[if_pos e1])
 have e1:(trans t l).2=0:=Xa.1 e1;refine zb.t (zw5 (trans t l).1 tol)<|⟨λe2=>?_,λe2=>?_⟩
 ·have e2:¬(z5 (trans t l).1 tol).2=0:=e2;exact qM (by unfold zac;rw[jc e1,if_pos e2])
 have e2:(z5 (trans t l).1 tol).2=0:=Xa.1 e2;refine zb.t (zwL (z5 (trans t l).1 tol).1 fs.1 fs.2) ?_;have e:zac l t tol=(zar (z5 (trans t l).1 tol).1,0):=by unfold zac;rw[jc e1,jc e2]
 rw[e];exact .refl
theorem zrw(pen:Pen):(jy ⟨[],false⟩ pen).2=if kF pen then 0 else 13:=by
 have hl:zK ⟨[],false⟩=0:=zpp dC;unfold jy
 by_cases k:kF pen
 ·rw[kS k,if_pos k,if_neg (show ¬¬∀q∈(⟨[],false⟩:Pl).pts,zr q from λh=>h λq hq=>by cases hq),if_neg (show ¬4096 < (⟨[],false⟩:Pl).pts.length by decide),hl]
  split
  ·rfl
  ·rw[zpU (.inr dC)];rfl
 ·rw[if_pos k,if_neg k]
theorem zzl(pen:Pen):CG0 121 [.agg [.val (.slice none 0 0),.val (.bool false)],.agg (ji pen)] [] (znw (jy ⟨[],false⟩ pen)) []:=
 (zxn ⟨[],false⟩ pen (Xe _)).args (.cons (qA (.cons zD (.cons (zd (show ¬(false=true) by decide)) .nil))) (.cons .refl .nil))
theorem zb6:∀{l:List (List Pt)} {r:List Pt},r∈l->r.length<=qB l
 | x::s,r,h=>by
  rw[zgp]
  cases h with
  | head=>omega
  | tail _ h=>have:=zb6 h;omega
end Go.Gs
