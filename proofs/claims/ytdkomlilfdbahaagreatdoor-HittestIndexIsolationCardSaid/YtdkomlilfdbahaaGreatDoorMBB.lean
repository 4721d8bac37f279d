/- Dashes in the second text: the intervals. -/
import Derived.Test.YtdkomlilfdbahaaGreatDoorMBA
set_option maxRecDepth 100000
set_option maxHeartbeats 80000000
set_option linter.all false
namespace Go.Gs
open Proofs.Tryz
open Go.Proofs
def zeF(pen:Pen)(a:Nat):Int:=(yC pen.d (phD pen a) 0).2
def zbL(pen:Pen)(long:Nat):Nat->Nat->Nat
 |0,a=>a
 |k+1,a=>if a<long/\(kO (onD pen) a).length<=4096 then zbL pen long k (a+(min (zeF pen a) ((long:Int)-a)).toNat) else a
def qQ(pen:Pen)(long:Int):List (Nat×Nat):=
 if¬kF pen∨long<1∨(0<qK pen.d/\drawn pen.d=0) then[]
 else if qK pen.d=drawn pen.d then[(0,long.toNat)] else kO (onD pen) (zbL pen long.toNat long.toNat 0)
variable{pen:Pen}{a:Nat}
def zyp{long k:Nat}(h:¬(a<long/\(kO (onD pen) a).length<=4096)):zbL pen long k a=a:=by
 cases k with
 |zero=>rfl
 |succ k=>unfold zbL;rw[Xc h]
def zmf{pen:Pen}{a:Nat}(m:uG pen.d)(hper:0<qK pen.d):∃e,pen.d[(yC pen.d (phD pen a) 0).1]?=some e/\1<=zeF pen a/\zeF pen a<=256*e/\
  qK pen.d ∣ qF pen.d ((yC pen.d (phD pen a) 0).1+1)-zeF pen a-((a:Int)+256*pen.ph):=by
 obtain⟨g,n,o,q⟩:=ym m;have h:=Kj ((a:Int)+256*pen.ph) (show qK pen.d≠0 by omega);have j:=Kg ((a:Int)+256*pen.ph) hper;rw[←zsE pen a]at h j;obtain⟨i,e,c,k,l⟩:=zpS g h j;have gp:=zfn (i0:=0) g c k l;have gs:=yw c;unfold zeF;rw[gp,Kb];refine⟨e,c,oN,oN,?_⟩;dsimp only;rw[show qF pen.d (i+1)-(qF pen.d i+256*e-phD pen a)-((a:Int)+256*pen.ph)=phD pen a-((a:Int)+256*pen.ph) by omega,zsE]
 have:=YD ((a:Int)+256*pen.ph) (qK pen.d);exact⟨-(((a:Int)+256*pen.ph)/qK pen.d),by rw[QQ];omega⟩
def zyq{pen:Pen}{a b:Nat}(h:uG pen.d)(hper:0<qK pen.d)(g:a<b)(v:(b:Int)<=a+zeF pen a):
  ((yC pen.d (phD pen a) 0).1%2=0->z9 (onD pen) b=((z9 (onD pen) a).1,some ((z9 (onD pen) a).2.getD a)))/\(¬(yC pen.d (phD pen a) 0).1%2=0->z9 (onD pen) b=(kO (onD pen) a,none)):=by
 obtain⟨j,q,r,s⟩:=ym h;obtain⟨e,l,u,m,n⟩:=zmf (a:=a) h hper;have on:∀t,a<=t->t<b->(onD pen t↔(yC pen.d (phD pen a) 0).1%2=0):=λt ht o=>zFY j l m n ht oM
 exact⟨λk=>zA0 g λt a b=>(on t a b).2 k,λk=>zv6 g λt a b c=>k ((on t a b).1 c)⟩
variable{on:LI}{b:Nat}
def znf[DecidablePred on](h:a<=b):(kO on a).length<=(kO on b).length:=by
 obtain⟨k,rfl⟩:∃k,b=a+k:=⟨b-a,oM⟩;clear h
 induction k with
 |zero=>exact Xj _
 |succ k c=>
  refine XC c ?_;show(kO on (a+k)).length<=(kO on (a+k+1)).length;unfold kO;rw[vm]
  split
  .cases (z9 on (a+k)).2 <;> simp
  cases (z9 on (a+k)).2 <;> simp
def zwo{pen:Pen}{long:Nat}:∀(k a:Nat),a<=long->zbL pen long k a<=long
 |0,a,h=>h
 |k+1,a,h=>by
  unfold zbL
  split
  .exact zwo k _ oM
  exact h
def zsL{pen:Pen}{long:Nat}(g:uG pen.d)(hper:0<qK pen.d):∀(k a:Nat),a<=long->long-a<=k->zbL pen long k a=long∨4096<(kO (onD pen) (zbL pen long k a)).length
 |0,a,h,l=>.inl (by show a=long;omega)
 |k+1,a,h,l=>by
  obtain⟨e,m,n,o,q⟩:=zmf (a:=a) g hper;unfold zbL
  split
  .rename_i c;exact zsL g hper k _ oM oM
  rename_i c
  by_cases j:a<long
  .exact .inr (by have:¬(kO (onD pen) a).length<=4096:=λk=>c ⟨j,k⟩;omega)
  exact .inl oM
def zsM(pen:Pen)(long:Int):(qQ pen long=kV pen long∨(4096<(qQ pen long).length/\4096<(kV pen long).length))/\∀q∈qQ pen long,q.1<q.2/\(q.2:Int)<=long/\1<=long:=by
 unfold qQ kV
 split
 .exact⟨.inl rfl,λq c=>by cases c⟩
 rename_i h;have m:kF pen:=Xa.1 λk=>h (.inl k)
 have v:¬long<1:=λk=>h (.inr (.inl k))
 split
 .refine⟨.inl rfl,λq c=>?_⟩;have:=Xt.1 c;subst this;dsimp only;omega
 rename_i n;have j:=m.2.2.2.2.1;obtain⟨g,s,t,u⟩:=ym j;have e:=zb7 pen.d pen.d.length (Xj _);rw[yO]at e;have w:=yl (r:=0) g pen.d.length (Xj _);have q1:=yl (r:=1) g pen.d.length (Xj _);have l:=zeE pen.d;have hper:0<qK pen.d:=oM;have o:=zwo (pen:=pen) (long:=long.toNat) long.toNat 0 (Xh _);refine⟨?_,λq c=>?_⟩
 .rcases zsL (long:=long.toNat) j hper long.toNat 0 (Xh _) oM with h|h
  .rw[h];exact .inl rfl
  exact .inr ⟨h,Xx h (znf o)⟩
 have:=zlS q c;omega
def zyr[DecidablePred on]{z:Nat×Nat}(h:(kO on a)[(kO on a).length-1]?=some z):(z.2=a↔∃f,(z9 on a).2=some f)/\∀f,(z9 on a).2=some f->z=(f,a):=by
 unfold kO at h
 cases c:(z9 on a).2 with
 |some f=>
  rw[c]at h;have h:((z9 on a).1++[(f,a)])[((z9 on a).1++[(f,a)]).length-1]?=some z:=h;rw[Xr,show(z9 on a).1.length+[(f,a)].length-1=(z9 on a).1.length from rfl,QB]at h
  cases h
  exact⟨⟨λ_=>⟨f,rfl⟩,λ_=>rfl⟩,λg d=>by cases d;rfl⟩
 |none=>
  rw[c]at h;have h:((z9 on a).1++[])[((z9 on a).1++[]).length-1]?=some z:=h;rw[XE]at h;have:=((zcJ (on:=on) a).1 z (Xf h)).2;exact⟨⟨λk=>by omega,λ⟨f,k⟩=>by cases k⟩,λf k=>by cases k⟩
def zi6(q:Int×Int):LR:=[i64 q.1,i64 q.2]
def rI(l:List (Nat×Nat)):List (Int×Int):=l.map λq=>((q.1:Int),(q.2:Int))
def zuH(l:List (Nat×Nat))(q:Nat×Nat):rI (l++[q])=rI l++[((q.1:Int),(q.2:Int))]:=by unfold rI;rw[Xz];rfl
def zmg(l:List (Nat×Nat)):(rI l).length=l.length:=by unfold rI;simp
variable{i:Nat}
def zBN{l:List (Nat×Nat)}{z:Int×Int}(h:(rI l)[i]?=some z):∃q,l[i]?=some q/\z=((q.1:Int),(q.2:Int)):=by
 unfold rI at h;rw[XD]at h
 cases c:l[i]? with
 |none=>rw[c]at h;cases h
 |some q=>rw[c]at h;exact⟨q,rfl,(Xl h).symm⟩
def zBO[DecidablePred on](h:z9 on b=(kO on a,none)):kO on b=kO on a:=by
 show(z9 on b).1++((z9 on b).2.map λf=>(f,b)).toList=_;rw[h];exact XE _
def zsN[DecidablePred on]{f:Nat}(h:z9 on b=((z9 on a).1,some ((z9 on a).2.getD a)))(c:(z9 on a).2=some f):
  kO on a=(z9 on a).1++[(f,a)]/\kO on b=(z9 on a).1++[(f,b)]:=by
 constructor
 .unfold kO;rw[c];rfl
 show(z9 on b).1++((z9 on b).2.map λf=>(f,b)).toList=_;rw[h,c];rfl
def zBP[DecidablePred on](h:z9 on b=((z9 on a).1,some ((z9 on a).2.getD a)))(c:(z9 on a).2=none):
  kO on b=kO on a++[(a,b)]:=by
 show(z9 on b).1++((z9 on b).2.map λf=>(f,b)).toList=((z9 on a).1++((z9 on a).2.map λf=>(f,a)).toList)++[(a,b)];rw[h,c];simp
def zHA(pen:Pen)(long:Int)(v:kF pen)(hlong:long<=70368744177664):CX 231 [ws pen,i64 long,i64 4096] (.sl zi6 (rI (qQ pen long))):=by
 refine zc func231<|⟨Int×Int,zi6,[],rfl,wb2 ?_⟩;have u:(¬kF pen∨long<1∨(0<qK pen.d/\drawn pen.d=0))->([]:List (Int×Int))=rI (qQ pen long):=λh=>by unfold qQ;rw[Xe h];rfl
 have y:=v.2.2.2.2.1;obtain⟨J,P,d3,d4⟩:=ym y;have F:=zb7 pen.d pen.d.length (Xj _);rw[yO]at F;have q0:=yl (r:=0) J pen.d.length (Xj _);have q1:=yl (r:=1) J pen.d.length (Xj _);have W:=zeE pen.d;refine wg (zF0 pen.d y)<|⟨λo=>?_,λo=>?_⟩
 .have o:long<1:=o;exact z6 (u (.inr (.inl o)))
 have o:¬long<1:=o;refine wg (zdi pen)<|⟨λh=>absurd v h,λ_=>?_⟩
 have good:(qK pen.d=drawn pen.d->rI (qQ pen long)=[((0:Int),long)])/\(¬qK pen.d=drawn pen.d->¬(0<qK pen.d/\drawn pen.d=0)->qQ pen long=kO (onD pen) (zbL pen long.toNat long.toNat 0)):=by
  refine⟨λh=>?_,λh R=>?_⟩
  .unfold qQ;rw[Xc (λk=>by rcases k with k|k|k;exact k v;exact o k;omega),Xe h];show[(((0:Nat):Int),((long.toNat:Nat):Int))]=_;rw[show((long.toNat:Nat):Int)=long by omega];rfl
  unfold qQ;rw[Xc (λk=>by rcases k with k|k|k;exact k v;exact o k;exact R k),Xc h]
 refine⟨λpp=>Br.mk (λdz=>?_) (λdz=>?_),λpp=>?_⟩
 .have pp:0<qK pen.d:=pp;have dz:drawn pen.d=0:=dz;exact z6 (u (.inr (.inr ⟨pp,dz⟩)))
 all_goals
  have npd:¬(0<qK pen.d/\drawn pen.d=0):=by
   first
   |exact λh=>dz h.2
   |exact λh=>pp h.1
  clear pp;refine⟨λe:qK pen.d=drawn pen.d=>?_,λe:¬qK pen.d=drawn pen.d=>?_⟩
  .refine⟨Int×Int,zi6,[((0:Int),long)],rfl,wb0 ?_⟩;refine⟨[((0:Int),long)],rfl,wb4 ?_⟩;exact z6 (good.1 e).symm
  have hR:=good.2 e npd;have hper:0<qK pen.d:=oM
  refine⟨Nat×Nat,λs=>⟨[(1,i64 long),(2,i64 4096),(3,.loc 0 0),(7,.own 1),(10,i64 (s.2:Int))],[(0,.box 55 (jb pen)),(1,.arr 252 zi6 2 (rI (kO (onD pen) s.2)))],2,107,0⟩,
   λs=>s.2<=long.toNat/\long.toNat-s.2<=s.1/\zbL pen long.toNat s.1 s.2=zbL pen long.toNat long.toNat 0,λs=>s.1,(long.toNat,0),?_,?_,?_⟩
  .exact⟨Xh _,Xj _,rfl⟩
  .exact zf [0,1]
  rintro⟨k,a⟩ ⟨S,U,B⟩
  dsimp only at S U B;have len:=zmg (kO (onD pen) a);have over:¬(a<long.toNat/\(kO (onD pen) a).length<=4096)->LE (.sl zi6 (rI (kO (onD pen) a))) (.sl zi6 (rI (qQ pen long))):=λh=>z6 (by rw[hR,←B,zyp h])
  refine⟨λg=>?_,λg=>over λh=>g (show(a:Int)<long by omega)⟩;have g:(a:Int)<long:=g;intro X;refine⟨λw=>?_,λw=>over λh=>w (show((rI (kO (onD pen) a)).length:Int)<=4096 by omega)⟩;have w:((rI (kO (onD pen) a)).length:Int)<=4096:=w;obtain⟨x,p1,p2,p3,p4⟩:=zmf (a:=a) y hper;have ax:=P x (Xf p1);refine wg (zHz pen a v hper oM)<|wa ?_;obtain⟨b,V⟩:∃b,b=a+(min (zeF pen a) ((long.toNat:Int)-a)).toNat:=⟨_,rfl⟩
  obtain⟨rOn,rOff⟩:=zyq (b:=b) y hper (show a<b by omega) oM;have C:k=(k-1)+1:=oM;have j:b<=long.toNat:=oM;have l:long.toNat-b<=k-1:=oM
  have n:zbL pen long.toNat (k-1) b=zbL pen long.toNat long.toNat 0:=by
   rw[←B]
   conv=>rhs;rw[C]
   show _=if a<long.toNat/\(kO (onD pen) a).length<=4096 then zbL pen long.toNat (k-1) (a+(min (zeF pen a) ((long.toNat:Int)-a)).toNat) else a
   rw[Xe ⟨oM,oM⟩,←V]
  have p5:(yC pen.d (phD pen a) 0).2=zeF pen a:=rfl;refine⟨λc=>Ar.fit oM ?_,λc=>?_⟩;have hT:((a:Int)+(yC pen.d (phD pen a) 0).2)=(b:Int):=by have c:zeF pen a<long-a:=c;omega
  rotate_left;have hT:long=(b:Int):=by have c:¬zeF pen a<long-a:=c;omega
  all_goals
   intro Y;refine Dv.pos ⟨oM,dC⟩<|⟨λev=>?_,λev=>?_⟩
   .have ev:(yC pen.d (phD pen a) 0).1%2=0:=by have ev:((yC pen.d (phD pen a) 0).1:Int)%2=0:=ev;omega
    have rOn:=rOn ev;have new:∀T:Int,T=(b:Int)->(z9 (onD pen) a).2=none->rI (kO (onD pen) a)++[((a:Int),T)]=rI (kO (onD pen) b):=λT hT h=>by rw[zBP rOn h,zuH,hT]
    refine⟨λZ=>?_,λn0=>?_⟩
    .have n0:(0:Int)<((rI (kO (onD pen) a)).length:Int):=Z;refine wa<|wb<|wb λz N=>?_;obtain⟨q,M,t⟩:=zBN (show(rI (kO (onD pen) a))[(((rI (kO (onD pen) a)).length:Int)-1).toNat]?=some z from N);rw[show(((rI (kO (onD pen) a)).length:Int)-1).toNat=(kO (onD pen) a).length-1 by omega]at M;obtain⟨O,w2⟩:=zyr M;refine⟨λm:z.2=(a:Int)=>?_,λm=>?_⟩
     .obtain⟨f,L⟩:=O.1 (by rw[t]at m;dsimp only at m;omega);obtain⟨K,Q⟩:=zsN rOn L;have H:z.1=(f:Int):=by rw[t,w2 f L]
      have ll:((((rI (kO (onD pen) a)).length:Int)-1).toNat)=(rI (z9 (onD pen) a).1).length:=by
       have:(kO (onD pen) a).length=(z9 (onD pen) a).1.length+1:=by rw[K,Xr];rfl
       rw[zmg]at len ⊢;rw[zmg];omega
      refine wa<|wb<|wb λA G=>?_;have I:A=z:=Xl (G.symm.trans N)
      first|refine⟨(A.1,((a:Int)+(yC pen.d (phD pen a) 0).2)),rfl,?_⟩|refine⟨(A.1,long),rfl,?_⟩
      have eq:∀T:Int,T=(b:Int)->(rI (kO (onD pen) a)).set (((rI (kO (onD pen) a)).length:Int)-1).toNat (A.1,T)=rI (kO (onD pen) b):=by
       intro T hT;rw[ll,K,Q,zuH,zuH,zkl rfl,I,H,hT]
      exact⟨(k-1,b),⟨j,l,n⟩,zQ [0,1] ⟨rfl,rfl,rfl,rfl,iR hT,tV⟩ ⟨rfl,aR (eq _ hT),tV⟩,oN⟩
     have m:¬z.2=(a:Int):=m
     have D:(z9 (onD pen) a).2=none:=by
      cases E:(z9 (onD pen) a).2 with
      |none=>rfl
      |some f=>exact absurd (by rw[t];dsimp only;rw[O.2 ⟨f,E⟩]) m
     refine Dv.pos ⟨oM,dC⟩<|⟨λ_=>?_,λh=>absurd (show((yC pen.d (phD pen a) 0).1:Int)%2=0 by omega) h⟩;refine⟨Int×Int,zi6,[((a:Int),_)],rfl,wb0 ?_⟩;refine⟨[((a:Int),_)],rfl,wb4 ?_⟩;exact⟨(k-1,b),⟨j,l,n⟩,zQ [0,3] ⟨rfl,rfl,rfl,rfl,iR hT,tV⟩ ⟨rfl,aR (new _ hT D),tV⟩,oN⟩
    have n0:¬(0:Int)<((rI (kO (onD pen) a)).length:Int):=n0
    have D:(z9 (onD pen) a).2=none:=by
     cases E:(z9 (onD pen) a).2 with
     |none=>rfl
     |some f=>
      have:(kO (onD pen) a).length=(z9 (onD pen) a).1.length+1:=by rw[(zsN rOn E).1,Xr];rfl
      omega
    refine Dv.pos ⟨oM,dC⟩<|⟨λ_=>?_,λh=>absurd (show((yC pen.d (phD pen a) 0).1:Int)%2=0 by omega) h⟩;refine⟨Int×Int,zi6,[((a:Int),_)],rfl,wb0 ?_⟩;refine⟨[((a:Int),_)],rfl,wb4 ?_⟩;exact⟨(k-1,b),⟨j,l,n⟩,zQ [0,3] ⟨rfl,rfl,rfl,rfl,iR hT,tV⟩ ⟨rfl,aR (new _ hT D),tV⟩,oN⟩
   have ev:¬(yC pen.d (phD pen a) 0).1%2=0:=by have ev:¬((yC pen.d (phD pen a) 0).1:Int)%2=0:=ev;omega
   refine Dv.pos ⟨oM,dC⟩<|⟨λh=>absurd (show((yC pen.d (phD pen a) 0).1:Int)%2=0 from h) oM,λ_=>?_⟩;exact⟨(k-1,b),⟨j,l,n⟩,zQ [0,1] ⟨rfl,rfl,rfl,rfl,iR hT,tV⟩ ⟨rfl,aR (by rw[zBO (rOff ev)]),tV⟩,oN⟩
def zuI(q:LU)(x:Pt)(l:q.length<=100000):CG0 294 [.sl ptE q,wk x] [] (.own 0) [(0,.arr 28 ptE 2 (y8 q x))]:=by
 refine qf tok mix func294 rfl rfl rfl<|⟨Pt,ptE,[],rfl,wb2 ?_⟩;refine⟨Nat,λi=>⟨[(0,.sl ptE q),(3,.loc 0 0),(5,.own 1),(6,i64 i)],[(0,.box 28 (ptE x)),(1,.arr 28 ptE 2 (q.take i))],2,40,0⟩,λi=>i<=q.length,λi=>q.length-i,0,?_,?_,?_⟩
 .exact Xh _
 .exact zf [0,1]
 rintro i hi
 intro e;refine⟨λg:(i:Int)<q.length=>?_,λg:¬(i:Int)<q.length=>?_⟩
 .refine wb λy(c:q[i]?=some y)=>?_;refine⟨Pt,ptE,[y],rfl,wb0 ?_⟩;refine⟨[y],rfl,wb15 ?_⟩;exact wa<|⟨i+1,oM,zt [0,3] ⟨rfl,aR (by rw[Xn,c];rfl),tV⟩,oN⟩
 have d:q.take i=q:=Xi oM;have tl:(q.take i).length<=100000:=by rw[d];exact l
 intro j;refine wd<|Br.mk (λz=>?_) (λz=>?_)
 .have z:(q.length:Int)=0:=z;refine wh<|⟨Pt,ptE,[x],rfl,wb0 ?_⟩;refine⟨[x],rfl,wb4 ?_⟩;exact⟨some 3,.own _ rfl,aR (by rw[d,zp0 oM]),λ_ _=>rfl⟩
 have z:¬(q.length:Int)=0:=z;refine wa<|wb λy c=>?_
 have c:q[q.length-1]?=some y:=by
  have c:q[((q.length:Int)-1).toNat]?=some y:=c
  rwa [show((q.length:Int)-1).toNat=q.length-1 by omega]at c
 refine wh<|⟨λk=>?_,λk=>?_⟩
 .have k:¬y=x:=λh=>k (qp.2 h)
  refine⟨Pt,ptE,[x],rfl,wb0 ?_⟩;refine⟨[x],rfl,wb4 ?_⟩;exact⟨some 3,.own _ rfl,aR (by rw[d,zkm c k]),λ_ _=>rfl⟩
 have k:y=x:=qp.1 (Xa.1 k);exact⟨some 1,.own _ rfl,aR (by rw[d,zpZ c k]),λ_ _=>rfl⟩
def zmh{c:LU}{i j:Nat}(h:i<=j):atS c i<=atS c j:=by
 obtain⟨k,rfl⟩:∃k,j=i+k:=⟨j-i,oM⟩;clear h
 induction k with
 |zero=>exact K4 _
 |succ k d=>
  have:=yD (nth c (i+k)) (nth c (i+k+1));show atS c i<=atS c (i+k)+jp (nth c (i+k)) (nth c (i+k+1));omega
def zBQ{c:LU}{x:Int}{i:Nat}(d:¬x<atS c i)(g:x<atS c (i+1)):∀m,i<=m->zlT c x m=i
 |0,h=>by
   have:i=0:=oM;subst this;rfl
 |m+1,h=>by
  by_cases e:i=m+1
  .rw[e]at d ⊢;exact zmd d
  have:=zmh (c:=c) (show i+1<=m+1 by omega);rw[zBH oM];exact zBQ d g m oM
def zqf{c:LU}{x:Int}{i:Nat}(h:i<=c.length-2)(d:¬x<atS c i)(e:x<atS c (i+1)):zdQ c x=uO (nth c i) (nth c (i+1)) (x-atS c i) (jp (nth c i) (nth c (i+1))):=by
 unfold zdQ;rw[zBQ d e _ h];dsimp only;rw[show atS c (i+1)-atS c i=jp (nth c i) (nth c (i+1)) by show atS c i+jp (nth c i) (nth c (i+1))-atS c i=_;omega]
def zys{a b:Pt}{d:Int}(h:1<=d/\d<=1099511627776)(c:zm a):uO a b 0 d=a:=by
 unfold uO;rw[Xc oM,zb5 c.1,zb5 c.2,show kZ 0 0 d=0 from(zem oM).2 ⟨K4 0,oM⟩,Int.zero_mul,Int.zero_mul]
 have e:z8 0 d=0:=by
  have g:=zA6 (M:=0) (show 0<d by omega) (K4 0) oM;omega
 rw[e]
 cases a
 simp
def zsO{x d:Int}(g:1<=d):z8 (d*x) d=x:=by
 obtain⟨D,rfl⟩:∃D:Nat,d=D:=⟨d.toNat,oM⟩;have hD:0<D:=oM
 have e:(2*((D:Int)*x).natAbs+(D:Int).natAbs)/(2*(D:Int).natAbs)=x.natAbs:=by
  rw[QN,QS,show 2*(D*x.natAbs)+D=D+(2*D)*x.natAbs by rw[KM];omega,Nat.add_mul_div_left _ _ oM,Kr oM,Kb]
 unfold z8;rw[e]
 by_cases c:x<0
 .have:=Int.mul_neg_of_pos_of_neg (show(0:Int)<D by omega) c;rw[Xc oM];omega
 have:=XI (show(0:Int)<=D by omega) (show 0<=x by omega);rw[Xe oM];omega
def zyt{a b:Pt}{d:Int}(g:1<=d/\d<=1099511627776)(c:zm a)(e:zm b):uO a b d d=b:=by
 unfold uO;rw[Xc oM,zb5 c.1,zb5 c.2,zb5 e.1,zb5 e.2,show kZ d 0 d=d from(zem oM).2 ⟨oM,K4 d⟩,zsO g.1,zsO g.1]
 cases b
 simp;omega
def zyu{a b:Pt}(g:zm a)(j:zm b)(h:a≠b):1<=jp a b:=by
 have m:=zlM j g;have l:=yD a b;refine JJ.1 λk=>?_
 unfold jp zrN at k l;have dr:=zfh (jz (zae b a)) (jz (zae b a))
 have d:1<=zj1 (zae b a) (zae b a):=by
  unfold zj1 dtp;have q:=jn (jF (zae b a)).x;have r:=jn (jF (zae b a)).y;refine JJ.1 λo=>h ?_
  have zx:(jF (zae b a)).x*(jF (zae b a)).x=0:=oM;have zy:(jF (zae b a)).y*(jF (zae b a)).y=0:=oM;have zx:=(Int.mul_eq_zero.1 zx).elim id id;have zy:=(Int.mul_eq_zero.1 zy).elim id id;rw[m]at zx zy;have zx:hI (b.x-a.x)=0:=zx;have zy:hI (b.y-a.y)=0:=zy;have e:∀n,hI n=0->n=0:=λn c=>by unfold hI kZ at c;split at c <;> (try split at c) <;> omega
  have:=e _ zx;have:=e _ zy
  cases a;cases b
  simp only[Pt.mk.injEq];dsimp only at*;omega
 have:=zuh (n:=65536*zj1 (zae b a) (zae b a)) (a:=256) oM (by unfold zj1 at d ⊢;omega) oM;omega
def zos:∀{l:LU} {i:Nat},jN l->i+1<l.length->nth l i≠nth l (i+1)
 |[],_,_,h=>by cases h
 |[_],i,_,h=>by simp at h
 |a::b::r,0,h,_=>h.1 b rfl
 |a::b::r,i+1,h,c=>zos (l:=b::r) (i:=i) h.2 (by simpa using c)
def zuJ(p:Pl):jN (zi p):=by
 have d:jN (zw p).pts:=by
  unfold zw;dsimp only
  split
  .exact zbI (un _)
  exact un _
 rw[yP]
 by_cases h:(zw p).cl=true/\2<=(zw p).pts.length
 .rw[zhJ h.1 h.2];refine zgo d λe=>?_
  have g:p.cl=true:=h.1;have c:=zgx g;have ht:=zn0 (l:=jc p.pts) (un _) (by rw[←c];omega);rw[←c,e]at ht;refine ht ?_;unfold nth;rw[Xs,Jy,Xb (show 0<(zw p).pts.length by omega)];rfl
 rw[zqa h];exact d
variable{p:Pl}
def zhM(h:∀q∈p.pts,zm q)(hi:i<(zi p).length):zm (nth (zi p) i):=h _ (zA7 (zv8 hi))
def zwp(h:∀q∈p.pts,zm q)(hi:i+1<(zi p).length):1<=jp (nth (zi p) i) (nth (zi p) (i+1)):=
 zyu (zhM h oM) (zhM h hi) (zos (zuJ p) hi)
def zbM(c:LU)(i:Nat):atS c (i+1)=atS c i+jp (nth c i) (nth c (i+1)):=rfl
def zwq(h:∀q∈p.pts,zm q){t:Int}(hi:i+1<(zi p).length)(k:atS (zi p) i<t)(l:t<=atS (zi p) (i+1)):
  zdQ (zi p) t=uO (nth (zi p) i) (nth (zi p) (i+1)) (t-atS (zi p) i) (jp (nth (zi p) i) (nth (zi p) (i+1))):=by
 have pr:=yD (nth (zi p) i) (nth (zi p) (i+1));have sp:=zwp h hi
 by_cases c:t<atS (zi p) (i+1)
 .exact zqf oM oM c
 have e:t=atS (zi p) (i+1):=oM
 by_cases d:i+2<(zi p).length
 .have j:=zwp h (i:=i+1) d;have g:=yD (nth (zi p) (i+1)) (nth (zi p) (i+1+1));rw[zqf (i:=i+1) oM oM (by rw[zbM (zi p) (i+1)];omega),e,Int.sub_self,zys oM (zhM h hi)];rw[show atS (zi p) (i+1)-atS (zi p) i=jp (nth (zi p) i) (nth (zi p) (i+1)) by rw[zbM];omega,zyt oM (zhM h oM) (zhM h hi)]
 unfold zdQ;rw[show(zi p).length-2=i by omega,zmd oM];dsimp only;rw[show atS (zi p) (i+1)-atS (zi p) i=jp (nth (zi p) i) (nth (zi p) (i+1)) by rw[zbM];omega]
def zsP{c:LU}{f t:Int}:∀{n:Nat},(∀j,j<n->¬f<atS c j)->zfW c f t n=[]
 |0,_=>rfl
 |n+1,h=>by rw[zfu,zsP λj d=>h j oM,Xc λk=>h n oM k.1];rfl
def zuK(c:LU)(f t:Int)(i:Nat):LU:=(if f<atS c i then[zdQ c f] else[])++zfW c f t i++(if t<=atS c i then[zdQ c t] else[])
def zj2(c:LU)(f t:Int)(i:Nat):LU:=kz [] (zuK c f t i)
variable{f:Int}
def zyv(h:∀q∈p.pts,zm q){t:Int}(hi:i+1<(zi p).length)(d:f<t):
  zj2 (zi p) f t (i+1)=kz (zj2 (zi p) f t i)
   ((if¬f<atS (zi p) i/\f<atS (zi p) (i+1) then[uO (nth (zi p) i) (nth (zi p) (i+1)) (f-atS (zi p) i) (jp (nth (zi p) i) (nth (zi p) (i+1)))] else[])++
    (if f<atS (zi p) i/\atS (zi p) i<t then[nth (zi p) i] else[])++
    (if atS (zi p) i<t/\t<=atS (zi p) (i+1) then[uO (nth (zi p) i) (nth (zi p) (i+1)) (t-atS (zi p) i) (jp (nth (zi p) i) (nth (zi p) (i+1)))] else[])):=by
 have mono:=zmh (c:=zi p) (show i<=i+1 by omega);have key:∀A B,kz [] (A++B)=kz (kz [] A) B:=λA B=>by unfold kz;rw[KX]
 unfold zj2;rw[←key];congr 1;unfold zuK;rw[zfu]
 by_cases F:f<atS (zi p) i
 .rw[Xe F,Xe (show f<atS (zi p) (i+1) by omega),Xc (show¬(¬f<atS (zi p) i/\f<atS (zi p) (i+1)) from λk=>k.1 F)]
  by_cases T:t<=atS (zi p) i
  .rw[Xe T,Xe (show t<=atS (zi p) (i+1) by omega),Xc (show¬(f<atS (zi p) i/\atS (zi p) i<t) by omega),Xc (show¬(atS (zi p) i<t/\t<=atS (zi p) (i+1)) by omega)];simp
  rw[Xc T,Xe (show f<atS (zi p) i/\atS (zi p) i<t by omega)]
  by_cases T2:t<=atS (zi p) (i+1)
  .rw[Xe T2,Xe (show atS (zi p) i<t/\t<=atS (zi p) (i+1) by omega),zwq h hi oM T2];simp
  rw[Xc T2,Xc (show¬(atS (zi p) i<t/\t<=atS (zi p) (i+1)) by omega)];simp
 have mn:zfW (zi p) f t i=[]:=zsP λj e k=>F (by have:=zmh (c:=zi p) (show j<=i by omega);omega)
 rw[Xc F,mn,Xc (show¬(f<atS (zi p) i/\atS (zi p) i<t) by omega),Xc (show¬t<=atS (zi p) i by omega)]
 by_cases F2:f<atS (zi p) (i+1)
 .rw[Xe F2,Xe (show¬f<atS (zi p) i/\f<atS (zi p) (i+1) by omega),zqf (i:=i) oM F F2]
  by_cases T2:t<=atS (zi p) (i+1)
  .rw[Xe T2,Xe (show atS (zi p) i<t/\t<=atS (zi p) (i+1) by omega),zwq h hi oM T2];simp
  rw[Xc T2,Xc (show¬(atS (zi p) i<t/\t<=atS (zi p) (i+1)) by omega)];simp
 rw[Xc F2,Xc (show¬(¬f<atS (zi p) i/\f<atS (zi p) (i+1)) by omega),Xc (show¬t<=atS (zi p) (i+1) by omega),Xc (show¬(atS (zi p) i<t/\t<=atS (zi p) (i+1)) by omega)];simp
def zBS{t:Int}(c:f<t)(ht:t<=zM p):zj2 (zi p) f t ((zi p).length-1)=vt (zi p) f t:=by
 have e:atS (zi p) ((zi p).length-1)=zM p:=rfl;unfold zj2 zuK vt;rw[Xe (show f<atS (zi p) ((zi p).length-1) by omega),Xe (show t<=atS (zi p) ((zi p).length-1) by omega)]
def zBT(c:LU)(f t:Int)(i:Nat):(zj2 c f t i).length<=i+2:=by
 have h:=vL (zuK c f t i) []
 have g:(zfW c f t i).length<=i:=by
  unfold zfW;rw[Xv];exact XC (Qc _ _) sI
 unfold zj2
 have d:(zuK c f t i).length<=i+2:=by
  unfold zuK;rw[Xr,Xr]
  split <;> split <;> simp <;> omega
 have e:([]:LU).length=0:=rfl;omega
def zEx(p:Pl)(f t:Int)(z:p.pts.length<=4096)(ok:∀q∈p.pts,zm q)(D:0<=f)(u:f<t)(ht:t<=zM p):
  CX 233 [wv p,i64 f,i64 t] (wv ⟨vt (zi p) f t,false⟩):=by
 refine zc func233 ?_;have lr:=zgB p z;have dl:=jB p;have ll:=jQ (zw p);rw[←yP]at ll;refine wg (zsK p z ok) ?_;have A:zdN 0 [zcf f [zM p]]=f:=show max 0 (min f (zM p))=f by omega
 have B:zdN 0 [zcf t [zM p]]=t:=show max 0 (min t (zM p))=t by omega
 refine⟨λh=>absurd (show zdN 0 [zcf t [zM p]]<=zdN 0 [zcf f [zM p]] from h) oM,λ_=>?_⟩;refine wg (zBM p z)<|⟨Pt,ptE,[],rfl,wb2 ?_⟩;refine⟨Nat,λi=>⟨[(6,.loc 0 0),(8,i64 f),(9,i64 t),(10,.sl ptE (zi p)),(11,.own 1),(12,i64 (atS (zi p) i)),(13,i64 ((i:Int)+1))],[(0,.box 191 [nS,.val (.bool false)]),(1,.arr 28 ptE 2 (zj2 (zi p) f t i))],2,120,0⟩,λi=>i<=(zi p).length-1,λi=>(zi p).length-i,0,?_,?_,?_⟩
 .exact Xh _
 .refine zQ [1,2] ⟨rfl,iR A,iR B,rfl,rfl,rfl,rfl,tV⟩ ⟨rfl,aR ?_,tV⟩;unfold zj2 zuK;rw[show atS (zi p) 0=0 from rfl,Xc oM,Xc oM];rfl
 rintro i hi
 have ar:=zak (zi p) i;have sl:=zBT (zi p) f t i;intro C;refine⟨λg=>?_,λg=>?_⟩;rotate_left
 .have g:¬(i:Int)+1<(zi p).length:=g;refine jk (.cons (z6 ?_) (.cons (zd (show¬(false=true) by decide)) .nil));rw[show i=(zi p).length-1 by omega,zBS u ht]
 have g:(i:Int)+1<(zi p).length:=g;have w:i+1<(zi p).length:=oM;have key:=zyv ok w u;rw[zbM]at key;refine wc<|wa<|wb λx e=>?_
 have e:=qx (show(zi p)[i]?=some x by
  have e:(zi p)[((i:Int)+1-1).toNat]?=some x:=e
  rwa [show((i:Int)+1-1).toNat=i by omega]at e)
 have k:∀x',(zi p)[((i:Int)+1-1).toNat]?=some x'->x'=x:=λx' h=>by
  rw[show((i:Int)+1-1).toNat=i by omega]at h;exact(qx h).trans e.symm
 refine wb λy l=>?_;have l:=qx (show(zi p)[i+1]?=some y from l);have v:∀j,(zi p)[((i:Int)+1).toNat]?=some j->j=y:=λj h=>(qx (show(zi p)[i+1]?=some j from h)).trans l.symm
 refine wg (zwn x y) ?_;have pr:=yD x y;rw[←e,←l]at key;refine⟨λn=>?_,λn=>?_⟩;have n:atS (zi p) i<=f:=n;refine wa<|Br.mk (λo=>?_) (λo=>?_);have o:f<atS (zi p) i+jp x y:=o;refine wd<|wa<|wb λx' c=>?_;have c:=k x' c;refine wb λj d=>?_;have d:=v j d;rw[c,d];refine wa<|wg (zAI x y (f-atS (zi p) i) (jp x y))<|zb.fresh _ _ (zuI _ (uO x y (f-atS (zi p) i) (jp x y)) oM) rfl (λ_ _=>rfl) (.inr (λ_ _=>rfl)) ?_
 refine wh ?_;have s1:=zhA (zj2 (zi p) f t i) (uO x y (f-atS (zi p) i) (jp x y));refine⟨λm=>absurd (show f<atS (zi p) i from m) oM,λ_=>?_⟩;rotate_left;have o:¬f<atS (zi p) i+jp x y:=o;refine⟨λm=>absurd (show f<atS (zi p) i from m) oM,λ_=>?_⟩;rotate_left;have n:¬atS (zi p) i<=f:=n;refine⟨λm=>?_,λm=>absurd (show f<atS (zi p) i by omega) m⟩;refine⟨λr=>?_,λr=>?_⟩;have r:atS (zi p) i<t:=r;refine wa<|wb λx' c=>?_
 have c:=k x' c;rw[c];have F:=zhA (zj2 (zi p) f t i) x;refine zb.fresh _ _ (zuI (zj2 (zi p) f t i) x oM) rfl (λ_ _=>rfl) (.inr (λ_ _=>rfl)) ?_;rotate_left;have r:¬atS (zi p) i<t:=r;rotate_left
 all_goals
  refine⟨λc1=>?_,λc1=>?_⟩;have c1:atS (zi p) i<t:=c1;refine wa<|Br.mk (λs=>?_) (λs=>?_);have s:t<=atS (zi p) i+jp x y:=s;refine wd<|wa<|wb λx' c=>?_;have c:=k x' c;refine wb λj d=>?_;have d:=v j d;rw[c,d];refine wa<|wg (zAI x y (t-atS (zi p) i) (jp x y))<|zb.fresh _ _ (zuI _ (uO x y (t-atS (zi p) i) (jp x y)) oM) rfl (λ_ _=>rfl) (.inr (λ_ _=>rfl))<|wh ?_;rotate_left
  have s:¬t<=atS (zi p) i+jp x y:=s;rotate_left;have c1:¬atS (zi p) i<t:=c1
  all_goals
   (iterate 2 refine wa ?_);refine⟨i+1,oM,?_,oN⟩;have E:=key
   split at E <;> split at E <;> split at E <;> first
    |(exfalso;omega)
    |exact zQ [0,1] ⟨rfl,rfl,rfl,rfl,rfl,iR (by rw[zbM,←e,←l]),iR oM,tV⟩ ⟨rfl,aR E.symm,tV⟩
    |exact zQ [0,2] ⟨rfl,rfl,rfl,rfl,rfl,iR (by rw[zbM,←e,←l]),iR oM,tV⟩ ⟨rfl,aR E.symm,tV⟩
    |exact zQ [0,3] ⟨rfl,rfl,rfl,rfl,rfl,iR (by rw[zbM,←e,←l]),iR oM,tV⟩ ⟨rfl,aR E.symm,tV⟩
def zyw{long:Int}{q:Nat×Nat}(h:q∈kV pen long)(d:q.1=0)(e:(q.2:Int)=long):kV pen long=[q]:=by
 unfold kV at h ⊢
 split at h
 .cases h
 rename_i k;rw[Xc k]
 split at h
 .rename_i c;rw[Xe c];have:=Xt.1 h;rw[this]
 rename_i c;rw[Xc c];exact zD6 h d oM
def zng(p:Pl)(q:Nat×Nat):Pl:=⟨vt (zi p) q.1 q.2,false⟩
def zBU(h:¬(p.cl=true/\qQ pen (zM p)=[(0,(zM p).toNat)]))(hR:qQ pen (zM p)=kV pen (zM p)):
  (kV pen (zM p)).map (yb p)=(kV pen (zM p)).map (zng p):=by
 refine KW λq c=>?_
 unfold yb;refine Xc λk=>h ⟨k.1,?_⟩
 rw[hR,zyw c k.2.1 k.2.2,←k.2.1,show(zM p).toNat=q.2 by omega]
def zeG(p:Pl)(pen:Pen)(j:Nat):Nat:=jy (((qQ pen (zM p)).take j).map (zng p))
def zyx{j:Nat}{y:Nat×Nat}(h:(qQ pen (zM p))[j]?=some y):zeG p pen (j+1)=zeG p pen j+(zng p y).pts.length:=by
 unfold zeG;rw[Xn,h,Xz,zhL];show _+jy [zng p y]=_;unfold jy;simp
def zEy(p:Pl)(pen:Pen)(j:Nat):zeG p pen j<=jy ((qQ pen (zM p)).map (zng p)):=by
 have e:(qQ pen (zM p)).map (zng p)=((qQ pen (zM p)).take j).map (zng p)++((qQ pen (zM p)).drop j).map (zng p):=by
  rw[←Xz,Ku]
 rw[e,zhL];exact Q8 _ _
def zEz(p:Pl)(pen:Pen)(j:Nat):((qQ pen (zM p)).take j).length<=zeG p pen j:=by
 have:=zfw (l:=((qQ pen (zM p)).take j).map (zng p)) λx c=>by
  obtain⟨q,d,rfl⟩:=XK.1 c;exact(zqe (zi p) q.1 q.2).1
 rwa [Xv]at this
def zHB(p:Pl)(pen:Pen)(s:p.pts.length<=4096):CX 158 [wv p,ws pen] (zp4 (jH p pen)):=by
 refine zc func158 ?_
 have m:jH p pen=if¬kF pen then([],13) else if¬∀q∈p.pts,zm q then([],6) else if 4096<p.pts.length then([],5)
  else if pen.d=[] then([zw p],0) else if 4096<jy ((kV pen (zM p)).map (yb p)) then([],5) else((kV pen (zM p)).map (yb p),0):=rfl
 refine wg (zdi pen)<|⟨λk=>?_,λk=>?_⟩
 .have k:¬kF pen:=k;exact jA (by rw[m,Xe k])
 have k:kF pen:=Xa.1 k;rw[kI k]at m;refine wg (zwm p.pts)<|⟨λok=>?_,λok=>?_⟩
 .have ok:¬∀q∈p.pts,zm q:=ok;exact jA (by rw[m,Xe ok])
 have ok:∀q∈p.pts,zm q:=Xa.1 ok;rw[kI ok,Xc (show¬4096<p.pts.length by omega)]at m;intro M;refine⟨λh=>absurd (show(4096:Int)<p.pts.length from h) oM,λ_=>?_⟩;have lr:=zgB p s;have dl:=jB p;have ll:=jQ (zw p);rw[←yP]at ll;refine wg (zsK p s ok)<|wg (zHA pen (zM p) k oM) ?_;have v:=zsM pen (zM p);have rl:=zmg (qQ pen (zM p));intro N
 have whole:pen.d=[]∨(p.cl=true/\qQ pen (zM p)=[(0,(zM p).toNat)])->jH p pen=([zw p],0):=λh=>by
  by_cases z:pen.d=[]
  .rw[m,Xe z]
  obtain⟨c,e⟩:=h.resolve_left z
  have eP:kV pen (zM p)=[(0,(zM p).toNat)]:=by
   rcases v.1 with h|h
   .rw[←h,e]
   rw[e]at h;exact absurd h.1 sI
  have q1:=v.2 (0,(zM p).toNat) (by rw[e];exact .head _)
  have t:(kV pen (zM p)).map (yb p)=[zw p]:=by
   rw[eP];show[yb p (0,(zM p).toNat)]=_;unfold yb;rw[Xe ⟨c,rfl,oN⟩]
  rw[m,Xc z,t,Xc];unfold jy;simp;omega
 have W:LE (.tup [.sl plE [zw p],i64 0]) (zp4 ([zw p],0)):=.refl;refine⟨λz:(pen.d.length:Int)=0=>?_,λz:¬(pen.d.length:Int)=0=>?_⟩
 .have z:pen.d=[]:=Xq oM;refine wg (zko p s)<|⟨Pl,plE,[zw p],rfl,wb0 ?_⟩;rw[whole (.inl z)];exact W
 rw[Xc (λh=>z (by rw[h];rfl))]at m
 have r:∀u,(rI (qQ pen (zM p)))[0]?=some u->((rI (qQ pen (zM p))).length:Int)=1->(u.1=0/\u.2=zM p↔qQ pen (zM p)=[(0,(zM p).toNat)]):=λu w j=>by
  obtain⟨q,n,y⟩:=zBN w;have j:(qQ pen (zM p)).length=1:=oM;obtain⟨U,G⟩:=Yt.1 j;rw[G]at n ⊢
  cases n
  constructor
  .rintro⟨a,b⟩
   rw[y]at a b;dsimp only at a b;rw[show q=(q.1,q.2) from rfl,show q.1=0 by omega,show q.2=(zM p).toNat by omega]
  intro h;have e:q=(0,(zM p).toNat):=List.singleton_inj.1 h;rw[y,e];exact⟨rfl,oN⟩
 refine⟨λc=>λO=>Br.mk (λj=>Ob.mk (by have j:((rI (qQ pen (zM p))).length:Int)=1:=j;omega) λu w=>Br.mk (λe=>?_) (λe=>?_)) (λj=>?_),λc=>?_⟩
 .have e:u.1=0/\u.2=zM p/\True:=e;refine wg (zko p s)<|⟨Pl,plE,[zw p],rfl,wb0 ?_⟩;rw[whole (.inr ⟨c,(r u w j).1 ⟨e.1,e.2.1⟩⟩)];exact W
 all_goals
  have F:¬(p.cl=true/\qQ pen (zM p)=[(0,(zM p).toNat)]):=by
   first
   |exact λh=>e ⟨((r u w j).2 h.2).1,((r u w j).2 h.2).2,tV⟩
   |exact λh=>j (show((rI (qQ pen (zM p))).length:Int)=1 by rw[zmg,h.2];rfl)
   |exact λh=>c h.1
  have t:=zBU F
  have B:∀i,4096<zeG p pen i->jH p pen=([],5):=λi h=>by
   rw[m,Xe ?_]
   rcases v.1 with hR|hR
   .rw[t hR,←hR];exact Xx h (zEy p pen i)
   have:=zfw (l:=(kV pen (zM p)).map (yb p)) λx R=>by
    obtain⟨q,n,rfl⟩:=XK.1 R;exact(zfv s n).1
   rw[Xv]at this;omega
  refine⟨Pl,plE,[],rfl,wb2 ?_⟩;refine⟨Nat,λi=>⟨[(2,.loc 0 0),(7,.sl zi6 (rI (qQ pen (zM p)))),(8,.own 1),(9,i64 (zeG p pen i:Int)),(10,i64 i)],[(0,.box 191 [.sl ptE p.pts,pr (p.cl=true)]),(1,.arr 191 plE 2 (((qQ pen (zM p)).take i).map (zng p)))],2,83,0⟩,λi=>i<=(qQ pen (zM p)).length/\zeG p pen i<=4096,λi=>(qQ pen (zM p)).length-i,0,?_,?_,?_⟩
  .exact⟨Xh _,Xh _⟩
  .exact zf [0,2]
  rintro i ⟨T,K⟩
  have cg:=zEz p pen i;intro P;refine⟨λg=>?_,λg=>?_⟩;rotate_left
  .have g:¬(i:Int)<((rI (qQ pen (zM p))).length:Int):=g;have C:(qQ pen (zM p)).take i=qQ pen (zM p):=Xi oM;have hR:=v.1.resolve_right λh=>by rw[C]at cg;omega
   unfold zeG at K;rw[C,hR,←t hR]at K;rw[m,Xc oM];exact zP (z6 (by rw[C,hR,t hR])) .refl
  have g:(i:Int)<((rI (qQ pen (zM p))).length:Int):=g;refine wd<|wb λz L=>?_;obtain⟨q,n,A⟩:=zBN (show(rI (qQ pen (zM p)))[i]?=some z from L);refine wb λS H=>?_;have I:S=z:=Xl (H.symm.trans L);rw[I];have f:=v.2 q (Xf n);have J:=zyx n;have cl:=zqe (zi p) q.1 q.2;have D:z.1=(q.1:Int):=by rw[A]
  have E:z.2=(q.2:Int):=by rw[A]
  have ez:vt (zi p) z.1 z.2=vt (zi p) q.1 q.2:=by rw[D,E]
  refine wg (zEx p z.1 z.2 s ok oM oM oM)<|wh ?_;have J:zeG p pen (i+1)=zeG p pen i+(vt (zi p) z.1 z.2).length:=by rw[ez];exact J
  rw[←ez]at cl;intro Q;refine Ar.fit (show-9223372036854775808<=(zeG p pen i:Int)+((vt (zi p) z.1 z.2).length:Int)/\(zeG p pen i:Int)+((vt (zi p) z.1 z.2).length:Int)<=9223372036854775807 by omega)<|⟨λo=>?_,λo=>?_⟩
  .have o:(4096:Int)<(zeG p pen i:Int)+((vt (zi p) z.1 z.2).length:Int):=o;exact jA (B (i+1) oM)
  have o:¬(4096:Int)<(zeG p pen i:Int)+((vt (zi p) z.1 z.2).length:Int):=o;refine⟨Pl,plE,[⟨vt (zi p) z.1 z.2,false⟩],rfl,wb0 ?_⟩;refine⟨[⟨vt (zi p) z.1 z.2,false⟩],rfl,Ob.mk ⟨(by show _*(32:Int)<=_;simp only[Xv,Xm,Xo];omega),(by simp only[Xv,Xm,Xo];omega),dC,λ_ _=>rfl⟩ ?_⟩;refine wa ?_
  exact⟨i+1,⟨oM,oM⟩,zQ [0,4] ⟨rfl,rfl,rfl,iR (show(zeG p pen i:Int)+((vt (zi p) z.1 z.2).length:Int)=((zeG p pen (i+1):Nat):Int) by omega),rfl,tV⟩ ⟨rfl,aR (by rw[Xn,n,Xz,ez];rfl),tV⟩,oN⟩
def jX:LZ->Pen->LZ×Int
 |[],_=>([],0)
 |p::r,pen=>if (jH p pen).2≠0 then([],(jH p pen).2)
  else if (jX r pen).2≠0 then([],(jX r pen).2) else((jH p pen).1++(jX r pen).1,0)
def zdp(l:LZ)(pen:Pen):LZ:=l.flatMap λp=>(jH p pen).1
def zot{l:LZ}{x:Pl}(h:l[i]?=some x):zdp (l.take (i+1)) pen=zdp (l.take i) pen++(jH x pen).1:=by
 unfold zdp;rw[Xn,h,QA];simp
def zmi{pen:Pen}:∀{l:LZ},(∀p∈l,(jH p pen).2=0)->jX l pen=(zdp l pen,0)
 |[],_=>rfl
 |p::r,h=>by
  have d:=zmi λq c=>h q (.tail _ c)
  unfold jX;rw[qP (h p (.head _)),d];rfl
def zi7{pen:Pen}:∀{l:LZ} {i:Nat} {x:Pl},l[i]?=some x->(∀p∈l.take i,(jH p pen).2=0)->¬(jH x pen).2=0->jX l pen=([],(jH x pen).2)
 |p::r,0,x,h,_,c=>by
  cases h
  unfold jX;rw[Xe c]
 |p::r,i+1,x,h,d,c=>by
  have g:=zi7 (l:=r) (i:=i) h (λq e=>d q (by rw[X8];exact .tail _ e)) c;unfold jX;rw[qP (d p (by rw[X8];exact .head _)),g];exact Xe c
def zmj:∀{l:LZ} {q:Pl},q∈l->q.pts.length<=jy l
 |x::r,q,h=>by
  have e:jy (x::r)=x.pts.length+jy r:=by unfold jy;simp
  rw[e]
  cases h with
  |head=>omega
  |tail _ h=>have:=zmj h;omega
def zb8{p:Pl}{pen:Pen}(d:p.pts.length<=4096):(jH p pen).1.length<=4096/\∀q∈(jH p pen).1,q.pts.length<=4096:=by
 unfold jH
 split
 .exact⟨Xh _,λq c=>by cases c⟩
 split
 .exact⟨Xh _,λq c=>by cases c⟩
 split
 .exact⟨Xh _,λq c=>by cases c⟩
 split
 .refine⟨by show 1<=4096;decide,λq c=>?_⟩;rw[Xt.1 c];have:=jB p;omega
 split
 .exact⟨Xh _,λq c=>by cases c⟩
 rename_i h
 have g:=zfw (l:=(kV pen (zM p)).map (yb p)) λx e=>by
  obtain⟨q,c,rfl⟩:=XK.1 e;exact(zfv d c).1
 refine⟨oN,λq c=>?_⟩;have c:q∈(kV pen (zM p)).map (yb p):=c;have:=zmj c;omega
def zgD{pen:Pen}:∀{l:LZ},(∀p∈l,p.pts.length<=4096)->(zdp l pen).length<=4096*l.length/\∀q∈zdp l pen,q.pts.length<=4096
 |[],_=>⟨Xj 0,λq c=>by cases c⟩
 |p::r,d=>by
  obtain⟨k,h⟩:=zgD (pen:=pen) (l:=r) λq c=>d q (.tail _ c)
  obtain⟨j,g⟩:=zb8 (pen:=pen) (d p (.head _));have e:zdp (p::r) pen=(jH p pen).1++zdp r pen:=rfl;rw[e,Xr,Xm];refine⟨oM,λq c=>?_⟩
  rcases Xu.1 c with c|c
  .exact g q c
  exact h q c
def zHC(l:LZ)(pen:Pen)(r:l.length<=4096)(k:∀q∈l,q.pts.length<=4096):CX 180 [.sl plE l,ws pen] (zp4 (jX l pen)):=by
 refine zc func180 λn=>?_;refine⟨Nat,λi=>⟨[(3,.loc 0 0),(6,.own 1),(11,.sl plE l),(12,i64 l.length),(13,i64 i)],[(0,.box 55 (jb pen)),(1,.arr 191 plE 2 (zdp (l.take i) pen))],2,31,0⟩,λi=>i<=l.length/\∀q∈l.take i,(jH q pen).2=0,λi=>l.length-i,0,?_,?_,?_⟩
 .exact⟨Xh _,λq h=>by cases h⟩
 .exact zB [(0,some 0),(1,none)]
 rintro i ⟨o,d⟩
 obtain⟨m,_⟩:=zgD (pen:=pen) (l:=l.take i) λq h=>k q (XP h)
 rw[Xp]at m;refine⟨λg:(i:Int)<l.length=>?_,λg:¬(i:Int)<l.length=>?_⟩
 .refine wb λx(e:l[i]?=some x)=>?_;have c:=k x (Xf e);refine wg (zBL x pen c)<|⟨λz=>?_,λz=>?_⟩
  .have z:¬(jH x pen).2=0:=z;exact jA (zi7 e d z)
  have z:(jH x pen).2=0:=Xa.1 z;obtain⟨s1,s⟩:=zb8 (pen:=pen) c;refine⟨(jH x pen).1,rfl,wb26 ?_⟩;exact wa<|⟨i+1,⟨oM,zhI e d z⟩,zt [0,3] ⟨rfl,aR (zot e).symm,tV⟩,oN⟩
 have j:l.take i=l:=Xi oM;rw[j]at d;rw[zmi d];exact zP (z6 (by rw[j])) .refl
def zyz{l:LX}{tol:Int}(h:¬(zY l tol).2=0):(zY l tol).1=[]:=by
 unfold zY at h ⊢
 split at h <;> rename_i c
 .rw[Xe c]
 rw[Xc c]
 split at h <;> rename_i d
 .rw[Xe d]
 rw[Xc d]
 split at h <;> rename_i e
 .rw[Xe e]
 rw[Xc e]
 split at h <;> rename_i g
 .rw[Xe g]
 exact absurd rfl h
def zb9(l:LX)(tol:Int):(zY l tol).1.length<=4096/\∀q∈(zY l tol).1,q.pts.length<=4096:=by
 by_cases h:(zY l tol).2=0
 .have j:qU l:=by
   refine Xa.1 λk=>?_
   unfold zY at h;rw[Xe k]at h;exact absurd h dC
  obtain⟨_,_,n,d⟩:=zjL (lo:=⟨-1048576,-1048576⟩) (hi:=⟨1048576,1048576⟩) h (λp g=>zA3 j p g);have o:=zfw (l:=(zY l tol).1) λx m=>Ki λe=>(d x m).1 (Xq e)
  exact⟨oM,λq c=>by have:=zmj c;omega⟩
 rw[zyz h];exact⟨Xh _,λq c=>by cases c⟩
def zEB(l:LX)(t:AF)(tol:Int)(ht:t.le 100000)(g:l.length<=300):CX 123 [.sl sgE l,wo t,i64 tol] (rgE (yx l t tol)):=by
 refine zov 2 1 tok mix func123 rfl rfl rfl func175 rfl rfl<|⟨_,_,rfl,?_⟩;refine⟨_,_,_,_,_,rfl,rfl,rfl,rfl,?_⟩;refine⟨_,rfl,rfl,rfl,?_⟩;refine wg (zD7 l t ht g) ?_;have fs:=zb9 (trans t l).1 tol;refine⟨λc:¬(trans t l).2=0=>?_,λc=>?_⟩
 .refine⟨_,.refl,rfl,?_⟩;refine⟨λ_=>?_,λh=>absurd c h⟩;exact qO (by unfold yx;rw[Xe c])
 have c:(trans t l).2=0:=Xa.1 c;refine wg (zBs (trans t l).1 tol)<|wd<|wg (zA8 (zY (trans t l).1 tol).1 fs.1 fs.2)<|wh<|⟨_,.refl,rfl,?_⟩;refine⟨λd:¬(zY (trans t l).1 tol).2=0=>?_,λd=>?_⟩
 .exact qO (by unfold yx;rw[qP c,Xe d])
 have d:(zY (trans t l).1 tol).2=0:=Xa.1 d;have e:yx l t tol=(uH (zY (trans t l).1 tol).1,0):=by unfold yx;rw[qP c,qP d]
 rw[e];exact zP .refl (ze d)
def zqg(l:LX)(t:AF)(tol:Int)(ht:t.le 100000):CX 104 [.sl sgE l,wo t,i64 tol] (rgE (yx l t tol)):=by
 refine zc func104<|wg (zBV l t ht) ?_;have fs:=zb9 (trans t l).1 tol;refine⟨λd:¬(trans t l).2=0=>?_,λd=>?_⟩
 .exact qO (by unfold yx;rw[Xe d])
 have d:(trans t l).2=0:=Xa.1 d;refine wg (zBt (trans t l).1 tol)<|⟨λc=>?_,λc=>?_⟩
 .have c:¬(zY (trans t l).1 tol).2=0:=c;exact qO (by unfold yx;rw[qP d,Xe c])
 have c:(zY (trans t l).1 tol).2=0:=Xa.1 c;refine wg (zA9 (zY (trans t l).1 tol).1 fs.1 fs.2) ?_;have e:yx l t tol=(uH (zY (trans t l).1 tol).1,0):=by unfold yx;rw[qP d,qP c]
 rw[e];exact .refl
def zuL(pen:Pen):(jH ⟨[],false⟩ pen).2=if kF pen then 0 else 13:=by
 have c:zM ⟨[],false⟩=0:=zsa dC;unfold jH
 by_cases k:kF pen
 .rw[kI k,Xe k,Xc (show¬¬∀q∈(⟨[],false⟩:Pl).pts,zm q from λh=>h λq d=>by cases d),Xc (show¬4096<(⟨[],false⟩:Pl).pts.length by decide),c]
  split
  .rfl
  rw[zsF (.inr dC)];rfl
 rw[Xe k,Xc k]
def zEC(pen:Pen):CX 179 [.agg [nS,.val (.bool false)],ws pen] (zp4 (jH ⟨[],false⟩ pen)):=
 (zBL ⟨[],false⟩ pen (Xh _)).args (.cons (jk (.cons zD (.cons (zd (show¬(false=true) by decide)) .nil))) (.C .nil))
def vN:∀{l:LQ} {r:LU},r∈l->r.length<=qh l
 |x::s,r,h=>by
  rw[zhH]
  cases h with
  |head=>omega
  |tail _ h=>have:=vN h;omega
def zdR(t:AF):LU->Int
 |[]=>0
 |p::r=>if (ku t p).2≠0 then(ku t p).2 else zdR t r
def ud(t:AF)(l:LU):LU:=l.map λp=>(ku t p).1
def zdS(t:AF):LQ->Int
 |[]=>0
 |r::s=>if zdR t r≠0 then zdR t r else zdS t s
def yy(rs:LQ)(t:AF):LQ×Int:=
 if¬kC rs then([],12) else if zdS t rs≠0 then([],zdS t rs) else(rs.map (ud t),0)
def zhO{t:AF}:∀{l:LU},(∀p∈l,(ku t p).2=0)->zdR t l=0
 |[],_=>rfl
 |p::r,h=>by unfold zdR;rw[qP (h p (.head _))];exact zhO λq c=>h q (.tail _ c)
def zhP{t:AF}:∀{l:LU} {i:Nat} {x:Pt},l[i]?=some x->(∀p∈l.take i,(ku t p).2=0)->¬(ku t x).2=0->zdR t l=(ku t x).2
 |p::r,0,x,h,_,c=>by cases h;unfold zdR;rw[Xe c]
 |p::r,i+1,x,h,d,c=>by
  unfold zdR;rw[qP (d p (by rw[X8];exact .head _))];exact zhP (l:=r) (i:=i) h (λq e=>d q (by rw[X8];exact .tail _ e)) c
def zqh{t:AF}:∀{l:LQ},(∀r∈l,zdR t r=0)->zdS t l=0
 |[],_=>rfl
 |p::r,h=>by unfold zdS;rw[qP (h p (.head _))];exact zqh λq c=>h q (.tail _ c)
def zhQ{t:AF}:∀{l:LQ} {i:Nat} {x:LU},l[i]?=some x->(∀r∈l.take i,zdR t r=0)->¬zdR t x=0->zdS t l=zdR t x
 |p::r,0,x,h,_,c=>by cases h;unfold zdS;rw[Xe c]
 |p::r,i+1,x,h,d,c=>by
  unfold zdS;rw[qP (d p (by rw[X8];exact .head _))];exact zhQ (l:=r) (i:=i) h (λq e=>d q (by rw[X8];exact .tail _ e)) c
def yz{α:Type}{P:α->Prop}{l:List α}{x:α}(h:l[i]?=some x)(d:∀p∈l.take i,P p)(e:P x):∀p∈l.take (i+1),P p:=by
 intro p c;rw[Xn,h]at c
 rcases Xu.1 c with c|c
 .exact d p c
 simp at c;rw[c];exact e
def yQ(l:LQ):LN:=l.map zk
def vo(l:LQ):(yQ l).length=l.length:=by unfold yQ;simp
def zaG{tb:List (Nat×Option Nat)}{l m:LQ}(e:l=m):
  (yQ m).length=(yQ l).length/\∀(j:Nat) x,(yQ l)[j]?=some x->∃x',(yQ m)[j]?=some x'/\ren.rens tb x=some x':=by
 subst e;refine⟨rfl,λj x c=>⟨x,c,?_⟩⟩;unfold yQ at c;rw[XD]at c
 cases d:l[j]? with
 |none=>rw[d]at c;cases c
 |some y=>rw[d]at c;cases c;rfl
def zhR{L:LQ}{q:LU}:∀(i j:Nat) (x':LR) (s':SV),(yQ (L++[q]))[i]?=some x'->x'[j]?=some s'->∃(x:LR) (s:SV),(yQ L++[[.own a]])[i]?=some x/\x[j]?=some s/\(s'=s∨(s=.own a/\s'=.sl ptE q)):=by
 intro i j x' s' c d;have e:yQ (L++[q])=yQ L++[zk q]:=by unfold yQ;rw[Xz];rfl
 rw[e]at c;generalize yQ L=R at*
 rcases Qx i R.length with h|h|h
 .rw[XN h]at c;exact⟨x',s',by rw[XN h];exact c,d,.inl rfl⟩
 .subst h;rw[QB]at c
  cases c
  match j,d with
  |0,d=>cases d;exact⟨[.own a],.own a,QB ..,rfl,.inr ⟨rfl,rfl⟩⟩
  |j+1,d=>cases d
 rw[XH (by simp;omega)]at c;cases c
def tS(rs:LQ)(t:AF):Nat->St
 |0=>⟨[(0,.sl zk rs),(3,.loc 0 0),(6,.val (.slice none 0 0)),(7,i64 ((0:Nat):Int))],[(0,.box 51 (afE t))],1,54,0⟩
 |i+1=>⟨[(0,.sl zk rs),(3,.loc 0 0),(6,.own 1),(7,i64 ((i+1:Nat):Int))],[(0,.box 51 (afE t)),(1,.garr 156 1 (yQ ((rs.take (i+1)).map (ud t))))],2,54,0⟩
def zED(rs:LQ)(t:AF)(ht:t.le 100000)(N:rs.length<=100000):CG0 160 [.sl zk rs,wo t] [] (.tup [.own 0,i64 (yy rs t).2]) [(0,.arr 156 zk 1 (yy rs t).1)]:=by
 refine zch tok mix func160 rfl rfl rfl ?_
 have n:∀{e:Int},yy rs t=([],e)->zbp none (.tup [nS,i64 e]) (.tup [.own 0,i64 (yy rs t).2])/\(yy rs t).1=[]:=λ{e} h=>
  ⟨.tup _ _ rfl (zfO.ix (.cons (.nil rfl) (.cons (.le _ _ (ze (by rw[h])) rfl) .nil))).2,by rw[h]⟩
 refine wg (zhs rs)<|⟨λk=>?_,λk=>?_⟩
 .have k:¬kC rs:=k;have d:=n (e:=12) (by unfold yy;rw[Xe k]);exact⟨_,.refl,none,d.1,d.2⟩
 have k:kC rs:=Xa.1 k;have A:yy rs t=if zdS t rs≠0 then([],zdS t rs) else(rs.map (ud t),0):=by unfold yy;rw[kI k]
 have H:qh rs<=4096:=by have:=k.1;omega
 refine⟨Nat,tS rs t,λi=>i<=rs.length/\∀r∈rs.take i,zdR t r=0,λi=>rs.length-i,0,⟨Xh _,λr J=>by cases J⟩,zf [0],?_⟩
 rintro(_|i) ⟨M,v⟩
 .intro B;refine⟨λg=>?_,λg=>?_⟩;rotate_left
  .have g:¬(((0:Nat):Int))<rs.length:=g;have I:rs=[]:=Xq oM;have d:=n (e:=0) (by rw[A,I];rfl);exact⟨_,.refl,none,d.1,d.2⟩
  have g:((0:Nat):Int)<rs.length:=g;obtain⟨x,m⟩:∃x,rs[0]?=some x:=⟨_,Xb oM⟩;have E:=XC (vN (Xf m)) H;have same:∀{y:LU},rs[((0:Nat):Int).toNat]?=some y->y=x:=λh=>Xl ((show rs[0]?=some _ from h).symm.trans m)
  refine⟨Nat,λj=>⟨[(0,.sl zk rs),(3,.loc 0 0),(6,nS),(7,i64 ((0:Nat):Int)),(8,.own 1),(9,i64 j)],[(0,.box 51 (afE t)),(1,.arr 28 ptE 2 (ud t (x.take j)))],2,54,0⟩,λj=>j<=x.length/\∀p∈x.take j,(ku t p).2=0,λj=>x.length-j,0,⟨Xh _,λp D=>by cases D⟩,zB [(0,some 0),(1,none)],?_⟩
  rintro j ⟨K,o⟩
  have ml:(ud t (x.take j)).length<=4096:=by unfold ud;rw[Xv,Xp];omega
  refine wb λy F=>?_;rw[same F];intro C;refine⟨λq:(j:Int)<x.length=>?_,λq:¬(j:Int)<x.length=>?_⟩
  .obtain⟨z,c⟩:∃z,x[j]?=some z:=⟨_,Xb oM⟩;refine wd<|wb λL s=>?_;rw[same s];refine wb λw u=>?_;have ez:w=z:=Xl ((show x[j]?=some w from u).symm.trans c);rw[ez];refine wg (zcN t z ht)<|wh<|⟨λe=>?_,λe=>?_⟩
   .have e:¬(ku t z).2=0:=e;have eL:=zhP c o e;have eR:=zhQ m v (by rw[eL];exact e);have d:=n (e:=(ku t z).2) (by rw[A,eR,eL,Xe e]);exact⟨_,.refl,none,d.1,d.2⟩
   have e:(ku t z).2=0:=Xa.1 e;refine⟨Pt,ptE,[(ku t z).1],rfl,wb0 ?_⟩;refine⟨[(ku t z).1],rfl,wb4 ?_⟩;exact wa<|⟨j+1,⟨oM,yz c o e⟩,zt [0,4] ⟨rfl,aR (by unfold ud;rw[Xn,c,Xz];rfl),tV⟩,oN⟩
  have etx:x.take j=x:=Xi oM;rw[etx]at o;refine⟨[[.own 1]],rfl,wb8 ?_⟩;refine wb27<|wa<|⟨0+1,⟨oM,yz m v (zhO o)⟩,(za6 (sz0:=1) (T0:=156) 1 3 (enc:=ptE) (ys:=ud t (x.take j)) rfl rfl (xs':=yQ ([]++[ud t (x.take j)])) (by rfl) (λz c=>?_) zhR).trans (zt [0,3] ⟨rfl,⟨_,rfl,zaG ?_⟩,tV⟩),oN⟩
  .unfold yQ at c;obtain⟨b,_,rfl⟩:=XK.1 c;rfl
  rw[etx];rw[Xn,m];rfl
 intro B;refine⟨λg=>?_,λg=>?_⟩;rotate_left
 .have g:¬((i+1:Nat):Int)<rs.length:=g;have G:rs.take (i+1)=rs:=Xi oM;rw[G]at v;have er:yy rs t=(rs.map (ud t),0):=by rw[A,zqh v];rfl
  refine⟨_,zct 1 zk ((rs.take (i+1)).map (ud t)) rfl (λ_ _=>rfl),some 1,.tup _ _ rfl (zfO.ix (.cons (.own 1 rfl) (.cons (.le _ _ (ze (by rw[er])) rfl) .nil))).2,aR (by rw[er,G]),λ_ _=>rfl⟩
 have g:(((i+1):Nat):Int)<rs.length:=g;obtain⟨x,m⟩:∃x,rs[(i+1)]?=some x:=⟨_,Xb oM⟩;have E:=XC (vN (Xf m)) H;have same:∀{y:LU},rs[(((i+1):Nat):Int).toNat]?=some y->y=x:=λh=>Xl ((show rs[(i+1)]?=some _ from h).symm.trans m)
 refine⟨Nat,λj=>⟨[(0,.sl zk rs),(3,.loc 0 0),(6,.own 1),(7,i64 (((i+1):Nat):Int)),(8,.own 2),(9,i64 j)],[(0,.box 51 (afE t)),(1,.garr 156 1 (yQ ((rs.take (i+1)).map (ud t)))),(2,.arr 28 ptE 2 (ud t (x.take j)))],3,54,0⟩,λj=>j<=x.length/\∀p∈x.take j,(ku t p).2=0,λj=>x.length-j,0,⟨Xh _,λp D=>by cases D⟩,zdI [(0,some 0),(1,some 1),(2,none)] ⟨rfl,⟨_,rfl,zaG rfl⟩,rfl,tV⟩,?_⟩
 rintro j ⟨K,o⟩
 have ml:(ud t (x.take j)).length<=4096:=by unfold ud;rw[Xv,Xp];omega
 refine wb λy F=>?_;rw[same F];intro C;refine⟨λq:(j:Int)<x.length=>?_,λq:¬(j:Int)<x.length=>?_⟩
 .obtain⟨z,c⟩:∃z,x[j]?=some z:=⟨_,Xb oM⟩;refine wd<|wb λL s=>?_;rw[same s];refine wb λw u=>?_;have ez:w=z:=Xl ((show x[j]?=some w from u).symm.trans c);rw[ez];refine wg (zcN t z ht)<|wh<|⟨λe=>?_,λe=>?_⟩
  .have e:¬(ku t z).2=0:=e;have eL:=zhP c o e;have eR:=zhQ m v (by rw[eL];exact e);have d:=n (e:=(ku t z).2) (by rw[A,eR,eL,Xe e]);exact⟨_,.refl,none,d.1,d.2⟩
  have e:(ku t z).2=0:=Xa.1 e;refine⟨Pt,ptE,[(ku t z).1],rfl,wb0 ?_⟩;refine⟨[(ku t z).1],rfl,wb4 ?_⟩;exact wa<|⟨j+1,⟨oM,yz c o e⟩,zt [0,1,5] ⟨rfl,⟨_,rfl,zaG rfl⟩,aR (by unfold ud;rw[Xn,c,Xz];rfl),tV⟩,oN⟩
 have etx:x.take j=x:=Xi oM;rw[etx]at o;refine⟨[[.own 2]],rfl,wb8 ?_⟩;refine Ob.mk ⟨by show _*(24:Int)<=_;rw[vo,Xv,Xp];simp only[Xm,Xo];omega,by rw[vo,Xv,Xp];simp only[Xm,Xo];omega,dC⟩<|wa ?_
 refine⟨(i+1)+1,⟨oM,yz m v (zhO o)⟩,(za6 (sz0:=1) (T0:=156) 2 4 (enc:=ptE) (ys:=ud t (x.take j)) rfl rfl (xs':=yQ ((rs.take (i+1)).map (ud t)++[ud t (x.take j)])) (by rw[vo,Xr,Xr,vo];rfl) (λz c=>?_) zhR).trans (zt [0,4] ⟨rfl,⟨_,rfl,zaG ?_⟩,tV⟩),oN⟩
 .unfold yQ at c;obtain⟨b,_,rfl⟩:=XK.1 c;rfl
 rw[etx];rw[Xn (l:=rs) (i:=i+1),m,Xz];rfl
def zHE(rs:LQ)(t:AF)(ht:t.le 100000)(c:rs.length<=100000):CX 160 [.sl zk rs,wo t] (rgE (yy rs t)):=(zED rs t ht c).plain rfl
end Go.Gs
