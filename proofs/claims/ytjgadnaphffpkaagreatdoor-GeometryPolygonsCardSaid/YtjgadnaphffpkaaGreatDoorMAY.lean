/- Dashes: the segments one by one, the measure. -/
import Derived.Test.YtjgadnaphffpkaaGreatDoorMA
import Derived.Test.YtjgadnaphffpkaaGreatDoorMAX
import Derived.Test.YtjgadnaphffpkaaGreatDoorMAT
import Derived.Test.YtjgadnaphffpkaaGreatDoorMAP
import Derived.Defers
set_option maxRecDepth 100000
set_option maxHeartbeats 8000000
set_option linter.all false
namespace Go.Gs
open Go.Proofs
def zX(q:Pl):List Pt:=if q.cl=true/\2<=q.pts.length then q.pts++[nth q.pts 0] else q.pts
theorem yL(p:Pl):ze p=zX (zu p):=rfl
variable{q:Pl}
theorem zgr(h:q.cl=true)(k:2<=q.pts.length):zX q=q.pts++[nth q.pts 0]:=if_pos ⟨h,k⟩
theorem znC(h:¬(q.cl=true/\2<=q.pts.length)):zX q=q.pts:=if_neg h
theorem za8{q:Pl}{i:Nat}(h:i < q.pts.length):nth (zX q) i=nth q.pts i:=by
 unfold zX
 split
 ·show(q.pts++[nth q.pts 0]).getD i zp=q.pts.getD i zp;rw[Xt,XD h];exact(Xt ..).symm
 ·rfl
theorem zpS(h:q.cl=true)(k:2<=q.pts.length):nth (zX q) q.pts.length=nth q.pts 0:=by
 rw[zgr h k];show(q.pts++[nth q.pts 0]).getD q.pts.length zp=nth q.pts 0;rw[Xt,Xy (Xh _),Jv];rfl
theorem zcJ(h:q.cl=true)(k:2<=q.pts.length):(zX q).length=q.pts.length+1:=by rw[zgr h k,Xi];rfl
theorem zbr{q:Pl}(h:¬(q.cl=true/\2<=q.pts.length)):(zX q).length=q.pts.length:=by rw[znC h]
theorem jH(q:Pl):q.pts.length<=(zX q).length/\(zX q).length<=q.pts.length+1:=by
 by_cases h:q.cl=true/\2<=q.pts.length
 ·rw[zcJ h.1 h.2];omega
 ·rw[zbr h];omega
def zkg(q:Pl):List (Pt×Pt):=(List.range ((zX q).length - 1)).map λi=>(nth (zX q) i,nth (zX q) (i+1))
def segE(s:Pt×Pt):List SV:=[.agg (ptE s.1),.agg (ptE s.2)]
variable{i:Nat}
theorem znD(h:i < (zX q).length - 1):(zkg q)[i]? =some (nth (zX q) i,nth (zX q) (i+1)):=by
 unfold zkg;rw[XA,Qq h];rfl
theorem zgs(q:Pl):(zkg q).length=(zX q).length - 1:=by unfold zkg;simp
theorem zrs(q:Pl):CG0 242 [.agg (plE q)] [] (.dfn 304 [.dptr (plE q)]) []:=by
 exact zcD 2 tok mix Tryz.func242 rfl rfl rfl<|.refl
theorem zy3(q:Pl)(hq:q.pts.length<=4096):zlR Tryz.prog 304 [.dptr (plE q)] segE (zkg q):=by
 refine znq (caps:=[.dptr (plE q)]) (enc:=segE) (xs:=zkg q) tok mix Tryz.func304 rfl rfl rfl rfl (λl=>?_);intro hl1;refine⟨Nat,λk=>⟨[(0,.val (.func (.yield l) #[] #[])),(1,.dptr (plE q)),(3,i64 (q.pts.length:Int)),(4,i64 ((k:Int)+1))],[],0,45,0⟩,λk=>k,λk=>k<=q.pts.length - 1,λk=>q.pts.length - k,0,?_,?_,rfl,rfl,?_⟩
 ·exact Xe _
 ·exact zE []
 rintro k hk
 have ll:=jH q;refine⟨λg=>?_,λg=>?_⟩
 ·have g:(k:Int)+1 < q.pts.length:=g;refine YDr.split 12 (Ob.mk (by decide +kernel) ?_);refine Ar.o<|Ob.o ?_;intro x hx
  have hx:=qt (show q.pts[k]? =some x by
   have hx:q.pts[((k:Int)+1 - 1).toNat]? =some x:=hx
   rwa [show((k:Int)+1 - 1).toNat=k by omega]at hx)
  refine Ob.o ?_;intro y hy;have hy:=qt (show q.pts[k+1]? =some y from hy);refine⟨rfl,(x,y),(by show(zkg q)[k]? =some (x,y);rw[znD oM,za8 oM,za8 oM,hx,hy]),rfl,.cons .refl (.cons .refl .nil),(λ_ _ h=>by cases h),?_⟩;refine Br.mk ?_ ?_
  ·refine Ar.o ?_;refine⟨k+1,oM,jG [] ⟨rfl,rfl,rfl,congrArg (λq=>some (i64 q)) oM,trivial⟩ trivial,rfl,rfl,by dsimp only;omega⟩
  ·exact .inl rfl
 have g:¬(k:Int)+1 < q.pts.length:=g;have ek:k=q.pts.length - 1:=oM;have no:¬(q.cl=true/\2<=q.pts.length)->k=(zkg q).length:=λh=>by rw[zgs,zbr h];exact ek
 refine⟨λc=>?_,λc=>.inr (no λh=>c h.1)⟩;have c:q.cl=true:=c;refine⟨λn1=>?_,λn1=>.inr (no λh=>by have n1:¬(1:Int) < q.pts.length:=n1;omega)⟩;have n1:(1:Int) < q.pts.length:=n1;have le:=zcJ c (show 2<=q.pts.length by omega);refine YDr.split 11 (Ob.mk (by decide +kernel) ?_);refine Ar.o<|Ob.o ?_;intro x hx
 have hx:=qt (show q.pts[q.pts.length - 1]? =some x by
  have hx:q.pts[((q.pts.length:Int) - 1).toNat]? =some x:=hx
  rwa [show((q.pts.length:Int) - 1).toNat=q.pts.length - 1 by omega]at hx)
 refine Ob.o ?_;intro y hy;have hy:=qt (show q.pts[0]? =some y from hy);refine⟨rfl,(x,y),?_,rfl,.cons .refl (.cons .refl .nil),(λ_ _ h=>by cases h),?_⟩
 ·show(zkg q)[k]? =some (x,y);rw[znD oM,ek,za8 oM,show q.pts.length - 1+1=q.pts.length by omega,zpS c oM,hx,hy]
 ·refine Br.mk ?_ ?_
  ·refine .inr ?_;show k+1=(zkg q).length;rw[zgs];omega
  ·exact .inl rfl
structure Me where
 ln:List Pt
 ts:List Int
 lg:Int
def meE(m:Me):List SV:=[.sl ptE m.ln,.sl uN m.ts,i64 m.lg]
def tsL(c:List Pt)(n:Nat):List Int:=(List.range n).map (atS c)
def zsO(p:Pl):Me:=if ∀q∈p.pts,zr q then⟨(zu p).pts,tsL (ze p) ((ze p).length - 1),zK p⟩ else⟨[],[],0⟩
theorem zxh(c:List Pt)(n:Nat):tsL c (n+1)=tsL c n++[atS c n]:=by
 unfold tsL;rw[K7,XI];rfl
theorem ziA(c:List Pt)(n:Nat):(tsL c n).length=n:=by unfold tsL;simp
variable{c:List Pt}{x:Int}
theorem zht{n:Nat}(h:(tsL c n)[i]? =some x):x=atS c i:=by
 have hi:i < n:=by have:=(Xc.1 h).1;rwa [ziA]at this
 unfold tsL at h;rw[XA,Qq hi]at h;exact(Xj h).symm
theorem yB(a b:Pt):0<=zO a b/\zO a b < 4294967296:=zha _
theorem vQ(c:List Pt)(n:Nat):0<=atS c n/\atS c n<=4294967296*(n:Int):=by
 induction n with
 | zero=>exact⟨Qb 0,by show(0:Int)<=_;decide⟩
 | succ n ih=>
  have:=yB (nth c n) (nth c (n+1));unfold atS;omega
theorem zl5(p:Pl)(hp:p.pts.length<=4096):CG0 185 [.agg (plE p)] [] (.tup [.agg (meE (zsO p)),pr (∀q∈p.pts,zr q)]) []:=by
 refine zdE 2 tok mix Tryz.func185 rfl rfl rfl ?_;intro hl1;refine⟨Nat,λi=>⟨[(1,.loc 0 0),(2,.loc 1 0),(11,.sl ptE p.pts),(12,i64 (p.pts.length:Int)),(13,i64 (i:Int))],[(0,.box 118 [.sl ptE p.pts,pr (p.cl=true)]),(1,.box 205 [.val (.slice none 0 0),.val (.slice none 0 0),i64 0])],2,47,0⟩,λi=>i<=p.pts.length/\∀q∈p.pts.take i,zr q,λi=>p.pts.length - i,0,?_,?_,?_⟩
 ·exact⟨Xe _,λq hq=>by cases hq⟩
 ·exact zf [0,1]
 rintro i ⟨h1,h2⟩
 refine⟨λg=>?_,λg=>?_⟩
 ·have g:(i:Int) < p.pts.length:=g;refine Ob.o ?_;intro x hx;have hx:p.pts[i]? =some x:=hx;refine zb.t (qg x)<|⟨λk=>?_,λk=>?_⟩
  ·have k:¬∀q∈p.pts,zr q:=λh=>k (h x (Xd hx))
   have e:zsO p=⟨[],[],0⟩:=if_neg k;rw[e];exact zI (qA (.cons zD (.cons zD (.cons .refl .nil)))) (zd k)
  ·have k:=Xa.1 k;refine Ar.o<|⟨i+1,⟨oM,λq hq=>?_⟩,zf [0,1],by dsimp only;omega⟩;rw[Xm,hx]at hq
   rcases Xo.1 hq with hq | hq
   ·exact h2 q hq
   ·simp at hq;rw[hq];exact k
 have g:¬(i:Int) < p.pts.length:=g;rw[Xg oM]at h2;have dl:=ju p;have ll:=jH (zu p);refine zb.t (zgn p hp)<|zb.t (zrs (zu p)) ?_
 refine⟨Pt×Pt,segE,zkg (zu p),2,[(2,.loc 0 0),(7,.loc 1 0)],λj=>[(0,.box 205 [.val (.slice none 0 0),.val (.slice none 0 0),i64 0]),(1,.box 205 [.sl ptE (zu p).pts,.own 2,i64 (atS (ze p) j)]),(2,.arr 3 uN 1 (tsL (ze p) j))],λ_=>3,zy3 (zu p) oM,λ_=>rfl,⟨rfl,rfl,rfl,rfl⟩,
  zE [(0,some 1),(1,some 3),(2,none)],⟨Xe _,rfl⟩,λj=>?_,?_,?_⟩
 ·intro k m hm;simp only[Kn,Kw,or_false,K5]at hm
  rcases hm with⟨_,rfl⟩ | ⟨_,rfl⟩ | ⟨_,rfl⟩
  ·rfl
  ·rfl
  ·trivial
 ·intro j y hy;have hj:j < (ze p).length - 1:=by have:=(Xc.1 hy).1;rwa [zgs]at this
  have hy:y=(nth (ze p) j,nth (ze p) (j+1)):=by rw[znD hj]at hy;exact(Xj hy).symm
  have hat:=vQ (ze p) j;have hpc:=yB y.1 y.2;have e1:=ziA (ze p) j;have ll':(ze p).length<=4097:=by rw[yL];omega
  refine⟨Int,uN,[atS (ze p) j],rfl,Ob.o0 ?_⟩;refine⟨[atS (ze p) j],rfl,Ob.mk ⟨(by show _*(8:Int)<=_;simp only[Xl,Xs];omega),(by simp only[Xl,Xs];omega),dC,λ_ _=>rfl⟩ ?_⟩;refine Dr.d<|zb.t (p_sub y.2 y.1)<|zb.t (zwj (zcv y.2 y.1)) ?_;unfold zO at hpc;refine Ar.o<|Ob.mk (by kernel_rfl)<|zC [0,1,6] ⟨rfl,congrArg (λq=>some (Mem.box 205 [.sl ptE (zu p).pts,.own 6,i64 q])) ?_,congrArg (λq=>some (Mem.arr 3 uN 1 q)) (zxh _ _).symm,trivial⟩;rw[hy];rfl
 ·have e:zsO p=⟨(zu p).pts,tsL (ze p) ((ze p).length - 1),zK p⟩:=if_pos h2;rw[e];have e2:=zgs (zu p);rw[← yL]at e2;refine zI (qA (.cons .refl (.cons (z9 ?_) (.cons (zi ?_) .nil)))) (zT h2)
  ·rw[e2]
  ·rw[e2];rfl
theorem zpT(pen:Pen)(t:Nat):phD pen t=((t:Int)+256*pen.ph) % qI pen.d:=by unfold phD;exact(Int.add_emod ..).symm
theorem zdL{d:List Int}(h:∀n∈d,0<=n)(hi:i<=d.length):0<=qD d i/\qD d i<=qI d:=by
 have h1:=zhh h (Xe i);have h2:=zhh h hi;rw[ut]at h1;rw[yK]at h2;exact⟨h1,h2⟩
variable{pen:Pen}{a:Nat}{e:Int}{lft:Int}
theorem ph_at{t:Nat}(hn:∀n∈pen.d,0<=n) (he:pen.d[i]? =some e) (hl:lft<=256*e)
  (hc:qI pen.d ∣ qD pen.d (i+1) - lft - ((a:Int)+256*pen.ph)) (h1:a<=t) (h2:(t:Int) - a < lft):phD pen t=qD pen.d (i+1) - lft+((t:Int) - a):=by
 have hi:i < pen.d.length:=(Xc.1 he).1;have hp:=zdL hn (show i<=pen.d.length by omega);have hq:=zdL hn (show i+1<=pen.d.length by omega);have hs:=yw he;obtain⟨q,hq'⟩:=hc;rw[zpT];have e1:(t:Int)+256*pen.ph=(qD pen.d (i+1) - lft+((t:Int) - a))+qI pen.d*(-q):=by rw[QC];omega
 rw[e1,Int.add_mul_emod_self_left];exact Int.emod_eq_of_lt oM oM
theorem zAf{t:Nat}(hn:∀n∈pen.d,0<=n) (he:pen.d[i]? =some e) (hl:lft<=256*e)
  (hc:qI pen.d ∣ qD pen.d (i+1) - lft - ((a:Int)+256*pen.ph)) (h1:a<=t) (h2:(t:Int) - a < lft):onD pen t↔i % 2=0:=by
 have hs:=yw he;unfold onD;rw[ph_at hn he hl hc h1 h2,zeo hn he oM oM];show(0+i) % 2=0↔_;rw[X6]
theorem zy4{b:Nat}{e':Int}(hi:i < pen.d.length) (he':pen.d[(i+1) % pen.d.length]? =some e')
  (hc:qI pen.d ∣ qD pen.d (i+1) - lft - ((a:Int)+256*pen.ph)) (hb:(b:Int)=a+lft):
  qI pen.d ∣ qD pen.d ((i+1) % pen.d.length+1) - 256*e' - ((b:Int)+256*pen.ph):=by
 rw[yw he']
 by_cases h:i+1 < pen.d.length
 ·rw[Xu h]
  rwa [show qD pen.d (i+1)+256*e' - 256*e' - ((b:Int)+256*pen.ph)=qD pen.d (i+1) - lft - ((a:Int)+256*pen.ph) by omega]
 ·have hl:i+1=pen.d.length:=by omega
  rw[hl,JW,ut];rw[hl,yK]at hc;rw[show(0:Int)+256*e' - 256*e' - ((b:Int)+256*pen.ph)=(qI pen.d - lft - ((a:Int)+256*pen.ph)) - qI pen.d by omega];exact Int.dvd_sub hc (Int.dvd_refl _)
def u4(r:Nat)(d:List Int)(n:Nat):Int:=((List.range n).map λi=>if i % 2=r then d.getD i 0 else 0).sum
theorem zl6(r:Nat)(d:List Int)(n:Nat):u4 r d (n+1)=u4 r d n+if n % 2=r then d.getD n 0 else 0:=by
 unfold u4;rw[K7,XI,Jo];simp
theorem zet{r:Nat}{d:List Int}{n:Nat}(hx:d[n]? =some x)(h:n % 2=r):u4 r d (n+1)=u4 r d n+x:=by
 rw[zl6,if_pos h,Xt,hx];rfl
theorem zhu{r:Nat}{d:List Int}{n:Nat}(h:¬n % 2=r):u4 r d (n+1)=u4 r d n:=by
 rw[zl6,if_neg h,Int.add_zero]
theorem zbs(d:List Int):∀n,n<=d.length->256*(u4 0 d n+u4 1 d n)=qD d n
 | 0,_=>rfl
 | n+1,h=>by
  have ih:=zbs d n oM;have hx:d[n]? =some d[n]:=Xb oM;rw[yw hx]
  rcases JD n with k | k
  ·rw[zet hx k,zhu (r:=1) oM];omega
  ·rw[zet hx k,zhu (r:=0) oM];omega
theorem zdM(d:List Int):drawn d=256*u4 0 d d.length:=rfl
theorem yi{r:Nat}{d:List Int}(h:∀n∈d,0<=n):∀n,n<=d.length->0<=u4 r d n
 | 0,_=>Qb 0
 | n+1,hn=>by
  have ih:=yi (r:=r) h n oM;have hx:d[n]? =some d[n]:=Xb oM;have:=h d[n] (KK _)
  by_cases k:n % 2=r
  ·rw[zet hx k];omega
  ·rw[zhu k];exact ih
theorem yj{d:List Int}(h:uC d):(∀n∈d,0<=n)/\(∀n∈d,n<=1048576)/\d.length<=16/\qI d<=4294967296:=by
 have h2:∀n∈d,n<=1048576:=λn hn=>(h.1 n hn).2
 have h3:d.length<=16:=by have:=h.2.2.2;omega
 have:=zwB h2;exact⟨λn hn=>(h.1 n hn).1,h2,h3,by unfold qI;omega⟩
def frI:Option Nat->Int
 | none=> -1
 | some f=>f
theorem znE{o:Option Nat}(h:frI o < 0):o=none:=by
 cases o with
 | none=>rfl
 | some f=>have h:(f:Int) < 0:=h;omega
theorem znF{o:Option Nat}(h:¬frI o < 0):∃f,o=some f/\frI o=f:=by
 cases o with
 | none=>exact absurd (show(-1:Int) < 0 by decide) h
 | some f=>exact⟨f,rfl,rfl⟩
theorem zul(pen:Pen)(hk:kF pen)(hper:0 < qI pen.d):CG0 247 [.agg (ji pen),i64 0] [] (.tup [i64 ((qQ pen.d (phD pen 0) 0).1:Int),i64 (qQ pen.d (phD pen 0) 0).2]) []:=by
 refine zc Tryz.func247 ?_;obtain⟨d1,d2,d3,d4⟩:=yj hk.2.2.2.2.1;have hph:=hk.2.2.2.2.2;intro hl1;refine⟨Nat,λi=>⟨[(1,i64 0),(2,.loc 0 0),(6,i64 (qD pen.d i)),(13,.sl uN pen.d),(14,i64 (pen.d.length:Int)),(15,i64 (i:Int))],[(0,.box 50 (ji pen))],1,57,0⟩,λi=>i<=pen.d.length,λi=>pen.d.length - i,0,?_,?_,?_⟩
 ·exact Xe _
 ·exact zf [0]
 rintro i hi
 have hpi:=zdL d1 hi;refine⟨λg=>?_,λg=>?_⟩
 ·have g:(i:Int) < pen.d.length:=g;refine Ob.o ?_;intro x hx;have hx:pen.d[i]? =some x:=hx;have hx1:=d1 x (Xd hx);have hx2:=d2 x (Xd hx);(iterate 3 refine Ar.o ?_);exact⟨i+1,oM,zL [0] ⟨rfl,rfl,congrArg (λq=>some (i64 q)) (yw hx).symm,rfl,rfl,rfl,trivial⟩ ⟨rfl,trivial⟩,by dsimp only;omega⟩
 have g:¬(i:Int) < pen.d.length:=g;have ei:i=pen.d.length:=oM;have eP:qD pen.d i=qI pen.d:=by rw[ei,yK]
 have m1:=Kv (256*pen.ph) (show qD pen.d i≠0 by omega);have m2:=X8 (256*pen.ph) (show 0 < qD pen.d i by omega);have m3:(0:Int) % qD pen.d i=0:=Int.zero_emod _;have m4:=Kv (0 % qD pen.d i+256*pen.ph % qD pen.d i) (show qD pen.d i≠0 by omega);have m5:=X8 (0 % qD pen.d i+256*pen.ph % qD pen.d i) (show 0 < qD pen.d i by omega);refine Dr.k<|Dv.pos ⟨oM,oM⟩<|Ar.o<|Dv.pos ⟨oM,oM⟩<|Ar.o<|Dv.pos ⟨oM,oM⟩ ?_
 have ek:phD pen 0=(0 % qD pen.d i+256*pen.ph % qD pen.d i) % qD pen.d i:=by rw[eP];rfl
 rw[← ek]at m4 m5;intro hl2;refine⟨Nat,λi=>⟨[(9,i64 (phD pen 0 - qD pen.d i)),(36,.sl uN pen.d),(37,i64 (pen.d.length:Int)),(38,i64 (i:Int))],[],0,57,0⟩,λi=>i<=pen.d.length/\qD pen.d i<=phD pen 0,λi=>pen.d.length - i,0,?_,?_,?_⟩
 ·exact⟨Xe _,by rw[ut];exact m4⟩
 ·exact jG [] ⟨congrArg (λq=>some (i64 q)) (by rw[ut,Int.sub_zero];exact ek.symm),rfl,rfl,rfl,trivial⟩ trivial
 rw[eP]at m5
 rintro i ⟨hi,hle⟩
 have hpi:=zdL d1 hi;refine⟨λg=>?_,λg=>?_⟩
 ·have g:(i:Int) < pen.d.length:=g;refine Ob.o ?_;intro x hx;have hx:pen.d[i]? =some x:=hx;have hx1:=d1 x (Xd hx);have hx2:=d2 x (Xd hx);have hs:=yw hx;refine Ar.o<|Br.mk (λc=>?_) (λc=>?_)
  ·have c:phD pen 0 - qD pen.d i < 256*x:=c;have hp:=zeo (i0:=0) d1 hx hle oM;(iterate 2 refine Ar.o ?_);refine zI (zi ?_) (zi ?_)
   ·rw[hp];show(i:Int)=((0+i:Nat):Int);omega
   ·rw[hp];dsimp only;omega
  ·have c:¬phD pen 0 - qD pen.d i < 256*x:=c;(iterate 3 refine Ar.o ?_);exact⟨i+1,⟨oM,oM⟩,jG [] ⟨congrArg (λq=>some (i64 q)) (by rw[hs];omega),rfl,rfl,rfl,trivial⟩ trivial,by dsimp only;omega⟩
 ·have g:¬(i:Int) < pen.d.length:=g;have:qD pen.d i=qI pen.d:=by rw[show i=pen.d.length by omega,yK]
  omega
def runE(q:Nat×Nat):List SV:=[i64 (q.1:Int),i64 (q.2:Int)]
theorem zy5{pen:Pen}{long:Int}(h1:kF pen)(h2:¬long < 1)(h3:¬u4 1 pen.d pen.d.length=0)(h4:¬u4 0 pen.d pen.d.length=0):kT pen long=kg (onD pen) long.toNat:=by
 have hs:=zbs pen.d pen.d.length (Xh _);rw[yK]at hs;have hd:=zdM pen.d;unfold kT;rw[if_neg (λh=>by rcases h with h | h | h;exact h h1;exact h2 h;omega),if_neg oM]
theorem zrt{pen:Pen}{long:Int}(h1:kF pen)(h2:¬long < 1)(h3:u4 1 pen.d pen.d.length=0):kT pen long=[(0,long.toNat)]:=by
 have hs:=zbs pen.d pen.d.length (Xh _);rw[yK]at hs;have hd:=zdM pen.d;unfold kT;rw[if_neg (λh=>by rcases h with h | h | h;exact h h1;exact h2 h;omega),if_pos oM]
theorem zum{pen:Pen}{long:Int}(h1:kF pen)(h2:¬long < 1)(h3:¬u4 1 pen.d pen.d.length=0)(h4:u4 0 pen.d pen.d.length=0)(h5:∀n∈pen.d,0<=n):kT pen long=[]:=by
 have hs:=zbs pen.d pen.d.length (Xh _);rw[yK]at hs;have hd:=zdM pen.d;have hp:=yi (r:=1) h5 pen.d.length (Xh _);unfold kT;rw[if_pos (.inr (.inr ⟨oM,oM⟩))]
variable{long:Int}
theorem zpU(h:¬kF pen∨long < 1):kT pen long=[]:=by
 unfold kT;rw[if_pos (by rcases h with h | h;exact .inl h;exact .inr (.inl h))]
structure Wk where
 a:Nat
 i:Nat
 l:Int
def okW(pen:Pen)(long:Int)(s:Wk):Prop:=
 (s.a:Int)<=long/\s.i < pen.d.length/\0<=s.l/\(∃e,pen.d[s.i]? =some e/\s.l<=256*e)/\((s.a:Int) < long->qI pen.d ∣ qD pen.d (s.i+1) - s.l - ((s.a:Int)+256*pen.ph))
def jz(pen:Pen)(long:Int)(s:Wk):Wk:=⟨s.a+(min s.l (long - s.a)).toNat,(s.i+1) % pen.d.length,256*pen.d.getD ((s.i+1) % pen.d.length) 0⟩
def muW(pen:Pen)(long:Int)(j:Nat)(s:Wk):Nat:=(long.toNat - s.a)*(pen.d.length+2)+if s.l=0 then 1+(j+pen.d.length - 1 - s.i) % pen.d.length else 0
theorem zy6{s:Wk}(hd:uC pen.d)(h:okW pen long s)(hlt:(s.a:Int) < long):okW pen long (jz pen long s):=by
 obtain⟨h1,h2,h3,⟨e,h4,h5⟩,h6⟩:=h;obtain⟨d1,d2,d3,d4⟩:=yj hd;have hm:(s.i+1) % pen.d.length < pen.d.length:=Kl _ oM
 have hx:pen.d[(s.i+1) % pen.d.length]? =some (pen.d.getD ((s.i+1) % pen.d.length) 0):=by
  rw[Xt,Xb hm];rfl
 have hx1:=d1 _ (Xd hx);refine⟨by unfold jz;dsimp only;omega,hm,by unfold jz;dsimp only;omega,⟨_,hx,Qb _⟩,λhl=>?_⟩;unfold jz at hl ⊢;dsimp only at hl ⊢;exact zy4 h2 hx (h6 hlt) oM
theorem zy7{s:Wk}{j:Nat}(hd:uC pen.d)(h:okW pen long s)(hlt:(s.a:Int) < long)(hj:∃x,pen.d[j]? =some x/\0 < x):muW pen long j (jz pen long s) < muW pen long j s:=by
 obtain⟨h1,h2,h3,⟨e,h4,h5⟩,h6⟩:=h;obtain⟨x,hx,hx0⟩:=hj;have hjl:j < pen.d.length:=(Xc.1 hx).1;unfold muW jz;dsimp only
 by_cases z:s.l=0
 ·rw[if_pos z];have e0:(min s.l (long - s.a)).toNat=0:=oM;rw[e0,XN];refine Nat.add_lt_add_left ?_ _
  split
  ·rename_i hz
   -- the next is none of the entries that are more than zero
   have hne:(s.i+1) % pen.d.length≠j:=λhe=>by
    rw[he,Xt,hx]at hz;have hz:256*x=0:=hz;omega
   have key:(j+pen.d.length - 1 - (s.i+1) % pen.d.length) % pen.d.length+1=(j+pen.d.length - 1 - s.i) % pen.d.length:=by
    by_cases c:s.i+1 < pen.d.length
    ·rw[Xu c]at hne ⊢
     by_cases c2:s.i < j
     ·rw[show j+pen.d.length - 1 - (s.i+1)=(j - 1 - (s.i+1))+pen.d.length by omega,show j+pen.d.length - 1 - s.i=(j - 1 - s.i)+pen.d.length by omega,JJ,JJ,Xu oM,Xu oM];omega
     ·rw[Xu oM,Xu oM];omega
    ·have hl:s.i+1=pen.d.length:=by omega
     rw[hl,JW]at hne ⊢;rw[show j+pen.d.length - 1 - 0=(j - 1)+pen.d.length by omega,JJ,Xu (show j - 1 < pen.d.length by omega),Xu (show j+pen.d.length - 1 - s.i < pen.d.length by omega)];omega
   omega
  ·omega
 ·rw[if_neg z];have hm:(j+pen.d.length - 1 - (s.i+1) % pen.d.length) % pen.d.length < pen.d.length:=Kl _ oM;have e1:long.toNat - s.a=(long.toNat - (s.a+(min s.l (long - s.a)).toNat))+(min s.l (long - s.a)).toNat:=oM;have e2:1<=(min s.l (long - s.a)).toNat:=oM;have e3:1*(pen.d.length+2)<=(min s.l (long - s.a)).toNat*(pen.d.length+2):=Xp _ e2;rw[e1,XW]
  split <;> omega
theorem zxi{s:Wk}(hd:uC pen.d)(h:okW pen long s)(hlt:(s.a:Int) < long)(hm:¬min s.l (long - s.a)=0):
  (s.i % 2=0->z8 (onD pen) (jz pen long s).a=((z8 (onD pen) s.a).1,some ((z8 (onD pen) s.a).2.getD s.a)))/\(¬s.i % 2=0->z8 (onD pen) (jz pen long s).a=(kg (onD pen) s.a,none)):=by
 obtain⟨h1,h2,h3,⟨e,h4,h5⟩,h6⟩:=h;obtain⟨d1,d2,d3,d4⟩:=yj hd
 have on:∀t,s.a<=t->t < (jz pen long s).a->(onD pen t↔s.i % 2=0):=λt ht ht2=>by
  unfold jz at ht2;dsimp only at ht2;exact zAf d1 h4 h5 (h6 hlt) ht oM
 have hab:s.a < (jz pen long s).a:=by unfold jz;dsimp only;omega
 exact⟨λk=>zwC hab λt a b=>(on t a b).2 k,λk=>zsC hab λt a b c=>k ((on t a b).1 c)⟩
theorem zy8(pen:Pen)(long:Int)(hlong:long<=70368744177664):zlR Tryz.prog 246 [.dptr (ji pen),.dptr [i64 long]] runE (kT pen long):=by
 refine znq (caps:=[.dptr (ji pen),.dptr [i64 long]]) (enc:=runE) (xs:=kT pen long) tok mix Tryz.func246 rfl rfl rfl rfl (λl=>?_);have bad:¬kF pen∨long < 1->0=(kT pen long).length:=λh=>by rw[zpU h];rfl
 refine zb.t (zej pen)<|⟨λk=>.inr (bad (.inl k)),λk=>?_⟩;have hk:kF pen:=Xa.1 k;refine⟨λk2=>.inr (bad (.inr (by have k2:long<=0:=k2;omega))),λk2=>?_⟩;have k2:¬long<=0:=k2;have hd:=hk.2.2.2.2.1;obtain⟨d1,d2,d3,d4⟩:=yj hd;intro hl1
 refine⟨Nat,λi=>⟨[(0,.val (.func (.yield l) #[] #[])),(1,.dptr (ji pen)),(2,.dptr [i64 long]),(4,.loc 0 0),(20,.sl uN pen.d),(21,i64 (pen.d.length:Int)),(22,i64 (i:Int))],[(0,.box 33 [i64 (u4 0 pen.d i),i64 (u4 1 pen.d i)])],1,103,0⟩,λ_=>0,λi=>i<=pen.d.length,λi=>pen.d.length - i,0,?_,?_,rfl,rfl,?_⟩
 ·exact Xe _
 ·exact zf [0]
 rintro i hi
 have hs:=zbs pen.d i hi;have hpi:=zdL d1 hi;have p0:=yi (r:=0) d1 i hi;have p1:=yi (r:=1) d1 i hi;refine⟨λg=>?_,λg=>?_⟩
 ·have g:(i:Int) < pen.d.length:=g;refine Ob.o ?_;intro x hx;have hx:pen.d[i]? =some x:=hx;have hx1:=d1 x (Xd hx);have hx2:=d2 x (Xd hx);refine Dv.pos ⟨oM,dC⟩ ?_
  rcases JD i with h | h
  ·rw[show(i:Int) % 2=0 by omega];(iterate 2 refine Ar.o ?_);exact⟨i+1,oM,zC [0] ⟨(show some (Mem.box 33 [i64 (u4 0 pen.d i+x),i64 (u4 1 pen.d i)])=some (Mem.box 33 [i64 (u4 0 pen.d (i+1)),i64 (u4 1 pen.d (i+1))]) by rw[zet hx h,zhu (r:=1) oM]),trivial⟩,rfl,rfl,by dsimp only;omega⟩
  ·rw[show(i:Int) % 2=1 by omega];(iterate 2 refine Ar.o ?_);exact⟨i+1,oM,zC [0] ⟨(show some (Mem.box 33 [i64 (u4 0 pen.d i),i64 (u4 1 pen.d i+x)])=some (Mem.box 33 [i64 (u4 0 pen.d (i+1)),i64 (u4 1 pen.d (i+1))]) by rw[zet hx h,zhu (r:=0) oM]),trivial⟩,rfl,rfl,by dsimp only;omega⟩
 have g:¬(i:Int) < pen.d.length:=g;have ei:i=pen.d.length:=oM;refine⟨λq1=>?_,λq1=>?_⟩
 ·have q1:u4 1 pen.d i=0:=q1;rw[ei]at q1;have e:=zrt (long:=long) hk oM q1;refine⟨rfl,(0,long.toNat),by rw[e];rfl,rfl,.cons .refl (.cons (zi (show long=((long.toNat:Nat):Int) by omega)) .nil),(λk m h=>?_),?_⟩
  ·cases h with
   | head=>rfl
   | tail _ h=>cases h
  ·exact⟨.inr (by rw[e];rfl),.inl rfl⟩
 have q1:¬u4 1 pen.d i=0:=q1;rw[ei]at q1;refine⟨λq0=>?_,λq0=>?_⟩
 ·have q0:u4 0 pen.d i=0:=q0;rw[ei]at q0;exact .inr (by rw[zum (long:=long) hk oM q1 q0 d1];rfl)
 have q0:¬u4 0 pen.d i=0:=q0;rw[ei]at q0 hs p0 p1;rw[yK]at hs;have eR:=zy5 (long:=long) hk oM q1 q0;have hper:0 < qI pen.d:=oM
 obtain⟨j,y,hj,hy⟩:∃(j:Nat) (y:Int),pen.d[j]? =some y/\0 < y:=by
  have hn:=hd.2.1.resolve_left λh=>q1 (by rw[h];rfl)
  obtain⟨n,hn,h0⟩:=hn;obtain⟨j,hj,he⟩:=Kg hn;exact⟨j,n,by rw[Xb hj,he],h0⟩
 refine zb.t (zul pen hk hper) ?_
 -- where it begins
 have k0:=Kv ((0:Nat)+256*pen.ph) (show qI pen.d≠0 by omega);have k1:=X8 ((0:Nat)+256*pen.ph) hper;rw[← zpT pen 0]at k0 k1;obtain⟨i0,e0,g1,g2,g3⟩:=znk d1 k0 k1;have gp:=zeo (i0:=0) d1 g1 g2 g3;rw[X6]at gp;have gs:=yw g1
 have ok0:okW pen long ⟨0,i0,qD pen.d i0+256*e0 - phD pen (0:Nat)⟩:=by
  refine⟨by dsimp only;omega,(Xc.1 g1).1,by dsimp only;omega,⟨e0,g1,by dsimp only;omega⟩,λ_=>?_⟩;dsimp only;rw[show qD pen.d (i0+1) - (qD pen.d i0+256*e0 - phD pen (0:Nat)) - (((0:Nat):Int)+256*pen.ph)=phD pen (0:Nat) - (((0:Nat):Int)+256*pen.ph) by omega,zpT];have:=J2 (((0:Nat):Int)+256*pen.ph) (qI pen.d);exact⟨-((((0:Nat):Int)+256*pen.ph) / qI pen.d),by rw[QC];omega⟩
 have gp:qQ pen.d (phD pen 0) 0=(i0,qD pen.d i0+256*e0 - phD pen (0:Nat)):=gp;refine⟨Wk,λs=>⟨[(0,.val (.func (.yield l) #[] #[])),(1,.dptr (ji pen)),(2,.dptr [i64 long]),(7,i64 (frI (z8 (onD pen) s.a).2)),(8,i64 (s.i:Int)),(9,i64 s.l),(10,i64 (s.a:Int))],[],0,103,0⟩,λs=>(z8 (onD pen) s.a).1.length,okW pen long,muW pen long j,⟨0,i0,qD pen.d i0+256*e0 - phD pen (0:Nat)⟩,ok0,?_,rfl,rfl,?_⟩
 ·exact jG [] ⟨rfl,rfl,rfl,rfl,congrArg (λq=>some (i64 q)) (by rw[gp]),congrArg (λq=>some (i64 q)) (by rw[gp]),rfl,trivial⟩ trivial
 rintro s hs0
 obtain⟨h1,h2,h3,⟨e,h4,h5⟩,h6⟩:=id hs0;have hpl:=zdL d1 (show s.i<=pen.d.length by omega);have he2:=d2 e (Xd h4);refine⟨λc=>?_,λc=>?_⟩;rotate_left
 ·have c:¬(s.a:Int) < long:=c;have ea:s.a=long.toNat:=oM;have eF:kT pen long=(z8 (onD pen) s.a).1++((z8 (onD pen) s.a).2.map λf=>(f,s.a)).toList:=by rw[eR,← ea];rfl
  refine⟨λf=>?_,λf=>?_⟩
  ·have f:0<=frI (z8 (onD pen) s.a).2:=f;obtain⟨q,hq,hq2⟩:=znF (show ¬frI (z8 (onD pen) s.a).2 < 0 by omega);rw[hq]at eF;refine⟨rfl,(q,s.a),by rw[eF];exact K9 ..,rfl,.cons (zi hq2) (.cons (zi (show long=((s.a:Nat):Int) by omega)) .nil),(λ_ _ h=>by cases h),?_⟩;exact⟨.inr (by rw[eF,Xi];rfl),.inl rfl⟩
  ·have f:¬0<=frI (z8 (onD pen) s.a).2:=f;rw[znE (show frI (z8 (onD pen) s.a).2 < 0 by omega)]at eF;exact .inr (by rw[eF];exact(congrArg List.length (XE _)).symm)
 have c:(s.a:Int) < long:=c;have nok:=zy6 hd hs0 c;have nmu:=zy7 hd hs0 c ⟨y,hj,hy⟩;have nrun:=zxi hd hs0 c;have na:((jz pen long s).a:Int)=s.a+min s.l (long - s.a):=by unfold jz;dsimp only;omega
 have ni:(((jz pen long s).i:Nat):Int)=((s.i:Int)+1) % pen.d.length:=by unfold jz;dsimp only;exact Ja ..
 have m3:=Kv ((s.i:Int)+1) (show(pen.d.length:Int)≠0 by omega);have m4:=X8 ((s.i:Int)+1) (show 0 < (pen.d.length:Int) by omega)
 have e2:(((s.i:Int)+1) % pen.d.length).toNat=(s.i+1) % pen.d.length:=by
  rw[show(s.i:Int)+1=((s.i+1:Nat):Int) by omega];omega
 have tailX:∀x,pen.d[(((s.i:Int)+1) % pen.d.length).toNat]? =some x->(0<=x/\x<=1048576)/\(jz pen long s).l=256*x:=λx hx=>by
  refine⟨⟨d1 x (Xd hx),d2 x (Xd hx)⟩,?_⟩;rw[e2]at hx;unfold jz;dsimp only;rw[Xt,hx];rfl
 have hmin:zbA s.l [long - (s.a:Int)]=min s.l (long - s.a):=rfl;refine Ar.o<|Br.mk (λz=>?_) (λz=>?_)
 ·have z:min s.l (long - s.a)=0:=z;have ea:(jz pen long s).a=s.a:=oM;(iterate 2 refine Ar.o ?_);intro hl2;refine Dv.pos ⟨oM,oM⟩<|Ob.mk ⟨m3,m4⟩ ?_;intro x hx;obtain⟨hx1,hx2⟩:=tailX x hx;exact Ar.o<|⟨jz pen long s,nok,jG [] ⟨rfl,rfl,rfl,congrArg (λq=>some (i64 (frI (z8 (onD pen) q).2))) ea.symm,congrArg (λq=>some (i64 q)) ni.symm,congrArg (λq=>some (i64 q)) hx2.symm,congrArg (λq=>some (i64 q)) na.symm,trivial⟩ trivial,congrArg (λq=>(z8 (onD pen) q).1.length) ea.symm,rfl,nmu⟩
 have z:¬min s.l (long - s.a)=0:=z;obtain⟨rOn,rOff⟩:=nrun z;have rF:=zwD (on:=onD pen) (show(jz pen long s).a<=long.toNat by have:=nok.1;omega);rw[← eR]at rF;refine Dv.pos ⟨oM,dC⟩<|⟨λev=>?_,λev=>?_⟩
 ·have ev:s.i % 2=0:=by have ev:(s.i:Int) % 2=0:=ev;omega
  have rOn:=rOn ev;have cnt:(z8 (onD pen) s.a).1.length=(z8 (onD pen) (jz pen long s).a).1.length:=by rw[rOn]
  refine⟨λf=>?_,λf=>?_⟩
  ·have f:frI (z8 (onD pen) s.a).2 < 0:=f;have hfr:(s.a:Int)=frI (z8 (onD pen) (jz pen long s).a).2:=by rw[rOn,znE f];rfl
   (iterate 2 refine Ar.o ?_);intro hl2;refine Dv.pos ⟨oM,oM⟩<|Ob.mk ⟨m3,m4⟩ ?_;intro x hx;obtain⟨hx1,hx2⟩:=tailX x hx;exact Ar.o<|⟨jz pen long s,nok,jG [] ⟨rfl,rfl,rfl,congrArg (λq=>some (i64 q)) hfr,congrArg (λq=>some (i64 q)) ni.symm,congrArg (λq=>some (i64 q)) hx2.symm,congrArg (λq=>some (i64 q)) na.symm,trivial⟩ trivial,cnt,rfl,nmu⟩
  ·have f:¬frI (z8 (onD pen) s.a).2 < 0:=f;obtain⟨q,hq,hq2⟩:=znF f;have hfr:frI (z8 (onD pen) s.a).2=frI (z8 (onD pen) (jz pen long s).a).2:=by rw[rOn,hq];rfl
   refine Dv.pos ⟨oM,dC⟩<|⟨λod=>absurd (show(s.i:Int) % 2=1 from od) oM,λ_=>?_⟩;(iterate 2 refine Ar.o ?_);intro hl2;refine Dv.pos ⟨oM,oM⟩<|Ob.mk ⟨m3,m4⟩ ?_;intro x hx;obtain⟨hx1,hx2⟩:=tailX x hx;exact Ar.o<|⟨jz pen long s,nok,jG [] ⟨rfl,rfl,rfl,congrArg (λq=>some (i64 q)) hfr,congrArg (λq=>some (i64 q)) ni.symm,congrArg (λq=>some (i64 q)) hx2.symm,congrArg (λq=>some (i64 q)) na.symm,trivial⟩ trivial,cnt,rfl,nmu⟩
 have ev:¬s.i % 2=0:=by have ev:¬(s.i:Int) % 2=0:=ev;omega
 have rOff:=rOff ev;refine Dv.pos ⟨oM,dC⟩<|⟨λ_=>?_,λod=>absurd (show(s.i:Int) % 2=1 by omega) od⟩;refine⟨λf=>?_,λf=>?_⟩
 ·have f:0<=frI (z8 (onD pen) s.a).2:=f;obtain⟨q,hq,hq2⟩:=znF (show ¬frI (z8 (onD pen) s.a).2 < 0 by omega);have eA:(z8 (onD pen) (jz pen long s).a).1=(z8 (onD pen) s.a).1++[(q,s.a)]:=by rw[rOff];unfold kg;rw[hq];rfl
  obtain⟨r,hr⟩:=rF;rw[eA]at hr;refine⟨rfl,(q,s.a),?_,rfl,.cons (zi hq2) (.cons .refl .nil),(λ_ _ h=>by cases h),?_⟩
  ·show(kT pen long)[(z8 (onD pen) s.a).1.length]? =some (q,s.a);rw[hr,XL,Xy (Xh _),Jv];rfl
  refine Br.mk ?_ (.inl rfl);have hfr:(-1:Int)=frI (z8 (onD pen) (jz pen long s).a).2:=by rw[rOff];rfl
  have cnt:(z8 (onD pen) s.a).1.length+1=(z8 (onD pen) (jz pen long s).a).1.length:=by rw[eA,Xi];rfl
  (iterate 2 refine Ar.o ?_);intro hl2;refine Dv.pos ⟨oM,oM⟩<|Ob.mk ⟨m3,m4⟩ ?_;intro x hx;obtain⟨hx1,hx2⟩:=tailX x hx;exact Ar.o<|⟨jz pen long s,nok,jG [] ⟨rfl,rfl,rfl,congrArg (λq=>some (i64 q)) hfr,congrArg (λq=>some (i64 q)) ni.symm,congrArg (λq=>some (i64 q)) hx2.symm,congrArg (λq=>some (i64 q)) na.symm,trivial⟩ trivial,cnt,rfl,nmu⟩
 ·have f:¬0<=frI (z8 (onD pen) s.a).2:=f;have hq:=znE (show frI (z8 (onD pen) s.a).2 < 0 by omega);have hfr:frI (z8 (onD pen) s.a).2=frI (z8 (onD pen) (jz pen long s).a).2:=by rw[rOff,hq]
  have cnt:(z8 (onD pen) s.a).1.length=(z8 (onD pen) (jz pen long s).a).1.length:=by rw[rOff];unfold kg;rw[hq];exact(congrArg List.length (XE _)).symm
  (iterate 2 refine Ar.o ?_);intro hl2;refine Dv.pos ⟨oM,oM⟩<|Ob.mk ⟨m3,m4⟩ ?_;intro x hx;obtain⟨hx1,hx2⟩:=tailX x hx;exact Ar.o<|⟨jz pen long s,nok,jG [] ⟨rfl,rfl,rfl,congrArg (λq=>some (i64 q)) hfr,congrArg (λq=>some (i64 q)) ni.symm,congrArg (λq=>some (i64 q)) hx2.symm,congrArg (λq=>some (i64 q)) na.symm,trivial⟩ trivial,cnt,rfl,nmu⟩
theorem p_on(pen:Pen)(long:Int):CG0 187 [.agg (ji pen),i64 long] [] (.dfn 246 [.dptr (ji pen),.dptr [i64 long]]) []:=by
 exact zcD 2 tok mix Tryz.func187 rfl rfl rfl<|.refl
theorem zkh(h:¬x < atS c i):zjZ c x i=i:=by
 cases i with
 | zero=>rfl
 | succ i=>unfold zjZ;rw[if_neg h]
theorem zxj(h:x < atS c (i+1)):zjZ c x (i+1)=zjZ c x i:=by
 show(if x < atS c (i+1) then zjZ c x i else i+1)=_;rw[if_pos h]
theorem zxk(h2:2<=(zX q).length)(hi:i<=(zX q).length - 2):nth q.pts ((i+1) % q.pts.length)=nth (zX q) (i+1):=by
 by_cases h:q.cl=true/\2<=q.pts.length
 ·have hl:=zcJ h.1 h.2
  by_cases e:i+1=q.pts.length
  ·rw[e,JW,zpS h.1 h.2]
  ·rw[Xu oM,za8 oM]
 ·have hl:=zbr h;rw[Xu oM,za8 oM]
def meQ(q:Pl):Me:=⟨q.pts,tsL (zX q) ((zX q).length - 1),atS (zX q) ((zX q).length - 1)⟩
theorem zy9{p:Pl}(h:∀q∈p.pts,zr q):zsO p=meQ (zu p):=if_pos h
theorem zsP(q:Pl)(x:Int)(hq:q.pts.length<=4096)(h2:2<=(zX q).length)(hx:0<=x/\x<=70368744177664):CG0 248 [.agg (meE (meQ q)),i64 x] [] (.agg (ptE (zc0 (zX q) x))) []:=by
 refine zc Tryz.func248 ?_;have ll:=jH q;have tl:(meQ q).ts.length=(zX q).length - 1:=ziA ..;intro hl1;refine Ar.o<|⟨Nat,λi=>⟨[(1,i64 x),(2,.loc 0 0),(4,.loc 1 0),(5,i64 (i:Int))],[(0,.box 205 (meE (meQ q))),(1,.box 35 [i64 0,i64 0])],2,68,0⟩,λi=>i<=(zX q).length - 2/\zjZ (zX q) x ((zX q).length - 2)=zjZ (zX q) x i,λi=>i,(zX q).length - 2,?_,?_,?_⟩
 ·exact⟨Xh _,rfl⟩
 ·exact zL [0,1] ⟨rfl,rfl,rfl,congrArg (λq=>some (i64 q)) (by rw[tl];omega),trivial⟩ ⟨rfl,rfl,trivial⟩
 rintro i ⟨hi,hidx⟩
 have ar:=vQ (zX q) i;have ar2:=vQ (zX q) (i+1);have ar3:=vQ (zX q) ((zX q).length - 1);refine⟨λg=>Ob.mk (by have g:(0:Int) < (i:Int):=g;omega) λy hy=>Br.mk (λc=>?_) (λc=>?_),λg=>?_⟩
 ·have g:(0:Int) < (i:Int):=g;have hy:=zht (show(tsL (zX q) ((zX q).length - 1))[i]? =some y from hy);have c:x < y:=c;obtain⟨k,rfl⟩:∃k,i=k+1:=⟨i - 1,oM⟩;exact Ar.o<|⟨k,⟨oM,by rw[hidx,zxj (by rw[← hy];exact c)]⟩,zL [0,1] ⟨rfl,rfl,rfl,congrArg (λq=>some (i64 q)) oM,trivial⟩ ⟨rfl,rfl,trivial⟩,XV k⟩
 all_goals
  have hix:zjZ (zX q) x ((zX q).length - 2)=i:=by
   first
   | exact hidx.trans (zkh (by rw[← zht (show(tsL (zX q) ((zX q).length - 1))[i]? =some y from hy)];exact c))
   | exact hidx.trans (by rw[show i=0 by have g:¬(0:Int) < (i:Int):=g;omega];rfl)
  clear g;refine Ar.o ?_;intro hl2;refine⟨λd=>Ar.fit oM (Ob.mk ⟨oM,d⟩ λz hz=>?_),λd=>?_⟩
  all_goals
   have hn:1<=q.pts.length:=oM;have m3:=Kv ((i:Int)+1) (show(q.pts.length:Int)≠0 by omega);have m4:=X8 ((i:Int)+1) (show 0 < (q.pts.length:Int) by omega)
   have e2:(((i:Int)+1) % q.pts.length).toNat=(i+1) % q.pts.length:=by
    rw[show(i:Int)+1=((i+1:Nat):Int) by omega];omega
   refine Dr.k<|Ob.mk (show 0<=(i:Int)/\(i:Int) < q.pts.length by omega) ?_;intro a ha;have ha:=qt (show q.pts[i]? =some a from ha);rw[← za8 (q:=q) (i:=i) oM]at ha;refine Ar.o ?_;intro hl3;refine Dv.pos ⟨oM,(show 0 < (q.pts.length:Int) by omega)⟩<|Ob.mk ⟨m3,m4⟩ ?_;intro b hb;have hb:=qt (show q.pts[(((i:Int)+1) % q.pts.length).toNat]? =some b from hb);rw[e2,zxk h2 hi]at hb;refine Ob.mk (show 0<=(i:Int)/\(i:Int) < ((meQ q).ts.length:Int) by omega) ?_;intro u hu
   have hu:=zht (show(tsL (zX q) ((zX q).length - 1))[i]? =some u from hu);refine Ar.o<|Ob.mk (show 0<=(i:Int)/\(i:Int) < ((meQ q).ts.length:Int) by omega) ?_;intro u' hu';have hu':=zht (show(tsL (zX q) ((zX q).length - 1))[i]? =some u' from hu')
   have key:∀T,T=atS (zX q) (i+1)->yl a b (x - u) (T - u')=zc0 (zX q) x:=λT h=>by
    unfold zc0;dsimp only;rw[hix,h,hu,hu',ha,hb]
   first
   |have hT:=zht (show(tsL (zX q) ((zX q).length - 1))[i+1]? =some z from hz)
    exact Ar.o<|zb.t (znb a b (x - u) (z - u'))<|ub (congrArg (λp=>SV.agg (ptE p)) (key _ hT))
   |have d:¬(i:Int)+1 < ((meQ q).ts.length:Int):=d
    have hT:atS (zX q) ((zX q).length - 1)=atS (zX q) (i+1):=by rw[show(zX q).length - 1=i+1 by omega]
    exact Ar.fit (show -9223372036854775808<=atS (zX q) ((zX q).length - 1) - u'/\atS (zX q) ((zX q).length - 1) - u'<=9223372036854775807 by omega)<|zb.t (znb a b (x - u) (atS (zX q) ((zX q).length - 1) - u'))<|ub (congrArg (λp=>SV.agg (ptE p)) (key _ hT))
theorem zxl(q:List Pt)(x:Pt)(hq:0 < q.length/\q.length<=100000):CG0 249 [.agg (ptE x),.loc 0 0] [(0,.box 72 [.own 1]),(1,.arr 35 ptE 2 q)] (.tup []) [(0,.box 72 [.own 2]),(2,.arr 35 ptE 2 (yE q x))]:=by
 refine uX tok mix Tryz.func249 rfl rfl rfl<|Dr.d ?_;intro hl;refine Ar.o<|Ob.o<|Ob.o ?_;intro z hz
 have hz:q[q.length - 1]? =some z:=by
  have hz:q[((q.length:Int) - 1).toNat]? =some z:=hz
  rwa [show((q.length:Int) - 1).toNat=q.length - 1 by omega]at hz
 refine Ob.mk (by kernel_rfl)<|⟨λk=>?_,λk=>?_⟩
 ·have k:¬z=x:=λh=>k (k8.2 h)
  refine⟨Pt,ptE,[x],rfl,Ob.o0 ?_⟩;refine⟨[x],rfl,Ob.o3 ?_⟩;refine⟨⟨[],[(0,.box 72 [.own 2]),(2,.arr 35 ptE 2 (yE q x))],3,15,2⟩,zC [0,1,4] ⟨rfl,congrArg (λq=>some (Mem.arr 35 ptE 2 q)) (zix hz k).symm,trivial⟩,rfl,.refl⟩
 ·have k:z=x:=k8.1 (Xa.1 k);refine⟨⟨[],[(0,.box 72 [.own 2]),(2,.arr 35 ptE 2 (yE q x))],3,15,2⟩,zC [0,1,1] ⟨rfl,congrArg (λq=>some (Mem.arr 35 ptE 2 q)) (znr hz k).symm,trivial⟩,rfl,.refl⟩
theorem zl7(q more:List Pt)(x:Pt):kz q (more++[x])=yE (kz q more) x:=by unfold kz;rw[KP];rfl
theorem zeu(c:List Pt)(f t:Int)(n:Nat):zeP c f t (n+1)=zeP c f t n++if f < atS c n/\atS c n < t then[nth c n] else[]:=by
 unfold zeP;rw[K7,List.filter_append,XI];congr 1
 by_cases h:f < atS c n/\atS c n < t
 ·rw[if_pos h,List.filter_cons_of_pos (by simpa using h)];rfl
 ·rw[if_neg h,List.filter_cons_of_neg (by simpa using h)];rfl
def zbF(c:List Pt)(f t:Int)(n:Nat):List Pt:=kz [] ([zc0 c f]++zeP c f t n)
variable{f:Int}
theorem zpV{t:Int}{n:Nat}(h:f < atS c n/\atS c n < t):zbF c f t (n+1)=yE (zbF c f t n) (nth c n):=by
 unfold zbF;rw[zeu,if_pos h,← XL,zl7]
theorem zsQ{t:Int}{n:Nat}(h:¬(f < atS c n/\atS c n < t)):zbF c f t (n+1)=zbF c f t n:=by
 unfold zbF;rw[zeu,if_neg h,XE]
theorem zpW(c:List Pt)(f t:Int):vh c f t=yE (zbF c f t (c.length - 1)) (zc0 c t):=by
 unfold vh zbF;rw[zl7]
theorem zpX(c:List Pt)(f t:Int)(n:Nat):0 < (zbF c f t n).length/\(zbF c f t n).length<=n+1:=by
 induction n with
 | zero=>exact⟨XV 0,Xh 1⟩
 | succ n ih=>
  by_cases h:f < atS c n/\atS c n < t
  ·rw[zpV h];have h1:=zgi (zbF c f t n) (nth c n);refine⟨?_,oM⟩;unfold yE
   split
   ·exact ih.1
   ·simp
  ·rw[zsQ h];omega
theorem znG(c:List Pt)(f t:Int):0 < (vh c f t).length/\(vh c f t).length<=c.length+2:=by
 rw[zpW];have h:=zpX c f t (c.length - 1);have h1:=zgi (zbF c f t (c.length - 1)) (zc0 c t);refine⟨?_,oM⟩;unfold yE
 split
 ·exact h.1
 ·simp
theorem zAg(q:Pl)(f t:Int)(hq:q.pts.length<=4096)(h2:2<=(zX q).length)(hf:0<=f/\f<=70368744177664)(ht:0<=t/\t<=70368744177664):CG0 188 [.agg (meE (meQ q)),i64 f,i64 t] [] (.sl ptE (vh (zX q) f t)) []:=by
 refine zc Tryz.func188 ?_;have ll:=jH q;have tl:(meQ q).ts.length=(zX q).length - 1:=ziA ..;refine zb.t (zsP q f hq h2 hf)<|⟨Pt,ptE,[zc0 (zX q) f],rfl,Ob.o0 ?_⟩;intro hl1;refine⟨Nat,λi=>⟨[(1,i64 f),(2,i64 t),(3,.loc 0 0),(7,.loc 1 0),(8,.fn 249 [.loc 1 0]),(17,.sl uN (meQ q).ts),(18,i64 ((meQ q).ts.length:Int)),(19,i64 (i:Int))],[(0,.box 205 (meE (meQ q))),(1,.box 72 [.own 2]),(2,.arr 35 ptE 2 (zbF (zX q) f t i))],3,46,0⟩,λi=>i<=(zX q).length - 1,λi=>(zX q).length - i,0,?_,?_,?_⟩
 ·exact Xe _
 ·exact zf [0,2,1]
 rintro i hi
 have cl:=zpX (zX q) f t i;refine⟨λg=>?_,λg=>?_⟩
 ·have g:(i:Int) < ((meQ q).ts.length:Int):=g;have stay:¬(f < atS (zX q) i/\atS (zX q) i < t)->zbF (zX q) f t i=zbF (zX q) f t (i+1):=λh=>(zsQ h).symm
  refine Ob.o ?_;intro y hy;have hy:=zht (show(tsL (zX q) ((zX q).length - 1))[i]? =some y from hy);refine⟨λk1=>Br.mk (λk2=>?_) (λk2=>?_),λk1=>?_⟩;rotate_left
  ·have k2:¬y < t:=k2;exact Ar.o<|⟨i+1,oM,zC [0,1,2] ⟨rfl,rfl,congrArg (λq=>some (Mem.arr 35 ptE 2 q)) (stay λh=>k2 (by rw[hy];exact h.2)),trivial⟩,by dsimp only;omega⟩
  ·have k1:¬f < y:=k1;exact Ar.o<|⟨i+1,oM,zC [0,1,2] ⟨rfl,rfl,congrArg (λq=>some (Mem.arr 35 ptE 2 q)) (stay λh=>k1 (by rw[hy];exact h.1)),trivial⟩,by dsimp only;omega⟩
  ·have k1:f < y:=k1;have k2:y < t:=k2;rw[hy]at k1 k2;refine Ob.mk (show 0<=(i:Int)/\(i:Int) < (q.pts.length:Int) by omega) ?_;intro x hx;have hx:=qt (show q.pts[i]? =some x from hx);rw[← za8 (q:=q) (i:=i) oM]at hx
   refine zb.give [1,2] 1 [.agg (ptE x),.loc 0 0] [(0,.box 72 [.own 1]),(1,.arr 35 ptE 2 (zbF (zX q) f t i))] [(0,.box 72 [.own 2]),(2,.arr 35 ptE 2 (yE (zbF (zX q) f t i) x))] (.tup []) (zxl (zbF (zX q) f t i) x ⟨cl.1,oM⟩)
    LEs.refl rfl rfl rfl ⟨⟨_,rfl,rfl,rfl⟩,⟨_,rfl,rfl,trivial⟩,trivial⟩ rfl ⟨⟨rfl,rfl⟩,⟨rfl,trivial⟩,trivial⟩ ?_
   exact Ar.o<|⟨i+1,oM,zC [0,1,3] ⟨rfl,rfl,congrArg (λq=>some (Mem.arr 35 ptE 2 q)) (by rw[zpV ⟨k1,k2⟩,hx]),trivial⟩,by dsimp only;omega⟩
 have g:¬(i:Int) < ((meQ q).ts.length:Int):=g;have ei:i=(zX q).length - 1:=oM;refine zb.t (zsP q t hq h2 ht) ?_
 refine zb.give [1,2] 1 [.agg (ptE (zc0 (zX q) t)),.loc 0 0] [(0,.box 72 [.own 1]),(1,.arr 35 ptE 2 (zbF (zX q) f t i))] [(0,.box 72 [.own 2]),(2,.arr 35 ptE 2 (yE (zbF (zX q) f t i) (zc0 (zX q) t)))] (.tup []) (zxl (zbF (zX q) f t i) (zc0 (zX q) t) ⟨cl.1,oM⟩)
  LEs.refl rfl rfl rfl ⟨⟨_,rfl,rfl,rfl⟩,⟨_,rfl,rfl,trivial⟩,trivial⟩ rfl ⟨⟨rfl,rfl⟩,⟨rfl,trivial⟩,trivial⟩ ?_
 refine z9 ?_;rw[zpW,ei]
theorem zb5(t:AF)(p:Pt)(ht:t.le 100000):CG0 117 [.agg (afE t),.agg (ptE p)] [] (.tup [.agg (ptE (kI t p).1),i64 (kI t p).2]) []:=by
 obtain⟨ha,hb,hc,hd,he,hf⟩:=ht;refine zc Tryz.func117 ?_;have fin:∀(q:Pt) (n:Int),(kI t p)=(q,n)->LE (.tup [.agg (ptE q),i64 n]) (.tup [.agg (ptE (kI t p).1),i64 (kI t p).2]):=λq n h=>by rw[h];exact .refl
 refine zb.t (zbV t ⟨oM,oM,oM,oM,oM,oM⟩)<|⟨λh1=>?_,λh1=>?_⟩
 ·exact fin zp 5 (by rw[kI,if_pos h1])
 refine zb.t (kH p)<|⟨λh2=>?_,λh2=>?_⟩
 ·exact fin zp 6 (by rw[kI,if_neg h1,if_pos h2])
 have hp:zr p:=XK h2;have hx:R64 p.x:=by unfold R64;unfold zr at hp;omega
 have hy:R64 p.y:=by unfold R64;unfold zr at hp;omega
 have lx:=zdu p.x;have ly:=zdu p.y;have zx:=qO hx;have zy:=qO hy;refine Dr.k<|zb.t (jf p.x hx)<|zb.t (jf p.y hy)<|zb.t (ztO t (ofQ (p.x:Rat)) (ofQ (p.y:Rat)) ⟨oM,oM,oM,oM,oM,oM⟩ (by rw[zB];omega) (by rw[zB];omega)) ?_;rw[z6,z6];have lX:=qh t.a (ofQ (p.x:Rat)) t.c (ofQ (p.y:Rat)) t.e (n:=100000) ha (by rw[zB];omega) hc (by rw[zB];omega) he;have lY:=qh t.b (ofQ (p.x:Rat)) t.d (ofQ (p.y:Rat)) t.f (n:=100000) hb (by rw[zB];omega) hd (by rw[zB];omega) hf;rw[z6,z6]at lX lY
 have lh:jY (Rat.divInt 1 2)<=1:=by decide +kernel
 have mX:=za0 (yX t p.x p.y) (Rat.divInt 1 2);have mY:=za0 (yY t p.x p.y) (Rat.divInt 1 2);have lX2:jY (yX t p.x p.y)<=500007:=lX.2;have lY2:jY (yY t p.x p.y)<=500007:=lY.2
 have fl:∀q:Rat,jp q.floor<=jY q:=λq=>Xz (zbQ (by
  rw[JO]
  exact QJ _ _)) (qa q)
 have fX:=fl (yX t p.x p.y+Rat.divInt 1 2);have fY:=fl (yY t p.x p.y+Rat.divInt 1 2);refine zb.t (zoW 1 2 dC dC dC)<|zb.t (zdv (ofQ (yX t p.x p.y)) (ofQ (Rat.divInt 1 2)) (by rw[zB];omega) (by rw[zB];omega)) ?_;rw[z6,z6];refine zb.t (zoX (ofQ (yX t p.x p.y+Rat.divInt 1 2)) (by rw[zB];omega)) ?_;rw[z6];refine zb.t (zju (ofZ (yX t p.x p.y+Rat.divInt 1 2).floor) (by rw[zS];omega))<|zb.t (zdv (ofQ (yY t p.x p.y)) (ofQ (Rat.divInt 1 2)) (by rw[zB];omega) (by rw[zB];omega)) ?_;rw[z6,z6]
 refine zb.t (zoX (ofQ (yY t p.x p.y+Rat.divInt 1 2)) (by rw[zB];omega)) ?_;rw[z6];refine zb.t (zju (ofZ (yY t p.x p.y+Rat.divInt 1 2).floor) (by rw[zS];omega)) ?_;rw[zV,zV];obtain⟨X,hX⟩:∃X,(yX t p.x p.y+Rat.divInt 1 2).floor=X:=⟨_,rfl⟩;obtain⟨Y,hY⟩:∃Y,(yY t p.x p.y+Rat.divInt 1 2).floor=Y:=⟨_,rfl⟩;have hg:goP t p=⟨X,Y⟩:=by unfold goP;rw[hX,hY]
 rw[hX,hY];have out:¬zr ⟨X,Y⟩->kI t p=(zp,6):=λh=>by rw[kI,if_neg h1,if_neg h2,if_neg (by rw[hg];exact h)]
 have inn:zr ⟨X,Y⟩->kI t p=(⟨X,Y⟩,0):=λh=>by rw[kI,if_neg h1,if_neg h2,if_pos (by rw[hg];exact h),hg]
 have big:zr ⟨X,Y⟩->(-9223372036854775808<=X/\X<=9223372036854775807)/\(-9223372036854775808<=Y/\Y<=9223372036854775807):=λh=>by unfold zr at h;dsimp only at h;omega
 refine⟨λh3=>?_,λh3=>?_⟩
 ·exact fin zp 6 (out λh=>h3 (big h).1)
 have h3:=XK h3;refine⟨λh4=>?_,λh4=>?_⟩
 ·exact fin zp 6 (out λh=>h4 (big h).2)
 have h4:=XK h4;refine zb.t (kH ⟨y4 X,y4 Y⟩) ?_;rw[y4,if_pos h3,y4,if_pos h4];refine⟨λh5=>?_,λh5=>?_⟩
 ·exact fin zp 6 (out h5)
 ·exact fin ⟨X,Y⟩ 0 (inn (XK h5))
theorem zuz(t:AF){s:Sg}(hf:ze6 s):vN t s=zwF (λp=>(kI t p).1) s:=by
 unfold vN;obtain⟨f1,f2,f3⟩:=hf;have hr:=zf5 s.v;have k:nm s.v<=0∨nm s.v=1∨nm s.v=2∨nm s.v=3:=oM;unfold kN zwF zjK part
 rcases k with k | k | k | k
 ·rw[show(nm s.v).toNat=0 by omega,f1.2 oM,f2.2 oM,f3.2 oM];rfl
 ·rw[show(nm s.v).toNat=1 by omega,f2.2 oM,f3.2 oM];rfl
 ·rw[show(nm s.v).toNat=2 by omega,f3.2 oM];rfl
 ·rw[show(nm s.v).toNat=3 by omega];rfl
variable{l:List Sg}
theorem zhx{t:AF}(h1:jn l){x:Sg}{p:Pt}{k:Nat}(h0:jo t (jh (l.take i))=0)(hx:l[i]? =some x)(hk:jo t ((kN x).take k)=0)(hp:(kN x)[k]? =some p)(he:(kI t p).2≠0):trans t l=([],(kI t p).2):=by
 have e2:=(vp hk hp).2 he
 have e3:jo t (jh l)=(kI t p).2:=by
  have hd:=zf3 hx
  have:jh l=jh (l.take i)++(kN x++jh (l.drop (i+1))):=by
   conv=>lhs;rw[← Kf i l,hd]
   simp[jh]
  rw[this,jE,h0];simp only[ne_eq,not_true_eq_false,if_false];rw[jE,e2,if_pos he]
 rw[trans,if_neg (λk=>k h1),e3,if_pos he]
theorem zuA{t:AF}{x:Sg}(h0:jo t (jh (l.take i))=0)(hx:l[i]? =some x)(hk:jo t (kN x)=0):jo t (jh (l.take (i+1)))=0:=by
 rw[zhT hx,jE,h0];simpa using hk
theorem zxt(l:List Sg)(t:AF)(ht:t.le 100000):CG0 57 [.sl sgE l,.agg (afE t)] [] (.tup [.sl sgE (trans t l).1,i64 (trans t l).2]) []:=by
 refine zc Tryz.func57 ?_
 have bad:∀e:Int,trans t l=([],e)->LE (.tup [.val (.slice none 0 0),i64 e]) (.tup [.sl sgE (trans t l).1,i64 (trans t l).2]):=λe h=>by
  rw[h];exact zI zD .refl
 refine zb.t (zf4 l)<|⟨λh1=>?_,λh1=>?_⟩
 ·exact bad 10 (by rw[trans,if_pos h1])
 have h:=Xa.1 h1;have hvl:=zg9 h;refine⟨Sg,sgE,[],rfl,Ob.o2 ?_⟩
 refine⟨Nat,λi=>⟨[(7,i64 i),(6,.own 1),(3,.loc 0 0),(0,.sl sgE l)],[(1,.arr 124 sgE 7 ((l.take i).map (vN t))),(0,.box 45 (afE t))],2,67,0⟩,λi=>i<=l.length/\jo t (jh (l.take i))=0,λi=>l.length - i,0,⟨Xe _,rfl⟩,
  zf [0,1],?_⟩
 rintro i ⟨hil0,hi0⟩
 intro _;refine⟨λg1=>?_,λg1=>?_⟩
 ·have g1:(i:Int) < l.length:=g1;have hx:=Xb (show i < l.length by omega);generalize l[i]'oM=x at hx;have hf:=zwH h (Xd hx);have hnr:=zf5 x.v;refine Ob.mk ⟨oM,g1⟩ ?_;intro y hy;have hy:l[i]? =some y:=hy;rw[hx]at hy;cases hy
  refine zb.t (zso x) ?_;have hml:((l.take i).map (vN t)).length<=256:=by simp;omega
  refine⟨Nat,λk=>⟨[(9,i64 k),(8,.loc 2 0),(7,i64 i),(6,.own 1),(3,.loc 0 0),(0,.sl sgE l)],[(2,.box 155 (ptE (part (λp=>(kI t p).1) k x).a++ptE (part (λp=>(kI t p).1) k x).b++ptE (part (λp=>(kI t p).1) k x).c)),(1,.arr 124 sgE 7 ((l.take i).map (vN t))),(0,.box 45 (afE t))],3,67,0⟩,
   λk=>k<=(nm x.v).toNat/\jo t ((kN x).take k)=0,λk=>3 - k,0,⟨Xe _,rfl⟩,zf [0,1,2],?_⟩
  rintro k ⟨hk0,hke⟩
  refine Ob.mk ⟨oM,g1⟩ ?_;intro y hy;have hy:l[i]? =some y:=hy;rw[hx]at hy;cases hy
  refine zb.t (zo1 x.v)<|⟨λg2=>?_,λg2=>?_⟩
  ·have g2:(k:Int) < nm x.v:=g2;have hat:=zA3 (s:=x) g2;have e:k=0∨k=1∨k=2:=oM
   rcases e with rfl | rfl | rfl
   ·refine Dr.k<|zb.t (zb5 t x.a ht)<|⟨λh5=>bad _ (zhx h hi0 hx hke hat h5),λh5=>?_⟩;have h5:(kI t x.a).2=0:=XK h5;exact Ar.fit dC<|⟨1,⟨by show 1<=_;omega,(vp hke hat).1 h5⟩,zf [0,1,2],dC⟩
   ·refine Dr.k<|zb.t (zb5 t x.b ht)<|⟨λh5=>bad _ (zhx h hi0 hx hke hat h5),λh5=>?_⟩;have h5:(kI t x.b).2=0:=XK h5;exact Ar.fit dC<|⟨2,⟨by show 2<=_;omega,(vp hke hat).1 h5⟩,zf [0,1,2],dC⟩
   ·refine Dr.k<|zb.t (zb5 t x.c ht)<|⟨λh5=>bad _ (zhx h hi0 hx hke hat h5),λh5=>?_⟩;have h5:(kI t x.c).2=0:=XK h5;exact Ar.fit dC<|⟨3,⟨by show 3<=_;omega,(vp hke hat).1 h5⟩,zf [0,1,2],dC⟩
  ·have g2:¬(k:Int) < nm x.v:=g2;have hku:k=(nm x.v).toNat:=oM
   have hall:(kN x).take k=kN x:=by
    rw[Xg];unfold kN;simp;omega
   rw[hall]at hke;refine Dr.k<|Ob.mk ⟨oM,g1⟩ ?_;intro y hy;have hy:l[i]? =some y:=hy;rw[hx]at hy;cases hy
   refine⟨Sg,sgE,[part (λp=>(kI t p).1) k x],rfl,Ob.o0 ?_⟩;refine⟨[part (λp=>(kI t p).1) k x],rfl,Ob.mk ⟨(by show _*(56:Int)<=_;simp only[Xl,Xs];omega),(by simp only[Xl,Xs];omega),dC,λ_ _=>rfl⟩ ?_⟩;exact Ar.o<|⟨i+1,⟨by show i+1<=_;omega,zuA hi0 hx hke⟩,zC [0,4] ⟨congrArg (λq=>some (Mem.arr 124 sgE 7 q)) (by rw[Xm,hx,hku];simp[zuz t hf,zwF]),rfl,trivial⟩,by dsimp only;omega⟩
 ·have hil:i=l.length:=by omega
  rw[hil,X9]at hi0;have htr:trans t l=(l.map (vN t),0):=by rw[trans,if_neg h1,hi0,if_neg (λk=>k rfl)]
  rw[show(trans t l).1=(l.take i).map (vN t) by rw[htr,hil,X9],show(trans t l).2=0 by rw[htr]];exact zI .refl .refl
instance (t:AF) (n:Nat):Decidable (t.le n):=inferInstanceAs (Decidable (_/\_))
def yZ(p:Nat×SV):Nat×SV:=
 match p.2 with
 | .loc k o=>(p.1,.loc k o)
 | _=>(p.1,.junk)
theorem zgw:∀(L:List (Nat×SV)) (t:Nat) (s:SV),qc (L.map yZ) t=some s->s=.junk∨∃k o,s=.loc k o/\qc L t=some (.loc k o)
 | [],t,s,h=>by simp[qc]at h
 | (d,s0)::L,t,s,h=>by
  have e:(((d,s0)::L).map yZ)=(d,(yZ (d,s0)).2)::L.map yZ:=by
   simp only[Je];congr 1;unfold yZ;dsimp only;split <;> rfl
  rw[e,kJ]at h
  split at h
  ·rename_i hd
   cases h
   unfold yZ;dsimp only
   split
   ·rename_i k o;exact .inr ⟨k,o,rfl,by rw[kJ,if_pos hd]⟩
   ·exact .inl rfl
  ·rename_i hd
   rcases zgw L t s h with h | ⟨k,o,h1,h2⟩
   ·exact .inl h
   ·exact .inr ⟨k,o,h1,by rw[kJ,if_neg hd,h2]⟩
def zxu:SV->Bool
 | .loc _ _=>true
 | _=>false
def zAi(K:St->Prop):Ex->St->Prop
 | .exit _,_=>False
 | .normal,σ=>K σ
 | .ret,σ=>K σ
end Go.Gs
