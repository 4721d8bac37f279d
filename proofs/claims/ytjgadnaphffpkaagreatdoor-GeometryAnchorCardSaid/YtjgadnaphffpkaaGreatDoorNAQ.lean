/- Dashes: the segments one by one, the measure. -/
import Derived.Test.YtjgadnaphffpkaaGreatDoorNA
import Derived.Test.YtjgadnaphffpkaaGreatDoorNAP
import Derived.Test.YtjgadnaphffpkaaGreatDoorNAM
import Derived.Test.YtjgadnaphffpkaaGreatDoorNAK
import Derived.Test.YtjgadnaphffpkaaGreatDoorNAN
import Derived.Defers
import Derived.Test.YtjgadnaphffpkaaGreatDoorNAJ
import Derived.Test.YtjgadnaphffpkaaGreatDoorNAI
set_option maxRecDepth 100000
set_option maxHeartbeats 8000000
set_option linter.all false
namespace Go.Gs
open Go.Proofs
def zZ(q:Pl):List Pt:=if q.cl=true/\2<=q.pts.length then q.pts++[nth q.pts 0] else q.pts
theorem yP(p:Pl):ze p=zZ (zu p):=rfl
variable{q:Pl}
theorem zgC(h:q.cl=true)(k:2<=q.pts.length):zZ q=q.pts++[nth q.pts 0]:=if_pos ⟨h,k⟩
theorem zn6(h:¬(q.cl=true/\2<=q.pts.length)):zZ q=q.pts:=if_neg h
theorem zbh{q:Pl}{i:Nat}(h:i < q.pts.length):nth (zZ q) i=nth q.pts i:=by
 unfold zZ
 split
 ·show(q.pts++[nth q.pts 0]).getD i zp=q.pts.getD i zp;rw[Xt,XF h];exact(Xt ..).symm
 ·rfl
theorem zqo(h:q.cl=true)(k:2<=q.pts.length):nth (zZ q) q.pts.length=nth q.pts 0:=by
 rw[zgC h k];show(q.pts++[nth q.pts 0]).getD q.pts.length zp=nth q.pts 0;rw[Xt,XA (Xh _),JG];rfl
theorem zcS(h:q.cl=true)(k:2<=q.pts.length):(zZ q).length=q.pts.length+1:=by rw[zgC h k,Xj];rfl
theorem zbC{q:Pl}(h:¬(q.cl=true/\2<=q.pts.length)):(zZ q).length=q.pts.length:=by rw[zn6 h]
theorem jM(q:Pl):q.pts.length<=(zZ q).length/\(zZ q).length<=q.pts.length+1:=by
 by_cases h:q.cl=true/\2<=q.pts.length
 ·rw[zcS h.1 h.2];omega
 ·rw[zbC h];omega
def zkB(q:Pl):List (Pt×Pt):=(List.range ((zZ q).length - 1)).map λi=>(nth (zZ q) i,nth (zZ q) (i+1))
def segE(s:Pt×Pt):List SV:=[.agg (ptE s.1),.agg (ptE s.2)]
variable{i:Nat}
theorem zn7(h:i < (zZ q).length - 1):(zkB q)[i]? =some (nth (zZ q) i,nth (zZ q) (i+1)):=by
 unfold zkB;rw[XC,Qt h];rfl
theorem zgD(q:Pl):(zkB q).length=(zZ q).length - 1:=by unfold zkB;simp
theorem zr9(q:Pl):CG0 242 [.agg (plE q)] [] (.dfn 304 [.dptr (plE q)]) []:=by
 exact zcM 2 tok mix Tryz.func242 rfl rfl rfl<|.refl
theorem zz8(q:Pl)(hq:q.pts.length<=4096):zmg Tryz.prog 304 [.dptr (plE q)] segE (zkB q):=by
 refine znU (caps:=[.dptr (plE q)]) (enc:=segE) (xs:=zkB q) tok mix Tryz.func304 rfl rfl rfl rfl (λl=>?_);intro hl1;refine⟨Nat,λk=>⟨[(0,.val (.func (.yield l) #[] #[])),(1,.dptr (plE q)),(3,i64 (q.pts.length:Int)),(4,i64 ((k:Int)+1))],[],0,45,0⟩,λk=>k,λk=>k<=q.pts.length - 1,λk=>q.pts.length - k,0,?_,?_,rfl,rfl,?_⟩
 ·exact Xe _
 ·exact zE []
 rintro k hk
 have ll:=jM q;refine⟨λg=>?_,λg=>?_⟩
 ·have g:(k:Int)+1 < q.pts.length:=g;refine YDr.split 12 (Ob.mk (by decide +kernel) ?_);refine Ar.o<|Ob.o ?_;intro x hx
  have hx:=qy (show q.pts[k]? =some x by
   have hx:q.pts[((k:Int)+1 - 1).toNat]? =some x:=hx
   rwa [show((k:Int)+1 - 1).toNat=k by omega]at hx)
  refine Ob.o ?_;intro y hy;have hy:=qy (show q.pts[k+1]? =some y from hy);refine⟨rfl,(x,y),(by show(zkB q)[k]? =some (x,y);rw[zn7 oM,zbh oM,zbh oM,hx,hy]),rfl,.cons .refl (.cons .refl .nil),(λ_ _ h=>by cases h),?_⟩;refine Br.mk ?_ ?_
  ·refine Ar.o ?_;refine⟨k+1,oM,jL [] ⟨rfl,rfl,rfl,congrArg (λq=>some (i64 q)) oM,trivial⟩ trivial,rfl,rfl,by dsimp only;omega⟩
  ·exact .inl rfl
 have g:¬(k:Int)+1 < q.pts.length:=g;have ek:k=q.pts.length - 1:=oM;have no:¬(q.cl=true/\2<=q.pts.length)->k=(zkB q).length:=λh=>by rw[zgD,zbC h];exact ek
 refine⟨λc=>?_,λc=>.inr (no λh=>c h.1)⟩;have c:q.cl=true:=c;refine⟨λn1=>?_,λn1=>.inr (no λh=>by have n1:¬(1:Int) < q.pts.length:=n1;omega)⟩;have n1:(1:Int) < q.pts.length:=n1;have le:=zcS c (show 2<=q.pts.length by omega);refine YDr.split 11 (Ob.mk (by decide +kernel) ?_);refine Ar.o<|Ob.o ?_;intro x hx
 have hx:=qy (show q.pts[q.pts.length - 1]? =some x by
  have hx:q.pts[((q.pts.length:Int) - 1).toNat]? =some x:=hx
  rwa [show((q.pts.length:Int) - 1).toNat=q.pts.length - 1 by omega]at hx)
 refine Ob.o ?_;intro y hy;have hy:=qy (show q.pts[0]? =some y from hy);refine⟨rfl,(x,y),?_,rfl,.cons .refl (.cons .refl .nil),(λ_ _ h=>by cases h),?_⟩
 ·show(zkB q)[k]? =some (x,y);rw[zn7 oM,ek,zbh oM,show q.pts.length - 1+1=q.pts.length by omega,zqo c oM,hx,hy]
 ·refine Br.mk ?_ ?_
  ·refine .inr ?_;show k+1=(zkB q).length;rw[zgD];omega
  ·exact .inl rfl
structure Me where
 ln:List Pt
 ts:List Int
 lg:Int
def meE(m:Me):List SV:=[.sl ptE m.ln,.sl uS m.ts,i64 m.lg]
def tsL(c:List Pt)(n:Nat):List Int:=(List.range n).map (atS c)
def ztD(p:Pl):Me:=if ∀q∈p.pts,zn q then⟨(zu p).pts,tsL (ze p) ((ze p).length - 1),zK p⟩ else⟨[],[],0⟩
theorem zyf(c:List Pt)(n:Nat):tsL c (n+1)=tsL c n++[atS c n]:=by
 unfold tsL;rw[Qb,XG];rfl
theorem ziR(c:List Pt)(n:Nat):(tsL c n).length=n:=by unfold tsL;simp
variable{c:List Pt}{x:Int}
theorem zhF{n:Nat}(h:(tsL c n)[i]? =some x):x=atS c i:=by
 have hi:i < n:=by have:=(Xc.1 h).1;rwa [ziR]at this
 unfold tsL at h;rw[XC,Qt hi]at h;exact(Xi h).symm
theorem yF(a b:Pt):0<=zP a b/\zP a b < 4294967296:=zhm _
theorem vY(c:List Pt)(n:Nat):0<=atS c n/\atS c n<=4294967296*(n:Int):=by
 induction n with
 | zero=>exact⟨KB 0,by show(0:Int)<=_;decide⟩
 | succ n ih=>
  have:=yF (nth c n) (nth c (n+1));unfold atS;omega
theorem zmu(p:Pl)(hp:p.pts.length<=4096):CG0 185 [.agg (plE p)] [] (.tup [.agg (meE (ztD p)),pr (∀q∈p.pts,zn q)]) []:=by
 refine zdS 2 tok mix Tryz.func185 rfl rfl rfl ?_;intro hl1;refine⟨Nat,λi=>⟨[(1,.loc 0 0),(2,.loc 1 0),(11,.sl ptE p.pts),(12,i64 (p.pts.length:Int)),(13,i64 (i:Int))],[(0,.box 118 [.sl ptE p.pts,pr (p.cl=true)]),(1,.box 205 [.val (.slice none 0 0),.val (.slice none 0 0),i64 0])],2,47,0⟩,λi=>i<=p.pts.length/\∀q∈p.pts.take i,zn q,λi=>p.pts.length - i,0,?_,?_,?_⟩
 ·exact⟨Xe _,λq hq=>by cases hq⟩
 ·exact zf [0,1]
 rintro i ⟨h1,h2⟩
 refine⟨λg=>?_,λg=>?_⟩
 ·have g:(i:Int) < p.pts.length:=g;refine Ob.o ?_;intro x hx;have hx:p.pts[i]? =some x:=hx;refine zb.t (qh x)<|⟨λk=>?_,λk=>?_⟩
  ·have k:¬∀q∈p.pts,zn q:=λh=>k (h x (Xd hx))
   have e:ztD p=⟨[],[],0⟩:=if_neg k;rw[e];exact zI (qF (.cons zD (.cons zD (.cons .refl .nil)))) (zd k)
  ·have k:=Xa.1 k;refine Ar.o<|⟨i+1,⟨oM,λq hq=>?_⟩,zf [0,1],by dsimp only;omega⟩;rw[Xm,hx]at hq
   rcases Xo.1 hq with hq | hq
   ·exact h2 q hq
   ·simp at hq;rw[hq];exact k
 have g:¬(i:Int) < p.pts.length:=g;rw[Xf oM]at h2;have dl:=jx p;have ll:=jM (zu p);refine zb.t (zgy p hp)<|zb.t (zr9 (zu p)) ?_
 refine⟨Pt×Pt,segE,zkB (zu p),2,[(2,.loc 0 0),(7,.loc 1 0)],λj=>[(0,.box 205 [.val (.slice none 0 0),.val (.slice none 0 0),i64 0]),(1,.box 205 [.sl ptE (zu p).pts,.own 2,i64 (atS (ze p) j)]),(2,.arr 3 uS 1 (tsL (ze p) j))],λ_=>3,zz8 (zu p) oM,λ_=>rfl,⟨rfl,rfl,rfl,rfl⟩,
  zE [(0,some 1),(1,some 3),(2,none)],⟨Xe _,rfl⟩,λj=>?_,?_,?_⟩
 ·intro k m hm;simp only[Kc,Kx,or_false,K9]at hm
  rcases hm with⟨_,rfl⟩ | ⟨_,rfl⟩ | ⟨_,rfl⟩
  ·rfl
  ·rfl
  ·trivial
 ·intro j y hy;have hj:j < (ze p).length - 1:=by have:=(Xc.1 hy).1;rwa [zgD]at this
  have hy:y=(nth (ze p) j,nth (ze p) (j+1)):=by rw[zn7 hj]at hy;exact(Xi hy).symm
  have hat:=vY (ze p) j;have hpc:=yF y.1 y.2;have e1:=ziR (ze p) j;have ll':(ze p).length<=4097:=by rw[yP];omega
  refine⟨Int,uS,[atS (ze p) j],rfl,Ob.o0 ?_⟩;refine⟨[atS (ze p) j],rfl,Ob.mk ⟨(by show _*(8:Int)<=_;simp only[Xl,Xs];omega),(by simp only[Xl,Xs];omega),dC,λ_ _=>rfl⟩ ?_⟩;refine Dr.d<|zb.t (p_sub y.2 y.1)<|zb.t (zxi (zcE y.2 y.1)) ?_;unfold zP at hpc;refine Ar.o<|Ob.mk (by kernel_rfl)<|zC [0,1,6] ⟨rfl,congrArg (λq=>some (Mem.box 205 [.sl ptE (zu p).pts,.own 6,i64 q])) ?_,congrArg (λq=>some (Mem.arr 3 uS 1 q)) (zyf _ _).symm,trivial⟩;rw[hy];rfl
 ·have e:ztD p=⟨(zu p).pts,tsL (ze p) ((ze p).length - 1),zK p⟩:=if_pos h2;rw[e];have e2:=zgD (zu p);rw[← yP]at e2;refine zI (qF (.cons .refl (.cons (z9 ?_) (.cons (zj ?_) .nil)))) (zR h2)
  ·rw[e2]
  ·rw[e2];rfl
theorem zqp(pen:Pen)(t:Nat):phD pen t=((t:Int)+256*pen.ph) % qL pen.d:=by unfold phD;exact(Int.add_emod ..).symm
theorem zdZ{d:List Int}(h:∀n∈d,0<=n)(hi:i<=d.length):0<=qG d i/\qG d i<=qL d:=by
 have h1:=zht h (Xe i);have h2:=zht h hi;rw[ux]at h1;rw[yO]at h2;exact⟨h1,h2⟩
variable{pen:Pen}{a:Nat}{e:Int}{lft:Int}
theorem ph_at{t:Nat}(hn:∀n∈pen.d,0<=n) (he:pen.d[i]? =some e) (hl:lft<=256*e)
  (hc:qL pen.d ∣ qG pen.d (i+1) - lft - ((a:Int)+256*pen.ph)) (h1:a<=t) (h2:(t:Int) - a < lft):phD pen t=qG pen.d (i+1) - lft+((t:Int) - a):=by
 have hi:i < pen.d.length:=(Xc.1 he).1;have hp:=zdZ hn (show i<=pen.d.length by omega);have hq:=zdZ hn (show i+1<=pen.d.length by omega);have hs:=yB he;obtain⟨q,hq'⟩:=hc;rw[zqp];have e1:(t:Int)+256*pen.ph=(qG pen.d (i+1) - lft+((t:Int) - a))+qL pen.d*(-q):=by rw[QJ];omega
 rw[e1,Int.add_mul_emod_self_left];exact Int.emod_eq_of_lt oM oM
theorem zBm{t:Nat}(hn:∀n∈pen.d,0<=n) (he:pen.d[i]? =some e) (hl:lft<=256*e)
  (hc:qL pen.d ∣ qG pen.d (i+1) - lft - ((a:Int)+256*pen.ph)) (h1:a<=t) (h2:(t:Int) - a < lft):onD pen t↔i % 2=0:=by
 have hs:=yB he;unfold onD;rw[ph_at hn he hl hc h1 h2,zey hn he oM oM];show(0+i) % 2=0↔_;rw[X6]
theorem zz9{b:Nat}{e':Int}(hi:i < pen.d.length) (he':pen.d[(i+1) % pen.d.length]? =some e')
  (hc:qL pen.d ∣ qG pen.d (i+1) - lft - ((a:Int)+256*pen.ph)) (hb:(b:Int)=a+lft):
  qL pen.d ∣ qG pen.d ((i+1) % pen.d.length+1) - 256*e' - ((b:Int)+256*pen.ph):=by
 rw[yB he']
 by_cases h:i+1 < pen.d.length
 ·rw[Xu h]
  rwa [show qG pen.d (i+1)+256*e' - 256*e' - ((b:Int)+256*pen.ph)=qG pen.d (i+1) - lft - ((a:Int)+256*pen.ph) by omega]
 ·have hl:i+1=pen.d.length:=by omega
  rw[hl,J9,ux];rw[hl,yO]at hc;rw[show(0:Int)+256*e' - 256*e' - ((b:Int)+256*pen.ph)=(qL pen.d - lft - ((a:Int)+256*pen.ph)) - qL pen.d by omega];exact Int.dvd_sub hc (Int.dvd_refl _)
def ve(r:Nat)(d:List Int)(n:Nat):Int:=((List.range n).map λi=>if i % 2=r then d.getD i 0 else 0).sum
theorem zmv(r:Nat)(d:List Int)(n:Nat):ve r d (n+1)=ve r d n+if n % 2=r then d.getD n 0 else 0:=by
 unfold ve;rw[Qb,XG,JA];simp
theorem zeD{r:Nat}{d:List Int}{n:Nat}(hx:d[n]? =some x)(h:n % 2=r):ve r d (n+1)=ve r d n+x:=by
 rw[zmv,if_pos h,Xt,hx];rfl
theorem zhG{r:Nat}{d:List Int}{n:Nat}(h:¬n % 2=r):ve r d (n+1)=ve r d n:=by
 rw[zmv,if_neg h,Int.add_zero]
theorem zbD(d:List Int):∀n,n<=d.length->256*(ve 0 d n+ve 1 d n)=qG d n
 | 0,_=>rfl
 | n+1,h=>by
  have ih:=zbD d n oM;have hx:d[n]? =some d[n]:=Xb oM;rw[yB hx]
  rcases JN n with k | k
  ·rw[zeD hx k,zhG (r:=1) oM];omega
  ·rw[zeD hx k,zhG (r:=0) oM];omega
theorem zd0(d:List Int):drawn d=256*ve 0 d d.length:=rfl
theorem yn{r:Nat}{d:List Int}(h:∀n∈d,0<=n):∀n,n<=d.length->0<=ve r d n
 | 0,_=>KB 0
 | n+1,hn=>by
  have ih:=yn (r:=r) h n oM;have hx:d[n]? =some d[n]:=Xb oM;have:=h d[n] (KO _)
  by_cases k:n % 2=r
  ·rw[zeD hx k];omega
  ·rw[zhG k];exact ih
theorem yo{d:List Int}(h:uI d):(∀n∈d,0<=n)/\(∀n∈d,n<=1048576)/\d.length<=16/\qL d<=4294967296:=by
 have h2:∀n∈d,n<=1048576:=λn hn=>(h.1 n hn).2
 have h3:d.length<=16:=by have:=h.2.2.2;omega
 have:=zxA h2;exact⟨λn hn=>(h.1 n hn).1,h2,h3,by unfold qL;omega⟩
def frI:Option Nat->Int
 | none=> -1
 | some f=>f
theorem zn8{o:Option Nat}(h:frI o < 0):o=none:=by
 cases o with
 | none=>rfl
 | some f=>have h:(f:Int) < 0:=h;omega
theorem zn9{o:Option Nat}(h:¬frI o < 0):∃f,o=some f/\frI o=f:=by
 cases o with
 | none=>exact absurd (show(-1:Int) < 0 by decide) h
 | some f=>exact⟨f,rfl,rfl⟩
theorem zvi(pen:Pen)(hk:kI pen)(hper:0 < qL pen.d):CG0 247 [.agg (jo pen),i64 0] [] (.tup [i64 ((qW pen.d (phD pen 0) 0).1:Int),i64 (qW pen.d (phD pen 0) 0).2]) []:=by
 refine zc Tryz.func247 ?_;obtain⟨d1,d2,d3,d4⟩:=yo hk.2.2.2.2.1;have hph:=hk.2.2.2.2.2;intro hl1;refine⟨Nat,λi=>⟨[(1,i64 0),(2,.loc 0 0),(6,i64 (qG pen.d i)),(13,.sl uS pen.d),(14,i64 (pen.d.length:Int)),(15,i64 (i:Int))],[(0,.box 50 (jo pen))],1,57,0⟩,λi=>i<=pen.d.length,λi=>pen.d.length - i,0,?_,?_,?_⟩
 ·exact Xe _
 ·exact zf [0]
 rintro i hi
 have hpi:=zdZ d1 hi;refine⟨λg=>?_,λg=>?_⟩
 ·have g:(i:Int) < pen.d.length:=g;refine Ob.o ?_;intro x hx;have hx:pen.d[i]? =some x:=hx;have hx1:=d1 x (Xd hx);have hx2:=d2 x (Xd hx);(iterate 3 refine Ar.o ?_);exact⟨i+1,oM,zL [0] ⟨rfl,rfl,congrArg (λq=>some (i64 q)) (yB hx).symm,rfl,rfl,rfl,trivial⟩ ⟨rfl,trivial⟩,by dsimp only;omega⟩
 have g:¬(i:Int) < pen.d.length:=g;have ei:i=pen.d.length:=oM;have eP:qG pen.d i=qL pen.d:=by rw[ei,yO]
 have m1:=Kv (256*pen.ph) (show qG pen.d i≠0 by omega);have m2:=X8 (256*pen.ph) (show 0 < qG pen.d i by omega);have m3:(0:Int) % qG pen.d i=0:=Int.zero_emod _;have m4:=Kv (0 % qG pen.d i+256*pen.ph % qG pen.d i) (show qG pen.d i≠0 by omega);have m5:=X8 (0 % qG pen.d i+256*pen.ph % qG pen.d i) (show 0 < qG pen.d i by omega);refine Dr.k<|Dv.pos ⟨oM,oM⟩<|Ar.o<|Dv.pos ⟨oM,oM⟩<|Ar.o<|Dv.pos ⟨oM,oM⟩ ?_
 have ek:phD pen 0=(0 % qG pen.d i+256*pen.ph % qG pen.d i) % qG pen.d i:=by rw[eP];rfl
 rw[← ek]at m4 m5;intro hl2;refine⟨Nat,λi=>⟨[(9,i64 (phD pen 0 - qG pen.d i)),(36,.sl uS pen.d),(37,i64 (pen.d.length:Int)),(38,i64 (i:Int))],[],0,57,0⟩,λi=>i<=pen.d.length/\qG pen.d i<=phD pen 0,λi=>pen.d.length - i,0,?_,?_,?_⟩
 ·exact⟨Xe _,by rw[ux];exact m4⟩
 ·exact jL [] ⟨congrArg (λq=>some (i64 q)) (by rw[ux,Int.sub_zero];exact ek.symm),rfl,rfl,rfl,trivial⟩ trivial
 rw[eP]at m5
 rintro i ⟨hi,hle⟩
 have hpi:=zdZ d1 hi;refine⟨λg=>?_,λg=>?_⟩
 ·have g:(i:Int) < pen.d.length:=g;refine Ob.o ?_;intro x hx;have hx:pen.d[i]? =some x:=hx;have hx1:=d1 x (Xd hx);have hx2:=d2 x (Xd hx);have hs:=yB hx;refine Ar.o<|Br.mk (λc=>?_) (λc=>?_)
  ·have c:phD pen 0 - qG pen.d i < 256*x:=c;have hp:=zey (i0:=0) d1 hx hle oM;(iterate 2 refine Ar.o ?_);refine zI (zj ?_) (zj ?_)
   ·rw[hp];show(i:Int)=((0+i:Nat):Int);omega
   ·rw[hp];dsimp only;omega
  ·have c:¬phD pen 0 - qG pen.d i < 256*x:=c;(iterate 3 refine Ar.o ?_);exact⟨i+1,⟨oM,oM⟩,jL [] ⟨congrArg (λq=>some (i64 q)) (by rw[hs];omega),rfl,rfl,rfl,trivial⟩ trivial,by dsimp only;omega⟩
 ·have g:¬(i:Int) < pen.d.length:=g;have:qG pen.d i=qL pen.d:=by rw[show i=pen.d.length by omega,yO]
  omega
def runE(q:Nat×Nat):List SV:=[i64 (q.1:Int),i64 (q.2:Int)]
theorem zAa{pen:Pen}{long:Int}(h1:kI pen)(h2:¬long < 1)(h3:¬ve 1 pen.d pen.d.length=0)(h4:¬ve 0 pen.d pen.d.length=0):kU pen long=kg (onD pen) long.toNat:=by
 have hs:=zbD pen.d pen.d.length (Xh _);rw[yO]at hs;have hd:=zd0 pen.d;unfold kU;rw[if_neg (λh=>by rcases h with h | h | h;exact h h1;exact h2 h;omega),if_neg oM]
theorem zsa{pen:Pen}{long:Int}(h1:kI pen)(h2:¬long < 1)(h3:ve 1 pen.d pen.d.length=0):kU pen long=[(0,long.toNat)]:=by
 have hs:=zbD pen.d pen.d.length (Xh _);rw[yO]at hs;have hd:=zd0 pen.d;unfold kU;rw[if_neg (λh=>by rcases h with h | h | h;exact h h1;exact h2 h;omega),if_pos oM]
theorem zvj{pen:Pen}{long:Int}(h1:kI pen)(h2:¬long < 1)(h3:¬ve 1 pen.d pen.d.length=0)(h4:ve 0 pen.d pen.d.length=0)(h5:∀n∈pen.d,0<=n):kU pen long=[]:=by
 have hs:=zbD pen.d pen.d.length (Xh _);rw[yO]at hs;have hd:=zd0 pen.d;have hp:=yn (r:=1) h5 pen.d.length (Xh _);unfold kU;rw[if_pos (.inr (.inr ⟨oM,oM⟩))]
variable{long:Int}
theorem zqq(h:¬kI pen∨long < 1):kU pen long=[]:=by
 unfold kU;rw[if_pos (by rcases h with h | h;exact .inl h;exact .inr (.inl h))]
structure Wk where
 a:Nat
 i:Nat
 l:Int
def okW(pen:Pen)(long:Int)(s:Wk):Prop:=
 (s.a:Int)<=long/\s.i < pen.d.length/\0<=s.l/\(∃e,pen.d[s.i]? =some e/\s.l<=256*e)/\((s.a:Int) < long->qL pen.d ∣ qG pen.d (s.i+1) - s.l - ((s.a:Int)+256*pen.ph))
def jC(pen:Pen)(long:Int)(s:Wk):Wk:=⟨s.a+(min s.l (long - s.a)).toNat,(s.i+1) % pen.d.length,256*pen.d.getD ((s.i+1) % pen.d.length) 0⟩
def muW(pen:Pen)(long:Int)(j:Nat)(s:Wk):Nat:=(long.toNat - s.a)*(pen.d.length+2)+if s.l=0 then 1+(j+pen.d.length - 1 - s.i) % pen.d.length else 0
theorem zAb{s:Wk}(hd:uI pen.d)(h:okW pen long s)(hlt:(s.a:Int) < long):okW pen long (jC pen long s):=by
 obtain⟨h1,h2,h3,⟨e,h4,h5⟩,h6⟩:=h;obtain⟨d1,d2,d3,d4⟩:=yo hd;have hm:(s.i+1) % pen.d.length < pen.d.length:=Kn _ oM
 have hx:pen.d[(s.i+1) % pen.d.length]? =some (pen.d.getD ((s.i+1) % pen.d.length) 0):=by
  rw[Xt,Xb hm];rfl
 have hx1:=d1 _ (Xd hx);refine⟨by unfold jC;dsimp only;omega,hm,by unfold jC;dsimp only;omega,⟨_,hx,KB _⟩,λhl=>?_⟩;unfold jC at hl ⊢;dsimp only at hl ⊢;exact zz9 h2 hx (h6 hlt) oM
theorem zAc{s:Wk}{j:Nat}(hd:uI pen.d)(h:okW pen long s)(hlt:(s.a:Int) < long)(hj:∃x,pen.d[j]? =some x/\0 < x):muW pen long j (jC pen long s) < muW pen long j s:=by
 obtain⟨h1,h2,h3,⟨e,h4,h5⟩,h6⟩:=h;obtain⟨x,hx,hx0⟩:=hj;have hjl:j < pen.d.length:=(Xc.1 hx).1;unfold muW jC;dsimp only
 by_cases z:s.l=0
 ·rw[if_pos z];have e0:(min s.l (long - s.a)).toNat=0:=oM;rw[e0,XP];refine Nat.add_lt_add_left ?_ _
  split
  ·rename_i hz
   -- the next is none of the entries that are more than zero
   have hne:(s.i+1) % pen.d.length≠j:=λhe=>by
    rw[he,Xt,hx]at hz;have hz:256*x=0:=hz;omega
   have key:(j+pen.d.length - 1 - (s.i+1) % pen.d.length) % pen.d.length+1=(j+pen.d.length - 1 - s.i) % pen.d.length:=by
    by_cases c:s.i+1 < pen.d.length
    ·rw[Xu c]at hne ⊢
     by_cases c2:s.i < j
     ·rw[show j+pen.d.length - 1 - (s.i+1)=(j - 1 - (s.i+1))+pen.d.length by omega,show j+pen.d.length - 1 - s.i=(j - 1 - s.i)+pen.d.length by omega,JU,JU,Xu oM,Xu oM];omega
     ·rw[Xu oM,Xu oM];omega
    ·have hl:s.i+1=pen.d.length:=by omega
     rw[hl,J9]at hne ⊢;rw[show j+pen.d.length - 1 - 0=(j - 1)+pen.d.length by omega,JU,Xu (show j - 1 < pen.d.length by omega),Xu (show j+pen.d.length - 1 - s.i < pen.d.length by omega)];omega
   omega
  ·omega
 ·rw[if_neg z];have hm:(j+pen.d.length - 1 - (s.i+1) % pen.d.length) % pen.d.length < pen.d.length:=Kn _ oM;have e1:long.toNat - s.a=(long.toNat - (s.a+(min s.l (long - s.a)).toNat))+(min s.l (long - s.a)).toNat:=oM;have e2:1<=(min s.l (long - s.a)).toNat:=oM;have e3:1*(pen.d.length+2)<=(min s.l (long - s.a)).toNat*(pen.d.length+2):=Xp _ e2;rw[e1,XY]
  split <;> omega
theorem zyg{s:Wk}(hd:uI pen.d)(h:okW pen long s)(hlt:(s.a:Int) < long)(hm:¬min s.l (long - s.a)=0):
  (s.i % 2=0->z8 (onD pen) (jC pen long s).a=((z8 (onD pen) s.a).1,some ((z8 (onD pen) s.a).2.getD s.a)))/\(¬s.i % 2=0->z8 (onD pen) (jC pen long s).a=(kg (onD pen) s.a,none)):=by
 obtain⟨h1,h2,h3,⟨e,h4,h5⟩,h6⟩:=h;obtain⟨d1,d2,d3,d4⟩:=yo hd
 have on:∀t,s.a<=t->t < (jC pen long s).a->(onD pen t↔s.i % 2=0):=λt ht ht2=>by
  unfold jC at ht2;dsimp only at ht2;exact zBm d1 h4 h5 (h6 hlt) ht oM
 have hab:s.a < (jC pen long s).a:=by unfold jC;dsimp only;omega
 exact⟨λk=>zxB hab λt a b=>(on t a b).2 k,λk=>ztp hab λt a b c=>k ((on t a b).1 c)⟩
theorem zAd(pen:Pen)(long:Int)(hlong:long<=70368744177664):zmg Tryz.prog 246 [.dptr (jo pen),.dptr [i64 long]] runE (kU pen long):=by
 refine znU (caps:=[.dptr (jo pen),.dptr [i64 long]]) (enc:=runE) (xs:=kU pen long) tok mix Tryz.func246 rfl rfl rfl rfl (λl=>?_);have bad:¬kI pen∨long < 1->0=(kU pen long).length:=λh=>by rw[zqq h];rfl
 refine zb.t (zeu pen)<|⟨λk=>.inr (bad (.inl k)),λk=>?_⟩;have hk:kI pen:=Xa.1 k;refine⟨λk2=>.inr (bad (.inr (by have k2:long<=0:=k2;omega))),λk2=>?_⟩;have k2:¬long<=0:=k2;have hd:=hk.2.2.2.2.1;obtain⟨d1,d2,d3,d4⟩:=yo hd;intro hl1
 refine⟨Nat,λi=>⟨[(0,.val (.func (.yield l) #[] #[])),(1,.dptr (jo pen)),(2,.dptr [i64 long]),(4,.loc 0 0),(20,.sl uS pen.d),(21,i64 (pen.d.length:Int)),(22,i64 (i:Int))],[(0,.box 33 [i64 (ve 0 pen.d i),i64 (ve 1 pen.d i)])],1,103,0⟩,λ_=>0,λi=>i<=pen.d.length,λi=>pen.d.length - i,0,?_,?_,rfl,rfl,?_⟩
 ·exact Xe _
 ·exact zf [0]
 rintro i hi
 have hs:=zbD pen.d i hi;have hpi:=zdZ d1 hi;have p0:=yn (r:=0) d1 i hi;have p1:=yn (r:=1) d1 i hi;refine⟨λg=>?_,λg=>?_⟩
 ·have g:(i:Int) < pen.d.length:=g;refine Ob.o ?_;intro x hx;have hx:pen.d[i]? =some x:=hx;have hx1:=d1 x (Xd hx);have hx2:=d2 x (Xd hx);refine Dv.pos ⟨oM,dC⟩ ?_
  rcases JN i with h | h
  ·rw[show(i:Int) % 2=0 by omega];(iterate 2 refine Ar.o ?_);exact⟨i+1,oM,zC [0] ⟨(show some (Mem.box 33 [i64 (ve 0 pen.d i+x),i64 (ve 1 pen.d i)])=some (Mem.box 33 [i64 (ve 0 pen.d (i+1)),i64 (ve 1 pen.d (i+1))]) by rw[zeD hx h,zhG (r:=1) oM]),trivial⟩,rfl,rfl,by dsimp only;omega⟩
  ·rw[show(i:Int) % 2=1 by omega];(iterate 2 refine Ar.o ?_);exact⟨i+1,oM,zC [0] ⟨(show some (Mem.box 33 [i64 (ve 0 pen.d i),i64 (ve 1 pen.d i+x)])=some (Mem.box 33 [i64 (ve 0 pen.d (i+1)),i64 (ve 1 pen.d (i+1))]) by rw[zeD hx h,zhG (r:=0) oM]),trivial⟩,rfl,rfl,by dsimp only;omega⟩
 have g:¬(i:Int) < pen.d.length:=g;have ei:i=pen.d.length:=oM;refine⟨λq1=>?_,λq1=>?_⟩
 ·have q1:ve 1 pen.d i=0:=q1;rw[ei]at q1;have e:=zsa (long:=long) hk oM q1;refine⟨rfl,(0,long.toNat),by rw[e];rfl,rfl,.cons .refl (.cons (zj (show long=((long.toNat:Nat):Int) by omega)) .nil),(λk m h=>?_),?_⟩
  ·cases h with
   | head=>rfl
   | tail _ h=>cases h
  ·exact⟨.inr (by rw[e];rfl),.inl rfl⟩
 have q1:¬ve 1 pen.d i=0:=q1;rw[ei]at q1;refine⟨λq0=>?_,λq0=>?_⟩
 ·have q0:ve 0 pen.d i=0:=q0;rw[ei]at q0;exact .inr (by rw[zvj (long:=long) hk oM q1 q0 d1];rfl)
 have q0:¬ve 0 pen.d i=0:=q0;rw[ei]at q0 hs p0 p1;rw[yO]at hs;have eR:=zAa (long:=long) hk oM q1 q0;have hper:0 < qL pen.d:=oM
 obtain⟨j,y,hj,hy⟩:∃(j:Nat) (y:Int),pen.d[j]? =some y/\0 < y:=by
  have hn:=hd.2.1.resolve_left λh=>q1 (by rw[h];rfl)
  obtain⟨n,hn,h0⟩:=hn;obtain⟨j,hj,he⟩:=Ka hn;exact⟨j,n,by rw[Xb hj,he],h0⟩
 refine zb.t (zvi pen hk hper) ?_
 -- where it begins
 have k0:=Kv ((0:Nat)+256*pen.ph) (show qL pen.d≠0 by omega);have k1:=X8 ((0:Nat)+256*pen.ph) hper;rw[← zqp pen 0]at k0 k1;obtain⟨i0,e0,g1,g2,g3⟩:=znO d1 k0 k1;have gp:=zey (i0:=0) d1 g1 g2 g3;rw[X6]at gp;have gs:=yB g1
 have ok0:okW pen long ⟨0,i0,qG pen.d i0+256*e0 - phD pen (0:Nat)⟩:=by
  refine⟨by dsimp only;omega,(Xc.1 g1).1,by dsimp only;omega,⟨e0,g1,by dsimp only;omega⟩,λ_=>?_⟩;dsimp only;rw[show qG pen.d (i0+1) - (qG pen.d i0+256*e0 - phD pen (0:Nat)) - (((0:Nat):Int)+256*pen.ph)=phD pen (0:Nat) - (((0:Nat):Int)+256*pen.ph) by omega,zqp];have:=Yf (((0:Nat):Int)+256*pen.ph) (qL pen.d);exact⟨-((((0:Nat):Int)+256*pen.ph) / qL pen.d),by rw[QJ];omega⟩
 have gp:qW pen.d (phD pen 0) 0=(i0,qG pen.d i0+256*e0 - phD pen (0:Nat)):=gp;refine⟨Wk,λs=>⟨[(0,.val (.func (.yield l) #[] #[])),(1,.dptr (jo pen)),(2,.dptr [i64 long]),(7,i64 (frI (z8 (onD pen) s.a).2)),(8,i64 (s.i:Int)),(9,i64 s.l),(10,i64 (s.a:Int))],[],0,103,0⟩,λs=>(z8 (onD pen) s.a).1.length,okW pen long,muW pen long j,⟨0,i0,qG pen.d i0+256*e0 - phD pen (0:Nat)⟩,ok0,?_,rfl,rfl,?_⟩
 ·exact jL [] ⟨rfl,rfl,rfl,rfl,congrArg (λq=>some (i64 q)) (by rw[gp]),congrArg (λq=>some (i64 q)) (by rw[gp]),rfl,trivial⟩ trivial
 rintro s hs0
 obtain⟨h1,h2,h3,⟨e,h4,h5⟩,h6⟩:=id hs0;have hpl:=zdZ d1 (show s.i<=pen.d.length by omega);have he2:=d2 e (Xd h4);refine⟨λc=>?_,λc=>?_⟩;rotate_left
 ·have c:¬(s.a:Int) < long:=c;have ea:s.a=long.toNat:=oM;have eF:kU pen long=(z8 (onD pen) s.a).1++((z8 (onD pen) s.a).2.map λf=>(f,s.a)).toList:=by rw[eR,← ea];rfl
  refine⟨λf=>?_,λf=>?_⟩
  ·have f:0<=frI (z8 (onD pen) s.a).2:=f;obtain⟨q,hq,hq2⟩:=zn9 (show ¬frI (z8 (onD pen) s.a).2 < 0 by omega);rw[hq]at eF;refine⟨rfl,(q,s.a),by rw[eF];exact Qd ..,rfl,.cons (zj hq2) (.cons (zj (show long=((s.a:Nat):Int) by omega)) .nil),(λ_ _ h=>by cases h),?_⟩;exact⟨.inr (by rw[eF,Xj];rfl),.inl rfl⟩
  ·have f:¬0<=frI (z8 (onD pen) s.a).2:=f;rw[zn8 (show frI (z8 (onD pen) s.a).2 < 0 by omega)]at eF;exact .inr (by rw[eF];exact(congrArg List.length (Xy _)).symm)
 have c:(s.a:Int) < long:=c;have nok:=zAb hd hs0 c;have nmu:=zAc hd hs0 c ⟨y,hj,hy⟩;have nrun:=zyg hd hs0 c;have na:((jC pen long s).a:Int)=s.a+min s.l (long - s.a):=by unfold jC;dsimp only;omega
 have ni:(((jC pen long s).i:Nat):Int)=((s.i:Int)+1) % pen.d.length:=by unfold jC;dsimp only;exact Jo ..
 have m3:=Kv ((s.i:Int)+1) (show(pen.d.length:Int)≠0 by omega);have m4:=X8 ((s.i:Int)+1) (show 0 < (pen.d.length:Int) by omega)
 have e2:(((s.i:Int)+1) % pen.d.length).toNat=(s.i+1) % pen.d.length:=by
  rw[show(s.i:Int)+1=((s.i+1:Nat):Int) by omega];omega
 have tailX:∀x,pen.d[(((s.i:Int)+1) % pen.d.length).toNat]? =some x->(0<=x/\x<=1048576)/\(jC pen long s).l=256*x:=λx hx=>by
  refine⟨⟨d1 x (Xd hx),d2 x (Xd hx)⟩,?_⟩;rw[e2]at hx;unfold jC;dsimp only;rw[Xt,hx];rfl
 have hmin:zbJ s.l [long - (s.a:Int)]=min s.l (long - s.a):=rfl;refine Ar.o<|Br.mk (λz=>?_) (λz=>?_)
 ·have z:min s.l (long - s.a)=0:=z;have ea:(jC pen long s).a=s.a:=oM;(iterate 2 refine Ar.o ?_);intro hl2;refine Dv.pos ⟨oM,oM⟩<|Ob.mk ⟨m3,m4⟩ ?_;intro x hx;obtain⟨hx1,hx2⟩:=tailX x hx;exact Ar.o<|⟨jC pen long s,nok,jL [] ⟨rfl,rfl,rfl,congrArg (λq=>some (i64 (frI (z8 (onD pen) q).2))) ea.symm,congrArg (λq=>some (i64 q)) ni.symm,congrArg (λq=>some (i64 q)) hx2.symm,congrArg (λq=>some (i64 q)) na.symm,trivial⟩ trivial,congrArg (λq=>(z8 (onD pen) q).1.length) ea.symm,rfl,nmu⟩
 have z:¬min s.l (long - s.a)=0:=z;obtain⟨rOn,rOff⟩:=nrun z;have rF:=zxC (on:=onD pen) (show(jC pen long s).a<=long.toNat by have:=nok.1;omega);rw[← eR]at rF;refine Dv.pos ⟨oM,dC⟩<|⟨λev=>?_,λev=>?_⟩
 ·have ev:s.i % 2=0:=by have ev:(s.i:Int) % 2=0:=ev;omega
  have rOn:=rOn ev;have cnt:(z8 (onD pen) s.a).1.length=(z8 (onD pen) (jC pen long s).a).1.length:=by rw[rOn]
  refine⟨λf=>?_,λf=>?_⟩
  ·have f:frI (z8 (onD pen) s.a).2 < 0:=f;have hfr:(s.a:Int)=frI (z8 (onD pen) (jC pen long s).a).2:=by rw[rOn,zn8 f];rfl
   (iterate 2 refine Ar.o ?_);intro hl2;refine Dv.pos ⟨oM,oM⟩<|Ob.mk ⟨m3,m4⟩ ?_;intro x hx;obtain⟨hx1,hx2⟩:=tailX x hx;exact Ar.o<|⟨jC pen long s,nok,jL [] ⟨rfl,rfl,rfl,congrArg (λq=>some (i64 q)) hfr,congrArg (λq=>some (i64 q)) ni.symm,congrArg (λq=>some (i64 q)) hx2.symm,congrArg (λq=>some (i64 q)) na.symm,trivial⟩ trivial,cnt,rfl,nmu⟩
  ·have f:¬frI (z8 (onD pen) s.a).2 < 0:=f;obtain⟨q,hq,hq2⟩:=zn9 f;have hfr:frI (z8 (onD pen) s.a).2=frI (z8 (onD pen) (jC pen long s).a).2:=by rw[rOn,hq];rfl
   refine Dv.pos ⟨oM,dC⟩<|⟨λod=>absurd (show(s.i:Int) % 2=1 from od) oM,λ_=>?_⟩;(iterate 2 refine Ar.o ?_);intro hl2;refine Dv.pos ⟨oM,oM⟩<|Ob.mk ⟨m3,m4⟩ ?_;intro x hx;obtain⟨hx1,hx2⟩:=tailX x hx;exact Ar.o<|⟨jC pen long s,nok,jL [] ⟨rfl,rfl,rfl,congrArg (λq=>some (i64 q)) hfr,congrArg (λq=>some (i64 q)) ni.symm,congrArg (λq=>some (i64 q)) hx2.symm,congrArg (λq=>some (i64 q)) na.symm,trivial⟩ trivial,cnt,rfl,nmu⟩
 have ev:¬s.i % 2=0:=by have ev:¬(s.i:Int) % 2=0:=ev;omega
 have rOff:=rOff ev;refine Dv.pos ⟨oM,dC⟩<|⟨λ_=>?_,λod=>absurd (show(s.i:Int) % 2=1 by omega) od⟩;refine⟨λf=>?_,λf=>?_⟩
 ·have f:0<=frI (z8 (onD pen) s.a).2:=f;obtain⟨q,hq,hq2⟩:=zn9 (show ¬frI (z8 (onD pen) s.a).2 < 0 by omega);have eA:(z8 (onD pen) (jC pen long s).a).1=(z8 (onD pen) s.a).1++[(q,s.a)]:=by rw[rOff];unfold kg;rw[hq];rfl
  obtain⟨r,hr⟩:=rF;rw[eA]at hr;refine⟨rfl,(q,s.a),?_,rfl,.cons (zj hq2) (.cons .refl .nil),(λ_ _ h=>by cases h),?_⟩
  ·show(kU pen long)[(z8 (onD pen) s.a).1.length]? =some (q,s.a);rw[hr,XK,XA (Xh _),JG];rfl
  refine Br.mk ?_ (.inl rfl);have hfr:(-1:Int)=frI (z8 (onD pen) (jC pen long s).a).2:=by rw[rOff];rfl
  have cnt:(z8 (onD pen) s.a).1.length+1=(z8 (onD pen) (jC pen long s).a).1.length:=by rw[eA,Xj];rfl
  (iterate 2 refine Ar.o ?_);intro hl2;refine Dv.pos ⟨oM,oM⟩<|Ob.mk ⟨m3,m4⟩ ?_;intro x hx;obtain⟨hx1,hx2⟩:=tailX x hx;exact Ar.o<|⟨jC pen long s,nok,jL [] ⟨rfl,rfl,rfl,congrArg (λq=>some (i64 q)) hfr,congrArg (λq=>some (i64 q)) ni.symm,congrArg (λq=>some (i64 q)) hx2.symm,congrArg (λq=>some (i64 q)) na.symm,trivial⟩ trivial,cnt,rfl,nmu⟩
 ·have f:¬0<=frI (z8 (onD pen) s.a).2:=f;have hq:=zn8 (show frI (z8 (onD pen) s.a).2 < 0 by omega);have hfr:frI (z8 (onD pen) s.a).2=frI (z8 (onD pen) (jC pen long s).a).2:=by rw[rOff,hq]
  have cnt:(z8 (onD pen) s.a).1.length=(z8 (onD pen) (jC pen long s).a).1.length:=by rw[rOff];unfold kg;rw[hq];exact(congrArg List.length (Xy _)).symm
  (iterate 2 refine Ar.o ?_);intro hl2;refine Dv.pos ⟨oM,oM⟩<|Ob.mk ⟨m3,m4⟩ ?_;intro x hx;obtain⟨hx1,hx2⟩:=tailX x hx;exact Ar.o<|⟨jC pen long s,nok,jL [] ⟨rfl,rfl,rfl,congrArg (λq=>some (i64 q)) hfr,congrArg (λq=>some (i64 q)) ni.symm,congrArg (λq=>some (i64 q)) hx2.symm,congrArg (λq=>some (i64 q)) na.symm,trivial⟩ trivial,cnt,rfl,nmu⟩
theorem p_on(pen:Pen)(long:Int):CG0 187 [.agg (jo pen),i64 long] [] (.dfn 246 [.dptr (jo pen),.dptr [i64 long]]) []:=by
 exact zcM 2 tok mix Tryz.func187 rfl rfl rfl<|.refl
theorem zkC(h:¬x < atS c i):zki c x i=i:=by
 cases i with
 | zero=>rfl
 | succ i=>unfold zki;rw[if_neg h]
theorem zyh(h:x < atS c (i+1)):zki c x (i+1)=zki c x i:=by
 show(if x < atS c (i+1) then zki c x i else i+1)=_;rw[if_pos h]
theorem zyi(h2:2<=(zZ q).length)(hi:i<=(zZ q).length - 2):nth q.pts ((i+1) % q.pts.length)=nth (zZ q) (i+1):=by
 by_cases h:q.cl=true/\2<=q.pts.length
 ·have hl:=zcS h.1 h.2
  by_cases e:i+1=q.pts.length
  ·rw[e,J9,zqo h.1 h.2]
  ·rw[Xu oM,zbh oM]
 ·have hl:=zbC h;rw[Xu oM,zbh oM]
def meQ(q:Pl):Me:=⟨q.pts,tsL (zZ q) ((zZ q).length - 1),atS (zZ q) ((zZ q).length - 1)⟩
theorem zAe{p:Pl}(h:∀q∈p.pts,zn q):ztD p=meQ (zu p):=if_pos h
theorem ztE(q:Pl)(x:Int)(hq:q.pts.length<=4096)(h2:2<=(zZ q).length)(hx:0<=x/\x<=70368744177664):CG0 248 [.agg (meE (meQ q)),i64 x] [] (.agg (ptE (zda (zZ q) x))) []:=by
 refine zc Tryz.func248 ?_;have ll:=jM q;have tl:(meQ q).ts.length=(zZ q).length - 1:=ziR ..;intro hl1;refine Ar.o<|⟨Nat,λi=>⟨[(1,i64 x),(2,.loc 0 0),(4,.loc 1 0),(5,i64 (i:Int))],[(0,.box 205 (meE (meQ q))),(1,.box 35 [i64 0,i64 0])],2,68,0⟩,λi=>i<=(zZ q).length - 2/\zki (zZ q) x ((zZ q).length - 2)=zki (zZ q) x i,λi=>i,(zZ q).length - 2,?_,?_,?_⟩
 ·exact⟨Xh _,rfl⟩
 ·exact zL [0,1] ⟨rfl,rfl,rfl,congrArg (λq=>some (i64 q)) (by rw[tl];omega),trivial⟩ ⟨rfl,rfl,trivial⟩
 rintro i ⟨hi,hidx⟩
 have ar:=vY (zZ q) i;have ar2:=vY (zZ q) (i+1);have ar3:=vY (zZ q) ((zZ q).length - 1);refine⟨λg=>Ob.mk (by have g:(0:Int) < (i:Int):=g;omega) λy hy=>Br.mk (λc=>?_) (λc=>?_),λg=>?_⟩
 ·have g:(0:Int) < (i:Int):=g;have hy:=zhF (show(tsL (zZ q) ((zZ q).length - 1))[i]? =some y from hy);have c:x < y:=c;obtain⟨k,rfl⟩:∃k,i=k+1:=⟨i - 1,oM⟩;exact Ar.o<|⟨k,⟨oM,by rw[hidx,zyh (by rw[← hy];exact c)]⟩,zL [0,1] ⟨rfl,rfl,rfl,congrArg (λq=>some (i64 q)) oM,trivial⟩ ⟨rfl,rfl,trivial⟩,XX k⟩
 all_goals
  have hix:zki (zZ q) x ((zZ q).length - 2)=i:=by
   first
   | exact hidx.trans (zkC (by rw[← zhF (show(tsL (zZ q) ((zZ q).length - 1))[i]? =some y from hy)];exact c))
   | exact hidx.trans (by rw[show i=0 by have g:¬(0:Int) < (i:Int):=g;omega];rfl)
  clear g;refine Ar.o ?_;intro hl2;refine⟨λd=>Ar.fit oM (Ob.mk ⟨oM,d⟩ λz hz=>?_),λd=>?_⟩
  all_goals
   have hn:1<=q.pts.length:=oM;have m3:=Kv ((i:Int)+1) (show(q.pts.length:Int)≠0 by omega);have m4:=X8 ((i:Int)+1) (show 0 < (q.pts.length:Int) by omega)
   have e2:(((i:Int)+1) % q.pts.length).toNat=(i+1) % q.pts.length:=by
    rw[show(i:Int)+1=((i+1:Nat):Int) by omega];omega
   refine Dr.k<|Ob.mk (show 0<=(i:Int)/\(i:Int) < q.pts.length by omega) ?_;intro a ha;have ha:=qy (show q.pts[i]? =some a from ha);rw[← zbh (q:=q) (i:=i) oM]at ha;refine Ar.o ?_;intro hl3;refine Dv.pos ⟨oM,(show 0 < (q.pts.length:Int) by omega)⟩<|Ob.mk ⟨m3,m4⟩ ?_;intro b hb;have hb:=qy (show q.pts[(((i:Int)+1) % q.pts.length).toNat]? =some b from hb);rw[e2,zyi h2 hi]at hb;refine Ob.mk (show 0<=(i:Int)/\(i:Int) < ((meQ q).ts.length:Int) by omega) ?_;intro u hu
   have hu:=zhF (show(tsL (zZ q) ((zZ q).length - 1))[i]? =some u from hu);refine Ar.o<|Ob.mk (show 0<=(i:Int)/\(i:Int) < ((meQ q).ts.length:Int) by omega) ?_;intro u' hu';have hu':=zhF (show(tsL (zZ q) ((zZ q).length - 1))[i]? =some u' from hu')
   have key:∀T,T=atS (zZ q) (i+1)->qQ a b (x - u) (T - u')=zda (zZ q) x:=λT h=>by
    unfold zda;dsimp only;rw[hix,h,hu,hu',ha,hb]
   first
   |have hT:=zhF (show(tsL (zZ q) ((zZ q).length - 1))[i+1]? =some z from hz)
    exact Ar.o<|zb.t (znG a b (x - u) (z - u'))<|ue (congrArg (λp=>SV.agg (ptE p)) (key _ hT))
   |have d:¬(i:Int)+1 < ((meQ q).ts.length:Int):=d
    have hT:atS (zZ q) ((zZ q).length - 1)=atS (zZ q) (i+1):=by rw[show(zZ q).length - 1=i+1 by omega]
    exact Ar.fit (show -9223372036854775808<=atS (zZ q) ((zZ q).length - 1) - u'/\atS (zZ q) ((zZ q).length - 1) - u'<=9223372036854775807 by omega)<|zb.t (znG a b (x - u) (atS (zZ q) ((zZ q).length - 1) - u'))<|ue (congrArg (λp=>SV.agg (ptE p)) (key _ hT))
theorem zyj(q:List Pt)(x:Pt)(hq:0 < q.length/\q.length<=100000):CG0 249 [.agg (ptE x),.loc 0 0] [(0,.box 72 [.own 1]),(1,.arr 35 ptE 2 q)] (.tup []) [(0,.box 72 [.own 2]),(2,.arr 35 ptE 2 (yI q x))]:=by
 refine u4 tok mix Tryz.func249 rfl rfl rfl<|Dr.d ?_;intro hl;refine Ar.o<|Ob.o<|Ob.o ?_;intro z hz
 have hz:q[q.length - 1]? =some z:=by
  have hz:q[((q.length:Int) - 1).toNat]? =some z:=hz
  rwa [show((q.length:Int) - 1).toNat=q.length - 1 by omega]at hz
 refine Ob.mk (by kernel_rfl)<|⟨λk=>?_,λk=>?_⟩
 ·have k:¬z=x:=λh=>k (k9.2 h)
  refine⟨Pt,ptE,[x],rfl,Ob.o0 ?_⟩;refine⟨[x],rfl,Ob.o3 ?_⟩;refine⟨⟨[],[(0,.box 72 [.own 2]),(2,.arr 35 ptE 2 (yI q x))],3,15,2⟩,zC [0,1,4] ⟨rfl,congrArg (λq=>some (Mem.arr 35 ptE 2 q)) (ziO hz k).symm,trivial⟩,rfl,.refl⟩
 ·have k:z=x:=k9.1 (Xa.1 k);refine⟨⟨[],[(0,.box 72 [.own 2]),(2,.arr 35 ptE 2 (yI q x))],3,15,2⟩,zC [0,1,1] ⟨rfl,congrArg (λq=>some (Mem.arr 35 ptE 2 q)) (znV hz k).symm,trivial⟩,rfl,.refl⟩
theorem zmw(q more:List Pt)(x:Pt):kC q (more++[x])=yI (kC q more) x:=by unfold kC;rw[KC];rfl
theorem zeE(c:List Pt)(f t:Int)(n:Nat):ze0 c f t (n+1)=ze0 c f t n++if f < atS c n/\atS c n < t then[nth c n] else[]:=by
 unfold ze0;rw[Qb,List.filter_append,XG];congr 1
 by_cases h:f < atS c n/\atS c n < t
 ·rw[if_pos h,List.filter_cons_of_pos (by simpa using h)];rfl
 ·rw[if_neg h,List.filter_cons_of_neg (by simpa using h)];rfl
def zbO(c:List Pt)(f t:Int)(n:Nat):List Pt:=kC [] ([zda c f]++ze0 c f t n)
variable{f:Int}
theorem zqr{t:Int}{n:Nat}(h:f < atS c n/\atS c n < t):zbO c f t (n+1)=yI (zbO c f t n) (nth c n):=by
 unfold zbO;rw[zeE,if_pos h,← XK,zmw]
theorem ztF{t:Int}{n:Nat}(h:¬(f < atS c n/\atS c n < t)):zbO c f t (n+1)=zbO c f t n:=by
 unfold zbO;rw[zeE,if_neg h,Xy]
theorem zqs(c:List Pt)(f t:Int):vo c f t=yI (zbO c f t (c.length - 1)) (zda c t):=by
 unfold vo zbO;rw[zmw]
theorem zqt(c:List Pt)(f t:Int)(n:Nat):0 < (zbO c f t n).length/\(zbO c f t n).length<=n+1:=by
 induction n with
 | zero=>exact⟨XX 0,Xh 1⟩
 | succ n ih=>
  by_cases h:f < atS c n/\atS c n < t
  ·rw[zqr h];have h1:=zgt (zbO c f t n) (nth c n);refine⟨?_,oM⟩;unfold yI
   split
   ·exact ih.1
   ·simp
  ·rw[ztF h];omega
theorem zoa(c:List Pt)(f t:Int):0 < (vo c f t).length/\(vo c f t).length<=c.length+2:=by
 rw[zqs];have h:=zqt c f t (c.length - 1);have h1:=zgt (zbO c f t (c.length - 1)) (zda c t);refine⟨?_,oM⟩;unfold yI
 split
 ·exact h.1
 ·simp
theorem zBn(q:Pl)(f t:Int)(hq:q.pts.length<=4096)(h2:2<=(zZ q).length)(hf:0<=f/\f<=70368744177664)(ht:0<=t/\t<=70368744177664):CG0 188 [.agg (meE (meQ q)),i64 f,i64 t] [] (.sl ptE (vo (zZ q) f t)) []:=by
 refine zc Tryz.func188 ?_;have ll:=jM q;have tl:(meQ q).ts.length=(zZ q).length - 1:=ziR ..;refine zb.t (ztE q f hq h2 hf)<|⟨Pt,ptE,[zda (zZ q) f],rfl,Ob.o0 ?_⟩;intro hl1;refine⟨Nat,λi=>⟨[(1,i64 f),(2,i64 t),(3,.loc 0 0),(7,.loc 1 0),(8,.fn 249 [.loc 1 0]),(17,.sl uS (meQ q).ts),(18,i64 ((meQ q).ts.length:Int)),(19,i64 (i:Int))],[(0,.box 205 (meE (meQ q))),(1,.box 72 [.own 2]),(2,.arr 35 ptE 2 (zbO (zZ q) f t i))],3,46,0⟩,λi=>i<=(zZ q).length - 1,λi=>(zZ q).length - i,0,?_,?_,?_⟩
 ·exact Xe _
 ·exact zf [0,2,1]
 rintro i hi
 have cl:=zqt (zZ q) f t i;refine⟨λg=>?_,λg=>?_⟩
 ·have g:(i:Int) < ((meQ q).ts.length:Int):=g;have stay:¬(f < atS (zZ q) i/\atS (zZ q) i < t)->zbO (zZ q) f t i=zbO (zZ q) f t (i+1):=λh=>(ztF h).symm
  refine Ob.o ?_;intro y hy;have hy:=zhF (show(tsL (zZ q) ((zZ q).length - 1))[i]? =some y from hy);refine⟨λk1=>Br.mk (λk2=>?_) (λk2=>?_),λk1=>?_⟩;rotate_left
  ·have k2:¬y < t:=k2;exact Ar.o<|⟨i+1,oM,zC [0,1,2] ⟨rfl,rfl,congrArg (λq=>some (Mem.arr 35 ptE 2 q)) (stay λh=>k2 (by rw[hy];exact h.2)),trivial⟩,by dsimp only;omega⟩
  ·have k1:¬f < y:=k1;exact Ar.o<|⟨i+1,oM,zC [0,1,2] ⟨rfl,rfl,congrArg (λq=>some (Mem.arr 35 ptE 2 q)) (stay λh=>k1 (by rw[hy];exact h.1)),trivial⟩,by dsimp only;omega⟩
  ·have k1:f < y:=k1;have k2:y < t:=k2;rw[hy]at k1 k2;refine Ob.mk (show 0<=(i:Int)/\(i:Int) < (q.pts.length:Int) by omega) ?_;intro x hx;have hx:=qy (show q.pts[i]? =some x from hx);rw[← zbh (q:=q) (i:=i) oM]at hx
   refine zb.give [1,2] 1 [.agg (ptE x),.loc 0 0] [(0,.box 72 [.own 1]),(1,.arr 35 ptE 2 (zbO (zZ q) f t i))] [(0,.box 72 [.own 2]),(2,.arr 35 ptE 2 (yI (zbO (zZ q) f t i) x))] (.tup []) (zyj (zbO (zZ q) f t i) x ⟨cl.1,oM⟩)
    LEs.refl rfl rfl rfl ⟨⟨_,rfl,rfl,rfl⟩,⟨_,rfl,rfl,trivial⟩,trivial⟩ rfl ⟨⟨rfl,rfl⟩,⟨rfl,trivial⟩,trivial⟩ ?_
   exact Ar.o<|⟨i+1,oM,zC [0,1,3] ⟨rfl,rfl,congrArg (λq=>some (Mem.arr 35 ptE 2 q)) (by rw[zqr ⟨k1,k2⟩,hx]),trivial⟩,by dsimp only;omega⟩
 have g:¬(i:Int) < ((meQ q).ts.length:Int):=g;have ei:i=(zZ q).length - 1:=oM;refine zb.t (ztE q t hq h2 ht) ?_
 refine zb.give [1,2] 1 [.agg (ptE (zda (zZ q) t)),.loc 0 0] [(0,.box 72 [.own 1]),(1,.arr 35 ptE 2 (zbO (zZ q) f t i))] [(0,.box 72 [.own 2]),(2,.arr 35 ptE 2 (yI (zbO (zZ q) f t i) (zda (zZ q) t)))] (.tup []) (zyj (zbO (zZ q) f t i) (zda (zZ q) t) ⟨cl.1,oM⟩)
  LEs.refl rfl rfl rfl ⟨⟨_,rfl,rfl,rfl⟩,⟨_,rfl,rfl,trivial⟩,trivial⟩ rfl ⟨⟨rfl,rfl⟩,⟨rfl,trivial⟩,trivial⟩ ?_
 refine z9 ?_;rw[zqs,ei]
theorem zce(t:AF)(p:Pt)(ht:t.le 100000):CG0 117 [.agg (afE t),.agg (ptE p)] [] (.tup [.agg (ptE (kv t p).1),i64 (kv t p).2]) []:=by
 obtain⟨ha,hb,hc,hd,he,hf⟩:=ht;refine zc Tryz.func117 ?_;have fin:∀(q:Pt) (n:Int),(kv t p)=(q,n)->LE (.tup [.agg (ptE q),i64 n]) (.tup [.agg (ptE (kv t p).1),i64 (kv t p).2]):=λq n h=>by rw[h];exact .refl
 refine zb.t (zb3 t ⟨oM,oM,oM,oM,oM,oM⟩)<|⟨λh1=>?_,λh1=>?_⟩
 ·exact fin zp 5 (by rw[kv,if_pos h1])
 refine zb.t (kK p)<|⟨λh2=>?_,λh2=>?_⟩
 ·exact fin zp 6 (by rw[kv,if_neg h1,if_pos h2])
 have hp:zn p:=XL h2;have hx:R64 p.x:=by unfold R64;unfold zn at hp;omega
 have hy:R64 p.y:=by unfold R64;unfold zn at hp;omega
 have lx:=zdG p.x;have ly:=zdG p.y;have zx:=qT hx;have zy:=qT hy;refine Dr.k<|zb.t (jm p.x hx)<|zb.t (jm p.y hy)<|zb.t (zuH t (ofQ (p.x:Rat)) (ofQ (p.y:Rat)) ⟨oM,oM,oM,oM,oM,oM⟩ (by rw[zB];omega) (by rw[zB];omega)) ?_;rw[z6,z6];have lX:=qk t.a (ofQ (p.x:Rat)) t.c (ofQ (p.y:Rat)) t.e (n:=100000) ha (by rw[zB];omega) hc (by rw[zB];omega) he;have lY:=qk t.b (ofQ (p.x:Rat)) t.d (ofQ (p.y:Rat)) t.f (n:=100000) hb (by rw[zB];omega) hd (by rw[zB];omega) hf;rw[z6,z6]at lX lY
 have lh:ya (Rat.divInt 1 2)<=1:=by decide +kernel
 have mX:=za9 (y5 t p.x p.y) (Rat.divInt 1 2);have mY:=za9 (y6 t p.x p.y) (Rat.divInt 1 2);have lX2:ya (y5 t p.x p.y)<=500007:=lX.2;have lY2:ya (y6 t p.x p.y)<=500007:=lY.2
 have fl:∀q:Rat,js q.floor<=ya q:=λq=>XB (zbY (by
  rw[JZ]
  exact QU _ _)) (qb q)
 have fX:=fl (y5 t p.x p.y+Rat.divInt 1 2);have fY:=fl (y6 t p.x p.y+Rat.divInt 1 2);refine zb.t (zpu 1 2 dC dC dC)<|zb.t (zdH (ofQ (y5 t p.x p.y)) (ofQ (Rat.divInt 1 2)) (by rw[zB];omega) (by rw[zB];omega)) ?_;rw[z6,z6];refine zb.t (zpv (ofQ (y5 t p.x p.y+Rat.divInt 1 2)) (by rw[zB];omega)) ?_;rw[z6];refine zb.t (zjM (ofZ (y5 t p.x p.y+Rat.divInt 1 2).floor) (by rw[zT];omega))<|zb.t (zdH (ofQ (y6 t p.x p.y)) (ofQ (Rat.divInt 1 2)) (by rw[zB];omega) (by rw[zB];omega)) ?_;rw[z6,z6]
 refine zb.t (zpv (ofQ (y6 t p.x p.y+Rat.divInt 1 2)) (by rw[zB];omega)) ?_;rw[z6];refine zb.t (zjM (ofZ (y6 t p.x p.y+Rat.divInt 1 2).floor) (by rw[zT];omega)) ?_;rw[zW,zW];obtain⟨X,hX⟩:∃X,(y5 t p.x p.y+Rat.divInt 1 2).floor=X:=⟨_,rfl⟩;obtain⟨Y,hY⟩:∃Y,(y6 t p.x p.y+Rat.divInt 1 2).floor=Y:=⟨_,rfl⟩;have hg:goP t p=⟨X,Y⟩:=by unfold goP;rw[hX,hY]
 rw[hX,hY];have out:¬zn ⟨X,Y⟩->kv t p=(zp,6):=λh=>by rw[kv,if_neg h1,if_neg h2,if_neg (by rw[hg];exact h)]
 have inn:zn ⟨X,Y⟩->kv t p=(⟨X,Y⟩,0):=λh=>by rw[kv,if_neg h1,if_neg h2,if_pos (by rw[hg];exact h),hg]
 have big:zn ⟨X,Y⟩->(-9223372036854775808<=X/\X<=9223372036854775807)/\(-9223372036854775808<=Y/\Y<=9223372036854775807):=λh=>by unfold zn at h;dsimp only at h;omega
 refine⟨λh3=>?_,λh3=>?_⟩
 ·exact fin zp 6 (out λh=>h3 (big h).1)
 have h3:=XL h3;refine⟨λh4=>?_,λh4=>?_⟩
 ·exact fin zp 6 (out λh=>h4 (big h).2)
 have h4:=XL h4;refine zb.t (kK ⟨y8 X,y8 Y⟩) ?_;rw[y8,if_pos h3,y8,if_pos h4];refine⟨λh5=>?_,λh5=>?_⟩
 ·exact fin zp 6 (out h5)
 ·exact fin ⟨X,Y⟩ 0 (inn (XL h5))
theorem zmE(t:AF){s:Sg}(hf:zfk s):vU t s=ze1 (λp=>(kv t p).1) s:=by
 unfold vU;obtain⟨f1,f2,f3⟩:=hf;have hr:=zdM s.v;have k:nm s.v<=0∨nm s.v=1∨nm s.v=2∨nm s.v=3:=oM;unfold kG ze1 zj2 part
 rcases k with k | k | k | k
 ·rw[show(nm s.v).toNat=0 by omega,f1.2 oM,f2.2 oM,f3.2 oM];rfl
 ·rw[show(nm s.v).toNat=1 by omega,f2.2 oM,f3.2 oM];rfl
 ·rw[show(nm s.v).toNat=2 by omega,f3.2 oM];rfl
 ·rw[show(nm s.v).toNat=3 by omega];rfl
variable{l:List Sg}
theorem zhJ{t:AF}(h1:qU l){x:Sg}{p:Pt}{k:Nat}(h0:jb t (qj (l.take i))=0)(hx:l[i]? =some x)(hk:jb t ((kG x).take k)=0)(hp:(kG x)[k]? =some p)(he:(kv t p).2≠0):trans t l=([],(kv t p).2):=by
 have e2:=(vz hk hp).2 he
 have e3:jb t (qj l)=(kv t p).2:=by
  have hd:=zgg hx
  have:qj l=qj (l.take i)++(kG x++qj (l.drop (i+1))):=by
   conv=>lhs;rw[← Ki i l,hd]
   simp[qj]
  rw[this,jJ,h0];simp only[ne_eq,not_true_eq_false,if_false];rw[jJ,e2,if_pos he]
 rw[trans,if_neg (λk=>k h1),e3,if_pos he]
theorem zvt{t:AF}{x:Sg}(h0:jb t (qj (l.take i))=0)(hx:l[i]? =some x)(hk:jb t (kG x)=0):jb t (qj (l.take (i+1)))=0:=by
 rw[zh7 hx,jJ,h0];simpa using hk
theorem zyr(l:List Sg)(t:AF)(ht:t.le 100000):CG0 57 [.sl sgE l,.agg (afE t)] [] (.tup [.sl sgE (trans t l).1,i64 (trans t l).2]) []:=by
 refine zc Tryz.func57 ?_
 have bad:∀e:Int,trans t l=([],e)->LE (.tup [.val (.slice none 0 0),i64 e]) (.tup [.sl sgE (trans t l).1,i64 (trans t l).2]):=λe h=>by
  rw[h];exact zI zD .refl
 refine zb.t (zgh l)<|⟨λh1=>?_,λh1=>?_⟩
 ·exact bad 10 (by rw[trans,if_pos h1])
 have h:=Xa.1 h1;have hvl:=zhl h;refine⟨Sg,sgE,[],rfl,Ob.o2 ?_⟩
 refine⟨Nat,λi=>⟨[(7,i64 i),(6,.own 1),(3,.loc 0 0),(0,.sl sgE l)],[(1,.arr 124 sgE 7 ((l.take i).map (vU t))),(0,.box 45 (afE t))],2,67,0⟩,λi=>i<=l.length/\jb t (qj (l.take i))=0,λi=>l.length - i,0,⟨Xe _,rfl⟩,
  zf [0,1],?_⟩
 rintro i ⟨hil0,hi0⟩
 intro _;refine⟨λg1=>?_,λg1=>?_⟩
 ·have g1:(i:Int) < l.length:=g1;have hx:=Xb (show i < l.length by omega);generalize l[i]'oM=x at hx;have hf:=zxF h (Xd hx);have hnr:=zdM x.v;refine Ob.mk ⟨oM,g1⟩ ?_;intro y hy;have hy:l[i]? =some y:=hy;rw[hx]at hy;cases hy
  refine zb.t (zs9 x) ?_;have hml:((l.take i).map (vU t)).length<=256:=by simp;omega
  refine⟨Nat,λk=>⟨[(9,i64 k),(8,.loc 2 0),(7,i64 i),(6,.own 1),(3,.loc 0 0),(0,.sl sgE l)],[(2,.box 155 (ptE (part (λp=>(kv t p).1) k x).a++ptE (part (λp=>(kv t p).1) k x).b++ptE (part (λp=>(kv t p).1) k x).c)),(1,.arr 124 sgE 7 ((l.take i).map (vU t))),(0,.box 45 (afE t))],3,67,0⟩,
   λk=>k<=(nm x.v).toNat/\jb t ((kG x).take k)=0,λk=>3 - k,0,⟨Xe _,rfl⟩,zf [0,1,2],?_⟩
  rintro k ⟨hk0,hke⟩
  refine Ob.mk ⟨oM,g1⟩ ?_;intro y hy;have hy:l[i]? =some y:=hy;rw[hx]at hy;cases hy
  refine zb.t (zpz x.v)<|⟨λg2=>?_,λg2=>?_⟩
  ·have g2:(k:Int) < nm x.v:=g2;have hat:=zCa (s:=x) g2;have e:k=0∨k=1∨k=2:=oM
   rcases e with rfl | rfl | rfl
   ·refine Dr.k<|zb.t (zce t x.a ht)<|⟨λh5=>bad _ (zhJ h hi0 hx hke hat h5),λh5=>?_⟩;have h5:(kv t x.a).2=0:=XL h5;exact Ar.fit dC<|⟨1,⟨by show 1<=_;omega,(vz hke hat).1 h5⟩,zf [0,1,2],dC⟩
   ·refine Dr.k<|zb.t (zce t x.b ht)<|⟨λh5=>bad _ (zhJ h hi0 hx hke hat h5),λh5=>?_⟩;have h5:(kv t x.b).2=0:=XL h5;exact Ar.fit dC<|⟨2,⟨by show 2<=_;omega,(vz hke hat).1 h5⟩,zf [0,1,2],dC⟩
   ·refine Dr.k<|zb.t (zce t x.c ht)<|⟨λh5=>bad _ (zhJ h hi0 hx hke hat h5),λh5=>?_⟩;have h5:(kv t x.c).2=0:=XL h5;exact Ar.fit dC<|⟨3,⟨by show 3<=_;omega,(vz hke hat).1 h5⟩,zf [0,1,2],dC⟩
  ·have g2:¬(k:Int) < nm x.v:=g2;have hku:k=(nm x.v).toNat:=oM
   have hall:(kG x).take k=kG x:=by
    rw[Xf];unfold kG;simp;omega
   rw[hall]at hke;refine Dr.k<|Ob.mk ⟨oM,g1⟩ ?_;intro y hy;have hy:l[i]? =some y:=hy;rw[hx]at hy;cases hy
   refine⟨Sg,sgE,[part (λp=>(kv t p).1) k x],rfl,Ob.o0 ?_⟩;refine⟨[part (λp=>(kv t p).1) k x],rfl,Ob.mk ⟨(by show _*(56:Int)<=_;simp only[Xl,Xs];omega),(by simp only[Xl,Xs];omega),dC,λ_ _=>rfl⟩ ?_⟩;exact Ar.o<|⟨i+1,⟨by show i+1<=_;omega,zvt hi0 hx hke⟩,zC [0,4] ⟨congrArg (λq=>some (Mem.arr 124 sgE 7 q)) (by rw[Xm,hx,hku];simp[zmE t hf,ze1]),rfl,trivial⟩,by dsimp only;omega⟩
 ·have hil:i=l.length:=by omega
  rw[hil,X9]at hi0;have htr:trans t l=(l.map (vU t),0):=by rw[trans,if_neg h1,hi0,if_neg (λk=>k rfl)]
  rw[show(trans t l).1=(l.take i).map (vU t) by rw[htr,hil,X9],show(trans t l).2=0 by rw[htr]];exact zI .refl .refl
instance (t:AF) (n:Nat):Decidable (t.le n):=inferInstanceAs (Decidable (_/\_))
def y7(p:Nat×SV):Nat×SV:=
 match p.2 with
 | .loc k o=>(p.1,.loc k o)
 | _=>(p.1,.junk)
theorem zgH:∀(L:List (Nat×SV)) (t:Nat) (s:SV),qe (L.map y7) t=some s->s=.junk∨∃k o,s=.loc k o/\qe L t=some (.loc k o)
 | [],t,s,h=>by simp[qe]at h
 | (d,s0)::L,t,s,h=>by
  have e:(((d,s0)::L).map y7)=(d,(y7 (d,s0)).2)::L.map y7:=by
   simp only[Q1];congr 1;unfold y7;dsimp only;split <;> rfl
  rw[e,kL]at h
  split at h
  ·rename_i hd
   cases h
   unfold y7;dsimp only
   split
   ·rename_i k o;exact .inr ⟨k,o,rfl,by rw[kL,if_pos hd]⟩
   ·exact .inl rfl
  ·rename_i hd
   rcases zgH L t s h with h | ⟨k,o,h1,h2⟩
   ·exact .inl h
   ·exact .inr ⟨k,o,h1,by rw[kL,if_neg hd,h2]⟩
def zys:SV->Bool
 | .loc _ _=>true
 | _=>false
def zBp(K:St->Prop):Ex->St->Prop
 | .exit _,_=>False
 | .normal,σ=>K σ
 | .ret,σ=>K σ
def ztM(n:Nat)(P:Program)(Γ:List (TypeId×TI))(fn cfn:Func)(cc:Code)(caps:List SV)(r:SV)(σ3:St):Prop:=
 Nat.beq σ3.M.length σ3.nk=true/\jP P Γ cc ⟨yf 0 caps,σ3.M,σ3.M.length,cfn.ntmps,σ3.M.length⟩ (zBp λσ4=>zbQ σ4 Γ cfn.results.toList λ_=>
  zbQ ⟨σ3.L.map y7,σ4.M,σ4.nk,σ3.nt,0⟩ Γ fn.results.toList λs=>LE (ziu (zX σ4.M) n s) r)
def zAo(n:Nat)(P:Program)(Γ:List (TypeId×TI))(fn cfn:Func)(cc:Code)(caps:List SV)(r:SV)(σ3:St):Prop:=∃σ',Sub σ3 σ'/\ztM n P Γ fn cfn cc caps r σ'
def zCP(n:Nat)(P:Program)(Γ:List (TypeId×TI))(fn cfn:Func)(cf:FuncId)(t:Tmp)(rest cc:Code)(r:SV)(σ2:St):Prop:=
 ∃caps,qe σ2.L t=some (.fn cf caps)/\Nat.ble caps.length cfn.ntmps=true/\caps.all zys=true/\jP P Γ rest ⟨σ2.L,σ2.M,σ2.nk,σ2.nt,σ2.nk⟩ (zBp (zAo n P Γ fn cfn cc caps r))
def vcDf(n:Nat)(P:Program)(Γ:List (TypeId×TI))(fn cfn:Func)(cf:FuncId)(cc:Code)(r:SV):Nat->Code->St->Prop
 | 0,c,σ=>∃id o1 o2 rest t,c=.seq (.region id #[o1,o2] false) rest/\o2.op=.defer ⟨.value (.tmp t),#[],#[]⟩/\o2.guard=none/\o2.dst=none/\
   vh P Γ false [o1,o2] [o1] 0 σ (zCP n P Γ fn cfn cf t rest cc r)
 | k+1,c,σ=>∃x y,c=.seq x y/\jP P Γ x σ λe σ=>match e with
   | .normal=>vcDf n P Γ fn cfn cf cc r k y σ
   | .ret=>zbQ σ Γ fn.results.toList λs=>LE (ziu (zX σ.M) n s) r
   | .exit _=>False
variable{r:SV}
theorem zyt {E:Env} {M:List (Nat×Mem)} {ρ:zk} {w:World} {n:Nat}{s:SV}{v:Value} (hm:zO E.Keep M ρ w) (hle:LE (ziu (zX M) n s) r)
  (hg:G (λb=>E.Keep b∨Own M ρ b) (Own M ρ) ρ w s v):G (λb=>E.Keep b∨Own [] ρ b) (Own [] ρ) ρ w r v:=by
 have hd:∀{s:SV} {v:Value},G (λb=>E.Keep b∨Own M ρ b) (Own M ρ) ρ w s v->D (λb=>E.Keep b∨Own [] ρ b) w (frz (zX M) n s) v:=λh=>
  (zpY (λk m h=>zA h) hm n h).less λb hb=>hb.resolve_right z0
 refine hle _ _ _ _ _ ?_;unfold ziu
 split
 ·rename_i cs;obtain⟨vs,rfl,hvs⟩:=hg.tup_inv;refine .tup _ vs (by rw[Xz];exact hvs.1) λj s v hs hv=>?_
  rw[XC]at hs
  cases hc:cs[j]? with
  | none=>simp[hc]at hs
  | some c=>
   simp[hc]at hs;subst hs;exact .d _ _ (hd (hvs.2 j c v hc hv))
 ·exact .d _ _ (hd hg)
theorem zqC {n:Nat} {P:Program} {Γ:List (TypeId×TI)} (hT:TOK P Γ) (hm:P.follows .mixedOrders=true) {cf:FuncId} {fn cfn:Func} {cc:Code} {r:SV}
  (hcf:P.funcs[cf]? =some cfn) (hcb:cfn.body=some cc) (hcn:(cfn.name== "runtime.NumGoroutine")=false) {Keep:Nat->Prop} {ρ:zk} {w:World} (hk:∀b,Keep b->b < w.heap.size) (hρ:∀k,0<=k->ρ k=none) {RF:Ending->World->Prop}
  (hRF:∀e w',RF e w'↔∃v ρ',e=.returned v/\Stp (Own [] ρ) (Own [] ρ') ρ ρ' w w'/\zO Keep [] ρ' w'/\G (λb=>Keep b∨Own [] ρ' b) (Own [] ρ') ρ' w' r v):
  ∀(k:Nat) (c:Code) {σ1:St} {ρ1:zk} {a1:Act} {w1:World},Rel ⟨w,ρ,Keep,Own [] ρ,[]⟩ σ1 ρ1 a1 w1->vcDf n P Γ fn cfn cf cc r k c σ1->c.wp P (bodyPostD P fn RF) a1 w1
 | k+1,c,σ1,ρ1,a1,w1,hr1,h=>by
  obtain⟨x,y,rfl,h⟩:=h;refine wp_seq (Code.wp_mono (λe a2 w2 hq=>?_) (kX hT hm x hr1 h))
  cases e with
  | normal=>obtain⟨σ,ρ',h1,h2⟩:=hq;exact zqC hT hm hcf hcb hcn hk hρ hRF k y h2 h1
  | ret=>
   obtain⟨σ,ρ',h1,hr⟩:=hq;obtain⟨s,hles,h8⟩:=yw hT h1;obtain⟨v,hv,hgv⟩:=h8 hr;have hst:=hr.stp;show Leaves P fn a2.tmps RF a2.defers .returning w2;have hd0:a2.defers=[]:=hr.defers;rw[hd0];refine⟨v,hv,(hRF _ _).2 ⟨v,ρ',rfl,?_,(jj hr.mem.kp λ_ _ h=>hr.mem.glc h),zyt hr.mem hles hgv⟩⟩;exact⟨hst.os,hst.tape,hst.output,hst.size,λb hb hn=>hst.block b hb λh=>hn h,λb hb=>absurd hb z0,hst.rho⟩
  | exit id=>obtain⟨σ,ρ',h1,_⟩:=hq;exact h1.elim
  | _=>exact hq.elim
 | 0,c,σ1,ρ1,a1,w1,hr1,h=>by
  obtain⟨id,o1,o2,rest,t,rfl,ho,hg,hd,h1⟩:=h;refine wp_seq (wp_region_list ?_);obtain⟨σ',run,svs,s,md,h2,hgd,href,hdst,hrun⟩:=zf0 hT hr1 h1
  have hr1':Rel ⟨w,ρ,Keep,Own [] ρ,[]⟩ σ' ρ1 a1 w1:=by
   rcases href with rfl | ⟨t,s0,s1,q2,q3,rfl⟩
   ·exact hr1
   ·exact hr1.refine q2 q3
  have hnt:σ'.nt=σ1.nt:=by rcases href with rfl | ⟨t,s0,s1,q2,q3,rfl⟩ <;> rfl
  have go2:∀{ρ2:zk} {a2:Act} {w2:World} {Q:Exit->Act->World->Prop},(∀a w,rest.wp P (bodyPostD P fn RF) a w->Q .normal a w)->Rel ⟨w,ρ,Keep,Own [] ρ,[]⟩ (σ'.app o1.dst s md) ρ2 a2 w2->
    wpList P #[o1,o2] Q [o2] a2 w2:=by
   intro ρ2 a2 w2 Q hQ hr2;obtain⟨caps,hlt,hcle,hall,h3⟩:=h2;have hgt:=(hr2.regs t _ hlt).2;obtain⟨cvs,hcv,hcg⟩:=hgt.fn_inv;have hw:Region.wanted o2 (yielded (#[o1,o2]:Array Oper) a2.tmps)=true:=hr2.wanted (all:=[o1,o2]) (by simp[jf,hg]);unfold wpList;rw[hw];simp only[if_true];refine .inl ?_;unfold Oper.wp
   have hex:(execOp a2.eval o2).run P w2=.ok (.defer ⟨.fn (.func cf) cvs.toArray,#[]⟩) w2:=by
    have hev:a2.eval (.tmp t)=.func (.func cf) #[] cvs.toArray:=hcv;simp only[execOp,ho,resolve,hev,Deferred.ofValue,Sem.run_bind,Sem.run_pure,Result.andThen_ok];simp
   rw[hex,Oper.upon_defer,hd];refine hQ _ _ ?_;show rest.wp P _ { a2 with defers:=_::a2.defers } w2;have hd0:a2.defers=[]:=hr2.defers;rw[hd0]
   -- the rest,with the call put off
   let E3:Env:=⟨w2,ρ2,Keep,Own (σ'.app o1.dst s md).M ρ2,[⟨.fn (.func cf) cvs.toArray,#[]⟩]⟩
   have hr3:Rel E3 ⟨(σ'.app o1.dst s md).L,(σ'.app o1.dst s md).M,(σ'.app o1.dst s md).nk,(σ'.app o1.dst s md).nt,(σ'.app o1.dst s md).nk⟩ ρ2 { a2 with defers:=[⟨.fn (.func cf) cvs.toArray,#[]⟩] } w2:=
    ⟨hr2.size,rfl,hr2.regs,hr2.mem,hr2.fresh,.refl,hr2.mem.kp,λk v hv=>by
     rcases Qe k (σ'.app o1.dst s md).nk with h | h
     ·exact h
     ·have hv:ρ2 k=some v:=hv
      rw[hr2.fresh k h]at hv;cases hv⟩
   refine Code.wp_mono (λe a3 w3 hq=>?_) (kX hT hm rest hr3 h3)
   have fin:∀σ3 ρ3,ztM n P Γ fn cfn cc caps r σ3->Rel E3 σ3 ρ3 a3 w3->Leaves P fn a3.tmps RF a3.defers .returning w3:=by
    intro σ3 ρ3 ⟨hbeq,h4⟩ hr3;have hlen:=Xg hbeq;have hd3:a3.defers=[⟨.fn (.func cf) cvs.toArray,#[]⟩]:=hr3.defers;rw[hd3];have hρ3:∀k,σ3.M.length<=k->ρ3 k=none:=λk hk=>hr3.fresh k oM
    have hcg3:Gs (λb=>Keep b∨Own σ3.M ρ3 b) (Own σ3.M ρ3) ρ3 w3 caps cvs:=by
     refine⟨hcg.1,λj s v hs hv=>?_⟩;have hl:zys s=true:=XN.1 hall s (Xd hs)
     cases s <;> try (simp[zys]at hl)
     rename_i k off;obtain⟨b,hb1,rfl⟩:=(hcg.2 j _ v hs hv).loc_inv;exact .loc _ _ _ (hr3.stp.rho _ _ hb1)
    have hent:=zaL (nt:=cfn.ntmps) hr3.mem hρ3 hcg3 (Xw hcle);refine leaves_cons (by simp) (f:=cf) (args:=cvs.toArray) ?_ ?_
    ·simp only[invoke,callFunc,Sem.run_bind,Sem.run_pure,Result.andThen_ok,run_program,hcf,hcn,hcb,Option.isNone_some,KA,if_false];simp
    ·refine(callsD_of_wp (R:=λe w4=>∃v0,e=.returned v0/\Leaves P fn a3.tmps RF [] .returning w4) hcf hcb ?_).mono ?_
     ·refine Code.wp_mono (λe a4 w4 hq=>?_) (kX hT hm cc hent h4)
      have fin2:∀σ4 ρ4,(zbQ σ4 Γ cfn.results.toList λ_=>zbQ ⟨σ3.L.map y7,σ4.M,σ4.nk,σ3.nt,0⟩ Γ fn.results.toList λs=>LE (ziu (zX σ4.M) n s) r)->
        Rel ⟨w3,ρ3,Keep,Own σ3.M ρ3,[]⟩ σ4 ρ4 a4 w4->a4.defers=[]/\∃v,(results cfn a4.tmps).run P w4=.ok v w4/\∃v0,Ending.returned v=.returned v0/\
         Leaves P fn a3.tmps RF [] .returning w4:=by
       intro σ4 ρ4 h5 hr4;obtain⟨s0,h6,h7⟩:=yw hT h5;obtain⟨v0,hv0,_⟩:=h7 hr4;refine⟨hr4.defers,v0,hv0,v0,rfl,?_⟩;have hst:Stp (Own [] ρ) (Own σ4.M ρ4) ρ ρ4 w w4:=(hr2.stp.trans hr3.stp).trans hr4.stp
       have hfin:Rel ⟨w,ρ,Keep,Own [] ρ,a3.defers⟩ ⟨σ3.L.map y7,σ4.M,σ4.nk,σ3.nt,0⟩ ρ4 a3 w4:=by
        refine⟨hr3.size,rfl,λt s hl=>?_,hr4.mem,hr4.fresh,hst,hk,λk v hv=>?_⟩
        ·rcases zgH σ3.L t s hl with rfl | ⟨k,o,rfl,h8⟩
         ·refine⟨?_,.d _ _ (.junk _)⟩
          have:∃s,qe σ3.L t=some s:=by
           clear h5 h6 h7 h4 hr3 hr4 hent
           revert hl
           generalize σ3.L=L;intro hl
           induction L with
           | nil=>simp[qe]at hl
           | cons p L ih=>
            obtain⟨d,s0⟩:=p
            by_cases hd:d=t
            ·exact⟨s0,by rw[kL,if_pos hd]⟩
            ·rw[kL,if_neg hd];refine ih ?_
             have e:(((d,s0)::L).map y7)=(d,(y7 (d,s0)).2)::L.map y7:=by
              simp only[Q1];congr 1;unfold y7;dsimp only;split <;> rfl
             have hl':qe (((d,s0)::L).map y7) t=some .junk:=hl;rw[e,kL,if_neg hd]at hl';exact hl'
          obtain⟨s,hs⟩:=this;exact(hr3.regs t s hs).1
         ·obtain⟨h9,h10⟩:=hr3.regs t _ h8;refine⟨h9,?_⟩;obtain⟨b,hb1,hb2⟩:=h10.loc_inv;rw[hb2];exact .loc _ _ _ (hr4.stp.rho _ _ hb1)
        ·have hv:ρ k=some v:=hv;rw[hρ k (Xe _)]at hv;cases hv
       obtain⟨s,hles,h8⟩:=yw hT h6;obtain⟨v,hv,hgv⟩:=h8 hfin;refine⟨v,hv,(hRF _ _).2 ⟨v,ρ4,rfl,?_,(jj hfin.mem.kp λ_ _ h=>hfin.mem.glc h),?_⟩⟩
       ·exact⟨hst.os,hst.tape,hst.output,hst.size,λb hb hn=>hst.block b hb hn,λb hb=>absurd hb z0,hst.rho⟩
       ·exact zyt hfin.mem hles hgv
      cases e with
      | normal=>obtain⟨σ4,ρ4,h5,hr4⟩:=hq;exact fin2 σ4 ρ4 h5 hr4
      | ret=>obtain⟨σ4,ρ4,h5,hr4⟩:=hq;exact fin2 σ4 ρ4 h5 hr4
      | exit id=>obtain⟨σ4,ρ4,h5,_⟩:=hq;exact h5.elim
      | _=>exact hq.elim
     ·rintro e u' w4 ⟨rfl,v0,rfl,hL⟩
      exact hL
   cases e with
   | normal=>obtain⟨σ3,ρ3,⟨σ',hs,h4⟩,hr3⟩:=hq;obtain⟨ρ',hr'⟩:=hs _ _ _ _ hr3;exact fin σ' ρ' h4 hr'
   | ret=>obtain⟨σ3,ρ3,⟨σ',hs,h4⟩,hr3⟩:=hq;obtain⟨ρ',hr'⟩:=hs _ _ _ _ hr3;exact fin σ' ρ' h4 hr'
   | exit id=>obtain⟨σ3,ρ3,h4,_⟩:=hq;exact h4.elim
   | _=>exact hq.elim
  unfold wpList;rw[hr1'.wanted hgd]
  rcases hrun with⟨rfl,hst⟩ | ⟨rfl,rfl,rfl⟩
  ·simp only[if_true];refine .inl ((hst.does hr1').wp λv w' ha=>?_);obtain⟨ρ',hrel⟩:=hr1'.app (λt e=>hnt ▸ hdst t e) ha;exact go2 (λ_ _ h=>h) hrel
  ·simp only[KA,if_false];obtain⟨ρ',hrel⟩:=hr1'.app (λt e=>hnt ▸ hdst t e) (u1 hr1'.mem);exact go2 (λ_ _ h=>h) hrel
theorem zmF (n k:Nat) {P:Program} {Γ:List (TypeId×TI)} (hT:TOK P Γ) (hm:P.follows .mixedOrders=true) {f cf:FuncId} {fn cfn:Func} {c:Code}
  {args:List SV}{cc:Code} (hf:P.funcs[f]? =some fn) (hb:fn.body=some c) (hn:(fn.name== "runtime.NumGoroutine")=false)
  (hle:Nat.ble args.length fn.ntmps=true) (hcf:P.funcs[cf]? =some cfn) (hcb:cfn.body=some cc) (hcn:(cfn.name== "runtime.NumGoroutine")=false)
  (h:vcDf n P Γ fn cfn cf cc r k c ⟨yf 0 args,[],0,fn.ntmps,0⟩):qI P f args [] r []:=by
 refine⟨⟨fn,hf,hn,by rw[hb];rfl⟩,λKeep ρ w vs hk hmem hρ hgs=>?_⟩;have hRF:∃RF:Ending->World->Prop,∀e w',RF e w'↔∃v ρ',e=.returned v/\Stp (Own [] ρ) (Own [] ρ') ρ ρ' w w'/\zO Keep [] ρ' w'/\G (λb=>Keep b∨Own [] ρ' b) (Own [] ρ') ρ' w' r v:=⟨_,λ_ _=>K7⟩;obtain⟨RF,hRF⟩:=hRF;refine Calls.mono ?_ λe w' h=>(hRF e w').1 h
 refine calls_of_wp_defers hf hb ?_;have hrel:=zaL (nt:=fn.ntmps) hmem hρ hgs (Xw hle);exact zqC hT hm hcf hcb hcn hk hρ hRF k c hrel h
def uo(t:AF):AF:=⟨ofQ (t.d.v / yz t),ofQ (-t.b.v / yz t),ofQ (-t.c.v / yz t),ofQ (t.a.v / yz t),zBR,zBR⟩
def zof(t:AF):AF:={ uo t with e:=ofQ (-(y5 (uo t) t.e.v t.f.v)),f:=ofQ (-(y6 (uo t) t.e.v t.f.v)) }
def zhK(t:AF):AF×Int:=if ¬t.ok then(qr,5) else if yz t=0 then(qr,9) else if ¬(zof t).ok then(qr,5) else(zof t,0)
theorem zyu(t:AF):(zof t).nrm=zof t:=by
 unfold zof uo AF.nrm;simp only[z6]
theorem zgM(x y:Rat)(h:y≠0):ya (x / y)<=ya x+ya y:=by
 rw[← zpt];have hy:y.num≠0:=λk=>h (Rat.num_eq_zero.1 k)
 have h1:=zbz (n:=x.num*y.den) (Ya (zdF x) hy);have h2:=kO x.num y.den;have h4:=kO x.den y.num;have a1:=qb x;have a2:=qb y;have a3:=qp x;have a4:=qp y;omega
theorem ztO(t:AF){n:Nat}(ht:t.le n)(hn:1<=n):ya (yz t)<=4*n+1:=by
 obtain⟨ha,hb,hc,hd,he,hf⟩:=ht;have l1:=zH t.a;have l2:=zH t.b;have l3:=zH t.c;have l4:=zH t.d;have m1:=yj t.a.v t.d.v;have m2:=yj t.b.v t.c.v;have m3:=zps (t.a.v*t.d.v) (t.b.v*t.c.v);show ya (t.a.v*t.d.v - t.b.v*t.c.v)<=_;omega
theorem ztP{t:AF}{n:Nat}(ht:t.le n)(hn:1<=n)(h0:yz t≠0):(uo t).le (5*n+1):=by
 have hd':=ztO t ht hn;obtain⟨ha,hb,hc,hd,he,hf⟩:=ht;have l1:=zH t.a;have l2:=zH t.b;have l3:=zH t.c;have l4:=zH t.d;have n2:=zah t.b.v;have n3:=zah t.c.v;have q1:=zgM t.d.v (yz t) h0;have q2:=zgM (-t.b.v) (yz t) h0;have q3:=zgM (-t.c.v) (yz t) h0;have q4:=zgM t.a.v (yz t) h0;refine⟨?_,?_,?_,?_,?_,?_⟩
 ·show(ofQ _).len<=_;rw[zB];omega
 ·show(ofQ _).len<=_;rw[zB];omega
 ·show(ofQ _).len<=_;rw[zB];omega
 ·show(ofQ _).len<=_;rw[zB];omega
 ·show 0<=_;omega
 ·show 0<=_;omega
theorem ztQ{t:AF}{n:Nat}(ht:t.le n)(hn:1<=n)(h0:yz t≠0):(zof t).le (100*n+100):=by
 have hi:=ztP ht hn h0;obtain⟨ha,hb,hc,hd,he,hf⟩:=ht;obtain⟨ia,ib,ic,id,ie,if'⟩:=hi;have m1:=qk (n:=5*n+1) (uo t).a t.e (uo t).c t.f (uo t).e ia oM ic oM ie;have m2:=qk (n:=5*n+1) (uo t).b t.e (uo t).d t.f (uo t).f ib oM id oM if'
 refine⟨?_,?_,?_,?_,?_,?_⟩
 ·show(uo t).a.len<=_;omega
 ·show(uo t).b.len<=_;omega
 ·show(uo t).c.len<=_;omega
 ·show(uo t).d.len<=_;omega
 ·show(ofQ (-(y5 (uo t) t.e.v t.f.v))).len<=_;rw[zB,zah];have:ya (y5 (uo t) t.e.v t.f.v)<=5*(5*n+1)+7:=m1.2;omega
 ·show(ofQ (-(y6 (uo t) t.e.v t.f.v))).len<=_;rw[zB,zah];have:ya (y6 (uo t) t.e.v t.f.v)<=5*(5*n+1)+7:=m2.2;omega
theorem a_by(x d:BR)(hx:x.len<=1000000)(hd:d.len<=1000000)(h0:d.v≠0):CG0 88 [.agg (brE x),.ptr (brE d)] [] (.agg (brE (ofQ (x.v / d.v)))) []:=by
 refine zc Tryz.func88 ?_;exact zb.t (q_quo x d oM oM h0)<|.refl
theorem zyv(t:AF)(ht:t.le 100):CG0 43 [.agg (afE t)] [] (.tup [.agg (afE (zhK t).1),i64 (zhK t).2]) []:=by
 have bad:∀n,zhK t=(qr,n)->LE (.tup [.agg yX,i64 n]) (.tup [.agg (afE (zhK t).1),i64 (zhK t).2]):=λn h=>by
  rw[h];exact zI zaP .refl
 have hd':=ztO t ht dC;refine zc Tryz.func43 ?_;refine zb.t (zcD t (ht.up dC))<|⟨λh=>bad 5 (if_pos h),λh1=>?_⟩;refine zb.t (zh4 t (ht.up dC))<|Dr.k<|zb.t (yy 0 dC)<|zb.t (zgc (ofQ (yz t)) (ofQ ((0:Int):Rat)) (by rw[zB];omega) (by decide +kernel)) ?_;rw[z6,z6];refine⟨λh=>bad 9 ((if_neg h1).trans (if_pos (q9.1 h))),λh=>?_⟩;have h0:yz t≠0:=λk=>h (q9.2 k)
 have hi:=ztP ht dC h0;have hA:=ztQ ht dC h0;have ht':=ht;obtain⟨ha,hb,hc,hd,he,hf⟩:=ht;have hdv:(ofQ (yz t)).v≠0:=by rw[z6];exact h0
 have lb:=zH t.b;have lc:=zH t.c;have nb:=zah t.b.v;have nc:=zah t.c.v;refine Dr.k<|zb.t (a_by t.d (ofQ (yz t)) oM (by rw[zB];omega) hdv)<|zb.t (zs4 t.b oM)<|zb.t (a_by (ofQ (-t.b.v)) (ofQ (yz t)) (by rw[zB];omega) (by rw[zB];omega) hdv)<|zb.t (zs4 t.c oM)<|zb.t (a_by (ofQ (-t.c.v)) (ofQ (yz t)) (by rw[zB];omega) (by rw[zB];omega) hdv) ?_;refine zb.t (a_by t.a (ofQ (yz t)) oM (by rw[zB];omega) hdv) ?_;rw[z6,z6,z6]
 have h24:LEs (brE (uo t).a++(brE (uo t).b++(brE (uo t).c++(brE (uo t).d++(z4++z4))))) (afE (uo t)):=
  LEs.append .refl (LEs.append .refl (LEs.append .refl (LEs.append .refl (LEs.append jU jU))))
 have mX:=qk (n:=501) (uo t).a t.e (uo t).c t.f (uo t).e hi.1 oM hi.2.2.1 oM hi.2.2.2.2.1;have mY:=qk (n:=501) (uo t).b t.e (uo t).d t.f (uo t).f hi.2.1 oM hi.2.2.2.1 oM hi.2.2.2.2.2;have mX2:ya (y5 (uo t) t.e.v t.f.v)<=5*501+7:=mX.2;have mY2:ya (y6 (uo t) t.e.v t.f.v)<=5*501+7:=mY.2;refine zb.t ((ziI (uo t) t.e t.f (hi.up dC) oM oM).args (.cons (qF h24) (.cons .refl (.cons .refl .nil))))<|Dr.k<|zb.t (zs4 (ofQ (y5 (uo t) t.e.v t.f.v)) (by rw[zB];omega))<|zb.t (zs4 (ofQ (y6 (uo t) t.e.v t.f.v)) (by rw[zB];omega)) ?_;rw[z6,z6]
 refine zb.t (zcD (zof t) (hA.up dC))<|⟨λh=>bad 5 ((if_neg h1).trans ((if_neg h0).trans (if_pos h))),λh=>?_⟩;refine zb.t (zh5 (zof t) (hA.up dC)) ?_;rw[zyu,show zhK t=(zof t,0) from(if_neg h1).trans ((if_neg h0).trans (if_neg h))];exact zI .refl .refl
structure Pix where
 r:Int
 g:Int
 b:Int
 a:Int
 deriving DecidableEq
def zgN(p:Pix):List SV:=[u8 p.r,u8 p.g,u8 p.b,u8 p.a]
structure Img where
 w:Int
 h:Int
 px:List Pix
 deriving DecidableEq
def zkK(m:Img):List SV:=[i64 m.w,i64 m.h,.sl zgN m.px]
def zfG(p:Pix):Prop:=p.r<=p.a/\p.g<=p.a/\p.b<=p.a
instance (p:Pix):Decidable (zfG p):=inferInstanceAs (Decidable (_/\_))
def ze4(m:Img):Prop:=(1<=m.w/\m.w<=4096)/\(1<=m.h/\m.h<=4096)/\m.w*m.h<=65536/\(m.px.length:Int)=m.w*m.h/\∀p∈m.px,zfG p
instance (m:Img):Decidable (ze4 m):=inferInstanceAs (Decidable (_/\_))
theorem zgO(x r g b a:Int):CG0 403 [u8 x,.ptr [u8 r,u8 g,u8 b,u8 a]] [] (u8 (min x a)) []:=by
 refine zc Tryz.func403 ?_;exact zj rfl
theorem zCR(p:Pix)(r g b a:Int):CG0 402 [.agg (zgN p),.fn 403 [.ptr [u8 r,u8 g,u8 b,u8 a]]] [] (.agg [u8 (min p.r a),u8 (min p.g a),u8 (min p.b a),u8 (min p.a a)]) []:=by
 refine zc Tryz.func402 ?_;exact Dr.k<|zb.t (zgO _ r g b a)<|zb.t (zgO _ r g b a)<|zb.t (zgO _ r g b a)<|zb.t (zgO _ r g b a)<|.refl
theorem zyw(p:Pix):CG0 382 [.agg (zgN p)] [] (.agg [u8 (min p.r p.a),u8 (min p.g p.a),u8 (min p.b p.a),u8 (min p.a p.a)]) []:=by
 refine zc Tryz.func382 ?_;exact zb.t (zCR p p.r p.g p.b p.a)<|.refl
theorem zyx(p:Pix):CG0 327 [.agg (zgN p)] [] (pr (zfG p)) []:=by
 refine zc Tryz.func327 ?_;refine Dr.k<|zb.t (zyw p)<|zF (p:=min p.r p.a=p.r/\min p.g p.a=p.g/\min p.b p.a=p.b/\min p.a p.a=p.a/\True) ?_;constructor
 ·rintro⟨h1,h2,h3,_⟩
  exact⟨oM,oM,oM⟩
 ·rintro⟨h1,h2,h3⟩
  exact⟨oM,oM,oM,oM,trivial⟩
theorem zvw(p:Pix):CG0 326 [.agg (zgN p)] [] (pr (¬zfG p)) []:=by
 refine zc Tryz.func326 ?_;exact zb.t (zyx p)<|zF K7
def zfH(xs:List Pix):Int:=match xs.findIdx? (λp=>decide (¬zfG p)) with
 | some i=>i
 | none=> -1
theorem zvx{xs:List Pix}{i:Nat}{p:Pix}(h:∀(j:Nat) q,j < i->xs[j]? =some q->zfG q)(hi:xs[i]? =some p)(hp:¬zfG p):zfH xs=i:=by
 have:xs.findIdx? (λp=>decide (¬zfG p))=some i:=by
  rw[KI];obtain⟨hl,he⟩:=Xc.1 hi;refine⟨hl,by simp[he,hp],λj hj=>?_⟩;have:=h j xs[j] hj (Xb _);simp[this]
 simp only[zfH,this]
variable{xs:List Pix}
theorem zii(h:∀p∈xs,zfG p):zfH xs= -1:=by
 have:xs.findIdx? (λp=>decide (¬zfG p))=none:=by
  rw[Kt];intro p hp;simp[h p hp]
 simp only[zfH,this]
theorem zlr:0<=zfH xs↔¬∀p∈xs,zfG p:=by
 constructor
 ·intro h hall;rw[zii hall]at h;omega
 ·intro h;unfold zfH
  split
  ·omega
  ·rename_i hn;rw[Kt]at hn;exact absurd (λp hp=>by simpa using hn p hp) h
theorem zAt(xs:List Pix)(hl:xs.length<=9223372036854775807):CG0 381 [.sl zgN xs,.fn 326 []] [] (i64 (zfH xs)) []:=by
 refine zc Tryz.func381 ?_;intro hl0;refine⟨Int,λi=>⟨[(8,i64 i),(7,i64 xs.length),(0,.sl zgN xs),(1,.fn 326 [])],[],0,19,0⟩,λi=>0<=i/\i<=xs.length/\∀(j:Nat) q,(j:Int) < i->xs[j]? =some q->zfG q,λi=>((xs.length:Int) - i).toNat,0,?_,?_,?_⟩
 ·exact⟨oM,oM,λj q hj=>by omega⟩
 ·exact zE []
 rintro i ⟨h1,h2,h3⟩
 refine⟨λh4=>?_,λh4=>?_⟩
 ·refine Ob.o ?_;intro x hx;refine zb.t (zvw x)<|⟨λh5=>?_,λh5=>?_⟩
  ·refine zj ?_;rw[zvx (i:=i.toNat) (λj q hj=>h3 j q oM) hx h5];omega
  ·refine Ar.o<|⟨i+1,⟨oM,oM,λj q hj hq=>?_⟩,zE [],by dsimp only;omega⟩
   by_cases e:j=i.toNat
   ·subst e;rw[hx]at hq;cases hq;exact Xa.1 h5
   ·exact h3 j q oM hq
 ·refine zj (zii λp hp=>?_).symm;obtain⟨j,hj,he⟩:=Ka hp;exact h3 j p oM (by rw[← he];exact Xb hj)
theorem zse(xs:List Pix)(hl:xs.length<=9223372036854775807):CG0 325 [.sl zgN xs,.fn 326 []] [] (pr (¬∀p∈xs,zfG p)) []:=by
 refine zc Tryz.func325 ?_;exact zb.t (zAt xs hl)<|zF zlr
theorem zBq(n:Int):CG0 324 [i64 n] [] (pr (1<=n/\n<=4096)) []:=by
 refine zc Tryz.func324 ?_;refine⟨λh=>?_,λh=>?_⟩
 ·exact zF oM
 ·exact zd oM
theorem zyy{a b A B:Int}(h1:0<=a)(h2:a<=A)(h3:0<=b)(h4:b<=B):0<=a*b/\a*b<=A*B:=
 ⟨XH h1 h3,Yq h2 h4 h3 oM⟩
theorem zmG(m:Img)(hl:m.px.length<=9223372036854775807):CG0 266 [.agg (zkK m)] [] (pr (ze4 m)) []:=by
 refine zc Tryz.func266 ?_;refine zb.t (zBq m.w)<|⟨λh1=>?_,λh1=>?_⟩
 ·exact zd (λh=>h1 h.1)
 have h1:=Xa.1 h1;refine zb.t (zBq m.h)<|⟨λh2=>?_,λh2=>?_⟩
 ·exact zd (λh=>h2 h.2.1)
 have h2:=Xa.1 h2;have hm:=zyy (show 0<=m.w by omega) h1.2 (show 0<=m.h by omega) h2.2;refine Ar.o<|Br.mk (λh3=>?_) (λh3=>?_)
 ·exact zd (λh=>by have:=h.2.2.1;omega)
 intro hl0;refine Ar.o<|Br.mk (λh4=>?_) (λh4=>?_)
 ·exact zd (λh=>h4 h.2.2.2.1)
 exact zb.t (zse m.px hl)<|zF<|⟨λh=>⟨h1,h2,oM,Xa.1 h4,Xa.1 h⟩,λh h'=>h' h.2.2.2.2⟩
theorem zCS(w h:Int):CG0 348 [i64 w,i64 h] [] (pr ((1<=w/\w<=4096)/\(1<=h/\h<=4096)/\w*h<=65536)) []:=by
 refine zc Tryz.func348 ?_;refine⟨λh1=>?_,λh1=>zd oM⟩;refine⟨λh2=>?_,λh2=>zd oM⟩;refine⟨λh3=>?_,λh3=>zd oM⟩;refine⟨λh4=>?_,λh4=>zd oM⟩;have hm:=zyy (show 0<=w by omega) h2 (show 0<=h by omega) h4;exact Ar.o<|zF ⟨λh=>⟨⟨h1,h2⟩,⟨h3,h4⟩,h⟩,λh=>h.2.2⟩
theorem zvy(p:Pix):CG0 349 [.agg (zgN p)] [] (pr (zfG p)) []:=by
 refine zc Tryz.func349 ?_;refine⟨λh1=>?_,λh1=>zd (λh=>h1 h.1)⟩;refine⟨λh2=>?_,λh2=>zd (λh=>h2 h.2.1)⟩;exact zF ⟨λh=>⟨h1,h2,h⟩,λh=>h.2.2⟩
theorem zkL(m:Img):CG0 298 [.agg (zkK m)] [] (pr (ze4 m)) []:=by
 refine zc Tryz.func298 ?_;refine zb.t (zCS m.w m.h)<|⟨λh1=>zd (λh=>h1 ⟨h.1,h.2.1,h.2.2.1⟩),λh1=>?_⟩;have h1:=Xa.1 h1;have hm:=zyy (show 0<=m.w by omega) h1.1.2 (show 0<=m.h by omega) h1.2.1.2;intro hl0;refine Ar.o<|Br.mk (λh4=>zd (λh=>h4 h.2.2.2.1)) (λh4=>?_);have h4:=Xa.1 h4
 refine⟨Int,λi=>⟨[(3,i64 i),(1,.loc 0 0)],[(0,.box 53 (zkK m))],1,35,0⟩,λi=>0<=i/\i<=m.px.length/\∀(j:Nat) q,(j:Int) < i->m.px[j]? =some q->zfG q,λi=>((m.px.length:Int) - i).toNat,0,?_,?_,?_⟩
 ·exact⟨oM,oM,λj q hj=>by omega⟩
 ·exact zf [0]
 rintro i ⟨g1,g2,g3⟩
 intro hl1;refine⟨λg4=>?_,λg4=>?_⟩
 ·refine Ob.o ?_;intro x hx;refine zb.t (zvy x)<|⟨λg5=>?_,λg5=>?_⟩
  ·exact zd λh=>g5 (h.2.2.2.2 x (Xd hx))
  ·refine Ar.o<|⟨i+1,⟨oM,oM,λj q hj hq=>?_⟩,zf [0],by dsimp only;omega⟩
   by_cases e:j=i.toNat
   ·subst e;rw[hx]at hq;cases hq;exact Xa.1 g5
   ·exact g3 j q oM hq
 ·refine zR ⟨h1.1,h1.2.1,h1.2.2,h4,λp hp=>?_⟩;obtain⟨j,hj,he⟩:=Ka hp;exact g3 j p oM (by rw[← he];exact Xb hj)
theorem zkM{p q:Pix}:(p.r=q.r/\p.g=q.g/\p.b=q.b/\p.a=q.a/\True)↔p=q:=by
 cases p;cases q;simp
theorem zAu{ys:List Pix}{i:Int}(hl:(xs.length:Int)=ys.length)(hi:¬i < xs.length)(h:∀j:Nat,(j:Int) < i->xs[j]? =ys[j]?):xs=ys:=by
 refine Ke λj=>?_
 by_cases hj:(j:Int) < i
 ·exact h j hj
 ·rw[XD oM,XD oM]
theorem zAv(xs ys:List Pix):CG0 377 [.sl zgN xs,.sl zgN ys] [] (pr (xs=ys)) []:=by
 refine zc Tryz.func377 ?_;intro hl1 hl2;refine⟨λh1=>zd λe=>h1 (by rw[e]),λh1=>?_⟩;have h1:=Xa.1 h1;intro hl3;refine⟨Int,λi=>⟨[(13,i64 i),(12,i64 xs.length),(0,.sl zgN xs),(1,.sl zgN ys)],[],0,26,0⟩,λi=>0<=i/\i<=xs.length/\∀j:Nat,(j:Int) < i->xs[j]? =ys[j]?,λi=>((xs.length:Int) - i).toNat,0,?_,?_,?_⟩
 ·exact⟨oM,oM,λj hj=>by omega⟩
 ·exact zE []
 rintro i ⟨h4,h5,h6⟩
 refine⟨λh7=>?_,λh7=>?_⟩
 ·refine Dr.k<|Ob.o ?_;intro x hx;refine Ob.o ?_;intro y hy;refine⟨λh8=>?_,λh8=>?_⟩
  ·refine zd λe=>h8 (zkM.2 ?_)
   subst e;rw[hx]at hy;exact Xi hy
  ·refine Ar.o<|⟨i+1,⟨oM,oM,λj hj=>?_⟩,zE [],by dsimp only;omega⟩
   by_cases e:j=i.toNat
   ·subst e;rw[hx,hy,zkM.1 (Xa.1 h8)]
   ·exact h6 j oM
 ·exact zR (zAu h1 h7 h6)
theorem zmH(m n:Img):CG0 322 [.agg (zkK m),.agg (zkK n)] [] (pr (m=n)) []:=by
 refine zc Tryz.func322 ?_;refine⟨λh1=>?_,λh1=>zd λe=>h1 (by rw[e])⟩;refine⟨λh2=>?_,λh2=>zd λe=>h2 (by rw[e])⟩;refine zb.t (zAv m.px n.px)<|zF ⟨λh=>?_,λh=>by rw[h]⟩
 cases m;cases n;simp_all
def zd3:Pix:=⟨0,0,0,0⟩
structure zkN where
 o:Int
 c:Pix
 deriving DecidableEq
def zgP(s:zkN):List SV:=[i64 s.o,u8 s.c.r,u8 s.c.g,u8 s.c.b,u8 s.c.a]
theorem ztR{p q:zkN}:(p.o=q.o/\p.c.r=q.c.r/\p.c.g=q.c.g/\p.c.b=q.c.b/\p.c.a=q.c.a/\True)↔p=q:=by
 rcases p with⟨a,b,c,d,e⟩;rcases q with⟨a',b',c',d',e'⟩;simp
def zqD:Int->List zkN->Prop
 | _,[]=>True
 | lo,s::l=>(lo<=s.o/\s.o<=65536)/\zqD s.o l
instance upDec:∀lo l,Decidable (zqD lo l)
 | _,[]=>isTrue trivial
 | _,s::l=>haveI:=upDec s.o l;inferInstanceAs (Decidable (_/\_))
def zeH(l:List zkN):Prop:=(1<=(l.length:Int)/\(l.length:Int)<=16)/\zqD 0 l
instance (l:List zkN):Decidable (zeH l):=inferInstanceAs (Decidable (_/\_))
theorem zyz(l:List zkN):CG0 413 [.sl zgP l] [] (pr (zeH l)) []:=by
 refine zc Tryz.func413 ?_;intro hl1;refine⟨λh=>zd (λk=>by have:=k.1.1;omega),λh2=>?_⟩;intro hl2;refine⟨λh=>zd (λk=>by have:=k.1.2;omega),λh3=>?_⟩;intro hl4;refine⟨Int×Int,λ⟨i,at_⟩=>⟨[(3,i64 at_),(14,.sl zgP l),(15,i64 l.length),(16,i64 i)],[],0,32,0⟩,λ(i,at_)=>0<=i/\i<=l.length/\(zqD 0 l↔zqD at_ (l.drop i.toNat)),λ(i,_)=>((l.length:Int) - i).toNat,(0,0),?_,?_,?_⟩
 ·exact⟨oM,oM,K7⟩
 ·exact zE []
 rintro⟨i,at_⟩ ⟨g1,g2,g3⟩
 refine⟨λh5=>?_,λh5=>?_⟩
 ·refine Ob.o ?_;intro x hx
  have hd:l.drop i.toNat=x::l.drop (i.toNat+1):=by
   obtain⟨hi,he⟩:=Xc.1 hx;rw[KG hi,he]
  rw[hd]at g3;refine⟨λh6=>zd (λk=>by have:=(g3.1 k.2).1;omega),λh6=>?_⟩;refine⟨λh7=>zd (λk=>by have:=(g3.1 k.2).1;omega),λh7=>?_⟩;refine Ar.o<|⟨(i+1,x.o),⟨oM,oM,?_⟩,zE [],by dsimp only;omega⟩;rw[g3,show(i+1).toNat=i.toNat+1 by omega];exact⟨λk=>k.2,λk=>⟨oM,k⟩⟩
 ·refine zR ⟨oM,g3.2 ?_⟩;rw[Ky oM];trivial
theorem zmI(l:List zkN):CG0 417 [.sl zgP l] [] (pr (zeH l)) []:=by
 refine zc Tryz.func417 ?_;refine⟨Int×Int,λ⟨i,_⟩=>⟨[(0,.sl zgP l),(3,i64 i)],[],0,50,0⟩,λ(i,at_)=>0<=i/\i<=l.length/\(i=0->at_=0)/\(0 < i->0<=at_/\∃y,l[(i - 1).toNat]? =some y/\y.o=at_)/\(zqD 0 l↔zqD at_ (l.drop i.toNat)),λ(i,_)=>((l.length:Int) - i).toNat,(0,0),?_,?_,?_⟩
 ·exact⟨oM,oM,λ_=>rfl,λh=>by omega,K7⟩
 ·exact zE []
 rintro⟨i,at_⟩ ⟨g1,g2,g4,g5,g3⟩
 intro hl1;refine⟨λh5=>?_,λh5=>?_⟩
 ·refine Dr.k<|Ob.o ?_;intro x hx
  have hd:l.drop i.toNat=x::l.drop (i.toNat+1):=by
   obtain⟨hi,he⟩:=Xc.1 hx;rw[KG hi,he]
  rw[hd]at g3
  have hat:0<=at_:=by
   by_cases h0:0 < i
   ·exact(g5 h0).1
   ·have:=g4 oM;omega
  refine⟨λh6=>zd (λk=>by have:=(g3.1 k.2).1;omega),λh6=>?_⟩;refine Ob.o ?_;intro x' hx';rw[hx]at hx';cases hx'
  refine⟨λh7=>zd (λk=>by have:=(g3.1 k.2).1;omega),λh7=>?_⟩;refine⟨λh8=>?_,λh8=>?_⟩
  ·obtain⟨_,y,hy,hyo⟩:=g5 h8;refine Ob.o ?_;intro x' hx';rw[hx]at hx';cases hx'
   refine Ar.o<|Ob.o ?_;intro y' hy';rw[hy]at hy';cases hy'
   refine⟨λh9=>zd (λk=>by have:=(g3.1 k.2).1;omega),λh9=>?_⟩;refine Ar.o<|⟨(i+1,x.o),⟨oM,oM,λh=>by omega,λ_=>⟨oM,x,by rw[show(i+1 - 1).toNat=i.toNat by omega];exact hx,rfl⟩,?_⟩,zE [],by dsimp only;omega⟩;rw[g3,show(i+1).toNat=i.toNat+1 by omega];exact⟨λk=>k.2,λk=>⟨oM,k⟩⟩
  ·refine Ar.o ?_;have:=g4 oM;refine⟨(i+1,x.o),⟨oM,oM,λh=>by omega,λ_=>⟨oM,x,by rw[show(i+1 - 1).toNat=i.toNat by omega];exact hx,rfl⟩,?_⟩,zE [],by dsimp only;omega⟩;rw[g3,show(i+1).toNat=i.toNat+1 by omega];exact⟨λk=>k.2,λk=>⟨oM,k⟩⟩
 ·have hall:zqD 0 l:=g3.2 (by rw[Ky oM];trivial);intro hl2;refine⟨λh6=>?_,λh6=>?_⟩
  ·intro hl3;exact zF ⟨λk=>⟨⟨oM,k⟩,hall⟩,λk=>k.1.2⟩
  ·exact zd λk=>h6 k.1.1
theorem zsf{xs ys:List zkN}{i:Int}(hl:(xs.length:Int)=ys.length)(hi:¬i < xs.length)(h:∀j:Nat,(j:Int) < i->xs[j]? =ys[j]?):xs=ys:=by
 refine Ke λj=>?_
 by_cases hj:(j:Int) < i
 ·exact h j hj
 ·rw[XD oM,XD oM]
theorem zAw(xs ys:List zkN):CG0 412 [.sl zgP xs,.sl zgP ys] [] (pr (xs=ys)) []:=by
 refine zc Tryz.func412 ?_;intro hl1 hl2;refine⟨λh1=>zd λe=>h1 (by rw[e]),λh1=>?_⟩;have h1:=Xa.1 h1;intro hl3;refine⟨Int,λi=>⟨[(13,i64 i),(12,i64 xs.length),(0,.sl zgP xs),(1,.sl zgP ys)],[],0,26,0⟩,λi=>0<=i/\i<=xs.length/\∀j:Nat,(j:Int) < i->xs[j]? =ys[j]?,λi=>((xs.length:Int) - i).toNat,0,?_,?_,?_⟩
 ·exact⟨oM,oM,λj hj=>by omega⟩
 ·exact zE []
 rintro i ⟨h4,h5,h6⟩
 refine⟨λh7=>?_,λh7=>?_⟩
 ·refine Dr.k<|Ob.o ?_;intro x hx;refine Ob.o ?_;intro y hy;refine⟨λh8=>?_,λh8=>?_⟩
  ·refine zd λe=>h8 (ztR.2 ?_)
   subst e;rw[hx]at hy;exact Xi hy
  ·refine Ar.o<|⟨i+1,⟨oM,oM,λj hj=>?_⟩,zE [],by dsimp only;omega⟩
   by_cases e:j=i.toNat
   ·subst e;rw[hx,hy,ztR.1 (Xa.1 h8)]
   ·exact h6 j oM
 ·exact zR (zsf h1 h7 h6)
def zqE(m:Int):Prop:=1<=m/\m<=3
instance (m:Int):Decidable (zqE m):=inferInstanceAs (Decidable (_/\_))
theorem zyA{n:Int}(h:R64 n):ya (n:Rat)<=2:=by
 have h1:=zdG n;have h2:=qT h;omega
structure Pnt where
 k:Int
 c:Pix
 p0:Pt
 p1:Pt
 r:Int
 st:List zkN
 sp:Int
 im:Img
 sm:Int
 t:AF
def vf(p:Pnt):List SV:=
 i64 p.k::u8 p.c.r::u8 p.c.g::u8 p.c.b::u8 p.c.a::i64 p.p0.x::i64 p.p0.y::i64 p.p1.x::i64 p.p1.y::i64 p.r::.sl zgP p.st::i64 p.sp::i64 p.im.w::i64 p.im.h::.sl zgN p.im.px::i64 p.sm::afE p.t
def Pnt.same(p q:Pnt):Prop:=p.k=q.k/\p.c=q.c/\p.p0=q.p0/\p.p1=q.p1/\p.r=q.r/\p.st=q.st/\p.sp=q.sp/\p.im=q.im/\p.sm=q.sm/\p.t.same q.t
instance (p q:Pnt):Decidable (p.same q):=inferInstanceAs (Decidable (_/\_))
theorem zsg(p q:Pnt)(hp:p.t.le 10000000)(hq:q.t.le 10000000):CG0 397 [.agg (vf p),.agg (vf q)] [] (pr (p.same q)) []:=by
 refine zc Tryz.func397 ?_;refine⟨λh1=>?_,λh1=>zd (λe=>h1 e.1)⟩;refine⟨λh2=>?_,λh2=>zd (λe=>h2 (zkM.2 e.2.1))⟩;refine⟨λh3=>?_,λh3=>zd (λe=>h3 (k9.2 e.2.2.1))⟩;refine⟨λh4=>?_,λh4=>zd (λe=>h4 (k9.2 e.2.2.2.1))⟩;refine⟨λh5=>?_,λh5=>zd (λe=>h5 e.2.2.2.2.1)⟩;refine⟨λh6=>?_,λh6=>zd (λe=>h6 e.2.2.2.2.2.2.1)⟩;refine⟨λh7=>?_,λh7=>zd (λe=>h7 e.2.2.2.2.2.2.2.2.1)⟩;refine zb.t (zAw p.st q.st) ?_
 refine⟨λh8=>?_,λh8=>zd (λe=>h8 e.2.2.2.2.2.1)⟩;refine zb.t (zmH p.im q.im)<|⟨λh9=>?_,λh9=>zd (λe=>h9 e.2.2.2.2.2.2.2.1)⟩;exact zb.t (zs5 p.t q.t hp hq)<|zF ⟨λh=>⟨h1,zkM.1 h2,k9.1 h3,k9.1 h4,h5,h8,h6,h9,h7,h⟩,λe=>e.2.2.2.2.2.2.2.2.2⟩
theorem zkO:LEs yX (afE qr):=by
 have h0:LEs z4 (brE zBR):=jU;have h:LEs (z4++(z4++(z4++(z4++(z4++z4))))) (afE qr):=LEs.append h0 (LEs.append h0 (LEs.append h0 (LEs.append h0 (LEs.append h0 h0))));exact h
def zbj(k:Int):Pnt:=⟨k,zd3,zp,zp,0,[],0,⟨0,0,[]⟩,0,qr⟩
def nil1:SV:=.val (.slice none 0 0)
theorem zyB(k:Int):LE (.agg (i64 k::u8 0::u8 0::u8 0::u8 0::i64 0::i64 0::i64 0::i64 0::i64 0::nil1::i64 0::i64 0::i64 0::nil1::i64 0::yX)) (.agg (vf (zbj k))):=by
 have h:=zkO;exact qF (.cons .refl (.cons .refl (.cons .refl (.cons .refl (.cons .refl (.cons .refl (.cons .refl (.cons .refl (.cons .refl (.cons .refl (.cons zD (.cons .refl (.cons .refl (.cons .refl (.cons zD (.cons .refl h))))))))))))))))
def vn(p:Pnt):Pnt:=
 if p.k=1 then { p with c:=zd3,t:=qr } else if p.k=2 then { p with p0:=zp,p1:=zp,st:=[],sp:=0,t:=qr }
 else if p.k=3 then { p with p0:=zp,r:=0,st:=[],sp:=0,t:=qr } else if p.k=4 then { p with im:=⟨0,0,[]⟩,sp:=0,sm:=0,t:=qr } else { p with t:=qr }
theorem zvz(p:Pnt):CG0 398 [.agg (vf p)] [] (.agg (vf (vn p))) []:=by
 have fin:∀{σ:SV} {q:Pnt},vn p=q->LE σ (.agg (vf q))->LE σ (.agg (vf (vn p))):=λe h=>e ▸ h
 refine zc Tryz.func398 ?_;refine⟨λh1=>?_,λh1=>?_⟩
 ·exact fin (q:={ p with c:=zd3,t:=qr }) (by rw[vn,if_pos h1])<|qF (.cons .refl (.cons .refl (.cons .refl (.cons .refl (.cons .refl (.cons .refl (.cons .refl (.cons .refl (.cons .refl (.cons .refl (.cons .refl (.cons .refl (.cons .refl (.cons .refl (.cons .refl (.cons .refl zkO))))))))))))))))
 refine⟨λh2=>?_,λh2=>?_⟩
 ·exact fin (q:={ p with p0:=zp,p1:=zp,st:=[],sp:=0,t:=qr }) (by rw[vn,if_neg h1,if_pos h2])<|qF (.cons .refl (.cons .refl (.cons .refl (.cons .refl (.cons .refl (.cons .refl (.cons .refl (.cons .refl (.cons .refl (.cons .refl (.cons zD (.cons .refl (.cons .refl (.cons .refl (.cons .refl (.cons .refl zkO))))))))))))))))
 refine⟨λh3=>?_,λh3=>?_⟩
 ·exact fin (q:={ p with p0:=zp,r:=0,st:=[],sp:=0,t:=qr }) (by rw[vn,if_neg h1,if_neg h2,if_pos h3])<|qF (.cons .refl (.cons .refl (.cons .refl (.cons .refl (.cons .refl (.cons .refl (.cons .refl (.cons .refl (.cons .refl (.cons .refl (.cons zD (.cons .refl (.cons .refl (.cons .refl (.cons .refl (.cons .refl zkO))))))))))))))))
 refine⟨λh4=>?_,λh4=>?_⟩
 ·exact fin (q:={ p with im:=⟨0,0,[]⟩,sp:=0,sm:=0,t:=qr }) (by rw[vn,if_neg h1,if_neg h2,if_neg h3,if_pos h4])<|qF (.cons .refl (.cons .refl (.cons .refl (.cons .refl (.cons .refl (.cons .refl (.cons .refl (.cons .refl (.cons .refl (.cons .refl (.cons .refl (.cons .refl (.cons .refl (.cons .refl (.cons zD (.cons .refl zkO))))))))))))))))
 ·exact fin (q:={ p with t:=qr }) (by rw[vn,if_neg h1,if_neg h2,if_neg h3,if_neg h4])<|qF (.cons .refl (.cons .refl (.cons .refl (.cons .refl (.cons .refl (.cons .refl (.cons .refl (.cons .refl (.cons .refl (.cons .refl (.cons .refl (.cons .refl (.cons .refl (.cons .refl (.cons .refl (.cons .refl zkO))))))))))))))))
theorem ze5(n:Int):CG0 401 [i64 n] [] (pr (zqE n)) []:=by
 refine zc Tryz.func401 ?_;refine⟨λh1=>?_,λh1=>zd (λh=>h1 h.1)⟩;exact zF ⟨λh=>⟨h1,h⟩,λh=>h.2⟩
theorem zbk(n:Int):CG0 418 [i64 n] [] (pr (zqE n)) []:=by
 refine zc Tryz.func418 ?_;refine⟨λh1=>?_,λh1=>zd (λh=>h1 h.1)⟩;exact zF ⟨λh=>⟨h1,h⟩,λh=>h.2⟩
theorem zgQ(p:Pnt):CG0 400 [.agg (vf p)] [] (pr (zeH p.st/\zqE p.sp)) []:=by
 refine zc Tryz.func400 ?_;refine zb.t (zyz p.st)<|⟨λh1=>?_,λh1=>zd (λh=>h1 h.1)⟩;exact zb.t (ze5 p.sp)<|zF ⟨λh=>⟨h1,h⟩,λh=>h.2⟩
end Go.Gs
