/- Strokes of many polylines, both texts. -/
import Derived.Test.YtakicgnbhdpknaaGreatDoorNBC
set_option maxRecDepth 100000
set_option maxHeartbeats 8000000
set_option linter.all false
namespace Go.Gs
open Proofs.Tryz
open Go.Proofs
def zaN(l:LZ)(pen:Pen):LQ:=l.flatMap λp=>(kz p pen).1
variable{l:LZ}{pen:Pen}{i:Nat}
def zmU{x:Pl}(h:l[i]?=some x):zaN (l.take (i+1)) pen=zaN (l.take i) pen++(kz x pen).1:=by
 unfold zaN;rw[Xl,h,Qk];simp
def zdX{pen:Pen}:∀{l:LZ},(∀p∈l,(kz p pen).2=0)->qk l pen=(zaN l pen,0)
 |[],_=>rfl
 |p::r,h=>by
  have ih:=zdX λq hq=>h q (.tail _ hq)
  unfold qk;rw[qH (h p (.head _)),ih];rfl
def zcO{pen:Pen}:∀{l:LZ} {i:Nat} {x:Pl},l[i]?=some x->(∀p∈l.take i,(kz p pen).2=0)->¬(kz x pen).2=0->qk l pen=([],(kz x pen).2)
 |p::r,0,x,h,_,hx=>by
  cases h
  unfold qk;rw[Xe hx]
 |p::r,i+1,x,h,ha,hx=>by
  have ih:=zcO (l:=r) (i:=i) h (λq hq=>ha q (by rw[Km];exact .tail _ hq)) hx;unfold qk;rw[qH (ha p (by rw[Km];exact .head _)),ih];exact Xe hx
variable{p:Pl}
def zcP(h:(kz p pen).2=0)(hp:p.pts.length<=4096):vF (kz p pen).1/\qa (kz p pen).1<=4096/\(kz p pen).1.length<=10000:=by
 have rc:=zhT (pen:=pen) hp;unfold kz at h ⊢
 split at h <;> rename_i k1
 ·cases h
 rw[Xc k1]
 split at h <;> rename_i k2
 ·cases h
 rw[Xc k2]
 split at h <;> rename_i k3
 ·cases h
 rw[Xc k3]
 split at h <;> rename_i k4
 ·cases h
 rw[Xc k4]
 split at h <;> rename_i k5
 ·cases h
 rw[Xc k5];exact⟨Xa.1 k4,oN,rc.2⟩
def zfN{pen:Pen}:∀{l:LZ},(∀p∈l,(kz p pen).2=0)->(∀p∈l,p.pts.length<=4096)->vF (zaN l pen)/\qa (zaN l pen)<=4096*l.length/\(zaN l pen).length<=10000*l.length
 |[],_,_=>⟨λr hr=>(by cases hr),Xk 0,Xk 0⟩
 |p::r,h,hl=>by
  obtain⟨i1,i2,i3⟩:=zfN (l:=r) (λq hq=>h q (.tail _ hq)) (λq hq=>hl q (.tail _ hq));obtain⟨f1,f2,f3⟩:=zcP (h p (.head _)) (hl p (.head _));have e:zaN (p::r) pen=(kz p pen).1++zaN r pen:=rfl;rw[e,zA5,Xq,Xn];refine⟨λq hq=>?_,oM,oM⟩
  rcases Xs.1 hq with hq|hq
  ·exact f1 q hq
  exact i1 q hq
def zgR{P:Pl->Prop}{x:Pl}(h:l[i]?=some x)(ha:∀p∈l.take i,P p)(hx:P x):∀p∈l.take (i+1),P p:=by
 intro p hp;rw[Xl,h]at hp
 rcases Xs.1 hp with hp|hp
 ·exact ha p hp
 simp at hp;rw[hp];exact hx
def zvE(l:LZ)(pen:Pen)(hl:l.length<=16777216)(hp:∀q∈l,q.pts.length<=4096):CX 177 [.sl plE l,wr pen] (rgE (qo l pen)):=by
 refine zc func177 ?_;have es:qo l pen=if¬kC pen then([],13) else if (qk l pen).2≠0 then([],(qk l pen).2) else if 4096<qa (qk l pen).1 then([],5) else((qk l pen).1,0):=rfl
 refine wg (zep pen)<|⟨λk=>?_,λk=>?_⟩
 ·have k:¬kC pen:=k;exact qG (by rw[es,Xe k])
 have k:kC pen:=Xa.1 k;rw[kH k]at es;intro hl1;refine⟨Nat,λi=>⟨[(3,.loc 0 0),(6,.own 1),(16,.sl plE l),(17,i64 l.length),(18,i64 i)],[(0,.box 61 (jb pen)),(1,.arr 148 zk 1 (zaN (l.take i) pen))],2,43,0⟩,λi=>i<=l.length/\∀q∈l.take i,(kz q pen).2=0,λi=>l.length-i,0,?_,?_,?_⟩
 ·exact⟨Xh _,λq hq=>by cases hq⟩
 ·exact zB [(0,some 0),(1,none)]
 rintro i ⟨h1,h2⟩
 obtain⟨f1,f2,f3⟩:=zfN h2 λq hq=>hp q (XL hq)
 rw[Xo]at f2 f3;refine⟨λg:(i:Int)<l.length=>?_,λg:¬(i:Int)<l.length=>?_⟩
 ·refine wb λx(hx:l[i]?=some x)=>?_;have hpx:=hp x (Xf hx);refine wg (zsv x pen hpx)<|⟨λz=>?_,λz=>?_⟩
  ·have z:¬(kz x pen).2=0:=z;refine qG ?_;rw[es,zcO hx h2 z];exact Xe z
  have z:(kz x pen).2=0:=Xa.1 z;obtain⟨s1,s2,s3⟩:=zcP z hpx;refine⟨(kz x pen).1,rfl,Ob.mk ⟨(by show _*(24:Int)<=_;omega),oM,dC,λ_ _=>rfl⟩ ?_⟩;exact wa<|⟨i+1,⟨oM,zgR hx h2 z⟩,zu [0,3] ⟨rfl,aR (zmU hx).symm,tV⟩,oN⟩
 have et:l.take i=l:=Xi oM;rw[et]at h2 f1;rw[zdX h2,qH rfl]at es;have et2:zaN (l.take i) pen=zaN l pen:=by rw[et]
 refine wg (zkP (zaN (l.take i) pen) oM)<|⟨λk5=>?_,λk5=>?_⟩
 ·have k5:(4096:Int)<(if vF (zaN (l.take i) pen) then(qa (zaN (l.take i) pen):Int) else 0):=k5;rw[et,Xe f1]at k5;exact qG (by rw[es,Xe oN])
 have k5:¬(4096:Int)<(if vF (zaN (l.take i) pen) then(qa (zaN (l.take i) pen):Int) else 0):=k5;rw[et,Xe f1]at k5;rw[Xc oN]at es;rw[es];exact zM (zZ et2) .refl
def zvF(l:LZ)(pen:Pen)(hl:l.length<=16777216)(hp:∀q∈l,q.pts.length<=4096):CX 158 [.sl plE l,wr pen] (rgE (qo l pen)):=by
 refine zc func158 ?_;have es:qo l pen=if¬kC pen then([],13) else if (qk l pen).2≠0 then([],(qk l pen).2) else if 4096<qa (qk l pen).1 then([],5) else((qk l pen).1,0):=rfl
 refine wg (zcJ pen)<|⟨λk=>?_,λk=>?_⟩
 ·have k:¬kC pen:=k;exact qG (by rw[es,Xe k])
 have k:kC pen:=Xa.1 k;rw[kH k]at es;refine⟨LU,zk,[],rfl,wb2 ?_⟩;refine⟨Nat,λi=>⟨[(0,.sl plE l),(3,.loc 0 0),(6,.own 1),(7,i64 i)],[(0,.box 61 (jb pen)),(1,.arr 148 zk 1 (zaN (l.take i) pen))],2,50,0⟩,λi=>i<=l.length/\∀q∈l.take i,(kz q pen).2=0,λi=>l.length-i,0,?_,?_,?_⟩
 ·exact⟨Xh _,λq hq=>by cases hq⟩
 ·exact zf [0,1]
 rintro i ⟨h1,h2⟩
 obtain⟨f1,f2,f3⟩:=zfN h2 λq hq=>hp q (XL hq)
 rw[Xo]at f2 f3;intro hl1;refine⟨λg:(i:Int)<l.length=>?_,λg:¬(i:Int)<l.length=>?_⟩
 ·refine wd<|wb λx(hx:l[i]?=some x)=>?_;have hpx:=hp x (Xf hx);refine wg (zsw x pen hpx)<|wh<|⟨λz=>?_,λz=>?_⟩
  ·have z:¬(kz x pen).2=0:=z;refine qG ?_;rw[es,zcO hx h2 z];exact Xe z
  have z:(kz x pen).2=0:=Xa.1 z;obtain⟨s1,s2,s3⟩:=zcP z hpx;refine⟨Nat,λj=>⟨[(0,.sl plE l),(3,.loc 0 0),(6,.own 1),(7,i64 i),(8,.sl zk (kz x pen).1),(10,i64 j)],[(0,.box 61 (jb pen)),(1,.arr 148 zk 1 (zaN (l.take i) pen++(kz x pen).1.take j))],2,50,0⟩,λj=>j<=(kz x pen).1.length,λj=>(kz x pen).1.length-j,0,?_,?_,?_⟩
  ·exact Xh _
  ·exact zu [0,1] ⟨rfl,aR (XE _).symm,tV⟩
  rintro j hj
  intro hl3;refine⟨λk2:(j:Int)<(kz x pen).1.length=>?_,λk2:¬(j:Int)<(kz x pen).1.length=>?_⟩
  ·refine wb λr(hr:(kz x pen).1[j]?=some r)=>?_;refine⟨LU,zk,[r],rfl,wb0 ?_⟩;refine⟨[r],rfl,wb24 ?_⟩;exact wa<|⟨j+1,oM,zu [0,3] ⟨rfl,aR (by rw[Xl,hr];exact XZ ..),tV⟩,oN⟩
  exact wa<|⟨i+1,⟨oM,zgR hx h2 z⟩,zu [0,1] ⟨rfl,aR (by rw[show(kz x pen).1.take j=(kz x pen).1 from Xi oM,zmU hx]),tV⟩,oN⟩
 have et:l.take i=l:=Xi oM;rw[et]at h2;rw[zdX h2,qH rfl]at es;have et2:zaN (l.take i) pen=zaN l pen:=by rw[et]
 refine wg (zt5 (zaN (l.take i) pen) oM)<|⟨λk5=>?_,λk5=>?_⟩
 ·have k5:(4096:Int)<qa (zaN (l.take i) pen):=k5;rw[et]at k5;exact qG (by rw[es,Xe oN])
 have k5:¬(4096:Int)<qa (zaN (l.take i) pen):=k5;rw[et]at k5;rw[Xc oN]at es;rw[es];exact zM (zZ et2) .refl
def zX(q:Pl):LU:=if q.cl=true/\2<=q.pts.length then q.pts++[nth q.pts 0] else q.pts
def yJ(p:Pl):zi p=zX (zt p):=rfl
variable{q:Pl}
def zgS(h:q.cl=true)(k:2<=q.pts.length):zX q=q.pts++[nth q.pts 0]:=Xe ⟨h,k⟩
def zoB(h:¬(q.cl=true/\2<=q.pts.length)):zX q=q.pts:=Xc h
def zbl{q:Pl}{i:Nat}(h:i<q.pts.length):nth (zX q) i=nth q.pts i:=by
 unfold zX
 split
 ·show(q.pts++[nth q.pts 0]).getD i zp=q.pts.getD i zp;rw[Xt,XK h];exact(Xt ..).symm
 rfl
def zqK(h:q.cl=true)(k:2<=q.pts.length):nth (zX q) q.pts.length=nth q.pts 0:=by
 rw[zgS h k];show(q.pts++[nth q.pts 0]).getD q.pts.length zp=nth q.pts 0;rw[Xt,XG (Xk _),QJ];rfl
def zcQ(h:q.cl=true)(k:2<=q.pts.length):(zX q).length=q.pts.length+1:=by rw[zgS h k,Xq];rfl
def zbC{q:Pl}(h:¬(q.cl=true/\2<=q.pts.length)):(zX q).length=q.pts.length:=by rw[zoB h]
def jF(q:Pl):q.pts.length<=(zX q).length/\(zX q).length<=q.pts.length+1:=by
 by_cases h:q.cl=true/\2<=q.pts.length
 ·rw[zcQ h.1 h.2];omega
 rw[zbC h];omega
def zkR(q:Pl):List (Pt×Pt):=(List.range ((zX q).length-1)).map λi=>(nth (zX q) i,nth (zX q) (i+1))
def segE(s:Pt×Pt):LR:=[wk s.1,wk s.2]
def zoC(h:i<(zX q).length-1):(zkR q)[i]?=some (nth (zX q) i,nth (zX q) (i+1)):=by
 unfold zkR;rw[XD,Ql h];rfl
def zgT(q:Pl):(zkR q).length=(zX q).length-1:=by unfold zkR;simp
def zsx(q:Pl):CX 313 [ws q] (.dfn 372 [.dptr (plE q)]):=by
 exact uY 2 tok mix func313 rfl rfl rfl<|.refl
def zA6(q:Pl)(hq:q.pts.length<=4096):zfb prog 372 [.dptr (plE q)] segE (zkR q):=by
 refine zi5 (caps:=[.dptr (plE q)]) (enc:=segE) (xs:=zkR q) tok mix func372 rfl rfl rfl rfl (λl=>?_);intro hl1;refine⟨Nat,λk=>⟨[(0,.val (.func (.yield l) #[] #[])),(1,.dptr (plE q)),(3,i64 q.pts.length),(4,i64 ((k:Int)+1))],[],0,45,0⟩,λk=>k,λk=>k<=q.pts.length-1,λk=>q.pts.length-k,0,?_,?_,rfl,rfl,?_⟩
 ·exact Xh _
 ·exact zB []
 rintro k hk
 have ll:=jF q;refine⟨λg:(k:Int)+1<q.pts.length=>?_,λg:¬(k:Int)+1<q.pts.length=>?_⟩
 ·refine YDr.split 12 (Ob.mk (by decide +kernel) ?_);refine wa<|wb λx hx=>?_
  have hx:=qn (show q.pts[k]?=some x by
   have hx:q.pts[((k:Int)+1-1).toNat]?=some x:=hx
   rwa [show((k:Int)+1-1).toNat=k by omega]at hx)
  refine wb λy hy=>?_;have hy:=qn (show q.pts[k+1]?=some y from hy);refine⟨rfl,(x,y),(by show(zkR q)[k]?=some (x,y);rw[zoC oM,zbl oM,zbl oM,hx,hy]),rfl,.C (.C .nil),(λ_ _ h=>by cases h),?_⟩;refine Br.mk ?_ ?_
  ·refine wa ?_;refine⟨k+1,oM,ji [] ⟨rfl,rfl,rfl,iR oM,tV⟩ trivial,rfl,rfl,oN⟩
  exact .inl rfl
 have ek:k=q.pts.length-1:=oM;have no:¬(q.cl=true/\2<=q.pts.length)->k=(zkR q).length:=λh=>by rw[zgT,zbC h];exact ek
 refine⟨λc=>?_,λc=>.inr (no λh=>c h.1)⟩;have c:q.cl=true:=c;refine⟨λn1=>?_,λn1=>.inr (no λh=>by have n1:¬(1:Int)<q.pts.length:=n1;omega)⟩;have n1:(1:Int)<q.pts.length:=n1;have le:=zcQ c (show 2<=q.pts.length by omega);refine YDr.split 11 (Ob.mk (by decide +kernel) ?_);refine wa<|wb λx hx=>?_
 have hx:=qn (show q.pts[q.pts.length-1]?=some x by
  have hx:q.pts[((q.pts.length:Int)-1).toNat]?=some x:=hx
  rwa [show((q.pts.length:Int)-1).toNat=q.pts.length-1 by omega]at hx)
 refine wb λy hy=>?_;have hy:=qn (show q.pts[0]?=some y from hy);refine⟨rfl,(x,y),?_,rfl,.C (.C .nil),(λ_ _ h=>by cases h),?_⟩
 ·show(zkR q)[k]?=some (x,y);rw[zoC oM,ek,zbl oM,show q.pts.length-1+1=q.pts.length by omega,zqK c oM,hx,hy]
 refine Br.mk ?_ ?_
 ·refine .inr ?_;show k+1=(zkR q).length;rw[zgT];omega
 exact .inl rfl
structure Me where
 ln:LU
 ts:LV
 lg:Int
def meE(m:Me):LR:=[.sl ptE m.ln,.sl zN m.ts,i64 m.lg]
def tsL(c:LU)(n:Nat):LV:=(List.range n).map (atS c)
def zt8(p:Pl):Me:=if ∀q∈p.pts,zr q then⟨(zt p).pts,tsL (zi p) ((zi p).length-1),zK p⟩ else⟨[],[],0⟩
def zyH(c:LU)(n:Nat):tsL c (n+1)=tsL c n++[atS c n]:=by
 unfold tsL;rw[Kw,XA];rfl
def zjb(c:LU)(n:Nat):(tsL c n).length=n:=by unfold tsL;simp
variable{c:LU}{x:Int}
def zhU{n:Nat}(h:(tsL c n)[i]?=some x):x=atS c i:=by
 have hi:i<n:=by have:=(Xd.1 h).1;rwa [zjb]at this
 unfold tsL at h;rw[XD,Ql hi]at h;exact(Xm h).symm
def yw(a b:Pt):0<=jd a b/\jd a b<4294967296:=zhw _
def vS(c:LU)(n:Nat):0<=atS c n/\atS c n<=4294967296*(n:Int):=by
 induction n with
 |zero=>exact⟨Qo 0,by show(0:Int)<=_;decide⟩
 |succ n ih=>
  have:=yw (nth c n) (nth c (n+1));unfold atS;omega
def zmV(p:Pl)(hp:p.pts.length<=4096):CX 250 [ws p] (.tup [.agg (meE (zt8 p)),pr (∀q∈p.pts,zr q)]):=by
 refine ug 2 tok mix func250 rfl rfl rfl λhl1=>?_;refine⟨Nat,λi=>⟨[(1,.loc 0 0),(2,.loc 1 0),(11,.sl ptE p.pts),(12,i64 p.pts.length),(13,i64 i)],[(0,.box 193 [.sl ptE p.pts,pr (p.cl=true)]),(1,.box 271 [nS,nS,i64 0])],2,47,0⟩,λi=>i<=p.pts.length/\∀q∈p.pts.take i,zr q,λi=>p.pts.length-i,0,?_,?_,?_⟩
 ·exact⟨Xh _,λq hq=>by cases hq⟩
 ·exact zf [0,1]
 rintro i ⟨h1,h2⟩
 refine⟨λg:(i:Int)<p.pts.length=>?_,λg:¬(i:Int)<p.pts.length=>?_⟩
 ·refine wb λx(hx:p.pts[i]?=some x)=>?_;refine wg (kY x)<|⟨λk=>?_,λk=>?_⟩
  ·have k:¬∀q∈p.pts,zr q:=λh=>k (h x (Xf hx))
   have e:zt8 p=⟨[],[],0⟩:=Xc k;rw[e];exact zM (jj (.cons zC (.cons zC (.C .nil)))) (zd k)
  have k:=Xa.1 k;refine wa<|⟨i+1,⟨oM,λq hq=>?_⟩,zf [0,1],oN⟩;rw[Xl,hx]at hq
  rcases Xs.1 hq with hq|hq
  ·exact h2 q hq
  simp at hq;rw[hq];exact k
 rw[Xi oM]at h2;have dl:=jq p;have ll:=jF (zt p);refine wg (zgO p hp)<|wg (zsx (zt p)) ?_
 refine⟨Pt×Pt,segE,zkR (zt p),2,[(2,.loc 0 0),(7,.loc 1 0)],λj=>[(0,.box 271 [nS,nS,i64 0]),(1,.box 271 [.sl ptE (zt p).pts,.own 2,i64 (atS (zi p) j)]),(2,.arr 3 zN 1 (tsL (zi p) j))],λ_=>3,zA6 (zt p) oM,λ_=>rfl,⟨rfl,rfl,rfl,rfl⟩,
  zB [(0,some 1),(1,some 3),(2,none)],⟨Xh _,rfl⟩,λj=>?_,?_,?_⟩
 ·intro k m hm;simp only[XY,XR,or_false,Kt]at hm
  obtain⟨_,rfl⟩|⟨_,rfl⟩|⟨_,rfl⟩:=hm
  ·rfl
  ·rfl
  trivial
 ·intro j y hy _;have hj:j<(zi p).length-1:=by have:=(Xd.1 hy).1;rwa [zgT]at this
  have hy:y=(nth (zi p) j,nth (zi p) (j+1)):=by rw[zoC hj]at hy;exact(Xm hy).symm
  have hat:=vS (zi p) j;have hpc:=yw y.1 y.2;have e1:=zjb (zi p) j;have ll':(zi p).length<=4097:=by rw[yJ];omega
  refine⟨Int,zN,[atS (zi p) j],rfl,wb0 ?_⟩;refine⟨[atS (zi p) j],rfl,Ob.mk ⟨(by show _*(8:Int)<=_;simp only[Xn,Xr];omega),(by simp only[Xn,Xr];omega),dC,λ_ _=>rfl⟩ ?_⟩;refine wd<|wg (zxo y.2 y.1)<|wg (zxr (zad y.2 y.1)) ?_;unfold jd at hpc;refine wa<|wh<|zu [0,1,6] ⟨rfl,Xg (λq=>some (Mem.box 271 [.sl ptE (zt p).pts,.own 6,i64 q])) ?_,aR (zyH _ _).symm,tV⟩;rw[hy];rfl
 intro _;have e:zt8 p=⟨(zt p).pts,tsL (zi p) ((zi p).length-1),zK p⟩:=Xe h2;rw[e];have e2:=zgT (zt p);rw[←yJ]at e2;refine zM (jj (.C (.cons (zZ ?_) (.cons (ze ?_) .nil)))) (zH h2)
 ·rw[e2]
 rw[e2];rfl
def zqL(pen:Pen)(t:Nat):phD pen t=((t:Int)+256*pen.ph)%qz pen.d:=by unfold phD;exact(Int.add_emod ..).symm
def zdY{d:LV}(h:∀n∈d,0<=n)(hi:i<=d.length):0<=qw d i/\qw d i<=qz d:=by
 have h1:=zhG h (Xh i);have h2:=zhG h hi;rw[uq]at h1;rw[yI]at h2;exact⟨h1,h2⟩
variable{a:Nat}{e:Int}{lft:Int}
def ph_at{t:Nat}(hn:∀n∈pen.d,0<=n)(he:pen.d[i]?=some e)(hl:lft<=256*e)(hc:qz pen.d ∣ qw pen.d (i+1)-lft-((a:Int)+256*pen.ph))(h1:a<=t)(h2:(t:Int)-a<lft):phD pen t=qw pen.d (i+1)-lft+((t:Int)-a):=by
 have hi:i<pen.d.length:=(Xd.1 he).1;have hp:=zdY hn (show i<=pen.d.length by omega);have hq:=zdY hn (show i+1<=pen.d.length by omega);have hs:=yn he;obtain⟨q,hq'⟩:=hc;rw[zqL];have e1:(t:Int)+256*pen.ph=(qw pen.d (i+1)-lft+((t:Int)-a))+qz pen.d*(-q):=by rw[QS];omega
 rw[e1,Int.add_mul_emod_self_left];exact Int.emod_eq_of_lt oM oM
def zCB{t:Nat}(hn:∀n∈pen.d,0<=n)(he:pen.d[i]?=some e)(hl:lft<=256*e)(hc:qz pen.d ∣ qw pen.d (i+1)-lft-((a:Int)+256*pen.ph))(h1:a<=t)(h2:(t:Int)-a<lft):onD pen t↔i%2=0:=by
 have hs:=yn he;unfold onD;rw[ph_at hn he hl hc h1 h2,zey hn he oM oM];show(0+i)%2=0↔_;rw[Kc]
def zA7{b:Nat}{e':Int}(hi:i<pen.d.length)(he':pen.d[(i+1)%pen.d.length]?=some e')(hc:qz pen.d ∣ qw pen.d (i+1)-lft-((a:Int)+256*pen.ph))(hb:(b:Int)=a+lft):
  qz pen.d ∣ qw pen.d ((i+1)%pen.d.length+1)-256*e'-((b:Int)+256*pen.ph):=by
 rw[yn he']
 by_cases h:i+1<pen.d.length
 ·rw[Xy h]
  rwa [show qw pen.d (i+1)+256*e'-256*e'-((b:Int)+256*pen.ph)=qw pen.d (i+1)-lft-((a:Int)+256*pen.ph) by omega]
 have hl:i+1=pen.d.length:=by omega
 rw[hl,J9,uq];rw[hl,yI]at hc;rw[show(0:Int)+256*e'-256*e'-((b:Int)+256*pen.ph)=(qz pen.d-lft-((a:Int)+256*pen.ph))-qz pen.d by omega];exact Int.dvd_sub hc (Int.dvd_refl _)
def u1(r:Nat)(d:LV)(n:Nat):Int:=((List.range n).map λi=>if i%2=r then d.getD i 0 else 0).sum
def zmW(r:Nat)(d:LV)(n:Nat):u1 r d (n+1)=u1 r d n+if n%2=r then d.getD n 0 else 0:=by
 unfold u1;rw[Kw,XA,QM];simp
def zeG{r:Nat}{d:LV}{n:Nat}(hx:d[n]?=some x)(h:n%2=r):u1 r d (n+1)=u1 r d n+x:=by
 rw[zmW,Xe h,Xt,hx];rfl
def zhV{r:Nat}{d:LV}{n:Nat}(h:¬n%2=r):u1 r d (n+1)=u1 r d n:=by
 rw[zmW,Xc h,J4]
def zbD(d:LV):∀n,n<=d.length->256*(u1 0 d n+u1 1 d n)=qw d n
 |0,_=>rfl
 |n+1,h=>by
  have ih:=zbD d n oM;have hx:d[n]?=some d[n]:=Xb oM;rw[yn hx]
  rcases JL n with k|k
  ·rw[zeG hx k,zhV (r:=1) oM];omega
  rw[zeG hx k,zhV (r:=0) oM];omega
def zdZ(d:LV):drawn d=256*u1 0 d d.length:=rfl
def yg{r:Nat}{d:LV}(h:∀n∈d,0<=n):∀n,n<=d.length->0<=u1 r d n
 |0,_=>Qo 0
 |n+1,hn=>by
  have ih:=yg (r:=r) h n oM;have hx:d[n]?=some d[n]:=Xb oM;have:=h d[n] (KI _)
  by_cases k:n%2=r
  ·rw[zeG hx k];omega
  rw[zhV k];exact ih
def yh{d:LV}(h:uy d):(∀n∈d,0<=n)/\(∀n∈d,n<=1048576)/\d.length<=16/\qz d<=4294967296:=by
 have h2:∀n∈d,n<=1048576:=λn hn=>(h.1 n hn).2
 have h3:d.length<=16:=by have:=h.2.2.2;omega
 have:=zx1 h2;exact⟨λn hn=>(h.1 n hn).1,h2,h3,by unfold qz;omega⟩
def frI:LK->Int
 |none=> -1
 |some f=>f
def zoD{o:LK}(h:frI o<0):o=none:=by
 cases o with
 |none=>rfl
 |some f=>have h:(f:Int)<0:=h;omega
def zoE{o:LK}(h:¬frI o<0):∃f,o=some f/\frI o=f:=by
 cases o with
 |none=>exact absurd (show(-1:Int)<0 by decide) h
 |some f=>exact⟨f,rfl,rfl⟩
def zvG(pen:Pen)(hk:kC pen)(hper:0<qz pen.d):CX 317 [wr pen,i64 0] (.tup [i64 ((yu pen.d (phD pen 0) 0).1:Int),i64 (yu pen.d (phD pen 0) 0).2]):=by
 refine zc func317 ?_;obtain⟨d1,d2,d3,d4⟩:=yh hk.2.2.2.2.1;have hph:=hk.2.2.2.2.2;intro hl1;refine⟨Nat,λi=>⟨[(1,i64 0),(2,.loc 0 0),(6,i64 (qw pen.d i)),(13,.sl zN pen.d),(14,i64 pen.d.length),(15,i64 i)],[(0,.box 61 (jb pen))],1,57,0⟩,λi=>i<=pen.d.length,λi=>pen.d.length-i,0,?_,?_,?_⟩
 ·exact Xh _
 ·exact zf [0]
 rintro i hi
 have hpi:=zdY d1 hi;refine⟨λg:(i:Int)<pen.d.length=>?_,λg:¬(i:Int)<pen.d.length=>?_⟩
 ·refine wb λx(hx:pen.d[i]?=some x)=>?_;have hx1:=d1 x (Xf hx);have hx2:=d2 x (Xf hx);(iterate 3 refine wa ?_);exact⟨i+1,oM,zS [0] ⟨rfl,rfl,iR (yn hx).symm,rfl,rfl,rfl,tV⟩ ⟨rfl,tV⟩,oN⟩
 have ei:i=pen.d.length:=oM;have eP:qw pen.d i=qz pen.d:=by rw[ei,yI]
 have m1:=Kb (256*pen.ph) (show qw pen.d i≠0 by omega);have m2:=X5 (256*pen.ph) (show 0<qw pen.d i by omega);have m3:(0:Int)%qw pen.d i=0:=Int.zero_emod _;have m4:=Kb (0%qw pen.d i+256*pen.ph%qw pen.d i) (show qw pen.d i≠0 by omega);have m5:=X5 (0%qw pen.d i+256*pen.ph%qw pen.d i) (show 0<qw pen.d i by omega);refine wc<|Dv.pos ⟨oM,oM⟩<|wa<|Dv.pos ⟨oM,oM⟩<|wa<|Dv.pos ⟨oM,oM⟩ ?_
 have ek:phD pen 0=(0%qw pen.d i+256*pen.ph%qw pen.d i)%qw pen.d i:=by rw[eP];rfl
 rw[←ek]at m4 m5;intro hl2;refine⟨Nat,λi=>⟨[(9,i64 (phD pen 0-qw pen.d i)),(36,.sl zN pen.d),(37,i64 pen.d.length),(38,i64 i)],[],0,57,0⟩,λi=>i<=pen.d.length/\qw pen.d i<=phD pen 0,λi=>pen.d.length-i,0,?_,?_,?_⟩
 ·exact⟨Xh _,by rw[uq];exact m4⟩
 ·exact ji [] ⟨iR (by rw[uq,Int.sub_zero];exact ek.symm),rfl,rfl,rfl,tV⟩ trivial
 rw[eP]at m5
 rintro i ⟨hi,hle⟩
 have hpi:=zdY d1 hi;refine⟨λg:(i:Int)<pen.d.length=>?_,λg:¬(i:Int)<pen.d.length=>?_⟩
 ·refine wb λx(hx:pen.d[i]?=some x)=>?_;have hx1:=d1 x (Xf hx);have hx2:=d2 x (Xf hx);have hs:=yn hx;refine wa<|Br.mk (λc=>?_) (λc=>?_)
  ·have c:phD pen 0-qw pen.d i<256*x:=c;have hp:=zey (i0:=0) d1 hx hle oM;(iterate 2 refine wa ?_);refine zM (ze ?_) (ze ?_)
   ·rw[hp];show(i:Int)=((0+i:Nat):Int);omega
   rw[hp];dsimp only;omega
  have c:¬phD pen 0-qw pen.d i<256*x:=c;(iterate 3 refine wa ?_);exact⟨i+1,⟨oM,oM⟩,ji [] ⟨iR (by rw[hs];omega),rfl,rfl,rfl,tV⟩ trivial,oN⟩
 have:qw pen.d i=qz pen.d:=by rw[show i=pen.d.length by omega,yI]
 omega
def runE(q:Nat×Nat):LR:=[i64 (q.1:Int),i64 (q.2:Int)]
def zA8{pen:Pen}{long:Int}(h1:kC pen)(h2:¬long<1)(h3:¬u1 1 pen.d pen.d.length=0)(h4:¬u1 0 pen.d pen.d.length=0):kQ pen long=kJ (onD pen) long.toNat:=by
 have hs:=zbD pen.d pen.d.length (Xk _);rw[yI]at hs;have hd:=zdZ pen.d;unfold kQ;rw[Xc (λh=>by rcases h with h|h|h;exact h h1;exact h2 h;omega),Xc oM]
def zsy{pen:Pen}{long:Int}(h1:kC pen)(h2:¬long<1)(h3:u1 1 pen.d pen.d.length=0):kQ pen long=[(0,long.toNat)]:=by
 have hs:=zbD pen.d pen.d.length (Xk _);rw[yI]at hs;have hd:=zdZ pen.d;unfold kQ;rw[Xc (λh=>by rcases h with h|h|h;exact h h1;exact h2 h;omega),Xe oM]
def zvH{pen:Pen}{long:Int}(h1:kC pen)(h2:¬long<1)(h3:¬u1 1 pen.d pen.d.length=0)(h4:u1 0 pen.d pen.d.length=0)(h5:∀n∈pen.d,0<=n):kQ pen long=[]:=by
 have hs:=zbD pen.d pen.d.length (Xk _);rw[yI]at hs;have hd:=zdZ pen.d;have hp:=yg (r:=1) h5 pen.d.length (Xk _);unfold kQ;rw[Xe (.inr (.inr ⟨oM,oM⟩))]
variable{long:Int}
def zqM(h:¬kC pen∨long<1):kQ pen long=[]:=by
 unfold kQ;rw[Xe (by rcases h with h|h;exact .inl h;exact .inr (.inl h))]
structure Wk where
 a:Nat
 i:Nat
 l:Int
def okW(pen:Pen)(long:Int)(s:Wk):Prop:=
 (s.a:Int)<=long/\s.i<pen.d.length/\0<=s.l/\(∃e,pen.d[s.i]?=some e/\s.l<=256*e)/\((s.a:Int)<long->qz pen.d ∣ qw pen.d (s.i+1)-s.l-((s.a:Int)+256*pen.ph))
def jx(pen:Pen)(long:Int)(s:Wk):Wk:=⟨s.a+(min s.l (long-s.a)).toNat,(s.i+1)%pen.d.length,256*pen.d.getD ((s.i+1)%pen.d.length) 0⟩
def muW(pen:Pen)(long:Int)(j:Nat)(s:Wk):Nat:=(long.toNat-s.a)*(pen.d.length+2)+if s.l=0 then 1+(j+pen.d.length-1-s.i)%pen.d.length else 0
def zA9{s:Wk}(hd:uy pen.d)(h:okW pen long s)(hlt:(s.a:Int)<long):okW pen long (jx pen long s):=by
 obtain⟨h1,h2,h3,⟨e,h4,h5⟩,h6⟩:=h;obtain⟨d1,d2,d3,d4⟩:=yh hd;have hm:(s.i+1)%pen.d.length<pen.d.length:=Kk _ oM
 have hx:pen.d[(s.i+1)%pen.d.length]?=some (pen.d.getD ((s.i+1)%pen.d.length) 0):=by
  rw[Xt,Xb hm];rfl
 have hx1:=d1 _ (Xf hx);refine⟨by unfold jx;dsimp only;omega,hm,by unfold jx;dsimp only;omega,⟨_,hx,Qo _⟩,λhl=>?_⟩;unfold jx at hl ⊢;dsimp only at hl ⊢;exact zA7 h2 hx (h6 hlt) oM
def zBa{s:Wk}{j:Nat}(hd:uy pen.d)(h:okW pen long s)(hlt:(s.a:Int)<long)(hj:∃x,pen.d[j]?=some x/\0<x):muW pen long j (jx pen long s)<muW pen long j s:=by
 obtain⟨h1,h2,h3,⟨e,h4,h5⟩,h6⟩:=h;obtain⟨x,hx,hx0⟩:=hj;have hjl:j<pen.d.length:=(Xd.1 hx).1;unfold muW jx;dsimp only
 by_cases z:s.l=0
 ·rw[Xe z];have e0:(min s.l (long-s.a)).toNat=0:=oM;rw[e0,XP];refine Nat.add_lt_add_left ?_ _
  split
  ·rename_i hz
   -- the next is none of the entries that are more than zero
   have hne:(s.i+1)%pen.d.length≠j:=λhe=>by
    rw[he,Xt,hx]at hz;have hz:256*x=0:=hz;omega
   have key:(j+pen.d.length-1-(s.i+1)%pen.d.length)%pen.d.length+1=(j+pen.d.length-1-s.i)%pen.d.length:=by
    by_cases c:s.i+1<pen.d.length
    ·rw[Xy c]at hne ⊢
     by_cases c2:s.i<j
     ·rw[show j+pen.d.length-1-(s.i+1)=(j-1-(s.i+1))+pen.d.length by omega,show j+pen.d.length-1-s.i=(j-1-s.i)+pen.d.length by omega,JT,JT,Xy oM,Xy oM];omega
     rw[Xy oM,Xy oM];omega
    have hl:s.i+1=pen.d.length:=by omega
    rw[hl,J9]at hne ⊢;rw[show j+pen.d.length-1-0=(j-1)+pen.d.length by omega,JT,Xy (show j-1<pen.d.length by omega),Xy (show j+pen.d.length-1-s.i<pen.d.length by omega)];omega
   omega
  omega
 rw[Xc z];have hm:(j+pen.d.length-1-(s.i+1)%pen.d.length)%pen.d.length<pen.d.length:=Kk _ oM;have e1:long.toNat-s.a=(long.toNat-(s.a+(min s.l (long-s.a)).toNat))+(min s.l (long-s.a)).toNat:=oM;have e2:1<=(min s.l (long-s.a)).toNat:=oM;have e3:1*(pen.d.length+2)<=(min s.l (long-s.a)).toNat*(pen.d.length+2):=Xv _ e2;rw[e1,X2]
 split <;> omega
def zyI{s:Wk}(hd:uy pen.d)(h:okW pen long s)(hlt:(s.a:Int)<long)(hm:¬min s.l (long-s.a)=0):
  (s.i%2=0->z7 (onD pen) (jx pen long s).a=((z7 (onD pen) s.a).1,some ((z7 (onD pen) s.a).2.getD s.a)))/\(¬s.i%2=0->z7 (onD pen) (jx pen long s).a=(kJ (onD pen) s.a,none)):=by
 obtain⟨h1,h2,h3,⟨e,h4,h5⟩,h6⟩:=h;obtain⟨d1,d2,d3,d4⟩:=yh hd
 have on:∀t,s.a<=t->t<(jx pen long s).a->(onD pen t↔s.i%2=0):=λt ht ht2=>by
  unfold jx at ht2;dsimp only at ht2;exact zCB d1 h4 h5 (h6 hlt) ht oM
 have hab:s.a<(jx pen long s).a:=by unfold jx;dsimp only;omega
 exact⟨λk=>zx2 hab λt a b=>(on t a b).2 k,λk=>ztV hab λt a b c=>k ((on t a b).1 c)⟩
def zBb(pen:Pen)(long:Int)(hlong:long<=70368744177664):zfb prog 316 [.dptr (jb pen),.dptr [i64 long]] runE (kQ pen long):=by
 refine zi5 (caps:=[.dptr (jb pen),.dptr [i64 long]]) (enc:=runE) (xs:=kQ pen long) tok mix func316 rfl rfl rfl rfl (λl=>?_);have bad:¬kC pen∨long<1->0=(kQ pen long).length:=λh=>by rw[zqM h];rfl
 refine wg (zep pen)<|⟨λk=>.inr (bad (.inl k)),λk=>?_⟩;have hk:kC pen:=Xa.1 k;refine⟨λk2=>.inr (bad (.inr (by have k2:long<=0:=k2;omega))),λk2=>?_⟩;have k2:¬long<=0:=k2;have hd:=hk.2.2.2.2.1;obtain⟨d1,d2,d3,d4⟩:=yh hd;intro hl1
 refine⟨Nat,λi=>⟨[(0,.val (.func (.yield l) #[] #[])),(1,.dptr (jb pen)),(2,.dptr [i64 long]),(4,.loc 0 0),(20,.sl zN pen.d),(21,i64 pen.d.length),(22,i64 i)],[(0,.box 254 [i64 (u1 0 pen.d i),i64 (u1 1 pen.d i)])],1,103,0⟩,λ_=>0,λi=>i<=pen.d.length,λi=>pen.d.length-i,0,?_,?_,rfl,rfl,?_⟩
 ·exact Xh _
 ·exact zf [0]
 rintro i hi
 have hs:=zbD pen.d i hi;have hpi:=zdY d1 hi;have p0:=yg (r:=0) d1 i hi;have p1:=yg (r:=1) d1 i hi;refine⟨λg:(i:Int)<pen.d.length=>?_,λg:¬(i:Int)<pen.d.length=>?_⟩
 ·refine wb λx(hx:pen.d[i]?=some x)=>?_;have hx1:=d1 x (Xf hx);have hx2:=d2 x (Xf hx);refine Dv.pos ⟨oM,dC⟩ ?_
  rcases JL i with h|h
  ·rw[show(i:Int)%2=0 by omega];(iterate 2 refine wa ?_);exact⟨i+1,oM,zu [0] ⟨(show some (Mem.box 254 [i64 (u1 0 pen.d i+x),i64 (u1 1 pen.d i)])=some (Mem.box 254 [i64 (u1 0 pen.d (i+1)),i64 (u1 1 pen.d (i+1))]) by rw[zeG hx h,zhV (r:=1) oM]),tV⟩,rfl,rfl,oN⟩
  rw[show(i:Int)%2=1 by omega];(iterate 2 refine wa ?_);exact⟨i+1,oM,zu [0] ⟨(show some (Mem.box 254 [i64 (u1 0 pen.d i),i64 (u1 1 pen.d i+x)])=some (Mem.box 254 [i64 (u1 0 pen.d (i+1)),i64 (u1 1 pen.d (i+1))]) by rw[zeG hx h,zhV (r:=0) oM]),tV⟩,rfl,rfl,oN⟩
 have ei:i=pen.d.length:=oM;refine⟨λq1:u1 1 pen.d i=0=>?_,λq1:¬u1 1 pen.d i=0=>?_⟩
 ·rw[ei]at q1;have e:=zsy (long:=long) hk oM q1;refine⟨rfl,(0,long.toNat),by rw[e];rfl,rfl,.C (.cons (ze (show long=((long.toNat:Nat):Int) by omega)) .nil),(λk m h=>?_),?_⟩
  ·cases h with
   |head=>rfl
   |tail _ h=>cases h
  exact⟨.inr (by rw[e];rfl),.inl rfl⟩
 rw[ei]at q1;refine⟨λq0:u1 0 pen.d i=0=>?_,λq0:¬u1 0 pen.d i=0=>?_⟩
 ·rw[ei]at q0;exact .inr (by rw[zvH (long:=long) hk oM q1 q0 d1];rfl)
 rw[ei]at q0 hs p0 p1;rw[yI]at hs;have eR:=zA8 (long:=long) hk oM q1 q0;have hper:0<qz pen.d:=oM
 obtain⟨j,y,hj,hy⟩:∃(j:Nat) (y:Int),pen.d[j]?=some y/\0<y:=by
  have hn:=hd.2.1.resolve_left λh=>q1 (by rw[h];rfl)
  obtain⟨n,hn,h0⟩:=hn;obtain⟨j,hj,he⟩:=Kl hn;exact⟨j,n,by rw[Xb hj,he],h0⟩
 refine wg (zvG pen hk hper) ?_
 -- where it begins
 have k0:=Kb ((0:Nat)+256*pen.ph) (show qz pen.d≠0 by omega);have k1:=X5 ((0:Nat)+256*pen.ph) hper;rw[←zqL pen 0]at k0 k1;obtain⟨i0,e0,g1,g2,g3⟩:=zok d1 k0 k1;have gp:=zey (i0:=0) d1 g1 g2 g3;rw[Kc]at gp;have gs:=yn g1
 have ok0:okW pen long ⟨0,i0,qw pen.d i0+256*e0-phD pen (0:Nat)⟩:=by
  refine⟨oN,(Xd.1 g1).1,oN,⟨e0,g1,oN⟩,λ_=>?_⟩;dsimp only;rw[show qw pen.d (i0+1)-(qw pen.d i0+256*e0-phD pen (0:Nat))-(((0:Nat):Int)+256*pen.ph)=phD pen (0:Nat)-(((0:Nat):Int)+256*pen.ph) by omega,zqL];have:=Yh (((0:Nat):Int)+256*pen.ph) (qz pen.d);exact⟨-((((0:Nat):Int)+256*pen.ph)/qz pen.d),by rw[QS];omega⟩
 have gp:yu pen.d (phD pen 0) 0=(i0,qw pen.d i0+256*e0-phD pen (0:Nat)):=gp;refine⟨Wk,λs=>⟨[(0,.val (.func (.yield l) #[] #[])),(1,.dptr (jb pen)),(2,.dptr [i64 long]),(7,i64 (frI (z7 (onD pen) s.a).2)),(8,i64 s.i),(9,i64 s.l),(10,i64 s.a)],[],0,103,0⟩,λs=>(z7 (onD pen) s.a).1.length,okW pen long,muW pen long j,⟨0,i0,qw pen.d i0+256*e0-phD pen (0:Nat)⟩,ok0,?_,rfl,rfl,?_⟩
 ·exact ji [] ⟨rfl,rfl,rfl,rfl,iR (by rw[gp]),iR (by rw[gp]),rfl,tV⟩ trivial
 rintro s hs0
 obtain⟨h1,h2,h3,⟨e,h4,h5⟩,h6⟩:=id hs0;have hpl:=zdY d1 (show s.i<=pen.d.length by omega);have he2:=d2 e (Xf h4);refine⟨λc=>?_,λc=>?_⟩;rotate_left
 ·have c:¬(s.a:Int)<long:=c;have ea:s.a=long.toNat:=oM;have eF:kQ pen long=(z7 (onD pen) s.a).1++((z7 (onD pen) s.a).2.map λf=>(f,s.a)).toList:=by rw[eR,←ea];rfl
  refine⟨λf:0<=frI (z7 (onD pen) s.a).2=>?_,λf:¬0<=frI (z7 (onD pen) s.a).2=>?_⟩
  ·obtain⟨q,hq,hq2⟩:=zoE (show¬frI (z7 (onD pen) s.a).2<0 by omega);rw[hq]at eF;refine⟨rfl,(q,s.a),by rw[eF];exact Qn ..,rfl,.cons (ze hq2) (.cons (ze (show long=((s.a:Nat):Int) by omega)) .nil),(λ_ _ h=>by cases h),?_⟩;exact⟨.inr (by rw[eF,Xq];rfl),.inl rfl⟩
  rw[zoD (show frI (z7 (onD pen) s.a).2<0 by omega)]at eF;exact .inr (by rw[eF];exact(Xg List.length (XE _)).symm)
 have c:(s.a:Int)<long:=c;have nok:=zA9 hd hs0 c;have nmu:=zBa hd hs0 c ⟨y,hj,hy⟩;have nrun:=zyI hd hs0 c;have na:((jx pen long s).a:Int)=s.a+min s.l (long-s.a):=by unfold jx;dsimp only;omega
 have ni:(((jx pen long s).i:Nat):Int)=((s.i:Int)+1)%pen.d.length:=by unfold jx;dsimp only;exact QV ..
 have m3:=Kb ((s.i:Int)+1) (show(pen.d.length:Int)≠0 by omega);have m4:=X5 ((s.i:Int)+1) (show 0<(pen.d.length:Int) by omega)
 have e2:(((s.i:Int)+1)%pen.d.length).toNat=(s.i+1)%pen.d.length:=by
  rw[show(s.i:Int)+1=((s.i+1:Nat):Int) by omega];omega
 have tailX:∀x,pen.d[(((s.i:Int)+1)%pen.d.length).toNat]?=some x->(0<=x/\x<=1048576)/\(jx pen long s).l=256*x:=λx hx=>by
  refine⟨⟨d1 x (Xf hx),d2 x (Xf hx)⟩,?_⟩;rw[e2]at hx;unfold jx;dsimp only;rw[Xt,hx];rfl
 have hmin:zbL s.l [long-(s.a:Int)]=min s.l (long-s.a):=rfl;refine wa<|Br.mk (λz=>?_) (λz=>?_)
 ·have z:min s.l (long-s.a)=0:=z;have ea:(jx pen long s).a=s.a:=oM;(iterate 2 refine wa ?_);intro hl2;refine Dv.pos ⟨oM,oM⟩<|Ob.mk ⟨m3,m4⟩ λx hx=>?_;obtain⟨hx1,hx2⟩:=tailX x hx;exact wa<|⟨jx pen long s,nok,ji [] ⟨rfl,rfl,rfl,Xg (λq=>some (i64 (frI (z7 (onD pen) q).2))) ea.symm,iR ni.symm,iR hx2.symm,iR na.symm,tV⟩ trivial,Xg (λq=>(z7 (onD pen) q).1.length) ea.symm,rfl,nmu⟩
 have z:¬min s.l (long-s.a)=0:=z;obtain⟨rOn,rOff⟩:=nrun z;have rF:=zx3 (on:=onD pen) (show(jx pen long s).a<=long.toNat by have:=nok.1;omega);rw[←eR]at rF;refine Dv.pos ⟨oM,dC⟩<|⟨λev=>?_,λev=>?_⟩
 ·have ev:s.i%2=0:=by have ev:(s.i:Int)%2=0:=ev;omega
  have rOn:=rOn ev;have cnt:(z7 (onD pen) s.a).1.length=(z7 (onD pen) (jx pen long s).a).1.length:=by rw[rOn]
  refine⟨λf:frI (z7 (onD pen) s.a).2<0=>?_,λf:¬frI (z7 (onD pen) s.a).2<0=>?_⟩
  ·have hfr:(s.a:Int)=frI (z7 (onD pen) (jx pen long s).a).2:=by rw[rOn,zoD f];rfl
   (iterate 2 refine wa ?_);intro hl2;refine Dv.pos ⟨oM,oM⟩<|Ob.mk ⟨m3,m4⟩ λx hx=>?_;obtain⟨hx1,hx2⟩:=tailX x hx;exact wa<|⟨jx pen long s,nok,ji [] ⟨rfl,rfl,rfl,iR hfr,iR ni.symm,iR hx2.symm,iR na.symm,tV⟩ trivial,cnt,rfl,nmu⟩
  obtain⟨q,hq,hq2⟩:=zoE f;have hfr:frI (z7 (onD pen) s.a).2=frI (z7 (onD pen) (jx pen long s).a).2:=by rw[rOn,hq];rfl
  refine Dv.pos ⟨oM,dC⟩<|⟨λod=>absurd (show(s.i:Int)%2=1 from od) oM,λ_=>?_⟩;(iterate 2 refine wa ?_);intro hl2;refine Dv.pos ⟨oM,oM⟩<|Ob.mk ⟨m3,m4⟩ λx hx=>?_;obtain⟨hx1,hx2⟩:=tailX x hx;exact wa<|⟨jx pen long s,nok,ji [] ⟨rfl,rfl,rfl,iR hfr,iR ni.symm,iR hx2.symm,iR na.symm,tV⟩ trivial,cnt,rfl,nmu⟩
 have ev:¬s.i%2=0:=by have ev:¬(s.i:Int)%2=0:=ev;omega
 have rOff:=rOff ev;refine Dv.pos ⟨oM,dC⟩<|⟨λ_=>?_,λod=>absurd (show(s.i:Int)%2=1 by omega) od⟩;refine⟨λf:0<=frI (z7 (onD pen) s.a).2=>?_,λf:¬0<=frI (z7 (onD pen) s.a).2=>?_⟩
 ·obtain⟨q,hq,hq2⟩:=zoE (show¬frI (z7 (onD pen) s.a).2<0 by omega);have eA:(z7 (onD pen) (jx pen long s).a).1=(z7 (onD pen) s.a).1++[(q,s.a)]:=by rw[rOff];unfold kJ;rw[hq];rfl
  obtain⟨r,hr⟩:=rF;rw[eA]at hr;refine⟨rfl,(q,s.a),?_,rfl,.cons (ze hq2) (.C .nil),(λ_ _ h=>by cases h),?_⟩
  ·show(kQ pen long)[(z7 (onD pen) s.a).1.length]?=some (q,s.a);rw[hr,XZ,XG (Xk _),QJ];rfl
  refine Br.mk ?_ (.inl rfl);have hfr:(-1:Int)=frI (z7 (onD pen) (jx pen long s).a).2:=by rw[rOff];rfl
  have cnt:(z7 (onD pen) s.a).1.length+1=(z7 (onD pen) (jx pen long s).a).1.length:=by rw[eA,Xq];rfl
  (iterate 2 refine wa ?_);intro hl2;refine Dv.pos ⟨oM,oM⟩<|Ob.mk ⟨m3,m4⟩ λx hx=>?_;obtain⟨hx1,hx2⟩:=tailX x hx;exact wa<|⟨jx pen long s,nok,ji [] ⟨rfl,rfl,rfl,iR hfr,iR ni.symm,iR hx2.symm,iR na.symm,tV⟩ trivial,cnt,rfl,nmu⟩
 have hq:=zoD (show frI (z7 (onD pen) s.a).2<0 by omega);have hfr:frI (z7 (onD pen) s.a).2=frI (z7 (onD pen) (jx pen long s).a).2:=by rw[rOff,hq]
 have cnt:(z7 (onD pen) s.a).1.length=(z7 (onD pen) (jx pen long s).a).1.length:=by rw[rOff];unfold kJ;rw[hq];exact(Xg List.length (XE _)).symm
 (iterate 2 refine wa ?_);intro hl2;refine Dv.pos ⟨oM,oM⟩<|Ob.mk ⟨m3,m4⟩ λx hx=>?_;obtain⟨hx1,hx2⟩:=tailX x hx;exact wa<|⟨jx pen long s,nok,ji [] ⟨rfl,rfl,rfl,iR hfr,iR ni.symm,iR hx2.symm,iR na.symm,tV⟩ trivial,cnt,rfl,nmu⟩
def p_on(pen:Pen)(long:Int):CX 252 [wr pen,i64 long] (.dfn 316 [.dptr (jb pen),.dptr [i64 long]]):=by
 exact uY 2 tok mix func252 rfl rfl rfl<|.refl
def zkS(h:¬x<atS c i):zkA c x i=i:=by
 cases i with
 |zero=>rfl
 |succ i=>unfold zkA;rw[Xc h]
def zyJ(h:x<atS c (i+1)):zkA c x (i+1)=zkA c x i:=by
 show(if x<atS c (i+1) then zkA c x i else i+1)=_;rw[Xe h]
def zyK(h2:2<=(zX q).length)(hi:i<=(zX q).length-2):nth q.pts ((i+1)%q.pts.length)=nth (zX q) (i+1):=by
 by_cases h:q.cl=true/\2<=q.pts.length
 ·have hl:=zcQ h.1 h.2
  by_cases e:i+1=q.pts.length
  ·rw[e,J9,zqK h.1 h.2]
  rw[Xy oM,zbl oM]
 have hl:=zbC h;rw[Xy oM,zbl oM]
def meQ(q:Pl):Me:=⟨q.pts,tsL (zX q) ((zX q).length-1),atS (zX q) ((zX q).length-1)⟩
def zBc(h:∀q∈p.pts,zr q):zt8 p=meQ (zt p):=Xe h
def zt9(q:Pl)(x:Int)(hq:q.pts.length<=4096)(h2:2<=(zX q).length)(hx:0<=x/\x<=70368744177664):CX 318 [.agg (meE (meQ q)),i64 x] (wk (zc8 (zX q) x)):=by
 refine zc func318 ?_;have ll:=jF q;have tl:(meQ q).ts.length=(zX q).length-1:=zjb ..;intro hl1;refine wa<|⟨Nat,λi=>⟨[(1,i64 x),(2,.loc 0 0),(4,.loc 1 0),(5,i64 i)],[(0,.box 271 (meE (meQ q))),(1,.box 28 [i64 0,i64 0])],2,68,0⟩,λi=>i<=(zX q).length-2/\zkA (zX q) x ((zX q).length-2)=zkA (zX q) x i,λi=>i,(zX q).length-2,?_,?_,?_⟩
 ·exact⟨Xk _,rfl⟩
 ·exact zS [0,1] ⟨rfl,rfl,rfl,iR (by rw[tl];omega),tV⟩ ⟨rfl,rfl,tV⟩
 rintro i ⟨hi,hidx⟩
 have ar:=vS (zX q) i;have ar2:=vS (zX q) (i+1);have ar3:=vS (zX q) ((zX q).length-1);refine⟨λg=>Ob.mk (by have g:(0:Int)<(i:Int):=g;omega) λy hy=>Br.mk (λc=>?_) (λc=>?_),λg=>?_⟩
 ·have g:(0:Int)<(i:Int):=g;have hy:=zhU (show(tsL (zX q) ((zX q).length-1))[i]?=some y from hy);have c:x<y:=c;obtain⟨k,rfl⟩:∃k,i=k+1:=⟨i-1,oM⟩;exact wa<|⟨k,⟨oM,by rw[hidx,zyJ (by rw[←hy];exact c)]⟩,zS [0,1] ⟨rfl,rfl,rfl,iR oM,tV⟩ ⟨rfl,rfl,tV⟩,XW k⟩
 all_goals
  have hix:zkA (zX q) x ((zX q).length-2)=i:=by
   first
   |exact hidx.trans (zkS (by rw[←zhU (show(tsL (zX q) ((zX q).length-1))[i]?=some y from hy)];exact c))
   |exact hidx.trans (by rw[show i=0 by have g:¬(0:Int)<(i:Int):=g;omega];rfl)
  clear g;refine wa λhl2=>?_;refine⟨λd=>Ar.fit oM (Ob.mk ⟨oM,d⟩ λz hz=>?_),λd=>?_⟩
  all_goals
   have hn:1<=q.pts.length:=oM;have m3:=Kb ((i:Int)+1) (show(q.pts.length:Int)≠0 by omega);have m4:=X5 ((i:Int)+1) (show 0<(q.pts.length:Int) by omega)
   have e2:(((i:Int)+1)%q.pts.length).toNat=(i+1)%q.pts.length:=by
    rw[show(i:Int)+1=((i+1:Nat):Int) by omega];omega
   refine wc<|Ob.mk (show 0<=(i:Int)/\(i:Int)<q.pts.length by omega) λa ha=>?_;have ha:=qn (show q.pts[i]?=some a from ha);rw[←zbl (q:=q) (i:=i) oM]at ha;refine wa λhl3=>Dv.pos ⟨oM,(show 0<(q.pts.length:Int) by omega)⟩<|Ob.mk ⟨m3,m4⟩ λb hb=>?_;have hb:=qn (show q.pts[(((i:Int)+1)%q.pts.length).toNat]?=some b from hb);rw[e2,zyK h2 hi]at hb;refine Ob.mk (show 0<=(i:Int)/\(i:Int)<((meQ q).ts.length:Int) by omega) λu hu=>?_
   have hu:=zhU (show(tsL (zX q) ((zX q).length-1))[i]?=some u from hu);refine wa<|Ob.mk (show 0<=(i:Int)/\(i:Int)<((meQ q).ts.length:Int) by omega) λu' hu'=>?_;have hu':=zhU (show(tsL (zX q) ((zX q).length-1))[i]?=some u' from hu')
   have key:∀T,T=atS (zX q) (i+1)->uG a b (x-u) (T-u')=zc8 (zX q) x:=λT h=>by
    unfold zc8;dsimp only;rw[hix,h,hu,hu',ha,hb]
   first
   |have hT:=zhU (show(tsL (zX q) ((zX q).length-1))[i+1]?=some z from hz)
    exact wa<|wg (zxt a b (x-u) (z-u'))<|ua (Xg (λp=>SV.agg (ptE p)) (key _ hT))
   |have d:¬(i:Int)+1<((meQ q).ts.length:Int):=d
    have hT:atS (zX q) ((zX q).length-1)=atS (zX q) (i+1):=by rw[show(zX q).length-1=i+1 by omega]
    exact Ar.fit (show-9223372036854775808<=atS (zX q) ((zX q).length-1)-u'/\atS (zX q) ((zX q).length-1)-u'<=9223372036854775807 by omega)<|wg (zxt a b (x-u) (atS (zX q) ((zX q).length-1)-u'))<|ua (Xg (λp=>SV.agg (ptE p)) (key _ hT))
end Go.Gs
