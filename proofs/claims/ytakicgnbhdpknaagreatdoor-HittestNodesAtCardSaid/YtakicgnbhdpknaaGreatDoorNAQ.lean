/- Segments that may be, the other text; paths that are the same. -/
import Derived.Test.YtakicgnbhdpknaaGreatDoorNAP
set_option maxRecDepth 100000
set_option maxHeartbeats 8000000
set_option linter.all false
namespace Go.Gs
open Proofs.Tryz
open Go.Proofs
def zpI(v:Int):CX 220 [i64 v] (i64 (nm v)):=by
 refine zc func220<|Br.mk (λh1=>?_) (λh1=>?_)
 ·refine⟨λ_=>?_,λh=>absurd h1 h⟩;exact ze (by rw[h1];rfl)
 refine⟨λh2=>ze (by rw[h2];rfl),λh2=>?_⟩;refine⟨λh3=>ze (by rw[h3];rfl),λh3=>?_⟩;refine⟨λh4=>ze (by rw[h4];rfl),λh4=>?_⟩;refine⟨λh5=>ze (by rw[h5];rfl),λh5=>?_⟩;exact ze (by unfold nm;rw[Xc h1,Xc h2,Xc h3,Xc h4,Xc h5])
def ztA(s:Sg):CX 219 [.agg (sgE s)] (.agg (ptE s.a++ptE s.b++ptE s.c)):=by
 exact zc func219<|.refl
def zdF(l:LX)(i:Nat):Int:=if i=0 then 5 else(l[i-1]?.map Sg.v).getD 0
def zu8(l:LX)(i:Nat)(x:Sg)(hx:l[i]?=some x)(hl:l.length<=256):CX 341 [.sl sgE l,i64 i] (pr (zbQ (zdF l i) x.v)):=by
 refine zc func341 ?_;have hi:i<l.length:=(Xd.1 hx).1;refine⟨λh1=>?_,λh1=>?_⟩
 ·have h0:i=0:=by omega
  subst h0;refine wb5 λy(hy:l[0]?=some y)=>?_;rw[hx]at hy;cases hy
  refine zE ⟨λh=>.inl h,λh=>?_⟩
  rcases h with h|⟨h,_⟩
  ·exact h
  exact absurd rfl h
 refine wa<|wb5 λy hy=>?_;have hy:l[i-1]?=some y:=by rw[←hy];congr 1;omega
 have hlast:zdF l i=y.v:=by unfold zdF;rw[Xc oM,hy];rfl
 rw[hlast];refine⟨λh2=>?_,λh2=>?_⟩
 ·refine wb5 λz(hz:l[i]?=some z)=>?_;rw[hx]at hz;cases hz
  refine zE ⟨λh=>.inl h,λh=>?_⟩
  rcases h with h|⟨h,_⟩
  ·exact h
  exact absurd h2 h
 refine wb5 λz(hz:l[i]?=some z)=>?_;rw[hx]at hz;cases hz
 refine⟨λh3=>?_,λh3=>?_⟩
 ·exact zH (.inr ⟨h2,.inl h3⟩)
 refine wa<|wb5 λu hu=>?_;have hu:l[i-1]?=some u:=by rw[←hu];congr 1;omega
 rw[hy]at hu;cases hu
 refine zE ⟨λh=>.inr ⟨h2,.inr h⟩,λh=>?_⟩;have h3:x.v=5:=Xa.1 h3
 rcases h with h|⟨_,h|h⟩
 ·omega
 ·exact absurd h3 h
 exact h
def zAz(l:LX)(i:Nat)(x:Sg)(hx:l[i]?=some x)(hl:l.length<=256):CX 279 [.sl sgE l,i64 i] (i64 (jO (zdF l i) x)):=by
 refine zc func279 ?_;have hi:i<l.length:=(Xd.1 hx).1;refine wb5 λy(hy:l[i]?=some y)=>?_;rw[hx]at hy;cases hy
 refine wg (zpI x.v)<|⟨λh1=>ze (by unfold jO;rw[Xe h1]),λh1=>?_⟩;refine wg (zu8 l i x hx hl)<|⟨λh2=>ze (by unfold jO;rw[Xc h1,Xe h2]),λh2=>?_⟩;refine wb5 λy(hy:l[i]?=some y)=>?_;rw[hx]at hy;cases hy
 refine wg (ztA x) ?_;have bad:¬zc7 x->LE (i64 6) (i64 (jO (zdF l i) x)):=λh=>ze (by unfold jO;rw[Xc h1,Xc h2,Xe h])
 have hn:0<=nm x.v:=oM;have zOK:zr zp:=dC
 refine⟨Nat,λk=>⟨[(7,i64 k),(5,i64 (nm x.v)),(6,.loc 0 0)],[(0,.box 241 (ptE x.a++ptE x.b++ptE x.c))],1,51,0⟩,
  λk=>k<=3/\(1<=k->pk (nm x.v) 0 x.a)/\(2<=k->pk (nm x.v) 1 x.b)/\(3<=k->pk (nm x.v) 2 x.c),λk=>3-k,0,?_,?_,?_⟩
 ·exact⟨oM,λh=>by omega,λh=>by omega,λh=>by omega⟩
 ·exact zf [0]
 rintro k ⟨k1,k2,k3,k4⟩
 refine⟨λg1:(k:Int)<3=>?_,λg1=>?_⟩
 ·have hk:k=0∨k=1∨k=2:=oM
  rcases hk with rfl|rfl|rfl
  ·refine⟨λa1=>?_,λa1=>?_⟩
   ·refine wg (z9 x.a)<|⟨λa2=>bad (λh=>a2 h.1.1),λa2=>?_⟩;have a2:zr x.a:=Xa.1 a2;refine⟨λa3=>absurd a3 oM,λa3=>?_⟩;exact wa<|⟨1,⟨oM,λ_=>⟨a2,λh=>absurd h oM⟩,λh=>by omega,λh=>by omega⟩,zf [0],oN⟩
   refine⟨λa3=>?_,λa3=>absurd a3 oM⟩;refine⟨λa4=>bad (λh=>a4 (qi.2 (h.1.2 oM))),λa4=>?_⟩;have a4:x.a=zp:=qi.1 (Xa.1 a4);exact wa<|⟨1,⟨oM,λ_=>⟨a4 ▸ zOK,λ_=>a4⟩,λh=>by omega,λh=>by omega⟩,zf [0],oN⟩
  ·refine⟨λa1=>?_,λa1=>?_⟩
   ·refine wg (z9 x.b)<|⟨λa2=>bad (λh=>a2 h.2.1.1),λa2=>?_⟩;have a2:zr x.b:=Xa.1 a2;refine⟨λa3=>absurd a3 oM,λa3=>?_⟩;exact wa<|⟨2,⟨oM,λ_=>k2 oM,λ_=>⟨a2,λh=>absurd h oM⟩,λh=>by omega⟩,zf [0],oN⟩
   refine⟨λa3=>?_,λa3=>absurd a3 oM⟩;refine⟨λa4=>bad (λh=>a4 (qi.2 (h.2.1.2 oM))),λa4=>?_⟩;have a4:x.b=zp:=qi.1 (Xa.1 a4);exact wa<|⟨2,⟨oM,λ_=>k2 oM,λ_=>⟨a4 ▸ zOK,λ_=>a4⟩,λh=>by omega⟩,zf [0],oN⟩
  refine⟨λa1=>?_,λa1=>?_⟩
  ·refine wg (z9 x.c)<|⟨λa2=>bad (λh=>a2 h.2.2.1),λa2=>?_⟩;have a2:zr x.c:=Xa.1 a2;refine⟨λa3=>absurd a3 oM,λa3=>?_⟩;exact wa<|⟨3,⟨oM,λ_=>k2 oM,λ_=>k3 oM,λ_=>⟨a2,λh=>absurd h oM⟩⟩,zf [0],oN⟩
  refine⟨λa3=>?_,λa3=>absurd a3 oM⟩;refine⟨λa4=>bad (λh=>a4 (qi.2 (h.2.2.2 oM))),λa4=>?_⟩;have a4:x.c=zp:=qi.1 (Xa.1 a4);exact wa<|⟨3,⟨oM,λ_=>k2 oM,λ_=>k3 oM,λ_=>⟨a4 ▸ zOK,λ_=>a4⟩⟩,zf [0],oN⟩
 have h3:k=3:=by have g1:¬(k:Int)<3:=g1;omega
 subst h3;exact ze (by unfold jO;rw[Xc h1,Xc h2,Xc (λh=>h ⟨k2 oM,k3 oM,k4 oM⟩)])
variable{l:LX}{i:Nat}{x:Sg}
def zpJ(h:l[i]?=some x):zdF l (i+1)=x.v:=by
 unfold zdF;rw[Xc oM,Qr,h];rfl
def zxm(l:LX):CX 203 [.sl sgE l] (twoI (zae l)):=by
 refine zc func203 ?_;have fin:∀{a b:Int},zae l=(a,b)->LE (.tup [i64 a,i64 b]) (twoI (zae l)):=λh=>by rw[h];exact .refl
 intro hl;refine⟨λh=>fin (by unfold zae;rw[Xe oM]),λh=>?_⟩;have hc:zae l=chk 5 0 l:=by unfold zae;rw[Xc oM]
 refine⟨Nat,λi=>⟨[(4,i64 i),(0,.sl sgE l)],[],0,22,0⟩,λi=>i<=l.length/\chk 5 0 l=chk (zdF l i) i (l.drop i),λi=>l.length-i,0,?_,?_,?_⟩
 ·exact⟨Xh _,rfl⟩
 ·exact zB []
 rintro i ⟨h1,h2⟩
 intro hl1;refine⟨λh3=>?_,λh3=>?_⟩
 ·have hx:=Xb (show i<l.length by omega);generalize l[i]'oM=x at hx;rw[zgp hx]at h2;refine wg (zAz l i x hx oM)<|⟨λh4=>fin ?_,λh4=>?_⟩
  ·rw[hc,h2];unfold chk;rw[Xe h4]
  refine wa<|⟨i+1,⟨oM,?_⟩,zB [],oN⟩;rw[h2,zpJ hx];conv=>lhs;unfold chk
  rw[Xc h4]
 refine fin (hc.trans (h2.trans ?_));rw[Kx oM];rfl
def zgq(l:LX):CX 135 [.sl sgE l] (pr (qM l)):=by
 exact zc func135<|wg (zxm l)<|zE K5
def zdG(v:Int): -1<=nm v/\nm v<=3:=by unfold nm;split <;> (try split) <;> (try split) <;> (try split) <;> (try split) <;> omega
def kB(s:Sg):LU:=[s.a,s.b,s.c].take (nm s.v).toNat
def zpK(s:Sg):CX 243 [.agg (sgE s)] (.sl ptE (kB s)):=by
 refine zc func243<|⟨Pt,ptE,[s.a,s.b,s.c],rfl,wb0 ?_⟩;refine wg (c_named s.v) ?_;have hr:=zdG s.v;refine Sl.see (Ob.mk ⟨dC,by show 0<=max (nm s.v) 0;omega,by show max (nm s.v) 0<=3;omega,Qo _⟩ ?_);refine zZ ?_;show([s.a,s.b,s.c].drop 0).take (max (nm s.v) 0-0).toNat=_;unfold kB;rw[KY];congr 1;omega
def qc(l:LX):LU:=l.flatMap kB
def mnP(p q:Pt):Pt:=⟨min p.x q.x,min p.y q.y⟩
def mxP(p q:Pt):Pt:=⟨max p.x q.x,max p.y q.y⟩
def bnd(f:Pt->Pt->Pt)(q:LU):Pt:=q.foldl f (q.headD zp)
def zil(h:l[i]?=some x):qc (l.take (i+1))=qc (l.take i)++kB x:=by
 unfold qc;rw[Xl,h];simp[Qk]
def zhv(h:qM l):l.length<=256:=by
 unfold qM zae at h
 by_cases e:256<l.length
 ·rw[Xe e]at h;cases h
 omega
def zDe{s:Sg}{k:Nat}(h:(k:Int)<nm s.v):(kB s)[k]?=[s.a,s.b,s.c][k]? :=by
 unfold kB;rw[XI,Xe oM]
def zDf{r m a:Nat}(h:r=2^(m+1)*a)(hr:r<4294967296)(hm:m<=31):vh .or .u64 (r:Int) (1*2^(m:Int).toNat)=((r+2^m:Nat):Int):=by
 have hp:2^m<=2^31:=XH dC hm;have e:(1*2^(m:Int).toNat:Int)=((2^m:Nat):Int):=by rw[JR];simp
 rw[e,zj1 oM oM];have:=K6 (i:=m+1) (b:=2^m) (Nat.pow_lt_pow_right dC oM) a;rw[h,←this]
def zxn(n:Int)(h0:0<=n/\n<=18446744073709551615):CX 373 [u64 n] (u64 (isq n)):=by
 refine zc func373 ?_
 refine⟨Int×Nat,λz=>⟨[(0,u64 n),(3,u64 (z.2:Int)),(4,i64 z.1)],[],0,21,0⟩,λz=> -1<=z.1/\z.1<=31/\(∃a,z.2=2^(z.1+1).toNat*a)/\z.2+2^(z.1+1).toNat<=4294967296/\sqL n (z.1+1).toNat z.2=isq n,
  λz=>(z.1+1).toNat,(31,0),⟨dC,dC,⟨0,rfl⟩,dC,rfl⟩,zB [],?_⟩
 rintro⟨j,r⟩ ⟨h1,h2,⟨a,h3⟩,h4,h5⟩
 dsimp only at h1 h2 h3 h4 h5;refine⟨λg:0<=j=>?_,λg:¬0<=j=>?_⟩
 ·obtain⟨m,rfl⟩:∃m:Nat,j=m:=⟨j.toNat,oM⟩;have e:((m:Int)+1).toNat=m+1:=oM;rw[e]at h3 h4 h5;have hm:m<=31:=oM;have hp:2^m<=2147483648:=XH (n:=2) dC hm;have hp1:0<2^m:=KW dC;have hp2:2^(m+1)=2*2^m:=by rw[XU];omega
  have ee:(1*2^(m:Int).toNat:Int)=((2^m:Nat):Int):=by rw[JR];simp
  have hq:(r+2^m)*(r+2^m)<=18446744065119617025:=XB (Qs (show r+2^m<=4294967295 by omega) (show r+2^m<=4294967295 by omega)) dC
  have hs:sqL n (m+1) r=sqL n m (if ((r+2^m:Nat):Int)*((r+2^m:Nat):Int)<=n then((r+2^m:Nat):Int) else r):=by
   have:((r+2^m:Nat):Int)=(r:Int)+2^m:=by simp
   rw[this];rfl
  rw[hs]at h5;have em:((m:Int)-1+1).toNat=m:=oM;refine Ob.mk (by show(0:Int)<=m/\(m:Int)<64;omega)<|Ar.fit (by rw[ee];omega)<|⟨((r+2^m:Nat):Int),(zDf h3 oM hm).symm,?_⟩;have hq':((r+2^m:Nat):Int)*((r+2^m:Nat):Int)<=18446744065119617025:=by have h:=JF.mpr hq;rw[X3]at h;exact h
  have hq0:0<=((r+2^m:Nat):Int)*((r+2^m:Nat):Int):=XJ oM oM;refine Ar.fit ⟨hq0,oM⟩<|⟨λk=>?_,λk=>?_⟩
  ·refine wa ?_;rw[Xe k]at h5;refine⟨((m:Int)-1,r+2^m),⟨oN,oN,⟨2*a+1,?_⟩,?_,?_⟩,zB [],oN⟩
   ·dsimp only;rw[em,h3,hp2];grind
   ·dsimp only;rw[em];omega
   dsimp only;rw[em];exact h5
  refine wa ?_;rw[Xc k]at h5;refine⟨((m:Int)-1,r),⟨oN,oN,⟨2*a,?_⟩,?_,?_⟩,zB [],oN⟩
  ·dsimp only;rw[em,h3,hp2];grind
  ·dsimp only;rw[em];omega
  dsimp only;rw[em];exact h5
 have e:(j+1).toNat=0:=oM;rw[e]at h5;exact ze h5
def ztB(n:Int)(h0:0<=n/\n<=18446744073709551615):CX 405 [u64 n] (u64 (isq n)):=by
 refine zc func405 ?_
 refine⟨Int×Nat,λz=>⟨[(0,u64 n),(3,u64 (z.2:Int)),(4,i64 z.1)],[],0,22,0⟩,λz=> -1<=z.1/\z.1<=31/\z.2+2^(z.1+1).toNat<=4294967296/\sqL n (z.1+1).toNat z.2=isq n,
  λz=>(z.1+1).toNat,(31,0),⟨dC,dC,dC,rfl⟩,zB [],?_⟩
 rintro⟨j,r⟩ ⟨h1,h2,h4,h5⟩
 dsimp only at h1 h2 h4 h5;refine⟨λg:0<=j=>?_,λg:¬0<=j=>?_⟩
 ·obtain⟨m,rfl⟩:∃m:Nat,j=m:=⟨j.toNat,oM⟩;have e:((m:Int)+1).toNat=m+1:=oM;rw[e]at h4 h5;have hm:m<=31:=oM;have hp:2^m<=2147483648:=XH (n:=2) dC hm;have hp1:0<2^m:=KW dC;have hp2:2^(m+1)=2*2^m:=by rw[XU];omega
  have ee:(1*2^(m:Int).toNat:Int)=((2^m:Nat):Int):=by rw[JR];simp
  have hq:(r+2^m)*(r+2^m)<=18446744065119617025:=XB (Qs (show r+2^m<=4294967295 by omega) (show r+2^m<=4294967295 by omega)) dC
  have hs:sqL n (m+1) r=sqL n m (if ((r+2^m:Nat):Int)*((r+2^m:Nat):Int)<=n then((r+2^m:Nat):Int) else r):=by
   have:((r+2^m:Nat):Int)=(r:Int)+2^m:=by simp
   rw[this];rfl
  rw[hs]at h5;have em:((m:Int)-1+1).toNat=m:=oM;refine wa<|Ob.mk (by show(0:Int)<=m/\(m:Int)<64;omega)<|Ar.fit (by rw[ee];omega) ?_;change Ar _ _ _;rw[ee,show(r:Int)+((2^m:Nat):Int)=((r+2^m:Nat):Int) by omega];refine wa ?_;have hq':((r+2^m:Nat):Int)*((r+2^m:Nat):Int)<=18446744065119617025:=by have h:=JF.mpr hq;rw[X3]at h;exact h
  have hq0:0<=((r+2^m:Nat):Int)*((r+2^m:Nat):Int):=XJ oM oM;refine Ar.fit ⟨hq0,oM⟩<|⟨λk=>?_,λk=>?_⟩
  ·refine wa ?_;rw[Xe k]at h5;refine⟨((m:Int)-1,r+2^m),⟨oN,oN,?_,?_⟩,zB [],oN⟩
   ·dsimp only;rw[em];omega
   dsimp only;rw[em];exact h5
  refine wa ?_;rw[Xc k]at h5;refine⟨((m:Int)-1,r),⟨oN,oN,?_,?_⟩,zB [],oN⟩
  ·dsimp only;rw[em];omega
  dsimp only;rw[em];exact h5
 have e:(j+1).toNat=0:=oM;rw[e]at h5;exact ze h5
def zcG(p:Pt):CX 111 [wk p] (wk (js p)):=zw9 p
def zj6(n lo hi:Int):CX 348 [i64 n,i64 lo,i64 hi] (i64 (kS n lo hi)):=by
 refine zc func348<|Br.mk (λh=>?_) (λh=>?_)
 ·exact ze (by simp[kS,h])
 refine⟨λh2=>?_,λh2=>?_⟩
 ·exact ze (by simp[kS,h,h2])
 exact ze (by simp[kS,h,h2])
def zcH(p:Pt):CX 347 [wk p] (wk (js p)):=by
 exact zc func347<|wc<|wg (zj6 p.x _ _)<|wg (zj6 p.y _ _)<|.refl
def zxo(p q:Pt):CX 168 [wk p,wk q] (wk (zad p q)):=by
 have h1:=qj p.x;have h2:=qj p.y;have h3:=qj q.x;have h4:=qj q.y;refine zc func168<|wc<|wg (zcG p)<|wg (zcG q) ?_;unfold js;exact Ar.fit oN<|Ar.fit oN<|.refl
def zmj(p q:Pt):CX 324 [wk p,wk q] (wk (zad p q)):=by
 have h1:=qj p.x;have h2:=qj p.y;have h3:=qj q.x;have h4:=qj q.y;refine zc func324<|wc<|wg (zcH p)<|wg (zcH q) ?_;unfold js;exact Ar.fit oN<|Ar.fit oN<|.refl
def zxp(p q:Pt):CX 462 [wk p,wk q] (wk (addP p q)):=by
 have h1:=qj p.x;have h2:=qj p.y;have h3:=qj q.x;have h4:=qj q.y;refine zc func462<|wc<|wg (zcH p)<|wg (zcH q) ?_;unfold js;exact Ar.fit oN<|Ar.fit oN<|.refl
def zDg(p:Pt):CX 489 [wk p] (wk (perpP p)):=by
 have h2:=qj p.y;refine zc func489<|wg (zcG p) ?_;unfold js;exact Ar.fit oN<|.refl
def zxq(p q:Pt)(hp:zr p)(hq:zr q):CX 167 [wk p,wk q] (i64 (wdg p q)):=by
 have h:=zb2 hp hq;unfold wdg at h;refine zc func167 ?_;(iterate 3 refine wa ?_);exact .refl
def zAA(p q:Pt)(hp:zr p)(hq:zr q):CX 323 [wk p,wk q] (i64 (wdg p q)):=by
 have h:=zb2 hp hq;unfold wdg at h;refine zc func323 ?_;(iterate 3 refine wa ?_);exact .refl
def zDh(p q:Pt)(hp:zr p)(hq:zr q):CX 431 [wk p,wk q] (i64 (dtp p q)):=by
 have h:=zeo hp hq;unfold dtp at h;refine zc func431 ?_;(iterate 3 refine wa ?_);exact .refl
def zAB(p q:Pt):CX 492 [wk p,wk q] (i64 (zaw p q)):=by
 exact zc func492<|wc<|wg (zcG p)<|wg (zcG q)<|wg (zxq (js p) (js q) (jo p) (jo q))<|.refl
def zAC(p q:Pt):CX 494 [wk p,wk q] (i64 (zaw p q)):=by
 exact zc func494<|wc<|wg (zcH p)<|wg (zcH q)<|wg (zAA (js p) (js q) (jo p) (jo q))<|.refl
def p_dot(p q:Pt):CX 374 [wk p,wk q] (i64 (ziJ p q)):=by
 exact zc func374<|wc<|wg (zcG p)<|wg (zcG q)<|wg (zDh (js p) (js q) (jo p) (jo q))<|.refl
def r_dot(p q:Pt):CX 406 [wk p,wk q] (i64 (ziJ p q)):=by
 have h:=zeo (jo p) (jo q);unfold dtp at h;refine zc func406<|wc<|wg (zcH p)<|wg (zcH q) ?_;(iterate 3 refine wa ?_);exact .refl
def zj7(p:Pt):0<=ziJ p p/\ziJ p p<=2199023255552:=by
 have h:=zeo (jo p) (jo p);have h1:=ja (js p).x;have h2:=ja (js p).y;unfold ziJ;unfold dtp at*;omega
def zhw(p:Pt):0<=zpG p/\zpG p<4294967296:=by
 have h:=zj7 p;exact⟨(zgo oM oM).1,zxl oM oM⟩
def zxr(p:Pt):CX 314 [wk p] (i64 (zpG p)):=by
 have h:=zj7 p;have hl:=zhw p;unfold zpG at hl;refine zc func314<|wg (p_dot p p) ?_;(iterate 2 refine wa ?_);exact wg (zxn (65536*ziJ p p) oM)<|wa<|.refl
def zxs(p:Pt):CX 346 [wk p] (i64 (zpG p)):=by
 have h:=zj7 p;have hl:=zhw p;unfold zpG at hl;refine zc func346<|wg (r_dot p p) ?_;(iterate 2 refine wa ?_);exact wg (ztB (65536*ziJ p p) oM)<|wa<|.refl
def zn3{a b:Int}{M:Nat}(hb:b≠0)(h:a.natAbs<=M*b.natAbs): -(M:Int)<=z6 a b/\z6 a b<=M:=by
 have e:=zdC a b
 have:(2*a.natAbs+b.natAbs)/(2*b.natAbs)<M+1:=by
  rw[XS oM];have:(M+1)*(2*b.natAbs)=2*(M*b.natAbs)+2*b.natAbs:=by grind
  omega
 omega
variable{b:Int}
def zmk:z6 0 b=0:=by
 have e:=zdC 0 b
 have:(2*(0:Int).natAbs+b.natAbs)/(2*b.natAbs)=0:=by
  by_cases h:b.natAbs=0
  ·rw[h];rfl
  exact Kh (by show 0+b.natAbs<_;omega)
 omega
def uV{a b:Int}{M:Nat}(h:a.natAbs<=M): -(M:Int)<=z6 a b/\z6 a b<=M:=by
 by_cases hb:b=0
 ·subst hb;have e:=zdC a 0;rw[show(2*(0:Int).natAbs)=0 by rfl,Nat.div_zero]at e;omega
 refine zn3 hb (XB h ?_);exact QG _ oM
def uH{a:Int}(h: -4611686018427387904<=a/\a<=4611686018427387904):y4 (z6 a b)=z6 a b:=by
 have:=uV (a:=a) (b:=b) (M:=4611686018427387904) oM;unfold y4;rw[Xe oM]
def zgr{n d:Int}(h:1<=d):0<=kS n 0 d/\kS n 0 d<=d:=by unfold kS;split <;> (try split) <;> omega
def zhx{n d f t:Int}(hd:1<=d/\d<=1099511627776)(hn:0<=n/\n<=d)(hf: -1048576<=f/\f<=1048576)(ht: -1048576<=t/\t<=1048576):
  (-2305843009213693952<=n*(t-f)/\n*(t-f)<=2305843009213693952)/\(-2097152<=z6 (n*(t-f)) d/\z6 (n*(t-f)) d<=2097152)/\y4 (z6 (n*(t-f)) d)=z6 (n*(t-f)) d:=by
 have h1:=ju (A:=d) (B:=2097152) (a:=n) (b:=t-f) oM oM;have h2:(n*(t-f)).natAbs<=2097152*d.natAbs:=oM;have h3:=zn3 (M:=2097152) oM h2;exact⟨oM,oM,uH oM⟩
def ztC(f t n d:Int)(hd:1<=d/\d<=1099511627776)(hn:0<=n/\n<=d)(hf: -1048576<=f/\f<=1048576)(ht: -1048576<=t/\t<=1048576):
  CX 432 [i64 f,i64 t,.ptr [i64 n],.ptr [i64 d]] (i64 (f+z6 (n*(t-f)) d)):=by
 have h:=zhx hd hn hf ht;refine zc func432 ?_;(iterate 2 refine wa ?_);refine wg (uT (n*(t-f)) d ⟨oM,oM⟩ ⟨oM,oM⟩) ?_;rw[h.2.2];exact wa<|.refl
def zxt(a b:Pt)(n d:Int):CX 375 [wk a,wk b,i64 n,i64 d] (wk (uG a b n d)):=by
 have h1:=qj a.x;have h2:=qj a.y;have h3:=qj b.x;have h4:=qj b.y;refine zc func375<|wc<|wg (zcG a)<|wg (zcG b)<|⟨λg=>?_,λg=>?_⟩
 ·unfold uG;rw[Xe (.inl g)];exact .refl
 refine⟨λg2=>?_,λg2=>?_⟩
 ·unfold uG;rw[Xe (.inr g2)];exact .refl
 have g:¬(d<1∨1099511627776<d):=λh=>h.elim g g2
 have hn:=zgr (n:=n) (d:=d) oM;refine wg (znW n 0 d)<|wc<|wg (ztC (hI a.x) (hI b.x) (kS n 0 d) d oM hn h1 h3)<|wg (ztC (hI a.y) (hI b.y) (kS n 0 d) d oM hn h2 h4) ?_;unfold uG;rw[Xc g];exact .refl
def zxu(a b:Pt)(n d:Int):CX 294 [wk a,wk b,i64 n,i64 d] (wk (uG a b n d)):=by
 have h1:=qj a.x;have h2:=qj a.y;have h3:=qj b.x;have h4:=qj b.y;refine zc func294<|wg (zcH a)<|⟨λg=>?_,λg=>?_⟩
 ·unfold uG;rw[Xe (.inl g)];exact .refl
 refine⟨λg2=>?_,λg2=>?_⟩
 ·unfold uG;rw[Xe (.inr g2)];exact .refl
 have g:¬(d<1∨1099511627776<d):=λh=>h.elim g g2
 have hn:=zgr (n:=n) (d:=d) oM;have k1:=zhx oM hn h1 h3;have k2:=zhx oM hn h2 h4;refine wg (zmj b a)<|wg (zj6 n 0 d)<|wc<|Ar.fit (by show _<=kS n 0 d*(hI b.x-hI a.x)/\kS n 0 d*(hI b.x-hI a.x)<=_;omega)<|wg (ub (kS n 0 d*(hI b.x-hI a.x)) d ⟨oM,oM⟩ ⟨oM,oM⟩) ?_;rw[k1.2.2];refine Ar.fit (by show _<=hI a.x+z6 (kS n 0 d*(hI b.x-hI a.x)) d/\hI a.x+z6 (kS n 0 d*(hI b.x-hI a.x)) d<=_;omega)<|Ar.fit (by show _<=kS n 0 d*(hI b.y-hI a.y)/\kS n 0 d*(hI b.y-hI a.y)<=_;omega) ?_
 refine wg (ub (kS n 0 d*(hI b.y-hI a.y)) d ⟨oM,oM⟩ ⟨oM,oM⟩) ?_;rw[k2.2.2];refine Ar.fit (by show _<=hI a.y+z6 (kS n 0 d*(hI b.y-hI a.y)) d/\hI a.y+z6 (kS n 0 d*(hI b.y-hI a.y)) d<=_;omega) ?_;unfold uG;rw[Xc g];exact .refl
def vN(w:Int):CX 311 [i64 w] (pr (ki w)):=by
 refine zc func311<|Br.mk (λh=>?_) (λh=>zd (λk=>h k.1));exact zE ⟨λk=>⟨h,k⟩,λk=>k.2⟩
def zCq(n:Int):CX 490 [i64 n] (pr (zbq n)):=by
 refine zc func490<|Br.mk (λh=>zH (.inl h)) (λh=>?_);exact zE ⟨λk=>.inr k,λk=>k.resolve_left h⟩
def zaf(n a b:Int):CX 226 [i64 n,i64 a,i64 b] (pr (a<=n/\n<=b)):=by
 refine zc func226<|Br.mk (λh=>?_) (λh=>zd (λk=>h k.1));exact zE ⟨λk=>⟨h,k⟩,λk=>k.2⟩
def zn4(w:Int):CX 225 [i64 w] (pr (ki w)):=by
 exact zc func225<|wg (zaf w 1 16384)<|zE K5
def ztD(a b:Pt)(w:Int):CX 455 [wk a,wk b,i64 w] (pr (ki w/\zr a/\zr b)):=by
 refine zc func455<|wg (z9 a)<|⟨λh1=>?_,λh1=>zd (λh=>h1 h.2.1)⟩;refine wg (z9 b)<|⟨λh2=>?_,λh2=>zd (λh=>h2 h.2.2)⟩;exact wg (zn4 w)<|zE ⟨λh=>⟨h,h1,h2⟩,λh=>h.1⟩
def zdH(out:List LX)(s:Sg):List LX:=if s.v=1 then out++[[s]] else out.dropLast++[out.getLastD []++[s]]
def subs(l:LX):List LX:=l.foldl zdH []
def zj8(v:Int)(q:LU):Sg:=⟨v,q.getD 0 zp,q.getD 1 zp,q.getD 2 zp⟩
def gid(i:Nat)(x:LR)(hx:[[SV.loc 1 1],[.loc 1 3],[.loc 1 5]][i]?=some x):ren.rens [(0,some 0),(1,some 1),(2,some 2)] x=some x:=by
 match i,hx with
 |0,hx=>cases hx;rfl
 |1,hx=>cases hx;rfl
 |2,hx=>cases hx;rfl
def zn5(v:Int)(q:LU):CX 245 [i64 v,.sl ptE q] (.agg (sgE (zj8 v q))):=by
 refine zc func245 ?_
 refine⟨[[.loc 1 1],[.loc 1 3],[.loc 1 5]],rfl,Ob.mk ⟨rfl,dC,dC,dC,λx hx=>by
  simp only[XY,XR,or_false]at hx
  rcases hx with rfl|rfl|rfl <;> rfl⟩ ?_⟩
 intro _
 refine⟨Nat,λi=>⟨[(15,i64 i),(14,i64 3),(13,.own 2),(5,.loc 1 0),(4,.loc 0 0),(1,.sl ptE q)],
  [(2,.garr 323 1 [[.loc 1 1],[.loc 1 3],[.loc 1 5]]),(1,.box 108 (sgE ⟨v,if 1<=i then q.getD 0 zp else zp,if 2<=i then q.getD 1 zp else zp,if 3<=i then q.getD 2 zp else zp⟩)),(0,.box 108 (sgE ⟨0,zp,zp,zp⟩))],3,32,0⟩,
  λi=>i<=3,λi=>3-i,0,dC,zu [0,1,2] ⟨⟨_,rfl,rfl,λi x hx=>?_⟩,rfl,rfl,tV⟩,?_⟩
 ·exact⟨x,hx,gid i x hx⟩
 rintro i hi
 have hi:i<=3:=hi;have e:i=0∨i=1∨i=2∨i=3:=oM
 rcases e with rfl|rfl|rfl|rfl
 ·refine we<|Ob.mk ⟨dC,by show(0:Int)<((3:Nat):Int);decide⟩<|Ob.mk ⟨dC,by show(0:Int)<((3:Nat):Int);decide⟩ λy hy=>?_;have hy:some [SV.loc 1 1]=some y:=hy
  cases hy
  intro _;refine⟨λh1=>?_,λh1:¬((0:Nat):Int)<q.length=>?_⟩
  ·refine Ob.mk ⟨dC,h1⟩ λx(hx:q[0]?=some x)=>?_;have hg:q.getD 0 zp=x:=by rw[Xt,hx];rfl
   exact Ar.fit dC<|⟨1,dC,zu [0,1,2] ⟨⟨_,rfl,rfl,λi x hx=>⟨x,hx,gid i x hx⟩⟩,Xg (λp=>some (Mem.box 108 (sgE ⟨v,p,zp,zp⟩))) hg.symm,rfl,tV⟩,dC⟩
  have hg:q.getD 0 zp=zp:=by rw[Xt,XF oM];rfl
  exact Ar.fit dC<|⟨1,dC,zu [0,1,2] ⟨⟨_,rfl,rfl,λi x hx=>⟨x,hx,gid i x hx⟩⟩,Xg (λp=>some (Mem.box 108 (sgE ⟨v,p,zp,zp⟩))) hg.symm,rfl,tV⟩,dC⟩
 ·refine we<|Ob.mk ⟨dC,by show(1:Int)<((3:Nat):Int);decide⟩<|Ob.mk ⟨dC,by show(1:Int)<((3:Nat):Int);decide⟩ λy hy=>?_;have hy:some [SV.loc 1 3]=some y:=hy
  cases hy
  intro _;refine⟨λh1=>?_,λh1:¬((1:Nat):Int)<q.length=>?_⟩
  ·refine Ob.mk ⟨dC,h1⟩ λx(hx:q[1]?=some x)=>?_;have hg:q.getD 1 zp=x:=by rw[Xt,hx];rfl
   exact Ar.fit dC<|⟨2,dC,zu [0,1,2] ⟨⟨_,rfl,rfl,λi x hx=>⟨x,hx,gid i x hx⟩⟩,Xg (λp=>some (Mem.box 108 (sgE ⟨v,q.getD 0 zp,p,zp⟩))) hg.symm,rfl,tV⟩,dC⟩
  have hg:q.getD 1 zp=zp:=by rw[Xt,XF oM];rfl
  exact Ar.fit dC<|⟨2,dC,zu [0,1,2] ⟨⟨_,rfl,rfl,λi x hx=>⟨x,hx,gid i x hx⟩⟩,Xg (λp=>some (Mem.box 108 (sgE ⟨v,q.getD 0 zp,p,zp⟩))) hg.symm,rfl,tV⟩,dC⟩
 ·refine we<|Ob.mk ⟨dC,by show(2:Int)<((3:Nat):Int);decide⟩<|Ob.mk ⟨dC,by show(2:Int)<((3:Nat):Int);decide⟩ λy hy=>?_;have hy:some [SV.loc 1 5]=some y:=hy
  cases hy
  intro _;refine⟨λh1=>?_,λh1:¬((2:Nat):Int)<q.length=>?_⟩
  ·refine Ob.mk ⟨dC,h1⟩ λx(hx:q[2]?=some x)=>?_;have hg:q.getD 2 zp=x:=by rw[Xt,hx];rfl
   exact Ar.fit dC<|⟨3,dC,zu [0,1,2] ⟨⟨_,rfl,rfl,λi x hx=>⟨x,hx,gid i x hx⟩⟩,Xg (λp=>some (Mem.box 108 (sgE ⟨v,q.getD 0 zp,q.getD 1 zp,p⟩))) hg.symm,rfl,tV⟩,dC⟩
  have hg:q.getD 2 zp=zp:=by rw[Xt,XF oM];rfl
  exact Ar.fit dC<|⟨3,dC,zu [0,1,2] ⟨⟨_,rfl,rfl,λi x hx=>⟨x,hx,gid i x hx⟩⟩,Xg (λp=>some (Mem.box 108 (sgE ⟨v,q.getD 0 zp,q.getD 1 zp,p⟩))) hg.symm,rfl,tV⟩,dC⟩
 refine⟨λh=>absurd h dC,λ_=>?_⟩;exact .refl
def zr7:Sg:=⟨5,zp,zp,zp⟩
def oks:Int->LX->Prop
 |_,[]=>True
 |last,s::r=>jO last s=0/\oks s.v r
def ztE:∀{l:LX} {last:Int} {i:Nat},(chk last i l).1=0↔oks last l
 |[],_,_=>by simp[chk,oks]
 |s::r,last,i=>by
  unfold chk oks
  by_cases h:jO last s=0
  ·rw[Xc (λhn=>hn h),ztE];exact⟨λk=>⟨h,k⟩,λk=>k.2⟩
  rw[Xe h];exact⟨λk=>absurd k h,λk=>absurd k.1 h⟩
def zaU:qM l↔l.length<=256/\oks 5 l:=by
 unfold qM zae
 by_cases h:256<l.length
 ·rw[Xe h];exact⟨λk=>absurd k dC,λk=>absurd h oM⟩
 rw[Xc h,ztE];exact⟨λk=>⟨oM,k⟩,λk=>k.2⟩
variable{last:Int}
def uW{s:Sg}:jO last s=0↔0<=nm s.v/\zbQ last s.v/\zc7 s:=by
 unfold jO
 by_cases h1:nm s.v<0
 ·rw[Xe h1];exact⟨λh=>absurd h dC,λh=>by omega⟩
 rw[Xc h1]
 by_cases h2:zbQ last s.v
 ·rw[Xc (λh=>h h2)]
  by_cases h3:zc7 s
  ·rw[Xc (λh=>h h3)];exact⟨λ_=>⟨oM,h2,h3⟩,λ_=>rfl⟩
  rw[Xe h3];exact⟨λh=>absurd h dC,λh=>absurd h.2.2 h3⟩
 rw[Xe h2];exact⟨λh=>absurd h dC,λh=>absurd h.2.1 h2⟩
def zml{v:Int}(h:0<=nm v):v=1∨v=2∨v=3∨v=4∨v=5:=by
 unfold nm at h
 by_cases h1:v=1
 ·exact .inl h1
 rw[Xc h1]at h
 by_cases h2:v=2
 ·exact .inr (.inl h2)
 rw[Xc h2]at h
 by_cases h3:v=3
 ·exact .inr (.inr (.inl h3))
 rw[Xc h3]at h
 by_cases h4:v=4
 ·exact .inr (.inr (.inr (.inl h4)))
 rw[Xc h4]at h
 by_cases h5:v=5
 ·exact .inr (.inr (.inr (.inr h5)))
 rw[Xc h5]at h;omega
def midV(s:Sg):Prop:=s.v=2∨s.v=3∨s.v=4
def Grp(g:LX)(last:Int):Prop:=
 ∃m mid,m.v=1/\(∀s∈mid,midV s)/\(∀s∈g,zc7 s)/\
  ((g=m::mid/\last≠5/\(mid=[]->last=1))∨∃c,g=m::mid++[c]/\c.v=5/\last=5/\mid≠[])
def zxv{g:LX}(h:Grp g last)(he:jO last x=0)(hv:x.v≠1):Grp (g++[x]) x.v:=by
 obtain⟨h0,h1,h2⟩:=uW.1 he;obtain⟨m,mid,g1,g2,g3,g4⟩:=h;have hs:last≠5/\(x.v≠5∨last≠1):=h1.resolve_left hv
 have hf:∀s∈g++[x],zc7 s:=λs hs=>by
  rcases Xs.1 hs with hs|hs
  ·exact g3 s hs
  simp at hs;subst hs;exact h2
 obtain⟨rfl,g5,g6⟩|⟨c,_,_,g5,_⟩:=g4
 ·by_cases h5:x.v=5
  ·exact⟨m,mid,g1,g2,hf,.inr ⟨x,rfl,h5,h5,λe=>(hs.2.resolve_left (λh=>h h5)) (g6 e)⟩⟩
  refine⟨m,mid++[x],g1,λs hs=>?_,hf,.inl ⟨rfl,h5,λe=>by simp at e⟩⟩
  rcases Xs.1 hs with hs|hs
  ·exact g2 s hs
  simp at hs;subst hs
  rcases zml h0 with h|h|h|h|h
  ·exact absurd h hv
  ·exact .inl h
  ·exact .inr (.inl h)
  ·exact .inr (.inr h)
  exact absurd h h5
 exact absurd g5 hs.1
def zmm(he:jO last x=0)(hv:x.v=1):Grp [x] x.v:=
 ⟨x,[],hv,λs hs=>(by cases hs),λs hs=>by simp at hs;subst hs;exact(uW.1 he).2.2,.inl ⟨rfl,oM,λ_=>hv⟩⟩
def InvS(S:List LX)(last:Int):Prop:=(S=[]/\last=5)∨∃cl g,S=cl++[g]/\Grp g last/\∀h∈cl,∃k,Grp h k
def zxw{S:List LX}(h:InvS S last)(he:jO last x=0):InvS (zdH S x) x.v:=by
 unfold zdH
 by_cases hv:x.v=1
 ·rw[Xe hv]
  obtain⟨rfl,rfl⟩|⟨cl,g,rfl,h1,h2⟩:=h
  ·exact .inr ⟨[],[x],rfl,zmm he hv,λh hh=>by cases hh⟩
  refine .inr ⟨cl++[g],[x],rfl,zmm he hv,λh hh=>?_⟩
  rcases Xs.1 hh with hh|hh
  ·exact h2 h hh
  simp at hh;subst hh;exact⟨_,h1⟩
 rw[Xc hv]
 obtain⟨rfl,rfl⟩|⟨cl,g,rfl,h1,h2⟩:=h
 ·exact absurd ((uW.1 he).2.1.resolve_left hv).1 (λh=>h rfl)
 exact .inr ⟨cl,g++[x],sI,zxv h1 he hv,h2⟩
def ztF:∀(r:LX) {S:List LX} {last:Int},InvS S last->oks last r->∃k,InvS (r.foldl zdH S) k
 |[],_,last,h,_=>⟨last,h⟩
 |_::r,_,_,h,ho=>ztF r (zxw h ho.1) ho.2
def zpL(h:qM l):∀g∈subs l,∃k,Grp g k:=by
 obtain⟨k,hk⟩:=ztF l (S:=[]) (last:=5) (.inl ⟨rfl,rfl⟩) (zaU.1 h).2;intro g hg;have hg:g∈l.foldl zdH []:=hg
 obtain⟨e,_⟩|⟨cl,g',e,h1,h2⟩:=hk
 ·rw[e]at hg;cases hg
 rw[e]at hg
 rcases Xs.1 hg with hg|hg
 ·exact h2 g hg
 simp at hg;subst hg;exact⟨_,h1⟩
def zpM(S:List LX)(x:Sg):(zdH S x).flatten=S.flatten++[x]:=by
 unfold zdH
 by_cases hv:x.v=1
 ·rw[Xe hv];simp
 rw[Xc hv]
 rcases Yj S with rfl|⟨cl,g,rfl⟩
 ·rfl
 simp
def zmn:∀(r:LX) (S:List LX),(r.foldl zdH S).flatten=S.flatten++r
 |[],S=>by simp
 |x::r,S=>by rw[Qw,zmn r,zpM];simp
def zmo(l:LX):(subs l).flatten=l:=by
 unfold subs;rw[zmn];rfl
def zim(h:qM l):∀x,l[0]?=some x->x.v=1:=λx hx=>by
 have ho:=(zaU.1 h).2
 cases l with
 |nil=>cases hx
 |cons a r=>
  cases hx
  exact(uW.1 ho.1).2.1.resolve_right (λh=>h.1 rfl)
def zp_ok:zr zp:=dC
def inR(n:Int):Prop:= -4096<=n/\n<=4096
instance (n:Int):Decidable (inR n):=wi
def rok(a b c d:Int):Prop:=inR a/\inR b/\inR c/\inR d/\a<c/\b<d
instance (a b c d:Int):Decidable (rok a b c d):=wi
def zaE(a b c d:Int):LX:=if rok a b c d then[⟨1,⟨a*256,b*256⟩,zp,zp⟩,⟨2,⟨c*256,b*256⟩,zp,zp⟩,⟨2,⟨c*256,d*256⟩,zp,zp⟩,⟨2,⟨a*256,d*256⟩,zp,zp⟩,zr7] else[]
def reE(a b c d:Int):LR:=[i64 a,i64 b,i64 c,i64 d]
def zN(n:Int):LR:=[i64 n]
def zDi{α:Type}{enc:α->LR}:LE nS (.sl enc []):=λS Pm ρ w v hg=>by
 rw[hg.val_inv];exact .d _ _ (.nil enc none)
def zAD(a b c d:Int):CX 119 [.agg (reE a b c d)] (pr (¬rok a b c d)):=by
 refine zc func119<|⟨Int,zN,[a,b,c,d],rfl,wb0 ?_⟩;intro _
 refine⟨Nat,λi=>⟨[(15,i64 i),(14,i64 4),(13,.own 1),(1,.loc 0 0)],[(1,.arr 3 zN 1 [a,b,c,d]),(0,.box 47 (reE a b c d))],2,38,0⟩,
  λi=>i<=4/\∀(j:Nat) n,j<i->[a,b,c,d][j]?=some n->inR n,λi=>4-i,0,⟨oM,λj n hj=>by omega⟩,zf [0,1],?_⟩
 rintro i ⟨h1,h2⟩
 refine⟨λh3:(i:Int)<4=>?_,λh3:¬(i:Int)<4=>?_⟩
 ·refine Ob.mk ⟨oM,h3⟩<|Ob.mk ⟨oM,h3⟩ λn hn=>?_;have hn:[a,b,c,d][i]?=some n:=hn
  have out:¬inR n->¬rok a b c d:=λhr ⟨r1,r2,r3,r4,_⟩=>hr (by
   have:i=0∨i=1∨i=2∨i=3:=oM
   rcases this with rfl|rfl|rfl|rfl <;> (cases hn;assumption))
  refine⟨λh4=>zH (out λh=>by have:=h.1;omega),λh4=>?_⟩;refine⟨λh5=>zH (out λh=>by have:=h.2;omega),λh5=>?_⟩;refine wa ?_
  exact⟨i+1,⟨oM,λj m hj hm=>by
   by_cases e:j=i
   ·subst e;rw[hn]at hm;cases hm;exact⟨oM,oM⟩
   exact h2 j m oM hm⟩,zf [0,1],oN⟩
 have h0:=h2 0 a oM rfl;have h1:=h2 1 b oM rfl;have h4:=h2 2 c oM rfl;have h5:=h2 3 d oM rfl;refine⟨λh6=>zH λh=>by have:=h.2.2.2.2.1;omega,λh6=>?_⟩;refine zE ⟨λh7 h=>by have:=h.2.2.2.2.2;omega,λh=>?_⟩
 by_cases h8:d<=b
 ·exact h8
 exact absurd ⟨h0,h1,h4,h5,oM,oM⟩ h
def c_at(x y:Int)(hx:inR x)(hy:inR y):CX 120 [i64 x,i64 y] (wk ⟨x*256,y*256⟩):=by
 refine zc func120 ?_;unfold inR at hx hy;(iterate 2 refine wa ?_);exact .refl
def zr8(a b c d:Int):CX 83 [.agg (reE a b c d)] (.sl sgE (zaE a b c d)):=by
 refine zc func83 ?_;have fin:∀{L:LX} {s:SV},zaE a b c d=L->LE s (.sl sgE L)->LE s (.sl sgE (zaE a b c d)):=λe h=>e ▸ h
 refine wg (zAD a b c d)<|⟨λh=>fin (Xc h) zDi,λh=>?_⟩;have h:=Xa.1 h;have hL:=show zaE a b c d=_ from Xe h;obtain⟨h1,h2,h3,h4,_⟩:=h;refine wc<|wg (c_at a b h1 h2)<|wg (c_at c b h3 h2)<|wg (c_at c d h3 h4)<|wg (c_at a d h1 h4)<|⟨Sg,sgE,[⟨1,⟨a*256,b*256⟩,zp,zp⟩,⟨2,⟨c*256,b*256⟩,zp,zp⟩,⟨2,⟨c*256,d*256⟩,zp,zp⟩,⟨2,⟨a*256,d*256⟩,zp,zp⟩,zr7],(by kernel_rfl),wb0 ?_⟩;exact fin hL (zZ rfl)
def zn6(n:Int):CX 103 [i64 n] (pr (inR n)):=by
 refine zc func103 ?_;refine⟨λh=>zE ⟨λk=>⟨h,k⟩,λk=>k.2⟩,λh=>zd λk=>h k.1⟩
def zu9(a b c d:Int):CX 68 [.agg (reE a b c d)] (pr (inR a/\inR b/\inR c/\inR d)):=by
 refine zc func68<|wg (zn6 a)<|⟨λh1=>?_,λh1=>zd λk=>h1 k.1⟩;refine wg (zn6 b)<|⟨λh2=>?_,λh2=>zd λk=>h2 k.2.1⟩;refine wg (zn6 c)<|⟨λh3=>?_,λh3=>zd λk=>h3 k.2.2.1⟩;exact wg (zn6 d)<|zE ⟨λh4=>⟨h1,h2,h3,h4⟩,λk=>k.2.2.2⟩
def zxx(a b c d:Int):CX 38 [.agg (reE a b c d)] (pr (¬rok a b c d)):=by
 refine zc func38<|wg (zu9 a b c d)<|⟨λh=>zH λk=>h ⟨k.1,k.2.1,k.2.2.1,k.2.2.2.1⟩,λh=>?_⟩;obtain⟨h0,h1,h4,h5⟩:=Xa.1 h;refine⟨λh6=>zH λh=>by have:=h.2.2.2.2.1;omega,λh6=>?_⟩;refine zE ⟨λh7 h=>by have:=h.2.2.2.2.2;omega,λh=>?_⟩
 by_cases h8:d<=b
 ·exact h8
 exact absurd ⟨h0,h1,h4,h5,oM,oM⟩ h
def zin(a b c d:Int):CX 41 [.agg (reE a b c d)] (.sl sgE (zaE a b c d)):=by
 refine zc func41 ?_;have fin:∀{L:LX} {s:SV},zaE a b c d=L->LE s (.sl sgE L)->LE s (.sl sgE (zaE a b c d)):=λe h=>e ▸ h
 refine wg (zxx a b c d)<|⟨λh=>?_,λh=>?_⟩
 ·refine⟨Sg,sgE,[],rfl,wb2 ?_⟩;exact fin (Xc h) .refl
 have h:=Xa.1 h;have hL:=show zaE a b c d=_ from Xe h;obtain⟨h1,h2,h3,h4,_⟩:=h;unfold inR at h1 h2 h3 h4;refine wd ?_;(iterate 4 refine wa ?_);refine wh<|⟨Sg,sgE,[⟨1,⟨a*256,b*256⟩,zp,zp⟩,⟨2,⟨c*256,b*256⟩,zp,zp⟩,⟨2,⟨c*256,d*256⟩,zp,zp⟩,⟨2,⟨a*256,d*256⟩,zp,zp⟩,zr7],(by kernel_rfl),wb0 ?_⟩;exact fin hL (zZ rfl)
end Go.Gs
