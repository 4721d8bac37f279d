/- Outlines: rings under an affine map, the first text. -/
import Derived.Test.YtlckjbeknkkllaaGreatDoorMAR
set_option maxRecDepth 100000
set_option maxHeartbeats 8000000
set_option linter.all false
namespace Go.Gs
open Proofs.Tryz
open Go.Proofs
def yw(t:AF)(x:LR)(j:Nat):LR:=zcB t (x.take j)++List.replicate (x.length-j) zp
variable{j:Nat}
def zke(t:AF)(x:LR)(h:j<=x.length):(yw t x j).length=x.length:=by
 unfold yw zcB;rw[Xp,Xz,Xv,Kj];omega
def zkf{t:AF}{x:LR}{z:Pt}(h:x[j]?=some z):(yw t x j).set j (kU t z).1=yw t x (j+1):=by
 have hj:j<x.length:=(Xd.1 h).1;have hl:(zcB t (x.take j)).length=j:=by unfold zcB;rw[Xz,Xv];omega
 unfold yw;rw[show x.length-j=(x.length-(j+1))+1 by omega,List.replicate_succ,Yu _ _ oM,hl,Q3,List.set_cons_zero];have e:zcB t (x.take (j+1))=zcB t (x.take j)++[(kU t z).1]:=by unfold zcB;rw[Xm,h,XG];rfl
 rw[e,XS];rfl
def tQ(rs:LN)(t:AF):Nat->St
 |0=>⟨[(3,.loc 0 0),(4,.loc 1 0),(5,.loc 2 0),(15,.sl zE rs),(16,i64 rs.length),(17,i64 ((0:Nat):Int))],[(0,.box 49 (afE t)),(1,.box 104 [.val (.slice none 0 0)]),(2,.box 67 [i64 0])],3,48,3⟩
 |i+1=>⟨[(3,.loc 0 0),(4,.loc 1 0),(5,.loc 2 0),(15,.sl zE rs),(16,i64 rs.length),(17,i64 ((i+1:Nat):Int))],[(0,.box 49 (afE t)),(1,.box 104 [.own 3]),(2,.box 67 [i64 0]),(3,.garr 155 1 (uP ((rs.take (i+1)).map (zcB t))))],4,48,3⟩
def zE3(rs:LN)(t:AF)(ht:t.le 100000)(hl:rs.length<=100000)(hs:∀r∈rs,(r.length:Int)<=9223372036854771711):CX 193 [.sl zE rs,wo t] (rgE (vV rs t)):=by
 refine zmf 2 2 tok mix func193 rfl rfl rfl func271 rfl rfl<|⟨_,_,rfl,?_⟩;refine⟨_,_,rfl,?_⟩;refine wg (zfS rs hs)<|⟨λk=>?_,λk=>?_⟩
 ·have k:¬kE rs:=k;exact yq (by unfold vV;rw[Xe k])
 have k:kE rs:=Xc.1 k;have es:vV rs t=if zee t rs≠0 then([],zee t rs) else(rs.map (zcB t),0):=by unfold vV;rw[kD k]
 have hc:qx rs<=4096:=by have:=k.1;omega
 refine⟨_,_,_,_,_,rfl,rfl,rfl,rfl,?_⟩;refine⟨_,rfl,rfl,rfl,?_⟩;intro hl1;refine⟨Nat,tQ rs t,λi=>i<=rs.length/\∀r∈rs.take i,zdn t r=0,λi=>rs.length-i,0,⟨Xg _,λr hr=>by cases hr⟩,zi [0,1,2],?_⟩
 rintro(_|i) ⟨h1,h2⟩
 ·refine⟨λg=>?_,λg=>?_⟩;rotate_left
  ·have g:¬(((0:Nat):Int))<rs.length:=g;have e0:rs=[]:=Xo oM;refine⟨_,.refl,rfl,?_⟩;refine⟨λh=>absurd rfl h,λ_=>?_⟩;exact yq (by rw[es,e0];rfl)
  have g:((0:Nat):Int)<rs.length:=g;obtain⟨x,hx⟩:∃x,rs[0]?=some x:=⟨_,Xa oM⟩;have hxl:=XE (zbC (Xf hx)) hc;refine wb λy hy=>?_;have ey:y=x:=Xl ((show rs[0]?=some y from hy).symm.trans hx);rw[ey];intro hl2;refine⟨Pt,ptE,zp,rfl,Ob.mk ⟨dC,oM,oM,(by show(x.length:Int)*16<=_;omega),oM⟩ ?_⟩;intro hl3
  refine⟨Nat,λj=>⟨[(3,.loc 0 0),(4,.loc 1 0),(5,.loc 2 0),(8,.own 3),(15,.sl zE rs),(16,i64 rs.length),(17,i64 ((0:Nat):Int)),(24,.sl ptE x),(25,i64 x.length),(26,i64 j)],[(0,.box 49 (afE t)),(1,.box 104 [nS]),(2,.box 67 [i64 0]),(3,.arr 28 ptE 2 (yw t x j))],4,48,3⟩,λj=>j<=x.length/\∀p∈x.take j,(kU t p).2=0,λj=>x.length-j,0,⟨Xg _,λp hp=>by cases hp⟩,?_,?_⟩
  ·exact zt [0,1,2,3] ⟨rfl,rfl,rfl,aR (by unfold yw;rfl),tV⟩
  rintro j ⟨j1,j2⟩
  have zl:=zke t x j1;refine⟨λq:(j:Int)<x.length=>?_,λq:¬(j:Int)<x.length=>?_⟩
  ·refine wb λz(hz:x[j]?=some z)=>?_;refine wg (zdX t z ht)<|wb<|wb λold _=>?_;refine⟨(kU t z).1,rfl,?_⟩;refine⟨λe:¬(kU t z).2=0=>?_,λe=>?_⟩
   ·have eL:=znQ hz j2 e;have eR:=znR hx h2 (by rw[eL];exact e);refine⟨_,.refl,rfl,?_⟩;refine⟨λ_=>?_,λh=>absurd e h⟩;exact yq (by rw[es,eR,eL,Xe e])
   have e:(kU t z).2=0:=Xc.1 e;exact wa<|⟨j+1,⟨oM,zah hz j2 e⟩,zt [0,1,2,3] ⟨rfl,rfl,Xj (λn=>some (Mem.box 67 [i64 n])) e,aR (zkf hz),tV⟩,oN⟩
  have etx:x.take j=x:=Xk oM;have ez:yw t x j=zcB t x:=by unfold yw;rw[etx,show x.length-j=0 by omega];exact XM _
  rw[etx]at j2;refine⟨[[.own 3]],rfl,wb7 ?_⟩;refine Ob.mk ⟨by show((1:Nat):Int)*24<=_;decide,by show 1<=_;decide,dC⟩<|wa<|⟨0+1,⟨oM,zah hx h2 (znP j2)⟩,(zbX (sz0:=1) (T0:=155) 3 5 (enc:=ptE) (ys:=yw t x j) rfl rfl (xs':=uP ([]++[yw t x j])) (by rfl) (λz hz=>?_) zp4).trans (zt [0,1,2,5] ⟨rfl,rfl,rfl,⟨_,rfl,zgd ?_⟩,tV⟩),oN⟩
  ·unfold uP at hz;obtain⟨b,_,rfl⟩:=XL.1 hz;rfl
  rw[ez];rw[Xm,hx];rfl
 refine⟨λg=>?_,λg=>?_⟩;rotate_left
 ·have g:¬((i+1:Nat):Int)<rs.length:=g;have et:rs.take (i+1)=rs:=Xk oM;have h3:=h2;rw[et]at h3;have er:vV rs t=(rs.map (zcB t),0):=by rw[es,ztT h3];rfl
  refine⟨_,zcW 3 zE ((rs.take (i+1)).map (zcB t)) rfl (λ_ _=>rfl),rfl,?_⟩;refine⟨λh=>absurd rfl h,λ_=>?_⟩;rw[er];exact zW (kM (show(rs.take (i+1)).map (zcB t)=rs.map (zcB t) by rw[et])) .refl
 have g:(((i+1):Nat):Int)<rs.length:=g;obtain⟨x,hx⟩:∃x,rs[(i+1)]?=some x:=⟨_,Xa oM⟩;have hxl:=XE (zbC (Xf hx)) hc;refine wb λy hy=>?_;have ey:y=x:=Xl ((show rs[(i+1)]?=some y from hy).symm.trans hx);rw[ey];intro hl2;refine⟨Pt,ptE,zp,rfl,Ob.mk ⟨dC,oM,oM,(by show(x.length:Int)*16<=_;omega),oM⟩ ?_⟩;intro hl3
 refine⟨Nat,λj=>⟨[(3,.loc 0 0),(4,.loc 1 0),(5,.loc 2 0),(8,.own 4),(15,.sl zE rs),(16,i64 rs.length),(17,i64 (((i+1):Nat):Int)),(24,.sl ptE x),(25,i64 x.length),(26,i64 j)],[(0,.box 49 (afE t)),(1,.box 104 [.own 3]),(2,.box 67 [i64 0]),(3,.garr 155 1 (uP ((rs.take (i+1)).map (zcB t)))),(4,.arr 28 ptE 2 (yw t x j))],5,48,3⟩,λj=>j<=x.length/\∀p∈x.take j,(kU t p).2=0,λj=>x.length-j,0,⟨Xg _,λp hp=>by cases hp⟩,?_,?_⟩
 ·exact zt [0,1,2,3,4] ⟨rfl,rfl,rfl,⟨_,rfl,zgd rfl⟩,aR (by unfold yw;rfl),tV⟩
 rintro j ⟨j1,j2⟩
 have zl:=zke t x j1;refine⟨λq:(j:Int)<x.length=>?_,λq:¬(j:Int)<x.length=>?_⟩
 ·refine wb λz(hz:x[j]?=some z)=>?_;refine wg (zdX t z ht)<|wb<|wb λold _=>?_;refine⟨(kU t z).1,rfl,?_⟩;refine⟨λe:¬(kU t z).2=0=>?_,λe=>?_⟩
  ·have eL:=znQ hz j2 e;have eR:=znR hx h2 (by rw[eL];exact e);refine⟨_,.refl,rfl,?_⟩;refine⟨λ_=>?_,λh=>absurd e h⟩;exact yq (by rw[es,eR,eL,Xe e])
  have e:(kU t z).2=0:=Xc.1 e;exact wa<|⟨j+1,⟨oM,zah hz j2 e⟩,zt [0,1,2,3,4] ⟨rfl,rfl,Xj (λn=>some (Mem.box 67 [i64 n])) e,⟨_,rfl,zgd rfl⟩,aR (zkf hz),tV⟩,oN⟩
 have etx:x.take j=x:=Xk oM;have ez:yw t x j=zcB t x:=by unfold yw;rw[etx,show x.length-j=0 by omega];exact XM _
 rw[etx]at j2;refine⟨[[.own 4]],rfl,wb7 ?_⟩;refine Ob.mk ⟨by show _*(24:Int)<=_;rw[zd3,Xz,Xv];simp only[Xq,Xt];omega,by rw[zd3,Xz,Xv];simp only[Xq,Xt];omega,dC⟩<|wa ?_
 refine⟨(i+1)+1,⟨oM,zah hx h2 (znP j2)⟩,(zbX (sz0:=1) (T0:=155) 4 6 (enc:=ptE) (ys:=yw t x j) rfl rfl (xs':=uP ((rs.take (i+1)).map (zcB t)++[yw t x j])) (by rw[zd3,Xp,Xp,zd3];rfl) (λz hz=>?_) zp4).trans (zt [0,1,2,6] ⟨rfl,rfl,rfl,⟨_,rfl,zgd ?_⟩,tV⟩),oN⟩
 ·unfold uP at hz;obtain⟨b,_,rfl⟩:=XL.1 hz;rfl
 rw[ez];rw[Xm (l:=rs) (i:=i+1),hx,XG];rfl
variable{p:Pl}{pen:Pen}
def zzl:∀r∈qq p pen,0<r.length:=by
 intro r hr;unfold qq at hr
 rcases Xr.1 hr with hr|hr
 ·rcases Xr.1 hr with hr|hr
  ·rw[zby]at hr
   rcases Xr.1 hr with hr|hr
   ·unfold znJ at hr;obtain⟨i,_,hr⟩:=Qn.1 hr;exact zbx hr
   split at hr
   ·exact zbx hr
   cases hr
  rw[zdj]at hr
  split at hr
  ·cases hr
  unfold uZ at hr;obtain⟨i,_,hr⟩:=Qn.1 hr;unfold zhL at hr
  split at hr
  ·cases hr
  exact ztK r hr
 unfold zc9 at hr
 split at hr
 ·exact zbx hr
 split at hr
 ·rcases Xr.1 hr with hr|hr <;> exact zbx hr
 cases hr
def zsi:∀r∈(qg p pen).1,0<r.length:=by
 unfold qg
 split
 ·intro r hr;cases hr
 split
 ·intro r hr;cases hr
 split
 ·intro r hr;cases hr
 split
 ·intro r hr;cases hr
 split
 ·intro r hr;cases hr
 exact zzl
def zhR{pen:Pen}:∀{l:LY},∀r∈(qr l pen).1,0<r.length
 |[],r,hr=>by cases hr
 |p::s,r,hr=>by
  unfold qr at hr
  split at hr
  ·cases hr
  split at hr
  ·cases hr
  rcases Xr.1 hr with hr|hr
  ·exact zsi r hr
  exact zhR r hr
def zzm:∀{rs:LN},(∀r∈rs,0<r.length)->rs.length<=qx rs
 |[],_=>Xg _
 |r::s,h=>by
  have h1:=h r (.head _);have h2:=zzm λq hq=>h q (.tail _ hq)
  rw[zf6,Xq];omega
def zkg(l:LY)(pen:Pen):(jz l pen).1.length<=4096/\∀r∈(jz l pen).1,(r.length:Int)<=9223372036854771711:=by
 unfold jz
 split
 ·exact⟨Xg _,λr hr=>by cases hr⟩
 split
 ·exact⟨Xg _,λr hr=>by cases hr⟩
 split
 ·exact⟨Xg _,λr hr=>by cases hr⟩
 rename_i h;have hg:=zzm (zhR (l:=l) (pen:=pen));exact⟨oN,λr hr=>by have hr:r∈(qr l pen).1:=hr;have:=zbC hr;omega⟩
def zhS{pen:Pen}:∀{l:LY},(∀p∈l,p.pts.length<=4096)->(jB l pen).1.length<=4096*l.length/\∀q∈(jB l pen).1,q.pts.length<=4096
 |[],_=>⟨Xi 0,λq hq=>by cases hq⟩
 |p::r,hl=>by
  obtain⟨i1,i2⟩:=zhS (pen:=pen) (l:=r) λq hq=>hl q (.tail _ hq)
  obtain⟨f1,f2⟩:=zdm (pen:=pen) (hl p (.head _));unfold jB
  split
  ·exact⟨Xg _,λq hq=>by cases hq⟩
  split
  ·exact⟨Xg _,λq hq=>by cases hq⟩
  rw[Xp,Xq];refine⟨oM,λq hq=>?_⟩
  rcases Xr.1 hq with hq|hq
  ·exact f2 q hq
  exact i2 q hq
def zcC(l:LW)(pen:Pen)(t:AF)(tol:Int):LN×Int:=
 if¬kV pen then([],13) else if (kv l tol).2≠0 then([],(kv l tol).2) else if (jB (kv l tol).1 pen).2≠0 then([],(jB (kv l tol).1 pen).2)
 else if (jz (jB (kv l tol).1 pen).1 pen).2≠0 then([],(jz (jB (kv l tol).1 pen).1 pen).2) else vV (jz (jB (kv l tol).1 pen).1 pen).1 t
def zv4(l:LW)(pen:Pen)(t:AF)(tol:Int)(ht:t.le 100000):CX 131 [.sl sgE l,ws pen,wo t,i64 tol] (rgE (zcC l pen t tol)):=by
 refine zd func131 ?_;have de:=zr8 pen;refine wg (zBS pen)<|⟨λe=>?_,λe=>?_⟩
 ·have e:¬(jV ⟨[],false⟩ pen).2=0:=e;have k:¬kV pen:=λk=>e (by rw[de,Xe k])
  refine yq ?_;rw[de,Xb k];unfold zcC;rw[Xe k]
 have e:(jV ⟨[],false⟩ pen).2=0:=Xc.1 e
 have hk:kV pen:=by
  refine Xc.1 λk=>?_
  rw[de,Xb k]at e;exact absurd e dC
 have fs:=zhP l tol;have cf:=zhS (pen:=pen) fs.2;refine wg (zyM l tol)<|⟨λe1=>?_,λe1=>?_⟩
 ·have e1:¬(kv l tol).2=0:=e1;exact yq (by unfold zcC;rw[kD hk,Xe e1])
 have e1:(kv l tol).2=0:=Xc.1 e1;refine wg (zER (kv l tol).1 pen fs.1 fs.2)<|⟨λe2=>?_,λe2=>?_⟩
 ·have e2:¬(jB (kv l tol).1 pen).2=0:=e2;exact yq (by unfold zcC;rw[kD hk,qV e1,Xe e2])
 have e2:(jB (kv l tol).1 pen).2=0:=Xc.1 e2;refine wg (zvN (jB (kv l tol).1 pen).1 pen oM cf.2) ?_;have sm:=zkg (jB (kv l tol).1 pen).1 pen;refine⟨λe3:¬(jz (jB (kv l tol).1 pen).1 pen).2=0=>?_,λe3=>?_⟩
 ·exact yq (by unfold zcC;rw[kD hk,qV e1,qV e2,Xe e3])
 have e3:(jz (jB (kv l tol).1 pen).1 pen).2=0:=Xc.1 e3;refine wg (zE3 (jz (jB (kv l tol).1 pen).1 pen).1 t ht oM sm.2) ?_;have ee:zcC l pen t tol=vV (jz (jB (kv l tol).1 pen).1 pen).1 t:=by unfold zcC;rw[kD hk,qV e1,qV e2,qV e3]
 rw[ee];exact .refl
def yN(l:LV)(i:Nat):Int:=match l[i]? with
 |some n=>zeg l i n
 |none=>0
variable{l:LV}{i:Nat}
def uo{n:Nd}(h:l[i]?=some n):yN l i=zeg l i n:=by unfold yN;rw[h]
def znX(l:LV):LI:=(List.range l.length).find? λi=>decide (yN l i≠0)
def zB8(hi:i<l.length)(h:∀j,j<i->yN l j=0)(hb:yN l i≠0):znX l=some i:=by
 unfold znX;rw[Yc];exact⟨by simpa using hb,XT.2 hi,λj hj=>by simpa using h j hj⟩
def zv5(h:∀j,j<l.length->yN l j=0):znX l=none:=by
 unfold znX;rw[Yb];exact λj hj=>by simpa using h j hj
def zv6(h:znX l=some i):i<l.length/\yN l i≠0:=by
 unfold znX at h;rw[Yc]at h;exact⟨XT.1 h.2.1,by simpa using h.1⟩
def za4(s:Sc):Prop:=s.w<1∨256<s.w∨s.h<1∨256<s.h
instance (s:Sc):Decidable (za4 s):=wj
def zh3(s:Sc):Int×Int:=if za4 s then(6,0) else if 64<s.ns.length then(5,64) else match znX s.ns with
 |some i=>(yN s.ns i,i)
 |none=>(0,0)
def zV(s:Sc):Prop:=(zh3 s).1=0
instance (s:Sc):Decidable (zV s):=inferInstanceAs (Decidable (_=_))
def vm{s:Sc}:zV s↔¬za4 s/\s.ns.length<=64/\∀j,j<s.ns.length->yN s.ns j=0:=by
 unfold zV zh3
 by_cases h1:za4 s
 ·rw[Xe h1];exact⟨λh=>absurd h dC,λh=>absurd h1 h.1⟩
 rw[Xb h1]
 by_cases h2:64<s.ns.length
 ·rw[Xe h2];exact⟨λh=>absurd h dC,λh=>absurd h.2.1 oM⟩
 rw[Xb h2]
 cases hb:znX s.ns with
 |some i=>
  obtain⟨h3,h4⟩:=zv6 hb;exact⟨λh=>absurd h h4,λh=>absurd (h.2.2 i h3) h4⟩
 |none=>
  refine⟨λ_=>⟨h1,oM,λj hj=>?_⟩,λ_=>rfl⟩;unfold znX at hb;rw[Yb]at hb
  simpa using hb j hj
def zg4{n:Nd}(h:zeg l i n=0):jQ n=0/\n.id∉(l.take i).map Nd.id/\qE l i n:=by
 unfold zeg at h
 by_cases h1:jQ n≠0
 ·rw[Xe h1]at h;exact absurd h h1
 rw[Xb h1]at h
 by_cases h2:n.id∈(l.take i).map Nd.id
 ·rw[Xe h2]at h;exact absurd h dC
 rw[Xb h2]at h
 by_cases h3:qE l i n
 ·exact⟨Xc.1 h1,h2,h3⟩
 rw[Xe h3]at h;exact absurd h dC
def zaO{n:Nd}(h:jQ n=0):(1<=n.k/\n.k<=3)/\(0<=n.d/\n.d<8)/\n.t.ok/\v7 n.t≠0/\kX n.clip/\zef n:=by
 unfold jQ at h
 by_cases h1:n.k<1∨3<n.k
 ·rw[Xe h1]at h;exact absurd h dC
 rw[Xb h1]at h
 by_cases h2:n.id<1∨1073741824<n.id∨n.d<0∨8<=n.d
 ·rw[Xe h2]at h;exact absurd h dC
 rw[Xb h2]at h
 by_cases h3:¬n.t.ok
 ·rw[Xe h3]at h;exact absurd h dC
 rw[Xb h3]at h
 by_cases h4:v7 n.t=0
 ·rw[Xe h4]at h;exact absurd h dC
 rw[Xb h4]at h
 by_cases h5:¬kX n.clip
 ·rw[Xe h5]at h;exact absurd h dC
 rw[Xb h5]at h
 by_cases h6:¬zef n
 ·rw[Xe h6]at h;exact absurd h dC
 exact⟨oM,oM,Xc.1 h3,h4,Xc.1 h5,Xc.1 h6⟩
def uq{s:Sc}(h:zV s){n:Nd}(hn:s.ns[i]?=some n):jQ n=0/\n.id∉(s.ns.take i).map Nd.id/\qE s.ns i n:=by
 have:=(vm.1 h).2.2 i (Xd.1 hn).1;rw[uo hn]at this;exact zg4 this
def zU(l:LV):LU:=l.map Nd.d
def vn{n:Nd}(h:l[i]?=some n):(zU l)[i]?=some n.d:=by unfold zU;rw[XA,h];rfl
def zch{d:Int}(h:(zU l)[i]?=some d):∃n,l[i]?=some n/\n.d=d:=by
 unfold zU at h;rw[XA]at h
 cases hn:l[i]? with
 |none=>rw[hn]at h;cases h
 |some n=>rw[hn]at h;exact⟨n,rfl,Xl h⟩
def za5{s:Sc}(h:zV s):ze7 (zU s.ns):=by
 refine⟨λd hd=>?_,λd hd=>?_,λi a b ha hb=>?_⟩
 ·obtain⟨n,hn,rfl⟩:=zch hd;have:=(uq h hn).2.2;unfold qE at this;rw[show s.ns[0-1]?=some n from hn]at this;exact this
 ·obtain⟨i,hi,he⟩:=Kn hd;obtain⟨n,hn,rfl⟩:=zch (he ▸ Xa hi);exact(zaO (uq h hn).1).2.1.1
 obtain⟨n,hn,rfl⟩:=zch ha;obtain⟨m,hm,rfl⟩:=zch hb;have:=(uq h hm).2.2;unfold qE at this;rw[show s.ns[i+1-1]?=some n from hn]at this;have this:(n.k=1/\m.d=n.d+1)∨m.d<=n.d:=this;omega
def zci(ds:LU)(i:Nat): -1<=yj ds i/\yj ds i<i:=⟨(zbG ds _ i).1,(zbG ds _ i).2.1⟩
def zhT(ds:LU):∀(n m:Nat) (i:Int),i<n->i<m->ze8 ds n i=ze8 ds m i
 |0,0,_,_,_=>rfl
 |0,m+1,i,h,_=>by show[]=if i<0 then[] else _;rw[Xe oM]
 |n+1,0,i,_,h=>by show(if i<0 then[] else _)=[];rw[Xe oM]
 |n+1,m+1,i,h1,h2=>by
  show(if i<0 then[] else i.toNat::ze8 ds n (yj ds i.toNat))=if i<0 then[] else i.toNat::ze8 ds m (yj ds i.toNat)
  by_cases c:i<0
  ·rw[Xe c,Xe c]
  have:=zci ds i.toNat;rw[Xb c,Xb c,zhT ds n m _ oM oM]
def za6(ds:LU)(i:Int):LB:=ze8 ds (i+1).toNat i
def vo{ds:LU}{i:Int}(h:i<0):za6 ds i=[]:=by
 unfold za6;rw[show(i+1).toNat=0 by omega];rfl
def jR(ds:LU)(i:Nat):za6 ds i=i::za6 ds (yj ds i):=by
 have h:=zci ds i;unfold za6;rw[show((i:Int)+1).toNat=i+1 by omega];show(if (i:Int)<0 then[] else(i:Int).toNat::ze8 ds i (yj ds (i:Int).toNat))=_;rw[Xb oM,show(i:Int).toNat=i from rfl,zhT ds i (yj ds i+1).toNat _ oM oM]
def zg5{ds:LU}(hs:ze7 ds):∀{d i:Nat},ds[i]?=some (d:Int)->(za6 ds i).length=d+1
 |0,i,hd=>by
  rw[jR,(zj8 hs hd).1 rfl,vo dC];rfl
 |d+1,i,hd=>by
  obtain⟨j,hj,_,hjd⟩:=(zj8 hs hd).2 oM;rw[jR,hj,Xq,zg5 (d:=d) hs (by rw[hjd];congr 1;omega)]
def tAt(l:LV)(k:Nat):AF:=match l[k]? with
 |some n=>n.t
 |none=>idA
def zqa{k:Nat}{n:Nd}(h:l[k]?=some n):tAt l k=n.t:=by unfold tAt;rw[h]
def trs(l:LV)(i:Int):List AF:=(za6 (zU l) i).map (tAt l)
def zzn{n:Nd}(h:l[i]?=some n):trs l i=n.t::trs l (yj (zU l) i):=by
 unfold trs;rw[jR,K8,zqa h]
def zB9{i:Int}(h:i<0):trs l i=[]:=by unfold trs;rw[vo h];rfl
def inS(s:Sc)(i:Int):Prop:=zV s/\0<=i/\i<s.ns.length
instance (s:Sc) (i:Int):Decidable (inS s i):=wi
def kH(s:Sc)(i:Int):AF×Int:=if¬zV s then(qh,18) else if i<0∨s.ns.length<=i then(qh,8) else zaJ (trs s.ns i)
def zNd:Nd:=⟨0,0,0,qh,[],0,0,0,false,false,[],0,[],⟨0,0,0,0,[],0⟩,[],⟨0,0,[]⟩,0⟩
def zG(s:Sc)(i:Int):Nd:=if inS s i then(s.ns[i.toNat]?).getD zNd else zNd
def vX(w:AF×Int)(l:LW):LN:=if w.2≠0 then[] else(yG l w.1 32).1
def vY(s:Sc)(i:Int):LN:=if (zG s i).k≠2∨(zG s i).fill.length=0 then[] else vX (kH s i) (zG s i).path
def zaP(s:Sc)(i:Int):LN:=if (zG s i).k≠2∨(zG s i).strk.length=0 then[] else if (kH s i).2≠0 then[] else(zcC (zG s i).path (zG s i).pen (kH s i).1 32).1
def zg6(s:Sc)(i:Int):LN:=if (zG s i).k≠3 then[] else vX (kH s i) (jJ 0 0 (zG s i).im.w (zG s i).im.h)
def zkh(s:Sc)(i:Int):LN:=if (zG s i).clip.length=0 then[] else vX (kH s i) (zG s i).clip
variable{tol:Int}
def zqb{l:LW}{t:AF}(h:(yG l t tol).2≠0):(yG l t tol).1=[]:=by
 unfold yG at h ⊢
 by_cases h1:(trans t l).2≠0
 ·rw[Xe h1]
 rw[Xb h1]at h ⊢
 by_cases h2:(kv (trans t l).1 tol).2≠0
 ·rw[Xe h2]
 rw[Xb h2]at h;exact absurd rfl h
def mdN(l:LV):Nat->Int
 |0=>0
 |i+1=>match l[i]? with
  |some n=>if n.k=1 then n.d+1 else n.d
  |none=>0
def zeA(s:Sc):Prop:=s.ns.length<=64->∀n∈s.ns,zkb n
def zsj{n:Nd}(h:l[i]?=some n)(h0:0<=n.d):qE l i n↔¬mdN l i<n.d:=by
 cases i with
 |zero=>
  unfold qE mdN;rw[show l[0-1]?=some n from h];show n.d=0↔¬0<n.d;omega
 |succ i=>
  obtain⟨p,hp⟩:∃p,l[i]?=some p:=⟨_,Xa (by have:=(Xd.1 h).1;omega)⟩;have hs:qE l (i+1) n=(if i+1=0 then n.d=0 else(p.k=1/\n.d=p.d+1)∨n.d<=p.d):=by unfold qE;rw[show l[i+1-1]?=some p from hp]
  have hm:mdN l (i+1)=if p.k=1 then p.d+1 else p.d:=by
   show(match l[i]? with|some n=>if n.k=1 then n.d+1 else n.d|none=>0)=_;rw[hp]
  rw[hs,hm,Xb (Nat.succ_ne_zero i)]
  split <;> omega
def zv8(r:Int×Int):SV:=.tup [i64 r.1,i64 r.2]
def vH{s:Sc}(h:za4 s):LE (.tup [i64 6,i64 0]) (zv8 (zh3 s)):=by rw[zh3,Xe h];exact .refl
def zmm{s:Sc}(h1:¬za4 s)(h2:64<s.ns.length):LE (.tup [i64 5,i64 64]) (zv8 (zh3 s)):=by rw[zh3,Xb h1,Xe h2];exact .refl
variable{x:Nd}{e:Int}
def zin{s:Sc}(h1:¬za4 s)(h2:¬64<s.ns.length)(hx:s.ns[i]?=some x)(hz:∀j,j<i->yN s.ns j=0)(he:zeg s.ns i x=e)(h0:e≠0):LE (.tup [i64 e,i64 i]) (zv8 (zh3 s)):=by
 have ee:=uo hx;rw[he]at ee;rw[zh3,Xb h1,Xb h2,zB8 (Xd.1 hx).1 hz (by rw[ee];exact h0)];show LE _ (.tup [i64 (yN s.ns i),i64 i]);rw[ee];exact .refl
def ztY{s:Sc}(h1:¬za4 s)(h2:¬64<s.ns.length)(hz:∀j,j<s.ns.length->yN s.ns j=0):LE (.tup [i64 0,i64 0]) (zv8 (zh3 s)):=by
 rw[zh3,Xb h1,Xb h2,zv5 hz];exact .refl
def zzo(h:l[i]?=some x):(l.take (i+1)).map Nd.id=(l.take i).map Nd.id++[x.id]:=by
 rw[Xm,h,XG];rfl
def zqd(h:¬jQ x=0):zeg l i x=jQ x:=Xe h
def zqe(h:jQ x=0)(k:x.id∈(l.take i).map Nd.id):zeg l i x=7:=by unfold zeg;rw[Xb (λq=>q h),Xe k]
def zki(h:jQ x=0)(k:x.id∉(l.take i).map Nd.id)(d:¬qE l i x):zeg l i x=17:=by unfold zeg;rw[Xb (λq=>q h),Xb k,Xe d]
def ztZ(h:jQ x=0)(k:x.id∉(l.take i).map Nd.id)(d:qE l i x):zeg l i x=0:=by unfold zeg;rw[Xb (λq=>q h),Xb k,Xb (λq=>q d)]
def zmn(hx:l[i]?=some x)(hz:∀j,j<i->yN l j=0)(he:zeg l i x=0):∀j,j<i+1->yN l j=0:=λj hj=>by
 by_cases c:j=i
 ·rw[c,uo hx,he]
 exact hz j oM
def zCa(s:Sc)(ht:zeA s):CX 71 [wr s] (zv8 (zh3 s)):=by
 refine zd func71<|Br.mk (λh=>vH (.inl h)) (λh1=>?_);refine⟨λh=>vH (.inr (.inl h)),λh2=>?_⟩;refine⟨λh=>vH (.inr (.inr (.inl h))),λh3=>?_⟩;refine⟨λh=>vH (.inr (.inr (.inr h))),λh4=>?_⟩;have hb:¬za4 s:=λk=>k.elim h1 λk=>k.elim h2 λk=>k.elim h3 h4
 intro hl0;refine⟨λh=>zmm hb oM,λh5=>?_⟩;have hn:¬64<s.ns.length:=oM;have ht:=ht oM;intro hl1
 refine⟨Nat,λi=>⟨[(35,i64 i),(34,i64 s.ns.length),(33,.sl ndE s.ns),(5,i64 (mdN s.ns i)),(4,.own 1),(1,.loc 0 0)],
  [(1,.map (znY ((s.ns.take i).map Nd.id))),(0,.box 26 (scE s))],2,67,0⟩,λi=>i<=s.ns.length/\∀j,j<i->yN s.ns j=0,λi=>s.ns.length-i,0,⟨Xg _,λj h=>by omega⟩,zi [0,1],?_⟩
 rintro i ⟨hi,hz⟩
 refine⟨λg:(i:Int)<s.ns.length=>?_,λg:¬(i:Int)<s.ns.length=>?_⟩
 ·refine wb λx(hx:s.ns[i]?=some x)=>?_;have hm:=Xf hx;refine wg (zB7 x (ht x hm))<|⟨λh=>zin hb hn hx hz (zqd h) h,λh6=>?_⟩;have h6:jQ x=0:=Xc.1 h6;refine zv7 (n:=x.id) (ks:=(s.ns.take i).map Nd.id) (λ_ _ _ a b=>Br.mk a b) (λh=>?_) (λh7=>?_)
  ·exact zin hb hn hx hz (zqe h6 h) dC
  have hs:=zsj hx (zaO h6).2.1.1;have hd:=(zaO h6).2.1;refine⟨λh=>zin hb hn hx hz (zki h6 h7 (λq=>hs.1 q h)) dC,λh8=>?_⟩;have hz':=zmn hx hz (ztZ h6 h7 (hs.2 h8));refine zqc h7 ?_;have em:znY ((s.ns.take i).map Nd.id++[x.id])=znY ((s.ns.take (i+1)).map Nd.id):=by rw[zzo hx]
  refine⟨λh9=>?_,λh9=>?_⟩
  ·have e5:x.d+1=mdN s.ns (i+1):=by show _=(match s.ns[i]? with|some n=>if n.k=1 then n.d+1 else n.d|none=>0);rw[hx];exact(Xe h9).symm
   (iterate 2 refine wa ?_);exact⟨i+1,⟨oM,hz'⟩,ku [0,1] ⟨rfl,rfl,rfl,iR e5,rfl,rfl,tV⟩ ⟨Xj (λq=>some (Mem.map q)) em,rfl,tV⟩,oN⟩
  have e5:x.d=mdN s.ns (i+1):=by show _=(match s.ns[i]? with|some n=>if n.k=1 then n.d+1 else n.d|none=>0);rw[hx];exact(Xb h9).symm
  exact wa<|⟨i+1,⟨oM,hz'⟩,ku [0,1] ⟨rfl,rfl,rfl,iR e5,rfl,rfl,tV⟩ ⟨Xj (λq=>some (Mem.map q)) em,rfl,tV⟩,oN⟩
 exact ztY hb hn λj hj=>hz j oM
def zio(s:Sc)(ht:zeA s):CX 44 [wr s] (pr (zV s)):=by
 exact zd func44<|wg (zCa s ht)<|zr Qd
def zzp(s:Sc)(i:Int)(ht:zeA s):CX 61 [wr s,i64 i] (pr (inS s i)):=by
 refine zd func61<|Br.mk (λh1=>?_) (λh1=>zc λk=>h1 k.2.1);intro hl0;refine⟨λh2=>?_,λh2=>zc λk=>h2 k.2.2⟩;exact wg (zio s ht)<|zr ⟨λh=>⟨h,h1,h2⟩,λk=>k.1⟩
def parS(s:Sc)(i:Int):Int:=if inS s i then yj (zU s.ns) i.toNat else-1
def zzq(l:LV)(i:Nat)(n:Nd)(hn:l[i]?=some n)(hd:∀n∈l,0<=n.d/\n.d<8)(hl:l.length<=64):CX 62 [.sl ndE l,i64 i] (i64 (yj (zU l) i)):=by
 have hi:=(Xd.1 hn).1;have eg:(zU l).getD i 0=n.d:=by rw[Xn,vn hn];rfl
 have ep:yj (zU l) i=jX (zU l) (n.d-1) i:=by unfold yj;rw[eg]
 have hnd:=hd n (Xf hn);refine zd func62<|wa<|⟨Nat,λm=>⟨[(5,i64 ((m:Int)-1)),(1,i64 i),(0,.sl ndE l)],[],0,25,0⟩,λm=>m<=i/\jX (zU l) (n.d-1) m=yj (zU l) i,λm=>m,i,⟨Xi _,ep.symm⟩,?_,?_⟩
 ·exact zA []
 rintro m ⟨hm,he⟩
 refine⟨λg:0<=(m:Int)-1=>?_,λg:¬0<=(m:Int)-1=>?_⟩
 ·obtain⟨k,rfl⟩:∃k,m=k+1:=⟨m-1,oM⟩;refine wc<|wb λx hx=>?_;have hx:l[k]?=some x:=by rw[←hx];congr 1;omega
  refine wb λy hy=>?_;have hy:y=n:=Xl ((show l[i]?=some y from hy).symm.trans hn);rw[hy];refine wa ?_;have hk:=vn hx;refine⟨λh=>?_,λh=>?_⟩
  ·refine zh ?_;rw[←he];unfold jX;rw[hk,Xe (by rw[h])];omega
  refine wa<|⟨k,⟨oM,?_⟩,qN [] ⟨iR oM,rfl,rfl,tV⟩ trivial,oN⟩;rw[←he]
  conv=>rhs;unfold jX
  rw[hk,Xb (λq=>h (Xl q))]
 obtain rfl:m=0:=oM;exact zh he
def zdr{s:Sc}{i:Int}(h:inS s i):∃n,s.ns[i.toNat]?=some n:=⟨_,Xa (by have:=h.2;omega)⟩
def ur{s:Sc}(h:zV s):∀n∈s.ns,0<=n.d/\n.d<8:=λn hn=>by
 obtain⟨j,hj,e⟩:=Kn hn;exact(zaO (uq h (e ▸ Xa hj)).1).2.1
def yY{s:Sc}(h:zV s):s.ns.length<=64:=(vm.1 h).2.1
def zzr(s:Sc)(i:Int)(ht:zeA s):CX 184 [wr s,i64 i] (i64 (parS s i)):=by
 refine zd func184<|wg (zzp s i ht)<|⟨λh=>zh (Xb h).symm,λh=>?_⟩;have h:inS s i:=Xc.1 h;obtain⟨n,hn⟩:=zdr h;have hp:=zzq s.ns i.toNat n hn (ur h.1) (yY h.1);rw[show((i.toNat:Nat):Int)=i by have:=h.2.1;omega]at hp;exact wg hp<|zh (Xe h).symm
def zzt(n:Int):CX 203 [i64 n] (pr (zaM n)):=by
 refine zd func203<|Br.mk (λh=>?_) (λh=>?_)
 ·exact zI (.inl h)
 exact zr ⟨.inr,λk=>k.resolve_left h⟩
def zt0(n:Nd):CX 207 [wv n] (pr (zbE n)):=by
 refine zd func207<|Br.mk (λh1=>?_) (λh1=>zc λk=>h1 k.1);refine⟨λh2=>?_,λh2=>zc λk=>h2 k.2.1⟩;refine⟨λh3=>?_,λh3=>zc λk=>h3 (by rw[k.2.2.1];decide)⟩;exact zr ⟨λh=>⟨h1,h2,by simpa using h3,by simpa using h⟩,λk=>by rw[k.2.2.2];decide⟩
def zt1(n:Nd):CX 204 [wv n] (pr (zcx n)):=by
 refine zd func204 λhl1=>?_;refine⟨λh1=>?_,λh1=>zc λk=>h1 (by have:=k.1;omega)⟩;refine⟨λh2=>?_,λh2=>zc λk=>h2 k.2.1⟩;intro hl2;refine⟨λh3=>?_,λh3=>zc λk=>h3 (by have:=k.2.2.1;omega)⟩;intro hl3;exact zr ⟨λh=>⟨oM,h2,oM,oM⟩,λk=>by have:=k.2.2.2;omega⟩
def znZ(n:Nd):CX 205 [wv n] (pr (jW n.pen)):=by
 refine zd func205<|Br.mk (λh1=>?_) (λh1=>zc λk=>h1 k.1);refine⟨λh2=>?_,λh2=>zc λk=>h2 k.2.1⟩;refine⟨λh3=>?_,λh3=>zc λk=>h3 k.2.2.1⟩;refine⟨λh4=>?_,λh4=>zc λk=>h4 k.2.2.2.1⟩;intro hl1;refine⟨λh5=>?_,λh5=>zc λk=>h5 (by rw[k.2.2.2.2.1];rfl)⟩;have h5:n.pen.d.length=0:=oM;exact zr ⟨λh=>⟨h1,h2,h3,h4,XN.1 h5,h⟩,λk=>k.2.2.2.2.2⟩
def zt2(n:Nd):CX 206 [wv n] (pr (zbF n)):=by
 refine zd func206<|Br.mk (λh1=>?_) (λh1=>zc λk=>h1 k.1);refine⟨λh2=>?_,λh2=>zc λk=>h2 k.2.1⟩;intro hl1;refine⟨λh3=>?_,λh3=>zc λk=>h3 (by have:=k.2.2.1;omega)⟩;exact zr ⟨λh=>⟨h1,h2,oM,h⟩,λk=>k.2.2.2⟩
def zE4(n:Nd):CX 142 [wv n] (pr (zef n)):=by
 have bad:¬un n->LE (bl false) (pr (zef n)):=λh=>zc λk=>h k.1
 refine zau tok func142 rfl rfl rfl (zaS.cut tok mix 2 (λ_:Unit=>⟨[(1,.loc 0 0)],[(0,.box 65 (ndE n))],1,56,0⟩) (λ_=>un n) ?_ λ_ hk=>zaS.vc tok mix ?_)
 ·intro hl1;refine⟨λh1=>?_,λh1=>?_⟩
  ·refine⟨λh2=>bad λk=>k.elim (λk=>h2 k.2) λk=>by have:=k.1;omega,λh2=>?_⟩;intro hl2;refine⟨λh3=>?_,λh3=>⟨(),.inl ⟨oM,Xc.1 h2⟩,zi [0]⟩⟩;omega
  intro hl2;refine⟨λh3=>?_,λh3=>?_⟩
  ·refine wg (zzt n.cr)<|⟨λh4=>bad λk=>k.elim (λk=>by have:=k.1;omega) λk=>h4 k.2,λh4=>?_⟩;exact⟨(),.inr ⟨oM,Xc.1 h4⟩,zi [0]⟩
  omega
 refine⟨λk1=>?_,λk1=>?_⟩
 ·have e:zef n↔(zcx n/\jW n.pen)/\zbF n:=by unfold zef;rw[Xe k1];exact⟨λh=>h.2,λh=>⟨hk,h⟩⟩
  refine wg (zt1 n)<|⟨λa=>?_,λa=>zc λk=>a (e.1 k).1.1⟩;refine wg (znZ n)<|⟨λb=>?_,λb=>zc λk=>b (e.1 k).1.2⟩;exact wg (zt2 n)<|zr ⟨λh=>e.2 ⟨⟨a,b⟩,h⟩,λk=>(e.1 k).2⟩
 refine⟨λk2=>?_,λk2=>?_⟩
 ·have e:zef n↔zbE n/\zbF n:=by unfold zef;rw[Xb k1,Xe k2];exact⟨λh=>h.2,λh=>⟨hk,h⟩⟩
  refine wg (zt0 n)<|⟨λa=>?_,λa=>zc λk=>a (e.1 k).1⟩;exact wg (zt2 n)<|zr ⟨λh=>e.2 ⟨a,h⟩,λk=>(e.1 k).2⟩
 have e:zef n↔zbE n/\zcx n/\jW n.pen:=by unfold zef;rw[Xb k1,Xb k2];exact⟨λh=>h.2,λh=>⟨hk,h⟩⟩
 refine wg (zt0 n)<|⟨λa=>?_,λa=>zc λk=>a (e.1 k).1⟩;refine wg (zt1 n)<|⟨λb=>?_,λb=>zc λk=>b (e.1 k).2.1⟩;exact wg (znZ n)<|zr ⟨λh=>e.2 ⟨a,b,h⟩,λk=>(e.1 k).2.2⟩
def zqg(xs:LX)(ht:zez xs):CX 208 [.sl qb xs] (pr (yM xs)):=by
 refine zd func208<|⟨Int,λi=>⟨[(3,i64 i),(0,.sl qb xs)],[],0,16,0⟩,λi=>0<=i/\i<=xs.length/\∀(j:Nat) q,(j:Int)<i->xs[j]?=some q->yu q,λi=>((xs.length:Int)-i).toNat,0,?_,?_,?_⟩
 ·exact⟨oM,oM,λj q hj=>by omega⟩
 ·exact zA []
 rintro i ⟨h1,h2,h3⟩
 intro hl0;refine⟨λh4=>?_,λh4=>?_⟩
 ·refine wb λx hx=>?_;have hm:=ht x (Xf hx);refine wg (zqf x hm.1)<|⟨λh5=>zc λk=>h5 (k x (Xf hx)),λh5=>?_⟩;refine wa<|⟨i+1,⟨oM,oM,λj q hj hq=>?_⟩,zA [],oN⟩
  by_cases e:j=i.toNat
  ·subst e;rw[hx]at hq;cases hq;exact Xc.1 h5
  exact h3 j q oM hq
 refine zI λp hp=>?_
 obtain⟨j,hj,he⟩:=Kn hp;exact h3 j p oM (by rw[←he];exact Xa hj)
def zCc(n:Nd)(t1:zez n.fill)(t2:zez n.strk):CX 143 [wv n] (i64 (yL n)):=by
 refine zd func143<|wg (zpd n.path)<|⟨λh1=>zh (by unfold yL;rw[Xe h1]),λh1=>?_⟩;refine wg (zzt n.rule)<|⟨λh2=>zh (by unfold yL;rw[Xb h1,Xe h2]),λh2=>?_⟩;intro hl1;refine⟨λa1=>zh (by unfold yL;rw[Xb h1,Xb h2,Xe (.inl oM)]),λa1=>?_⟩;intro hl2;refine⟨λa2=>zh (by unfold yL;rw[Xb h1,Xb h2,Xe (.inr oM)]),λa2=>?_⟩;have h3:¬(1<n.fill.length∨1<n.strk.length):=oM;intro hl3;refine⟨λb1=>?_,λb1=>?_⟩
 all_goals first
  |(refine wg (zBc n.pen) ?_;refine⟨λb2=>zh (by unfold yL;rw[Xb h1,Xb h2,Xb h3,Xe ⟨oM,b2⟩]),λb2=>?_⟩;have h4:¬(0<n.strk.length/\¬kV n.pen):=λk=>b2 k.2)
  |have h4:¬(0<n.strk.length/\¬kV n.pen):=λk=>b1 (by have:=k.1;omega)
 all_goals intro hl4
 all_goals refine⟨λc1=>?_,λc1=>?_⟩
 all_goals first
  |(refine wg (znZ n) ?_;refine⟨λc2=>zh (by unfold yL;rw[Xb h1,Xb h2,Xb h3,Xb h4,Xe ⟨oM,c2⟩]),λc2=>?_⟩;have h5:¬(n.strk.length=0/\¬jW n.pen):=λk=>c2 k.2)
  |have h5:¬(n.strk.length=0/\¬jW n.pen):=λk=>c1 (by have:=k.1;omega)
 all_goals refine wg (zqg n.fill t1) ?_
 all_goals refine⟨λd1=>zh (by unfold yL;rw[Xb h1,Xb h2,Xb h3,Xb h4,Xb h5];exact(Xe (Or.inl d1)).symm),λd1=>?_⟩
 all_goals refine wg (zqg n.strk t2) ?_
 all_goals refine⟨λd2=>zh (by unfold yL;rw[Xb h1,Xb h2,Xb h3,Xb h4,Xb h5];exact(Xe (Or.inr d2)).symm),λd2=>zh (by unfold yL;rw[Xb h1,Xb h2,Xb h3,Xb h4,Xb h5];exact(Xb (λk=>k.elim d1 d2)).symm)⟩
def zCd(n:Nd)(h:zkb n):CX 101 [wv n] (i64 (jQ n)):=by
 obtain⟨ht,t1,t2,t3⟩:=h;refine zd func101<|Br.mk (λa1=>zh (by unfold jQ;rw[Xe (.inl a1)])) (λa1=>?_);refine⟨λa2=>zh (by unfold jQ;rw[Xe (.inr a2)]),λa2=>?_⟩;have h1:¬(n.k<1∨3<n.k):=oM;refine⟨λb1=>zh (by unfold jQ;rw[Xb h1,Xe oM]),λb1=>?_⟩;refine⟨λb2=>zh (by unfold jQ;rw[Xb h1,Xe oM]),λb2=>?_⟩;refine⟨λb3=>zh (by unfold jQ;rw[Xb h1,Xe oM]),λb3=>?_⟩
 refine⟨λb4=>zh (by unfold jQ;rw[Xb h1,Xe oM]),λb4=>?_⟩;have h2:¬(n.id<1∨1073741824<n.id∨n.d<0∨8<=n.d):=oM;refine wg (zlB n.t (ht.up dC)) ?_;refine⟨λh3=>zh (by unfold jQ;rw[Xb h1,Xb h2,Xe h3]),λh3=>?_⟩;refine wg (zti n.t (ht.up dC)) ?_;refine wg (uf 0 (by constructor <;> decide)) ?_;have hcmp:=zxL (ofQ (v7 n.t)) (ofQ ((0:Int):Rat)) (by have:=zgg ht;rw[zO];omega) (by decide +kernel);rw[kA,kA]at hcmp;refine wg hcmp ?_
 refine⟨λh4=>zh (by unfold jQ;rw[Xb h1,Xb h2,Xb h3,Xe ((Yp.1 (yX _)).1 h4)]),λh4=>?_⟩;have h4:¬v7 n.t=0:=(yX _).1 h4;refine wg (zpd n.clip)<|⟨λh5=>zh (by unfold jQ;rw[Xb h1,Xb h2,Xb h3,Xb h4,Xe h5]),λh5=>?_⟩;refine wg (zE4 n)<|⟨λh6=>zh (by unfold jQ;rw[Xb h1,Xb h2,Xb h3,Xb h4,Xb h5,Xe h6]),λh6=>?_⟩;refine⟨λk2=>?_,λk2=>?_⟩
 ·exact wg (zCc n t1 t2)<|zh (by unfold jQ;rw[Xb h1,Xb h2,Xb h3,Xb h4,Xb h5,Xb h6,Xb oM,Xe k2])
 refine⟨λk1=>?_,λk1=>?_⟩
 ·exact wg (zEX n.mode)<|⟨λm=>zh (by unfold jQ;rw[Xb h1,Xb h2,Xb h3,Xb h4,Xb h5,Xb h6,Xe k1];exact(Xe m).symm),λm=>zh (by unfold jQ;rw[Xb h1,Xb h2,Xb h3,Xb h4,Xb h5,Xb h6,Xe k1];exact(Xb m).symm)⟩
 refine wg (zj5 n.im)<|⟨λm=>zh (by unfold jQ;rw[Xb h1,Xb h2,Xb h3,Xb h4,Xb h5,Xb h6,Xb k1,Xb k2,Xe m]),λm=>?_⟩;refine⟨λs1=>?_,λs1=>zh (by unfold jQ;rw[Xb h1,Xb h2,Xb h3,Xb h4,Xb h5,Xb h6,Xb k1,Xb k2,Xb m,Xb (λk=>s1 k.1)])⟩
 exact⟨λs2=>zh (by unfold jQ;rw[Xb h1,Xb h2,Xb h3,Xb h4,Xb h5,Xb h6,Xb k1,Xb k2,Xb m,Xe ⟨s1,s2⟩]),λs2=>zh (by unfold jQ;rw[Xb h1,Xb h2,Xb h3,Xb h4,Xb h5,Xb h6,Xb k1,Xb k2,Xb m,Xb (λk=>s2 k.2)])⟩
def zkj(l:LV)(id:Int):Int:=match l.findIdx? (λn=>n.id=id) with|some i=>i|none=> -1
def zzu{id:Int}(h:∀(j:Nat) q,j<i->l[j]?=some q->q.id≠id)(hx:l[i]?=some x)(hb:x.id=id):zkj l id=i:=by
 have:l.findIdx? (λn=>n.id=id)=some i:=by
  rw[KP];have hi:=(Xd.1 hx);refine⟨hi.1,by rw[hi.2];simpa using hb,λj hj=>?_⟩;have:=h j _ hj (Xa (by have:=hi.1;omega))
  simpa using this
 unfold zkj;rw[this]
def zkk{id:Int}(h:∀p∈l,p.id≠id):zkj l id= -1:=by
 have:l.findIdx? (λn=>n.id=id)=none:=by
  rw[KA];intro p hp;simpa using h p hp
 unfold zkj;rw[this]
def zqh{id:Int}:0<=zkj l id↔id∈l.map Nd.id:=by
 by_cases h:∀p∈l,p.id≠id
 ·rw[zkk h];refine⟨λk=>by omega,λk=>?_⟩;obtain⟨p,hp,e⟩:=XL.1 k;exact absurd e (h p hp)
 unfold zkj
 cases hf:l.findIdx? (λn=>n.id=id) with
 |some i=>
  refine⟨λ_=>?_,λ_=>Int.natCast_nonneg i⟩;rw[KP]at hf;obtain⟨hi,h1,_⟩:=hf;exact XL.2 ⟨l[i],X5 hi,by simpa using h1⟩
 |none=>rw[KA]at hf;exact absurd (λp hp=>by simpa using hf p hp) h
def zE5(l:LV)(id:Int):CX 40 [.sl ndE l,i64 id] (i64 (zkj l id)):=by
 refine zd func40<|⟨Nat,λi=>⟨[(5,i64 i),(1,i64 id),(0,.sl ndE l)],[],0,20,0⟩,λi=>i<=l.length/\∀(j:Nat) q,j<i->l[j]?=some q->q.id≠id,λi=>l.length-i,0,⟨Xg _,λj q h=>by omega⟩,?_,?_⟩
 ·exact zA []
 rintro i ⟨h1,h2⟩
 intro hl0;refine⟨λg:(i:Int)<l.length=>?_,λg:¬(i:Int)<l.length=>?_⟩
 ·refine wb λx(hx:l[i]?=some x)=>?_;refine⟨λh=>zh (zzu h2 hx h).symm,λh=>?_⟩;refine wa<|⟨i+1,⟨oM,λj q hj hq=>?_⟩,zA [],oN⟩
  by_cases c:j=i
  ·subst c;rw[hx]at hq;cases hq;exact h
  exact h2 j q oM hq
 refine zh (zkk λp hp=>?_).symm;obtain⟨j,hj,e⟩:=Kn hp;exact h2 j p oM (by rw[←e];exact Xa hj)
def zzv{n:Nd}(h:l[0]?=some n):qE l 0 n↔n.d=0:=by
 unfold qE;rw[show l[0-1]?=some n from h];exact Qd
def zzw{l:LV}{i:Nat}{n p:Nd}(hp:l[i]?=some p):qE l (i+1) n↔(p.k=1/\n.d=p.d+1)∨n.d<=p.d:=by
 unfold qE;rw[show l[i+1-1]?=some p from hp];exact Qd
def zzx(l:LV)(i:Nat)(n:Nd)(hn:l[i]?=some n)(hd:∀j p,j<i->l[j]?=some p->0<=p.d/\p.d<8)(hl:l.length<=64):
  CX 102 [.sl ndE l,i64 i] (pr (qE l i n)):=by
 have hi:=(Xd.1 hn).1;refine zd func102<|Br.mk (λg=>?_) (λg=>?_)
 ·have g:(i:Int)=0:=g;obtain rfl:i=0:=oM;refine wb λx hx=>?_;have hx:x=n:=Xl ((show l[0]?=some x from hx).symm.trans hn);rw[hx];exact zr (zzv hn).symm
 have g:¬(i:Int)=0:=g;obtain⟨k,rfl⟩:∃k,i=k+1:=⟨i-1,oM⟩;obtain⟨p,hp⟩:∃p,l[k]?=some p:=⟨_,Xa oM⟩;have hpd:=hd k p oM hp;have hs:=zzw (n:=n) hp;refine wc<|wa<|wb λx hx=>?_;have hx:x=p:=Xl ((show l[k]?=some x by rw[←hx];congr 1;omega).symm.trans hp);rw[hx];refine⟨λh1=>?_,λh1=>?_⟩
 ·refine wb λy hy=>?_;have hy:y=n:=Xl ((show l[k+1]?=some y by rw[←hy];congr 1).symm.trans hn);rw[hy];refine wa<|wb λz hz=>?_;have hz:z=p:=Xl ((show l[k]?=some z by rw[←hz];congr 1;omega).symm.trans hp);rw[hz];refine wa<|Br.mk (λh2=>zI (hs.2 (.inl ⟨h1,h2⟩))) (λh2=>?_);refine wc<|wb λy hy=>?_;have hy:y=n:=Xl ((show l[k+1]?=some y by rw[←hy];congr 1).symm.trans hn);rw[hy];refine wa<|wb λz hz=>?_
  have hz:z=p:=Xl ((show l[k]?=some z by rw[←hz];congr 1;omega).symm.trans hp);rw[hz];exact zr ⟨λh=>hs.2 (.inr h),λh=>(hs.1 h).resolve_left λq=>h2 q.2⟩
 refine wc<|wb λy hy=>?_;have hy:y=n:=Xl ((show l[k+1]?=some y by rw[←hy];congr 1).symm.trans hn);rw[hy];refine wa<|wb λz hz=>?_;have hz:z=p:=Xl ((show l[k]?=some z by rw[←hz];congr 1;omega).symm.trans hp);rw[hz];exact zr ⟨λh=>hs.2 (.inr h),λh=>(hs.1 h).resolve_left λq=>h1 q.1⟩
def zCe(l:LV)(i:Nat)(n:Nd)(hn:l[i]?=some n)(ht:zkb n)(hd:∀j p,j<i->l[j]?=some p->0<=p.d/\p.d<8)(hl:l.length<=64):
  CX 65 [.sl ndE l,i64 i] (i64 (zeg l i n)):=by
 have hi:=(Xd.1 hn).1;refine zd func65<|wb λx hx=>?_;have hx:x=n:=Xl ((show l[i]?=some x from hx).symm.trans hn);rw[hx];refine wg (zCd n ht)<|⟨λh=>zh (zqd h).symm,λh1=>?_⟩;have h1:jQ n=0:=Xc.1 h1;refine wc<|Ob.mk ⟨oM,λ_ _=>rfl⟩<|wb λy hy=>?_;have hy:y=n:=Xl ((show l[i]?=some y from hy).symm.trans hn);rw[hy]
 have e:(l.drop (0:Int).toNat).take ((i:Int)-0).toNat=l.take i:=by rw[show(0:Int).toNat=0 from rfl,K7];congr 1
 refine wg (zE5 ((l.drop (0:Int).toNat).take ((i:Int)-0).toNat) n.id) ?_;rw[e];refine⟨λh=>zh (zqe h1 (zqh.1 h)).symm,λh2=>?_⟩;have h2:n.id∉(l.take i).map Nd.id:=λk=>h2 (zqh.2 k)
 refine wg (zzx l i n hn hd hl)<|⟨λh=>zh (zki h1 h2 h).symm,λh3=>?_⟩;exact zh (ztZ h1 h2 (Xc.1 h3)).symm
def zzy(s:Sc)(ht:zeA s):CX 39 [wr s] (zv8 (zh3 s)):=by
 refine zd func39<|Br.mk (λh=>vH (.inl h)) (λh1=>?_);refine⟨λh=>vH (.inr (.inl h)),λh2=>?_⟩;refine⟨λh=>vH (.inr (.inr (.inl h))),λh3=>?_⟩;refine⟨λh=>vH (.inr (.inr (.inr h))),λh4=>?_⟩;have hb:¬za4 s:=λk=>k.elim h1 λk=>k.elim h2 λk=>k.elim h3 h4
 intro hl0;refine⟨λh=>zmm hb oM,λh5=>?_⟩;have hn:¬64<s.ns.length:=oM;have ht:=ht oM;refine⟨Nat,λi=>⟨[(4,i64 i),(1,.loc 0 0)],[(0,.box 26 (scE s))],1,43,0⟩,λi=>i<=s.ns.length/\∀j,j<i->yN s.ns j=0,λi=>s.ns.length-i,0,⟨Xg _,λj h=>by omega⟩,zi [0],?_⟩
 rintro i ⟨hi,hz⟩
 intro hl1;refine⟨λg:(i:Int)<s.ns.length=>?_,λg:¬(i:Int)<s.ns.length=>?_⟩
 ·obtain⟨x,hx⟩:∃x,s.ns[i]?=some x:=⟨_,Xa oM⟩;have hm:=Xf hx
  have hd:∀j p,j<i->s.ns[j]?=some p->0<=p.d/\p.d<8:=λj p hj hp=>by
   have:=hz j hj;rw[uo hp]at this;exact(zaO (zg4 this).1).2.1
  refine wg (zCe s.ns i x hx (ht x hm) hd oM)<|⟨λh=>zin hb hn hx hz rfl h,λh6=>?_⟩;exact wa<|⟨i+1,⟨oM,zmn hx hz (Xc.1 h6)⟩,zi [0],oN⟩
 exact ztY hb hn λj hj=>hz j oM
def zkl(s:Sc)(ht:zeA s):CX 20 [wr s] (pr (zV s)):=by
 exact zd func20<|wg (zzy s ht)<|zr Qd
def jD(s:Sc)(i:Int):LU:=if inS s i then((za6 (zU s.ns) i).reverse).map (λk:Nat=>(k:Int)) else[]
def zsk(l:LB):LU:=l.map (λk:Nat=>(k:Int))
def fineN(n:Nd):Prop:=n.t.le 100/\zkb n/\n.path.length<=300/\n.clip.length<=300
def yi(s:Sc):Prop:=s.ns.length<=64->∀n∈s.ns,fineN n
def yi.tame{s:Sc}(h:yi s):zeA s:=λhl n hn=>(h hl n hn).2.1
def zE6{s:Sc}(h:yi s)(hv:zV s)(k:Nat):(tAt s.ns k).le 100:=by
 unfold tAt
 cases hk:s.ns[k]? with
 |none=>exact zno.up dC
 |some n=>exact(h (yY hv) n (Xf hk)).1
def zE7{s:Sc}(h:yi s)(hv:zV s)(i:Int):∀t∈trs s.ns i,t.le 100:=λt ht=>by
 obtain⟨k,_,rfl⟩:=XL.1 ht;exact zE6 h hv k
def zCf{s:Sc}(hv:zV s)(hi:i<s.ns.length):(trs s.ns i).length<=8:=by
 have hn:s.ns[i]?=some s.ns[i]:=Xa hi;have hd:=ur hv s.ns[i] (X5 hi);unfold trs;rw[Xz,zg5 (d:=s.ns[i].d.toNat) (za5 hv) (by rw[vn hn];congr 1;omega)];omega
def zzz{l:List AF}:(zaJ l).1.le 100:=by
 unfold zaJ
 split
 ·rename_i h;have:=zp5 (l:=l) (i:=l.length) (Xi _) λk hk=>h.2 k hk
  rw[Kf]at this;exact this.up dC
 exact vl _
def zgh(s:Sc)(i:Int):(kH s i).1.le 100:=by
 unfold kH
 split
 ·exact vl _
 split
 ·exact vl _
 exact zzz
def resW(r:AF×Int):SV:=.tup [wo r.1,i64 r.2]
def zg8{s:Sc}{i:Int}(h:kH s i=(qh,e)):LE (.tup [.agg uM,i64 e]) (resW (kH s i)):=by
 rw[h];exact zW zdU .refl
def zzA{s:Sc}{i:Int}(h:zV s)(h0:0<=i)(h1:i<s.ns.length):kH s i=zaJ (trs s.ns i):=by
 unfold kH;rw[Xb (λk=>k h),Xb oM]
def zCg{s:Sc}(h:zV s)(hi:i<s.ns.length):parS s i=yj (zU s.ns) i:=by
 unfold parS;rw[Xe ⟨h,oM,oM⟩];rfl
def scO(s:Sc)(k:Nat):LQ:=[i64 s.w,i64 s.h,u8 s.bg.r,u8 s.bg.g,u8 s.bg.b,u8 s.bg.a,.own k]
abbrev zqi(l:LV):Mem:=.arr 65 ndE 47 l
def zCh(s:Sc)(i:Int)(ht:yi s):CX 129 [wr s,i64 i] (resW (kH s i)):=by
 refine zd func129<|wg (zio s ht.tame)<|⟨λh=>zg8 (Xe h),λh=>?_⟩;have hv:zV s:=Xc.1 h;refine⟨λh1=>zg8 ((Xb h).trans (Xe (.inl h1))),λh1=>?_⟩;intro hl0;refine⟨λh2=>zg8 ((Xb h).trans (Xe (.inr h2))),λh2=>?_⟩;have e0:=zzA hv (i:=i) oM oM;have hl64:=yY hv;have hle:=zE7 ht hv i
 have hlen:(trs s.ns i).length<=8:=by
  obtain⟨k,rfl⟩:∃k:Nat,i=(k:Int):=⟨i.toNat,oM⟩;exact zCf hv oM
 refine⟨List AF×Int,λz=>⟨[(6,.own 2),(4,.loc 1 0),(2,.loc 0 0),(1,i64 z.2)],[(2,.arr 49 afE 24 z.1),(1,.box 49 uM),(0,.box 26 (scE s))],3,39,0⟩,
  λz=>z.1++trs s.ns z.2=trs s.ns i/\ -1<=z.2/\z.2<s.ns.length,λz=>(z.2+1).toNat,([],i),⟨rfl,oN,oN⟩,zA [(0,some 0),(1,some 1),(2,none)],?_⟩
 rintro⟨p,j⟩ ⟨hp,hj1,hj2⟩
 have hp:p++trs s.ns j=trs s.ns i:=hp;have hj1: -1<=j:=hj1;have hj2:j<s.ns.length:=hj2;have hpl:p.length<=8:=by rw[←hp,Xp]at hlen;omega
 refine⟨λg:0<=j=>?_,λg:¬0<=j=>?_⟩
 ·obtain⟨k,rfl⟩:∃k:Nat,j=(k:Int):=⟨j.toNat,oM⟩;refine wb λx(hx:s.ns[k]?=some x)=>?_;refine⟨AF,afE,[x.t],rfl,Ob.mk ⟨rfl,dC,dC,dC,λy hy=>by rw[Xu.1 hy];exact⟨rfl,rfl,rfl⟩⟩ ?_⟩;refine⟨[x.t],rfl,Ob.mk ⟨by show((p.length:Int)+1)*_<=_;dsimp only;omega,by show p.length+1<=_;omega,dC,λy hy=>by rw[Xu.1 hy];rfl⟩ ?_⟩;refine wg (zzr s k ht.tame) ?_;have ep:=zCg hv (i:=k) oM;have hpn:=zci (zU s.ns) k
  refine⟨(p++[x.t],yj (zU s.ns) k),⟨by dsimp only;rw[XS,←hp,zzn hx];rfl,hpn.1,oN⟩,ku [0,1,4] ⟨rfl,rfl,rfl,iR ep,tV⟩ ⟨rfl,rfl,rfl,tV⟩,oN⟩
 have e1:p=trs s.ns i:=by rw[←hp,zB9 oM,XM]
 subst e1;refine zb.see 2 _ (zsa (trs s.ns i) hle) rfl rfl rfl ?_;rw[e0];exact zW .refl .refl
def zv9{l:List AF}:(zaJ l).2=0∨(zaJ l).2=5:=by
 unfold zaJ;split
 ·exact .inl rfl
 exact .inr rfl
def zg9{s:Sc}{i:Int}:inS s i↔¬((kH s i).2=18∨(kH s i).2=8):=by
 unfold kH
 by_cases h:zV s
 ·rw[Xb (λk=>k h)]
  by_cases h1:i<0∨s.ns.length<=i
  ·rw[Xe h1];exact⟨λk=>by have:=k.2;omega,λk=>absurd (.inr rfl) k⟩
  rw[Xb h1];refine⟨λ_=>?_,λ_=>⟨h,oM,oM⟩⟩
  rcases zv9 (l:=trs s.ns i) with e|e <;> rw[e] <;> decide
 rw[Xe h];exact⟨λk=>absurd k.1 h,λk=>absurd (.inl rfl) k⟩
def zmp{s:Sc}{i:Int}(h:¬inS s i):(kH s i).1=qh/\(kH s i).2≠0/\zG s i=zNd:=by
 refine⟨?_,?_,Xb h⟩
 all_goals
  unfold kH
  by_cases h0:zV s
  ·rw[Xb (λk=>k h0),Xe (by
    rcases Qa i 0 with k|k
    ·exact .inl k
    exact .inr (YH.1 λq=>h ⟨h0,k,q⟩))]
   try (first|rfl|exact dC)
  rw[Xe h0]
  try (first|rfl|exact dC)
def zn0{s:Sc}{i:Int}(h:inS s i){n:Nd}(hn:s.ns[i.toNat]?=some n):zG s i=n:=by
 unfold zG;rw[Xe h,hn];rfl
def zmq{s:Sc}(ht:yi s)(i:Int):(zG s i).path.length<=300/\(zG s i).clip.length<=300:=by
 by_cases h:inS s i
 ·obtain⟨n,hn⟩:=zdr h;rw[zn0 h hn];have:=ht (yY h.1) n (Xf hn);exact this.2.2
 rw[(zmp h).2.2];exact⟨Xg _,Xg _⟩
def zzB(s:Sc)(i:Int):LQ:=afE (kH s i).1++(pr ((kH s i).2=0)::ndE (zG s i))
def z47:LQ:=i64 0::i64 0::i64 0::(uM++[nS,i64 0,u8 0,i64 0,bl false,bl false,nS,i64 0,nS,
 i64 0,i64 0,i64 0,i64 0,nS,i64 0,nS,i64 0,i64 0,nS,i64 0])
def zkm:LEs uM (afE qh):=show LEs (z4++(z4++(z4++(z4++(z4++z4))))) (afE qh) from LEs.append yc (LEs.append yc (LEs.append yc (LEs.append yc (LEs.append yc yc))))
def zCi:LEs z47 (ndE zNd):=
 .C (.C (.C (LEs.append zkm (.cons zw (.C (.C (.C (.cons (zc dC) (.cons (zc dC) (.cons zw (.C (.cons zw
  (.C (.C (.C (.C (.cons zw (.C (.cons zw (.C (.C (.cons zw (.C .nil)))))))))))))))))))))))
def zqj{s:Sc}{i:Int}(h:¬inS s i):LE (.agg (uM++(bl false::z47))) (.agg (zzB s i)):=by
 obtain⟨h1,h2,h3⟩:=zmp h;unfold zzB;rw[h1,h3];exact jg (LEs.append zkm (.cons (zc h2) zCi))
def zn1(s:Sc)(i:Int)(ht:yi s):CX 92 [wr s,i64 i] (.agg (zzB s i)):=by
 refine zd func92<|wg (zCh s i ht)<|⟨λh=>zqj λk=>zg9.1 k (.inl h),λh1=>?_⟩;refine⟨λh=>zqj λk=>zg9.1 k (.inr h),λh2=>?_⟩;have hin:inS s i:=zg9.2 λk=>k.elim h1 h2
 obtain⟨n,hn⟩:=zdr hin;have hi:=(Xd.1 hn).1;have hi0:=hin.2;refine wc<|wb λx hx=>?_;have hx:x=n:=Xl ((show s.ns[i.toNat]?=some x from hx).symm.trans hn);rw[hx];have e:zzB s i=afE (kH s i).1++(pr ((kH s i).2=0)::ndE n):=by unfold zzB;rw[zn0 hin hn]
 rw[e];exact .refl
def zsl(r:AF×Int)(l:LW)(ht:r.1.le 100)(hl:l.length<=300):CX 93 [.agg (afE r.1++[pr (r.2=0)]),.sl sgE l] (.sl zE (vX r l)):=by
 refine zd func93<|Br.mk (λh=>by rw[show vX r l=[] from Xe h];exact zw) (λh=>?_);have e:vX r l=(yG l r.1 32).1:=Xb h;refine wg (zBQ l r.1 32 (ht.up dC) hl) ?_;rw[e];exact⟨λk=>by rw[zqb k];exact zw,λ_=>.refl⟩
def zt3(s:Sc)(i:Int)(ht:yi s):CX 55 [wr s,i64 i] (.sl zE (vY s i)):=by
 refine zd func55<|wg (zn1 s i ht)<|⟨λh=>by rw[show vY s i=[] from Xe (.inl h)];exact zw,λh1=>?_⟩;intro hl0;refine⟨λh=>by rw[show vY s i=[] from Xe (.inr oM)];exact zw,λh2=>?_⟩;refine wg (zsl (kH s i) (zG s i).path (zgh s i) (zmq ht i).1) ?_;rw[show vY s i=vX (kH s i) (zG s i).path from Xb λk=>k.elim h1 λq=>h2 oM];exact .refl
def zqk(a b c d:Int):(jJ a b c d).length<=300:=by
 unfold jJ;split
 ·exact(by decide:5<=300)
 exact Xg _
def zzC(s:Sc)(i:Int)(ht:yi s):CX 57 [wr s,i64 i] (.sl zE (zg6 s i)):=by
 refine zd func57<|wg (zn1 s i ht)<|⟨λh=>by rw[show zg6 s i=[] from Xe h];exact zw,λh=>?_⟩;refine wc<|wg (zrG 0 0 (zG s i).im.w (zG s i).im.h)<|wg (zsl (kH s i) (jJ 0 0 (zG s i).im.w (zG s i).im.h) (zgh s i) (zqk _ _ _ _)) ?_;rw[show zg6 s i=vX (kH s i) (jJ 0 0 (zG s i).im.w (zG s i).im.h) from Xb h];exact .refl
def zql(s:Sc)(i:Int):SV:=.tup [.sl zE (zkh s i),pr (0<(zG s i).clip.length)]
def zCj{s:Sc}{i:Int}(h:(zG s i).clip.length=0):LE (.tup [nS,bl false]) (zql s i):=by
 unfold zql;rw[show zkh s i=[] from Xe h];exact zW zw (zc oM)
def zzD{s:Sc}{i:Int}{v:SV}(h:(zG s i).clip.length≠0)(hv:LE v (.sl zE (vX (kH s i) (zG s i).clip))):LE (.tup [v,bl true]) (zql s i):=by
 unfold zql;rw[show zkh s i=vX (kH s i) (zG s i).clip from Xb h];exact zW hv (zI oM)
def zCk(s:Sc)(i:Int)(ht:yi s):CX 89 [wr s,i64 i] (zql s i):=by
 refine zd func89<|wg (zn1 s i ht) λhl0=>?_;refine⟨λh=>zCj oM,λh1=>?_⟩;exact wg (zsl (kH s i) (zG s i).clip (zgh s i) (zmq ht i).2)<|zzD oM .refl
def zCl(xs:LR):zfg (.arr 28 ptE 2 xs):=λ_ _=>rfl
def zCm(n:Int)(h0:0<=n)(h1:n<=4096):CG0 230 [nS,i64 n] [] (.own 0) [(0,.arr 28 ptE 2 [])]:=by
 refine qu tok mix func230 rfl rfl rfl<|Br.mk (λh=>absurd h oM) (λ_=>?_);refine Ar.fit dC<|wa<|Br.mk (λh=>?_) (λh=>?_)
 ·refine Ob.mk ⟨rfl,rfl,rfl⟩<|⟨Pt,ptE,zp,rfl,Ob.mk ⟨dC,h,(by show _*(16:Int)<=_;omega),oM⟩ ?_⟩;refine Sl.keep (Ob.mk ⟨rfl,Qi _,oM⟩ ?_);exact⟨some 1,.own _ rfl,rfl,λ_ _=>rfl⟩
 exact⟨none,.nil rfl,rfl⟩
variable{rs:LN}
def zwa{x:LR}(h:rs[i]?=some x):(rs.take (i+1)).flatten=(rs.take i).flatten++x:=by
 rw[Xm,h];simp
def zqm(rs:LN):rs.flatten.length=qx rs:=by unfold qx;rw[List.length_flatten]
def zwb(rs:LN)(hc:qx rs<=4096):CG0 157 [.sl zE rs] [] (.own 0) [(0,.arr 28 ptE 2 rs.flatten)]:=by
 refine qu tok mix func157 rfl rfl rfl λhl0=>?_;refine⟨Nat,λi=>⟨[(11,i64 i),(10,i64 rs.length),(9,.sl zE rs),(3,i64 (qx (rs.take i):Int)),(0,.sl zE rs)],[],0,36,0⟩,λi=>i<=rs.length,λi=>rs.length-i,0,Xg _,zA [],?_⟩;intro i hi;have hi:i<=rs.length:=hi;refine⟨λg:(i:Int)<rs.length=>?_,λg:¬(i:Int)<rs.length=>?_⟩
 ·refine wb λx(hx:rs[i]?=some x)=>?_;have e:=zae hx;have:=zb7 rs (i+1);intro hl1;refine wa<|Br.mk (λh=>absurd h oM) (λ_=>?_);exact wa<|⟨i+1,by show i+1<=_;omega,qN [] ⟨rfl,rfl,rfl,iR (by rw[e];omega),rfl,tV⟩ trivial,oN⟩
 have et:rs.take i=rs:=Xk oM;refine zb.fresh _ _ (zCm (qx (rs.take i):Int) oM (by rw[et];omega)) rfl (zCl _) (.inl rfl) λhl2=>?_;refine⟨Nat,λi=>⟨[(27,i64 i),(26,i64 rs.length),(25,.sl zE rs),(6,.own 0)],[(0,.arr 28 ptE 2 (rs.take i).flatten)],1,36,0⟩,λi=>i<=rs.length,λi=>rs.length-i,0,Xg _,zi [0],?_⟩;intro j hj;have hj:j<=rs.length:=hj;refine⟨λg:(j:Int)<rs.length=>?_,λg:¬(j:Int)<rs.length=>?_⟩
 ·refine wb λx(hx:rs[j]?=some x)=>?_;have e:=zae hx;have k1:=zb7 rs (j+1);have k2:=zqm (rs.take j);refine⟨x,rfl,Ob.mk ⟨(by show((rs.take j).flatten.length+x.length:Int)*(16:Int)<=_;omega),oM,dC,λ_ _=>rfl⟩ ?_⟩;exact wa<|⟨j+1,by show j+1<=_;omega,zt [1] ⟨aR (zwa hx).symm,tV⟩,oN⟩
 exact⟨some 0,.own _ rfl,aR (by rw[Xk (show rs.length<=j by omega)]),λ_ _=>rfl⟩
def zds(rs:LN):Prop:=rs.flatten≠[]/\kE rs
instance (rs:LN):Decidable (zds rs):=wi
def loR(rs:LN):Pt:=if zds rs then bnd mnP rs.flatten else zp
def hiR(rs:LN):Pt:=if zds rs then bnd mxP rs.flatten else zp
def pbE(rs:LN):SV:=.tup [wk (loR rs),wk (hiR rs),pr (zds rs)]
def zzE(h:¬zds rs):LE (.tup [.agg [i64 0,i64 0],.agg [i64 0,i64 0],bl false]) (pbE rs):=by
 unfold pbE loR hiR;rw[Xb h,Xb h];exact zeQ (.C (.C (.cons (zc h) .nil)))
def zE8(rs:LN)(hc:qx rs<=4096):CX 114 [.sl zE rs] (pbE rs):=by
 refine zd func114<|wg ((zwb rs hc).plain rfl) ?_;generalize hq:rs.flatten=q;have hql:q.length<=4096:=by rw[←hq,zqm];exact hc
 intro hl0;refine⟨λh=>zzE λk=>k.1 (by rw[hq];exact Xo oM),λh1=>?_⟩;refine wg (zfS rs λr hr=>?_) ?_
 ·obtain⟨j,hj,e⟩:=Kn hr;have k1:=zae (rs:=rs) (i:=j) (Xa hj);have k2:=zb7 rs (j+1);rw[e]at k1;omega
 refine⟨λh=>zzE λk=>h k.2,λh2=>?_⟩;have h2:kE rs:=Xc.1 h2;have hne:q≠[]:=λk=>h1 (by rw[k];rfl)
 have hs:zds rs:=⟨by rw[hq];exact hne,h2⟩
 obtain⟨p0,t0,hq0⟩:∃p t,q=p::t:=by
  cases q with
  |nil=>exact absurd rfl hne
  |cons p t=>exact⟨p,t,rfl⟩
 have hp0:q[0]?=some p0:=by rw[hq0];rfl
 refine wd<|wb λx hx=>?_;have hx:x=p0:=Xl ((show q[0]?=some x from hx).symm.trans hp0);rw[hx];refine wb λy hy=>?_;have hy:y=p0:=Xl ((show q[0]?=some y from hy).symm.trans hp0);rw[hy];refine wh λhl1=>?_
 refine⟨Nat,λi=>⟨[(30,i64 i),(29,i64 q.length),(28,.sl ptE q),(7,.loc 3 0),(6,.loc 2 0),(3,.loc 1 0),(2,.loc 0 0)],
  [(3,.box 28 (ptE ((q.take i).foldl mxP p0))),(2,.box 28 (ptE ((q.take i).foldl mnP p0))),(1,.box 28 (ptE zp)),(0,.box 28 (ptE zp))],4,59,0⟩,
  λi=>i<=q.length,λi=>q.length-i,0,Xg _,?_,?_⟩
 ·exact zi [0,1,2,3]
 intro i hi;have hi:i<=q.length:=hi;refine⟨λg:(i:Int)<q.length=>?_,λg:¬(i:Int)<q.length=>?_⟩
 ·refine wb λz(hz:q[i]?=some z)=>?_;have e:∀f:Pt->Pt->Pt,(q.take (i+1)).foldl f p0=f ((q.take i).foldl f p0) z:=λf=>by rw[Xm,hz,Qg];rfl
  refine wa ?_
  exact⟨i+1,by show i+1<=_;omega,qa [(0,some 0),(1,some 1),(2,some 2),(3,some 3)] rfl rfl rfl ⟨rfl,rfl,rfl,rfl,rfl,rfl,rfl,tV⟩
   ⟨bR ptE (e mxP).symm,bR ptE (e mnP).symm,rfl,rfl,tV⟩,oN⟩
 have et:q.take i=q:=Xk oM;refine wd<|wh ?_
 have eb:∀f:Pt->Pt->Pt,(q.take i).foldl f p0=bnd f rs.flatten:=λf=>by
  rw[et,hq];unfold bnd;rw[hq0];rfl
 rw[eb,eb];unfold pbE loR hiR;rw[Xe hs,Xe hs];exact zeQ (.C (.C (.cons (zI hs) .nil)))
def ut(s:Sc)(i:Int):List LN:=[vY s i,zaP s i,zg6 s i]
def zqn{s:Sc}{i:Int}(h:(zG s i).k≠2∨(zG s i).strk.length=0):zaP s i=[]:=Xe h
def zkn(t:AF):List BR:=[t.a,t.b,t.c,t.d,t.e,t.f]
def zt4(t:AF)(n:Nat):t.le n↔∀x∈zkn t,x.len<=n:=by
 unfold zkn AF.le;simp
instance instLe51 (t:AF) (n:Nat):Decidable (t.le n):=wi
def zt5(t:AF):CX 31 [wo t] (pr (t.le 12)):=by
 refine zd func31<|⟨BR,brE,zkn t,rfl,wb0 ?_⟩;refine⟨Nat,λi=>⟨[(3,.own 0),(4,i64 i)],[(0,.arr 47 brE 4 (zkn t))],1,42,0⟩,λi=>i<=(zkn t).length/\∀x∈(zkn t).take i,x.len<=12,λi=>(zkn t).length-i,0,⟨Xg _,λx hx=>by cases hx⟩,zi [1],?_⟩
 rintro i ⟨h1,h2⟩
 intro hl1;refine⟨λg:(i:Int)<(zkn t).length=>?_,λg:¬(i:Int)<(zkn t).length=>?_⟩
 ·refine wb<|wb λx(hx:(zkn t)[i]?=some x)=>?_;have no:¬x.len<=12->¬t.le 12:=λh k=>h ((zt4 t 12).1 k x (Xf hx))
  intro hl2;refine⟨λb:(12:Int)<x.num.mag.length=>?_,λb:¬(12:Int)<x.num.mag.length=>?_⟩
  ·exact zc (no (by unfold BR.len;omega))
  refine wb<|wb λx' hx'=>?_;have ex:x'=x:=Xl ((show(zkn t)[i]?=some x' from hx').symm.trans hx);rw[ex];intro hl3;refine⟨λc:(12:Int)<x.den.mag.length=>?_,λc:¬(12:Int)<x.den.mag.length=>?_⟩
  ·exact zc (no (by unfold BR.len;omega))
  exact wa<|⟨i+1,⟨oM,zah hx h2 (by unfold BR.len;omega)⟩,zi [0],oN⟩
 rw[Xk oM]at h2;exact zI ((zt4 t 12).2 h2)
instance (lo hi p:Pt):Decidable (inB lo hi p):=wi
def q_one:((1:Int):Rat)=1:=rfl
def q_zero:((0:Int):Rat)=0:=rfl
def zmr{t:AF}{p:Pt}(h:(kU t p).2=0):(kU t p).1=goP t p:=by
 unfold kU at h ⊢
 by_cases h1:t.ok
 ·rw[kD h1]at h ⊢
  by_cases h2:zm p
  ·rw[kD h2]at h ⊢
   by_cases h3:zm (goP t p)
   ·rw[Xe h3]
   rw[Xb h3]at h;exact absurd h dC
  rw[Xe h2]at h;exact absurd h dC
 rw[Xe h1]at h;exact absurd h dC
def zha{t:AF}:∀{l:LR},zdn t l=0->∀p∈l,(kU t p).2=0
 |p::r,h,q,hq=>by
  unfold zdn at h
  by_cases k:(kU t p).2=0
  ·rw[qV k]at h
   cases hq with
   |head=>exact k
   |tail _ hq=>exact zha h q hq
  rw[Xe k]at h;exact absurd h k
def zhb{t:AF}:∀{l:LN},zee t l=0->∀r∈l,zdn t r=0
 |p::r,h,q,hq=>by
  unfold zee at h
  by_cases k:zdn t p=0
  ·rw[qV k]at h
   cases hq with
   |head=>exact k
   |tail _ hq=>exact zhb h q hq
  rw[Xe k]at h;exact absurd h k
def zsm{t:AF}(h:(vV rs t).2=0):(vV rs t).1=rs.map (List.map (goP t)):=by
 unfold vV at h ⊢
 by_cases k:kE rs
 ·rw[kD k]at h ⊢
  by_cases e:zee t rs=0
  ·rw[qV e];refine Kg λr hr=>Kg λp hp=>?_
   exact zmr (zha (zhb e r hr) p hp)
  rw[Xe e]at h;exact absurd h e
 rw[Xe k]at h;exact absurd h dC
def zCn{σ:St}(k0:Nat){T:TypeId}{α:Type}{enc:α->LQ}{sz:Nat}{xs:List α}(h0:zH σ.M k0=some (.arr T enc sz xs)):Sub σ ⟨σ.L,kO σ.M k0 (.garr T sz (xs.map enc)),σ.nk,σ.nt,σ.n0⟩:=by
 refine znb k0 h0 λS Pm ρ w ⟨v,cells,g1,g2,g3,g4,g5,g6⟩=>⟨v,cells,g1,by rw[Xz];exact g2,by rw[Xz];exact g3,g4,λy hy=>?_,λi j y s hy hs=>?_⟩
 ·obtain⟨x,hx,rfl⟩:=XL.1 hy;exact g5 x hx
 rw[XA]at hy
 cases hx:xs[i]? with
 |none=>rw[hx]at hy;cases hy
 |some x=>
  rw[hx]at hy
  cases hy
  obtain⟨u,h1,h2⟩:=g6 i j x s hx hs;exact⟨u,h1,.d _ _ h2⟩
def LEs.d:∀{us bs:LQ},LEs us bs->jw.flats bs=true->qm us bs
 |[],[],_,_=>.nil
 |_::_,b::bs,.cons h t,hf=>by
  have hb:jw b=true/\jw.flats bs=true:=by
   have hf:(match jw b with|true=>jw.flats bs|false=>false)=true:=hf
   cases hb:jw b with
   |true=>rw[hb]at hf;exact⟨rfl,hf⟩
   |false=>rw[hb]at hf;cases hf
  exact .cons (λS w v hd=>y9 hb.1 (h S (λ_=>False) (λ_=>none) w v (.d _ _ hd))) (LEs.d t hb.2)
def pc1:LQ:=i64 1::u8 0::u8 0::u8 0::u8 0::i64 0::i64 0::i64 0::i64 0::i64 0::nil1::i64 0::i64 0::i64 0::nil1::i64 0::uM
def uE(_:Unit):LQ:=pc1
def zzF:LQ:=[i64 0,i64 0,i64 0,i64 0,nS,i64 0,nS,i64 0,i64 0,nS,i64 0]
def zCo:LEs zzF (yK ⟨0,0,0,0,[],0⟩++(.sl qb []::(zj4 ⟨0,0,[]⟩++[i64 0]))):=
 .C (.C (.C (.C (.cons zw (.C (.cons zw (.C (.C (.cons zw (.C .nil))))))))))
def zzG:LEs pc1 (qb (yW 1)):=
 .C (.C (.C (.C (.C (.C (.C (.C (.C (.C (.cons zw (.C (.C (.C (.cons zw (.C zj7)))))))))))))))
def ltP(p:Pnt):Prop:=p.t.le 12/\p.st.length<=30/\p.im.px.length<=300
instance (p:Pnt):Decidable (ltP p):=wi
def ltN(n:Nd):Prop:=(n.path.length<=24/\n.clip.length<=24/\n.pen.d.length<=20/\n.im.px.length<=300/\n.t.le 12/\n.fill.length<=3/\n.strk.length<=3)/\∀p∈n.fill++n.strk,ltP p
instance (n:Nd):Decidable (ltN n):=wi
def ltS(s:Sc):Prop:=¬(8<s.ns.length/\s.ns.length<=64)/\∀n∈s.ns.take 65,ltN n
instance (s:Sc):Decidable (ltS s):=wi
def zgi{s:Sc}(h:ltS s):yi s:=λhl n hn=>by
 have hn:ltN n:=h.2 n (by rw[Xk oM];exact hn);obtain⟨⟨h1,h2,h3,h4,h5,h6,h7⟩,h8⟩:=hn
 have hp:∀p∈n.fill++n.strk,p.t.le 1000/\p.im.px.length<=9223372036854775807:=λp hp=>by
  obtain⟨g1,_,g3⟩:=h8 p hp;exact⟨g1.up dC,oM⟩
 exact⟨h5.up dC,⟨h5.up dC,λp q=>hp p (KM _ q),λp q=>hp p (KF _ q),oM⟩,oM,oM⟩
def zqo(s:Sc):CX 10 [wr s] (pr (ltS s)):=by
 refine zd func10 λhl0=>?_;refine⟨λg1=>?_,λg1=>?_⟩
 all_goals first
  |(intro hl1;refine⟨λg2=>zc λk=>k.1 ⟨oM,oM⟩,λg2=>?_⟩;have h0:¬(8<s.ns.length/\s.ns.length<=64):=λk=>g2 (by have:=k.2;omega))
  |have h0:¬(8<s.ns.length/\s.ns.length<=64):=λk=>g1 (by have:=k.1;omega)
 all_goals
  refine⟨Nat,λi=>⟨[(3,i64 i),(1,.loc 0 0)],[(0,.box 26 (scE s))],1,114,0⟩,λi=>i<=(s.ns.take 65).length/\∀n∈(s.ns.take 65).take i,ltN n,λi=>(s.ns.take 65).length-i,0,⟨Xg _,λn hn=>by cases hn⟩,zi [0],?_⟩
  have htl:(s.ns.take 65).length=min 65 s.ns.length:=Xv
  rintro i ⟨h1,h2⟩
  have fin:¬((i:Int)<s.ns.length/\(i:Int)<=64)->LE (bl true) (pr (ltS s)):=λh=>zI ⟨h0,λn hn=>h2 n (by rw[Xk oM];exact hn)⟩
  intro hl2;refine⟨λg=>?_,λg=>fin λk=>g k.1⟩;have g:(i:Int)<s.ns.length:=g;refine⟨λg'=>?_,λg'=>fin λk=>g' k.2⟩;have g':(i:Int)<=64:=g';refine wb λx(hx:s.ns[i]?=some x)=>?_;have hx2:(s.ns.take 65)[i]?=some x:=by rw[XK,Xe oM];exact hx
  have bad:¬ltN x->LE (bl false) (pr (ltS s)):=λh=>zc λk=>h (k.2 x (Xf hx2))
  intro a0;refine⟨λk=>bad λq=>by have:=q.1.1;omega,λb1=>?_⟩;intro a1;refine⟨λk=>bad λq=>by have:=q.1.2.1;omega,λb2=>?_⟩;intro a2;refine⟨λk=>bad λq=>by have:=q.1.2.2.1;omega,λb3=>?_⟩;intro a3;refine⟨λk=>bad λq=>by have:=q.1.2.2.2.1;omega,λb4=>?_⟩;refine wg (zt5 x.t)<|⟨λk=>bad λq=>k q.1.2.2.2.2.1,λb5=>?_⟩;intro a5;refine⟨λk=>bad λq=>by have:=q.1.2.2.2.2.2.1;omega,λb6=>?_⟩;intro a6
  refine⟨λk=>bad λq=>by have:=q.1.2.2.2.2.2.2;omega,λb7=>?_⟩
  have ok1:x.path.length<=24/\x.clip.length<=24/\x.pen.d.length<=20/\x.im.px.length<=300/\x.t.le 12/\x.fill.length<=3/\x.strk.length<=3:=
   ⟨oM,oM,oM,oM,Xc.1 b5,oM,oM⟩
  refine wd<|⟨Pnt,qb,[],rfl,wb2 ?_⟩;refine⟨x.fill,rfl,Ob.mk ⟨by show(((0:Nat):Int)+(x.fill.length:Int))*_<=_;dsimp only;omega,by show 0+x.fill.length<=_;omega,dC,λ_ _=>rfl⟩ ?_⟩;refine⟨x.strk,rfl,Ob.mk ⟨by show((([]++x.fill:LX).length:Int)+(x.strk.length:Int))*_<=_;rw[QC];dsimp only;omega,by rw[QC];omega,dC,λ_ _=>rfl⟩ ?_⟩;refine wh ?_;rw[QC];generalize hP:x.fill++x.strk=P;have hPl:P.length<=6:=by rw[←hP,Xp];omega
  refine⟨Nat,λj=>⟨[(6,i64 j),(5,.own 2),(4,.loc 1 0),(3,i64 i),(1,.loc 0 0)],[(2,.arr 60 qb 40 P),(1,.box 65 (ndE x)),(0,.box 26 (scE s))],3,114,0⟩,λj=>j<=P.length/\∀p∈P.take j,ltP p,λj=>P.length-j,0,⟨Xg _,λp hp=>by cases hp⟩,zi [0,1,4],?_⟩
  rintro j ⟨j1,j2⟩
  intro c0;refine⟨λq:(j:Int)<P.length=>?_,λq:¬(j:Int)<P.length=>?_⟩
  ·refine wb<|wb λp(hp:P[j]?=some p)=>?_;have hm:p∈x.fill++x.strk:=by rw[hP];exact Xf hp
   have badp:¬ltP p->LE (bl false) (pr (ltS s)):=λh=>bad λk=>h (k.2 p hm)
   refine wg (zt5 p.t)<|⟨λk=>badp λw=>k w.1,λd1=>?_⟩;refine wb<|wb λp2 hp2=>?_;have e2:p2=p:=Xl ((show P[j]?=some p2 from hp2).symm.trans hp);rw[e2];intro c1;refine⟨λk=>badp λw=>by have:=w.2.1;omega,λd2=>?_⟩;refine wb<|wb λp3 hp3=>?_;have e3:p3=p:=Xl ((show P[j]?=some p3 from hp3).symm.trans hp);rw[e3];intro c2;refine⟨λk=>badp λw=>by have:=w.2.2;omega,λd3=>?_⟩;refine wa ?_
   have okp:ltP p:=⟨Xc.1 d1,oM,oM⟩;refine⟨j+1,⟨oM,λw hw=>?_⟩,zi [0,1,2],oN⟩;rw[Xm,hp]at hw
   rcases Xr.1 hw with hw|hw
   ·exact j2 w hw
   rw[show w=p by simpa using hw];exact okp
  rw[Xk oM]at j2;refine wa<|⟨i+1,⟨oM,λw hw=>?_⟩,zi [0],oN⟩;rw[Xm,hx2]at hw
  rcases Xr.1 hw with hw|hw
  ·exact h2 w hw
  rw[show w=x by simpa using hw];exact⟨ok1,by rw[hP];exact j2⟩
def cl_S(q:LW)(hq:q.length<=1000):CX 110 [.sl sgE q] (.sl sgE q):=by
 refine zd func110 ?_
 by_cases h0:q=[]
 rotate_left;refine zcz.some (λh=>h0 (Xo h)) ?_;rotate_left;refine zcz.any (Br.mk (by subst h0;exact zw) ?_)
 all_goals
  refine⟨Sg,sgE,[],rfl,wb2 ?_⟩;exact⟨q,rfl,Ob.mk ⟨(by show _*(56:Int)<=_;simp only[Xt];omega),(by simp only[Xt];omega),dC,λ_ _=>rfl⟩ .refl⟩
def cl_I(q:LU)(hq:q.length<=1000):CX 112 [.sl zN q] (.sl zN q):=by
 refine zd func112 ?_
 by_cases h0:q=[]
 rotate_left;refine zcz.some (λh=>h0 (Xo h)) ?_;rotate_left;refine zcz.any (Br.mk (by subst h0;exact zw) ?_)
 all_goals
  refine⟨Int,zN,[],rfl,wb2 ?_⟩;exact⟨q,rfl,Ob.mk ⟨(by show _*(8:Int)<=_;simp only[Xt];omega),(by simp only[Xt];omega),dC,λ_ _=>rfl⟩ .refl⟩
def cl_X(q:List Pix)(hq:q.length<=1000):CX 113 [.sl zbD q] (.sl zbD q):=by
 refine zd func113 ?_
 by_cases h0:q=[]
 rotate_left;refine zcz.some (λh=>h0 (Xo h)) ?_;rotate_left;refine zcz.any (Br.mk (by subst h0;exact zw) ?_)
 all_goals
  refine⟨Pix,zbD,[],rfl,wb2 ?_⟩;exact⟨q,rfl,Ob.mk ⟨(by show _*(4:Int)<=_;simp only[Xt];omega),(by simp only[Xt];omega),dC,λ_ _=>rfl⟩ .refl⟩
def cl_T(q:List ze6)(hq:q.length<=1000):CX 156 [.sl zaK q] (.sl zaK q):=by
 refine zd func156 ?_
 by_cases h0:q=[]
 rotate_left;refine zcz.some (λh=>h0 (Xo h)) ?_;rotate_left;refine zcz.any (Br.mk (by subst h0;exact zw) ?_)
 all_goals
  refine⟨ze6,zaK,[],rfl,wb2 ?_⟩;exact⟨q,rfl,Ob.mk ⟨(by show _*(16:Int)<=_;simp only[Xt];omega),(by simp only[Xt];omega),dC,λ_ _=>rfl⟩ .refl⟩
def cl_P(q:LX)(hq:q.length<=1000):CG0 155 [.sl qb q] [] (.own 0) [(0,.arr 60 qb 40 q)]:=by
 refine qu tok mix func155 rfl rfl rfl ?_
 by_cases h0:q=[]
 rotate_left;refine zcz.some (λh=>h0 (Xo h)) ?_;rotate_left;refine zcz.any (Br.mk ⟨none,.nil rfl,h0⟩ ?_)
 all_goals
  refine⟨Pnt,qb,[],rfl,wb2 ?_⟩;exact⟨q,rfl,Ob.mk ⟨(by show _*(520:Int)<=_;simp only[Xt];omega),(by simp only[Xt];omega),dC,λ_ _=>rfl⟩ ⟨some 1,.own _ rfl,rfl,λ_ _=>rfl⟩⟩
def vS(a:BI)(h:a.mag.length<=1000000):CX 154 [wl a] (wl a):=by
 exact zd func154<|wd<|wg (znj a.mag oM)<|wh<|.refl
def zko:LM:=[[.loc 0 0],[.loc 0 4],[.loc 0 8],[.loc 0 12],[.loc 0 16],[.loc 0 20]]
def zqp:∀(i:Nat) x,zko[i]?=some x->∃x',zko[i]?=some x'/\ren.rens [(0,some 0),(1,some 1),(2,some 2)] x=some x':=λi x h=>⟨x,h,by
 have:=Xf h;simp only[zko,XD,XR,or_false]at this
 rcases this with rfl|rfl|rfl|rfl|rfl|rfl <;> rfl⟩
def zzH(t:AF)(h:t.le 1000000):CX 109 [wo t] (wo t):=by
 have big:∀q:BR,q.len<=1000000->q.num.mag.length<=1000000/\q.den.mag.length<=1000000:=λq k=>by unfold BR.len at k;omega
 obtain⟨h1,h2,h3,h4,h5,h6⟩:=h;refine zd func109<|⟨zko,rfl,Ob.mk ⟨rfl,dC,dC,dC,λx hx=>?_⟩ ?_⟩
 ·simp only[zko,XD,XR,or_false]at hx
  rcases hx with rfl|rfl|rfl|rfl|rfl|rfl <;> rfl
 intro hl;refine⟨Nat,λi=>⟨[(13,i64 i),(12,i64 6),(11,.own 2),(2,.loc 1 0),(1,.loc 0 0)],[(2,.garr 177 1 zko),(1,.box 49 uM),(0,.box 49 (afE t))],3,32,0⟩,λi=>i<=6,λi=>6-i,0,Xg _,zt [0,1,2] ⟨⟨_,rfl,rfl,zqp⟩,rfl,rfl,tV⟩,?_⟩
 rintro i hi
 have hi:i<=6:=hi;refine⟨λg=>?_,λg=>.refl⟩;have g:(i:Int)<6:=g;refine Ob.mk (show 0<=(i:Int)/\(i:Int)<6 by omega)<|Ob.mk (show 0<=(i:Int)/\(i:Int)<6 by omega) λx(hx:zko[i]?=some x)=>?_;have hc:i=0∨i=1∨i=2∨i=3∨i=4∨i=5:=oM;obtain⟨k,hk⟩:∃k,i+1=k:=⟨_,rfl⟩
 rcases hc with rfl|rfl|rfl|rfl|rfl|rfl
 all_goals
  cases hx
  refine wd ?_
  first|refine zb.to _ (vS t.a.num (big _ h1).1) rfl (zb.to _ (vS t.a.den (big _ h1).2) rfl ?_)|refine zb.to _ (vS t.b.num (big _ h2).1) rfl (zb.to _ (vS t.b.den (big _ h2).2) rfl ?_)|refine zb.to _ (vS t.c.num (big _ h3).1) rfl (zb.to _ (vS t.c.den (big _ h3).2) rfl ?_)|
   refine zb.to _ (vS t.d.num (big _ h4).1) rfl (zb.to _ (vS t.d.den (big _ h4).2) rfl ?_)|refine zb.to _ (vS t.e.num (big _ h5).1) rfl (zb.to _ (vS t.e.den (big _ h5).2) rfl ?_)|refine zb.to _ (vS t.f.num (big _ h6).1) rfl (zb.to _ (vS t.f.den (big _ h6).2) rfl ?_)
  refine wh<|Ar.fit dC<|⟨k,oM,?_,oN⟩;subst hk;exact zt [0,1,2] ⟨⟨_,rfl,rfl,zqp⟩,rfl,rfl,tV⟩
def zzI{α:Type _}{l:List α}{x:α}(h:l[i]?=some x):l.set i x=l:=by
 obtain⟨h1,h2⟩:=Xd.1 h;rw[←h2,List.set_getElem_self]
def zms(l:LX)(hl:l.length<=1000)(hp:∀p∈l,ltP p):CX 111 [.sl qb l] (.sl qb l):=by
 refine zd func111<|zb.fresh _ _ (cl_P l hl) rfl (λ_ _=>rfl) (.inl rfl) λhl0=>?_;refine⟨Nat,λi=>⟨[(10,i64 i),(9,i64 l.length),(3,.own 0)],[(0,.arr 60 qb 40 l)],1,44,0⟩,λi=>i<=l.length,λi=>l.length-i,0,Xg _,zi [0],?_⟩
 intro i hi;have hi:i<=l.length:=hi;refine⟨λg=>?_,λg=>.refl⟩;have g:(i:Int)<l.length:=g;obtain⟨p,hx⟩:∃p,l[i]?=some p:=⟨_,Xa oM⟩;obtain⟨g1,g2,g3⟩:=hp p (Xf hx);have hs:=zzI hx;have r1:0<=(i:Int)/\(i:Int)<l.length:=oM;refine Ob.mk r1 ?_;have get:∀z,l[(i:Int).toNat]?=some z->z=p:=λz hz=>Xl ((show l[i]?=some z from hz).symm.trans hx)
 refine wd<|Ob.mk r1 λz hz=>?_;rw[get z hz];refine wg (cl_T p.st oM)<|Ob.mk r1 λz hz=>?_;rw[get z hz];refine wg (cl_X p.im.px oM)<|Ob.mk r1 λz hz=>?_;rw[get z hz];refine wg (zzH p.t (g1.up dC))<|Ob.mk r1 λz hz=>?_;rw[get z hz];refine⟨p,rfl,?_⟩;rw[show l.set (i:Int).toNat p=l from hs];refine Ob.mk r1 λz hz=>?_;rw[get z hz];refine⟨p,rfl,?_⟩;rw[show l.set (i:Int).toNat p=l from hs];refine Ob.mk r1 λz hz=>?_;rw[get z hz];refine⟨p,rfl,?_⟩
 rw[show l.set (i:Int).toNat p=l from hs];exact wh<|wa<|⟨i+1,by show i+1<=l.length;omega,zi [0],oN⟩
def zCp(n:Nd)(h:ltN n):CX 72 [wv n] (wv n):=by
 obtain⟨⟨h1,h2,h3,h4,h5,h6,h7⟩,h8⟩:=h;refine zd func72<|wg (zzH n.t (h5.up dC))<|wd<|wg (cl_S n.clip oM)<|wg (cl_S n.path oM)<|wh ?_;refine wd<|wg (zms n.fill oM λp hp=>h8 p (KM _ hp))<|wg (zms n.strk oM λp hp=>h8 p (KF _ hp))<|wh<|wd<|wg (cl_I n.pen.d oM) ?_;exact wg (cl_X n.im.px oM)<|wh<|.refl
def zzJ(s:Sc)(hl:s.ns.length<=1000)(h:∀n∈s.ns,ltN n):CX 45 [wr s] (wr s):=by
 refine zd func45 λhl0=>?_;refine⟨Nat,λi=>⟨[(11,i64 i),(10,i64 s.ns.length),(9,.sl ndE s.ns),(3,.loc 2 0),(2,.loc 1 0)],[(3,zqi (s.ns.take i)),(2,.box 26 (scO s 3)),(1,.box 26 (vals [.int .i64 0,.int .i64 0,.int .u8 0,.int .u8 0,.int .u8 0,.int .u8 0,.slice none 0 0]))],4,24,0⟩,λi=>i<=s.ns.length,λi=>s.ns.length-i,0,Xg _,zA [(1,some 1),(2,some 2),(3,none)],?_⟩
 intro i hi;have hi:i<=s.ns.length:=hi;refine⟨λg:(i:Int)<s.ns.length=>?_,λg:¬(i:Int)<s.ns.length=>?_⟩
 ·refine wb λn(hx:s.ns[i]?=some n)=>?_;refine wd<|wg (zCp n (h n (Xf hx)))<|⟨Nd,ndE,[n],rfl,wb3 ?_⟩;have hlen:(s.ns.take i).length<=1000:=by rw[Xv];omega
  refine⟨[n],rfl,Ob.mk ⟨by show(((s.ns.take i).length:Int)+1)*_<=_;dsimp only;omega,by show(s.ns.take i).length+1<=_;omega,dC,λx hx=>by rw[Xu.1 hx];rfl⟩ ?_⟩;exact wh<|wa<|⟨i+1,by show i+1<=_;omega,zhw [(1,some 1),(2,some 2),(3,some 6)] ⟨Xj (λq=>some (zqi q)) (by rw[Xm,hx];rfl),rfl,rfl,tV⟩,oN⟩
 exact jg (.C (.C (.C (.C (.C (.C (.cons (kM (Xk oM)) .nil)))))))
def zzK{t:AF}(h:(vV rs t).2≠0):(vV rs t).1=[]:=by
 unfold vV at h ⊢
 by_cases h1:¬kE rs
 ·rw[Xe h1]
 rw[Xb h1]at h ⊢
 by_cases h2:zee t rs≠0
 ·rw[Xe h2]
 rw[Xb h2]at h;exact absurd rfl h
def zt6{l:LW}{t:AF}(h:(zcC l pen t tol).2≠0):(zcC l pen t tol).1=[]:=by
 unfold zcC at h ⊢
 by_cases h1:¬kV pen
 ·rw[Xe h1]
 rw[Xb h1]at h ⊢
 by_cases h2:(kv l tol).2≠0
 ·rw[Xe h2]
 rw[Xb h2]at h ⊢
 by_cases h3:(jB (kv l tol).1 pen).2≠0
 ·rw[Xe h3]
 rw[Xb h3]at h ⊢
 by_cases h4:(jz (jB (kv l tol).1 pen).1 pen).2≠0
 ·rw[Xe h4]
 rw[Xb h4]at h ⊢;exact zzK h
def zeB(r:AF×Int)(l:LW)(pen:Pen):LN:=if r.2≠0 then[] else(zcC l pen r.1 32).1
def zzL(r:AF×Int)(l:LW)(pen:Pen)(ht:r.1.le 100):CX 94 [.agg (afE r.1++[pr (r.2=0)]),.sl sgE l,ws pen] (.sl zE (zeB r l pen)):=by
 refine zd func94<|Br.mk (λh=>by rw[show zeB r l pen=[] from Xe h];exact zw) (λh=>?_);have e:zeB r l pen=(zcC l pen r.1 32).1:=Xb h;refine wg (zv4 l pen r.1 32 (ht.up dC)) ?_;rw[e];exact⟨λk=>by rw[zt6 k];exact zw,λ_=>.refl⟩
def zt7(s:Sc)(i:Int)(ht:yi s):CX 56 [wr s,i64 i] (.sl zE (zaP s i)):=by
 refine zd func56<|wg (zn1 s i ht)<|⟨λh=>by rw[zqn (.inl h)];exact zw,λh1=>?_⟩;intro hl0;refine⟨λh=>by rw[zqn (.inr oM)];exact zw,λh2=>?_⟩;refine wg (zzL (kH s i) (zG s i).path (zG s i).pen (zgh s i)) ?_;rw[show zaP s i=zeB (kH s i) (zG s i).path (zG s i).pen from Xb λk=>k.elim h1 λq=>h2 oM];exact .refl
def zhU{t:AF}:∀{q:LR},qL t q=0->∀p∈q,(kU t p).2=0
 |p::r,h,z,hz=>by
  unfold qL at h
  by_cases k:(kU t p).2=0
  ·rw[Xb (λq=>q k)]at h
   cases hz with
   |head=>exact k
   |tail _ hz=>exact zhU h z hz
  rw[Xe k]at h;exact absurd h k
def zqq{t:AF}{p:Pt}(h:(kU t p).2=0):zm (goP t p):=by
 unfold kU at h
 by_cases h1:t.ok
 ·rw[Xb (λk=>k h1)]at h
  by_cases h2:zm p
  ·rw[Xb (λk=>k h2)]at h
   by_cases h3:zm (goP t p)
   ·exact h3
   rw[Xb h3]at h;exact absurd h dC
  rw[Xe h2]at h;exact absurd h dC
 rw[Xe h1]at h;exact absurd h dC
def zsn{l:LW}{t:AF}(h:(trans t l).2=0):kX l/\(∀p∈qp l,(kU t p).2=0)/\(trans t l).1=l.map (zbw λp=>(kU t p).1):=by
 unfold trans at h ⊢
 by_cases h1:¬kX l
 ·rw[Xe h1]at h;exact absurd h dC
 rw[Xb h1]at h ⊢
 by_cases h2:qL t (qp l)≠0
 ·rw[Xe h2]at h;exact absurd h h2
 rw[Xb h2];have hv:kX l:=Xc.1 h1;refine⟨hv,zhU (Xc.1 h2),?_⟩;exact Kg λs hs=>zvU t (zfW (vf.1 hv).2 s hs)
def zkp{ds:LU}{d:Int}:∀{k j:Nat},j<k->ds[j]?=some d->(j:Int)<=jX ds d k
 |k+1,j,hj,h=>by
  unfold jX
  split
  ·omega
  rename_i hn
  by_cases e:j=k
  ·subst e;exact absurd h hn
  exact zkp oM h
def zkq{ds:LU}:∀(n k:Nat),k<n->∀a∈za6 ds k,a<=k
 |n+1,k,hn,a,ha=>by
  rw[jR]at ha
  rcases XD.1 ha with rfl|ha
  ·exact Xi _
  have hp:=zci ds k
  rcases Qa (yj ds k) 0 with c|c
  ·rw[vo c]at ha;cases ha
  obtain⟨j,hj⟩:=Qr c;rw[hj]at ha;have:=zkq n j oM a ha;omega
def zwc{w:AF×Int}{l:LW}(h:vX w l≠[]):w.2=0/\(yG l w.1 32).2=0/\vX w l=(yG l w.1 32).1:=by
 unfold vX at h ⊢
 by_cases c:w.2≠0
 ·rw[Xe c]at h;exact absurd rfl h
 rw[Xb c]at h ⊢;exact⟨Xc.1 c,Xc.1 λk=>h (zqb k),rfl⟩
def zwd{w:AF×Int}{l:LW}(h:zeB w l pen≠[]):w.2=0/\(zcC l pen w.1 32).2=0/\zeB w l pen=(zcC l pen w.1 32).1:=by
 unfold zeB at h ⊢
 by_cases c:w.2≠0
 ·rw[Xe c]at h;exact absurd rfl h
 rw[Xb c]at h ⊢;exact⟨Xc.1 c,Xc.1 λk=>h (zt6 k),rfl⟩
def zzM(s:Sc)(i:Int):zaP s i=if (zG s i).k≠2∨(zG s i).strk.length=0 then[] else zeB (kH s i) (zG s i).path (zG s i).pen:=rfl
def zwe{l:LW}{t:AF}(h:(yG l t tol).2=0):kE (yG l t tol).1:=by
 have ht:(trans t l).2=0:=by
  refine Xc.1 λk=>?_
  unfold yG at h;rw[Xe k]at h;exact k h
 obtain⟨v1,p1,e1⟩:=zsn ht
 obtain⟨f1,f2⟩:=zrN (lo:=⟨-1048576,-1048576⟩) (hi:=⟨1048576,1048576⟩) h (λp hp=>by
  rw[e1,zBk]at hp;obtain⟨z,hz,rfl⟩:=XL.1 hp;rw[zmr (p1 z hz)]
  exact zqq (p1 z hz))
 exact⟨oM,λr hr p hp=>f2 r hr p hp⟩
def zt8(f:Pt->Pt):∀rs:LN,qx (rs.map (List.map f))=qx rs
 |[]=>rfl
 |r::rs=>by
  have ih:=zt8 f rs;unfold qx at ih ⊢;simp only[K8,Q8,Xz];rw[ih]
def zwf{t:AF}(h:(vV rs t).2=0):kE (vV rs t).1:=by
 have e:=zsm h
 have hr:kE rs/\zee t rs=0:=by
  unfold vV at h
  by_cases k:kE rs
  ·rw[kD k]at h
   by_cases q:zee t rs=0
   ·exact⟨k,q⟩
   rw[Xe q]at h;exact absurd h q
  rw[Xe k]at h;exact absurd h dC
 rw[e];refine⟨by rw[zt8];exact hr.1.1,λr hr2 p hp=>?_⟩;obtain⟨r0,hr0,rfl⟩:=XL.1 hr2;obtain⟨p0,hp0,rfl⟩:=XL.1 hp;exact zqq (zha (zhb hr.2 r0 hr0) p0 hp0)
def zzN{l:LW}{t:AF}(h:(zcC l pen t tol).2=0):kE (zcC l pen t tol).1:=by
 unfold zcC at h ⊢
 by_cases a1:¬kV pen
 ·rw[Xe a1]at h;exact absurd h dC
 rw[Xb a1]at h ⊢
 by_cases a2:(kv l tol).2≠0
 ·rw[Xe a2]at h;exact absurd h a2
 rw[Xb a2]at h ⊢
 by_cases a3:(jB (kv l tol).1 pen).2≠0
 ·rw[Xe a3]at h;exact absurd h a3
 rw[Xb a3]at h ⊢
 by_cases a4:(jz (jB (kv l tol).1 pen).1 pen).2≠0
 ·rw[Xe a4]at h;exact absurd h a4
 rw[Xb a4]at h ⊢;exact zwf h
def zai:kE []:=⟨by show((0:Nat):Int)<=4096;decide,λr hr=>by cases hr⟩
def zd6(w:AF×Int)(l:LW):kE (vX w l):=by
 by_cases h:vX w l=[]
 ·rw[h];exact zai
 obtain⟨_,a2,a3⟩:=zwc h;rw[a3];exact zwe a2
def zwg(w:AF×Int)(l:LW)(pen:Pen):kE (zeB w l pen):=by
 by_cases h:zeB w l pen=[]
 ·rw[h];exact zai
 obtain⟨_,a2,a3⟩:=zwd h;rw[a3];exact zzN a2
def zcj(s:Sc)(i:Int):∀l∈ut s i,kE l:=λl hl=>by
 have h:l=vY s i∨l=zaP s i∨l=zg6 s i:=by simpa[ut] using hl
 rcases h with rfl|rfl|rfl
 ·unfold vY;split
  ·exact zai
  exact zd6 _ _
 ·rw[zzM];split
  ·exact zai
  exact zwg _ _ _
 unfold zg6;split
 ·exact zai
 exact zd6 _ _
def zE9(p q:Pt)(hp:zm p)(hq:zm q):zm (mnP p q):=by unfold zm mnP at*;dsimp only;omega
def zFa(p q:Pt)(hp:zm p)(hq:zm q):zm (mxP p q):=by unfold zm mxP at*;dsimp only;omega
def zkr(h:zds rs):zm (loR rs)/\zm (hiR rs):=by
 have hp:∀r∈rs.flatten,zm r:=λp hp=>by
  obtain⟨r,hr,hpr⟩:=Yf.1 hp;exact h.2.2 r hr p hpr
 unfold loR hiR;rw[Xe h,Xe h];exact⟨zyj zE9 hp,zyj zFa hp⟩
end Go.Gs
