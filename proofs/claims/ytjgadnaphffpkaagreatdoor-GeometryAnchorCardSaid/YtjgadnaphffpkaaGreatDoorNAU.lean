/- Outlines: strokes, both texts. -/
import Derived.Test.YtjgadnaphffpkaaGreatDoorNA
import Derived.Test.YtjgadnaphffpkaaGreatDoorNAT
import Derived.Test.YtjgadnaphffpkaaGreatDoorNAR
import Derived.Test.YtjgadnaphffpkaaGreatDoorNAQ
import Derived.Test.YtjgadnaphffpkaaGreatDoorNAL
import Derived.Test.YtjgadnaphffpkaaGreatDoorNAK
import Derived.Test.YtjgadnaphffpkaaGreatDoorNAM
set_option maxRecDepth 100000
set_option maxHeartbeats 8000000
set_option linter.all false
namespace Go.Gs
open Go.Proofs
variable{pen:Pen}
theorem zyH{p:Pl}:∀r∈kA p pen,0 < r.length:=by
 intro r hr;unfold kA at hr
 rcases Xo.1 hr with hr | hr
 ·rcases Xo.1 hr with hr | hr
  ·rw[vX]at hr
   rcases Xo.1 hr with hr | hr
   ·unfold zdW at hr;obtain⟨i,_,hr⟩:=Qy.1 hr;exact zcb hr
   ·split at hr
    ·exact zcb hr
    ·cases hr
  ·rw[zcc]at hr
   split at hr
   ·cases hr
   ·unfold yk at hr;obtain⟨i,_,hr⟩:=Qy.1 hr;unfold ze3 at hr
    split at hr
    ·cases hr
    ·exact zn3 r hr
 ·unfold zdQ at hr
  split at hr
  ·exact zcb hr
  ·split at hr
   ·rcases Xo.1 hr with hr | hr <;> exact zcb hr
   ·cases hr
theorem zsl{p:Pl}:∀r∈(kF p pen).1,0 < r.length:=by
 unfold kF
 split
 ·intro r hr;cases hr
 split
 ·intro r hr;cases hr
 split
 ·intro r hr;cases hr
 split
 ·intro r hr;cases hr
 split
 ·intro r hr;cases hr
 ·exact zyH
theorem zij{pen:Pen}:∀{l:List Pl},∀r∈(qu l pen).1,0 < r.length
 | [],r,hr=>by cases hr
 | p::s,r,hr=>by
  unfold qu at hr
  split at hr
  ·cases hr
  split at hr
  ·cases hr
  rcases Xo.1 hr with hr | hr
  ·exact zsl r hr
  ·exact zij r hr
theorem zyI:∀{rs:List (List Pt)},(∀r∈rs,0 < r.length)->rs.length<=qi rs
 | [],_=>Xe _
 | r::s,h=>by
  have h1:=h r (.head _);have h2:=zyI λq hq=>h q (.tail _ hq)
  rw[zgA,Xl];omega
theorem zbl(l:List Pl)(pen:Pen):(qw l pen).1.length<=4096/\∀r∈(qw l pen).1,(r.length:Int)<=9223372036854771711:=by
 unfold qw
 split
 ·exact⟨Xe _,λr hr=>by cases hr⟩
 split
 ·exact⟨Xe _,λr hr=>by cases hr⟩
 split
 ·exact⟨Xe _,λr hr=>by cases hr⟩
 ·rename_i h;have hg:=zyI (zij (l:=l) (pen:=pen));exact⟨by dsimp only;omega,λr hr=>by have hr:r∈(qu l pen).1:=hr;have:=zcf hr;omega⟩
theorem zd7{pen:Pen}:∀{l:List Pl},(∀p∈l,p.pts.length<=4096)->(jD l pen).1.length<=4096*l.length/\∀q∈(jD l pen).1,q.pts.length<=4096
 | [],_=>⟨Xh 0,λq hq=>by cases hq⟩
 | p::r,hl=>by
  obtain⟨i1,i2⟩:=zd7 (pen:=pen) (l:=r) λq hq=>hl q (.tail _ hq)
  obtain⟨f1,f2⟩:=zbE (pen:=pen) (hl p (.head _));unfold jD
  split
  ·exact⟨Xe _,λq hq=>by cases hq⟩
  split
  ·exact⟨Xe _,λq hq=>by cases hq⟩
  ·rw[Xj,Xl];refine⟨oM,λq hq=>?_⟩
   rcases Xo.1 hq with hq | hq
   ·exact f2 q hq
   ·exact i2 q hq
def vZ(l:List Sg)(pen:Pen)(t:AF)(tol:Int):List (List Pt)×Int:=
 if ¬kI pen then([],13) else if (zV l tol).2≠0 then([],(zV l tol).2) else if (jD (zV l tol).1 pen).2≠0 then([],(jD (zV l tol).1 pen).2)
 else if (qw (jD (zV l tol).1 pen).1 pen).2≠0 then([],(qw (jD (zV l tol).1 pen).1 pen).2) else yl (qw (jD (zV l tol).1 pen).1 pen).1 t
theorem zvD(l:List Sg)(pen:Pen)(t:AF)(tol:Int)(ht:t.le 100000):CG0 60 [.sl sgE l,.agg (jo pen),.agg (afE t),i64 tol] [] (rgE (vZ l pen t tol)) []:=by
 refine zc Tryz.func60 ?_;have de:=zsd pen;refine zb.t (zAq pen)<|⟨λe=>?_,λe=>?_⟩
 ·have e:¬(jB ⟨[],false⟩ pen).2=0:=e;have k:¬kI pen:=λk=>e (by rw[de,if_pos k])
  refine qP ?_;rw[de,if_neg k];unfold vZ;rw[if_pos k]
 have e:(jB ⟨[],false⟩ pen).2=0:=Xa.1 e
 have hk:kI pen:=by
  refine Xa.1 λk=>?_
  rw[de,if_neg k]at e;exact absurd e dC
 have fs:=zam l tol;have cf:=zd7 (pen:=pen) fs.2;refine zb.t (zx2 l tol)<|⟨λe1=>?_,λe1=>?_⟩
 ·have e1:¬(zV l tol).2=0:=e1;exact qP (by unfold vZ;rw[kQ hk,if_pos e1])
 have e1:(zV l tol).2=0:=Xa.1 e1;refine zb.t (zCO (zV l tol).1 pen fs.1 fs.2)<|⟨λe2=>?_,λe2=>?_⟩
 ·have e2:¬(jD (zV l tol).1 pen).2=0:=e2;exact qP (by unfold vZ;rw[kQ hk,qR e1,if_pos e2])
 have e2:(jD (zV l tol).1 pen).2=0:=Xa.1 e2;refine zb.t (zvg (jD (zV l tol).1 pen).1 pen oM cf.2) ?_;have sm:=zbl (jD (zV l tol).1 pen).1 pen;refine⟨λe3=>?_,λe3=>?_⟩
 ·have e3:¬(qw (jD (zV l tol).1 pen).1 pen).2=0:=e3;exact qP (by unfold vZ;rw[kQ hk,qR e1,qR e2,if_pos e3])
 have e3:(qw (jD (zV l tol).1 pen).1 pen).2=0:=Xa.1 e3;refine zb.t (zC0 (qw (jD (zV l tol).1 pen).1 pen).1 t ht oM sm.2) ?_;have ee:vZ l pen t tol=yl (qw (jD (zV l tol).1 pen).1 pen).1 t:=by unfold vZ;rw[kQ hk,qR e1,qR e2,qR e3]
 rw[ee];exact .refl
theorem zvE(l:List Sg)(pen:Pen)(t:AF)(tol:Int)(ht:t.le 100000):CG0 30 [.sl sgE l,.agg (jo pen),.agg (afE t),i64 tol] [] (rgE (vZ l pen t tol)) []:=by
 refine zc Tryz.func30 ?_;refine zb.t (zcJ pen)<|⟨λk=>?_,λk=>?_⟩
 ·have k:¬kI pen:=k;exact qP (by unfold vZ;rw[if_pos k])
 have hk:kI pen:=Xa.1 k;have fs:=zam l tol;have cf:=zd7 (pen:=pen) fs.2;refine zb.t (zx3 l tol)<|⟨λe1=>?_,λe1=>?_⟩
 ·have e1:¬(zV l tol).2=0:=e1;exact qP (by unfold vZ;rw[kQ hk,if_pos e1])
 have e1:(zV l tol).2=0:=Xa.1 e1;refine⟨Nat,λi=>⟨[(5,.loc 0 0),(6,.loc 1 0),(10,.sl plE (zV l tol).1),(12,.own 2),(13,i64 (i:Int))],[(0,.box 50 (jo pen)),(1,.box 45 (afE t)),(2,.arr 118 plE 2 (zcU ((zV l tol).1.take i) pen))],3,65,0⟩,λi=>i<=(zV l tol).1.length/\∀q∈(zV l tol).1.take i,(jB q pen).2=0,λi=>(zV l tol).1.length - i,0,⟨Xe _,λq hq=>by cases hq⟩,?_,?_⟩
 ·exact zE [(0,some 0),(1,some 1),(2,none)]
 rintro i ⟨h1,h2⟩
 obtain⟨f1,_⟩:=zfE (pen:=pen) (l:=(zV l tol).1.take i) λq hq=>fs.2 q (XE hq)
 rw[Xk]at f1;intro hl1;refine⟨λg=>?_,λg=>?_⟩
 ·have g:(i:Int) < (zV l tol).1.length:=g;refine Dr.d<|Ob.o ?_;intro x hx;have hx:(zV l tol).1[i]? =some x:=hx;have hpx:=fs.2 x (Xd hx);refine zb.t (zCN x pen hpx)<|Ob.mk (by kernel_rfl)<|⟨λz=>?_,λz=>?_⟩
  ·have z:¬(jB x pen).2=0:=z;have ce:=zhI hx h2 z;exact qP (by unfold vZ;rw[kQ hk,qR e1,ce];exact if_pos z)
  have z:(jB x pen).2=0:=Xa.1 z;obtain⟨s1,s2⟩:=zbE (pen:=pen) hpx;refine⟨(jB x pen).1,rfl,Ob.o26 ?_⟩;exact Ar.o<|⟨i+1,⟨oM,zgB hx h2 z⟩,zC [0,1,3] ⟨rfl,rfl,congrArg (λq=>some (Mem.arr 118 plE 2 q)) (zmD hx).symm,trivial⟩,by dsimp only;omega⟩
 have g:¬(i:Int) < (zV l tol).1.length:=g;have et:(zV l tol).1.take i=(zV l tol).1:=Xf oM;rw[et]at h2;have co:=zkG h2;have c1:(jD (zV l tol).1 pen).1=zcU ((zV l tol).1.take i) pen:=by rw[co,et]
 have c2:(jD (zV l tol).1 pen).2=0:=by rw[co]
 have ee:vZ l pen t tol=if (qw (zcU ((zV l tol).1.take i) pen) pen).2≠0 then([],(qw (zcU ((zV l tol).1.take i) pen) pen).2) else yl (qw (zcU ((zV l tol).1.take i) pen) pen).1 t:=by
  unfold vZ;rw[kQ hk,qR e1,qR c2,c1]
 rw[c1]at cf;refine zb.see 2 _ (zvh (zcU ((zV l tol).1.take i) pen) pen oM cf.2) rfl rfl rfl ?_;have sm:=zbl (zcU ((zV l tol).1.take i) pen) pen;refine⟨λe3=>?_,λe3=>?_⟩
 ·have e3:¬(qw (zcU ((zV l tol).1.take i) pen) pen).2=0:=e3;exact qP (by rw[ee,if_pos e3])
 have e3:(qw (zcU ((zV l tol).1.take i) pen) pen).2=0:=Xa.1 e3;rw[qR e3]at ee;refine zb.t (zCQ (qw (zcU ((zV l tol).1.take i) pen) pen).1 t ht oM) ?_;rw[ee];exact .refl
def uL(l:List Nd)(i:Nat):Int:=match l[i]? with
 | some n=>zgT l i n
 | none=>0
variable{l:List Nd}{i:Nat}
theorem zcX{n:Nd}(h:l[i]? =some n):uL l i=zgT l i n:=by unfold uL;rw[h]
def zoj(l:List Nd):Option Nat:=(List.range l.length).find? λi=>decide (uL l i≠0)
theorem zAE(hi:i < l.length)(h:∀j,j < i->uL l j=0)(hb:uL l i≠0):zoj l=some i:=by
 unfold zoj;rw[JY];exact⟨by simpa using hb,Kj.2 hi,λj hj=>by simpa using h j hj⟩
theorem zvF(h:∀j,j < l.length->uL l j=0):zoj l=none:=by
 unfold zoj;rw[JX];exact λj hj=>by simpa using h j hj
theorem zvG(h:zoj l=some i):i < l.length/\uL l i≠0:=by
 unfold zoj at h;rw[JY]at h;exact⟨Kj.1 h.2.1,by simpa using h.1⟩
def ze6(s:Sc):Prop:=s.w < 1∨256 < s.w∨s.h < 1∨256 < s.h
instance (s:Sc):Decidable (ze6 s):=inferInstanceAs (Decidable (_∨_))
def ziv(s:Sc):Int×Int:=if ze6 s then(6,0) else if 64 < s.ns.length then(5,64) else match zoj s.ns with
 | some i=>(uL s.ns i,i)
 | none=>(0,0)
def yp(s:Sc):Prop:=(ziv s).1=0
instance (s:Sc):Decidable (yp s):=inferInstanceAs (Decidable (_=_))
theorem zkW{s:Sc}:yp s↔¬ze6 s/\s.ns.length<=64/\∀j,j < s.ns.length->uL s.ns j=0:=by
 unfold yp ziv
 by_cases h1:ze6 s
 ·rw[if_pos h1];exact⟨λh=>absurd h dC,λh=>absurd h1 h.1⟩
 rw[if_neg h1]
 by_cases h2:64 < s.ns.length
 ·rw[if_pos h2];exact⟨λh=>absurd h dC,λh=>absurd h.2.1 oM⟩
 rw[if_neg h2]
 cases hb:zoj s.ns with
 | some i=>
  obtain⟨h3,h4⟩:=zvG hb;exact⟨λh=>absurd h h4,λh=>absurd (h.2.2 i h3) h4⟩
 | none=>
  refine⟨λ_=>⟨h1,oM,λj hj=>?_⟩,λ_=>rfl⟩;unfold zoj at hb;rw[JX]at hb
  simpa using hb j hj
theorem zmM{n:Nd}(h:zgT l i n=0):ua n=0/\n.id∉(l.take i).map Nd.id/\jK l i n:=by
 unfold zgT at h
 by_cases h1:ua n≠0
 ·rw[if_pos h1]at h;exact absurd h h1
 rw[if_neg h1]at h
 by_cases h2:n.id∈(l.take i).map Nd.id
 ·rw[if_pos h2]at h;exact absurd h dC
 rw[if_neg h2]at h
 by_cases h3:jK l i n
 ·exact⟨Xa.1 h1,h2,h3⟩
 ·rw[if_pos h3]at h;exact absurd h dC
theorem zd8{n:Nd}(h:ua n=0):(1<=n.k/\n.k<=3)/\(0<=n.d/\n.d < 8)/\n.t.ok/\yz n.t≠0/\qU n.clip/\zgS n:=by
 unfold ua at h
 by_cases h1:n.k < 1∨3 < n.k
 ·rw[if_pos h1]at h;exact absurd h dC
 rw[if_neg h1]at h
 by_cases h2:n.id < 1∨1073741824 < n.id∨n.d < 0∨8<=n.d
 ·rw[if_pos h2]at h;exact absurd h dC
 rw[if_neg h2]at h
 by_cases h3:¬n.t.ok
 ·rw[if_pos h3]at h;exact absurd h dC
 rw[if_neg h3]at h
 by_cases h4:yz n.t=0
 ·rw[if_pos h4]at h;exact absurd h dC
 rw[if_neg h4]at h
 by_cases h5:¬qU n.clip
 ·rw[if_pos h5]at h;exact absurd h dC
 rw[if_neg h5]at h
 by_cases h6:¬zgS n
 ·rw[if_pos h6]at h;exact absurd h dC
 exact⟨oM,oM,Xa.1 h3,h4,Xa.1 h5,Xa.1 h6⟩
theorem zcY{s:Sc}(h:yp s){n:Nd}(hn:s.ns[i]? =some n):ua n=0/\n.id∉(s.ns.take i).map Nd.id/\jK s.ns i n:=by
 have:=(zkW.1 h).2.2 i (Xc.1 hn).1;rw[zcX hn]at this;exact zmM this
def kq(l:List Nd):List Int:=l.map Nd.d
theorem v6{n:Nd}(h:l[i]? =some n):(kq l)[i]? =some n.d:=by unfold kq;rw[XC,h];rfl
theorem v7{d:Int}(h:(kq l)[i]? =some d):∃n,l[i]? =some n/\n.d=d:=by
 unfold kq at h;rw[XC]at h
 cases hn:l[i]? with
 | none=>rw[hn]at h;cases h
 | some n=>rw[hn]at h;exact⟨n,rfl,Xi h⟩
theorem zd9{s:Sc}(h:yp s):zkP (kq s.ns):=by
 refine⟨λd hd=>?_,λd hd=>?_,λi a b ha hb=>?_⟩
 ·obtain⟨n,hn,rfl⟩:=v7 hd;have:=(zcY h hn).2.2;unfold jK at this;rw[show s.ns[0 - 1]? =some n from hn]at this;exact this
 ·obtain⟨i,hi,he⟩:=Ka hd;obtain⟨n,hn,rfl⟩:=v7 (he ▸ Xb hi);exact(zd8 (zcY h hn).1).2.1.1
 ·obtain⟨n,hn,rfl⟩:=v7 ha;obtain⟨m,hm,rfl⟩:=v7 hb;have:=(zcY h hm).2.2;unfold jK at this;rw[show s.ns[i+1 - 1]? =some n from hn]at this;have this:(n.k=1/\m.d=n.d+1)∨m.d<=n.d:=this;omega
theorem ziT(ds:List Int)(i:Nat): -1<=vp ds i/\vp ds i < i:=⟨(zgU ds _ i).1,(zgU ds _ i).2.1⟩
theorem zik(ds:List Int):∀(n m:Nat) (i:Int),i < n->i < m->zfI ds n i=zfI ds m i
 | 0,0,_,_,_=>rfl
 | 0,m+1,i,h,_=>by show[]=if i < 0 then[] else _;rw[if_pos oM]
 | n+1,0,i,_,h=>by show(if i < 0 then[] else _)=[];rw[if_pos oM]
 | n+1,m+1,i,h1,h2=>by
  show(if i < 0 then[] else i.toNat::zfI ds n (vp ds i.toNat))=if i < 0 then[] else i.toNat::zfI ds m (vp ds i.toNat)
  by_cases c:i < 0
  ·rw[if_pos c,if_pos c]
  ·have:=ziT ds i.toNat;rw[if_neg c,if_neg c,zik ds n m _ oM oM]
def jc(ds:List Int)(i:Int):List Nat:=zfI ds (i+1).toNat i
theorem zeI{ds:List Int}{i:Int}(h:i < 0):jc ds i=[]:=by
 unfold jc;rw[show(i+1).toNat=0 by omega];rfl
theorem yJ(ds:List Int)(i:Nat):jc ds i=i::jc ds (vp ds i):=by
 have h:=ziT ds i;unfold jc;rw[show((i:Int)+1).toNat=i+1 by omega];show(if (i:Int) < 0 then[] else(i:Int).toNat::zfI ds i (vp ds (i:Int).toNat))=_;rw[if_neg oM,show(i:Int).toNat=i from rfl,zik ds i (vp ds i+1).toNat _ oM oM]
theorem zkX{ds:List Int}:∀{k i a j:Nat},(jc ds i)[k]? =some a->vp ds a=j->(jc ds i)[k+1]? =some j
 | 0,i,a,j,h,hj=>by
  rw[yJ]at h ⊢
  cases h
  show(jc ds (vp ds i))[0]? =some j;rw[hj,yJ];rfl
 | k+1,i,a,j,h,hj=>by
  rw[yJ]at h ⊢;have h:(jc ds (vp ds i))[k]? =some a:=h;show(jc ds (vp ds i))[k+1]? =some j
  rcases Jg (vp ds i) 0 with c | c
  ·rw[zeI c]at h;cases h
  ·obtain⟨q,hq⟩:=Q8 c;rw[hq]at h ⊢;exact zkX h hj
theorem zhL{ds:List Int}(hs:zkP ds):∀{k i a:Nat} {d:Int},ds[i]? =some d->(jc ds i)[k]? =some a->ds[a]? =some (d - k)
 | 0,i,a,d,hd,h=>by
  rw[yJ]at h
  cases h
  rw[hd];congr 1;omega
 | k+1,i,a,d,hd,h=>by
  rw[yJ]at h;have h:(jc ds (vp ds i))[k]? =some a:=h;have hp:=zgV hs hd;have h0:=hs.2.1 d (Xd hd)
  by_cases c:d=0
  ·rw[hp.1 c,zeI dC]at h;cases h
  ·obtain⟨j,hj,_,hjd⟩:=hp.2 oM;rw[hj]at h;have:=zhL hs hjd h;rw[this];congr 1;omega
theorem zhM{ds:List Int}(hs:zkP ds):∀{d i:Nat},ds[i]? =some (d:Int)->(jc ds i).length=d+1
 | 0,i,hd=>by
  rw[yJ,(zgV hs hd).1 rfl,zeI dC];rfl
 | d+1,i,hd=>by
  obtain⟨j,hj,_,hjd⟩:=(zgV hs hd).2 oM;rw[yJ,hj,Xl,zhM (d:=d) hs (by rw[hjd];congr 1;omega)]
def tAt(l:List Nd)(k:Nat):AF:=match l[k]? with
 | some n=>n.t
 | none=>idA
theorem zqH{k:Nat}{n:Nd}(h:l[k]? =some n):tAt l k=n.t:=by unfold tAt;rw[h]
def trs(l:List Nd)(i:Int):List AF:=(jc (kq l) i).map (tAt l)
theorem zqI{n:Nd}(h:l[i]? =some n):trs l i=n.t::trs l (vp (kq l) i):=by
 unfold trs;rw[yJ,Q1,zqH h]
theorem ztU{i:Int}(h:i < 0):trs l i=[]:=by unfold trs;rw[zeI h];rfl
def inS(s:Sc)(i:Int):Prop:=yp s/\0<=i/\i < s.ns.length
instance (s:Sc) (i:Int):Decidable (inS s i):=inferInstanceAs (Decidable (_/\_))
def zQ(s:Sc)(i:Int):AF×Int:=if ¬yp s then(qr,18) else if i < 0∨s.ns.length<=i then(qr,8) else vC (trs s.ns i)
def zNd:Nd:=⟨0,0,0,qr,[],0,0,0,false,false,[],0,[],⟨0,0,0,0,[],0⟩,[],⟨0,0,[]⟩,0⟩
def ki(s:Sc)(i:Int):Nd:=if inS s i then(s.ns[i.toNat]?).getD zNd else zNd
def uC(w:AF×Int)(l:List Sg):List (List Pt):=if w.2≠0 then[] else(yq l w.1 32).1
def jE(s:Sc)(i:Int):List (List Pt):=if (ki s i).k≠2∨(ki s i).fill.length=0 then[] else uC (zQ s i) (ki s i).path
def uU(s:Sc)(i:Int):List (List Pt):=if (ki s i).k≠2∨(ki s i).strk.length=0 then[] else if (zQ s i).2≠0 then[] else(vZ (ki s i).path (ki s i).pen (zQ s i).1 32).1
def zci(s:Sc)(i:Int):List (List Pt):=if (ki s i).k≠3 then[] else uC (zQ s i) (vJ 0 0 (ki s i).im.w (ki s i).im.h)
def zil(s:Sc)(i:Int):List (List Pt):=if (ki s i).clip.length=0 then[] else uC (zQ s i) (ki s i).clip
theorem zqJ{l:List Sg}{t:AF}{tol:Int}(h:(yq l t tol).2≠0):(yq l t tol).1=[]:=by
 unfold yq at h ⊢
 by_cases h1:(trans t l).2≠0
 ·rw[if_pos h1]
 rw[if_neg h1]at h ⊢
 by_cases h2:(zV (trans t l).1 tol).2≠0
 ·rw[if_pos h2]
 rw[if_neg h2]at h;exact absurd rfl h
def mdN(l:List Nd):Nat->Int
 | 0=>0
 | i+1=>match l[i]? with
  | some n=>if n.k=1 then n.d+1 else n.d
  | none=>0
def ze7(s:Sc):Prop:=s.ns.length<=64->∀n∈s.ns,zkR n
theorem zsm{n:Nd}(h:l[i]? =some n)(h0:0<=n.d):jK l i n↔¬mdN l i < n.d:=by
 cases i with
 | zero=>
  unfold jK mdN;rw[show l[0 - 1]? =some n from h];show n.d=0↔¬0 < n.d;omega
 | succ i=>
  obtain⟨p,hp⟩:∃p,l[i]? =some p:=⟨_,Xb (by have:=(Xc.1 h).1;omega)⟩;have hs:jK l (i+1) n=(if i+1=0 then n.d=0 else(p.k=1/\n.d=p.d+1)∨n.d<=p.d):=by unfold jK;rw[show l[i+1 - 1]? =some p from hp]
  have hm:mdN l (i+1)=if p.k=1 then p.d+1 else p.d:=by
   show(match l[i]? with | some n=>if n.k=1 then n.d+1 else n.d | none=>0)=_;rw[hp]
  rw[hs,hm,if_neg (Nat.succ_ne_zero i)]
  split <;> omega
def zvI(r:Int×Int):SV:=.tup [i64 r.1,i64 r.2]
theorem zao{s:Sc}(h:ze6 s):LE (.tup [i64 6,i64 0]) (zvI (ziv s)):=by rw[ziv,if_pos h];exact .refl
theorem zmN{s:Sc}(h1:¬ze6 s)(h2:64 < s.ns.length):LE (.tup [i64 5,i64 64]) (zvI (ziv s)):=by rw[ziv,if_neg h1,if_pos h2];exact .refl
variable{x:Nd}{e:Int}
theorem ziU{s:Sc}(h1:¬ze6 s)(h2:¬64 < s.ns.length)(hx:s.ns[i]? =some x)(hz:∀j,j < i->uL s.ns j=0)(he:zgT s.ns i x=e)(h0:e≠0):LE (.tup [i64 e,i64 (i:Int)]) (zvI (ziv s)):=by
 have ee:=zcX hx;rw[he]at ee;rw[ziv,if_neg h1,if_neg h2,zAE (Xc.1 hx).1 hz (by rw[ee];exact h0)];show LE _ (.tup [i64 (uL s.ns i),i64 (i:Int)]);rw[ee];exact .refl
theorem ztV{s:Sc}(h1:¬ze6 s)(h2:¬64 < s.ns.length)(hz:∀j,j < s.ns.length->uL s.ns j=0):LE (.tup [i64 0,i64 0]) (zvI (ziv s)):=by
 rw[ziv,if_neg h1,if_neg h2,zvF hz];exact .refl
theorem zyJ(h:l[i]? =some x):(l.take (i+1)).map Nd.id=(l.take i).map Nd.id++[x.id]:=by
 rw[Xm,h,XG];rfl
theorem zqL(h:¬ua x=0):zgT l i x=ua x:=if_pos h
theorem zqM(h:ua x=0)(k:x.id∈(l.take i).map Nd.id):zgT l i x=7:=by unfold zgT;rw[if_neg (λq=>q h),if_pos k]
theorem zkY(h:ua x=0)(k:x.id∉(l.take i).map Nd.id)(d:¬jK l i x):zgT l i x=17:=by unfold zgT;rw[if_neg (λq=>q h),if_neg k,if_pos d]
theorem ztW(h:ua x=0)(k:x.id∉(l.take i).map Nd.id)(d:jK l i x):zgT l i x=0:=by unfold zgT;rw[if_neg (λq=>q h),if_neg k,if_neg (λq=>q d)]
theorem zmO(hx:l[i]? =some x)(hz:∀j,j < i->uL l j=0)(he:zgT l i x=0):∀j,j < i+1->uL l j=0:=λj hj=>by
 by_cases c:j=i
 ·rw[c,zcX hx,he]
 ·exact hz j oM
theorem zAF(s:Sc)(ht:ze7 s):CG0 80 [.agg (scE s)] [] (zvI (ziv s)) []:=by
 refine zc Tryz.func80 ?_;refine⟨λh=>zao (.inl h),λh1=>?_⟩;refine⟨λh=>zao (.inr (.inl h)),λh2=>?_⟩;refine⟨λh=>zao (.inr (.inr (.inl h))),λh3=>?_⟩;refine⟨λh=>zao (.inr (.inr (.inr h))),λh4=>?_⟩;have hb:¬ze6 s:=λk=>k.elim h1 λk=>k.elim h2 λk=>k.elim h3 h4
 intro hl0;refine⟨λh=>zmN hb oM,λh5=>?_⟩;have hn:¬64 < s.ns.length:=oM;have ht:=ht oM;intro hl1
 refine⟨Nat,λi=>⟨[(35,i64 (i:Int)),(34,i64 (s.ns.length:Int)),(33,.sl ndE s.ns),(5,i64 (mdN s.ns i)),(4,.own 1),(1,.loc 0 0)],
  [(1,.map (zok ((s.ns.take i).map Nd.id))),(0,.box 26 (scE s))],2,67,0⟩,λi=>i<=s.ns.length/\∀j,j < i->uL s.ns j=0,λi=>s.ns.length - i,0,⟨Xe _,λj h=>by omega⟩,?_,?_⟩
 ·exact zf [0,1]
 rintro i ⟨hi,hz⟩
 refine⟨λg=>?_,λg=>?_⟩
 ·have g:(i:Int) < s.ns.length:=g;refine Ob.o ?_;intro x hx;have hx:s.ns[i]? =some x:=hx;have hm:=Xd hx;refine zb.t (zAD x (ht x hm))<|⟨λh=>ziU hb hn hx hz (zqL h) h,λh6=>?_⟩;have h6:ua x=0:=Xa.1 h6;refine zvH (n:=x.id) (ks:=(s.ns.take i).map Nd.id) (λ_ _ _ a b=>Br.mk a b) (λh=>?_) (λh7=>?_)
  ·exact ziU hb hn hx hz (zqM h6 h) dC
  have hs:=zsm hx (zd8 h6).2.1.1;have hd:=(zd8 h6).2.1;refine⟨λh=>ziU hb hn hx hz (zkY h6 h7 (λq=>hs.1 q h)) dC,λh8=>?_⟩;have hz':=zmO hx hz (ztW h6 h7 (hs.2 h8));refine zqK h7 ?_;have em:zok ((s.ns.take i).map Nd.id++[x.id])=zok ((s.ns.take (i+1)).map Nd.id):=by rw[zyJ hx]
  refine⟨λh9=>?_,λh9=>?_⟩
  ·have e5:x.d+1=mdN s.ns (i+1):=by show _=(match s.ns[i]? with | some n=>if n.k=1 then n.d+1 else n.d | none=>0);rw[hx];exact(if_pos h9).symm
   (iterate 2 refine Ar.o ?_);exact⟨i+1,⟨oM,hz'⟩,zL [0,1] ⟨rfl,rfl,rfl,congrArg (λq=>some (i64 q)) e5,rfl,rfl,trivial⟩ ⟨congrArg (λq=>some (Mem.map q)) em,rfl,trivial⟩,by dsimp only;omega⟩
  ·have e5:x.d=mdN s.ns (i+1):=by show _=(match s.ns[i]? with | some n=>if n.k=1 then n.d+1 else n.d | none=>0);rw[hx];exact(if_neg h9).symm
   exact Ar.o<|⟨i+1,⟨oM,hz'⟩,zL [0,1] ⟨rfl,rfl,rfl,congrArg (λq=>some (i64 q)) e5,rfl,rfl,trivial⟩ ⟨congrArg (λq=>some (Mem.map q)) em,rfl,trivial⟩,by dsimp only;omega⟩
 ·have g:¬(i:Int) < s.ns.length:=g;exact ztV hb hn λj hj=>hz j oM
theorem zol(s:Sc)(ht:ze7 s):CG0 39 [.agg (scE s)] [] (pr (yp s)) []:=by
 refine zc Tryz.func39 ?_;exact zb.t (zAF s ht)<|zF K7
theorem s_has(s:Sc)(i:Int)(ht:ze7 s):CG0 81 [.agg (scE s),i64 i] [] (pr (inS s i)) []:=by
 refine zc Tryz.func81 ?_;refine⟨λh1=>?_,λh1=>zd λk=>h1 k.2.1⟩;intro hl0;refine⟨λh2=>?_,λh2=>zd λk=>h2 k.2.2⟩;exact zb.t (zol s ht)<|zF ⟨λh=>⟨h,h1,h2⟩,λk=>k.1⟩
def parS(s:Sc)(i:Int):Int:=if inS s i then vp (kq s.ns) i.toNat else -1
theorem zC1(l:List Nd)(i:Nat)(n:Nd)(hn:l[i]? =some n)(hd:∀n∈l,0<=n.d/\n.d < 8)(hl:l.length<=64):CG0 82 [.sl ndE l,i64 (i:Int)] [] (i64 (vp (kq l) i)) []:=by
 have hi:=(Xc.1 hn).1;have eg:(kq l).getD i 0=n.d:=by rw[Xt,v6 hn];rfl
 have ep:vp (kq l) i=vL (kq l) (n.d - 1) i:=by unfold vp;rw[eg]
 have hnd:=hd n (Xd hn);refine zc Tryz.func82 ?_;refine Ar.o<|⟨Nat,λm=>⟨[(5,i64 ((m:Int) - 1)),(1,i64 (i:Int)),(0,.sl ndE l)],[],0,25,0⟩,λm=>m<=i/\vL (kq l) (n.d - 1) m=vp (kq l) i,λm=>m,i,⟨Xh _,ep.symm⟩,?_,?_⟩
 ·exact zE []
 rintro m ⟨hm,he⟩
 refine⟨λg=>?_,λg=>?_⟩
 ·have g:0<=(m:Int) - 1:=g;obtain⟨k,rfl⟩:∃k,m=k+1:=⟨m - 1,oM⟩;refine Dr.k<|Ob.o ?_;intro x hx;have hx:l[k]? =some x:=by rw[← hx];congr 1;omega
  refine Ob.o ?_;intro y hy;have hy:y=n:=Xi ((show l[i]? =some y from hy).symm.trans hn);rw[hy];refine Ar.o ?_;have hk:=v6 hx;refine⟨λh=>?_,λh=>?_⟩
  ·refine zj ?_;rw[← he];unfold vL;rw[hk,if_pos (by rw[h])];omega
  ·refine Ar.o<|⟨k,⟨oM,?_⟩,jL [] ⟨congrArg (λq=>some (i64 q)) oM,rfl,rfl,trivial⟩ trivial,by dsimp only;omega⟩;rw[← he]
   conv=>rhs;unfold vL
   rw[hk,if_neg (λq=>h (Xi q))]
 ·have g:¬0<=(m:Int) - 1:=g;obtain rfl:m=0:=oM;exact zj he
theorem zap{s:Sc}{i:Int}(h:inS s i):∃n,s.ns[i.toNat]? =some n:=⟨_,Xb (by have:=h.2;omega)⟩
theorem zfJ{s:Sc}(h:yp s):∀n∈s.ns,0<=n.d/\n.d < 8:=λn hn=>by
 obtain⟨j,hj,e⟩:=Ka hn;exact(zd8 (zcY h (e ▸ Xb hj)).1).2.1
theorem zbm{s:Sc}(h:yp s):s.ns.length<=64:=(zkW.1 h).2.1
theorem zqN(s:Sc)(i:Int)(ht:ze7 s):CG0 40 [.agg (scE s),i64 i] [] (i64 (parS s i)) []:=by
 refine zc Tryz.func40 ?_;refine zb.t (s_has s i ht)<|⟨λh=>zj (if_neg h).symm,λh=>?_⟩;have h:inS s i:=Xa.1 h;obtain⟨n,hn⟩:=zap h;have hp:=zC1 s.ns i.toNat n hn (zfJ h.1) (zbm h.1);rw[show((i.toNat:Nat):Int)=i by have:=h.2.1;omega]at hp;exact zb.t hp<|zj (if_pos h).symm
theorem zyL(n:Int):CG0 342 [i64 n] [] (pr (zcV n)) []:=by
 refine zc Tryz.func342 ?_;refine⟨λh=>?_,λh=>?_⟩
 ·exact zR (.inl h)
 ·exact zF ⟨.inr,λk=>k.resolve_left h⟩
theorem ztX(n:Nd):CG0 346 [.agg (ndE n)] [] (pr (zcg n)) []:=by
 refine zc Tryz.func346 ?_;refine⟨λh1=>?_,λh1=>zd λk=>h1 k.1⟩;refine⟨λh2=>?_,λh2=>zd λk=>h2 k.2.1⟩;refine⟨λh3=>?_,λh3=>zd λk=>h3 (by rw[k.2.2.1];decide)⟩;exact zF ⟨λh=>⟨h1,h2,by simpa using h3,by simpa using h⟩,λk=>by rw[k.2.2.2];decide⟩
theorem ztY(n:Nd):CG0 343 [.agg (ndE n)] [] (pr (zc5 n)) []:=by
 refine zc Tryz.func343 ?_;intro hl1;refine⟨λh1=>?_,λh1=>zd λk=>h1 (by have:=k.1;omega)⟩;refine⟨λh2=>?_,λh2=>zd λk=>h2 k.2.1⟩;intro hl2;refine⟨λh3=>?_,λh3=>zd λk=>h3 (by have:=k.2.2.1;omega)⟩;intro hl3;exact zF ⟨λh=>⟨oM,h2,oM,oM⟩,λk=>by have:=k.2.2.2;omega⟩
theorem zom(n:Nd):CG0 344 [.agg (ndE n)] [] (pr (uq n.pen)) []:=by
 refine zc Tryz.func344 ?_;refine⟨λh1=>?_,λh1=>zd λk=>h1 k.1⟩;refine⟨λh2=>?_,λh2=>zd λk=>h2 k.2.1⟩;refine⟨λh3=>?_,λh3=>zd λk=>h3 k.2.2.1⟩;refine⟨λh4=>?_,λh4=>zd λk=>h4 k.2.2.2.1⟩;intro hl1;refine⟨λh5=>?_,λh5=>zd λk=>h5 (by rw[k.2.2.2.2.1];rfl)⟩;have h5:n.pen.d.length=0:=oM;exact zF ⟨λh=>⟨h1,h2,h3,h4,XJ.1 h5,h⟩,λk=>k.2.2.2.2.2⟩
theorem ztZ(n:Nd):CG0 345 [.agg (ndE n)] [] (pr (zch n)) []:=by
 refine zc Tryz.func345 ?_;refine⟨λh1=>?_,λh1=>zd λk=>h1 k.1⟩;refine⟨λh2=>?_,λh2=>zd λk=>h2 k.2.1⟩;intro hl1;refine⟨λh3=>?_,λh3=>zd λk=>h3 (by have:=k.2.2.1;omega)⟩;exact zF ⟨λh=>⟨h1,h2,oM,h⟩,λk=>k.2.2.2⟩
theorem zC2(n:Nd):CG0 295 [.agg (ndE n)] [] (pr (zgS n)) []:=by
 have bad:¬vg n->LE (bl false) (pr (zgS n)):=λh=>zd λk=>h k.1
 refine zcz tok Tryz.func295 rfl rfl rfl (zc9.cut tok mix 2 (λ_:Unit=>⟨[(1,.loc 0 0)],[(0,.box 55 (ndE n))],1,56,0⟩) (λ_=>vg n) ?_ λ_ hk=>zc9.vc tok mix ?_)
 ·intro hl1;refine⟨λh1=>?_,λh1=>?_⟩
  ·refine⟨λh2=>bad λk=>k.elim (λk=>h2 k.2) λk=>by have:=k.1;omega,λh2=>?_⟩;intro hl2;refine⟨λh3=>?_,λh3=>⟨(),.inl ⟨oM,Xa.1 h2⟩,zf [0]⟩⟩;omega
  ·intro hl2;refine⟨λh3=>?_,λh3=>?_⟩
   ·refine zb.t (zyL n.cr)<|⟨λh4=>bad λk=>k.elim (λk=>by have:=k.1;omega) λk=>h4 k.2,λh4=>?_⟩;exact⟨(),.inr ⟨oM,Xa.1 h4⟩,zf [0]⟩
   ·omega
 ·refine⟨λk1=>?_,λk1=>?_⟩
  ·have e:zgS n↔(zc5 n/\uq n.pen)/\zch n:=by unfold zgS;rw[if_pos k1];exact⟨λh=>h.2,λh=>⟨hk,h⟩⟩
   refine zb.t (ztY n)<|⟨λa=>?_,λa=>zd λk=>a (e.1 k).1.1⟩;refine zb.t (zom n)<|⟨λb=>?_,λb=>zd λk=>b (e.1 k).1.2⟩;exact zb.t (ztZ n)<|zF ⟨λh=>e.2 ⟨⟨a,b⟩,h⟩,λk=>(e.1 k).2⟩
  refine⟨λk2=>?_,λk2=>?_⟩
  ·have e:zgS n↔zcg n/\zch n:=by unfold zgS;rw[if_neg k1,if_pos k2];exact⟨λh=>h.2,λh=>⟨hk,h⟩⟩
   refine zb.t (ztX n)<|⟨λa=>?_,λa=>zd λk=>a (e.1 k).1⟩;exact zb.t (ztZ n)<|zF ⟨λh=>e.2 ⟨a,h⟩,λk=>(e.1 k).2⟩
  ·have e:zgS n↔zcg n/\zc5 n/\uq n.pen:=by unfold zgS;rw[if_neg k1,if_neg k2];exact⟨λh=>h.2,λh=>⟨hk,h⟩⟩
   refine zb.t (ztX n)<|⟨λa=>?_,λa=>zd λk=>a (e.1 k).1⟩;refine zb.t (ztY n)<|⟨λb=>?_,λb=>zd λk=>b (e.1 k).2.1⟩;exact zb.t (zom n)<|zF ⟨λh=>e.2 ⟨a,b,h⟩,λk=>(e.1 k).2.2⟩
theorem zqP(xs:List Pnt)(ht:zd5 xs):CG0 347 [.sl vf xs] [] (pr (uK xs)) []:=by
 refine zc Tryz.func347 ?_;refine⟨Int,λi=>⟨[(3,i64 i),(0,.sl vf xs)],[],0,16,0⟩,λi=>0<=i/\i<=xs.length/\∀(j:Nat) q,(j:Int) < i->xs[j]? =some q->vE q,λi=>((xs.length:Int) - i).toNat,0,?_,?_,?_⟩
 ·exact⟨oM,oM,λj q hj=>by omega⟩
 ·exact zE []
 rintro i ⟨h1,h2,h3⟩
 intro hl0;refine⟨λh4=>?_,λh4=>?_⟩
 ·refine Ob.o ?_;intro x hx;have hm:=ht x (Xd hx);refine zb.t (zqO x hm.1)<|⟨λh5=>zd λk=>h5 (k x (Xd hx)),λh5=>?_⟩;refine Ar.o<|⟨i+1,⟨oM,oM,λj q hj hq=>?_⟩,zE [],by dsimp only;omega⟩
  by_cases e:j=i.toNat
  ·subst e;rw[hx]at hq;cases hq;exact Xa.1 h5
  ·exact h3 j q oM hq
 ·refine zR λp hp=>?_
  obtain⟨j,hj,he⟩:=Ka hp;exact h3 j p oM (by rw[← he];exact Xb hj)
theorem zAH(n:Nd)(t1:zd5 n.fill)(t2:zd5 n.strk):CG0 296 [.agg (ndE n)] [] (i64 (vF n)) []:=by
 refine zc Tryz.func296 ?_;refine zb.t (zgh n.path)<|⟨λh1=>zj (by unfold vF;rw[if_pos h1]),λh1=>?_⟩;refine zb.t (zyL n.rule)<|⟨λh2=>zj (by unfold vF;rw[if_neg h1,if_pos h2]),λh2=>?_⟩;intro hl1;refine⟨λa1=>zj (by unfold vF;rw[if_neg h1,if_neg h2,if_pos (.inl oM)]),λa1=>?_⟩;intro hl2;refine⟨λa2=>zj (by unfold vF;rw[if_neg h1,if_neg h2,if_pos (.inr oM)]),λa2=>?_⟩;have h3:¬(1 < n.fill.length∨1 < n.strk.length):=oM;intro hl3;refine⟨λb1=>?_,λb1=>?_⟩
 all_goals first
  | (refine zb.t (zcJ n.pen) ?_;refine⟨λb2=>zj (by unfold vF;rw[if_neg h1,if_neg h2,if_neg h3,if_pos ⟨oM,b2⟩]),λb2=>?_⟩;have h4:¬(0 < n.strk.length/\¬kI n.pen):=λk=>b2 k.2)
  | have h4:¬(0 < n.strk.length/\¬kI n.pen):=λk=>b1 (by have:=k.1;omega)
 all_goals intro hl4
 all_goals refine⟨λc1=>?_,λc1=>?_⟩
 all_goals first
  | (refine zb.t (zom n) ?_;refine⟨λc2=>zj (by unfold vF;rw[if_neg h1,if_neg h2,if_neg h3,if_neg h4,if_pos ⟨oM,c2⟩]),λc2=>?_⟩;have h5:¬(n.strk.length=0/\¬uq n.pen):=λk=>c2 k.2)
  | have h5:¬(n.strk.length=0/\¬uq n.pen):=λk=>c1 (by have:=k.1;omega)
 all_goals refine zb.t (zqP n.fill t1) ?_
 all_goals refine⟨λd1=>zj (by unfold vF;rw[if_neg h1,if_neg h2,if_neg h3,if_neg h4,if_neg h5];exact(if_pos (Or.inl d1)).symm),λd1=>?_⟩
 all_goals refine zb.t (zqP n.strk t2) ?_
 all_goals refine⟨λd2=>zj (by unfold vF;rw[if_neg h1,if_neg h2,if_neg h3,if_neg h4,if_neg h5];exact(if_pos (Or.inr d2)).symm),λd2=>zj (by unfold vF;rw[if_neg h1,if_neg h2,if_neg h3,if_neg h4,if_neg h5];exact(if_neg (λk=>k.elim d1 d2)).symm)⟩
theorem zAI(n:Nd)(h:zkR n):CG0 231 [.agg (ndE n)] [] (i64 (ua n)) []:=by
 obtain⟨ht,t1,t2,t3⟩:=h;refine zc Tryz.func231 ?_;refine⟨λa1=>zj (by unfold ua;rw[if_pos (.inl a1)]),λa1=>?_⟩;refine⟨λa2=>zj (by unfold ua;rw[if_pos (.inr a2)]),λa2=>?_⟩;have h1:¬(n.k < 1∨3 < n.k):=oM;refine⟨λb1=>zj (by unfold ua;rw[if_neg h1,if_pos oM]),λb1=>?_⟩;refine⟨λb2=>zj (by unfold ua;rw[if_neg h1,if_pos oM]),λb2=>?_⟩;refine⟨λb3=>zj (by unfold ua;rw[if_neg h1,if_pos oM]),λb3=>?_⟩
 refine⟨λb4=>zj (by unfold ua;rw[if_neg h1,if_pos oM]),λb4=>?_⟩;have h2:¬(n.id < 1∨1073741824 < n.id∨n.d < 0∨8<=n.d):=oM;refine zb.t (zb3 n.t (ht.up dC)) ?_;refine⟨λh3=>zj (by unfold ua;rw[if_neg h1,if_neg h2,if_pos h3]),λh3=>?_⟩;refine zb.t (zs6 n.t (ht.up dC)) ?_;refine zb.t (jm 0 (by constructor <;> decide)) ?_;have hcmp:=znC (ofQ (yz n.t)) (ofQ ((0:Int):Rat)) (by have:=zgR ht;rw[zB];omega) (by decide +kernel);rw[z6,z6]at hcmp;refine zb.t hcmp ?_
 refine⟨λh4=>zj (by unfold ua;rw[if_neg h1,if_neg h2,if_neg h3,if_pos ((Ye.1 (uT _)).1 h4)]),λh4=>?_⟩;have h4:¬yz n.t=0:=(uT _).1 h4;refine zb.t (zgh n.clip)<|⟨λh5=>zj (by unfold ua;rw[if_neg h1,if_neg h2,if_neg h3,if_neg h4,if_pos h5]),λh5=>?_⟩;refine zb.t (zC2 n)<|⟨λh6=>zj (by unfold ua;rw[if_neg h1,if_neg h2,if_neg h3,if_neg h4,if_neg h5,if_pos h6]),λh6=>?_⟩;refine⟨λk2=>?_,λk2=>?_⟩
 ·exact zb.t (zAH n t1 t2)<|zj (by unfold ua;rw[if_neg h1,if_neg h2,if_neg h3,if_neg h4,if_neg h5,if_neg h6,if_neg oM,if_pos k2])
 refine⟨λk1=>?_,λk1=>?_⟩
 ·exact zb.t (zCU n.mode)<|⟨λm=>zj (by unfold ua;rw[if_neg h1,if_neg h2,if_neg h3,if_neg h4,if_neg h5,if_neg h6,if_pos k1];exact(if_pos m).symm),λm=>zj (by unfold ua;rw[if_neg h1,if_neg h2,if_neg h3,if_neg h4,if_neg h5,if_neg h6,if_pos k1];exact(if_neg m).symm)⟩
 refine zb.t (zkL n.im)<|⟨λm=>zj (by unfold ua;rw[if_neg h1,if_neg h2,if_neg h3,if_neg h4,if_neg h5,if_neg h6,if_neg k1,if_neg k2,if_pos m]),λm=>?_⟩;refine⟨λs1=>?_,λs1=>zj (by unfold ua;rw[if_neg h1,if_neg h2,if_neg h3,if_neg h4,if_neg h5,if_neg h6,if_neg k1,if_neg k2,if_neg m,if_neg (λk=>s1 k.1)])⟩
 exact⟨λs2=>zj (by unfold ua;rw[if_neg h1,if_neg h2,if_neg h3,if_neg h4,if_neg h5,if_neg h6,if_neg k1,if_neg k2,if_neg m,if_pos ⟨s1,s2⟩]),λs2=>zj (by unfold ua;rw[if_neg h1,if_neg h2,if_neg h3,if_neg h4,if_neg h5,if_neg h6,if_neg k1,if_neg k2,if_neg m,if_neg (λk=>s2 k.2)])⟩
def zkZ(l:List Nd)(id:Int):Int:=match l.findIdx? (λn=>n.id=id) with | some i=>i | none=> -1
variable{id:Int}
theorem zyM(h:∀(j:Nat) q,j < i->l[j]? =some q->q.id≠id)(hx:l[i]? =some x)(hb:x.id=id):zkZ l id=i:=by
 have:l.findIdx? (λn=>n.id=id)=some i:=by
  rw[KI];have hi:=(Xc.1 hx);refine⟨hi.1,by rw[hi.2];simpa using hb,λj hj=>?_⟩;have:=h j _ hj (Xb (by have:=hi.1;omega))
  simpa using this
 unfold zkZ;rw[this]
theorem zk0(h:∀p∈l,p.id≠id):zkZ l id= -1:=by
 have:l.findIdx? (λn=>n.id=id)=none:=by
  rw[Kt];intro p hp;simpa using h p hp
 unfold zkZ;rw[this]
theorem zqQ:0<=zkZ l id↔id∈l.map Nd.id:=by
 by_cases h:∀p∈l,p.id≠id
 ·rw[zk0 h];refine⟨λk=>by omega,λk=>?_⟩;obtain⟨p,hp,e⟩:=XO.1 k;exact absurd e (h p hp)
 ·unfold zkZ
  cases hf:l.findIdx? (λn=>n.id=id) with
  | some i=>
   refine⟨λ_=>?_,λ_=>Int.natCast_nonneg i⟩;rw[KI]at hf;obtain⟨hi,h1,_⟩:=hf;exact XO.2 ⟨l[i],KO hi,by simpa using h1⟩
  | none=>rw[Kt]at hf;exact absurd (λp hp=>by simpa using hf p hp) h
theorem zC3(l:List Nd)(id:Int):CG0 232 [.sl ndE l,i64 id] [] (i64 (zkZ l id)) []:=by
 refine zc Tryz.func232 ?_;refine⟨Nat,λi=>⟨[(5,i64 (i:Int)),(1,i64 id),(0,.sl ndE l)],[],0,20,0⟩,λi=>i<=l.length/\∀(j:Nat) q,j < i->l[j]? =some q->q.id≠id,λi=>l.length - i,0,⟨Xe _,λj q h=>by omega⟩,?_,?_⟩
 ·exact zE []
 rintro i ⟨h1,h2⟩
 intro hl0;refine⟨λg=>?_,λg=>?_⟩
 ·have g:(i:Int) < l.length:=g;refine Ob.o ?_;intro x hx;have hx:l[i]? =some x:=hx;refine⟨λh=>zj (zyM h2 hx h).symm,λh=>?_⟩;refine Ar.o<|⟨i+1,⟨oM,λj q hj hq=>?_⟩,zE [],by dsimp only;omega⟩
  by_cases c:j=i
  ·subst c;rw[hx]at hq;cases hq;exact h
  ·exact h2 j q oM hq
 ·have g:¬(i:Int) < l.length:=g;refine zj (zk0 λp hp=>?_).symm;obtain⟨j,hj,e⟩:=Ka hp;exact h2 j p oM (by rw[← e];exact Xb hj)
theorem zyN{n:Nd}(h:l[0]? =some n):jK l 0 n↔n.d=0:=by
 unfold jK;rw[show l[0 - 1]? =some n from h];exact K7
theorem zyO{l:List Nd}{i:Nat}{n p:Nd}(hp:l[i]? =some p):jK l (i+1) n↔(p.k=1/\n.d=p.d+1)∨n.d<=p.d:=by
 unfold jK;rw[show l[i+1 - 1]? =some p from hp];exact K7
theorem zyP(l:List Nd)(i:Nat)(n:Nd)(hn:l[i]? =some n)(hd:∀j p,j < i->l[j]? =some p->0<=p.d/\p.d < 8)(hl:l.length<=64):
  CG0 233 [.sl ndE l,i64 (i:Int)] [] (pr (jK l i n)) []:=by
 have hi:=(Xc.1 hn).1;refine zc Tryz.func233 ?_;refine⟨λg=>?_,λg=>?_⟩
 ·have g:(i:Int)=0:=g;obtain rfl:i=0:=oM;refine Ob.o ?_;intro x hx;have hx:x=n:=Xi ((show l[0]? =some x from hx).symm.trans hn);rw[hx];exact zF (zyN hn).symm
 ·have g:¬(i:Int)=0:=g;obtain⟨k,rfl⟩:∃k,i=k+1:=⟨i - 1,oM⟩;obtain⟨p,hp⟩:∃p,l[k]? =some p:=⟨_,Xb oM⟩;have hpd:=hd k p oM hp;have hs:=zyO (n:=n) hp;refine Dr.k<|Ar.o<|Ob.o ?_;intro x hx;have hx:x=p:=Xi ((show l[k]? =some x by rw[← hx];congr 1;omega).symm.trans hp);rw[hx];refine⟨λh1=>?_,λh1=>?_⟩
  ·refine Ob.o ?_;intro y hy;have hy:y=n:=Xi ((show l[k+1]? =some y by rw[← hy];congr 1).symm.trans hn);rw[hy];refine Ar.o<|Ob.o ?_;intro z hz;have hz:z=p:=Xi ((show l[k]? =some z by rw[← hz];congr 1;omega).symm.trans hp);rw[hz];refine Ar.o<|Br.mk (λh2=>zR (hs.2 (.inl ⟨h1,h2⟩))) (λh2=>?_);refine Dr.k<|Ob.o ?_;intro y hy;have hy:y=n:=Xi ((show l[k+1]? =some y by rw[← hy];congr 1).symm.trans hn);rw[hy];refine Ar.o<|Ob.o ?_;intro z hz
   have hz:z=p:=Xi ((show l[k]? =some z by rw[← hz];congr 1;omega).symm.trans hp);rw[hz];exact zF ⟨λh=>hs.2 (.inr h),λh=>(hs.1 h).resolve_left λq=>h2 q.2⟩
  ·refine Dr.k<|Ob.o ?_;intro y hy;have hy:y=n:=Xi ((show l[k+1]? =some y by rw[← hy];congr 1).symm.trans hn);rw[hy];refine Ar.o<|Ob.o ?_;intro z hz;have hz:z=p:=Xi ((show l[k]? =some z by rw[← hz];congr 1;omega).symm.trans hp);rw[hz];exact zF ⟨λh=>hs.2 (.inr h),λh=>(hs.1 h).resolve_left λq=>h1 q.1⟩
theorem zAJ(l:List Nd)(i:Nat)(n:Nd)(hn:l[i]? =some n)(ht:zkR n)(hd:∀j p,j < i->l[j]? =some p->0<=p.d/\p.d < 8)(hl:l.length<=64):
  CG0 173 [.sl ndE l,i64 (i:Int)] [] (i64 (zgT l i n)) []:=by
 have hi:=(Xc.1 hn).1;refine zc Tryz.func173 ?_;refine Ob.o ?_;intro x hx;have hx:x=n:=Xi ((show l[i]? =some x from hx).symm.trans hn);rw[hx];refine zb.t (zAI n ht)<|⟨λh=>zj (zqL h).symm,λh1=>?_⟩;have h1:ua n=0:=Xa.1 h1;refine Dr.k<|Ob.mk ⟨oM,λ_ _=>rfl⟩<|Ob.o ?_;intro y hy;have hy:y=n:=Xi ((show l[i]? =some y from hy).symm.trans hn);rw[hy]
 have e:(l.drop (0:Int).toNat).take ((i:Int) - 0).toNat=l.take i:=by rw[show(0:Int).toNat=0 from rfl,KT];congr 1
 refine zb.t (zC3 ((l.drop (0:Int).toNat).take ((i:Int) - 0).toNat) n.id) ?_;rw[e];refine⟨λh=>zj (zqM h1 (zqQ.1 h)).symm,λh2=>?_⟩;have h2:n.id∉(l.take i).map Nd.id:=λk=>h2 (zqQ.2 k)
 refine zb.t (zyP l i n hn hd hl)<|⟨λh=>zj (zkY h1 h2 h).symm,λh3=>?_⟩;exact zj (ztW h1 h2 (Xa.1 h3)).symm
theorem zyQ(s:Sc)(ht:ze7 s):CG0 109 [.agg (scE s)] [] (zvI (ziv s)) []:=by
 refine zc Tryz.func109 ?_;refine⟨λh=>zao (.inl h),λh1=>?_⟩;refine⟨λh=>zao (.inr (.inl h)),λh2=>?_⟩;refine⟨λh=>zao (.inr (.inr (.inl h))),λh3=>?_⟩;refine⟨λh=>zao (.inr (.inr (.inr h))),λh4=>?_⟩;have hb:¬ze6 s:=λk=>k.elim h1 λk=>k.elim h2 λk=>k.elim h3 h4
 intro hl0;refine⟨λh=>zmN hb oM,λh5=>?_⟩;have hn:¬64 < s.ns.length:=oM;have ht:=ht oM;refine⟨Nat,λi=>⟨[(4,i64 (i:Int)),(1,.loc 0 0)],[(0,.box 26 (scE s))],1,43,0⟩,λi=>i<=s.ns.length/\∀j,j < i->uL s.ns j=0,λi=>s.ns.length - i,0,⟨Xe _,λj h=>by omega⟩,?_,?_⟩
 ·exact zf [0]
 rintro i ⟨hi,hz⟩
 intro hl1;refine⟨λg=>?_,λg=>?_⟩
 ·have g:(i:Int) < s.ns.length:=g;obtain⟨x,hx⟩:∃x,s.ns[i]? =some x:=⟨_,Xb oM⟩;have hm:=Xd hx
  have hd:∀j p,j < i->s.ns[j]? =some p->0<=p.d/\p.d < 8:=λj p hj hp=>by
   have:=hz j hj;rw[zcX hp]at this;exact(zd8 (zmM this).1).2.1
  refine zb.t (zAJ s.ns i x hx (ht x hm) hd oM)<|⟨λh=>ziU hb hn hx hz rfl h,λh6=>?_⟩;exact Ar.o<|⟨i+1,⟨oM,zmO hx hz (Xa.1 h6)⟩,zf [0],by dsimp only;omega⟩
 ·have g:¬(i:Int) < s.ns.length:=g;exact ztV hb hn λj hj=>hz j oM
theorem zqR(s:Sc)(ht:ze7 s):CG0 54 [.agg (scE s)] [] (pr (yp s)) []:=by
 refine zc Tryz.func54 ?_;exact zb.t (zyQ s ht)<|zF K7
theorem zyR(s:Sc)(i:Int)(ht:ze7 s):CG0 110 [.agg (scE s),i64 i] [] (pr (inS s i)) []:=by
 refine zc Tryz.func110 ?_;refine zb.t (zqR s ht)<|⟨λh1=>?_,λh1=>zd λk=>h1 k.1⟩;refine⟨λh2=>?_,λh2=>zd λk=>h2 k.2.1⟩;intro hl0;exact zF ⟨λh=>⟨h1,h2,h⟩,λk=>k.2.2⟩
theorem zC4(l:List Nd)(i:Nat)(n:Nd)(hn:l[i]? =some n)(hd:∀n∈l,0<=n.d/\n.d < 8)(hl:l.length<=64):CG0 111 [.sl ndE l,i64 (i:Int)] [] (i64 (vp (kq l) i)) []:=by
 have hi:=(Xc.1 hn).1;have eg:(kq l).getD i 0=n.d:=by rw[Xt,v6 hn];rfl
 have ep:vp (kq l) i=vL (kq l) (n.d - 1) i:=by unfold vp;rw[eg]
 have hnd:=hd n (Xd hn);refine zc Tryz.func111 ?_;refine Ar.o<|⟨Nat,λm=>⟨[(5,i64 ((m:Int) - 1)),(1,i64 (i:Int)),(0,.sl ndE l)],[],0,25,0⟩,λm=>m<=i/\vL (kq l) (n.d - 1) m=vp (kq l) i,λm=>m,i,⟨Xh _,ep.symm⟩,?_,?_⟩
 ·exact zE []
 rintro m ⟨hm,he⟩
 refine⟨λg=>?_,λg=>?_⟩
 ·have g:0<=(m:Int) - 1:=g;obtain⟨k,rfl⟩:∃k,m=k+1:=⟨m - 1,oM⟩;refine Dr.k<|Ob.o ?_;intro x hx;have hx:l[k]? =some x:=by rw[← hx];congr 1;omega
  refine Ob.o ?_;intro y hy;have hy:y=n:=Xi ((show l[i]? =some y from hy).symm.trans hn);rw[hy];refine Ar.o ?_;have hk:=v6 hx;refine⟨λh=>?_,λh=>?_⟩
  ·refine zj ?_;rw[← he];unfold vL;rw[hk,if_pos (by rw[h])];omega
  ·refine Ar.o<|⟨k,⟨oM,?_⟩,jL [] ⟨congrArg (λq=>some (i64 q)) oM,rfl,rfl,trivial⟩ trivial,by dsimp only;omega⟩;rw[← he]
   conv=>rhs;unfold vL
   rw[hk,if_neg (λq=>h (Xi q))]
 ·have g:¬0<=(m:Int) - 1:=g;obtain rfl:m=0:=oM;exact zj he
def zlu(s:Sc)(i:Int):List Int:=if inS s i then((jc (kq s.ns) i).reverse).map (λk:Nat=>(k:Int)) else[]
variable{m:Nat}{a:Nat}
theorem zyS{c:List Nat}{d:Nat}(hl:c.length=d+1)(hm:m<=d)(ha:c[d - m]? =some a):c.reverse.take (m+1)=c.reverse.take m++[a]:=by
 have:c.reverse[m]? =some a:=by
  rw[Jl oM,← ha];congr 1;omega
 rw[Xm,this];rfl
def zcZ(l:List Nat):List Int:=l.map (λk:Nat=>(k:Int))
theorem zAK(s:Sc)(i:Int)(ht:ze7 s):CG0 55 [.agg (scE s),i64 i] [] (.own 0) [(0,.arr 3 uS 1 (zlu s i))]:=by
 refine qY tok mix Tryz.func55 rfl rfl rfl<|⟨Int,uS,[],rfl,Ob.o2 ?_⟩;refine zb.t (zyR s i ht)<|⟨λh=>⟨some 1,.own 1 rfl,congrArg (λq=>some (Mem.arr 3 uS 1 q)) (show[]=zlu s i from(if_neg h).symm),λ_ _=>rfl⟩,λh=>?_⟩;have h:inS s i:=Xa.1 h;obtain⟨n,hn⟩:=zap h;obtain⟨i,rfl⟩:∃k:Nat,i=(k:Int):=⟨i.toNat,by have:=h.2.1;omega⟩;have hn:s.ns[i]? =some n:=hn;have hdp:=zfJ h.1;have hl:=zbm h.1;have hs:=zd9 h.1;have hnd:=hdp n (Xd hn)
 obtain⟨d,hd⟩:∃d:Nat,n.d=(d:Int):=⟨n.d.toNat,oM⟩;have hD:(kq s.ns)[i]? =some (d:Int):=by rw[v6 hn,hd]
 have hlen:=zhM hs hD;have ea:zlu s i=zcZ ((jc (kq s.ns) i).reverse):=if_pos h;have hil:=(Xc.1 hn).1
 refine⟨Nat,λm=>⟨[(6,i64 (m:Int)),(5,.own 1),(2,.loc 0 0),(1,i64 (i:Int))],[(1,.arr 3 uS 1 (zcZ ((jc (kq s.ns) i).reverse.take m))),(0,.box 26 (scE s))],2,42,0⟩,
  λm=>m<=d+1,λm=>d+1 - m,0,Xe _,?_,?_⟩
 ·exact zf [0,1]
 intro m hm;have hm:m<=d+1:=hm;refine Ob.o ?_;intro x hx;have hx:x=n:=Xi ((show s.ns[i]? =some x from hx).symm.trans hn);rw[hx];refine⟨λg=>?_,λg=>?_⟩
 ·have g:(m:Int)<=n.d:=g;rw[hd]at g;have c0:(jc (kq s.ns) i)[0]? =some i:=by rw[yJ];rfl
  refine⟨Nat×Nat,λz=>⟨[(7,i64 (z.2:Int)),(6,i64 (m:Int)),(5,.own 1),(2,.loc 0 0),(1,i64 (i:Int))],[(1,.arr 3 uS 1 (zcZ ((jc (kq s.ns) i).reverse.take m))),(0,.box 26 (scE s))],2,42,0⟩,
   λz=>z.1<=d - m/\(jc (kq s.ns) i)[z.1]? =some z.2,λz=>d - z.1,(0,i),⟨Xe _,c0⟩,?_,?_⟩
  ·exact zf [0,1]
  rintro⟨k,a⟩ ⟨hk,hc⟩
  have hk:k<=d - m:=hk;have hc:(jc (kq s.ns) i)[k]? =some a:=hc;have hda:=zhL hs hD hc;obtain⟨y,hy,hyd⟩:=v7 hda;have hal:=(Xc.1 hy).1;dsimp only;refine Ob.o ?_;intro w hw;have hw:w=y:=Xi ((show s.ns[a]? =some w from hw).symm.trans hy);rw[hw];refine⟨λq=>?_,λq=>?_⟩
  ·have q:(m:Int) < y.d:=q;rw[hyd]at q;refine zb.t (zC4 s.ns a y hy hdp hl) ?_;obtain⟨j,hj,_,_⟩:=(zgV hs hda).2 oM;refine⟨(k+1,j),⟨by dsimp only;omega,zkX hc hj⟩,zL [0,1] ⟨congrArg (λq=>some (i64 q)) hj,rfl,rfl,rfl,rfl,trivial⟩ ⟨rfl,rfl,trivial⟩,by dsimp only;omega⟩
  ·have q:¬(m:Int) < y.d:=q;rw[hyd]at q;obtain rfl:k=d - m:=oM;refine⟨Int,uS,[(a:Int)],rfl,Ob.o10 ?_⟩
   have hlen0:(zcZ ((jc (kq s.ns) i).reverse.take m)).length<=64:=by
    unfold zcZ;rw[Xz,Xk,Qu,hlen];omega
   refine⟨[(a:Int)],rfl,Ob.mk ⟨by show(((zcZ ((jc (kq s.ns) i).reverse.take m)).length:Int)+1)*8<=_;omega,by rw[QG];omega,dC,λx hx=>by rw[Xq.1 hx];rfl⟩ ?_⟩;refine Ar.o ?_
   have en:zcZ ((jc (kq s.ns) i).reverse.take m)++[(a:Int)]=zcZ ((jc (kq s.ns) i).reverse.take (m+1)):=by
    rw[zyS hlen oM hc];unfold zcZ;rw[XG];rfl
   exact⟨m+1,by show m+1<=d+1;omega,zC [0,3] ⟨congrArg (λq=>some (Mem.arr 3 uS 1 q)) en,rfl,trivial⟩,by show d+1 - (m+1) < d+1 - m;omega⟩
 ·have g:¬(m:Int)<=n.d:=g;rw[hd]at g;have e:(jc (kq s.ns) i).reverse.take m=(jc (kq s.ns) i).reverse:=Xf (by rw[Qu,hlen];omega);exact⟨some 1,.own 1 rfl,congrArg (λq=>some (Mem.arr 3 uS 1 q)) (by rw[ea,e]),λ_ _=>rfl⟩
theorem zC5(s:Sc)(i:Int)(ht:ze7 s):CG0 55 [.agg (scE s),i64 i] [] (.sl uS (zlu s i)) []:=(zAK s i ht).plain rfl
def zBw(n:Nd):Prop:=n.t.le 100/\zkR n/\n.path.length<=300/\n.clip.length<=300
def yr(s:Sc):Prop:=s.ns.length<=64->∀n∈s.ns,zBw n
theorem yr.tame{s:Sc}(h:yr s):ze7 s:=λhl n hn=>(h hl n hn).2.1
theorem zC6{s:Sc}(h:yr s)(hv:yp s)(k:Nat):(tAt s.ns k).le 100:=by
 unfold tAt
 cases hk:s.ns[k]? with
 | none=>exact znD.up dC
 | some n=>exact(h (zbm hv) n (Xd hk)).1
theorem zsn{s:Sc}(h:yr s)(hv:yp s)(i:Int):∀t∈trs s.ns i,t.le 100:=λt ht=>by
 obtain⟨k,_,rfl⟩:=XO.1 ht;exact zC6 h hv k
theorem zon{s:Sc}(hv:yp s)(hi:i < s.ns.length):(trs s.ns i).length<=8:=by
 have hn:s.ns[i]? =some s.ns[i]:=Xb hi;have hd:=zfJ hv s.ns[i] (KO hi);unfold trs;rw[Xz,zhM (d:=s.ns[i].d.toNat) (zd9 hv) (by rw[v6 hn];congr 1;omega)];omega
theorem zyT{l:List AF}:(vC l).1.le 100:=by
 unfold vC
 split
 ·rename_i h;have:=zkI (l:=l) (i:=l.length) (Xh _) λk hk=>h.2 k hk
  rw[X9]at this;exact this.up dC
 ·exact yD _
theorem yR(s:Sc)(i:Int):(zQ s i).1.le 100:=by
 unfold zQ
 split
 ·exact yD _
 split
 ·exact yD _
 ·exact zyT
def zqS(r:AF×Int):SV:=.tup [.agg (afE r.1),i64 r.2]
theorem uA{s:Sc}{i:Int}(h:zQ s i=(qr,e)):LE (.tup [.agg yX,i64 e]) (zqS (zQ s i)):=by
 rw[h];exact zI zaP .refl
theorem zk1{s:Sc}{i:Int}(h:yp s)(h0:0<=i)(h1:i < s.ns.length):zQ s i=vC (trs s.ns i):=by
 unfold zQ;rw[if_neg (λk=>k h),if_neg oM]
theorem zt0{s:Sc}(h:yp s)(hi:i < s.ns.length):parS s i=vp (kq s.ns) i:=by
 unfold parS;rw[if_pos ⟨h,oM,oM⟩];rfl
def scO(s:Sc)(k:Nat):List SV:=[i64 s.w,i64 s.h,u8 s.bg.r,u8 s.bg.g,u8 s.bg.b,u8 s.bg.a,.own k]
abbrev uV(l:List Nd):Mem:=.arr 55 ndE 47 l
theorem zoo(s:Sc)(i:Int)(ht:yr s):CG0 18 [.agg (scE s),i64 i] [] (zqS (zQ s i)) []:=by
 refine zc Tryz.func18 ?_;refine zb.t (zol s ht.tame)<|⟨λh=>uA (if_pos h),λh=>?_⟩;have hv:yp s:=Xa.1 h;refine⟨λh1=>uA ((if_neg h).trans (if_pos (.inl h1))),λh1=>?_⟩;intro hl0;refine⟨λh2=>uA ((if_neg h).trans (if_pos (.inr h2))),λh2=>?_⟩;have e0:=zk1 hv (i:=i) oM oM;have hl64:=zbm hv;have hle:=zsn ht hv i
 have hlen:(trs s.ns i).length<=8:=by
  obtain⟨k,rfl⟩:∃k:Nat,i=(k:Int):=⟨i.toNat,oM⟩;exact zon hv oM
 refine⟨List AF×Int,λz=>⟨[(6,.own 2),(4,.loc 1 0),(2,.loc 0 0),(1,i64 z.2)],[(2,.arr 45 afE 24 z.1),(1,.box 45 yX),(0,.box 26 (scE s))],3,39,0⟩,
  λz=>z.1++trs s.ns z.2=trs s.ns i/\ -1<=z.2/\z.2 < s.ns.length,λz=>(z.2+1).toNat,([],i),⟨rfl,by dsimp only;omega,by dsimp only;omega⟩,?_,?_⟩
 ·exact zE [(0,some 0),(1,some 1),(2,none)]
 rintro⟨p,j⟩ ⟨hp,hj1,hj2⟩
 have hp:p++trs s.ns j=trs s.ns i:=hp;have hj1: -1<=j:=hj1;have hj2:j < s.ns.length:=hj2;have hpl:p.length<=8:=by rw[← hp,Xj]at hlen;omega
 refine⟨λg=>?_,λg=>?_⟩
 ·have g:0<=j:=g;obtain⟨k,rfl⟩:∃k:Nat,j=(k:Int):=⟨j.toNat,oM⟩;refine Ob.o ?_;intro x hx;have hx:s.ns[k]? =some x:=hx;refine⟨AF,afE,[x.t],rfl,Ob.mk ⟨rfl,dC,dC,dC,λy hy=>by rw[Xq.1 hy];exact⟨rfl,rfl,rfl⟩⟩ ?_⟩;refine⟨[x.t],rfl,Ob.mk ⟨by show((p.length:Int)+1)*_<=_;dsimp only;omega,by show p.length+1<=_;omega,dC,λy hy=>by rw[Xq.1 hy];rfl⟩ ?_⟩;refine zb.t (zqN s k ht.tame) ?_;have ep:=zt0 hv (i:=k) oM;have hpn:=ziT (kq s.ns) k
  refine⟨(p++[x.t],vp (kq s.ns) k),⟨by dsimp only;rw[XK,← hp,zqI hx];rfl,hpn.1,by dsimp only;omega⟩,zL [0,1,4] ⟨rfl,rfl,rfl,congrArg (λq=>some (i64 q)) ep,trivial⟩ ⟨rfl,rfl,rfl,trivial⟩,by dsimp only;omega⟩
 ·have g:¬0<=j:=g;have e1:p=trs s.ns i:=by rw[← hp,ztU oM,Xy]
  subst e1;refine zb.see 2 _ (zkJ (trs s.ns i) hle) rfl rfl rfl ?_;rw[e0];exact zI .refl .refl
theorem zgW(s:Sc)(i:Int)(ht:yr s):CG0 18 [.agg (scO s 0),i64 i] [(0,uV s.ns)] (zqS (zQ s i)) [(0,uV s.ns)]:=by
 refine uw tok mix Tryz.func18 rfl rfl rfl (λ_ _=>rfl) rfl<|zb.t (zol s ht.tame)<|⟨λh=>⟨rfl,uA (if_pos h)⟩,λh=>?_⟩;have hv:yp s:=Xa.1 h;refine⟨λh1=>⟨rfl,uA ((if_neg h).trans (if_pos (.inl h1)))⟩,λh1=>?_⟩;intro hl0;refine⟨λh2=>⟨rfl,uA ((if_neg h).trans (if_pos (.inr h2)))⟩,λh2=>?_⟩;have e0:=zk1 hv (i:=i) oM oM;have hl64:=zbm hv;have hle:=zsn ht hv i
 have hlen:(trs s.ns i).length<=8:=by
  obtain⟨k,rfl⟩:∃k:Nat,i=(k:Int):=⟨i.toNat,oM⟩;exact zon hv oM
 refine⟨List AF×Int,λz=>⟨[(6,.own 3),(4,.loc 2 0),(2,.loc 1 0),(1,i64 z.2)],[(3,.arr 45 afE 24 z.1),(2,.box 45 yX),(1,.box 26 (scO s 0)),(0,uV s.ns)],4,39,1⟩,
  λz=>z.1++trs s.ns z.2=trs s.ns i/\ -1<=z.2/\z.2 < s.ns.length,λz=>(z.2+1).toNat,([],i),⟨rfl,by dsimp only;omega,by dsimp only;omega⟩,?_,?_⟩
 ·exact zE [(0,some 0),(1,some 1),(2,some 2),(3,none)]
 rintro⟨p,j⟩ ⟨hp,hj1,hj2⟩
 have hp:p++trs s.ns j=trs s.ns i:=hp;have hj1: -1<=j:=hj1;have hj2:j < s.ns.length:=hj2;have hpl:p.length<=8:=by rw[← hp,Xj]at hlen;omega
 refine⟨λg=>?_,λg=>?_⟩
 ·have g:0<=j:=g;obtain⟨k,rfl⟩:∃k:Nat,j=(k:Int):=⟨j.toNat,oM⟩;refine Ob.o<|Ob.o ?_;intro x hx;have hx:s.ns[k]? =some x:=hx;refine⟨AF,afE,[x.t],rfl,Ob.mk ⟨rfl,dC,dC,dC,λy hy=>by rw[Xq.1 hy];exact⟨rfl,rfl,rfl⟩⟩ ?_⟩;refine⟨[x.t],rfl,Ob.mk ⟨by show((p.length:Int)+1)*_<=_;dsimp only;omega,by show p.length+1<=_;omega,dC,λy hy=>by rw[Xq.1 hy];rfl⟩ ?_⟩;refine zb.t (zqN s k ht.tame) ?_;have ep:=zt0 hv (i:=k) oM;have hpn:=ziT (kq s.ns) k
  refine⟨(p++[x.t],vp (kq s.ns) k),⟨by dsimp only;rw[XK,← hp,zqI hx];rfl,hpn.1,by dsimp only;omega⟩,zL [0,1,2,5] ⟨rfl,rfl,rfl,congrArg (λq=>some (i64 q)) ep,trivial⟩ ⟨rfl,rfl,rfl,rfl,trivial⟩,by dsimp only;omega⟩
 ·have g:¬0<=j:=g;have e1:p=trs s.ns i:=by rw[← hp,ztU oM,Xy]
  subst e1;refine zb.see 3 _ (zkJ (trs s.ns i) hle) rfl rfl rfl ?_;rw[e0];exact⟨rfl,zI .refl .refl⟩
theorem zC7{s:Sc}(h:inS s i)(hm:m < (jc (kq s.ns) i).length)(ha:(jc (kq s.ns) i)[(jc (kq s.ns) i).length - 1 - m]? =some a):(zlu s i)[m]? =some (a:Int):=by
 have e:zlu s i=((jc (kq s.ns) i).reverse).map (λk:Nat=>(k:Int)):=if_pos h;rw[e,XC,Jl hm,ha];rfl
theorem zAL{s:Sc}(h:inS s i):(zlu s i).length=(jc (kq s.ns) i).length:=by
 have e:zlu s i=((jc (kq s.ns) i).reverse).map (λk:Nat=>(k:Int)):=if_pos h;rw[e,Xz,Qu]
theorem zop(s:Sc)(i:Int)(ht:yr s):CG0 27 [.agg (scE s),i64 i] [] (zqS (zQ s i)) []:=by
 refine zc Tryz.func27 ?_;refine zb.t (zqR s ht.tame)<|⟨λh=>uA (if_pos h),λh=>?_⟩;have hv:yp s:=Xa.1 h;refine⟨λh1=>uA ((if_neg h).trans (if_pos (.inl h1))),λh1=>?_⟩;intro hl0;refine⟨λh2=>uA ((if_neg h).trans (if_pos (.inr h2))),λh2=>?_⟩;have e0:=zk1 hv (i:=i) oM oM;have hl64:=zbm hv;have hle:=zsn ht hv i;obtain⟨i,rfl⟩:∃k:Nat,i=(k:Int):=⟨i.toNat,oM⟩;have hi:i < s.ns.length:=oM;have hin:inS s i:=⟨hv,oM,oM⟩;have hlen:=zon hv hi
 have hcl:(trs s.ns i).length=(jc (kq s.ns) i).length:=by unfold trs;rw[Xz]
 have hal:=zAL hin;refine zb.t (zC5 s i ht.tame) ?_;intro hl1;refine Ar.o ?_
 refine⟨Nat,λm=>⟨[(8,i64 ((m:Int) - 1)),(7,.own 2),(6,.sl uS (zlu s i)),(4,.loc 1 0),(2,.loc 0 0)],[(2,.arr 45 afE 24 ((trs s.ns i).take ((trs s.ns i).length - m))),(1,.box 45 yX),(0,.box 26 (scE s))],3,49,0⟩,
  λm=>m<=(trs s.ns i).length,λm=>m,(trs s.ns i).length,Xh _,?_,?_⟩
 ·exact jL [(0,some 0),(1,some 1),(2,none)] ⟨congrArg (λq=>some (i64 q)) oM,rfl,rfl,rfl,rfl,trivial⟩ ⟨by show Nat.beq (List.take _ _).length 0=true;rw[JG];rfl,rfl,rfl,trivial⟩
 intro m hm;have hm:m<=(trs s.ns i).length:=hm;refine⟨λg=>?_,λg=>?_⟩
 ·have g:0<=(m:Int) - 1:=g;obtain⟨k,rfl⟩:∃k,m=k+1:=⟨m - 1,oM⟩;obtain⟨a,ha⟩:∃a,(jc (kq s.ns) i)[(jc (kq s.ns) i).length - 1 - k]? =some a:=⟨_,Xb oM⟩
  have hta:(trs s.ns i)[(trs s.ns i).length - (k+1)]? =some (tAt s.ns a):=by
   rw[hcl,show(jc (kq s.ns) i).length - (k+1)=(jc (kq s.ns) i).length - 1 - k by omega];unfold trs;rw[XC,ha];rfl
  have han:=zC7 hin oM ha;have hd0:(kq s.ns)[i]? =some (s.ns[i]).d:=v6 (Xb hi);obtain⟨y,hy,_⟩:=v7 (zhL (zd9 hv) hd0 ha);have hya:=(Xc.1 hy).1;refine Dr.k<|Ob.o ?_;intro x hx;have hx:x=(a:Int):=Xi ((show(zlu s i)[k]? =some x by rw[← hx];congr 1;omega).symm.trans han);rw[hx];refine Ob.o ?_;intro z hz;have hz:z=y:=Xi ((show s.ns[a]? =some z from hz).symm.trans hy);rw[hz];have ht':tAt s.ns a=y.t:=zqH hy
  refine⟨AF,afE,[y.t],rfl,Ob.mk ⟨rfl,dC,dC,dC,λq hq=>by rw[Xq.1 hq];exact⟨rfl,rfl,rfl⟩⟩ ?_⟩;have hpl:((trs s.ns i).take ((trs s.ns i).length - (k+1))).length<=8:=by rw[Xk];omega
  refine⟨[y.t],rfl,Ob.mk ⟨by show((((trs s.ns i).take ((trs s.ns i).length - (k+1))).length:Int)+1)*_<=_;dsimp only;omega,by show((trs s.ns i).take ((trs s.ns i).length - (k+1))).length+1<=_;omega,dC,λq hq=>by rw[Xq.1 hq];rfl⟩ ?_⟩;refine Ar.o ?_
  have en:(trs s.ns i).take ((trs s.ns i).length - (k+1))++[y.t]=(trs s.ns i).take ((trs s.ns i).length - k):=by
   rw[show(trs s.ns i).length - k=(trs s.ns i).length - (k+1)+1 by omega,Xm,hta,ht'];rfl
  exact⟨k,by show k<=_;omega,zL [0,1,4] ⟨congrArg (λq=>some (i64 q)) oM,rfl,rfl,rfl,rfl,trivial⟩ ⟨congrArg (λq=>some (Mem.arr 45 afE 24 q)) en,rfl,rfl,trivial⟩,by show k < k+1;omega⟩
 ·have g:¬0<=(m:Int) - 1:=g;obtain rfl:m=0:=oM;have e1:(trs s.ns i).take ((trs s.ns i).length - 0)=trs s.ns i:=by rw[YA,X9]
  refine zb.see 2 _ (zoe ((trs s.ns i).take ((trs s.ns i).length - 0)) (by rw[e1];exact hle)) rfl rfl rfl ?_;rw[e0,e1];exact zI .refl .refl
theorem zvJ{l:List AF}:(vC l).2=0∨(vC l).2=5:=by
 unfold vC;split
 ·exact .inl rfl
 ·exact .inr rfl
theorem v8{s:Sc}{i:Int}:inS s i↔¬((zQ s i).2=18∨(zQ s i).2=8):=by
 unfold zQ
 by_cases h:yp s
 ·rw[if_neg (λk=>k h)]
  by_cases h1:i < 0∨s.ns.length<=i
  ·rw[if_pos h1];exact⟨λk=>by have:=k.2;omega,λk=>absurd (.inr rfl) k⟩
  ·rw[if_neg h1];refine⟨λ_=>?_,λ_=>⟨h,oM,oM⟩⟩
   rcases zvJ (l:=trs s.ns i) with e | e <;> rw[e] <;> decide
 ·rw[if_pos h];exact⟨λk=>absurd k.1 h,λk=>absurd (.inl rfl) k⟩
theorem zmQ{s:Sc}{i:Int}(h:¬inS s i):(zQ s i).1=qr/\(zQ s i).2≠0/\ki s i=zNd:=by
 refine⟨?_,?_,if_neg h⟩
 all_goals
  unfold zQ
  by_cases h0:yp s
  ·rw[if_neg (λk=>k h0),if_pos (by
    rcases Jg i 0 with k | k
    ·exact .inl k
    ·exact .inr (Q5.1 λq=>h ⟨h0,k,q⟩))]
   try (first | rfl | exact dC)
  ·rw[if_pos h0]
   try (first | rfl | exact dC)
theorem zeJ{s:Sc}{i:Int}(h:inS s i){n:Nd}(hn:s.ns[i.toNat]? =some n):ki s i=n:=by
 unfold ki;rw[if_pos h,hn];rfl
theorem zhO{s:Sc}(ht:yr s)(i:Int):(ki s i).path.length<=300/\(ki s i).clip.length<=300:=by
 by_cases h:inS s i
 ·obtain⟨n,hn⟩:=zap h;rw[zeJ h hn];have:=ht (zbm h.1) n (Xd hn);exact this.2.2
 ·rw[(zmQ h).2.2];exact⟨Xe _,Xe _⟩
def zlv(s:Sc)(i:Int):List SV:=afE (zQ s i).1++(pr ((zQ s i).2=0)::ndE (ki s i))
def z47:List SV:=i64 0::i64 0::i64 0::(yX++[.val (.slice none 0 0),i64 0,u8 0,i64 0,bl false,bl false,.val (.slice none 0 0),i64 0,.val (.slice none 0 0),
 i64 0,i64 0,i64 0,i64 0,.val (.slice none 0 0),i64 0,.val (.slice none 0 0),i64 0,i64 0,.val (.slice none 0 0),i64 0])
theorem zk2:LEs yX (afE qr):=show LEs (z4++(z4++(z4++(z4++(z4++z4))))) (afE qr) from LEs.append jU (LEs.append jU (LEs.append jU (LEs.append jU (LEs.append jU jU))))
theorem zAM:LEs z47 (ndE zNd):=
 .cons .refl (.cons .refl (.cons .refl (LEs.append zk2 (.cons zD (.cons .refl (.cons .refl (.cons .refl (.cons (zd dC) (.cons (zd dC) (.cons zD (.cons .refl (.cons zD
  (.cons .refl (.cons .refl (.cons .refl (.cons .refl (.cons zD (.cons .refl (.cons zD (.cons .refl (.cons .refl (.cons zD (.cons .refl .nil)))))))))))))))))))))))
theorem zgX{s:Sc}{i:Int}(h:¬inS s i):LE (.agg (yX++(bl false::z47))) (.agg (zlv s i)):=by
 obtain⟨h1,h2,h3⟩:=zmQ h;unfold zlv;rw[h1,h3];exact qF (LEs.append zk2 (.cons (zd h2) zAM))
theorem zk3(s:Sc)(i:Int)(ht:yr s):CG0 25 [.agg (scE s),i64 i] [] (.agg (zlv s i)) []:=by
 refine zc Tryz.func25 ?_;refine zb.t (zoo s i ht)<|⟨λh=>zgX λk=>v8.1 k (.inl h),λh1=>?_⟩;refine⟨λh=>zgX λk=>v8.1 k (.inr h),λh2=>?_⟩;have hin:inS s i:=v8.2 λk=>k.elim h1 h2
 obtain⟨n,hn⟩:=zap hin;have hi:=(Xc.1 hn).1;have hi0:=hin.2;refine Dr.k<|Ob.o ?_;intro x hx;have hx:x=n:=Xi ((show s.ns[i.toNat]? =some x from hx).symm.trans hn);rw[hx];have e:zlv s i=afE (zQ s i).1++(pr ((zQ s i).2=0)::ndE n):=by unfold zlv;rw[zeJ hin hn]
 rw[e];exact .refl
theorem zt1(s:Sc)(i:Int)(ht:yr s):CG0 25 [.agg (scO s 0),i64 i] [(0,uV s.ns)] (.agg (zlv s i)) [(0,uV s.ns)]:=by
 refine uw tok mix Tryz.func25 rfl rfl rfl (λ_ _=>rfl) rfl<|zb.give [0] 0 [.agg (scO s 0),i64 i] [(0,uV s.ns)] [(0,uV s.ns)] (zqS (zQ s i)) (zgW s i ht) LEs.refl rfl rfl rfl ⟨⟨_,rfl,rfl,trivial⟩,trivial⟩ rfl ⟨⟨rfl,trivial⟩,trivial⟩<|⟨λh=>⟨rfl,zgX λk=>v8.1 k (.inl h)⟩,λh1=>?_⟩;refine⟨λh=>⟨rfl,zgX λk=>v8.1 k (.inr h)⟩,λh2=>?_⟩;have hin:inS s i:=v8.2 λk=>k.elim h1 h2
 obtain⟨n,hn⟩:=zap hin;have hi:=(Xc.1 hn).1;have hi0:=hin.2;refine Dr.k<|Ob.o<|Ob.o ?_;intro x hx;have hx:x=n:=Xi ((show s.ns[i.toNat]? =some x from hx).symm.trans hn);rw[hx];have e:zlv s i=afE (zQ s i).1++(pr ((zQ s i).2=0)::ndE n):=by unfold zlv;rw[zeJ hin hn]
 rw[e];exact⟨rfl,.refl⟩
theorem zoq(r:AF×Int)(l:List Sg)(ht:r.1.le 100)(hl:l.length<=300):CG0 26 [.agg (afE r.1++[pr (r.2=0)]),.sl sgE l] [] (.sl zh (uC r l)) []:=by
 refine zc Tryz.func26 ?_;refine⟨λh=>by rw[show uC r l=[] from if_pos h];exact zD,λh=>?_⟩;have e:uC r l=(yq l r.1 32).1:=if_neg h;refine zb.t (zAp l r.1 32 (ht.up dC) hl) ?_;rw[e];exact⟨λk=>by rw[zqJ k];exact zD,λ_=>.refl⟩
theorem zAN(s:Sc)(i:Int)(ht:yr s):CG0 8 [.agg (scE s),i64 i] [] (.sl zh (jE s i)) []:=by
 refine zc Tryz.func8 ?_;refine zb.t (zk3 s i ht)<|⟨λh=>by rw[show jE s i=[] from if_pos (.inl h)];exact zD,λh1=>?_⟩;intro hl0;refine⟨λh=>by rw[show jE s i=[] from if_pos (.inr oM)];exact zD,λh2=>?_⟩;refine zb.t (zoq (zQ s i) (ki s i).path (yR s i) (zhO ht i).1) ?_;rw[show jE s i=uC (zQ s i) (ki s i).path from if_neg λk=>k.elim h1 λq=>h2 oM];exact .refl
theorem zyU(s:Sc)(i:Int)(ht:yr s):CG0 8 [.agg (scO s 0),i64 i] [(0,uV s.ns)] (.sl zh (jE s i)) [(0,uV s.ns)]:=by
 refine uw tok mix Tryz.func8 rfl rfl rfl (λ_ _=>rfl) rfl<|zb.give [0] 0 [.agg (scO s 0),i64 i] [(0,uV s.ns)] [(0,uV s.ns)] (.agg (zlv s i)) (zt1 s i ht) LEs.refl rfl rfl rfl ⟨⟨_,rfl,rfl,trivial⟩,trivial⟩ rfl ⟨⟨rfl,trivial⟩,trivial⟩<|⟨λh=>by rw[show jE s i=[] from if_pos (.inl h)];exact⟨rfl,zD⟩,λh1=>?_⟩;intro hl0;refine⟨λh=>by rw[show jE s i=[] from if_pos (.inr oM)];exact⟨rfl,zD⟩,λh2=>?_⟩;refine zb.t (zoq (zQ s i) (ki s i).path (yR s i) (zhO ht i).1) ?_
 rw[show jE s i=uC (zQ s i) (ki s i).path from if_neg λk=>k.elim h1 λq=>h2 oM];exact⟨rfl,.refl⟩
theorem zbF(a b c d:Int):(vJ a b c d).length<=300:=by
 unfold vJ;split
 ·exact(by decide:5<=300)
 ·exact Xe _
theorem zC8(s:Sc)(i:Int)(ht:yr s):CG0 12 [.agg (scE s),i64 i] [] (.sl zh (zci s i)) []:=by
 refine zc Tryz.func12 ?_;refine zb.t (zk3 s i ht)<|⟨λh=>by rw[show zci s i=[] from if_pos h];exact zD,λh=>?_⟩;refine Dr.k<|zb.t (zrP 0 0 (ki s i).im.w (ki s i).im.h)<|zb.t (zoq (zQ s i) (vJ 0 0 (ki s i).im.w (ki s i).im.h) (yR s i) (zbF _ _ _ _)) ?_;rw[show zci s i=uC (zQ s i) (vJ 0 0 (ki s i).im.w (ki s i).im.h) from if_neg h];exact .refl
def zk4(s:Sc)(i:Int):SV:=.tup [.sl zh (zil s i),pr (0 < (ki s i).clip.length)]
theorem zAO{s:Sc}{i:Int}(h:(ki s i).clip.length=0):LE (.tup [.val (.slice none 0 0),bl false]) (zk4 s i):=by
 unfold zk4;rw[show zil s i=[] from if_pos h];exact zI zD (zd oM)
theorem zyV{s:Sc}{i:Int}{v:SV}(h:(ki s i).clip.length≠0)(hv:LE v (.sl zh (uC (zQ s i) (ki s i).clip))):LE (.tup [v,bl true]) (zk4 s i):=by
 unfold zk4;rw[show zil s i=uC (zQ s i) (ki s i).clip from if_neg h];exact zI hv (zR oM)
theorem zqT(s:Sc)(i:Int)(ht:yr s):CG0 19 [.agg (scO s 0),i64 i] [(0,uV s.ns)] (zk4 s i) [(0,uV s.ns)]:=by
 refine uw tok mix Tryz.func19 rfl rfl rfl (λ_ _=>rfl) rfl<|zb.give [0] 0 [.agg (scO s 0),i64 i] [(0,uV s.ns)] [(0,uV s.ns)] (.agg (zlv s i)) (zt1 s i ht) LEs.refl rfl rfl rfl ⟨⟨_,rfl,rfl,trivial⟩,trivial⟩ rfl ⟨⟨rfl,trivial⟩,trivial⟩ ?_;intro hl0;refine⟨λh=>⟨rfl,zAO oM⟩,λh1=>?_⟩;exact zb.t (zoq (zQ s i) (ki s i).clip (yR s i) (zhO ht i).2)<|⟨rfl,zyV oM .refl⟩
theorem zk5{k:Nat}(h0:k≠0)(h:k < 4294967296):zm k=[⟨k,h⟩]:=by
 rw[zdz h0,show k / 4294967296=0 by omega,ju];congr 1;exact Fin.ext (Xu h)
theorem zt2(n:Int):ofQ (n:Rat)=⟨ofZ n,ofZ 1⟩:=by unfold ofQ;rw[JC,JB];rfl
theorem zbn{n:Int}(h:R64 n):(ofQ (n:Rat)).len<=3:=by
 have h1:=qT h;have h2:=qT (n:=1) dC;rw[zt2];show max (ofZ n).mag.length (ofZ 1).mag.length<=3;rw[zT,zT];omega
theorem zt3(n:Int)(h: -1048576<=n/\n<=1048576):CG0 45 [i64 n] [] (.agg (brE (ofQ (n:Rat)))) []:=by
 have e1:zm 1=[⟨1,dC⟩]:=zk5 dC dC;rw[zt2];refine zc Tryz.func45 ?_;refine⟨Dig,dgE,[⟨1,dC⟩],rfl,Ob.o10 ?_⟩;have hone:LEs [bl false,.sl dgE [(⟨1,dC⟩:Dig)]] (biE (ofZ 1)):=.cons (zd dC) (.cons (z9 (show _=zm 1 from e1.symm)) .nil);refine⟨λh0=>?_,λh0=>?_⟩
 ·have h0:¬n=0:=h0;refine Ar.o ?_;have hm:max n (-n)=(n.natAbs:Int):=oM;refine Ar.fit (show 0<=max n (-n)/\max n (-n)<=4294967295 by omega) ?_;have hk:n.natAbs < 4294967296:=oM;refine⟨Dig,dgE,[⟨n.natAbs,hk⟩],congrArg (λq=>[u32 q]) hm.symm,Ob.o10 ?_⟩;exact qF (.cons (zF (by show n < 0↔decide (n < 0)=true;simp)) (.cons (z9 (show _=zm n.natAbs from(zk5 oM hk).symm)) hone))
 ·have h0:n=0:=Xa.1 h0;subst h0;exact qF (.cons (zd dC) (.cons (by rw[show(ofZ 0).mag=[] from ju];exact zD) hone))
def zyW(s:Sc)(i:Int)(p:Pt):Pt×Int:=if (zQ s i).2≠0 then(zp,(zQ s i).2) else kv (zQ s i).1 p
def ntpE(s:Sc)(i:Int)(p:Pt):SV:=.tup [.agg (ptE (zyW s i p).1),i64 (zyW s i p).2]
theorem w_ntp(s:Sc)(i:Int)(p:Pt)(ht:yr s):CG0 21 [.agg (scE s),i64 i,.agg (ptE p)] [] (ntpE s i p) []:=by
 refine zc Tryz.func21 ?_;refine zb.t (zoo s i ht)<|⟨λh=>by rw[ntpE,show zyW s i p=(zp,(zQ s i).2) from if_pos h];exact zI .refl .refl,λh=>?_⟩;refine zb.t (zcL (zQ s i).1 p ((yR s i).up dC)) ?_;rw[ntpE,show zyW s i p=kv (zQ s i).1 p from if_neg h];exact zI .refl .refl
theorem zC9{t:AF}(ht:t.le 100):(zhK t).1.le 10200:=by
 unfold zhK
 split
 ·exact yD _
 split
 ·exact yD _
 split
 ·exact yD _
 ·rename_i h _;exact(ztQ ht dC h).up dC
def ziw(s:Sc)(i:Int)(p:Pt):(BR×BR)×Int:=if (zQ s i).2≠0 then((zBR,zBR),(zQ s i).2) else if ¬zn p then((zBR,zBR),6) else if (zhK (zQ s i).1).2≠0 then((zBR,zBR),(zhK (zQ s i).1).2)
 else((ofQ (y5 (zhK (zQ s i).1).1 (p.x:Rat) (p.y:Rat)),ofQ (y6 (zhK (zQ s i).1).1 (p.x:Rat) (p.y:Rat))),0)
def zyX(s:Sc)(i:Int)(p:Pt):SV:=.tup [.agg (brE (ziw s i p).1.1),.agg (brE (ziw s i p).1.2),i64 (ziw s i p).2]
theorem zBx:LE (.agg z4) (.agg (brE zBR)):=qF jU
variable{p:Pt}
theorem zor{s:Sc}{i:Int}(h:ziw s i p=((zBR,zBR),e)):LE (.tup [.agg z4,.agg z4,i64 e]) (zyX s i p):=by
 unfold zyX;rw[h];exact vt (.cons zBx (.cons zBx (.cons .refl .nil)))
theorem ptXb(h:zn p): -1048576<=p.x/\p.x<=1048576:=by unfold zn at h;omega
theorem ptYb(h:zn p): -1048576<=p.y/\p.y<=1048576:=by unfold zn at h;omega
theorem ptX(h:zn p):R64 p.x:=by have:=ptXb h;omega
theorem ptY(h:zn p):R64 p.y:=by have:=ptYb h;omega
theorem zDa(s:Sc)(i:Int)(p:Pt)(ht:yr s):CG0 20 [.agg (scO s 0),i64 i,.agg (ptE p)] [(0,uV s.ns)] (zyX s i p) [(0,uV s.ns)]:=by
 refine uw tok mix Tryz.func20 rfl rfl rfl (λ_ _=>rfl) rfl<|zb.give [0] 0 [.agg (scO s 0),i64 i] [(0,uV s.ns)] [(0,uV s.ns)] (zqS (zQ s i)) (zgW s i ht) LEs.refl rfl rfl rfl ⟨⟨_,rfl,rfl,trivial⟩,trivial⟩ rfl ⟨⟨rfl,trivial⟩,trivial⟩<|⟨λh=>⟨rfl,zor (if_pos h)⟩,λh1=>?_⟩;refine zb.t (qh p)<|⟨λh=>⟨rfl,zor ((if_neg h1).trans (if_pos h))⟩,λh2=>?_⟩;have hp:zn p:=Xa.1 h2;refine zb.t (zyv (zQ s i).1 (yR s i)) ?_
 refine⟨λh=>⟨rfl,zor ((if_neg h1).trans ((if_neg h2).trans (if_pos h)))⟩,λh3=>?_⟩;have hx:R64 p.x:=ptX hp;have hy:R64 p.y:=ptY hp;have il:=zC9 (yR s i);refine Dr.k<|zb.t (zt3 p.x (ptXb hp))<|zb.t (zt3 p.y (ptYb hp))<|zb.t (ziI (zhK (zQ s i).1).1 (ofQ (p.x:Rat)) (ofQ (p.y:Rat)) (il.up dC) (by have:=zbn hx;omega) (by have:=zbn hy;omega)) ?_;rw[z6,z6];refine Dr.d<|Ob.mk (by kernel_rfl) ?_;rw[zyX,show ziw s i p=_ from(if_neg h1).trans ((if_neg h2).trans (if_neg h3))]
 exact⟨rfl,vt (.cons .refl (.cons .refl (.cons .refl .nil)))⟩
theorem zAP(xs:List Pt):zhU (.arr 35 ptE 2 xs):=λ_ _=>rfl
theorem zAQ(n:Int)(h0:0<=n)(h1:n<=4096):CG0 136 [.val (.slice none 0 0),i64 n] [] (.own 0) [(0,.arr 35 ptE 2 [])]:=by
 refine qY tok mix Tryz.func136 rfl rfl rfl<|Br.mk (λh=>absurd h oM) (λ_=>?_);refine Ar.fit dC<|Ar.o<|Br.mk (λh=>?_) (λh=>?_)
 ·refine Ob.mk ⟨rfl,rfl,rfl⟩<|⟨Pt,ptE,zp,rfl,Ob.mk ⟨dC,h,(by show _*(16:Int)<=_;omega),oM⟩ ?_⟩;refine Sl.keep (Ob.mk ⟨rfl,KB _,oM⟩ ?_);exact⟨some 1,.own _ rfl,rfl,λ_ _=>rfl⟩
 ·exact⟨none,.nil rfl,rfl⟩
variable{rs:List (List Pt)}
theorem zhP{x:List Pt}(h:rs[i]? =some x):(rs.take (i+1)).flatten=(rs.take i).flatten++x:=by
 rw[Xm,h];simp
theorem zqU(rs:List (List Pt)):rs.flatten.length=qi rs:=by unfold qi;rw[List.length_flatten]
theorem zvK(rs:List (List Pt))(hc:qi rs<=4096):CG0 68 [.sl zh rs] [] (.own 0) [(0,.arr 35 ptE 2 rs.flatten)]:=by
 refine qY tok mix Tryz.func68 rfl rfl rfl ?_;intro hl0;refine⟨Nat,λi=>⟨[(11,i64 (i:Int)),(10,i64 (rs.length:Int)),(9,.sl zh rs),(3,i64 (qi (rs.take i):Int)),(0,.sl zh rs)],[],0,36,0⟩,λi=>i<=rs.length,λi=>rs.length - i,0,Xe _,zE [],?_⟩;intro i hi;have hi:i<=rs.length:=hi;refine⟨λg=>?_,λg=>?_⟩
 ·have g:(i:Int) < rs.length:=g;refine Ob.o ?_;intro x hx;have hx:rs[i]? =some x:=hx;have e:=vk hx;have:=zbB rs (i+1);intro hl1;refine Ar.o<|Br.mk (λh=>absurd h oM) (λ_=>?_);exact Ar.o<|⟨i+1,by show i+1<=_;omega,jL [] ⟨rfl,rfl,rfl,congrArg (λn=>some (i64 n)) (by rw[e];omega),rfl,trivial⟩ trivial,by dsimp only;omega⟩
 ·have g:¬(i:Int) < rs.length:=g;have et:rs.take i=rs:=Xf oM;refine zb.fresh _ _ (zAQ (qi (rs.take i):Int) oM (by rw[et];omega)) rfl (zAP _) (.inl rfl) ?_;intro hl2;refine⟨Nat,λi=>⟨[(27,i64 (i:Int)),(26,i64 (rs.length:Int)),(25,.sl zh rs),(6,.own 0)],[(0,.arr 35 ptE 2 (rs.take i).flatten)],1,36,0⟩,λi=>i<=rs.length,λi=>rs.length - i,0,Xe _,zf [0],?_⟩;intro j hj;have hj:j<=rs.length:=hj;refine⟨λg=>?_,λg=>?_⟩
  ·have g:(j:Int) < rs.length:=g;refine Ob.o ?_;intro x hx;have hx:rs[j]? =some x:=hx;have e:=vk hx;have k1:=zbB rs (j+1);have k2:=zqU (rs.take j);refine⟨x,rfl,Ob.mk ⟨(by show((rs.take j).flatten.length+x.length:Int)*(16:Int)<=_;omega),oM,dC,λ_ _=>rfl⟩ ?_⟩;exact Ar.o<|⟨j+1,by show j+1<=_;omega,zC [1] ⟨congrArg (λq=>some (Mem.arr 35 ptE 2 q)) (zhP hx).symm,trivial⟩,by dsimp only;omega⟩
  ·have g:¬(j:Int) < rs.length:=g;exact⟨some 0,.own _ rfl,congrArg (λq=>some (Mem.arr 35 ptE 2 q)) (by rw[Xf (show rs.length<=j by omega)]),λ_ _=>rfl⟩
def zaC(rs:List (List Pt)):Prop:=rs.flatten≠[]/\kw rs
instance (rs:List (List Pt)):Decidable (zaC rs):=inferInstanceAs (Decidable (_/\_))
def loR(rs:List (List Pt)):Pt:=if zaC rs then bnd mnP rs.flatten else zp
def hiR(rs:List (List Pt)):Pt:=if zaC rs then bnd mxP rs.flatten else zp
def pbE(rs:List (List Pt)):SV:=.tup [.agg (ptE (loR rs)),.agg (ptE (hiR rs)),pr (zaC rs)]
theorem zyY(h:¬zaC rs):LE (.tup [.agg [i64 0,i64 0],.agg [i64 0,i64 0],bl false]) (pbE rs):=by
 unfold pbE loR hiR;rw[if_neg h,if_neg h];exact vt (.cons .refl (.cons .refl (.cons (zd h) .nil)))
theorem zDb(rs:List (List Pt))(hc:qi rs<=4096):CG0 33 [.sl zh rs] [] (pbE rs) []:=by
 refine zc Tryz.func33 ?_;refine zb.t ((zvK rs hc).plain rfl) ?_;generalize hq:rs.flatten=q;have hql:q.length<=4096:=by rw[← hq,zqU];exact hc
 intro hl0;refine⟨λh=>zyY λk=>k.1 (by rw[hq];exact Xn oM),λh1=>?_⟩;refine zb.t (zj7 rs λr hr=>?_) ?_
 ·obtain⟨j,hj,e⟩:=Ka hr;have k1:=vk (rs:=rs) (i:=j) (Xb hj);have k2:=zbB rs (j+1);rw[e]at k1;omega
 refine⟨λh=>zyY λk=>h k.2,λh2=>?_⟩;have h2:kw rs:=Xa.1 h2;have hne:q≠[]:=λk=>h1 (by rw[k];rfl)
 have hs:zaC rs:=⟨by rw[hq];exact hne,h2⟩
 obtain⟨p0,t0,hq0⟩:∃p t,q=p::t:=by
  cases q with
  | nil=>exact absurd rfl hne
  | cons p t=>exact⟨p,t,rfl⟩
 have hp0:q[0]? =some p0:=by rw[hq0];rfl
 refine Dr.d<|Ob.o ?_;intro x hx;have hx:x=p0:=Xi ((show q[0]? =some x from hx).symm.trans hp0);rw[hx];refine Ob.o ?_;intro y hy;have hy:y=p0:=Xi ((show q[0]? =some y from hy).symm.trans hp0);rw[hy];refine Ob.mk (by kernel_rfl) ?_;intro hl1
 refine⟨Nat,λi=>⟨[(30,i64 (i:Int)),(29,i64 (q.length:Int)),(28,.sl ptE q),(7,.loc 3 0),(6,.loc 2 0),(3,.loc 1 0),(2,.loc 0 0)],
  [(3,.box 35 (ptE ((q.take i).foldl mxP p0))),(2,.box 35 (ptE ((q.take i).foldl mnP p0))),(1,.box 35 (ptE zp)),(0,.box 35 (ptE zp))],4,59,0⟩,
  λi=>i<=q.length,λi=>q.length - i,0,Xe _,?_,?_⟩
 ·exact zf [0,1,2,3]
 intro i hi;have hi:i<=q.length:=hi;refine⟨λg=>?_,λg=>?_⟩
 ·have g:(i:Int) < q.length:=g;refine Ob.o ?_;intro z hz;have hz:q[i]? =some z:=hz;have e:∀f:Pt->Pt->Pt,(q.take (i+1)).foldl f p0=f ((q.take i).foldl f p0) z:=λf=>by rw[Xm,hz,KC];rfl
  refine Ar.o ?_
  exact⟨i+1,by show i+1<=_;omega,qA [(0,some 0),(1,some 1),(2,some 2),(3,some 3)] rfl rfl rfl ⟨rfl,rfl,rfl,rfl,rfl,rfl,rfl,trivial⟩
   ⟨congrArg (λp=>some (Mem.box 35 (ptE p))) (e mxP).symm,congrArg (λp=>some (Mem.box 35 (ptE p))) (e mnP).symm,rfl,rfl,trivial⟩,by dsimp only;omega⟩
 ·have g:¬(i:Int) < q.length:=g;have et:q.take i=q:=Xf oM;refine Dr.d<|Ob.mk (by kernel_rfl) ?_
  have eb:∀f:Pt->Pt->Pt,(q.take i).foldl f p0=bnd f rs.flatten:=λf=>by
   rw[et,hq];unfold bnd;rw[hq0];rfl
  rw[eb,eb];unfold pbE loR hiR;rw[if_pos hs,if_pos hs];exact vt (.cons .refl (.cons .refl (.cons (zR hs) .nil)))
def zbo(st:Option (Pt×Pt))(rs:List (List Pt)):Option (Pt×Pt):=if ¬zaC rs then st else match st with
 | none=>some (mnP (loR rs) (loR rs),mxP (hiR rs) (hiR rs))
 | some (a,b)=>some (mnP a (loR rs),mxP b (hiR rs))
def zqV(l:List (List (List Pt))):Option (Pt×Pt):=l.foldl zbo none
def oLo(st:Option (Pt×Pt)):Pt:=match st with | none=>zp | some (a,_)=>a
def oHi(st:Option (Pt×Pt)):Pt:=match st with | none=>zp | some (_,b)=>b
def ze8(st:Option (Pt×Pt))(u v:Int):Pt:=match st with
 | none=>zp
 | some (a,b)=>⟨(qQ a b u 256).x,(qQ a b v 256).y⟩
def ut(s:Sc)(i:Int):List (List (List Pt)):=[jE s i,uU s i,zci s i]
def ancE(s:Sc)(i u v:Int):SV:=.tup [.agg (ptE (ze8 (zqV (ut s i)) u v)),pr ((zqV (ut s i)).isSome=true)]
def zyZ(l:List (List Pt)):List SV:=[.sl zh l]
theorem zeK (s:Sc) (i u v:Int) (ht:yr s) (hS:CG0 10 [.agg (scE s),i64 i] [] (.sl zh (uU s i)) [])
  (hz:∀l∈ut s i,qi l<=4096):CG0 14 [.agg (scE s),i64 i,i64 u,i64 v] [] (ancE s i u v) []:=by
 refine zc Tryz.func14 ?_;refine Dr.d<|zb.t (zAN s i ht)<|zb.t hS<|zb.t (zC8 s i ht)<|⟨List (List Pt),zyZ,ut s i,rfl,Ob.o0 ?_⟩;intro hl0;refine Ob.mk (by kernel_rfl) ?_;have hl3:(ut s i).length=3:=rfl;generalize hL:ut s i=L at hz hl3 ⊢
 refine⟨Nat×Option (Pt×Pt),λq=>⟨[(29,i64 (q.1:Int)),(28,i64 (L.length:Int)),(27,.own 4),(12,pr (q.2.isSome=true)),(11,.loc 3 0),(10,.loc 2 0),(8,.loc 1 0),(4,.loc 0 0),(3,i64 v),(2,i64 u)],
  [(4,.arr 30 zyZ 1 L),(3,.box 35 (ptE (oHi q.2))),(2,.box 35 (ptE (oLo q.2))),(1,.box 35 (ptE zp)),(0,.box 26 (scE s))],5,82,0⟩,
  λq=>q.1<=L.length/\q.2=(L.take q.1).foldl zbo none,λq=>L.length - q.1,(0,none),⟨Xe _,rfl⟩,?_,?_⟩
 ·exact(qC (t:=12) rfl (zd (q:=(none:Option (Pt×Pt)).isSome=true) dC)).trans (zf [0,1,2,3,4])
 rintro⟨j,st⟩ ⟨h1,h2⟩
 have h1:j<=L.length:=h1;have h2:st=(L.take j).foldl zbo none:=h2;refine⟨λg=>?_,λg=>?_⟩
 ·have g:(j:Int) < L.length:=g;refine Ob.mk (by dsimp only;omega)<|Ob.mk (by dsimp only;omega) ?_;intro x hx;have hx:L[j]? =some x:=hx;have hxz:=hz x (Xd hx);have en:zbo st x=(L.take (j+1)).foldl zbo none:=by rw[h2,Xm,hx,KC];rfl
  have inv:(j+1,zbo st x).1<=L.length/\(j+1,zbo st x).2=(L.take (j+1,zbo st x).1).foldl zbo none:=⟨by show j+1<=_;omega,en⟩;refine zb.t (zDb x hxz)<|⟨λh3=>?_,λh3=>?_⟩
  ·refine Ar.fit (by dsimp only;omega) ?_;have es:zbo st x=st:=if_pos h3;refine⟨(j+1,zbo st x),inv,qA [(0,some 0),(1,some 1),(2,some 2),(3,some 3),(4,some 4)] rfl rfl rfl ?_ ?_,by show L.length - (j+1) < L.length - j;omega⟩
   ·rw[es];exact⟨rfl,rfl,rfl,rfl,rfl,rfl,rfl,rfl,rfl,rfl,trivial⟩
   ·rw[es];exact⟨rfl,rfl,rfl,rfl,rfl,trivial⟩
  ·refine⟨λh4=>?_,λh4=>?_⟩
   ·have h4:st=none:=by
     cases st with
     | none=>rfl
     | some a=>exact absurd rfl h4
    subst h4;have es:zbo none x=some (mnP (loR x) (loR x),mxP (hiR x) (hiR x)):=if_neg h3;refine Dr.d<|Ob.mk (by kernel_rfl)<|Ar.fit (by dsimp only;omega)<|⟨(j+1,zbo none x),inv,(qC (t:=12) rfl (zR (q:=(zbo none x).isSome=true) (by rw[es];rfl))).trans (qA [(0,some 0),(1,some 1),(2,some 2),(3,some 3),(4,some 4)] rfl rfl rfl ⟨rfl,rfl,rfl,rfl,rfl,rfl,rfl,rfl,rfl,rfl,trivial⟩ ?_),by show L.length - (j+1) < L.length - j;omega⟩;rw[es];exact⟨rfl,rfl,rfl,rfl,rfl,trivial⟩
   ·obtain⟨⟨a,b⟩,h4⟩:∃a,st=some a:=by
     cases st with
     | none=>exact absurd (show ¬(none:Option (Pt×Pt)).isSome=true by decide) h4
     | some a=>exact⟨a,rfl⟩
    subst h4;have es:zbo (some (a,b)) x=some (mnP a (loR x),mxP b (hiR x)):=if_neg h3;refine Ar.fit (by dsimp only;omega)<|⟨(j+1,zbo (some (a,b)) x),inv,(qC (t:=12) rfl (zF (q:=(zbo (some (a,b)) x).isSome=true) ⟨λ_=>by rw[es];rfl,λ_=>rfl⟩)).trans (qA [(0,some 0),(1,some 1),(2,some 2),(3,some 3),(4,some 4)] rfl rfl rfl ⟨rfl,rfl,rfl,rfl,rfl,rfl,rfl,rfl,rfl,rfl,trivial⟩ ?_),by show L.length - (j+1) < L.length - j;omega⟩;rw[es];exact⟨rfl,rfl,rfl,rfl,rfl,trivial⟩
 ·have g:¬(j:Int) < L.length:=g;rw[Xf oM]at h2;have e0:zqV (ut s i)=st:=by rw[hL,h2];rfl
  unfold ancE;rw[e0];clear h2 e0;refine⟨λh4=>?_,λh4=>?_⟩
  ·have h4:st=none:=by
    cases st with
    | none=>rfl
    | some a=>exact absurd rfl h4
   subst h4;exact zI .refl (zd (show ¬(none:Option (Pt×Pt)).isSome=true by decide))
  ·obtain⟨⟨a,b⟩,h4⟩:∃a,st=some a:=by
    cases st with
    | none=>exact absurd (show ¬(none:Option (Pt×Pt)).isSome=true by decide) h4
    | some a=>exact⟨a,rfl⟩
   subst h4;exact Dr.d<|zb.t (znG a b u 256)<|zb.t (znG a b v 256)<|Ob.mk (by kernel_rfl)<|zI .refl (zR rfl)
theorem zqW(s:Sc)(i:Int)(ht:yr s)(h:(ki s i).k≠2∨(ki s i).strk.length=0):CG0 10 [.agg (scE s),i64 i] [] (.val (.slice none 0 0)) []:=by
 refine zc Tryz.func10 ?_;refine zb.t (zk3 s i ht)<|⟨λ_=>.refl,λh1=>?_⟩;intro hl0;refine⟨λ_=>.refl,λh2=>?_⟩;exact(h.elim h1 λk=>h2 oM).elim
theorem zAR(s:Sc)(i:Int)(ht:yr s)(h:(ki s i).k≠3):CG0 12 [.agg (scE s),i64 i] [] (.val (.slice none 0 0)) []:=by
 refine zc Tryz.func12 ?_;exact zb.t (zk3 s i ht)<|⟨λ_=>.refl,λh1=>absurd h h1⟩
theorem zk6{s:Sc}{i:Int}(h:(ki s i).k≠2∨(ki s i).strk.length=0):uU s i=[]:=if_pos h
def zk7(t:AF):List BR:=[t.a,t.b,t.c,t.d,t.e,t.f]
theorem zt4(t:AF)(n:Nat):t.le n↔∀x∈zk7 t,x.len<=n:=by
 unfold zk7 AF.le;simp
instance instLe51 (t:AF) (n:Nat):Decidable (t.le n):=inferInstanceAs (Decidable (_/\_))
theorem zt5(t:AF):CG0 16 [.agg (afE t)] [] (pr (t.le 12)) []:=by
 refine zc Tryz.func16 ?_;refine⟨BR,brE,zk7 t,rfl,Ob.o0 ?_⟩;refine⟨Nat,λi=>⟨[(3,.own 0),(4,i64 (i:Int))],[(0,.arr 43 brE 4 (zk7 t))],1,42,0⟩,λi=>i<=(zk7 t).length/\∀x∈(zk7 t).take i,x.len<=12,λi=>(zk7 t).length - i,0,⟨Xe _,λx hx=>by cases hx⟩,?_,?_⟩
 ·exact zf [1]
 rintro i ⟨h1,h2⟩
 intro hl1;refine⟨λg=>?_,λg=>?_⟩
 ·have g:(i:Int) < (zk7 t).length:=g;refine Ob.o<|Ob.o ?_;intro x hx;have hx:(zk7 t)[i]? =some x:=hx;have no:¬x.len<=12->¬t.le 12:=λh k=>h ((zt4 t 12).1 k x (Xd hx))
  intro hl2;refine⟨λb=>?_,λb=>?_⟩
  ·have b:(12:Int) < x.num.mag.length:=b;exact zd (no (by unfold BR.len;omega))
  have b:¬(12:Int) < x.num.mag.length:=b;refine Ob.o<|Ob.o ?_;intro x' hx';have ex:x'=x:=Xi ((show(zk7 t)[i]? =some x' from hx').symm.trans hx);rw[ex];intro hl3;refine⟨λc=>?_,λc=>?_⟩
  ·have c:(12:Int) < x.den.mag.length:=c;exact zd (no (by unfold BR.len;omega))
  have c:¬(12:Int) < x.den.mag.length:=c;exact Ar.o<|⟨i+1,⟨oM,yC hx h2 (by unfold BR.len;omega)⟩,zf [0],by dsimp only;omega⟩
 ·have g:¬(i:Int) < (zk7 t).length:=g;rw[Xf oM]at h2;exact zR ((zt4 t 12).2 h2)
instance (lo hi p:Pt):Decidable (inB lo hi p):=inferInstanceAs (Decidable (_/\_))
theorem q_one:((1:Int):Rat)=1:=rfl
theorem q_zero:((0:Int):Rat)=0:=rfl
theorem zmR{t:AF}(h:(kv t p).2=0):(kv t p).1=goP t p:=by
 unfold kv at h ⊢
 by_cases h1:t.ok
 ·rw[kQ h1]at h ⊢
  by_cases h2:zn p
  ·rw[kQ h2]at h ⊢
   by_cases h3:zn (goP t p)
   ·rw[if_pos h3]
   ·rw[if_neg h3]at h;exact absurd h dC
  ·rw[if_pos h2]at h;exact absurd h dC
 ·rw[if_pos h1]at h;exact absurd h dC
theorem zhQ{t:AF}:∀{l:List Pt},zdc t l=0->∀p∈l,(kv t p).2=0
 | p::r,h,q,hq=>by
  unfold zdc at h
  by_cases k:(kv t p).2=0
  ·rw[qR k]at h
   cases hq with
   | head=>exact k
   | tail _ hq=>exact zhQ h q hq
  ·rw[if_pos k]at h;exact absurd h k
theorem zhR{t:AF}:∀{l:List (List Pt)},zdd t l=0->∀r∈l,zdc t r=0
 | p::r,h,q,hq=>by
  unfold zdd at h
  by_cases k:zdc t p=0
  ·rw[qR k]at h
   cases hq with
   | head=>exact k
   | tail _ hq=>exact zhR h q hq
  ·rw[if_pos k]at h;exact absurd h k
theorem zso{t:AF}(h:(yl rs t).2=0):(yl rs t).1=rs.map (List.map (goP t)):=by
 unfold yl at h ⊢
 by_cases k:kw rs
 ·rw[kQ k]at h ⊢
  by_cases e:zdd t rs=0
  ·rw[qR e];refine Qv λr hr=>Qv λp hp=>?_
   exact zmR (zhQ (zhR e r hr) p hp)
  ·rw[if_pos e]at h;exact absurd h e
 ·rw[if_pos k]at h;exact absurd h dC
theorem zvL(x y:BR)(hx:x.len<=1000)(hy:y.len<=1000):CG0 37 [.agg (brE x),.agg (brE y)] [] (.agg (afE (afQ x.v ((0:Int):Rat) ((0:Int):Rat) y.v ((0:Int):Rat) ((0:Int):Rat)))) []:=by
 refine zc Tryz.func37 ?_
 refine zb.to _ ((zgd 0 0 0 0 zBR zBR dC dC dC dC dC dC).args
  (.cons .refl (.cons .refl (.cons .refl (.cons .refl (.cons (qF jU) (.cons (qF jU) .nil))))))) rfl ?_
 rw[zw9];exact zb.t (kz x oM)<|zb.t (kz y oM)<|.refl
theorem LEs.d:∀{us bs:List SV},LEs us bs->ym.flats bs=true->jr us bs
 | [],[],_,_=>.nil
 | _::_,b::bs,.cons h t,hf=>by
  have hb:ym b=true/\ym.flats bs=true:=by
   have hf:(match ym b with | true=>ym.flats bs | false=>false)=true:=hf
   cases hb:ym b with
   | true=>rw[hb]at hf;exact⟨rfl,hf⟩
   | false=>rw[hb]at hf;cases hf
  exact .cons (λS w v hd=>uH hb.1 (h S (λ_=>False) (λ_=>none) w v (.d _ _ hd))) (LEs.d t hb.2)
def scl2:AF:=afQ ((2:Int):Rat) ((0:Int):Rat) ((0:Int):Rat) ((2:Int):Rat) ((0:Int):Rat) ((0:Int):Rat)
def nd0:Nd:={ zNd with id:=1,k:=1,t:=scl2,op:=255,mode:=1 }
def nd1:Nd:={ zNd with id:=2,k:=2,d:=1,t:=idA,path:=vJ 0 0 1 1,rule:=1,fill:=[zbj 1] }
def nd1c:Nd:={ nd1 with clip:=vJ 0 0 1 1 }
def nd1d:Nd:={ nd1c with cr:=2 }
def pgS:Sc:=⟨4,4,⟨0,0,0,0⟩,[nd0,nd1]⟩
def pgC:Sc:=⟨4,4,⟨0,0,0,0⟩,[nd0,nd1d]⟩
def zSc:Sc:=⟨0,0,⟨0,0,0,0⟩,[]⟩
def pc1:List SV:=i64 1::u8 0::u8 0::u8 0::u8 0::i64 0::i64 0::i64 0::i64 0::i64 0::nil1::i64 0::i64 0::i64 0::nil1::i64 0::yX
def uE(_:Unit):List SV:=pc1
def zsp:List SV:=[i64 0,i64 0,i64 0,i64 0,.val (.slice none 0 0),i64 0,.val (.slice none 0 0),i64 0,i64 0,.val (.slice none 0 0),i64 0]
def cs0:List SV:=i64 1::i64 1::i64 0::(afE scl2++([.val (.slice none 0 0),i64 0,u8 255,i64 1,bl false,bl false,.val (.slice none 0 0),i64 0,.val (.slice none 0 0)]++zsp))
def cs1(f:SV):List SV:=i64 2::i64 2::i64 1::(afE idA++([.val (.slice none 0 0),i64 0,u8 0,i64 0,bl false,bl false,.sl sgE (vJ 0 0 1 1),i64 1,f]++zsp))
theorem zt6:LEs zsp (jo ⟨0,0,0,0,[],0⟩++(.sl vf []::(zkK ⟨0,0,[]⟩++[i64 0]))):=
 .cons .refl (.cons .refl (.cons .refl (.cons .refl (.cons zD (.cons .refl (.cons zD (.cons .refl (.cons .refl (.cons zD (.cons .refl .nil))))))))))
theorem zDc:LEs cs0 (ndE nd0):=.cons .refl (.cons .refl (.cons .refl (LEs.append .refl (.cons zD (.cons .refl (.cons .refl (.cons .refl (.cons (zd dC) (.cons (zd dC) (.cons zD (.cons .refl (.cons zD zt6))))))))))))
theorem zDd:LEs pc1 (vf (zbj 1)):=
 .cons .refl (.cons .refl (.cons .refl (.cons .refl (.cons .refl (.cons .refl (.cons .refl (.cons .refl (.cons .refl (.cons .refl (.cons zD (.cons .refl (.cons .refl (.cons .refl (.cons zD (.cons .refl zkO)))))))))))))))
theorem zDe:LEs (cs1 (.sl uE [()])) (ndE nd1):=.cons .refl (.cons .refl (.cons .refl (LEs.append .refl (.cons zD (.cons .refl (.cons .refl (.cons .refl (.cons (zd dC) (.cons (zd dC) (.cons .refl (.cons .refl
 (.cons (zyk (e:=uE) (g:=vf) (λ_=>zbj 1) (xs:=[()]) λ_ _=>LEs.d zDd rfl) zt6))))))))))))
theorem zDf(f g:SV)(j:Nat)(s':SV)(h:(cs1 g)[j]? =some s'):∃s,(cs1 f)[j]? =some s/\(s'=s∨(s=f/\s'=g)):=by
 have e:cs1 g=(cs1 f).set 35 g:=rfl;have hl:(cs1 f).length=47:=rfl;rw[e,Kf]at h
 by_cases c:35=j
 ·subst c;rw[if_pos rfl,if_pos (by rw[hl];decide)]at h;exact⟨f,rfl,.inr ⟨rfl,(Xi h).symm⟩⟩
 ·rw[if_neg c]at h;exact⟨s',h,.inl rfl⟩
theorem zDg:CG0 17 [] [] (.agg (scO pgS 0)) [(0,uV [nd0,nd1])]:=by
 refine zeP tok mix Tryz.func17 rfl rfl rfl ?_;have r2:R64 2:=dC;have l2:=zbn r2;refine zb.t (jm 2 r2)<|zb.t (jm 2 r2)<|zb.t (zvL (ofQ ((2:Int):Rat)) (ofQ ((2:Int):Rat)) oM oM) ?_;rw[z6];refine Dr.d<|zb.t zge<|zb.t (zh9 0 0 1 1)<|⟨Unit,uE,[()],rfl,Ob.o0 ?_⟩;refine⟨[cs0,cs1 (.own 2)],rfl,Ob.mk ⟨rfl,dC,dC,dC,λx hx=>?_⟩ ?_⟩
 ·rcases Kc.1 hx with rfl | hx
  ·rfl
  ·rw[Xq.1 hx];rfl
 refine Ob.mk (by kernel_rfl) ?_
 refine⟨_,((zby (sz0:=47) (T0:=55) 2 3 (enc:=uE) (ys:=[()]) (xs:=[cs0,cs1 (.own 2)]) rfl rfl (xs':=[cs0,cs1 (.sl uE [()])]) rfl (λx hx=>?_) (λi j x' s' hx hs=>?_)).trans
  (zek 3 (xs:=[cs0,cs1 (.sl uE [()])]) (ys:=[nd0,nd1].map ndE) rfl (.cons zDc (.cons zDe .nil)))).trans (zf3 3 ndE [nd0,nd1] rfl (λ_ _=>rfl)),some 3,?_,rfl,λ_ _=>rfl⟩
 ·rcases Kc.1 hx with rfl | hx
  ·rfl
  ·rw[Xq.1 hx];rfl
 ·match i,hx with
  | 0,hx=>cases hx;exact⟨cs0,s',rfl,hs,.inl rfl⟩
  | 1,hx=>
   cases hx
   obtain⟨s,h1,h2⟩:=zDf (.own 2) _ j s' hs;exact⟨_,s,rfl,h1,h2⟩
  | i+2,hx=>cases hx
 ·exact zwu (.cons (za5 rfl) (.cons (za5 rfl) (.cons (za5 rfl) (.cons (za5 rfl) (.cons (za5 rfl) (.cons (za5 rfl) (.cons (.own 3 rfl) .nil)))))))
end Go.Gs
