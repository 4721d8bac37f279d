/- Scenes: what is qM; a node and its ancestors: plain. -/
import Derived.Test.YtakicgnbhdpknaaGreatDoorNBK
set_option maxRecDepth 100000
set_option maxHeartbeats 8000000
set_option linter.all false
namespace Go.Gs
open Proofs.Tryz
section
def uB(l:LW)(i:Nat):Int:=match l[i]? with
 |some n=>zg7 l i n
 |none=>0
variable{l:LW}{i:Nat}
def zcV{n:Nd}(h:l[i]?=some n):uB l i=zg7 l i n:=by unfold uB;rw[h]
def zoR(l:LW):LK:=(List.range l.length).find? λi=>decide (uB l i≠0)
def zBI(hi:i<l.length)(h:∀j,j<i->uB l j=0)(hb:uB l i≠0):zoR l=some i:=by
 unfold zoR;rw[JX];exact⟨by simpa using hb,Kd.2 hi,λj hj=>by simpa using h j hj⟩
def zwg(h:∀j,j<l.length->uB l j=0):zoR l=none:=by
 unfold zoR;rw[JW];exact λj hj=>by simpa using h j hj
def zwh(h:zoR l=some i):i<l.length/\uB l i≠0:=by
 unfold zoR at h;rw[JX]at h;exact⟨Kd.1 h.2.1,by simpa using h.1⟩
def zfj(s:Sc):Prop:=s.w<1∨256<s.w∨s.h<1∨256<s.h
instance (s:Sc):Decidable (zfj s):=wj
def ziN(s:Sc):Int×Int:=if zfj s then(6,0) else if 64<s.ns.length then(5,64) else match zoR s.ns with
 |some i=>(uB s.ns i,i)
 |none=>(0,0)
def jE(s:Sc):Prop:=(ziN s).1=0
instance (s:Sc):Decidable (jE s):=inferInstanceAs (Decidable (_=_))
def zlg{s:Sc}:jE s↔¬zfj s/\s.ns.length<=64/\∀j,j<s.ns.length->uB s.ns j=0:=by
 unfold jE ziN
 by_cases h1:zfj s
 ·rw[Xe h1];exact⟨λh=>absurd h dC,λh=>absurd h1 h.1⟩
 rw[Xc h1]
 by_cases h2:64<s.ns.length
 ·rw[Xe h2];exact⟨λh=>absurd h dC,λh=>absurd h.2.1 oM⟩
 rw[Xc h2]
 cases hb:zoR s.ns with
 |some i=>
  obtain⟨h3,h4⟩:=zwh hb;exact⟨λh=>absurd h h4,λh=>absurd (h.2.2 i h3) h4⟩
 |none=>
  refine⟨λ_=>⟨h1,oM,λj hj=>?_⟩,λ_=>rfl⟩;unfold zoR at hb;rw[JW]at hb
  simpa using hb j hj
def znc{n:Nd}(h:zg7 l i n=0):y7 n=0/\n.id∉(l.take i).map Nd.id/\jD l i n:=by
 unfold zg7 at h
 by_cases h1:y7 n≠0
 ·rw[Xe h1]at h;exact absurd h h1
 rw[Xc h1]at h
 by_cases h2:n.id∈(l.take i).map Nd.id
 ·rw[Xe h2]at h;exact absurd h dC
 rw[Xc h2]at h
 by_cases h3:jD l i n
 ·exact⟨Xa.1 h1,h2,h3⟩
 rw[Xe h3]at h;exact absurd h dC
def zd9{n:Nd}(h:y7 n=0):(1<=n.k/\n.k<=3)/\(0<=n.d/\n.d<8)/\n.t.ok/\zbr n.t≠0/\qM n.clip/\zg6 n:=by
 unfold y7 at h
 by_cases h1:n.k<1∨3<n.k
 ·rw[Xe h1]at h;exact absurd h dC
 rw[Xc h1]at h
 by_cases h2:n.id<1∨1073741824<n.id∨n.d<0∨8<=n.d
 ·rw[Xe h2]at h;exact absurd h dC
 rw[Xc h2]at h
 by_cases h3:¬n.t.ok
 ·rw[Xe h3]at h;exact absurd h dC
 rw[Xc h3]at h
 by_cases h4:zbr n.t=0
 ·rw[Xe h4]at h;exact absurd h dC
 rw[Xc h4]at h
 by_cases h5:¬qM n.clip
 ·rw[Xe h5]at h;exact absurd h dC
 rw[Xc h5]at h
 by_cases h6:¬zg6 n
 ·rw[Xe h6]at h;exact absurd h dC
 exact⟨oM,oM,Xa.1 h3,h4,Xa.1 h5,Xa.1 h6⟩
def zcW{s:Sc}(h:jE s){n:Nd}(hn:s.ns[i]?=some n):y7 n=0/\n.id∉(s.ns.take i).map Nd.id/\jD s.ns i n:=by
 have:=(zlg.1 h).2.2 i (Xd.1 hn).1;rw[zcV hn]at this;exact znc this
def zI(l:LW):LV:=l.map Nd.d
def yQ{n:Nd}(h:l[i]?=some n):(zI l)[i]?=some n.d:=by unfold zI;rw[XD,h];rfl
def vU{d:Int}(h:(zI l)[i]?=some d):∃n,l[i]?=some n/\n.d=d:=by
 unfold zI at h;rw[XD]at h
 cases hn:l[i]? with
 |none=>rw[hn]at h;cases h
 |some n=>rw[hn]at h;exact⟨n,rfl,Xm h⟩
def zal{s:Sc}(h:jE s):zd5 (zI s.ns):=by
 refine⟨λd hd=>?_,λd hd=>?_,λi a b ha hb=>?_⟩
 ·obtain⟨n,hn,rfl⟩:=vU hd;have:=(zcW h hn).2.2;unfold jD at this;rw[show s.ns[0-1]?=some n from hn]at this;exact this
 ·obtain⟨i,hi,he⟩:=Kl hd;obtain⟨n,hn,rfl⟩:=vU (he ▸ Xb hi);exact(zd9 (zcW h hn).1).2.1.1
 obtain⟨n,hn,rfl⟩:=vU ha;obtain⟨m,hm,rfl⟩:=vU hb;have:=(zcW h hm).2.2;unfold jD at this;rw[show s.ns[i+1-1]?=some n from hn]at this;have this:(n.k=1/\m.d=n.d+1)∨m.d<=n.d:=this;omega
def zeN(ds:LV)(i:Nat): -1<=yi ds i/\yi ds i<i:=⟨(zcj ds _ i).1,(zcj ds _ i).2.1⟩
def ziD(ds:LV):∀(n m:Nat) (i:Int),i<n->i<m->zfU ds n i=zfU ds m i
 |0,0,_,_,_=>rfl
 |0,m+1,i,h,_=>by show[]=if i<0 then[] else _;rw[Xe oM]
 |n+1,0,i,_,h=>by show(if i<0 then[] else _)=[];rw[Xe oM]
 |n+1,m+1,i,h1,h2=>by
  show(if i<0 then[] else i.toNat::zfU ds n (yi ds i.toNat))=if i<0 then[] else i.toNat::zfU ds m (yi ds i.toNat)
  by_cases c:i<0
  ·rw[Xe c,Xe c]
  have:=zeN ds i.toNat;rw[Xc c,Xc c,ziD ds n m _ oM oM]
def qE(ds:LV)(i:Int):LC:=zfU ds (i+1).toNat i
def zaY{ds:LV}{i:Int}(h:i<0):qE ds i=[]:=by
 unfold qE;rw[show(i+1).toNat=0 by omega];rfl
def jr(ds:LV)(i:Nat):qE ds i=i::qE ds (yi ds i):=by
 have h:=zeN ds i;unfold qE;rw[show((i:Int)+1).toNat=i+1 by omega];show(if (i:Int)<0 then[] else(i:Int).toNat::zfU ds i (yi ds (i:Int).toNat))=_;rw[Xc oM,show(i:Int).toNat=i from rfl,ziD ds i (yi ds i+1).toNat _ oM oM]
def zlh{ds:LV}:∀{k i a j:Nat},(qE ds i)[k]?=some a->yi ds a=j->(qE ds i)[k+1]?=some j
 |0,i,a,j,h,hj=>by
  rw[jr]at h ⊢
  cases h
  show(qE ds (yi ds i))[0]?=some j;rw[hj,jr];rfl
 |k+1,i,a,j,h,hj=>by
  rw[jr]at h ⊢;have h:(qE ds (yi ds i))[k]?=some a:=h;show(qE ds (yi ds i))[k+1]?=some j
  rcases QA (yi ds i) 0 with c|c
  ·rw[zaY c]at h;cases h
  obtain⟨q,hq⟩:=Qh c;rw[hq]at h ⊢;exact zlh h hj
def zh1{ds:LV}(hs:zd5 ds):∀{k i a:Nat} {d:Int},ds[i]?=some d->(qE ds i)[k]?=some a->ds[a]?=some (d-k)
 |0,i,a,d,hd,h=>by
  rw[jr]at h
  cases h
  rw[hd];congr 1;omega
 |k+1,i,a,d,hd,h=>by
  rw[jr]at h;have h:(qE ds (yi ds i))[k]?=some a:=h;have hp:=zg8 hs hd;have h0:=hs.2.1 d (Xf hd)
  by_cases c:d=0
  ·rw[hp.1 c,zaY dC]at h;cases h
  obtain⟨j,hj,_,hjd⟩:=hp.2 oM;rw[hj]at h;have:=zh1 hs hjd h;rw[this];congr 1;omega
def zeO{ds:LV}(hs:zd5 ds):∀{d i:Nat},ds[i]?=some (d:Int)->(qE ds i).length=d+1
 |0,i,hd=>by
  rw[jr,(zg8 hs hd).1 rfl,zaY dC];rfl
 |d+1,i,hd=>by
  obtain⟨j,hj,_,hjd⟩:=(zg8 hs hd).2 oM;rw[jr,hj,Xn,zeO (d:=d) hs (by rw[hjd];congr 1;omega)]
def tAt(l:LW)(k:Nat):AF:=match l[k]? with
 |some n=>n.t
 |none=>idA
def zq9{k:Nat}{n:Nd}(h:l[k]?=some n):tAt l k=n.t:=by unfold tAt;rw[h]
def trs(l:LW)(i:Int):List AF:=(qE (zI l) i).map (tAt l)
def zzw{n:Nd}(h:l[i]?=some n):trs l i=n.t::trs l (yi (zI l) i):=by
 unfold trs;rw[jr,QO,zq9 h]
def zBJ{i:Int}(h:i<0):trs l i=[]:=by unfold trs;rw[zaY h];rfl
def inS(s:Sc)(i:Int):Prop:=jE s/\0<=i/\i<s.ns.length
instance (s:Sc) (i:Int):Decidable (inS s i):=wi
def kg(s:Sc)(i:Int):AF×Int:=if¬jE s then(qA,18) else if i<0∨s.ns.length<=i then(qA,8) else vw (trs s.ns i)
def zNd:Nd:=⟨0,0,0,qA,[],0,0,0,false,false,[],0,[],⟨0,0,0,0,[],0⟩,[],⟨0,0,[]⟩,0⟩
def z0(s:Sc)(i:Int):Nd:=if inS s i then(s.ns[i.toNat]?).getD zNd else zNd
def uK(w:AF×Int)(l:LX):LQ:=if w.2≠0 then[] else(yo l w.1 32).1
def zam(s:Sc)(i:Int):LQ:=if (z0 s i).k≠2∨(z0 s i).fill.length=0 then[] else uK (kg s i) (z0 s i).path
def zaI(s:Sc)(i:Int):LQ:=if (z0 s i).k≠2∨(z0 s i).strk.length=0 then[] else if (kg s i).2≠0 then[] else(zay (z0 s i).path (z0 s i).pen (kg s i).1 32).1
def zeU(s:Sc)(i:Int):LQ:=if (z0 s i).k≠3 then[] else uK (kg s i) (zaE 0 0 (z0 s i).im.w (z0 s i).im.h)
def znd(s:Sc)(i:Int):LQ:=if (z0 s i).clip.length=0 then[] else uK (kg s i) (z0 s i).clip
def zra{l:LX}{t:AF}{tol:Int}(h:(yo l t tol).2≠0):(yo l t tol).1=[]:=by
 unfold yo at h ⊢
 by_cases h1:(trans t l).2≠0
 ·rw[Xe h1]
 rw[Xc h1]at h ⊢
 by_cases h2:(zW (trans t l).1 tol).2≠0
 ·rw[Xe h2]
 rw[Xc h2]at h;exact absurd rfl h
end
open Go.Proofs
section
def mdN(l:LW):Nat->Int
 |0=>0
 |i+1=>match l[i]? with
  |some n=>if n.k=1 then n.d+1 else n.d
  |none=>0
def zck(s:Sc):Prop:=s.ns.length<=64->∀n∈s.ns,zlb n
variable{l:LW}{i:Nat}
def zsT{n:Nd}(h:l[i]?=some n)(h0:0<=n.d):jD l i n↔¬mdN l i<n.d:=by
 cases i with
 |zero=>
  unfold jD mdN;rw[show l[0-1]?=some n from h];show n.d=0↔¬0<n.d;omega
 |succ i=>
  obtain⟨p,hp⟩:∃p,l[i]?=some p:=⟨_,Xb (by have:=(Xd.1 h).1;omega)⟩;have hs:jD l (i+1) n=(if i+1=0 then n.d=0 else(p.k=1/\n.d=p.d+1)∨n.d<=p.d):=by unfold jD;rw[show l[i+1-1]?=some p from hp]
  have hm:mdN l (i+1)=if p.k=1 then p.d+1 else p.d:=by
   show(match l[i]? with|some n=>if n.k=1 then n.d+1 else n.d|none=>0)=_;rw[hp]
  rw[hs,hm,Xc (Nat.succ_ne_zero i)]
  split <;> omega
def zwj(r:Int×Int):SV:=.tup [i64 r.1,i64 r.2]
def zan{s:Sc}(h:zfj s):LE (.tup [i64 6,i64 0]) (zwj (ziN s)):=by rw[ziN,Xe h];exact .refl
def zne{s:Sc}(h1:¬zfj s)(h2:64<s.ns.length):LE (.tup [i64 5,i64 64]) (zwj (ziN s)):=by rw[ziN,Xc h1,Xe h2];exact .refl
variable{x:Nd}{e:Int}
def zjd{s:Sc}(h1:¬zfj s)(h2:¬64<s.ns.length)(hx:s.ns[i]?=some x)(hz:∀j,j<i->uB s.ns j=0)(he:zg7 s.ns i x=e)(h0:e≠0):LE (.tup [i64 e,i64 i]) (zwj (ziN s)):=by
 have ee:=zcV hx;rw[he]at ee;rw[ziN,Xc h1,Xc h2,zBI (Xd.1 hx).1 hz (by rw[ee];exact h0)];show LE _ (.tup [i64 (uB s.ns i),i64 i]);rw[ee];exact .refl
def zup{s:Sc}(h1:¬zfj s)(h2:¬64<s.ns.length)(hz:∀j,j<s.ns.length->uB s.ns j=0):LE (.tup [i64 0,i64 0]) (zwj (ziN s)):=by
 rw[ziN,Xc h1,Xc h2,zwg hz];exact .refl
def zzx(h:l[i]?=some x):(l.take (i+1)).map Nd.id=(l.take i).map Nd.id++[x.id]:=by
 rw[Xl,h,XA];rfl
def zrc(h:¬y7 x=0):zg7 l i x=y7 x:=Xe h
def zrd(h:y7 x=0)(k:x.id∈(l.take i).map Nd.id):zg7 l i x=7:=by unfold zg7;rw[Xc (λq=>q h),Xe k]
def zli(h:y7 x=0)(k:x.id∉(l.take i).map Nd.id)(d:¬jD l i x):zg7 l i x=17:=by unfold zg7;rw[Xc (λq=>q h),Xc k,Xe d]
def zuq(h:y7 x=0)(k:x.id∉(l.take i).map Nd.id)(d:jD l i x):zg7 l i x=0:=by unfold zg7;rw[Xc (λq=>q h),Xc k,Xc (λq=>q d)]
def znf(hx:l[i]?=some x)(hz:∀j,j<i->uB l j=0)(he:zg7 l i x=0):∀j,j<i+1->uB l j=0:=λj hj=>by
 by_cases c:j=i
 ·rw[c,zcV hx,he]
 exact hz j oM
def zBK(s:Sc)(ht:zck s):CX 55 [wq s] (zwj (ziN s)):=by
 refine zc func55<|Br.mk (λh=>zan (.inl h)) (λh1=>?_);refine⟨λh=>zan (.inr (.inl h)),λh2=>?_⟩;refine⟨λh=>zan (.inr (.inr (.inl h))),λh3=>?_⟩;refine⟨λh=>zan (.inr (.inr (.inr h))),λh4=>?_⟩;have hb:¬zfj s:=λk=>k.elim h1 λk=>k.elim h2 λk=>k.elim h3 h4
 intro hl0;refine⟨λh=>zne hb oM,λh5=>?_⟩;have hn:¬64<s.ns.length:=oM;have ht:=ht oM;intro hl1
 refine⟨Nat,λi=>⟨[(35,i64 i),(34,i64 s.ns.length),(33,.sl ndE s.ns),(5,i64 (mdN s.ns i)),(4,.own 1),(1,.loc 0 0)],
  [(1,.map (zoS ((s.ns.take i).map Nd.id))),(0,.box 26 (scE s))],2,67,0⟩,λi=>i<=s.ns.length/\∀j,j<i->uB s.ns j=0,λi=>s.ns.length-i,0,⟨Xh _,λj h=>by omega⟩,zf [0,1],?_⟩
 rintro i ⟨hi,hz⟩
 refine⟨λg:(i:Int)<s.ns.length=>?_,λg:¬(i:Int)<s.ns.length=>?_⟩
 ·refine wb λx(hx:s.ns[i]?=some x)=>?_;have hm:=Xf hx;refine wg (zBH x (ht x hm))<|⟨λh=>zjd hb hn hx hz (zrc h) h,λh6=>?_⟩;have h6:y7 x=0:=Xa.1 h6;refine zwi (n:=x.id) (ks:=(s.ns.take i).map Nd.id) (λ_ _ _ a b=>Br.mk a b) (λh=>?_) (λh7=>?_)
  ·exact zjd hb hn hx hz (zrd h6 h) dC
  have hs:=zsT hx (zd9 h6).2.1.1;have hd:=(zd9 h6).2.1;refine⟨λh=>zjd hb hn hx hz (zli h6 h7 (λq=>hs.1 q h)) dC,λh8=>?_⟩;have hz':=znf hx hz (zuq h6 h7 (hs.2 h8));refine zrb h7 ?_;have em:zoS ((s.ns.take i).map Nd.id++[x.id])=zoS ((s.ns.take (i+1)).map Nd.id):=by rw[zzx hx]
  refine⟨λh9=>?_,λh9=>?_⟩
  ·have e5:x.d+1=mdN s.ns (i+1):=by show _=(match s.ns[i]? with|some n=>if n.k=1 then n.d+1 else n.d|none=>0);rw[hx];exact(Xe h9).symm
   (iterate 2 refine wa ?_);exact⟨i+1,⟨oM,hz'⟩,zS [0,1] ⟨rfl,rfl,rfl,iR e5,rfl,rfl,tV⟩ ⟨Xg (λq=>some (Mem.map q)) em,rfl,tV⟩,oN⟩
  have e5:x.d=mdN s.ns (i+1):=by show _=(match s.ns[i]? with|some n=>if n.k=1 then n.d+1 else n.d|none=>0);rw[hx];exact(Xc h9).symm
  exact wa<|⟨i+1,⟨oM,hz'⟩,zS [0,1] ⟨rfl,rfl,rfl,iR e5,rfl,rfl,tV⟩ ⟨Xg (λq=>some (Mem.map q)) em,rfl,tV⟩,oN⟩
 exact zup hb hn λj hj=>hz j oM
def zje(s:Sc)(ht:zck s):CX 30 [wq s] (pr (jE s)):=by
 exact zc func30<|wg (zBK s ht)<|zE K5
def zzy(s:Sc)(i:Int)(ht:zck s):CX 51 [wq s,i64 i] (pr (inS s i)):=by
 refine zc func51<|Br.mk (λh1=>?_) (λh1=>zd λk=>h1 k.2.1);intro hl0;refine⟨λh2=>?_,λh2=>zd λk=>h2 k.2.2⟩;exact wg (zje s ht)<|zE ⟨λh=>⟨h,h1,h2⟩,λk=>k.1⟩
def parS(s:Sc)(i:Int):Int:=if inS s i then yi (zI s.ns) i.toNat else-1
def zzz(l:LW)(i:Nat)(n:Nd)(hn:l[i]?=some n)(hd:∀n∈l,0<=n.d/\n.d<8)(hl:l.length<=64):CX 52 [.sl ndE l,i64 i] (i64 (yi (zI l) i)):=by
 have hi:=(Xd.1 hn).1;have eg:(zI l).getD i 0=n.d:=by rw[Xt,yQ hn];rfl
 have ep:yi (zI l) i=yx (zI l) (n.d-1) i:=by unfold yi;rw[eg]
 have hnd:=hd n (Xf hn);refine zc func52<|wa<|⟨Nat,λm=>⟨[(5,i64 ((m:Int)-1)),(1,i64 i),(0,.sl ndE l)],[],0,25,0⟩,λm=>m<=i/\yx (zI l) (n.d-1) m=yi (zI l) i,λm=>m,i,⟨Xk _,ep.symm⟩,?_,?_⟩
 ·exact zB []
 rintro m ⟨hm,he⟩
 refine⟨λg:0<=(m:Int)-1=>?_,λg:¬0<=(m:Int)-1=>?_⟩
 ·obtain⟨k,rfl⟩:∃k,m=k+1:=⟨m-1,oM⟩;refine wc<|wb λx hx=>?_;have hx:l[k]?=some x:=by rw[←hx];congr 1;omega
  refine wb λy hy=>?_;have hy:y=n:=Xm ((show l[i]?=some y from hy).symm.trans hn);rw[hy];refine wa ?_;have hk:=yQ hx;refine⟨λh=>?_,λh=>?_⟩
  ·refine ze ?_;rw[←he];unfold yx;rw[hk,Xe (by rw[h])];omega
  refine wa<|⟨k,⟨oM,?_⟩,ji [] ⟨iR oM,rfl,rfl,tV⟩ trivial,oN⟩;rw[←he]
  conv=>rhs;unfold yx
  rw[hk,Xc (λq=>h (Xm q))]
 obtain rfl:m=0:=oM;exact ze he
def uL{s:Sc}{i:Int}(h:inS s i):∃n,s.ns[i.toNat]?=some n:=⟨_,Xb (by have:=h.2;omega)⟩
def yE{s:Sc}(h:jE s):∀n∈s.ns,0<=n.d/\n.d<8:=λn hn=>by
 obtain⟨j,hj,e⟩:=Kl hn;exact(zd9 (zcW h (e ▸ Xb hj)).1).2.1
def ul{s:Sc}(h:jE s):s.ns.length<=64:=(zlg.1 h).2.1
def zzA(s:Sc)(i:Int)(ht:zck s):CX 169 [wq s,i64 i] (i64 (parS s i)):=by
 refine zc func169<|wg (zzy s i ht)<|⟨λh=>ze (Xc h).symm,λh=>?_⟩;have h:inS s i:=Xa.1 h;obtain⟨n,hn⟩:=uL h;have hp:=zzz s.ns i.toNat n hn (yE h.1) (ul h.1);rw[show((i.toNat:Nat):Int)=i by have:=h.2.1;omega]at hp;exact wg hp<|ze (Xe h).symm
def zzC(n:Int):CX 204 [i64 n] (pr (zcT n)):=by
 refine zc func204<|Br.mk (λh=>?_) (λh=>?_)
 ·exact zH (.inl h)
 exact zE ⟨.inr,λk=>k.resolve_left h⟩
def zur(n:Nd):CX 208 [ww n] (pr (zch n)):=by
 refine zc func208<|Br.mk (λh1=>?_) (λh1=>zd λk=>h1 k.1);refine⟨λh2=>?_,λh2=>zd λk=>h2 k.2.1⟩;refine⟨λh3=>?_,λh3=>zd λk=>h3 (by rw[k.2.2.1];decide)⟩;exact zE ⟨λh=>⟨h1,h2,by simpa using h3,by simpa using h⟩,λk=>by rw[k.2.2.2];decide⟩
def zus(n:Nd):CX 205 [ww n] (pr (zc5 n)):=by
 refine zc func205 λhl1=>?_;refine⟨λh1=>?_,λh1=>zd λk=>h1 (by have:=k.1;omega)⟩;refine⟨λh2=>?_,λh2=>zd λk=>h2 k.2.1⟩;intro hl2;refine⟨λh3=>?_,λh3=>zd λk=>h3 (by have:=k.2.2.1;omega)⟩;intro hl3;exact zE ⟨λh=>⟨oM,h2,oM,oM⟩,λk=>by have:=k.2.2.2;omega⟩
def zoT(n:Nd):CX 206 [ww n] (pr (uj n.pen)):=by
 refine zc func206<|Br.mk (λh1=>?_) (λh1=>zd λk=>h1 k.1);refine⟨λh2=>?_,λh2=>zd λk=>h2 k.2.1⟩;refine⟨λh3=>?_,λh3=>zd λk=>h3 k.2.2.1⟩;refine⟨λh4=>?_,λh4=>zd λk=>h4 k.2.2.2.1⟩;intro hl1;refine⟨λh5=>?_,λh5=>zd λk=>h5 (by rw[k.2.2.2.2.1];rfl)⟩;have h5:n.pen.d.length=0:=oM;exact zE ⟨λh=>⟨h1,h2,h3,h4,XM.1 h5,h⟩,λk=>k.2.2.2.2.2⟩
def zut(n:Nd):CX 207 [ww n] (pr (zci n)):=by
 refine zc func207<|Br.mk (λh1=>?_) (λh1=>zd λk=>h1 k.1);refine⟨λh2=>?_,λh2=>zd λk=>h2 k.2.1⟩;intro hl1;refine⟨λh3=>?_,λh3=>zd λk=>h3 (by have:=k.2.2.1;omega)⟩;exact zE ⟨λh=>⟨h1,h2,oM,h⟩,λk=>k.2.2.2⟩
def zEr(n:Nd):CX 136 [ww n] (pr (zg6 n)):=by
 have bad:¬u3 n->LE (bl false) (pr (zg6 n)):=λh=>zd λk=>h k.1
 refine zcS tok func136 rfl rfl rfl (zda.cut tok mix 2 (λ_:Unit=>⟨[(1,.loc 0 0)],[(0,.box 66 (ndE n))],1,56,0⟩) (λ_=>u3 n) ?_ λ_ hk=>zda.vc tok mix ?_)
 ·intro hl1;refine⟨λh1=>?_,λh1=>?_⟩
  ·refine⟨λh2=>bad λk=>k.elim (λk=>h2 k.2) λk=>by have:=k.1;omega,λh2=>?_⟩;intro hl2;refine⟨λh3=>?_,λh3=>⟨(),.inl ⟨oM,Xa.1 h2⟩,zf [0]⟩⟩;omega
  intro hl2;refine⟨λh3=>?_,λh3=>?_⟩
  ·refine wg (zzC n.cr)<|⟨λh4=>bad λk=>k.elim (λk=>by have:=k.1;omega) λk=>h4 k.2,λh4=>?_⟩;exact⟨(),.inr ⟨oM,Xa.1 h4⟩,zf [0]⟩
  omega
 refine⟨λk1=>?_,λk1=>?_⟩
 ·have e:zg6 n↔(zc5 n/\uj n.pen)/\zci n:=by unfold zg6;rw[Xe k1];exact⟨λh=>h.2,λh=>⟨hk,h⟩⟩
  refine wg (zus n)<|⟨λa=>?_,λa=>zd λk=>a (e.1 k).1.1⟩;refine wg (zoT n)<|⟨λb=>?_,λb=>zd λk=>b (e.1 k).1.2⟩;exact wg (zut n)<|zE ⟨λh=>e.2 ⟨⟨a,b⟩,h⟩,λk=>(e.1 k).2⟩
 refine⟨λk2=>?_,λk2=>?_⟩
 ·have e:zg6 n↔zch n/\zci n:=by unfold zg6;rw[Xc k1,Xe k2];exact⟨λh=>h.2,λh=>⟨hk,h⟩⟩
  refine wg (zur n)<|⟨λa=>?_,λa=>zd λk=>a (e.1 k).1⟩;exact wg (zut n)<|zE ⟨λh=>e.2 ⟨a,h⟩,λk=>(e.1 k).2⟩
 have e:zg6 n↔zch n/\zc5 n/\uj n.pen:=by unfold zg6;rw[Xc k1,Xc k2];exact⟨λh=>h.2,λh=>⟨hk,h⟩⟩
 refine wg (zur n)<|⟨λa=>?_,λa=>zd λk=>a (e.1 k).1⟩;refine wg (zus n)<|⟨λb=>?_,λb=>zd λk=>b (e.1 k).2.1⟩;exact wg (zoT n)<|zE ⟨λh=>e.2 ⟨a,b,h⟩,λk=>(e.1 k).2.2⟩
def zrf(xs:LY)(ht:zfi xs):CX 209 [.sl yD xs] (pr (uA xs)):=by
 refine zc func209<|⟨Int,λi=>⟨[(3,i64 i),(0,.sl yD xs)],[],0,16,0⟩,λi=>0<=i/\i<=xs.length/\∀(j:Nat) q,(j:Int)<i->xs[j]?=some q->vz q,λi=>((xs.length:Int)-i).toNat,0,?_,?_,?_⟩
 ·exact⟨oM,oM,λj q hj=>by omega⟩
 ·exact zB []
 rintro i ⟨h1,h2,h3⟩
 intro hl0;refine⟨λh4=>?_,λh4=>?_⟩
 ·refine wb λx hx=>?_;have hm:=ht x (Xf hx);refine wg (zre x hm.1)<|⟨λh5=>zd λk=>h5 (k x (Xf hx)),λh5=>?_⟩;refine wa<|⟨i+1,⟨oM,oM,λj q hj hq=>?_⟩,zB [],oN⟩
  by_cases e:j=i.toNat
  ·subst e;rw[hx]at hq;cases hq;exact Xa.1 h5
  exact h3 j q oM hq
 refine zH λp hp=>?_
 obtain⟨j,hj,he⟩:=Kl hp;exact h3 j p oM (by rw[←he];exact Xb hj)
def zBM(n:Nd)(t1:zfi n.fill)(t2:zfi n.strk):CX 137 [ww n] (i64 (vA n)):=by
 refine zc func137<|wg (zgq n.path)<|⟨λh1=>ze (by unfold vA;rw[Xe h1]),λh1=>?_⟩;refine wg (zzC n.rule)<|⟨λh2=>ze (by unfold vA;rw[Xc h1,Xe h2]),λh2=>?_⟩;intro hl1;refine⟨λa1=>ze (by unfold vA;rw[Xc h1,Xc h2,Xe (.inl oM)]),λa1=>?_⟩;intro hl2;refine⟨λa2=>ze (by unfold vA;rw[Xc h1,Xc h2,Xe (.inr oM)]),λa2=>?_⟩;have h3:¬(1<n.fill.length∨1<n.strk.length):=oM;intro hl3;refine⟨λb1=>?_,λb1=>?_⟩
 all_goals first
  |(refine wg (zcJ n.pen) ?_;refine⟨λb2=>ze (by unfold vA;rw[Xc h1,Xc h2,Xc h3,Xe ⟨oM,b2⟩]),λb2=>?_⟩;have h4:¬(0<n.strk.length/\¬kC n.pen):=λk=>b2 k.2)
  |have h4:¬(0<n.strk.length/\¬kC n.pen):=λk=>b1 (by have:=k.1;omega)
 all_goals intro hl4
 all_goals refine⟨λc1=>?_,λc1=>?_⟩
 all_goals first
  |(refine wg (zoT n) ?_;refine⟨λc2=>ze (by unfold vA;rw[Xc h1,Xc h2,Xc h3,Xc h4,Xe ⟨oM,c2⟩]),λc2=>?_⟩;have h5:¬(n.strk.length=0/\¬uj n.pen):=λk=>c2 k.2)
  |have h5:¬(n.strk.length=0/\¬uj n.pen):=λk=>c1 (by have:=k.1;omega)
 all_goals refine wg (zrf n.fill t1) ?_
 all_goals refine⟨λd1=>ze (by unfold vA;rw[Xc h1,Xc h2,Xc h3,Xc h4,Xc h5];exact(Xe (Or.inl d1)).symm),λd1=>?_⟩
 all_goals refine wg (zrf n.strk t2) ?_
 all_goals refine⟨λd2=>ze (by unfold vA;rw[Xc h1,Xc h2,Xc h3,Xc h4,Xc h5];exact(Xe (Or.inr d2)).symm),λd2=>ze (by unfold vA;rw[Xc h1,Xc h2,Xc h3,Xc h4,Xc h5];exact(Xc (λk=>k.elim d1 d2)).symm)⟩
def zBN(n:Nd)(h:zlb n):CX 98 [ww n] (i64 (y7 n)):=by
 obtain⟨ht,t1,t2,t3⟩:=h;refine zc func98<|Br.mk (λa1=>ze (by unfold y7;rw[Xe (.inl a1)])) (λa1=>?_);refine⟨λa2=>ze (by unfold y7;rw[Xe (.inr a2)]),λa2=>?_⟩;have h1:¬(n.k<1∨3<n.k):=oM;refine⟨λb1=>ze (by unfold y7;rw[Xc h1,Xe oM]),λb1=>?_⟩;refine⟨λb2=>ze (by unfold y7;rw[Xc h1,Xe oM]),λb2=>?_⟩;refine⟨λb3=>ze (by unfold y7;rw[Xc h1,Xe oM]),λb3=>?_⟩
 refine⟨λb4=>ze (by unfold y7;rw[Xc h1,Xe oM]),λb4=>?_⟩;have h2:¬(n.id<1∨1073741824<n.id∨n.d<0∨8<=n.d):=oM;refine wg (zce n.t (ht.up dC)) ?_;refine⟨λh3=>ze (by unfold y7;rw[Xc h1,Xc h2,Xe h3]),λh3=>?_⟩;refine wg (zuk n.t (ht.up dC)) ?_;refine wg (yA 0 (by constructor <;> decide)) ?_;have hcmp:=zxV (ofQ (zbr n.t)) (ofQ ((0:Int):Rat)) (by have:=zg5 ht;rw[zF];omega) (by decide +kernel);rw[kv,kv]at hcmp;refine wg hcmp ?_
 refine⟨λh4=>ze (by unfold y7;rw[Xc h1,Xc h2,Xc h3,Xe ((Yg.1 (uJ _)).1 h4)]),λh4=>?_⟩;have h4:¬zbr n.t=0:=(uJ _).1 h4;refine wg (zgq n.clip)<|⟨λh5=>ze (by unfold y7;rw[Xc h1,Xc h2,Xc h3,Xc h4,Xe h5]),λh5=>?_⟩;refine wg (zEr n)<|⟨λh6=>ze (by unfold y7;rw[Xc h1,Xc h2,Xc h3,Xc h4,Xc h5,Xe h6]),λh6=>?_⟩;refine⟨λk2=>?_,λk2=>?_⟩
 ·exact wg (zBM n t1 t2)<|ze (by unfold y7;rw[Xc h1,Xc h2,Xc h3,Xc h4,Xc h5,Xc h6,Xc oM,Xe k2])
 refine⟨λk1=>?_,λk1=>?_⟩
 ·exact wg (zEk n.mode)<|⟨λm=>ze (by unfold y7;rw[Xc h1,Xc h2,Xc h3,Xc h4,Xc h5,Xc h6,Xe k1];exact(Xe m).symm),λm=>ze (by unfold y7;rw[Xc h1,Xc h2,Xc h3,Xc h4,Xc h5,Xc h6,Xe k1];exact(Xc m).symm)⟩
 refine wg (zk7 n.im)<|⟨λm=>ze (by unfold y7;rw[Xc h1,Xc h2,Xc h3,Xc h4,Xc h5,Xc h6,Xc k1,Xc k2,Xe m]),λm=>?_⟩;refine⟨λs1=>?_,λs1=>ze (by unfold y7;rw[Xc h1,Xc h2,Xc h3,Xc h4,Xc h5,Xc h6,Xc k1,Xc k2,Xc m,Xc (λk=>s1 k.1)])⟩
 exact⟨λs2=>ze (by unfold y7;rw[Xc h1,Xc h2,Xc h3,Xc h4,Xc h5,Xc h6,Xc k1,Xc k2,Xc m,Xe ⟨s1,s2⟩]),λs2=>ze (by unfold y7;rw[Xc h1,Xc h2,Xc h3,Xc h4,Xc h5,Xc h6,Xc k1,Xc k2,Xc m,Xc (λk=>s2 k.2)])⟩
def zlj(l:LW)(id:Int):Int:=match l.findIdx? (λn=>n.id=id) with|some i=>i|none=> -1
def zzD{id:Int}(h:∀(j:Nat) q,j<i->l[j]?=some q->q.id≠id)(hx:l[i]?=some x)(hb:x.id=id):zlj l id=i:=by
 have:l.findIdx? (λn=>n.id=id)=some i:=by
  rw[KG];have hi:=(Xd.1 hx);refine⟨hi.1,by rw[hi.2];simpa using hb,λj hj=>?_⟩;have:=h j _ hj (Xb (by have:=hi.1;omega))
  simpa using this
 unfold zlj;rw[this]
def zlk{id:Int}(h:∀p∈l,p.id≠id):zlj l id= -1:=by
 have:l.findIdx? (λn=>n.id=id)=none:=by
  rw[Ku];intro p hp;simpa using h p hp
 unfold zlj;rw[this]
def zrg{id:Int}:0<=zlj l id↔id∈l.map Nd.id:=by
 by_cases h:∀p∈l,p.id≠id
 ·rw[zlk h];refine⟨λk=>by omega,λk=>?_⟩;obtain⟨p,hp,e⟩:=XO.1 k;exact absurd e (h p hp)
 unfold zlj
 cases hf:l.findIdx? (λn=>n.id=id) with
 |some i=>
  refine⟨λ_=>?_,λ_=>Int.natCast_nonneg i⟩;rw[KG]at hf;obtain⟨hi,h1,_⟩:=hf;exact XO.2 ⟨l[i],KI hi,by simpa using h1⟩
 |none=>rw[Ku]at hf;exact absurd (λp hp=>by simpa using hf p hp) h
def zEs(l:LW)(id:Int):CX 99 [.sl ndE l,i64 id] (i64 (zlj l id)):=by
 refine zc func99<|⟨Nat,λi=>⟨[(5,i64 i),(1,i64 id),(0,.sl ndE l)],[],0,20,0⟩,λi=>i<=l.length/\∀(j:Nat) q,j<i->l[j]?=some q->q.id≠id,λi=>l.length-i,0,⟨Xh _,λj q h=>by omega⟩,?_,?_⟩
 ·exact zB []
 rintro i ⟨h1,h2⟩
 intro hl0;refine⟨λg:(i:Int)<l.length=>?_,λg:¬(i:Int)<l.length=>?_⟩
 ·refine wb λx(hx:l[i]?=some x)=>?_;refine⟨λh=>ze (zzD h2 hx h).symm,λh=>?_⟩;refine wa<|⟨i+1,⟨oM,λj q hj hq=>?_⟩,zB [],oN⟩
  by_cases c:j=i
  ·subst c;rw[hx]at hq;cases hq;exact h
  exact h2 j q oM hq
 refine ze (zlk λp hp=>?_).symm;obtain⟨j,hj,e⟩:=Kl hp;exact h2 j p oM (by rw[←e];exact Xb hj)
def zzE{n:Nd}(h:l[0]?=some n):jD l 0 n↔n.d=0:=by
 unfold jD;rw[show l[0-1]?=some n from h];exact K5
def zzF{l:LW}{i:Nat}{n p:Nd}(hp:l[i]?=some p):jD l (i+1) n↔(p.k=1/\n.d=p.d+1)∨n.d<=p.d:=by
 unfold jD;rw[show l[i+1-1]?=some p from hp];exact K5
def zzG(l:LW)(i:Nat)(n:Nd)(hn:l[i]?=some n)(hd:∀j p,j<i->l[j]?=some p->0<=p.d/\p.d<8)(hl:l.length<=64):
  CX 100 [.sl ndE l,i64 i] (pr (jD l i n)):=by
 have hi:=(Xd.1 hn).1;refine zc func100<|Br.mk (λg=>?_) (λg=>?_)
 ·have g:(i:Int)=0:=g;obtain rfl:i=0:=oM;refine wb λx hx=>?_;have hx:x=n:=Xm ((show l[0]?=some x from hx).symm.trans hn);rw[hx];exact zE (zzE hn).symm
 have g:¬(i:Int)=0:=g;obtain⟨k,rfl⟩:∃k,i=k+1:=⟨i-1,oM⟩;obtain⟨p,hp⟩:∃p,l[k]?=some p:=⟨_,Xb oM⟩;have hpd:=hd k p oM hp;have hs:=zzF (n:=n) hp;refine wc<|wa<|wb λx hx=>?_;have hx:x=p:=Xm ((show l[k]?=some x by rw[←hx];congr 1;omega).symm.trans hp);rw[hx];refine⟨λh1=>?_,λh1=>?_⟩
 ·refine wb λy hy=>?_;have hy:y=n:=Xm ((show l[k+1]?=some y by rw[←hy];congr 1).symm.trans hn);rw[hy];refine wa<|wb λz hz=>?_;have hz:z=p:=Xm ((show l[k]?=some z by rw[←hz];congr 1;omega).symm.trans hp);rw[hz];refine wa<|Br.mk (λh2=>zH (hs.2 (.inl ⟨h1,h2⟩))) (λh2=>?_);refine wc<|wb λy hy=>?_;have hy:y=n:=Xm ((show l[k+1]?=some y by rw[←hy];congr 1).symm.trans hn);rw[hy];refine wa<|wb λz hz=>?_
  have hz:z=p:=Xm ((show l[k]?=some z by rw[←hz];congr 1;omega).symm.trans hp);rw[hz];exact zE ⟨λh=>hs.2 (.inr h),λh=>(hs.1 h).resolve_left λq=>h2 q.2⟩
 refine wc<|wb λy hy=>?_;have hy:y=n:=Xm ((show l[k+1]?=some y by rw[←hy];congr 1).symm.trans hn);rw[hy];refine wa<|wb λz hz=>?_;have hz:z=p:=Xm ((show l[k]?=some z by rw[←hz];congr 1;omega).symm.trans hp);rw[hz];exact zE ⟨λh=>hs.2 (.inr h),λh=>(hs.1 h).resolve_left λq=>h1 q.1⟩
def zBO(l:LW)(i:Nat)(n:Nd)(hn:l[i]?=some n)(ht:zlb n)(hd:∀j p,j<i->l[j]?=some p->0<=p.d/\p.d<8)(hl:l.length<=64):
  CX 63 [.sl ndE l,i64 i] (i64 (zg7 l i n)):=by
 have hi:=(Xd.1 hn).1;refine zc func63<|wb λx hx=>?_;have hx:x=n:=Xm ((show l[i]?=some x from hx).symm.trans hn);rw[hx];refine wg (zBN n ht)<|⟨λh=>ze (zrc h).symm,λh1=>?_⟩;have h1:y7 n=0:=Xa.1 h1;refine wc<|Ob.mk ⟨oM,λ_ _=>rfl⟩<|wb λy hy=>?_;have hy:y=n:=Xm ((show l[i]?=some y from hy).symm.trans hn);rw[hy]
 have e:(l.drop (0:Int).toNat).take ((i:Int)-0).toNat=l.take i:=by rw[show(0:Int).toNat=0 from rfl,KY];congr 1
 refine wg (zEs ((l.drop (0:Int).toNat).take ((i:Int)-0).toNat) n.id) ?_;rw[e];refine⟨λh=>ze (zrd h1 (zrg.1 h)).symm,λh2=>?_⟩;have h2:n.id∉(l.take i).map Nd.id:=λk=>h2 (zrg.2 k)
 refine wg (zzG l i n hn hd hl)<|⟨λh=>ze (zli h1 h2 h).symm,λh3=>?_⟩;exact ze (zuq h1 h2 (Xa.1 h3)).symm
def zzH(s:Sc)(ht:zck s):CX 36 [wq s] (zwj (ziN s)):=by
 refine zc func36<|Br.mk (λh=>zan (.inl h)) (λh1=>?_);refine⟨λh=>zan (.inr (.inl h)),λh2=>?_⟩;refine⟨λh=>zan (.inr (.inr (.inl h))),λh3=>?_⟩;refine⟨λh=>zan (.inr (.inr (.inr h))),λh4=>?_⟩;have hb:¬zfj s:=λk=>k.elim h1 λk=>k.elim h2 λk=>k.elim h3 h4
 intro hl0;refine⟨λh=>zne hb oM,λh5=>?_⟩;have hn:¬64<s.ns.length:=oM;have ht:=ht oM;refine⟨Nat,λi=>⟨[(4,i64 i),(1,.loc 0 0)],[(0,.box 26 (scE s))],1,43,0⟩,λi=>i<=s.ns.length/\∀j,j<i->uB s.ns j=0,λi=>s.ns.length-i,0,⟨Xh _,λj h=>by omega⟩,zf [0],?_⟩
 rintro i ⟨hi,hz⟩
 intro hl1;refine⟨λg:(i:Int)<s.ns.length=>?_,λg:¬(i:Int)<s.ns.length=>?_⟩
 ·obtain⟨x,hx⟩:∃x,s.ns[i]?=some x:=⟨_,Xb oM⟩;have hm:=Xf hx
  have hd:∀j p,j<i->s.ns[j]?=some p->0<=p.d/\p.d<8:=λj p hj hp=>by
   have:=hz j hj;rw[zcV hp]at this;exact(zd9 (znc this).1).2.1
  refine wg (zBO s.ns i x hx (ht x hm) hd oM)<|⟨λh=>zjd hb hn hx hz rfl h,λh6=>?_⟩;exact wa<|⟨i+1,⟨oM,znf hx hz (Xa.1 h6)⟩,zf [0],oN⟩
 exact zup hb hn λj hj=>hz j oM
def zea(s:Sc)(ht:zck s):CX 18 [wq s] (pr (jE s)):=by
 exact zc func18<|wg (zzH s ht)<|zE K5
def zrh(s:Sc)(i:Int)(ht:zck s):CX 53 [wq s,i64 i] (pr (inS s i)):=by
 refine zc func53<|wg (zea s ht)<|⟨λh1=>?_,λh1=>zd λk=>h1 k.1⟩;refine⟨λh2=>?_,λh2=>zd λk=>h2 k.2.1⟩;intro hl0;exact zE ⟨λh=>⟨h1,h2,h⟩,λk=>k.2.2⟩
def zzI(l:LW)(i:Nat)(n:Nd)(hn:l[i]?=some n)(hd:∀n∈l,0<=n.d/\n.d<8)(hl:l.length<=64):CX 54 [.sl ndE l,i64 i] (i64 (yi (zI l) i)):=by
 have hi:=(Xd.1 hn).1;have eg:(zI l).getD i 0=n.d:=by rw[Xt,yQ hn];rfl
 have ep:yi (zI l) i=yx (zI l) (n.d-1) i:=by unfold yi;rw[eg]
 have hnd:=hd n (Xf hn);refine zc func54<|wa<|⟨Nat,λm=>⟨[(5,i64 ((m:Int)-1)),(1,i64 i),(0,.sl ndE l)],[],0,25,0⟩,λm=>m<=i/\yx (zI l) (n.d-1) m=yi (zI l) i,λm=>m,i,⟨Xk _,ep.symm⟩,?_,?_⟩
 ·exact zB []
 rintro m ⟨hm,he⟩
 refine⟨λg:0<=(m:Int)-1=>?_,λg:¬0<=(m:Int)-1=>?_⟩
 ·obtain⟨k,rfl⟩:∃k,m=k+1:=⟨m-1,oM⟩;refine wc<|wb λx hx=>?_;have hx:l[k]?=some x:=by rw[←hx];congr 1;omega
  refine wb λy hy=>?_;have hy:y=n:=Xm ((show l[i]?=some y from hy).symm.trans hn);rw[hy];refine wa ?_;have hk:=yQ hx;refine⟨λh=>?_,λh=>?_⟩
  ·refine ze ?_;rw[←he];unfold yx;rw[hk,Xe (by rw[h])];omega
  refine wa<|⟨k,⟨oM,?_⟩,ji [] ⟨iR oM,rfl,rfl,tV⟩ trivial,oN⟩;rw[←he]
  conv=>rhs;unfold yx
  rw[hk,Xc (λq=>h (Xm q))]
 obtain rfl:m=0:=oM;exact ze he
def qq(s:Sc)(i:Int):LV:=if inS s i then((qE (zI s.ns) i).reverse).map (λk:Nat=>(k:Int)) else[]
variable{m:Nat}{a:Nat}
def zzJ{c:LC}{d:Nat}(hl:c.length=d+1)(hm:m<=d)(ha:c[d-m]?=some a):c.reverse.take (m+1)=c.reverse.take m++[a]:=by
 have:c.reverse[m]?=some a:=by
  rw[QP oM,←ha];congr 1;omega
 rw[Xl,this];rfl
def zaz(l:LC):LV:=l.map (λk:Nat=>(k:Int))
def zBP(s:Sc)(i:Int)(ht:zck s):CG0 29 [wq s,i64 i] [] (.own 0) [(0,.arr 3 zN 1 (qq s i))]:=by
 refine qC tok mix func29 rfl rfl rfl<|⟨Int,zN,[],rfl,wb2 ?_⟩;refine wg (zrh s i ht)<|⟨λh=>⟨some 1,.own 1 rfl,aR (show[]=qq s i from(Xc h).symm),λ_ _=>rfl⟩,λh=>?_⟩;have h:inS s i:=Xa.1 h;obtain⟨n,hn⟩:=uL h;obtain⟨i,rfl⟩:∃k:Nat,i=(k:Int):=⟨i.toNat,by have:=h.2.1;omega⟩;have hn:s.ns[i]?=some n:=hn;have hdp:=yE h.1;have hl:=ul h.1;have hs:=zal h.1;have hnd:=hdp n (Xf hn)
 obtain⟨d,hd⟩:∃d:Nat,n.d=(d:Int):=⟨n.d.toNat,oM⟩;have hD:(zI s.ns)[i]?=some (d:Int):=by rw[yQ hn,hd]
 have hlen:=zeO hs hD;have ea:qq s i=zaz ((qE (zI s.ns) i).reverse):=Xe h;have hil:=(Xd.1 hn).1
 refine⟨Nat,λm=>⟨[(6,i64 m),(5,.own 1),(2,.loc 0 0),(1,i64 i)],[(1,.arr 3 zN 1 (zaz ((qE (zI s.ns) i).reverse.take m))),(0,.box 26 (scE s))],2,42,0⟩,
  λm=>m<=d+1,λm=>d+1-m,0,Xh _,zf [0,1],?_⟩
 intro m hm;have hm:m<=d+1:=hm;refine wb λx hx=>?_;have hx:x=n:=Xm ((show s.ns[i]?=some x from hx).symm.trans hn);rw[hx];refine⟨λg:(m:Int)<=n.d=>?_,λg:¬(m:Int)<=n.d=>?_⟩
 ·rw[hd]at g;have c0:(qE (zI s.ns) i)[0]?=some i:=by rw[jr];rfl
  refine⟨Nat×Nat,λz=>⟨[(7,i64 (z.2:Int)),(6,i64 m),(5,.own 1),(2,.loc 0 0),(1,i64 i)],[(1,.arr 3 zN 1 (zaz ((qE (zI s.ns) i).reverse.take m))),(0,.box 26 (scE s))],2,42,0⟩,
   λz=>z.1<=d-m/\(qE (zI s.ns) i)[z.1]?=some z.2,λz=>d-z.1,(0,i),⟨Xh _,c0⟩,zf [0,1],?_⟩
  rintro⟨k,a⟩ ⟨hk,hc⟩
  have hk:k<=d-m:=hk;have hc:(qE (zI s.ns) i)[k]?=some a:=hc;have hda:=zh1 hs hD hc;obtain⟨y,hy,hyd⟩:=vU hda;have hal:=(Xd.1 hy).1;dsimp only;refine wb λw hw=>?_;have hw:w=y:=Xm ((show s.ns[a]?=some w from hw).symm.trans hy);rw[hw];refine⟨λq:(m:Int)<y.d=>?_,λq:¬(m:Int)<y.d=>?_⟩
  ·rw[hyd]at q;refine wg (zzI s.ns a y hy hdp hl) ?_;obtain⟨j,hj,_,_⟩:=(zg8 hs hda).2 oM;refine⟨(k+1,j),⟨oN,zlh hc hj⟩,zS [0,1] ⟨iR hj,rfl,rfl,rfl,rfl,tV⟩ ⟨rfl,rfl,tV⟩,oN⟩
  rw[hyd]at q;obtain rfl:k=d-m:=oM;refine⟨Int,zN,[(a:Int)],rfl,wb4 ?_⟩
  have hlen0:(zaz ((qE (zI s.ns) i).reverse.take m)).length<=64:=by
   unfold zaz;rw[Xx,Xo,KU,hlen];omega
  refine⟨[(a:Int)],rfl,Ob.mk ⟨by show(((zaz ((qE (zI s.ns) i).reverse.take m)).length:Int)+1)*8<=_;omega,by rw[X0];omega,dC,λx hx=>by rw[Xu.1 hx];rfl⟩ ?_⟩;refine wa ?_
  have en:zaz ((qE (zI s.ns) i).reverse.take m)++[(a:Int)]=zaz ((qE (zI s.ns) i).reverse.take (m+1)):=by
   rw[zzJ hlen oM hc];unfold zaz;rw[XA];rfl
  exact⟨m+1,by show m+1<=d+1;omega,zu [0,3] ⟨aR en,rfl,tV⟩,by show d+1-(m+1)<d+1-m;omega⟩
 rw[hd]at g;have e:(qE (zI s.ns) i).reverse.take m=(qE (zI s.ns) i).reverse:=Xi (by rw[KU,hlen];omega);exact⟨some 1,.own 1 rfl,aR (by rw[ea,e]),λ_ _=>rfl⟩
def zsU(s:Sc)(i:Int)(ht:zck s):CX 29 [wq s,i64 i] (.sl zN (qq s i)):=(zBP s i ht).plain rfl
def fineN(n:Nd):Prop:=n.t.le 100/\zlb n/\n.path.length<=300/\n.clip.length<=300
def jf(s:Sc):Prop:=s.ns.length<=64->∀n∈s.ns,fineN n
def jf.tame{s:Sc}(h:jf s):zck s:=λhl n hn=>(h hl n hn).2.1
def zEt{s:Sc}(h:jf s)(hv:jE s)(k:Nat):(tAt s.ns k).le 100:=by
 unfold tAt
 cases hk:s.ns[k]? with
 |none=>exact zzg.up dC
 |some n=>exact(h (ul hv) n (Xf hk)).1
def zzK{s:Sc}(h:jf s)(hv:jE s)(i:Int):∀t∈trs s.ns i,t.le 100:=λt ht=>by
 obtain⟨k,_,rfl⟩:=XO.1 ht;exact zEt h hv k
def zuu{s:Sc}(hv:jE s)(hi:i<s.ns.length):(trs s.ns i).length<=8:=by
 have hn:s.ns[i]?=some s.ns[i]:=Xb hi;have hd:=yE hv s.ns[i] (KI hi);unfold trs;rw[Xx,zeO (d:=s.ns[i].d.toNat) (zal hv) (by rw[yQ hn];congr 1;omega)];omega
def zzL{l:List AF}:(vw l).1.le 100:=by
 unfold vw
 split
 ·rename_i h;have:=zk5 (l:=l) (i:=l.length) (Xk _) λk hk=>h.2 k hk
  rw[X1]at this;exact this.up dC
 exact vT _
def zao(s:Sc)(i:Int):(kg s i).1.le 100:=by
 unfold kg
 split
 ·exact vT _
 split
 ·exact vT _
 exact zzL
def resW(r:AF×Int):SV:=.tup [wo r.1,i64 r.2]
def zaZ{s:Sc}{i:Int}(h:kg s i=(qA,e)):LE (.tup [.agg uf,i64 e]) (resW (kg s i)):=by
 rw[h];exact zM zcg .refl
def zri{s:Sc}{i:Int}(h:jE s)(h0:0<=i)(h1:i<s.ns.length):kg s i=vw (trs s.ns i):=by
 unfold kg;rw[Xc (λk=>k h),Xc oM]
def zBQ{s:Sc}(h:jE s)(hi:i<s.ns.length):parS s i=yi (zI s.ns) i:=by
 unfold parS;rw[Xe ⟨h,oM,oM⟩];rfl
def scO(s:Sc)(k:Nat):LR:=[i64 s.w,i64 s.h,u8 s.bg.r,u8 s.bg.g,u8 s.bg.b,u8 s.bg.a,.own k]
abbrev nArr(l:LW):Mem:=.arr 66 ndE 47 l
def zBS(s:Sc)(i:Int)(ht:jf s):CX 116 [wq s,i64 i] (resW (kg s i)):=by
 refine zc func116<|wg (zje s ht.tame)<|⟨λh=>zaZ (Xe h),λh=>?_⟩;have hv:jE s:=Xa.1 h;refine⟨λh1=>zaZ ((Xc h).trans (Xe (.inl h1))),λh1=>?_⟩;intro hl0;refine⟨λh2=>zaZ ((Xc h).trans (Xe (.inr h2))),λh2=>?_⟩;have e0:=zri hv (i:=i) oM oM;have hl64:=ul hv;have hle:=zzK ht hv i
 have hlen:(trs s.ns i).length<=8:=by
  obtain⟨k,rfl⟩:∃k:Nat,i=(k:Int):=⟨i.toNat,oM⟩;exact zuu hv oM
 refine⟨List AF×Int,λz=>⟨[(6,.own 2),(4,.loc 1 0),(2,.loc 0 0),(1,i64 z.2)],[(2,.arr 57 afE 24 z.1),(1,.box 57 uf),(0,.box 26 (scE s))],3,39,0⟩,
  λz=>z.1++trs s.ns z.2=trs s.ns i/\ -1<=z.2/\z.2<s.ns.length,λz=>(z.2+1).toNat,([],i),⟨rfl,oN,oN⟩,zB [(0,some 0),(1,some 1),(2,none)],?_⟩
 rintro⟨p,j⟩ ⟨hp,hj1,hj2⟩
 have hp:p++trs s.ns j=trs s.ns i:=hp;have hj1: -1<=j:=hj1;have hj2:j<s.ns.length:=hj2;have hpl:p.length<=8:=by rw[←hp,Xq]at hlen;omega
 refine⟨λg:0<=j=>?_,λg:¬0<=j=>?_⟩
 ·obtain⟨k,rfl⟩:∃k:Nat,j=(k:Int):=⟨j.toNat,oM⟩;refine wb λx(hx:s.ns[k]?=some x)=>?_;refine⟨AF,afE,[x.t],rfl,Ob.mk ⟨rfl,dC,dC,dC,λy hy=>by rw[Xu.1 hy];exact⟨rfl,rfl,rfl⟩⟩ ?_⟩;refine⟨[x.t],rfl,Ob.mk ⟨by show((p.length:Int)+1)*_<=_;dsimp only;omega,by show p.length+1<=_;omega,dC,λy hy=>by rw[Xu.1 hy];rfl⟩ ?_⟩;refine wg (zzA s k ht.tame) ?_;have ep:=zBQ hv (i:=k) oM;have hpn:=zeN (zI s.ns) k
  refine⟨(p++[x.t],yi (zI s.ns) k),⟨by dsimp only;rw[XZ,←hp,zzw hx];rfl,hpn.1,oN⟩,zS [0,1,4] ⟨rfl,rfl,rfl,iR ep,tV⟩ ⟨rfl,rfl,rfl,tV⟩,oN⟩
 have e1:p=trs s.ns i:=by rw[←hp,zBJ oM,XE]
 subst e1;refine zb.see 2 _ (zsK (trs s.ns i) hle) rfl rfl rfl ?_;rw[e0];exact zM .refl .refl
def zEu{s:Sc}(h:inS s i)(hm:m<(qE (zI s.ns) i).length)(ha:(qE (zI s.ns) i)[(qE (zI s.ns) i).length-1-m]?=some a):(qq s i)[m]?=some (a:Int):=by
 have e:qq s i=((qE (zI s.ns) i).reverse).map (λk:Nat=>(k:Int)):=Xe h;rw[e,XD,QP hm,ha];rfl
def zBT{s:Sc}(h:inS s i):(qq s i).length=(qE (zI s.ns) i).length:=by
 have e:qq s i=((qE (zI s.ns) i).reverse).map (λk:Nat=>(k:Int)):=Xe h;rw[e,Xx,KU]
def zjf(s:Sc)(i:Int)(ht:jf s):CX 106 [wq s,i64 i] (resW (kg s i)):=by
 refine zc func106<|wg (zea s ht.tame)<|⟨λh=>zaZ (Xe h),λh=>?_⟩;have hv:jE s:=Xa.1 h;refine⟨λh1=>zaZ ((Xc h).trans (Xe (.inl h1))),λh1=>?_⟩;intro hl0;refine⟨λh2=>zaZ ((Xc h).trans (Xe (.inr h2))),λh2=>?_⟩;have e0:=zri hv (i:=i) oM oM;have hl64:=ul hv;have hle:=zzK ht hv i;obtain⟨i,rfl⟩:∃k:Nat,i=(k:Int):=⟨i.toNat,oM⟩;have hi:i<s.ns.length:=oM;have hin:inS s i:=⟨hv,oM,oM⟩;have hlen:=zuu hv hi
 have hcl:(trs s.ns i).length=(qE (zI s.ns) i).length:=by unfold trs;rw[Xx]
 have hal:=zBT hin;refine wg (zsU s i ht.tame) λhl1=>wa ?_
 refine⟨Nat,λm=>⟨[(8,i64 ((m:Int)-1)),(7,.own 2),(6,.sl zN (qq s i)),(4,.loc 1 0),(2,.loc 0 0)],[(2,.arr 57 afE 24 ((trs s.ns i).take ((trs s.ns i).length-m))),(1,.box 57 uf),(0,.box 26 (scE s))],3,49,0⟩,
  λm=>m<=(trs s.ns i).length,λm=>m,(trs s.ns i).length,Xk _,?_,?_⟩
 ·exact ji [(0,some 0),(1,some 1),(2,none)] ⟨iR oM,rfl,rfl,rfl,rfl,tV⟩ ⟨by show Nat.beq (List.take _ _).length 0=true;rw[QJ];rfl,rfl,rfl,tV⟩
 intro m hm;have hm:m<=(trs s.ns i).length:=hm;refine⟨λg:0<=(m:Int)-1=>?_,λg:¬0<=(m:Int)-1=>?_⟩
 ·obtain⟨k,rfl⟩:∃k,m=k+1:=⟨m-1,oM⟩;obtain⟨a,ha⟩:∃a,(qE (zI s.ns) i)[(qE (zI s.ns) i).length-1-k]?=some a:=⟨_,Xb oM⟩
  have hta:(trs s.ns i)[(trs s.ns i).length-(k+1)]?=some (tAt s.ns a):=by
   rw[hcl,show(qE (zI s.ns) i).length-(k+1)=(qE (zI s.ns) i).length-1-k by omega];unfold trs;rw[XD,ha];rfl
  have han:=zEu hin oM ha;have hd0:(zI s.ns)[i]?=some (s.ns[i]).d:=yQ (Xb hi);obtain⟨y,hy,_⟩:=vU (zh1 (zal hv) hd0 ha);have hya:=(Xd.1 hy).1;refine wc<|wb λx hx=>?_;have hx:x=(a:Int):=Xm ((show(qq s i)[k]?=some x by rw[←hx];congr 1;omega).symm.trans han);rw[hx];refine wb λz hz=>?_;have hz:z=y:=Xm ((show s.ns[a]?=some z from hz).symm.trans hy);rw[hz];have ht':tAt s.ns a=y.t:=zq9 hy
  refine⟨AF,afE,[y.t],rfl,Ob.mk ⟨rfl,dC,dC,dC,λq hq=>by rw[Xu.1 hq];exact⟨rfl,rfl,rfl⟩⟩ ?_⟩;have hpl:((trs s.ns i).take ((trs s.ns i).length-(k+1))).length<=8:=by rw[Xo];omega
  refine⟨[y.t],rfl,Ob.mk ⟨by show((((trs s.ns i).take ((trs s.ns i).length-(k+1))).length:Int)+1)*_<=_;dsimp only;omega,by show((trs s.ns i).take ((trs s.ns i).length-(k+1))).length+1<=_;omega,dC,λq hq=>by rw[Xu.1 hq];rfl⟩ ?_⟩;refine wa ?_
  have en:(trs s.ns i).take ((trs s.ns i).length-(k+1))++[y.t]=(trs s.ns i).take ((trs s.ns i).length-k):=by
   rw[show(trs s.ns i).length-k=(trs s.ns i).length-(k+1)+1 by omega,Xl,hta,ht'];rfl
  exact⟨k,by show k<=_;omega,zS [0,1,4] ⟨iR oM,rfl,rfl,rfl,rfl,tV⟩ ⟨aR en,rfl,rfl,tV⟩,by show k<k+1;omega⟩
 obtain rfl:m=0:=oM;have e1:(trs s.ns i).take ((trs s.ns i).length-0)=trs s.ns i:=by rw[YB,X1]
 refine zb.see 2 _ (zoN ((trs s.ns i).take ((trs s.ns i).length-0)) (by rw[e1];exact hle)) rfl rfl rfl ?_;rw[e0,e1];exact zM .refl .refl
end
end Go.Gs
