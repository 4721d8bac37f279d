/- Scenes: what is jn; a node and its ancestors: plain. -/
import Derived.Test.YtjgadnaphffpkaaGreatDoorMA
import Derived.Test.YtjgadnaphffpkaaGreatDoorMBC
import Derived.Test.YtjgadnaphffpkaaGreatDoorMAZ
import Derived.Test.YtjgadnaphffpkaaGreatDoorMBB
set_option maxRecDepth 100000
set_option maxHeartbeats 8000000
set_option linter.all false
namespace Go.Gs
section
def uG(l:List Nd)(i:Nat):Int:=match l[i]? with
 | some n=>zgJ l i n
 | none=>0
variable{l:List Nd}{i:Nat}
theorem zcO{n:Nd}(h:l[i]? =some n):uG l i=zgJ l i n:=by unfold uG;rw[h]
def znP(l:List Nd):Option Nat:=(List.range l.length).find? λi=>decide (uG l i≠0)
theorem zzz(hi:i < l.length)(h:∀j,j < i->uG l j=0)(hb:uG l i≠0):znP l=some i:=by
 unfold znP;rw[JN];exact⟨by simpa using hb,Kh.2 hi,λj hj=>by simpa using h j hj⟩
theorem zuM(h:∀j,j < l.length->uG l j=0):znP l=none:=by
 unfold znP;rw[JM];exact λj hj=>by simpa using h j hj
theorem zuN(h:znP l=some i):i < l.length/\uG l i≠0:=by
 unfold znP at h;rw[JN]at h;exact⟨Kh.1 h.2.1,by simpa using h.1⟩
def zeU(s:Sc):Prop:=s.w < 1∨256 < s.w∨s.h < 1∨256 < s.h
instance (s:Sc):Decidable (zeU s):=inferInstanceAs (Decidable (_∨_))
def zid(s:Sc):Int×Int:=if zeU s then(6,0) else if 64 < s.ns.length then(5,64) else match znP s.ns with
 | some i=>(uG s.ns i,i)
 | none=>(0,0)
def yk(s:Sc):Prop:=(zid s).1=0
instance (s:Sc):Decidable (yk s):=inferInstanceAs (Decidable (_=_))
theorem zkB{s:Sc}:yk s↔¬zeU s/\s.ns.length<=64/\∀j,j < s.ns.length->uG s.ns j=0:=by
 unfold yk zid
 by_cases h1:zeU s
 ·rw[if_pos h1];exact⟨λh=>absurd h dC,λh=>absurd h1 h.1⟩
 rw[if_neg h1]
 by_cases h2:64 < s.ns.length
 ·rw[if_pos h2];exact⟨λh=>absurd h dC,λh=>absurd h.2.1 oM⟩
 rw[if_neg h2]
 cases hb:znP s.ns with
 | some i=>
  obtain⟨h3,h4⟩:=zuN hb;exact⟨λh=>absurd h h4,λh=>absurd (h.2.2 i h3) h4⟩
 | none=>
  refine⟨λ_=>⟨h1,oM,λj hj=>?_⟩,λ_=>rfl⟩;unfold znP at hb;rw[JM]at hb
  simpa using hb j hj
theorem zmj{n:Nd}(h:zgJ l i n=0):y7 n=0/\n.id∉(l.take i).map Nd.id/\jF l i n:=by
 unfold zgJ at h
 by_cases h1:y7 n≠0
 ·rw[if_pos h1]at h;exact absurd h h1
 rw[if_neg h1]at h
 by_cases h2:n.id∈(l.take i).map Nd.id
 ·rw[if_pos h2]at h;exact absurd h dC
 rw[if_neg h2]at h
 by_cases h3:jF l i n
 ·exact⟨Xa.1 h1,h2,h3⟩
 ·rw[if_pos h3]at h;exact absurd h dC
theorem zdV{n:Nd}(h:y7 n=0):(1<=n.k/\n.k<=3)/\(0<=n.d/\n.d < 8)/\n.t.ok/\yr n.t≠0/\jn n.clip/\zgI n:=by
 unfold y7 at h
 by_cases h1:n.k < 1∨3 < n.k
 ·rw[if_pos h1]at h;exact absurd h dC
 rw[if_neg h1]at h
 by_cases h2:n.id < 1∨1073741824 < n.id∨n.d < 0∨8<=n.d
 ·rw[if_pos h2]at h;exact absurd h dC
 rw[if_neg h2]at h
 by_cases h3:¬n.t.ok
 ·rw[if_pos h3]at h;exact absurd h dC
 rw[if_neg h3]at h
 by_cases h4:yr n.t=0
 ·rw[if_pos h4]at h;exact absurd h dC
 rw[if_neg h4]at h
 by_cases h5:¬jn n.clip
 ·rw[if_pos h5]at h;exact absurd h dC
 rw[if_neg h5]at h
 by_cases h6:¬zgI n
 ·rw[if_pos h6]at h;exact absurd h dC
 exact⟨oM,oM,Xa.1 h3,h4,Xa.1 h5,Xa.1 h6⟩
theorem zcP{s:Sc}(h:yk s){n:Nd}(hn:s.ns[i]? =some n):y7 n=0/\n.id∉(s.ns.take i).map Nd.id/\jF s.ns i n:=by
 have:=(zkB.1 h).2.2 i (Xc.1 hn).1;rw[zcO hn]at this;exact zmj this
def kj(l:List Nd):List Int:=l.map Nd.d
theorem vR{n:Nd}(h:l[i]? =some n):(kj l)[i]? =some n.d:=by unfold kj;rw[XA,h];rfl
theorem vS{d:Int}(h:(kj l)[i]? =some d):∃n,l[i]? =some n/\n.d=d:=by
 unfold kj at h;rw[XA]at h
 cases hn:l[i]? with
 | none=>rw[hn]at h;cases h
 | some n=>rw[hn]at h;exact⟨n,rfl,Xj h⟩
theorem zdW{s:Sc}(h:yk s):zku (kj s.ns):=by
 refine⟨λd hd=>?_,λd hd=>?_,λi a b ha hb=>?_⟩
 ·obtain⟨n,hn,rfl⟩:=vS hd;have:=(zcP h hn).2.2;unfold jF at this;rw[show s.ns[0 - 1]? =some n from hn]at this;exact this
 ·obtain⟨i,hi,he⟩:=Kg hd;obtain⟨n,hn,rfl⟩:=vS (he ▸ Xb hi);exact(zdV (zcP h hn).1).2.1.1
 ·obtain⟨n,hn,rfl⟩:=vS ha;obtain⟨m,hm,rfl⟩:=vS hb;have:=(zcP h hm).2.2;unfold jF at this;rw[show s.ns[i+1 - 1]? =some n from hn]at this;have this:(n.k=1/\m.d=n.d+1)∨m.d<=n.d:=this;omega
theorem ziC(ds:List Int)(i:Nat): -1<=vi ds i/\vi ds i < i:=⟨(zgK ds _ i).1,(zgK ds _ i).2.1⟩
theorem zh5(ds:List Int):∀(n m:Nat) (i:Int),i < n->i < m->zfu ds n i=zfu ds m i
 | 0,0,_,_,_=>rfl
 | 0,m+1,i,h,_=>by show[]=if i < 0 then[] else _;rw[if_pos oM]
 | n+1,0,i,_,h=>by show(if i < 0 then[] else _)=[];rw[if_pos oM]
 | n+1,m+1,i,h1,h2=>by
  show(if i < 0 then[] else i.toNat::zfu ds n (vi ds i.toNat))=if i < 0 then[] else i.toNat::zfu ds m (vi ds i.toNat)
  by_cases c:i < 0
  ·rw[if_pos c,if_pos c]
  ·have:=ziC ds i.toNat;rw[if_neg c,if_neg c,zh5 ds n m _ oM oM]
def qW(ds:List Int)(i:Int):List Nat:=zfu ds (i+1).toNat i
theorem zey{ds:List Int}{i:Int}(h:i < 0):qW ds i=[]:=by
 unfold qW;rw[show(i+1).toNat=0 by omega];rfl
theorem yF(ds:List Int)(i:Nat):qW ds i=i::qW ds (vi ds i):=by
 have h:=ziC ds i;unfold qW;rw[show((i:Int)+1).toNat=i+1 by omega];show(if (i:Int) < 0 then[] else(i:Int).toNat::zfu ds i (vi ds (i:Int).toNat))=_;rw[if_neg oM,show(i:Int).toNat=i from rfl,zh5 ds i (vi ds i+1).toNat _ oM oM]
theorem zkC{ds:List Int}:∀{k i a j:Nat},(qW ds i)[k]? =some a->vi ds a=j->(qW ds i)[k+1]? =some j
 | 0,i,a,j,h,hj=>by
  rw[yF]at h ⊢
  cases h
  show(qW ds (vi ds i))[0]? =some j;rw[hj,yF];rfl
 | k+1,i,a,j,h,hj=>by
  rw[yF]at h ⊢;have h:(qW ds (vi ds i))[k]? =some a:=h;show(qW ds (vi ds i))[k+1]? =some j
  rcases Q1 (vi ds i) 0 with c | c
  ·rw[zey c]at h;cases h
  ·obtain⟨q,hq⟩:=QU c;rw[hq]at h ⊢;exact zkC h hj
theorem zhA{ds:List Int}(hs:zku ds):∀{k i a:Nat} {d:Int},ds[i]? =some d->(qW ds i)[k]? =some a->ds[a]? =some (d - k)
 | 0,i,a,d,hd,h=>by
  rw[yF]at h
  cases h
  rw[hd];congr 1;omega
 | k+1,i,a,d,hd,h=>by
  rw[yF]at h;have h:(qW ds (vi ds i))[k]? =some a:=h;have hp:=zgL hs hd;have h0:=hs.2.1 d (Xd hd)
  by_cases c:d=0
  ·rw[hp.1 c,zey dC]at h;cases h
  ·obtain⟨j,hj,_,hjd⟩:=hp.2 oM;rw[hj]at h;have:=zhA hs hjd h;rw[this];congr 1;omega
theorem zhB{ds:List Int}(hs:zku ds):∀{d i:Nat},ds[i]? =some (d:Int)->(qW ds i).length=d+1
 | 0,i,hd=>by
  rw[yF,(zgL hs hd).1 rfl,zey dC];rfl
 | d+1,i,hd=>by
  obtain⟨j,hj,_,hjd⟩:=(zgL hs hd).2 oM;rw[yF,hj,Xl,zhB (d:=d) hs (by rw[hjd];congr 1;omega)]
def tAt(l:List Nd)(k:Nat):AF:=match l[k]? with
 | some n=>n.t
 | none=>idA
theorem zqb{k:Nat}{n:Nd}(h:l[k]? =some n):tAt l k=n.t:=by unfold tAt;rw[h]
def trs(l:List Nd)(i:Int):List AF:=(qW (kj l) i).map (tAt l)
theorem zqc{n:Nd}(h:l[i]? =some n):trs l i=n.t::trs l (vi (kj l) i):=by
 unfold trs;rw[yF,Je,zqb h]
theorem zs5{i:Int}(h:i < 0):trs l i=[]:=by unfold trs;rw[zey h];rfl
def inS(s:Sc)(i:Int):Prop:=yk s/\0<=i/\i < s.ns.length
instance (s:Sc) (i:Int):Decidable (inS s i):=inferInstanceAs (Decidable (_/\_))
def zP(s:Sc)(i:Int):AF×Int:=if ¬yk s then(qn,18) else if i < 0∨s.ns.length<=i then(qn,8) else vt (trs s.ns i)
def zNd:Nd:=⟨0,0,0,qn,[],0,0,0,false,false,[],0,[],⟨0,0,0,0,[],0⟩,[],⟨0,0,[]⟩,0⟩
def kB(s:Sc)(i:Int):Nd:=if inS s i then(s.ns[i.toNat]?).getD zNd else zNd
def zbc(w:AF×Int)(l:List Sg):List (List Pt):=if w.2≠0 then[] else(zac l w.1 32).1
def yN(s:Sc)(i:Int):List (List Pt):=if (kB s i).k≠2∨(kB s i).fill.length=0 then[] else zbc (zP s i) (kB s i).path
def zbv(s:Sc)(i:Int):List (List Pt):=if (kB s i).k≠2∨(kB s i).strk.length=0 then[] else if (zP s i).2≠0 then[] else(zb9 (kB s i).path (kB s i).pen (zP s i).1 32).1
def zie(s:Sc)(i:Int):List (List Pt):=if (kB s i).k≠3 then[] else zbc (zP s i) (vB 0 0 (kB s i).im.w (kB s i).im.h)
def zqd(s:Sc)(i:Int):List (List Pt):=if (kB s i).clip.length=0 then[] else zbc (zP s i) (kB s i).clip
theorem zxL{l:List Sg}{t:AF}{tol:Int}(h:(zac l t tol).2≠0):(zac l t tol).1=[]:=by
 unfold zac at h ⊢
 by_cases h1:(trans t l).2≠0
 ·rw[if_pos h1]
 rw[if_neg h1]at h ⊢
 by_cases h2:(z5 (trans t l).1 tol).2≠0
 ·rw[if_pos h2]
 rw[if_neg h2]at h;exact absurd rfl h
end
open Go.Proofs
section
def mdN(l:List Nd):Nat->Int
 | 0=>0
 | i+1=>match l[i]? with
  | some n=>if n.k=1 then n.d+1 else n.d
  | none=>0
def zeV(s:Sc):Prop:=s.ns.length<=64->∀n∈s.ns,zkw n
variable{l:List Nd}{i:Nat}
theorem zrF{n:Nd}(h:l[i]? =some n)(h0:0<=n.d):jF l i n↔¬mdN l i < n.d:=by
 cases i with
 | zero=>
  unfold jF mdN;rw[show l[0 - 1]? =some n from h];show n.d=0↔¬0 < n.d;omega
 | succ i=>
  obtain⟨p,hp⟩:∃p,l[i]? =some p:=⟨_,Xb (by have:=(Xc.1 h).1;omega)⟩;have hs:jF l (i+1) n=(if i+1=0 then n.d=0 else(p.k=1/\n.d=p.d+1)∨n.d<=p.d):=by unfold jF;rw[show l[i+1 - 1]? =some p from hp]
  have hm:mdN l (i+1)=if p.k=1 then p.d+1 else p.d:=by
   show(match l[i]? with | some n=>if n.k=1 then n.d+1 else n.d | none=>0)=_;rw[hp]
  rw[hs,hm,if_neg (Nat.succ_ne_zero i)]
  split <;> omega
def zuP(r:Int×Int):SV:=.tup [i64 r.1,i64 r.2]
theorem zag{s:Sc}(h:zeU s):LE (.tup [i64 6,i64 0]) (zuP (zid s)):=by rw[zid,if_pos h];exact .refl
theorem zmk{s:Sc}(h1:¬zeU s)(h2:64 < s.ns.length):LE (.tup [i64 5,i64 64]) (zuP (zid s)):=by rw[zid,if_neg h1,if_pos h2];exact .refl
variable{x:Nd}{e:Int}
theorem ziD{s:Sc}(h1:¬zeU s)(h2:¬64 < s.ns.length)(hx:s.ns[i]? =some x)(hz:∀j,j < i->uG s.ns j=0)(he:zgJ s.ns i x=e)(h0:e≠0):LE (.tup [i64 e,i64 (i:Int)]) (zuP (zid s)):=by
 have ee:=zcO hx;rw[he]at ee;rw[zid,if_neg h1,if_neg h2,zzz (Xc.1 hx).1 hz (by rw[ee];exact h0)];show LE _ (.tup [i64 (uG s.ns i),i64 (i:Int)]);rw[ee];exact .refl
theorem zs6{s:Sc}(h1:¬zeU s)(h2:¬64 < s.ns.length)(hz:∀j,j < s.ns.length->uG s.ns j=0):LE (.tup [i64 0,i64 0]) (zuP (zid s)):=by
 rw[zid,if_neg h1,if_neg h2,zuM hz];exact .refl
theorem zxM(h:l[i]? =some x):(l.take (i+1)).map Nd.id=(l.take i).map Nd.id++[x.id]:=by
 rw[Xm,h,XI];rfl
theorem zqf(h:¬y7 x=0):zgJ l i x=y7 x:=if_pos h
theorem zqg(h:y7 x=0)(k:x.id∈(l.take i).map Nd.id):zgJ l i x=7:=by unfold zgJ;rw[if_neg (λq=>q h),if_pos k]
theorem zkD(h:y7 x=0)(k:x.id∉(l.take i).map Nd.id)(d:¬jF l i x):zgJ l i x=17:=by unfold zgJ;rw[if_neg (λq=>q h),if_neg k,if_pos d]
theorem zs7(h:y7 x=0)(k:x.id∉(l.take i).map Nd.id)(d:jF l i x):zgJ l i x=0:=by unfold zgJ;rw[if_neg (λq=>q h),if_neg k,if_neg (λq=>q d)]
theorem zml(hx:l[i]? =some x)(hz:∀j,j < i->uG l j=0)(he:zgJ l i x=0):∀j,j < i+1->uG l j=0:=λj hj=>by
 by_cases c:j=i
 ·rw[c,zcO hx,he]
 ·exact hz j oM
theorem zzA(s:Sc)(ht:zeV s):CG0 80 [.agg (scE s)] [] (zuP (zid s)) []:=by
 refine zc Tryz.func80 ?_;refine⟨λh=>zag (.inl h),λh1=>?_⟩;refine⟨λh=>zag (.inr (.inl h)),λh2=>?_⟩;refine⟨λh=>zag (.inr (.inr (.inl h))),λh3=>?_⟩;refine⟨λh=>zag (.inr (.inr (.inr h))),λh4=>?_⟩;have hb:¬zeU s:=λk=>k.elim h1 λk=>k.elim h2 λk=>k.elim h3 h4
 intro hl0;refine⟨λh=>zmk hb oM,λh5=>?_⟩;have hn:¬64 < s.ns.length:=oM;have ht:=ht oM;intro hl1
 refine⟨Nat,λi=>⟨[(35,i64 (i:Int)),(34,i64 (s.ns.length:Int)),(33,.sl ndE s.ns),(5,i64 (mdN s.ns i)),(4,.own 1),(1,.loc 0 0)],
  [(1,.map (znQ ((s.ns.take i).map Nd.id))),(0,.box 26 (scE s))],2,67,0⟩,λi=>i<=s.ns.length/\∀j,j < i->uG s.ns j=0,λi=>s.ns.length - i,0,⟨Xe _,λj h=>by omega⟩,?_,?_⟩
 ·exact zf [0,1]
 rintro i ⟨hi,hz⟩
 refine⟨λg=>?_,λg=>?_⟩
 ·have g:(i:Int) < s.ns.length:=g;refine Ob.o ?_;intro x hx;have hx:s.ns[i]? =some x:=hx;have hm:=Xd hx;refine zb.t (zzy x (ht x hm))<|⟨λh=>ziD hb hn hx hz (zqf h) h,λh6=>?_⟩;have h6:y7 x=0:=Xa.1 h6;refine zuO (n:=x.id) (ks:=(s.ns.take i).map Nd.id) (λ_ _ _ a b=>Br.mk a b) (λh=>?_) (λh7=>?_)
  ·exact ziD hb hn hx hz (zqg h6 h) dC
  have hs:=zrF hx (zdV h6).2.1.1;have hd:=(zdV h6).2.1;refine⟨λh=>ziD hb hn hx hz (zkD h6 h7 (λq=>hs.1 q h)) dC,λh8=>?_⟩;have hz':=zml hx hz (zs7 h6 h7 (hs.2 h8));refine zqe h7 ?_;have em:znQ ((s.ns.take i).map Nd.id++[x.id])=znQ ((s.ns.take (i+1)).map Nd.id):=by rw[zxM hx]
  refine⟨λh9=>?_,λh9=>?_⟩
  ·have e5:x.d+1=mdN s.ns (i+1):=by show _=(match s.ns[i]? with | some n=>if n.k=1 then n.d+1 else n.d | none=>0);rw[hx];exact(if_pos h9).symm
   (iterate 2 refine Ar.o ?_);exact⟨i+1,⟨oM,hz'⟩,zL [0,1] ⟨rfl,rfl,rfl,congrArg (λq=>some (i64 q)) e5,rfl,rfl,trivial⟩ ⟨congrArg (λq=>some (Mem.map q)) em,rfl,trivial⟩,by dsimp only;omega⟩
  ·have e5:x.d=mdN s.ns (i+1):=by show _=(match s.ns[i]? with | some n=>if n.k=1 then n.d+1 else n.d | none=>0);rw[hx];exact(if_neg h9).symm
   exact Ar.o<|⟨i+1,⟨oM,hz'⟩,zL [0,1] ⟨rfl,rfl,rfl,congrArg (λq=>some (i64 q)) e5,rfl,rfl,trivial⟩ ⟨congrArg (λq=>some (Mem.map q)) em,rfl,trivial⟩,by dsimp only;omega⟩
 ·have g:¬(i:Int) < s.ns.length:=g;exact zs6 hb hn λj hj=>hz j oM
theorem znR(s:Sc)(ht:zeV s):CG0 39 [.agg (scE s)] [] (pr (yk s)) []:=by
 refine zc Tryz.func39 ?_;exact zb.t (zzA s ht)<|zF K4
theorem s_has(s:Sc)(i:Int)(ht:zeV s):CG0 81 [.agg (scE s),i64 i] [] (pr (inS s i)) []:=by
 refine zc Tryz.func81 ?_;refine⟨λh1=>?_,λh1=>zd λk=>h1 k.2.1⟩;intro hl0;refine⟨λh2=>?_,λh2=>zd λk=>h2 k.2.2⟩;exact zb.t (znR s ht)<|zF ⟨λh=>⟨h,h1,h2⟩,λk=>k.1⟩
def parS(s:Sc)(i:Int):Int:=if inS s i then vi (kj s.ns) i.toNat else -1
theorem zBS(l:List Nd)(i:Nat)(n:Nd)(hn:l[i]? =some n)(hd:∀n∈l,0<=n.d/\n.d < 8)(hl:l.length<=64):CG0 82 [.sl ndE l,i64 (i:Int)] [] (i64 (vi (kj l) i)) []:=by
 have hi:=(Xc.1 hn).1;have eg:(kj l).getD i 0=n.d:=by rw[Xt,vR hn];rfl
 have ep:vi (kj l) i=vD (kj l) (n.d - 1) i:=by unfold vi;rw[eg]
 have hnd:=hd n (Xd hn);refine zc Tryz.func82 ?_;refine Ar.o<|⟨Nat,λm=>⟨[(5,i64 ((m:Int) - 1)),(1,i64 (i:Int)),(0,.sl ndE l)],[],0,25,0⟩,λm=>m<=i/\vD (kj l) (n.d - 1) m=vi (kj l) i,λm=>m,i,⟨Xh _,ep.symm⟩,?_,?_⟩
 ·exact zE []
 rintro m ⟨hm,he⟩
 refine⟨λg=>?_,λg=>?_⟩
 ·have g:0<=(m:Int) - 1:=g;obtain⟨k,rfl⟩:∃k,m=k+1:=⟨m - 1,oM⟩;refine Dr.k<|Ob.o ?_;intro x hx;have hx:l[k]? =some x:=by rw[← hx];congr 1;omega
  refine Ob.o ?_;intro y hy;have hy:y=n:=Xj ((show l[i]? =some y from hy).symm.trans hn);rw[hy];refine Ar.o ?_;have hk:=vR hx;refine⟨λh=>?_,λh=>?_⟩
  ·refine zi ?_;rw[← he];unfold vD;rw[hk,if_pos (by rw[h])];omega
  ·refine Ar.o<|⟨k,⟨oM,?_⟩,jG [] ⟨congrArg (λq=>some (i64 q)) oM,rfl,rfl,trivial⟩ trivial,by dsimp only;omega⟩;rw[← he]
   conv=>rhs;unfold vD
   rw[hk,if_neg (λq=>h (Xj q))]
 ·have g:¬0<=(m:Int) - 1:=g;obtain rfl:m=0:=oM;exact zi he
theorem zah{s:Sc}{i:Int}(h:inS s i):∃n,s.ns[i.toNat]? =some n:=⟨_,Xb (by have:=h.2;omega)⟩
theorem zfv{s:Sc}(h:yk s):∀n∈s.ns,0<=n.d/\n.d < 8:=λn hn=>by
 obtain⟨j,hj,e⟩:=Kg hn;exact(zdV (zcP h (e ▸ Xb hj)).1).2.1
theorem zbd{s:Sc}(h:yk s):s.ns.length<=64:=(zkB.1 h).2.1
theorem zqh(s:Sc)(i:Int)(ht:zeV s):CG0 40 [.agg (scE s),i64 i] [] (i64 (parS s i)) []:=by
 refine zc Tryz.func40 ?_;refine zb.t (s_has s i ht)<|⟨λh=>zi (if_neg h).symm,λh=>?_⟩;have h:inS s i:=Xa.1 h;obtain⟨n,hn⟩:=zah h;have hp:=zBS s.ns i.toNat n hn (zfv h.1) (zbd h.1);rw[show((i.toNat:Nat):Int)=i by have:=h.2.1;omega]at hp;exact zb.t hp<|zi (if_pos h).symm
theorem zxO(n:Int):CG0 342 [i64 n] [] (pr (zcM n)) []:=by
 refine zc Tryz.func342 ?_;refine⟨λh=>?_,λh=>?_⟩
 ·exact zT (.inl h)
 ·exact zF ⟨.inr,λk=>k.resolve_left h⟩
theorem zs8(n:Nd):CG0 346 [.agg (ndE n)] [] (pr (zb7 n)) []:=by
 refine zc Tryz.func346 ?_;refine⟨λh1=>?_,λh1=>zd λk=>h1 k.1⟩;refine⟨λh2=>?_,λh2=>zd λk=>h2 k.2.1⟩;refine⟨λh3=>?_,λh3=>zd λk=>h3 (by rw[k.2.2.1];decide)⟩;exact zF ⟨λh=>⟨h1,h2,by simpa using h3,by simpa using h⟩,λk=>by rw[k.2.2.2];decide⟩
theorem zs9(n:Nd):CG0 343 [.agg (ndE n)] [] (pr (zcW n)) []:=by
 refine zc Tryz.func343 ?_;intro hl1;refine⟨λh1=>?_,λh1=>zd λk=>h1 (by have:=k.1;omega)⟩;refine⟨λh2=>?_,λh2=>zd λk=>h2 k.2.1⟩;intro hl2;refine⟨λh3=>?_,λh3=>zd λk=>h3 (by have:=k.2.2.1;omega)⟩;intro hl3;exact zF ⟨λh=>⟨oM,h2,oM,oM⟩,λk=>by have:=k.2.2.2;omega⟩
theorem znS(n:Nd):CG0 344 [.agg (ndE n)] [] (pr (ul n.pen)) []:=by
 refine zc Tryz.func344 ?_;refine⟨λh1=>?_,λh1=>zd λk=>h1 k.1⟩;refine⟨λh2=>?_,λh2=>zd λk=>h2 k.2.1⟩;refine⟨λh3=>?_,λh3=>zd λk=>h3 k.2.2.1⟩;refine⟨λh4=>?_,λh4=>zd λk=>h4 k.2.2.2.1⟩;intro hl1;refine⟨λh5=>?_,λh5=>zd λk=>h5 (by rw[k.2.2.2.2.1];rfl)⟩;have h5:n.pen.d.length=0:=oM;exact zF ⟨λh=>⟨h1,h2,h3,h4,XJ.1 h5,h⟩,λk=>k.2.2.2.2.2⟩
theorem zta(n:Nd):CG0 345 [.agg (ndE n)] [] (pr (zb8 n)) []:=by
 refine zc Tryz.func345 ?_;refine⟨λh1=>?_,λh1=>zd λk=>h1 k.1⟩;refine⟨λh2=>?_,λh2=>zd λk=>h2 k.2.1⟩;intro hl1;refine⟨λh3=>?_,λh3=>zd λk=>h3 (by have:=k.2.2.1;omega)⟩;exact zF ⟨λh=>⟨h1,h2,oM,h⟩,λk=>k.2.2.2⟩
theorem zBT(n:Nd):CG0 295 [.agg (ndE n)] [] (pr (zgI n)) []:=by
 have bad:¬u6 n->LE (bl false) (pr (zgI n)):=λh=>zd λk=>h k.1
 refine zcq tok Tryz.func295 rfl rfl rfl (zcZ.cut tok mix 2 (λ_:Unit=>⟨[(1,.loc 0 0)],[(0,.box 55 (ndE n))],1,56,0⟩) (λ_=>u6 n) ?_ λ_ hk=>zcZ.vc tok mix ?_)
 ·intro hl1;refine⟨λh1=>?_,λh1=>?_⟩
  ·refine⟨λh2=>bad λk=>k.elim (λk=>h2 k.2) λk=>by have:=k.1;omega,λh2=>?_⟩;intro hl2;refine⟨λh3=>?_,λh3=>⟨(),.inl ⟨oM,Xa.1 h2⟩,zf [0]⟩⟩;omega
  ·intro hl2;refine⟨λh3=>?_,λh3=>?_⟩
   ·refine zb.t (zxO n.cr)<|⟨λh4=>bad λk=>k.elim (λk=>by have:=k.1;omega) λk=>h4 k.2,λh4=>?_⟩;exact⟨(),.inr ⟨oM,Xa.1 h4⟩,zf [0]⟩
   ·omega
 ·refine⟨λk1=>?_,λk1=>?_⟩
  ·have e:zgI n↔(zcW n/\ul n.pen)/\zb8 n:=by unfold zgI;rw[if_pos k1];exact⟨λh=>h.2,λh=>⟨hk,h⟩⟩
   refine zb.t (zs9 n)<|⟨λa=>?_,λa=>zd λk=>a (e.1 k).1.1⟩;refine zb.t (znS n)<|⟨λb=>?_,λb=>zd λk=>b (e.1 k).1.2⟩;exact zb.t (zta n)<|zF ⟨λh=>e.2 ⟨⟨a,b⟩,h⟩,λk=>(e.1 k).2⟩
  refine⟨λk2=>?_,λk2=>?_⟩
  ·have e:zgI n↔zb7 n/\zb8 n:=by unfold zgI;rw[if_neg k1,if_pos k2];exact⟨λh=>h.2,λh=>⟨hk,h⟩⟩
   refine zb.t (zs8 n)<|⟨λa=>?_,λa=>zd λk=>a (e.1 k).1⟩;exact zb.t (zta n)<|zF ⟨λh=>e.2 ⟨a,h⟩,λk=>(e.1 k).2⟩
  ·have e:zgI n↔zb7 n/\zcW n/\ul n.pen:=by unfold zgI;rw[if_neg k1,if_neg k2];exact⟨λh=>h.2,λh=>⟨hk,h⟩⟩
   refine zb.t (zs8 n)<|⟨λa=>?_,λa=>zd λk=>a (e.1 k).1⟩;refine zb.t (zs9 n)<|⟨λb=>?_,λb=>zd λk=>b (e.1 k).2.1⟩;exact zb.t (znS n)<|zF ⟨λh=>e.2 ⟨a,b,h⟩,λk=>(e.1 k).2.2⟩
theorem zqj(xs:List Pnt)(ht:zdR xs):CG0 347 [.sl u5 xs] [] (pr (uF xs)) []:=by
 refine zc Tryz.func347 ?_;refine⟨Int,λi=>⟨[(3,i64 i),(0,.sl u5 xs)],[],0,16,0⟩,λi=>0<=i/\i<=xs.length/\∀(j:Nat) q,(j:Int) < i->xs[j]? =some q->vv q,λi=>((xs.length:Int) - i).toNat,0,?_,?_,?_⟩
 ·exact⟨oM,oM,λj q hj=>by omega⟩
 ·exact zE []
 rintro i ⟨h1,h2,h3⟩
 intro hl0;refine⟨λh4=>?_,λh4=>?_⟩
 ·refine Ob.o ?_;intro x hx;have hm:=ht x (Xd hx);refine zb.t (zqi x hm.1)<|⟨λh5=>zd λk=>h5 (k x (Xd hx)),λh5=>?_⟩;refine Ar.o<|⟨i+1,⟨oM,oM,λj q hj hq=>?_⟩,zE [],by dsimp only;omega⟩
  by_cases e:j=i.toNat
  ·subst e;rw[hx]at hq;cases hq;exact Xa.1 h5
  ·exact h3 j q oM hq
 ·refine zT λp hp=>?_
  obtain⟨j,hj,he⟩:=Kg hp;exact h3 j p oM (by rw[← he];exact Xb hj)
theorem zzC(n:Nd)(t1:zdR n.fill)(t2:zdR n.strk):CG0 296 [.agg (ndE n)] [] (i64 (vw n)) []:=by
 refine zc Tryz.func296 ?_;refine zb.t (zf4 n.path)<|⟨λh1=>zi (by unfold vw;rw[if_pos h1]),λh1=>?_⟩;refine zb.t (zxO n.rule)<|⟨λh2=>zi (by unfold vw;rw[if_neg h1,if_pos h2]),λh2=>?_⟩;intro hl1;refine⟨λa1=>zi (by unfold vw;rw[if_neg h1,if_neg h2,if_pos (.inl oM)]),λa1=>?_⟩;intro hl2;refine⟨λa2=>zi (by unfold vw;rw[if_neg h1,if_neg h2,if_pos (.inr oM)]),λa2=>?_⟩;have h3:¬(1 < n.fill.length∨1 < n.strk.length):=oM;intro hl3;refine⟨λb1=>?_,λb1=>?_⟩
 all_goals first
  | (refine zb.t (zcz n.pen) ?_;refine⟨λb2=>zi (by unfold vw;rw[if_neg h1,if_neg h2,if_neg h3,if_pos ⟨oM,b2⟩]),λb2=>?_⟩;have h4:¬(0 < n.strk.length/\¬kF n.pen):=λk=>b2 k.2)
  | have h4:¬(0 < n.strk.length/\¬kF n.pen):=λk=>b1 (by have:=k.1;omega)
 all_goals intro hl4
 all_goals refine⟨λc1=>?_,λc1=>?_⟩
 all_goals first
  | (refine zb.t (znS n) ?_;refine⟨λc2=>zi (by unfold vw;rw[if_neg h1,if_neg h2,if_neg h3,if_neg h4,if_pos ⟨oM,c2⟩]),λc2=>?_⟩;have h5:¬(n.strk.length=0/\¬ul n.pen):=λk=>c2 k.2)
  | have h5:¬(n.strk.length=0/\¬ul n.pen):=λk=>c1 (by have:=k.1;omega)
 all_goals refine zb.t (zqj n.fill t1) ?_
 all_goals refine⟨λd1=>zi (by unfold vw;rw[if_neg h1,if_neg h2,if_neg h3,if_neg h4,if_neg h5];exact(if_pos (Or.inl d1)).symm),λd1=>?_⟩
 all_goals refine zb.t (zqj n.strk t2) ?_
 all_goals refine⟨λd2=>zi (by unfold vw;rw[if_neg h1,if_neg h2,if_neg h3,if_neg h4,if_neg h5];exact(if_pos (Or.inr d2)).symm),λd2=>zi (by unfold vw;rw[if_neg h1,if_neg h2,if_neg h3,if_neg h4,if_neg h5];exact(if_neg (λk=>k.elim d1 d2)).symm)⟩
theorem zzD(n:Nd)(h:zkw n):CG0 231 [.agg (ndE n)] [] (i64 (y7 n)) []:=by
 obtain⟨ht,t1,t2,t3⟩:=h;refine zc Tryz.func231 ?_;refine⟨λa1=>zi (by unfold y7;rw[if_pos (.inl a1)]),λa1=>?_⟩;refine⟨λa2=>zi (by unfold y7;rw[if_pos (.inr a2)]),λa2=>?_⟩;have h1:¬(n.k < 1∨3 < n.k):=oM;refine⟨λb1=>zi (by unfold y7;rw[if_neg h1,if_pos oM]),λb1=>?_⟩;refine⟨λb2=>zi (by unfold y7;rw[if_neg h1,if_pos oM]),λb2=>?_⟩;refine⟨λb3=>zi (by unfold y7;rw[if_neg h1,if_pos oM]),λb3=>?_⟩
 refine⟨λb4=>zi (by unfold y7;rw[if_neg h1,if_pos oM]),λb4=>?_⟩;have h2:¬(n.id < 1∨1073741824 < n.id∨n.d < 0∨8<=n.d):=oM;refine zb.t (zbV n.t (ht.up dC)) ?_;refine⟨λh3=>zi (by unfold y7;rw[if_neg h1,if_neg h2,if_pos h3]),λh3=>?_⟩;refine zb.t (zsl n.t (ht.up dC)) ?_;refine zb.t (jf 0 (by constructor <;> decide)) ?_;have hcmp:=zm6 (ofQ (yr n.t)) (ofQ ((0:Int):Rat)) (by have:=zgH ht;rw[zB];omega) (by decide +kernel);rw[z6,z6]at hcmp;refine zb.t hcmp ?_
 refine⟨λh4=>zi (by unfold y7;rw[if_neg h1,if_neg h2,if_neg h3,if_pos ((J1.1 (uP _)).1 h4)]),λh4=>?_⟩;have h4:¬yr n.t=0:=(uP _).1 h4;refine zb.t (zf4 n.clip)<|⟨λh5=>zi (by unfold y7;rw[if_neg h1,if_neg h2,if_neg h3,if_neg h4,if_pos h5]),λh5=>?_⟩;refine zb.t (zBT n)<|⟨λh6=>zi (by unfold y7;rw[if_neg h1,if_neg h2,if_neg h3,if_neg h4,if_neg h5,if_pos h6]),λh6=>?_⟩;refine⟨λk2=>?_,λk2=>?_⟩
 ·exact zb.t (zzC n t1 t2)<|zi (by unfold y7;rw[if_neg h1,if_neg h2,if_neg h3,if_neg h4,if_neg h5,if_neg h6,if_neg oM,if_pos k2])
 refine⟨λk1=>?_,λk1=>?_⟩
 ·exact zb.t (zBK n.mode)<|⟨λm=>zi (by unfold y7;rw[if_neg h1,if_neg h2,if_neg h3,if_neg h4,if_neg h5,if_neg h6,if_pos k1];exact(if_pos m).symm),λm=>zi (by unfold y7;rw[if_neg h1,if_neg h2,if_neg h3,if_neg h4,if_neg h5,if_neg h6,if_pos k1];exact(if_neg m).symm)⟩
 refine zb.t (zkq n.im)<|⟨λm=>zi (by unfold y7;rw[if_neg h1,if_neg h2,if_neg h3,if_neg h4,if_neg h5,if_neg h6,if_neg k1,if_neg k2,if_pos m]),λm=>?_⟩;refine⟨λs1=>?_,λs1=>zi (by unfold y7;rw[if_neg h1,if_neg h2,if_neg h3,if_neg h4,if_neg h5,if_neg h6,if_neg k1,if_neg k2,if_neg m,if_neg (λk=>s1 k.1)])⟩
 exact⟨λs2=>zi (by unfold y7;rw[if_neg h1,if_neg h2,if_neg h3,if_neg h4,if_neg h5,if_neg h6,if_neg k1,if_neg k2,if_neg m,if_pos ⟨s1,s2⟩]),λs2=>zi (by unfold y7;rw[if_neg h1,if_neg h2,if_neg h3,if_neg h4,if_neg h5,if_neg h6,if_neg k1,if_neg k2,if_neg m,if_neg (λk=>s2 k.2)])⟩
def zkE(l:List Nd)(id:Int):Int:=match l.findIdx? (λn=>n.id=id) with | some i=>i | none=> -1
variable{id:Int}
theorem zxP(h:∀(j:Nat) q,j < i->l[j]? =some q->q.id≠id)(hx:l[i]? =some x)(hb:x.id=id):zkE l id=i:=by
 have:l.findIdx? (λn=>n.id=id)=some i:=by
  rw[KE];have hi:=(Xc.1 hx);refine⟨hi.1,by rw[hi.2];simpa using hb,λj hj=>?_⟩;have:=h j _ hj (Xb (by have:=hi.1;omega))
  simpa using this
 unfold zkE;rw[this]
theorem zkF(h:∀p∈l,p.id≠id):zkE l id= -1:=by
 have:l.findIdx? (λn=>n.id=id)=none:=by
  rw[Kt];intro p hp;simpa using h p hp
 unfold zkE;rw[this]
theorem zqk:0<=zkE l id↔id∈l.map Nd.id:=by
 by_cases h:∀p∈l,p.id≠id
 ·rw[zkF h];refine⟨λk=>by omega,λk=>?_⟩;obtain⟨p,hp,e⟩:=XY.1 k;exact absurd e (h p hp)
 ·unfold zkE
  cases hf:l.findIdx? (λn=>n.id=id) with
  | some i=>
   refine⟨λ_=>?_,λ_=>Int.natCast_nonneg i⟩;rw[KE]at hf;obtain⟨hi,h1,_⟩:=hf;exact XY.2 ⟨l[i],KK hi,by simpa using h1⟩
  | none=>rw[Kt]at hf;exact absurd (λp hp=>by simpa using hf p hp) h
theorem zBU(l:List Nd)(id:Int):CG0 232 [.sl ndE l,i64 id] [] (i64 (zkE l id)) []:=by
 refine zc Tryz.func232 ?_;refine⟨Nat,λi=>⟨[(5,i64 (i:Int)),(1,i64 id),(0,.sl ndE l)],[],0,20,0⟩,λi=>i<=l.length/\∀(j:Nat) q,j < i->l[j]? =some q->q.id≠id,λi=>l.length - i,0,⟨Xe _,λj q h=>by omega⟩,?_,?_⟩
 ·exact zE []
 rintro i ⟨h1,h2⟩
 intro hl0;refine⟨λg=>?_,λg=>?_⟩
 ·have g:(i:Int) < l.length:=g;refine Ob.o ?_;intro x hx;have hx:l[i]? =some x:=hx;refine⟨λh=>zi (zxP h2 hx h).symm,λh=>?_⟩;refine Ar.o<|⟨i+1,⟨oM,λj q hj hq=>?_⟩,zE [],by dsimp only;omega⟩
  by_cases c:j=i
  ·subst c;rw[hx]at hq;cases hq;exact h
  ·exact h2 j q oM hq
 ·have g:¬(i:Int) < l.length:=g;refine zi (zkF λp hp=>?_).symm;obtain⟨j,hj,e⟩:=Kg hp;exact h2 j p oM (by rw[← e];exact Xb hj)
theorem zxQ{n:Nd}(h:l[0]? =some n):jF l 0 n↔n.d=0:=by
 unfold jF;rw[show l[0 - 1]? =some n from h];exact K4
theorem zxR{l:List Nd}{i:Nat}{n p:Nd}(hp:l[i]? =some p):jF l (i+1) n↔(p.k=1/\n.d=p.d+1)∨n.d<=p.d:=by
 unfold jF;rw[show l[i+1 - 1]? =some p from hp];exact K4
theorem zxS(l:List Nd)(i:Nat)(n:Nd)(hn:l[i]? =some n)(hd:∀j p,j < i->l[j]? =some p->0<=p.d/\p.d < 8)(hl:l.length<=64):
  CG0 233 [.sl ndE l,i64 (i:Int)] [] (pr (jF l i n)) []:=by
 have hi:=(Xc.1 hn).1;refine zc Tryz.func233 ?_;refine⟨λg=>?_,λg=>?_⟩
 ·have g:(i:Int)=0:=g;obtain rfl:i=0:=oM;refine Ob.o ?_;intro x hx;have hx:x=n:=Xj ((show l[0]? =some x from hx).symm.trans hn);rw[hx];exact zF (zxQ hn).symm
 ·have g:¬(i:Int)=0:=g;obtain⟨k,rfl⟩:∃k,i=k+1:=⟨i - 1,oM⟩;obtain⟨p,hp⟩:∃p,l[k]? =some p:=⟨_,Xb oM⟩;have hpd:=hd k p oM hp;have hs:=zxR (n:=n) hp;refine Dr.k<|Ar.o<|Ob.o ?_;intro x hx;have hx:x=p:=Xj ((show l[k]? =some x by rw[← hx];congr 1;omega).symm.trans hp);rw[hx];refine⟨λh1=>?_,λh1=>?_⟩
  ·refine Ob.o ?_;intro y hy;have hy:y=n:=Xj ((show l[k+1]? =some y by rw[← hy];congr 1).symm.trans hn);rw[hy];refine Ar.o<|Ob.o ?_;intro z hz;have hz:z=p:=Xj ((show l[k]? =some z by rw[← hz];congr 1;omega).symm.trans hp);rw[hz];refine Ar.o<|Br.mk (λh2=>zT (hs.2 (.inl ⟨h1,h2⟩))) (λh2=>?_);refine Dr.k<|Ob.o ?_;intro y hy;have hy:y=n:=Xj ((show l[k+1]? =some y by rw[← hy];congr 1).symm.trans hn);rw[hy];refine Ar.o<|Ob.o ?_;intro z hz
   have hz:z=p:=Xj ((show l[k]? =some z by rw[← hz];congr 1;omega).symm.trans hp);rw[hz];exact zF ⟨λh=>hs.2 (.inr h),λh=>(hs.1 h).resolve_left λq=>h2 q.2⟩
  ·refine Dr.k<|Ob.o ?_;intro y hy;have hy:y=n:=Xj ((show l[k+1]? =some y by rw[← hy];congr 1).symm.trans hn);rw[hy];refine Ar.o<|Ob.o ?_;intro z hz;have hz:z=p:=Xj ((show l[k]? =some z by rw[← hz];congr 1;omega).symm.trans hp);rw[hz];exact zF ⟨λh=>hs.2 (.inr h),λh=>(hs.1 h).resolve_left λq=>h1 q.1⟩
theorem zzE(l:List Nd)(i:Nat)(n:Nd)(hn:l[i]? =some n)(ht:zkw n)(hd:∀j p,j < i->l[j]? =some p->0<=p.d/\p.d < 8)(hl:l.length<=64):
  CG0 173 [.sl ndE l,i64 (i:Int)] [] (i64 (zgJ l i n)) []:=by
 have hi:=(Xc.1 hn).1;refine zc Tryz.func173 ?_;refine Ob.o ?_;intro x hx;have hx:x=n:=Xj ((show l[i]? =some x from hx).symm.trans hn);rw[hx];refine zb.t (zzD n ht)<|⟨λh=>zi (zqf h).symm,λh1=>?_⟩;have h1:y7 n=0:=Xa.1 h1;refine Dr.k<|Ob.mk ⟨oM,λ_ _=>rfl⟩<|Ob.o ?_;intro y hy;have hy:y=n:=Xj ((show l[i]? =some y from hy).symm.trans hn);rw[hy]
 have e:(l.drop (0:Int).toNat).take ((i:Int) - 0).toNat=l.take i:=by rw[show(0:Int).toNat=0 from rfl,KR];congr 1
 refine zb.t (zBU ((l.drop (0:Int).toNat).take ((i:Int) - 0).toNat) n.id) ?_;rw[e];refine⟨λh=>zi (zqg h1 (zqk.1 h)).symm,λh2=>?_⟩;have h2:n.id∉(l.take i).map Nd.id:=λk=>h2 (zqk.2 k)
 refine zb.t (zxS l i n hn hd hl)<|⟨λh=>zi (zkD h1 h2 h).symm,λh3=>?_⟩;exact zi (zs7 h1 h2 (Xa.1 h3)).symm
theorem zxT(s:Sc)(ht:zeV s):CG0 109 [.agg (scE s)] [] (zuP (zid s)) []:=by
 refine zc Tryz.func109 ?_;refine⟨λh=>zag (.inl h),λh1=>?_⟩;refine⟨λh=>zag (.inr (.inl h)),λh2=>?_⟩;refine⟨λh=>zag (.inr (.inr (.inl h))),λh3=>?_⟩;refine⟨λh=>zag (.inr (.inr (.inr h))),λh4=>?_⟩;have hb:¬zeU s:=λk=>k.elim h1 λk=>k.elim h2 λk=>k.elim h3 h4
 intro hl0;refine⟨λh=>zmk hb oM,λh5=>?_⟩;have hn:¬64 < s.ns.length:=oM;have ht:=ht oM;refine⟨Nat,λi=>⟨[(4,i64 (i:Int)),(1,.loc 0 0)],[(0,.box 26 (scE s))],1,43,0⟩,λi=>i<=s.ns.length/\∀j,j < i->uG s.ns j=0,λi=>s.ns.length - i,0,⟨Xe _,λj h=>by omega⟩,?_,?_⟩
 ·exact zf [0]
 rintro i ⟨hi,hz⟩
 intro hl1;refine⟨λg=>?_,λg=>?_⟩
 ·have g:(i:Int) < s.ns.length:=g;obtain⟨x,hx⟩:∃x,s.ns[i]? =some x:=⟨_,Xb oM⟩;have hm:=Xd hx
  have hd:∀j p,j < i->s.ns[j]? =some p->0<=p.d/\p.d < 8:=λj p hj hp=>by
   have:=hz j hj;rw[zcO hp]at this;exact(zdV (zmj this).1).2.1
  refine zb.t (zzE s.ns i x hx (ht x hm) hd oM)<|⟨λh=>ziD hb hn hx hz rfl h,λh6=>?_⟩;exact Ar.o<|⟨i+1,⟨oM,zml hx hz (Xa.1 h6)⟩,zf [0],by dsimp only;omega⟩
 ·have g:¬(i:Int) < s.ns.length:=g;exact zs6 hb hn λj hj=>hz j oM
theorem zql(s:Sc)(ht:zeV s):CG0 54 [.agg (scE s)] [] (pr (yk s)) []:=by
 refine zc Tryz.func54 ?_;exact zb.t (zxT s ht)<|zF K4
theorem zxU(s:Sc)(i:Int)(ht:zeV s):CG0 110 [.agg (scE s),i64 i] [] (pr (inS s i)) []:=by
 refine zc Tryz.func110 ?_;refine zb.t (zql s ht)<|⟨λh1=>?_,λh1=>zd λk=>h1 k.1⟩;refine⟨λh2=>?_,λh2=>zd λk=>h2 k.2.1⟩;intro hl0;exact zF ⟨λh=>⟨h1,h2,h⟩,λk=>k.2.2⟩
theorem zBV(l:List Nd)(i:Nat)(n:Nd)(hn:l[i]? =some n)(hd:∀n∈l,0<=n.d/\n.d < 8)(hl:l.length<=64):CG0 111 [.sl ndE l,i64 (i:Int)] [] (i64 (vi (kj l) i)) []:=by
 have hi:=(Xc.1 hn).1;have eg:(kj l).getD i 0=n.d:=by rw[Xt,vR hn];rfl
 have ep:vi (kj l) i=vD (kj l) (n.d - 1) i:=by unfold vi;rw[eg]
 have hnd:=hd n (Xd hn);refine zc Tryz.func111 ?_;refine Ar.o<|⟨Nat,λm=>⟨[(5,i64 ((m:Int) - 1)),(1,i64 (i:Int)),(0,.sl ndE l)],[],0,25,0⟩,λm=>m<=i/\vD (kj l) (n.d - 1) m=vi (kj l) i,λm=>m,i,⟨Xh _,ep.symm⟩,?_,?_⟩
 ·exact zE []
 rintro m ⟨hm,he⟩
 refine⟨λg=>?_,λg=>?_⟩
 ·have g:0<=(m:Int) - 1:=g;obtain⟨k,rfl⟩:∃k,m=k+1:=⟨m - 1,oM⟩;refine Dr.k<|Ob.o ?_;intro x hx;have hx:l[k]? =some x:=by rw[← hx];congr 1;omega
  refine Ob.o ?_;intro y hy;have hy:y=n:=Xj ((show l[i]? =some y from hy).symm.trans hn);rw[hy];refine Ar.o ?_;have hk:=vR hx;refine⟨λh=>?_,λh=>?_⟩
  ·refine zi ?_;rw[← he];unfold vD;rw[hk,if_pos (by rw[h])];omega
  ·refine Ar.o<|⟨k,⟨oM,?_⟩,jG [] ⟨congrArg (λq=>some (i64 q)) oM,rfl,rfl,trivial⟩ trivial,by dsimp only;omega⟩;rw[← he]
   conv=>rhs;unfold vD
   rw[hk,if_neg (λq=>h (Xj q))]
 ·have g:¬0<=(m:Int) - 1:=g;obtain rfl:m=0:=oM;exact zi he
def zk5(s:Sc)(i:Int):List Int:=if inS s i then((qW (kj s.ns) i).reverse).map (λk:Nat=>(k:Int)) else[]
variable{m:Nat}{a:Nat}
theorem zxV{c:List Nat}{d:Nat}(hl:c.length=d+1)(hm:m<=d)(ha:c[d - m]? =some a):c.reverse.take (m+1)=c.reverse.take m++[a]:=by
 have:c.reverse[m]? =some a:=by
  rw[Q6 oM,← ha];congr 1;omega
 rw[Xm,this];rfl
def zcQ(l:List Nat):List Int:=l.map (λk:Nat=>(k:Int))
theorem zzF(s:Sc)(i:Int)(ht:zeV s):CG0 55 [.agg (scE s),i64 i] [] (.own 0) [(0,.arr 3 uN 1 (zk5 s i))]:=by
 refine qS tok mix Tryz.func55 rfl rfl rfl<|⟨Int,uN,[],rfl,Ob.o2 ?_⟩;refine zb.t (zxU s i ht)<|⟨λh=>⟨some 1,.own 1 rfl,congrArg (λq=>some (Mem.arr 3 uN 1 q)) (show[]=zk5 s i from(if_neg h).symm),λ_ _=>rfl⟩,λh=>?_⟩;have h:inS s i:=Xa.1 h;obtain⟨n,hn⟩:=zah h;obtain⟨i,rfl⟩:∃k:Nat,i=(k:Int):=⟨i.toNat,by have:=h.2.1;omega⟩;have hn:s.ns[i]? =some n:=hn;have hdp:=zfv h.1;have hl:=zbd h.1;have hs:=zdW h.1;have hnd:=hdp n (Xd hn)
 obtain⟨d,hd⟩:∃d:Nat,n.d=(d:Int):=⟨n.d.toNat,oM⟩;have hD:(kj s.ns)[i]? =some (d:Int):=by rw[vR hn,hd]
 have hlen:=zhB hs hD;have ea:zk5 s i=zcQ ((qW (kj s.ns) i).reverse):=if_pos h;have hil:=(Xc.1 hn).1
 refine⟨Nat,λm=>⟨[(6,i64 (m:Int)),(5,.own 1),(2,.loc 0 0),(1,i64 (i:Int))],[(1,.arr 3 uN 1 (zcQ ((qW (kj s.ns) i).reverse.take m))),(0,.box 26 (scE s))],2,42,0⟩,
  λm=>m<=d+1,λm=>d+1 - m,0,Xe _,?_,?_⟩
 ·exact zf [0,1]
 intro m hm;have hm:m<=d+1:=hm;refine Ob.o ?_;intro x hx;have hx:x=n:=Xj ((show s.ns[i]? =some x from hx).symm.trans hn);rw[hx];refine⟨λg=>?_,λg=>?_⟩
 ·have g:(m:Int)<=n.d:=g;rw[hd]at g;have c0:(qW (kj s.ns) i)[0]? =some i:=by rw[yF];rfl
  refine⟨Nat×Nat,λz=>⟨[(7,i64 (z.2:Int)),(6,i64 (m:Int)),(5,.own 1),(2,.loc 0 0),(1,i64 (i:Int))],[(1,.arr 3 uN 1 (zcQ ((qW (kj s.ns) i).reverse.take m))),(0,.box 26 (scE s))],2,42,0⟩,
   λz=>z.1<=d - m/\(qW (kj s.ns) i)[z.1]? =some z.2,λz=>d - z.1,(0,i),⟨Xe _,c0⟩,?_,?_⟩
  ·exact zf [0,1]
  rintro⟨k,a⟩ ⟨hk,hc⟩
  have hk:k<=d - m:=hk;have hc:(qW (kj s.ns) i)[k]? =some a:=hc;have hda:=zhA hs hD hc;obtain⟨y,hy,hyd⟩:=vS hda;have hal:=(Xc.1 hy).1;dsimp only;refine Ob.o ?_;intro w hw;have hw:w=y:=Xj ((show s.ns[a]? =some w from hw).symm.trans hy);rw[hw];refine⟨λq=>?_,λq=>?_⟩
  ·have q:(m:Int) < y.d:=q;rw[hyd]at q;refine zb.t (zBV s.ns a y hy hdp hl) ?_;obtain⟨j,hj,_,_⟩:=(zgL hs hda).2 oM;refine⟨(k+1,j),⟨by dsimp only;omega,zkC hc hj⟩,zL [0,1] ⟨congrArg (λq=>some (i64 q)) hj,rfl,rfl,rfl,rfl,trivial⟩ ⟨rfl,rfl,trivial⟩,by dsimp only;omega⟩
  ·have q:¬(m:Int) < y.d:=q;rw[hyd]at q;obtain rfl:k=d - m:=oM;refine⟨Int,uN,[(a:Int)],rfl,Ob.o10 ?_⟩
   have hlen0:(zcQ ((qW (kj s.ns) i).reverse.take m)).length<=64:=by
    unfold zcQ;rw[XF,Xk,Qr,hlen];omega
   refine⟨[(a:Int)],rfl,Ob.mk ⟨by show(((zcQ ((qW (kj s.ns) i).reverse.take m)).length:Int)+1)*8<=_;omega,by rw[J6];omega,dC,λx hx=>by rw[Xr.1 hx];rfl⟩ ?_⟩;refine Ar.o ?_
   have en:zcQ ((qW (kj s.ns) i).reverse.take m)++[(a:Int)]=zcQ ((qW (kj s.ns) i).reverse.take (m+1)):=by
    rw[zxV hlen oM hc];unfold zcQ;rw[XI];rfl
   exact⟨m+1,by show m+1<=d+1;omega,zC [0,3] ⟨congrArg (λq=>some (Mem.arr 3 uN 1 q)) en,rfl,trivial⟩,by show d+1 - (m+1) < d+1 - m;omega⟩
 ·have g:¬(m:Int)<=n.d:=g;rw[hd]at g;have e:(qW (kj s.ns) i).reverse.take m=(qW (kj s.ns) i).reverse:=Xg (by rw[Qr,hlen];omega);exact⟨some 1,.own 1 rfl,congrArg (λq=>some (Mem.arr 3 uN 1 q)) (by rw[ea,e]),λ_ _=>rfl⟩
theorem zBW(s:Sc)(i:Int)(ht:zeV s):CG0 55 [.agg (scE s),i64 i] [] (.sl uN (zk5 s i)) []:=(zzF s i ht).plain rfl
def zAp(n:Nd):Prop:=n.t.le 100/\zkw n/\n.path.length<=300/\n.clip.length<=300
def yz(s:Sc):Prop:=s.ns.length<=64->∀n∈s.ns,zAp n
theorem yz.tame{s:Sc}(h:yz s):zeV s:=λhl n hn=>(h hl n hn).2.1
theorem zBX{s:Sc}(h:yz s)(hv:yk s)(k:Nat):(tAt s.ns k).le 100:=by
 unfold tAt
 cases hk:s.ns[k]? with
 | none=>exact zm7.up dC
 | some n=>exact(h (zbd hv) n (Xd hk)).1
theorem zrG{s:Sc}(h:yz s)(hv:yk s)(i:Int):∀t∈trs s.ns i,t.le 100:=λt ht=>by
 obtain⟨k,_,rfl⟩:=XY.1 ht;exact zBX h hv k
theorem znT{s:Sc}(hv:yk s)(hi:i < s.ns.length):(trs s.ns i).length<=8:=by
 have hn:s.ns[i]? =some s.ns[i]:=Xb hi;have hd:=zfv hv s.ns[i] (KK hi);unfold trs;rw[XF,zhB (d:=s.ns[i].d.toNat) (zdW hv) (by rw[vR hn];congr 1;omega)];omega
theorem zxW{l:List AF}:(vt l).1.le 100:=by
 unfold vt
 split
 ·rename_i h;have:=zkn (l:=l) (i:=l.length) (Xh _) λk hk=>h.2 k hk
  rw[X9]at this;exact this.up dC
 ·exact yy _
theorem yO(s:Sc)(i:Int):(zP s i).1.le 100:=by
 unfold zP
 split
 ·exact yy _
 split
 ·exact yy _
 ·exact zxW
def zqm(r:AF×Int):SV:=.tup [.agg (afE r.1),i64 r.2]
theorem uw{s:Sc}{i:Int}(h:zP s i=(qn,e)):LE (.tup [.agg yU,i64 e]) (zqm (zP s i)):=by
 rw[h];exact zI zaI .refl
theorem zkG{s:Sc}{i:Int}(h:yk s)(h0:0<=i)(h1:i < s.ns.length):zP s i=vt (trs s.ns i):=by
 unfold zP;rw[if_neg (λk=>k h),if_neg oM]
theorem ztb{s:Sc}(h:yk s)(hi:i < s.ns.length):parS s i=vi (kj s.ns) i:=by
 unfold parS;rw[if_pos ⟨h,oM,oM⟩];rfl
def scO(s:Sc)(k:Nat):List SV:=[i64 s.w,i64 s.h,u8 s.bg.r,u8 s.bg.g,u8 s.bg.b,u8 s.bg.a,.own k]
abbrev uQ(l:List Nd):Mem:=.arr 55 ndE 47 l
theorem znU(s:Sc)(i:Int)(ht:yz s):CG0 18 [.agg (scE s),i64 i] [] (zqm (zP s i)) []:=by
 refine zc Tryz.func18 ?_;refine zb.t (znR s ht.tame)<|⟨λh=>uw (if_pos h),λh=>?_⟩;have hv:yk s:=Xa.1 h;refine⟨λh1=>uw ((if_neg h).trans (if_pos (.inl h1))),λh1=>?_⟩;intro hl0;refine⟨λh2=>uw ((if_neg h).trans (if_pos (.inr h2))),λh2=>?_⟩;have e0:=zkG hv (i:=i) oM oM;have hl64:=zbd hv;have hle:=zrG ht hv i
 have hlen:(trs s.ns i).length<=8:=by
  obtain⟨k,rfl⟩:∃k:Nat,i=(k:Int):=⟨i.toNat,oM⟩;exact znT hv oM
 refine⟨List AF×Int,λz=>⟨[(6,.own 2),(4,.loc 1 0),(2,.loc 0 0),(1,i64 z.2)],[(2,.arr 45 afE 24 z.1),(1,.box 45 yU),(0,.box 26 (scE s))],3,39,0⟩,
  λz=>z.1++trs s.ns z.2=trs s.ns i/\ -1<=z.2/\z.2 < s.ns.length,λz=>(z.2+1).toNat,([],i),⟨rfl,by dsimp only;omega,by dsimp only;omega⟩,?_,?_⟩
 ·exact zE [(0,some 0),(1,some 1),(2,none)]
 rintro⟨p,j⟩ ⟨hp,hj1,hj2⟩
 have hp:p++trs s.ns j=trs s.ns i:=hp;have hj1: -1<=j:=hj1;have hj2:j < s.ns.length:=hj2;have hpl:p.length<=8:=by rw[← hp,Xi]at hlen;omega
 refine⟨λg=>?_,λg=>?_⟩
 ·have g:0<=j:=g;obtain⟨k,rfl⟩:∃k:Nat,j=(k:Int):=⟨j.toNat,oM⟩;refine Ob.o ?_;intro x hx;have hx:s.ns[k]? =some x:=hx;refine⟨AF,afE,[x.t],rfl,Ob.mk ⟨rfl,dC,dC,dC,λy hy=>by rw[Xr.1 hy];exact⟨rfl,rfl,rfl⟩⟩ ?_⟩;refine⟨[x.t],rfl,Ob.mk ⟨by show((p.length:Int)+1)*_<=_;dsimp only;omega,by show p.length+1<=_;omega,dC,λy hy=>by rw[Xr.1 hy];rfl⟩ ?_⟩;refine zb.t (zqh s k ht.tame) ?_;have ep:=ztb hv (i:=k) oM;have hpn:=ziC (kj s.ns) k
  refine⟨(p++[x.t],vi (kj s.ns) k),⟨by dsimp only;rw[XL,← hp,zqc hx];rfl,hpn.1,by dsimp only;omega⟩,zL [0,1,4] ⟨rfl,rfl,rfl,congrArg (λq=>some (i64 q)) ep,trivial⟩ ⟨rfl,rfl,rfl,trivial⟩,by dsimp only;omega⟩
 ·have g:¬0<=j:=g;have e1:p=trs s.ns i:=by rw[← hp,zs5 oM,XE]
  subst e1;refine zb.see 2 _ (zko (trs s.ns i) hle) rfl rfl rfl ?_;rw[e0];exact zI .refl .refl
theorem zgM(s:Sc)(i:Int)(ht:yz s):CG0 18 [.agg (scO s 0),i64 i] [(0,uQ s.ns)] (zqm (zP s i)) [(0,uQ s.ns)]:=by
 refine uq tok mix Tryz.func18 rfl rfl rfl (λ_ _=>rfl) rfl<|zb.t (znR s ht.tame)<|⟨λh=>⟨rfl,uw (if_pos h)⟩,λh=>?_⟩;have hv:yk s:=Xa.1 h;refine⟨λh1=>⟨rfl,uw ((if_neg h).trans (if_pos (.inl h1)))⟩,λh1=>?_⟩;intro hl0;refine⟨λh2=>⟨rfl,uw ((if_neg h).trans (if_pos (.inr h2)))⟩,λh2=>?_⟩;have e0:=zkG hv (i:=i) oM oM;have hl64:=zbd hv;have hle:=zrG ht hv i
 have hlen:(trs s.ns i).length<=8:=by
  obtain⟨k,rfl⟩:∃k:Nat,i=(k:Int):=⟨i.toNat,oM⟩;exact znT hv oM
 refine⟨List AF×Int,λz=>⟨[(6,.own 3),(4,.loc 2 0),(2,.loc 1 0),(1,i64 z.2)],[(3,.arr 45 afE 24 z.1),(2,.box 45 yU),(1,.box 26 (scO s 0)),(0,uQ s.ns)],4,39,1⟩,
  λz=>z.1++trs s.ns z.2=trs s.ns i/\ -1<=z.2/\z.2 < s.ns.length,λz=>(z.2+1).toNat,([],i),⟨rfl,by dsimp only;omega,by dsimp only;omega⟩,?_,?_⟩
 ·exact zE [(0,some 0),(1,some 1),(2,some 2),(3,none)]
 rintro⟨p,j⟩ ⟨hp,hj1,hj2⟩
 have hp:p++trs s.ns j=trs s.ns i:=hp;have hj1: -1<=j:=hj1;have hj2:j < s.ns.length:=hj2;have hpl:p.length<=8:=by rw[← hp,Xi]at hlen;omega
 refine⟨λg=>?_,λg=>?_⟩
 ·have g:0<=j:=g;obtain⟨k,rfl⟩:∃k:Nat,j=(k:Int):=⟨j.toNat,oM⟩;refine Ob.o<|Ob.o ?_;intro x hx;have hx:s.ns[k]? =some x:=hx;refine⟨AF,afE,[x.t],rfl,Ob.mk ⟨rfl,dC,dC,dC,λy hy=>by rw[Xr.1 hy];exact⟨rfl,rfl,rfl⟩⟩ ?_⟩;refine⟨[x.t],rfl,Ob.mk ⟨by show((p.length:Int)+1)*_<=_;dsimp only;omega,by show p.length+1<=_;omega,dC,λy hy=>by rw[Xr.1 hy];rfl⟩ ?_⟩;refine zb.t (zqh s k ht.tame) ?_;have ep:=ztb hv (i:=k) oM;have hpn:=ziC (kj s.ns) k
  refine⟨(p++[x.t],vi (kj s.ns) k),⟨by dsimp only;rw[XL,← hp,zqc hx];rfl,hpn.1,by dsimp only;omega⟩,zL [0,1,2,5] ⟨rfl,rfl,rfl,congrArg (λq=>some (i64 q)) ep,trivial⟩ ⟨rfl,rfl,rfl,rfl,trivial⟩,by dsimp only;omega⟩
 ·have g:¬0<=j:=g;have e1:p=trs s.ns i:=by rw[← hp,zs5 oM,XE]
  subst e1;refine zb.see 3 _ (zko (trs s.ns i) hle) rfl rfl rfl ?_;rw[e0];exact⟨rfl,zI .refl .refl⟩
theorem zBY{s:Sc}(h:inS s i)(hm:m < (qW (kj s.ns) i).length)(ha:(qW (kj s.ns) i)[(qW (kj s.ns) i).length - 1 - m]? =some a):(zk5 s i)[m]? =some (a:Int):=by
 have e:zk5 s i=((qW (kj s.ns) i).reverse).map (λk:Nat=>(k:Int)):=if_pos h;rw[e,XA,Q6 hm,ha];rfl
theorem zzG{s:Sc}(h:inS s i):(zk5 s i).length=(qW (kj s.ns) i).length:=by
 have e:zk5 s i=((qW (kj s.ns) i).reverse).map (λk:Nat=>(k:Int)):=if_pos h;rw[e,XF,Qr]
theorem znV(s:Sc)(i:Int)(ht:yz s):CG0 27 [.agg (scE s),i64 i] [] (zqm (zP s i)) []:=by
 refine zc Tryz.func27 ?_;refine zb.t (zql s ht.tame)<|⟨λh=>uw (if_pos h),λh=>?_⟩;have hv:yk s:=Xa.1 h;refine⟨λh1=>uw ((if_neg h).trans (if_pos (.inl h1))),λh1=>?_⟩;intro hl0;refine⟨λh2=>uw ((if_neg h).trans (if_pos (.inr h2))),λh2=>?_⟩;have e0:=zkG hv (i:=i) oM oM;have hl64:=zbd hv;have hle:=zrG ht hv i;obtain⟨i,rfl⟩:∃k:Nat,i=(k:Int):=⟨i.toNat,oM⟩;have hi:i < s.ns.length:=oM;have hin:inS s i:=⟨hv,oM,oM⟩;have hlen:=znT hv hi
 have hcl:(trs s.ns i).length=(qW (kj s.ns) i).length:=by unfold trs;rw[XF]
 have hal:=zzG hin;refine zb.t (zBW s i ht.tame) ?_;intro hl1;refine Ar.o ?_
 refine⟨Nat,λm=>⟨[(8,i64 ((m:Int) - 1)),(7,.own 2),(6,.sl uN (zk5 s i)),(4,.loc 1 0),(2,.loc 0 0)],[(2,.arr 45 afE 24 ((trs s.ns i).take ((trs s.ns i).length - m))),(1,.box 45 yU),(0,.box 26 (scE s))],3,49,0⟩,
  λm=>m<=(trs s.ns i).length,λm=>m,(trs s.ns i).length,Xh _,?_,?_⟩
 ·exact jG [(0,some 0),(1,some 1),(2,none)] ⟨congrArg (λq=>some (i64 q)) oM,rfl,rfl,rfl,rfl,trivial⟩ ⟨by show Nat.beq (List.take _ _).length 0=true;rw[Jv];rfl,rfl,rfl,trivial⟩
 intro m hm;have hm:m<=(trs s.ns i).length:=hm;refine⟨λg=>?_,λg=>?_⟩
 ·have g:0<=(m:Int) - 1:=g;obtain⟨k,rfl⟩:∃k,m=k+1:=⟨m - 1,oM⟩;obtain⟨a,ha⟩:∃a,(qW (kj s.ns) i)[(qW (kj s.ns) i).length - 1 - k]? =some a:=⟨_,Xb oM⟩
  have hta:(trs s.ns i)[(trs s.ns i).length - (k+1)]? =some (tAt s.ns a):=by
   rw[hcl,show(qW (kj s.ns) i).length - (k+1)=(qW (kj s.ns) i).length - 1 - k by omega];unfold trs;rw[XA,ha];rfl
  have han:=zBY hin oM ha;have hd0:(kj s.ns)[i]? =some (s.ns[i]).d:=vR (Xb hi);obtain⟨y,hy,_⟩:=vS (zhA (zdW hv) hd0 ha);have hya:=(Xc.1 hy).1;refine Dr.k<|Ob.o ?_;intro x hx;have hx:x=(a:Int):=Xj ((show(zk5 s i)[k]? =some x by rw[← hx];congr 1;omega).symm.trans han);rw[hx];refine Ob.o ?_;intro z hz;have hz:z=y:=Xj ((show s.ns[a]? =some z from hz).symm.trans hy);rw[hz];have ht':tAt s.ns a=y.t:=zqb hy
  refine⟨AF,afE,[y.t],rfl,Ob.mk ⟨rfl,dC,dC,dC,λq hq=>by rw[Xr.1 hq];exact⟨rfl,rfl,rfl⟩⟩ ?_⟩;have hpl:((trs s.ns i).take ((trs s.ns i).length - (k+1))).length<=8:=by rw[Xk];omega
  refine⟨[y.t],rfl,Ob.mk ⟨by show((((trs s.ns i).take ((trs s.ns i).length - (k+1))).length:Int)+1)*_<=_;dsimp only;omega,by show((trs s.ns i).take ((trs s.ns i).length - (k+1))).length+1<=_;omega,dC,λq hq=>by rw[Xr.1 hq];rfl⟩ ?_⟩;refine Ar.o ?_
  have en:(trs s.ns i).take ((trs s.ns i).length - (k+1))++[y.t]=(trs s.ns i).take ((trs s.ns i).length - k):=by
   rw[show(trs s.ns i).length - k=(trs s.ns i).length - (k+1)+1 by omega,Xm,hta,ht'];rfl
  exact⟨k,by show k<=_;omega,zL [0,1,4] ⟨congrArg (λq=>some (i64 q)) oM,rfl,rfl,rfl,rfl,trivial⟩ ⟨congrArg (λq=>some (Mem.arr 45 afE 24 q)) en,rfl,rfl,trivial⟩,by show k < k+1;omega⟩
 ·have g:¬0<=(m:Int) - 1:=g;obtain rfl:m=0:=oM;have e1:(trs s.ns i).take ((trs s.ns i).length - 0)=trs s.ns i:=by rw[Yo,X9]
  refine zb.see 2 _ (znK ((trs s.ns i).take ((trs s.ns i).length - 0)) (by rw[e1];exact hle)) rfl rfl rfl ?_;rw[e0,e1];exact zI .refl .refl
theorem zuQ{l:List AF}:(vt l).2=0∨(vt l).2=5:=by
 unfold vt;split
 ·exact .inl rfl
 ·exact .inr rfl
theorem vT{s:Sc}{i:Int}:inS s i↔¬((zP s i).2=18∨(zP s i).2=8):=by
 unfold zP
 by_cases h:yk s
 ·rw[if_neg (λk=>k h)]
  by_cases h1:i < 0∨s.ns.length<=i
  ·rw[if_pos h1];exact⟨λk=>by have:=k.2;omega,λk=>absurd (.inr rfl) k⟩
  ·rw[if_neg h1];refine⟨λ_=>?_,λ_=>⟨h,oM,oM⟩⟩
   rcases zuQ (l:=trs s.ns i) with e | e <;> rw[e] <;> decide
 ·rw[if_pos h];exact⟨λk=>absurd k.1 h,λk=>absurd (.inl rfl) k⟩
theorem zmn{s:Sc}{i:Int}(h:¬inS s i):(zP s i).1=qn/\(zP s i).2≠0/\kB s i=zNd:=by
 refine⟨?_,?_,if_neg h⟩
 all_goals
  unfold zP
  by_cases h0:yk s
  ·rw[if_neg (λk=>k h0),if_pos (by
    rcases Q1 i 0 with k | k
    ·exact .inl k
    ·exact .inr (Jy.1 λq=>h ⟨h0,k,q⟩))]
   try (first | rfl | exact dC)
  ·rw[if_pos h0]
   try (first | rfl | exact dC)
theorem zez{s:Sc}{i:Int}(h:inS s i){n:Nd}(hn:s.ns[i.toNat]? =some n):kB s i=n:=by
 unfold kB;rw[if_pos h,hn];rfl
theorem zhD{s:Sc}(ht:yz s)(i:Int):(kB s i).path.length<=300/\(kB s i).clip.length<=300:=by
 by_cases h:inS s i
 ·obtain⟨n,hn⟩:=zah h;rw[zez h hn];have:=ht (zbd h.1) n (Xd hn);exact this.2.2
 ·rw[(zmn h).2.2];exact⟨Xe _,Xe _⟩
def zk6(s:Sc)(i:Int):List SV:=afE (zP s i).1++(pr ((zP s i).2=0)::ndE (kB s i))
def z47:List SV:=i64 0::i64 0::i64 0::(yU++[.val (.slice none 0 0),i64 0,u8 0,i64 0,bl false,bl false,.val (.slice none 0 0),i64 0,.val (.slice none 0 0),
 i64 0,i64 0,i64 0,i64 0,.val (.slice none 0 0),i64 0,.val (.slice none 0 0),i64 0,i64 0,.val (.slice none 0 0),i64 0])
theorem zkH:LEs yU (afE qn):=show LEs (z4++(z4++(z4++(z4++(z4++z4))))) (afE qn) from LEs.append jP (LEs.append jP (LEs.append jP (LEs.append jP (LEs.append jP jP))))
theorem zzH:LEs z47 (ndE zNd):=
 .cons .refl (.cons .refl (.cons .refl (LEs.append zkH (.cons zD (.cons .refl (.cons .refl (.cons .refl (.cons (zd dC) (.cons (zd dC) (.cons zD (.cons .refl (.cons zD
  (.cons .refl (.cons .refl (.cons .refl (.cons .refl (.cons zD (.cons .refl (.cons zD (.cons .refl (.cons .refl (.cons zD (.cons .refl .nil)))))))))))))))))))))))
theorem zgN{s:Sc}{i:Int}(h:¬inS s i):LE (.agg (yU++(bl false::z47))) (.agg (zk6 s i)):=by
 obtain⟨h1,h2,h3⟩:=zmn h;unfold zk6;rw[h1,h3];exact qA (LEs.append zkH (.cons (zd h2) zzH))
theorem zkI(s:Sc)(i:Int)(ht:yz s):CG0 25 [.agg (scE s),i64 i] [] (.agg (zk6 s i)) []:=by
 refine zc Tryz.func25 ?_;refine zb.t (znU s i ht)<|⟨λh=>zgN λk=>vT.1 k (.inl h),λh1=>?_⟩;refine⟨λh=>zgN λk=>vT.1 k (.inr h),λh2=>?_⟩;have hin:inS s i:=vT.2 λk=>k.elim h1 h2
 obtain⟨n,hn⟩:=zah hin;have hi:=(Xc.1 hn).1;have hi0:=hin.2;refine Dr.k<|Ob.o ?_;intro x hx;have hx:x=n:=Xj ((show s.ns[i.toNat]? =some x from hx).symm.trans hn);rw[hx];have e:zk6 s i=afE (zP s i).1++(pr ((zP s i).2=0)::ndE n):=by unfold zk6;rw[zez hin hn]
 rw[e];exact .refl
theorem ztc(s:Sc)(i:Int)(ht:yz s):CG0 25 [.agg (scO s 0),i64 i] [(0,uQ s.ns)] (.agg (zk6 s i)) [(0,uQ s.ns)]:=by
 refine uq tok mix Tryz.func25 rfl rfl rfl (λ_ _=>rfl) rfl<|zb.give [0] 0 [.agg (scO s 0),i64 i] [(0,uQ s.ns)] [(0,uQ s.ns)] (zqm (zP s i)) (zgM s i ht) LEs.refl rfl rfl rfl ⟨⟨_,rfl,rfl,trivial⟩,trivial⟩ rfl ⟨⟨rfl,trivial⟩,trivial⟩<|⟨λh=>⟨rfl,zgN λk=>vT.1 k (.inl h)⟩,λh1=>?_⟩;refine⟨λh=>⟨rfl,zgN λk=>vT.1 k (.inr h)⟩,λh2=>?_⟩;have hin:inS s i:=vT.2 λk=>k.elim h1 h2
 obtain⟨n,hn⟩:=zah hin;have hi:=(Xc.1 hn).1;have hi0:=hin.2;refine Dr.k<|Ob.o<|Ob.o ?_;intro x hx;have hx:x=n:=Xj ((show s.ns[i.toNat]? =some x from hx).symm.trans hn);rw[hx];have e:zk6 s i=afE (zP s i).1++(pr ((zP s i).2=0)::ndE n):=by unfold zk6;rw[zez hin hn]
 rw[e];exact⟨rfl,.refl⟩
theorem znW(r:AF×Int)(l:List Sg)(ht:r.1.le 100)(hl:l.length<=300):CG0 26 [.agg (afE r.1++[pr (r.2=0)]),.sl sgE l] [] (.sl zk (zbc r l)) []:=by
 refine zc Tryz.func26 ?_;refine⟨λh=>by rw[show zbc r l=[] from if_pos h];exact zD,λh=>?_⟩;have e:zbc r l=(zac l r.1 32).1:=if_neg h;refine zb.t (zzk l r.1 32 (ht.up dC) hl) ?_;rw[e];exact⟨λk=>by rw[zxL k];exact zD,λ_=>.refl⟩
theorem ztd(s:Sc)(i:Int)(ht:yz s):CG0 8 [.agg (scE s),i64 i] [] (.sl zk (yN s i)) []:=by
 refine zc Tryz.func8 ?_;refine zb.t (zkI s i ht)<|⟨λh=>by rw[show yN s i=[] from if_pos (.inl h)];exact zD,λh1=>?_⟩;intro hl0;refine⟨λh=>by rw[show yN s i=[] from if_pos (.inr oM)];exact zD,λh2=>?_⟩;refine zb.t (znW (zP s i) (kB s i).path (yO s i) (zhD ht i).1) ?_;rw[show yN s i=zbc (zP s i) (kB s i).path from if_neg λk=>k.elim h1 λq=>h2 oM];exact .refl
theorem zxX(s:Sc)(i:Int)(ht:yz s):CG0 8 [.agg (scO s 0),i64 i] [(0,uQ s.ns)] (.sl zk (yN s i)) [(0,uQ s.ns)]:=by
 refine uq tok mix Tryz.func8 rfl rfl rfl (λ_ _=>rfl) rfl<|zb.give [0] 0 [.agg (scO s 0),i64 i] [(0,uQ s.ns)] [(0,uQ s.ns)] (.agg (zk6 s i)) (ztc s i ht) LEs.refl rfl rfl rfl ⟨⟨_,rfl,rfl,trivial⟩,trivial⟩ rfl ⟨⟨rfl,trivial⟩,trivial⟩<|⟨λh=>by rw[show yN s i=[] from if_pos (.inl h)];exact⟨rfl,zD⟩,λh1=>?_⟩;intro hl0;refine⟨λh=>by rw[show yN s i=[] from if_pos (.inr oM)];exact⟨rfl,zD⟩,λh2=>?_⟩;refine zb.t (znW (zP s i) (kB s i).path (yO s i) (zhD ht i).1) ?_
 rw[show yN s i=zbc (zP s i) (kB s i).path from if_neg λk=>k.elim h1 λq=>h2 oM];exact⟨rfl,.refl⟩
theorem zbw(a b c d:Int):(vB a b c d).length<=300:=by
 unfold vB;split
 ·exact(by decide:5<=300)
 ·exact Xe _
theorem zxY(s:Sc)(i:Int)(ht:yz s):CG0 12 [.agg (scE s),i64 i] [] (.sl zk (zie s i)) []:=by
 refine zc Tryz.func12 ?_;refine zb.t (zkI s i ht)<|⟨λh=>by rw[show zie s i=[] from if_pos h];exact zD,λh=>?_⟩;refine Dr.k<|zb.t (zq9 0 0 (kB s i).im.w (kB s i).im.h)<|zb.t (znW (zP s i) (vB 0 0 (kB s i).im.w (kB s i).im.h) (yO s i) (zbw _ _ _ _)) ?_;rw[show zie s i=zbc (zP s i) (vB 0 0 (kB s i).im.w (kB s i).im.h) from if_neg h];exact .refl
def zkJ(s:Sc)(i:Int):SV:=.tup [.sl zk (zqd s i),pr (0 < (kB s i).clip.length)]
theorem zzI{s:Sc}{i:Int}(h:(kB s i).clip.length=0):LE (.tup [.val (.slice none 0 0),bl false]) (zkJ s i):=by
 unfold zkJ;rw[show zqd s i=[] from if_pos h];exact zI zD (zd oM)
theorem zxZ{s:Sc}{i:Int}{v:SV}(h:(kB s i).clip.length≠0)(hv:LE v (.sl zk (zbc (zP s i) (kB s i).clip))):LE (.tup [v,bl true]) (zkJ s i):=by
 unfold zkJ;rw[show zqd s i=zbc (zP s i) (kB s i).clip from if_neg h];exact zI hv (zT oM)
theorem zqn(s:Sc)(i:Int)(ht:yz s):CG0 19 [.agg (scO s 0),i64 i] [(0,uQ s.ns)] (zkJ s i) [(0,uQ s.ns)]:=by
 refine uq tok mix Tryz.func19 rfl rfl rfl (λ_ _=>rfl) rfl<|zb.give [0] 0 [.agg (scO s 0),i64 i] [(0,uQ s.ns)] [(0,uQ s.ns)] (.agg (zk6 s i)) (ztc s i ht) LEs.refl rfl rfl rfl ⟨⟨_,rfl,rfl,trivial⟩,trivial⟩ rfl ⟨⟨rfl,trivial⟩,trivial⟩ ?_;intro hl0;refine⟨λh=>⟨rfl,zzI oM⟩,λh1=>?_⟩;exact zb.t (znW (zP s i) (kB s i).clip (yO s i) (zhD ht i).2)<|⟨rfl,zxZ oM .refl⟩
end
end Go.Gs
