/- Scenes, the program's text: Check, Valid, Parent. -/
import Derived.Test.YtkngjacccoklaaaGreatDoorMA
import Derived.Test.YtkngjacccoklaaaGreatDoorMBD
import Derived.Test.YtkngjacccoklaaaGreatDoorMAZ
import Derived.Test.YtkngjacccoklaaaGreatDoorMBC
import Derived.Test.YtkngjacccoklaaaGreatDoorMAY
import Derived.Test.YtkngjacccoklaaaGreatDoorMAR
import Derived.Test.YtkngjacccoklaaaGreatDoorMAQ
import Derived.Test.YtkngjacccoklaaaGreatDoorMAP
import Derived.Test.YtkngjacccoklaaaGreatDoorMAS
set_option maxRecDepth 100000
set_option maxHeartbeats 8000000
set_option linter.all false
namespace Go.Gs
open Go.Proofs
def mdN(l:List Nd):Nat->Int
 |0=>0
 |i+1=>match l[i]? with
  |some n=>if n.k=1 then n.d+1 else n.d
  |none=>0
def zcn(s:Sc):Prop:=s.ns.length<=64->∀n∈s.ns,zk7 n
variable{l:List Nd}{i:Nat}
def zsS{n:Nd}(h:l[i]?=some n)(h0:0<=n.d):jC l i n↔¬mdN l i<n.d:=by
 cases i with
 |zero=>
  unfold jC mdN;rw[show l[0-1]?=some n from h];show n.d=0↔¬0<n.d;omega
 |succ i=>
  obtain⟨p,hp⟩:∃p,l[i]?=some p:=⟨_,Xb (by have:=(Xd.1 h).1;omega)⟩;have hs:jC l (i+1) n=(if i+1=0 then n.d=0 else(p.k=1/\n.d=p.d+1)∨n.d<=p.d):=by unfold jC;rw[show l[i+1-1]?=some p from hp]
  have hm:mdN l (i+1)=if p.k=1 then p.d+1 else p.d:=by
   show(match l[i]? with|some n=>if n.k=1 then n.d+1 else n.d|none=>0)=_;rw[hp]
  rw[hs,hm,Xc (Nat.succ_ne_zero i)]
  split <;> omega
def zwa(r:Int×Int):SV:=.tup [i64 r.1,i64 r.2]
def zam{s:Sc}(h:zfj s):LE (.tup [i64 6,i64 0]) (zwa (ziL s)):=by rw[ziL,Xe h];exact .refl
def zm8{s:Sc}(h1:¬zfj s)(h2:64<s.ns.length):LE (.tup [i64 5,i64 64]) (zwa (ziL s)):=by rw[ziL,Xc h1,Xe h2];exact .refl
variable{x:Nd}{e:Int}
def zja{s:Sc}(h1:¬zfj s)(h2:¬64<s.ns.length)(hx:s.ns[i]?=some x)(hz:∀j,j<i->uC s.ns j=0)(he:zg3 s.ns i x=e)(h0:e≠0):LE (.tup [i64 e,i64 (i:Int)]) (zwa (ziL s)):=by
 have ee:=zcW hx;rw[he]at ee;rw[ziL,Xc h1,Xc h2,zBA (Xd.1 hx).1 hz (by rw[ee];exact h0)];show LE _ (.tup [i64 (uC s.ns i),i64 (i:Int)]);rw[ee];exact .refl
def zui{s:Sc}(h1:¬zfj s)(h2:¬64<s.ns.length)(hz:∀j,j<s.ns.length->uC s.ns j=0):LE (.tup [i64 0,i64 0]) (zwa (ziL s)):=by
 rw[ziL,Xc h1,Xc h2,zv7 hz];exact .refl
def zzn(h:l[i]?=some x):(l.take (i+1)).map Nd.id=(l.take i).map Nd.id++[x.id]:=by
 rw[Xl,h,XB];rfl
def zre(h:¬y6 x=0):zg3 l i x=y6 x:=Xe h
def zrf(h:y6 x=0)(k:x.id∈(l.take i).map Nd.id):zg3 l i x=7:=by unfold zg3;rw[Xc (λq=>q h),Xe k]
def zle(h:y6 x=0)(k:x.id∉(l.take i).map Nd.id)(d:¬jC l i x):zg3 l i x=17:=by unfold zg3;rw[Xc (λq=>q h),Xc k,Xe d]
def zuj(h:y6 x=0)(k:x.id∉(l.take i).map Nd.id)(d:jC l i x):zg3 l i x=0:=by unfold zg3;rw[Xc (λq=>q h),Xc k,Xc (λq=>q d)]
def zm9(hx:l[i]?=some x)(hz:∀j,j<i->uC l j=0)(he:zg3 l i x=0):∀j,j<i+1->uC l j=0:=λj hj=>by
 by_cases c:j=i
 ·rw[c,zcW hx,he]
 exact hz j oM
def zBC(s:Sc)(ht:zcn s):CG0 66 [.agg (scE s)] [] (zwa (ziL s)) []:=by
 refine zc Tryz.func66 ?_;refine⟨λh=>zam (.inl h),λh1=>?_⟩;refine⟨λh=>zam (.inr (.inl h)),λh2=>?_⟩;refine⟨λh=>zam (.inr (.inr (.inl h))),λh3=>?_⟩;refine⟨λh=>zam (.inr (.inr (.inr h))),λh4=>?_⟩;have hb:¬zfj s:=λk=>k.elim h1 λk=>k.elim h2 λk=>k.elim h3 h4
 intro hl0;refine⟨λh=>zm8 hb oM,λh5=>?_⟩;have hn:¬64<s.ns.length:=oM;have ht:=ht oM;intro hl1
 refine⟨Nat,λi=>⟨[(35,i64 (i:Int)),(34,i64 (s.ns.length:Int)),(33,.sl ndE s.ns),(5,i64 (mdN s.ns i)),(4,.own 1),(1,.loc 0 0)],
  [(1,.map (zoO ((s.ns.take i).map Nd.id))),(0,.box 26 (scE s))],2,67,0⟩,λi=>i<=s.ns.length/\∀j,j<i->uC s.ns j=0,λi=>s.ns.length-i,0,⟨Xh _,λj h=>by omega⟩,?_,?_⟩
 ·exact zf [0,1]
 rintro i ⟨hi,hz⟩
 refine⟨λg=>?_,λg=>?_⟩
 ·have g:(i:Int)<s.ns.length:=g;refine Ob.o ?_;intro x hx;have hx:s.ns[i]?=some x:=hx;have hm:=Xf hx;refine zb.t (zBz x (ht x hm))<|⟨λh=>zja hb hn hx hz (zre h) h,λh6=>?_⟩;have h6:y6 x=0:=Xa.1 h6;refine zv9 (n:=x.id) (ks:=(s.ns.take i).map Nd.id) (λ_ _ _ a b=>Br.mk a b) (λh=>?_) (λh7=>?_)
  ·exact zja hb hn hx hz (zrf h6 h) dC
  have hs:=zsS hx (zea h6).2.1.1;have hd:=(zea h6).2.1;refine⟨λh=>zja hb hn hx hz (zle h6 h7 (λq=>hs.1 q h)) dC,λh8=>?_⟩;have hz':=zm9 hx hz (zuj h6 h7 (hs.2 h8));refine zrd h7 ?_;have em:zoO ((s.ns.take i).map Nd.id++[x.id])=zoO ((s.ns.take (i+1)).map Nd.id):=by rw[zzn hx]
  refine⟨λh9=>?_,λh9=>?_⟩
  ·have e5:x.d+1=mdN s.ns (i+1):=by show _=(match s.ns[i]? with|some n=>if n.k=1 then n.d+1 else n.d|none=>0);rw[hx];exact(Xe h9).symm
   (iterate 2 refine Ar.o ?_);exact⟨i+1,⟨oM,hz'⟩,zT [0,1] ⟨rfl,rfl,rfl,Xg (λq=>some (i64 q)) e5,rfl,rfl,trivial⟩ ⟨Xg (λq=>some (Mem.map q)) em,rfl,trivial⟩,by dsimp only;omega⟩
  have e5:x.d=mdN s.ns (i+1):=by show _=(match s.ns[i]? with|some n=>if n.k=1 then n.d+1 else n.d|none=>0);rw[hx];exact(Xc h9).symm
  exact Ar.o<|⟨i+1,⟨oM,hz'⟩,zT [0,1] ⟨rfl,rfl,rfl,Xg (λq=>some (i64 q)) e5,rfl,rfl,trivial⟩ ⟨Xg (λq=>some (Mem.map q)) em,rfl,trivial⟩,by dsimp only;omega⟩
 have g:¬(i:Int)<s.ns.length:=g;exact zui hb hn λj hj=>hz j oM
def zjb(s:Sc)(ht:zcn s):CG0 33 [.agg (scE s)] [] (pr (jY s)) []:=by
 refine zc Tryz.func33 ?_;exact zb.t (zBC s ht)<|zE K7
def zzo(s:Sc)(i:Int)(ht:zcn s):CG0 51 [.agg (scE s),i64 i] [] (pr (inS s i)) []:=by
 refine zc Tryz.func51 ?_;refine⟨λh1=>?_,λh1=>zd λk=>h1 k.2.1⟩;intro hl0;refine⟨λh2=>?_,λh2=>zd λk=>h2 k.2.2⟩;exact zb.t (zjb s ht)<|zE ⟨λh=>⟨h,h1,h2⟩,λk=>k.1⟩
def parS(s:Sc)(i:Int):Int:=if inS s i then yh (zH s.ns) i.toNat else-1
def zzp(l:List Nd)(i:Nat)(n:Nd)(hn:l[i]?=some n)(hd:∀n∈l,0<=n.d/\n.d<8)(hl:l.length<=64):CG0 80 [.sl ndE l,i64 (i:Int)] [] (i64 (yh (zH l) i)) []:=by
 have hi:=(Xd.1 hn).1;have eg:(zH l).getD i 0=n.d:=by rw[Xt,yQ hn];rfl
 have ep:yh (zH l) i=yw (zH l) (n.d-1) i:=by unfold yh;rw[eg]
 have hnd:=hd n (Xf hn);refine zc Tryz.func80 ?_;refine Ar.o<|⟨Nat,λm=>⟨[(5,i64 ((m:Int)-1)),(1,i64 (i:Int)),(0,.sl ndE l)],[],0,25,0⟩,λm=>m<=i/\yw (zH l) (n.d-1) m=yh (zH l) i,λm=>m,i,⟨Xk _,ep.symm⟩,?_,?_⟩
 ·exact zC []
 rintro m ⟨hm,he⟩
 refine⟨λg=>?_,λg=>?_⟩
 ·have g:0<=(m:Int)-1:=g;obtain⟨k,rfl⟩:∃k,m=k+1:=⟨m-1,oM⟩;refine Dr.k<|Ob.o ?_;intro x hx;have hx:l[k]?=some x:=by rw[←hx];congr 1;omega
  refine Ob.o ?_;intro y hy;have hy:y=n:=Xm ((show l[i]?=some y from hy).symm.trans hn);rw[hy];refine Ar.o ?_;have hk:=yQ hx;refine⟨λh=>?_,λh=>?_⟩
  ·refine ze ?_;rw[←he];unfold yw;rw[hk,Xe (by rw[h])];omega
  refine Ar.o<|⟨k,⟨oM,?_⟩,jh [] ⟨Xg (λq=>some (i64 q)) oM,rfl,rfl,trivial⟩ trivial,by dsimp only;omega⟩;rw[←he]
  conv=>rhs;unfold yw
  rw[hk,Xc (λq=>h (Xm q))]
 have g:¬0<=(m:Int)-1:=g;obtain rfl:m=0:=oM;exact ze he
def uN{s:Sc}{i:Int}(h:inS s i):∃n,s.ns[i.toNat]?=some n:=⟨_,Xb (by have:=h.2;omega)⟩
def yE{s:Sc}(h:jY s):∀n∈s.ns,0<=n.d/\n.d<8:=λn hn=>by
 obtain⟨j,hj,e⟩:=Kl hn;exact(zea (zcX h (e ▸ Xb hj)).1).2.1
def uO{s:Sc}(h:jY s):s.ns.length<=64:=(zlc.1 h).2.1
def zzq(s:Sc)(i:Int)(ht:zcn s):CG0 123 [.agg (scE s),i64 i] [] (i64 (parS s i)) []:=by
 refine zc Tryz.func123 ?_;refine zb.t (zzo s i ht)<|⟨λh=>ze (Xc h).symm,λh=>?_⟩;have h:inS s i:=Xa.1 h;obtain⟨n,hn⟩:=uN h;have hp:=zzp s.ns i.toNat n hn (yE h.1) (uO h.1);rw[show((i.toNat:Nat):Int)=i by have:=h.2.1;omega]at hp;exact zb.t hp<|ze (Xe h).symm
def zzs(n:Int):CG0 280 [i64 n] [] (pr (zcU n)) []:=by
 refine zc Tryz.func280 ?_;refine⟨λh=>?_,λh=>?_⟩
 ·exact zI (.inl h)
 exact zE ⟨.inr,λk=>k.resolve_left h⟩
def zuk(n:Nd):CG0 284 [.agg (ndE n)] [] (pr (zck n)) []:=by
 refine zc Tryz.func284 ?_;refine⟨λh1=>?_,λh1=>zd λk=>h1 k.1⟩;refine⟨λh2=>?_,λh2=>zd λk=>h2 k.2.1⟩;refine⟨λh3=>?_,λh3=>zd λk=>h3 (by rw[k.2.2.1];decide)⟩;exact zE ⟨λh=>⟨h1,h2,by simpa using h3,by simpa using h⟩,λk=>by rw[k.2.2.2];decide⟩
def zul(n:Nd):CG0 281 [.agg (ndE n)] [] (pr (zc8 n)) []:=by
 refine zc Tryz.func281 ?_;intro hl1;refine⟨λh1=>?_,λh1=>zd λk=>h1 (by have:=k.1;omega)⟩;refine⟨λh2=>?_,λh2=>zd λk=>h2 k.2.1⟩;intro hl2;refine⟨λh3=>?_,λh3=>zd λk=>h3 (by have:=k.2.2.1;omega)⟩;intro hl3;exact zE ⟨λh=>⟨oM,h2,oM,oM⟩,λk=>by have:=k.2.2.2;omega⟩
def zoP(n:Nd):CG0 282 [.agg (ndE n)] [] (pr (uj n.pen)) []:=by
 refine zc Tryz.func282 ?_;refine⟨λh1=>?_,λh1=>zd λk=>h1 k.1⟩;refine⟨λh2=>?_,λh2=>zd λk=>h2 k.2.1⟩;refine⟨λh3=>?_,λh3=>zd λk=>h3 k.2.2.1⟩;refine⟨λh4=>?_,λh4=>zd λk=>h4 k.2.2.2.1⟩;intro hl1;refine⟨λh5=>?_,λh5=>zd λk=>h5 (by rw[k.2.2.2.2.1];rfl)⟩;have h5:n.pen.d.length=0:=oM;exact zE ⟨λh=>⟨h1,h2,h3,h4,XM.1 h5,h⟩,λk=>k.2.2.2.2.2⟩
def zum(n:Nd):CG0 283 [.agg (ndE n)] [] (pr (zcl n)) []:=by
 refine zc Tryz.func283 ?_;refine⟨λh1=>?_,λh1=>zd λk=>h1 k.1⟩;refine⟨λh2=>?_,λh2=>zd λk=>h2 k.2.1⟩;intro hl1;refine⟨λh3=>?_,λh3=>zd λk=>h3 (by have:=k.2.2.1;omega)⟩;exact zE ⟨λh=>⟨h1,h2,oM,h⟩,λk=>k.2.2.2⟩
def zEn(n:Nd):CG0 200 [.agg (ndE n)] [] (pr (zg2 n)) []:=by
 have bad:¬u5 n->LE (bl false) (pr (zg2 n)):=λh=>zd λk=>h k.1
 refine zcF tok Tryz.func200 rfl rfl rfl (zdb.cut tok mix 2 (λ_:Unit=>⟨[(1,.loc 0 0)],[(0,.box 48 (ndE n))],1,56,0⟩) (λ_=>u5 n) ?_ λ_ hk=>zdb.vc tok mix ?_)
 ·intro hl1;refine⟨λh1=>?_,λh1=>?_⟩
  ·refine⟨λh2=>bad λk=>k.elim (λk=>h2 k.2) λk=>by have:=k.1;omega,λh2=>?_⟩;intro hl2;refine⟨λh3=>?_,λh3=>⟨(),.inl ⟨oM,Xa.1 h2⟩,zf [0]⟩⟩;omega
  intro hl2;refine⟨λh3=>?_,λh3=>?_⟩
  ·refine zb.t (zzs n.cr)<|⟨λh4=>bad λk=>k.elim (λk=>by have:=k.1;omega) λk=>h4 k.2,λh4=>?_⟩;exact⟨(),.inr ⟨oM,Xa.1 h4⟩,zf [0]⟩
  omega
 refine⟨λk1=>?_,λk1=>?_⟩
 ·have e:zg2 n↔(zc8 n/\uj n.pen)/\zcl n:=by unfold zg2;rw[Xe k1];exact⟨λh=>h.2,λh=>⟨hk,h⟩⟩
  refine zb.t (zul n)<|⟨λa=>?_,λa=>zd λk=>a (e.1 k).1.1⟩;refine zb.t (zoP n)<|⟨λb=>?_,λb=>zd λk=>b (e.1 k).1.2⟩;exact zb.t (zum n)<|zE ⟨λh=>e.2 ⟨⟨a,b⟩,h⟩,λk=>(e.1 k).2⟩
 refine⟨λk2=>?_,λk2=>?_⟩
 ·have e:zg2 n↔zck n/\zcl n:=by unfold zg2;rw[Xc k1,Xe k2];exact⟨λh=>h.2,λh=>⟨hk,h⟩⟩
  refine zb.t (zuk n)<|⟨λa=>?_,λa=>zd λk=>a (e.1 k).1⟩;exact zb.t (zum n)<|zE ⟨λh=>e.2 ⟨a,h⟩,λk=>(e.1 k).2⟩
 have e:zg2 n↔zck n/\zc8 n/\uj n.pen:=by unfold zg2;rw[Xc k1,Xc k2];exact⟨λh=>h.2,λh=>⟨hk,h⟩⟩
 refine zb.t (zuk n)<|⟨λa=>?_,λa=>zd λk=>a (e.1 k).1⟩;refine zb.t (zul n)<|⟨λb=>?_,λb=>zd λk=>b (e.1 k).2.1⟩;exact zb.t (zoP n)<|zE ⟨λh=>e.2 ⟨a,b,h⟩,λk=>(e.1 k).2.2⟩
def zrh(xs:List Pnt)(ht:zfi xs):CG0 285 [.sl yD xs] [] (pr (uB xs)) []:=by
 refine zc Tryz.func285 ?_;refine⟨Int,λi=>⟨[(3,i64 i),(0,.sl yD xs)],[],0,16,0⟩,λi=>0<=i/\i<=xs.length/\∀(j:Nat) q,(j:Int)<i->xs[j]?=some q->vA q,λi=>((xs.length:Int)-i).toNat,0,?_,?_,?_⟩
 ·exact⟨oM,oM,λj q hj=>by omega⟩
 ·exact zC []
 rintro i ⟨h1,h2,h3⟩
 intro hl0;refine⟨λh4=>?_,λh4=>?_⟩
 ·refine Ob.o ?_;intro x hx;have hm:=ht x (Xf hx);refine zb.t (zrg x hm.1)<|⟨λh5=>zd λk=>h5 (k x (Xf hx)),λh5=>?_⟩;refine Ar.o<|⟨i+1,⟨oM,oM,λj q hj hq=>?_⟩,zC [],by dsimp only;omega⟩
  by_cases e:j=i.toNat
  ·subst e;rw[hx]at hq;cases hq;exact Xa.1 h5
  exact h3 j q oM hq
 refine zI λp hp=>?_
 obtain⟨j,hj,he⟩:=Kl hp;exact h3 j p oM (by rw[←he];exact Xb hj)
def zBE(n:Nd)(t1:zfi n.fill)(t2:zfi n.strk):CG0 201 [.agg (ndE n)] [] (i64 (vB n)) []:=by
 refine zc Tryz.func201 ?_;refine zb.t (zgt n.path)<|⟨λh1=>ze (by unfold vB;rw[Xe h1]),λh1=>?_⟩;refine zb.t (zzs n.rule)<|⟨λh2=>ze (by unfold vB;rw[Xc h1,Xe h2]),λh2=>?_⟩;intro hl1;refine⟨λa1=>ze (by unfold vB;rw[Xc h1,Xc h2,Xe (.inl oM)]),λa1=>?_⟩;intro hl2;refine⟨λa2=>ze (by unfold vB;rw[Xc h1,Xc h2,Xe (.inr oM)]),λa2=>?_⟩;have h3:¬(1<n.fill.length∨1<n.strk.length):=oM;intro hl3;refine⟨λb1=>?_,λb1=>?_⟩
 all_goals first
  |(refine zb.t (zcM n.pen) ?_;refine⟨λb2=>ze (by unfold vB;rw[Xc h1,Xc h2,Xc h3,Xe ⟨oM,b2⟩]),λb2=>?_⟩;have h4:¬(0<n.strk.length/\¬kC n.pen):=λk=>b2 k.2)
  |have h4:¬(0<n.strk.length/\¬kC n.pen):=λk=>b1 (by have:=k.1;omega)
 all_goals intro hl4
 all_goals refine⟨λc1=>?_,λc1=>?_⟩
 all_goals first
  |(refine zb.t (zoP n) ?_;refine⟨λc2=>ze (by unfold vB;rw[Xc h1,Xc h2,Xc h3,Xc h4,Xe ⟨oM,c2⟩]),λc2=>?_⟩;have h5:¬(n.strk.length=0/\¬uj n.pen):=λk=>c2 k.2)
  |have h5:¬(n.strk.length=0/\¬uj n.pen):=λk=>c1 (by have:=k.1;omega)
 all_goals refine zb.t (zrh n.fill t1) ?_
 all_goals refine⟨λd1=>ze (by unfold vB;rw[Xc h1,Xc h2,Xc h3,Xc h4,Xc h5];exact(Xe (Or.inl d1)).symm),λd1=>?_⟩
 all_goals refine zb.t (zrh n.strk t2) ?_
 all_goals refine⟨λd2=>ze (by unfold vB;rw[Xc h1,Xc h2,Xc h3,Xc h4,Xc h5];exact(Xe (Or.inr d2)).symm),λd2=>ze (by unfold vB;rw[Xc h1,Xc h2,Xc h3,Xc h4,Xc h5];exact(Xc (λk=>k.elim d1 d2)).symm)⟩
def zBF(n:Nd)(h:zk7 n):CG0 133 [.agg (ndE n)] [] (i64 (y6 n)) []:=by
 obtain⟨ht,t1,t2,t3⟩:=h;refine zc Tryz.func133 ?_;refine⟨λa1=>ze (by unfold y6;rw[Xe (.inl a1)]),λa1=>?_⟩;refine⟨λa2=>ze (by unfold y6;rw[Xe (.inr a2)]),λa2=>?_⟩;have h1:¬(n.k<1∨3<n.k):=oM;refine⟨λb1=>ze (by unfold y6;rw[Xc h1,Xe oM]),λb1=>?_⟩;refine⟨λb2=>ze (by unfold y6;rw[Xc h1,Xe oM]),λb2=>?_⟩;refine⟨λb3=>ze (by unfold y6;rw[Xc h1,Xe oM]),λb3=>?_⟩
 refine⟨λb4=>ze (by unfold y6;rw[Xc h1,Xe oM]),λb4=>?_⟩;have h2:¬(n.id<1∨1073741824<n.id∨n.d<0∨8<=n.d):=oM;refine zb.t (zb8 n.t (ht.up dC)) ?_;refine⟨λh3=>ze (by unfold y6;rw[Xc h1,Xc h2,Xe h3]),λh3=>?_⟩;refine zb.t (ztE n.t (ht.up dC)) ?_;refine zb.t (yB 0 (by constructor <;> decide)) ?_;have hcmp:=zxE (ofQ (zbr n.t)) (ofQ ((0:Int):Rat)) (by have:=zg1 ht;rw[zF];omega) (by decide +kernel);rw[kv,kv]at hcmp;refine zb.t hcmp ?_
 refine⟨λh4=>ze (by unfold y6;rw[Xc h1,Xc h2,Xc h3,Xe ((Yh.1 (uL _)).1 h4)]),λh4=>?_⟩;have h4:¬zbr n.t=0:=(uL _).1 h4;refine zb.t (zgt n.clip)<|⟨λh5=>ze (by unfold y6;rw[Xc h1,Xc h2,Xc h3,Xc h4,Xe h5]),λh5=>?_⟩;refine zb.t (zEn n)<|⟨λh6=>ze (by unfold y6;rw[Xc h1,Xc h2,Xc h3,Xc h4,Xc h5,Xe h6]),λh6=>?_⟩;refine⟨λk2=>?_,λk2=>?_⟩
 ·exact zb.t (zBE n t1 t2)<|ze (by unfold y6;rw[Xc h1,Xc h2,Xc h3,Xc h4,Xc h5,Xc h6,Xc oM,Xe k2])
 refine⟨λk1=>?_,λk1=>?_⟩
 ·exact zb.t (zEg n.mode)<|⟨λm=>ze (by unfold y6;rw[Xc h1,Xc h2,Xc h3,Xc h4,Xc h5,Xc h6,Xe k1];exact(Xe m).symm),λm=>ze (by unfold y6;rw[Xc h1,Xc h2,Xc h3,Xc h4,Xc h5,Xc h6,Xe k1];exact(Xc m).symm)⟩
 refine zb.t (zk3 n.im)<|⟨λm=>ze (by unfold y6;rw[Xc h1,Xc h2,Xc h3,Xc h4,Xc h5,Xc h6,Xc k1,Xc k2,Xe m]),λm=>?_⟩;refine⟨λs1=>?_,λs1=>ze (by unfold y6;rw[Xc h1,Xc h2,Xc h3,Xc h4,Xc h5,Xc h6,Xc k1,Xc k2,Xc m,Xc (λk=>s1 k.1)])⟩
 exact⟨λs2=>ze (by unfold y6;rw[Xc h1,Xc h2,Xc h3,Xc h4,Xc h5,Xc h6,Xc k1,Xc k2,Xc m,Xe ⟨s1,s2⟩]),λs2=>ze (by unfold y6;rw[Xc h1,Xc h2,Xc h3,Xc h4,Xc h5,Xc h6,Xc k1,Xc k2,Xc m,Xc (λk=>s2 k.2)])⟩
def zlf(l:List Nd)(id:Int):Int:=match l.findIdx? (λn=>n.id=id) with|some i=>i|none=> -1
variable{id:Int}
def zzt(h:∀(j:Nat) q,j<i->l[j]?=some q->q.id≠id)(hx:l[i]?=some x)(hb:x.id=id):zlf l id=i:=by
 have:l.findIdx? (λn=>n.id=id)=some i:=by
  rw[KH];have hi:=(Xd.1 hx);refine⟨hi.1,by rw[hi.2];simpa using hb,λj hj=>?_⟩;have:=h j _ hj (Xb (by have:=hi.1;omega))
  simpa using this
 unfold zlf;rw[this]
def zlg(h:∀p∈l,p.id≠id):zlf l id= -1:=by
 have:l.findIdx? (λn=>n.id=id)=none:=by
  rw[Ku];intro p hp;simpa using h p hp
 unfold zlf;rw[this]
def zri:0<=zlf l id↔id∈l.map Nd.id:=by
 by_cases h:∀p∈l,p.id≠id
 ·rw[zlg h];refine⟨λk=>by omega,λk=>?_⟩;obtain⟨p,hp,e⟩:=XP.1 k;exact absurd e (h p hp)
 unfold zlf
 cases hf:l.findIdx? (λn=>n.id=id) with
 |some i=>
  refine⟨λ_=>?_,λ_=>Int.natCast_nonneg i⟩;rw[KH]at hf;obtain⟨hi,h1,_⟩:=hf;exact XP.2 ⟨l[i],KJ hi,by simpa using h1⟩
 |none=>rw[Ku]at hf;exact absurd (λp hp=>by simpa using hf p hp) h
def zEo(l:List Nd)(id:Int):CG0 134 [.sl ndE l,i64 id] [] (i64 (zlf l id)) []:=by
 refine zc Tryz.func134 ?_;refine⟨Nat,λi=>⟨[(5,i64 (i:Int)),(1,i64 id),(0,.sl ndE l)],[],0,20,0⟩,λi=>i<=l.length/\∀(j:Nat) q,j<i->l[j]?=some q->q.id≠id,λi=>l.length-i,0,⟨Xh _,λj q h=>by omega⟩,?_,?_⟩
 ·exact zC []
 rintro i ⟨h1,h2⟩
 intro hl0;refine⟨λg=>?_,λg=>?_⟩
 ·have g:(i:Int)<l.length:=g;refine Ob.o ?_;intro x hx;have hx:l[i]?=some x:=hx;refine⟨λh=>ze (zzt h2 hx h).symm,λh=>?_⟩;refine Ar.o<|⟨i+1,⟨oM,λj q hj hq=>?_⟩,zC [],by dsimp only;omega⟩
  by_cases c:j=i
  ·subst c;rw[hx]at hq;cases hq;exact h
  exact h2 j q oM hq
 have g:¬(i:Int)<l.length:=g;refine ze (zlg λp hp=>?_).symm;obtain⟨j,hj,e⟩:=Kl hp;exact h2 j p oM (by rw[←e];exact Xb hj)
def zzu{n:Nd}(h:l[0]?=some n):jC l 0 n↔n.d=0:=by
 unfold jC;rw[show l[0-1]?=some n from h];exact K7
def zzv{l:List Nd}{i:Nat}{n p:Nd}(hp:l[i]?=some p):jC l (i+1) n↔(p.k=1/\n.d=p.d+1)∨n.d<=p.d:=by
 unfold jC;rw[show l[i+1-1]?=some p from hp];exact K7
def zzw(l:List Nd)(i:Nat)(n:Nd)(hn:l[i]?=some n)(hd:∀j p,j<i->l[j]?=some p->0<=p.d/\p.d<8)(hl:l.length<=64):
  CG0 135 [.sl ndE l,i64 (i:Int)] [] (pr (jC l i n)) []:=by
 have hi:=(Xd.1 hn).1;refine zc Tryz.func135 ?_;refine⟨λg=>?_,λg=>?_⟩
 ·have g:(i:Int)=0:=g;obtain rfl:i=0:=oM;refine Ob.o ?_;intro x hx;have hx:x=n:=Xm ((show l[0]?=some x from hx).symm.trans hn);rw[hx];exact zE (zzu hn).symm
 have g:¬(i:Int)=0:=g;obtain⟨k,rfl⟩:∃k,i=k+1:=⟨i-1,oM⟩;obtain⟨p,hp⟩:∃p,l[k]?=some p:=⟨_,Xb oM⟩;have hpd:=hd k p oM hp;have hs:=zzv (n:=n) hp;refine Dr.k<|Ar.o<|Ob.o ?_;intro x hx;have hx:x=p:=Xm ((show l[k]?=some x by rw[←hx];congr 1;omega).symm.trans hp);rw[hx];refine⟨λh1=>?_,λh1=>?_⟩
 ·refine Ob.o ?_;intro y hy;have hy:y=n:=Xm ((show l[k+1]?=some y by rw[←hy];congr 1).symm.trans hn);rw[hy];refine Ar.o<|Ob.o ?_;intro z hz;have hz:z=p:=Xm ((show l[k]?=some z by rw[←hz];congr 1;omega).symm.trans hp);rw[hz];refine Ar.o<|Br.mk (λh2=>zI (hs.2 (.inl ⟨h1,h2⟩))) (λh2=>?_);refine Dr.k<|Ob.o ?_;intro y hy;have hy:y=n:=Xm ((show l[k+1]?=some y by rw[←hy];congr 1).symm.trans hn);rw[hy];refine Ar.o<|Ob.o ?_;intro z hz
  have hz:z=p:=Xm ((show l[k]?=some z by rw[←hz];congr 1;omega).symm.trans hp);rw[hz];exact zE ⟨λh=>hs.2 (.inr h),λh=>(hs.1 h).resolve_left λq=>h2 q.2⟩
 refine Dr.k<|Ob.o ?_;intro y hy;have hy:y=n:=Xm ((show l[k+1]?=some y by rw[←hy];congr 1).symm.trans hn);rw[hy];refine Ar.o<|Ob.o ?_;intro z hz;have hz:z=p:=Xm ((show l[k]?=some z by rw[←hz];congr 1;omega).symm.trans hp);rw[hz];exact zE ⟨λh=>hs.2 (.inr h),λh=>(hs.1 h).resolve_left λq=>h1 q.1⟩
def zBG(l:List Nd)(i:Nat)(n:Nd)(hn:l[i]?=some n)(ht:zk7 n)(hd:∀j p,j<i->l[j]?=some p->0<=p.d/\p.d<8)(hl:l.length<=64):
  CG0 91 [.sl ndE l,i64 (i:Int)] [] (i64 (zg3 l i n)) []:=by
 have hi:=(Xd.1 hn).1;refine zc Tryz.func91 ?_;refine Ob.o ?_;intro x hx;have hx:x=n:=Xm ((show l[i]?=some x from hx).symm.trans hn);rw[hx];refine zb.t (zBF n ht)<|⟨λh=>ze (zre h).symm,λh1=>?_⟩;have h1:y6 n=0:=Xa.1 h1;refine Dr.k<|Ob.mk ⟨oM,λ_ _=>rfl⟩<|Ob.o ?_;intro y hy;have hy:y=n:=Xm ((show l[i]?=some y from hy).symm.trans hn);rw[hy]
 have e:(l.drop (0:Int).toNat).take ((i:Int)-0).toNat=l.take i:=by rw[show(0:Int).toNat=0 from rfl,KZ];congr 1
 refine zb.t (zEo ((l.drop (0:Int).toNat).take ((i:Int)-0).toNat) n.id) ?_;rw[e];refine⟨λh=>ze (zrf h1 (zri.1 h)).symm,λh2=>?_⟩;have h2:n.id∉(l.take i).map Nd.id:=λk=>h2 (zri.2 k)
 refine zb.t (zzw l i n hn hd hl)<|⟨λh=>ze (zle h1 h2 h).symm,λh3=>?_⟩;exact ze (zuj h1 h2 (Xa.1 h3)).symm
def zzx(s:Sc)(ht:zcn s):CG0 53 [.agg (scE s)] [] (zwa (ziL s)) []:=by
 refine zc Tryz.func53 ?_;refine⟨λh=>zam (.inl h),λh1=>?_⟩;refine⟨λh=>zam (.inr (.inl h)),λh2=>?_⟩;refine⟨λh=>zam (.inr (.inr (.inl h))),λh3=>?_⟩;refine⟨λh=>zam (.inr (.inr (.inr h))),λh4=>?_⟩;have hb:¬zfj s:=λk=>k.elim h1 λk=>k.elim h2 λk=>k.elim h3 h4
 intro hl0;refine⟨λh=>zm8 hb oM,λh5=>?_⟩;have hn:¬64<s.ns.length:=oM;have ht:=ht oM;refine⟨Nat,λi=>⟨[(4,i64 (i:Int)),(1,.loc 0 0)],[(0,.box 26 (scE s))],1,43,0⟩,λi=>i<=s.ns.length/\∀j,j<i->uC s.ns j=0,λi=>s.ns.length-i,0,⟨Xh _,λj h=>by omega⟩,?_,?_⟩
 ·exact zf [0]
 rintro i ⟨hi,hz⟩
 intro hl1;refine⟨λg=>?_,λg=>?_⟩
 ·have g:(i:Int)<s.ns.length:=g;obtain⟨x,hx⟩:∃x,s.ns[i]?=some x:=⟨_,Xb oM⟩;have hm:=Xf hx
  have hd:∀j p,j<i->s.ns[j]?=some p->0<=p.d/\p.d<8:=λj p hj hp=>by
   have:=hz j hj;rw[zcW hp]at this;exact(zea (zm6 this).1).2.1
  refine zb.t (zBG s.ns i x hx (ht x hm) hd oM)<|⟨λh=>zja hb hn hx hz rfl h,λh6=>?_⟩;exact Ar.o<|⟨i+1,⟨oM,zm9 hx hz (Xa.1 h6)⟩,zf [0],by dsimp only;omega⟩
 have g:¬(i:Int)<s.ns.length:=g;exact zui hb hn λj hj=>hz j oM
def zeb(s:Sc)(ht:zcn s):CG0 23 [.agg (scE s)] [] (pr (jY s)) []:=by
 refine zc Tryz.func23 ?_;exact zb.t (zzx s ht)<|zE K7
def zrj(s:Sc)(i:Int)(ht:zcn s):CG0 62 [.agg (scE s),i64 i] [] (pr (inS s i)) []:=by
 refine zc Tryz.func62 ?_;refine zb.t (zeb s ht)<|⟨λh1=>?_,λh1=>zd λk=>h1 k.1⟩;refine⟨λh2=>?_,λh2=>zd λk=>h2 k.2.1⟩;intro hl0;exact zE ⟨λh=>⟨h1,h2,h⟩,λk=>k.2.2⟩
def zzy(l:List Nd)(i:Nat)(n:Nd)(hn:l[i]?=some n)(hd:∀n∈l,0<=n.d/\n.d<8)(hl:l.length<=64):CG0 63 [.sl ndE l,i64 (i:Int)] [] (i64 (yh (zH l) i)) []:=by
 have hi:=(Xd.1 hn).1;have eg:(zH l).getD i 0=n.d:=by rw[Xt,yQ hn];rfl
 have ep:yh (zH l) i=yw (zH l) (n.d-1) i:=by unfold yh;rw[eg]
 have hnd:=hd n (Xf hn);refine zc Tryz.func63 ?_;refine Ar.o<|⟨Nat,λm=>⟨[(5,i64 ((m:Int)-1)),(1,i64 (i:Int)),(0,.sl ndE l)],[],0,25,0⟩,λm=>m<=i/\yw (zH l) (n.d-1) m=yh (zH l) i,λm=>m,i,⟨Xk _,ep.symm⟩,?_,?_⟩
 ·exact zC []
 rintro m ⟨hm,he⟩
 refine⟨λg=>?_,λg=>?_⟩
 ·have g:0<=(m:Int)-1:=g;obtain⟨k,rfl⟩:∃k,m=k+1:=⟨m-1,oM⟩;refine Dr.k<|Ob.o ?_;intro x hx;have hx:l[k]?=some x:=by rw[←hx];congr 1;omega
  refine Ob.o ?_;intro y hy;have hy:y=n:=Xm ((show l[i]?=some y from hy).symm.trans hn);rw[hy];refine Ar.o ?_;have hk:=yQ hx;refine⟨λh=>?_,λh=>?_⟩
  ·refine ze ?_;rw[←he];unfold yw;rw[hk,Xe (by rw[h])];omega
  refine Ar.o<|⟨k,⟨oM,?_⟩,jh [] ⟨Xg (λq=>some (i64 q)) oM,rfl,rfl,trivial⟩ trivial,by dsimp only;omega⟩;rw[←he]
  conv=>rhs;unfold yw
  rw[hk,Xc (λq=>h (Xm q))]
 have g:¬0<=(m:Int)-1:=g;obtain rfl:m=0:=oM;exact ze he
def je(s:Sc)(i:Int):List Int:=if inS s i then((qG (zH s.ns) i).reverse).map (λk:Nat=>(k:Int)) else[]
variable{m:Nat}{a:Nat}
def zzz{c:List Nat}{d:Nat}(hl:c.length=d+1)(hm:m<=d)(ha:c[d-m]?=some a):c.reverse.take (m+1)=c.reverse.take m++[a]:=by
 have:c.reverse[m]?=some a:=by
  rw[QP oM,←ha];congr 1;omega
 rw[Xl,this];rfl
def zaz(l:List Nat):List Int:=l.map (λk:Nat=>(k:Int))
def zBH(s:Sc)(i:Int)(ht:zcn s):CG0 55 [.agg (scE s),i64 i] [] (.own 0) [(0,.arr 3 zV 1 (je s i))]:=by
 refine qE tok mix Tryz.func55 rfl rfl rfl<|⟨Int,zV,[],rfl,Ob.o2 ?_⟩;refine zb.t (zrj s i ht)<|⟨λh=>⟨some 1,.own 1 rfl,Xg (λq=>some (Mem.arr 3 zV 1 q)) (show[]=je s i from(Xc h).symm),λ_ _=>rfl⟩,λh=>?_⟩;have h:inS s i:=Xa.1 h;obtain⟨n,hn⟩:=uN h;obtain⟨i,rfl⟩:∃k:Nat,i=(k:Int):=⟨i.toNat,by have:=h.2.1;omega⟩;have hn:s.ns[i]?=some n:=hn;have hdp:=yE h.1;have hl:=uO h.1;have hs:=zak h.1;have hnd:=hdp n (Xf hn)
 obtain⟨d,hd⟩:∃d:Nat,n.d=(d:Int):=⟨n.d.toNat,oM⟩;have hD:(zH s.ns)[i]?=some (d:Int):=by rw[yQ hn,hd]
 have hlen:=zeQ hs hD;have ea:je s i=zaz ((qG (zH s.ns) i).reverse):=Xe h;have hil:=(Xd.1 hn).1
 refine⟨Nat,λm=>⟨[(6,i64 (m:Int)),(5,.own 1),(2,.loc 0 0),(1,i64 (i:Int))],[(1,.arr 3 zV 1 (zaz ((qG (zH s.ns) i).reverse.take m))),(0,.box 26 (scE s))],2,42,0⟩,
  λm=>m<=d+1,λm=>d+1-m,0,Xh _,?_,?_⟩
 ·exact zf [0,1]
 intro m hm;have hm:m<=d+1:=hm;refine Ob.o ?_;intro x hx;have hx:x=n:=Xm ((show s.ns[i]?=some x from hx).symm.trans hn);rw[hx];refine⟨λg=>?_,λg=>?_⟩
 ·have g:(m:Int)<=n.d:=g;rw[hd]at g;have c0:(qG (zH s.ns) i)[0]?=some i:=by rw[jq];rfl
  refine⟨Nat×Nat,λz=>⟨[(7,i64 (z.2:Int)),(6,i64 (m:Int)),(5,.own 1),(2,.loc 0 0),(1,i64 (i:Int))],[(1,.arr 3 zV 1 (zaz ((qG (zH s.ns) i).reverse.take m))),(0,.box 26 (scE s))],2,42,0⟩,
   λz=>z.1<=d-m/\(qG (zH s.ns) i)[z.1]?=some z.2,λz=>d-z.1,(0,i),⟨Xh _,c0⟩,?_,?_⟩
  ·exact zf [0,1]
  rintro⟨k,a⟩ ⟨hk,hc⟩
  have hk:k<=d-m:=hk;have hc:(qG (zH s.ns) i)[k]?=some a:=hc;have hda:=zh1 hs hD hc;obtain⟨y,hy,hyd⟩:=vV hda;have hal:=(Xd.1 hy).1;dsimp only;refine Ob.o ?_;intro w hw;have hw:w=y:=Xm ((show s.ns[a]?=some w from hw).symm.trans hy);rw[hw];refine⟨λq=>?_,λq=>?_⟩
  ·have q:(m:Int)<y.d:=q;rw[hyd]at q;refine zb.t (zzy s.ns a y hy hdp hl) ?_;obtain⟨j,hj,_,_⟩:=(zg4 hs hda).2 oM;refine⟨(k+1,j),⟨by dsimp only;omega,zld hc hj⟩,zT [0,1] ⟨Xg (λq=>some (i64 q)) hj,rfl,rfl,rfl,rfl,trivial⟩ ⟨rfl,rfl,trivial⟩,by dsimp only;omega⟩
  have q:¬(m:Int)<y.d:=q;rw[hyd]at q;obtain rfl:k=d-m:=oM;refine⟨Int,zV,[(a:Int)],rfl,Ob.o5 ?_⟩
  have hlen0:(zaz ((qG (zH s.ns) i).reverse.take m)).length<=64:=by
   unfold zaz;rw[Xx,Xo,KV,hlen];omega
  refine⟨[(a:Int)],rfl,Ob.mk ⟨by show(((zaz ((qG (zH s.ns) i).reverse.take m)).length:Int)+1)*8<=_;omega,by rw[Kc];omega,dC,λx hx=>by rw[Xv.1 hx];rfl⟩ ?_⟩;refine Ar.o ?_
  have en:zaz ((qG (zH s.ns) i).reverse.take m)++[(a:Int)]=zaz ((qG (zH s.ns) i).reverse.take (m+1)):=by
   rw[zzz hlen oM hc];unfold zaz;rw[XB];rfl
  exact⟨m+1,by show m+1<=d+1;omega,zu [0,3] ⟨Xg (λq=>some (Mem.arr 3 zV 1 q)) en,rfl,trivial⟩,by show d+1-(m+1)<d+1-m;omega⟩
 have g:¬(m:Int)<=n.d:=g;rw[hd]at g;have e:(qG (zH s.ns) i).reverse.take m=(qG (zH s.ns) i).reverse:=Xi (by rw[KV,hlen];omega);exact⟨some 1,.own 1 rfl,Xg (λq=>some (Mem.arr 3 zV 1 q)) (by rw[ea,e]),λ_ _=>rfl⟩
def zzA(s:Sc)(i:Int)(ht:zcn s):CG0 55 [.agg (scE s),i64 i] [] (.sl zV (je s i)) []:=(zBH s i ht).plain rfl
def fineN(n:Nd):Prop:=n.t.le 100/\zk7 n/\n.path.length<=300/\n.clip.length<=300
def jE(s:Sc):Prop:=s.ns.length<=64->∀n∈s.ns,fineN n
def jE.tame{s:Sc}(h:jE s):zcn s:=λhl n hn=>(h hl n hn).2.1
def zEp{s:Sc}(h:jE s)(hv:jY s)(k:Nat):(tAt s.ns k).le 100:=by
 unfold tAt
 cases hk:s.ns[k]? with
 |none=>exact zxG.up dC
 |some n=>exact(h (uO hv) n (Xf hk)).1
def zzB{s:Sc}(h:jE s)(hv:jY s)(i:Int):∀t∈trs s.ns i,t.le 100:=λt ht=>by
 obtain⟨k,_,rfl⟩:=XP.1 ht;exact zEp h hv k
def zun{s:Sc}(hv:jY s)(hi:i<s.ns.length):(trs s.ns i).length<=8:=by
 have hn:s.ns[i]?=some s.ns[i]:=Xb hi;have hd:=yE hv s.ns[i] (KJ hi);unfold trs;rw[Xx,zeQ (d:=s.ns[i].d.toNat) (zak hv) (by rw[yQ hn];congr 1;omega)];omega
def zzC{l:List AF}:(vy l).1.le 100:=by
 unfold vy
 split
 ·rename_i h;have:=zk1 (l:=l) (i:=l.length) (Xk _) λk hk=>h.2 k hk
  rw[X5]at this;exact this.up dC
 exact vU _
def zan(s:Sc)(i:Int):(kg s i).1.le 100:=by
 unfold kg
 split
 ·exact vU _
 split
 ·exact vU _
 exact zzC
def resW(r:AF×Int):SV:=.tup [.agg (afE r.1),i64 r.2]
def zaZ{s:Sc}{i:Int}(h:kg s i=(qA,e)):LE (.tup [.agg ud,i64 e]) (resW (kg s i)):=by
 rw[h];exact zM zb9 .refl
def zrk{s:Sc}{i:Int}(h:jY s)(h0:0<=i)(h1:i<s.ns.length):kg s i=vy (trs s.ns i):=by
 unfold kg;rw[Xc (λk=>k h),Xc oM]
def zBI{s:Sc}(h:jY s)(hi:i<s.ns.length):parS s i=yh (zH s.ns) i:=by
 unfold parS;rw[Xe ⟨h,oM,oM⟩];rfl
def scO(s:Sc)(k:Nat):List SV:=[i64 s.w,i64 s.h,u8 s.bg.r,u8 s.bg.g,u8 s.bg.b,u8 s.bg.a,.own k]
abbrev nArr(l:List Nd):Mem:=.arr 48 ndE 47 l
def zBJ(s:Sc)(i:Int)(ht:jE s):CG0 86 [.agg (scE s),i64 i] [] (resW (kg s i)) []:=by
 refine zc Tryz.func86 ?_;refine zb.t (zjb s ht.tame)<|⟨λh=>zaZ (Xe h),λh=>?_⟩;have hv:jY s:=Xa.1 h;refine⟨λh1=>zaZ ((Xc h).trans (Xe (.inl h1))),λh1=>?_⟩;intro hl0;refine⟨λh2=>zaZ ((Xc h).trans (Xe (.inr h2))),λh2=>?_⟩;have e0:=zrk hv (i:=i) oM oM;have hl64:=uO hv;have hle:=zzB ht hv i
 have hlen:(trs s.ns i).length<=8:=by
  obtain⟨k,rfl⟩:∃k:Nat,i=(k:Int):=⟨i.toNat,oM⟩;exact zun hv oM
 refine⟨List AF×Int,λz=>⟨[(6,.own 2),(4,.loc 1 0),(2,.loc 0 0),(1,i64 z.2)],[(2,.arr 38 afE 24 z.1),(1,.box 38 ud),(0,.box 26 (scE s))],3,39,0⟩,
  λz=>z.1++trs s.ns z.2=trs s.ns i/\ -1<=z.2/\z.2<s.ns.length,λz=>(z.2+1).toNat,([],i),⟨rfl,by dsimp only;omega,by dsimp only;omega⟩,?_,?_⟩
 ·exact zC [(0,some 0),(1,some 1),(2,none)]
 rintro⟨p,j⟩ ⟨hp,hj1,hj2⟩
 have hp:p++trs s.ns j=trs s.ns i:=hp;have hj1: -1<=j:=hj1;have hj2:j<s.ns.length:=hj2;have hpl:p.length<=8:=by rw[←hp,Xq]at hlen;omega
 refine⟨λg=>?_,λg=>?_⟩
 ·have g:0<=j:=g;obtain⟨k,rfl⟩:∃k:Nat,j=(k:Int):=⟨j.toNat,oM⟩;refine Ob.o ?_;intro x hx;have hx:s.ns[k]?=some x:=hx;refine⟨AF,afE,[x.t],rfl,Ob.mk ⟨rfl,dC,dC,dC,λy hy=>by rw[Xv.1 hy];exact⟨rfl,rfl,rfl⟩⟩ ?_⟩;refine⟨[x.t],rfl,Ob.mk ⟨by show((p.length:Int)+1)*_<=_;dsimp only;omega,by show p.length+1<=_;omega,dC,λy hy=>by rw[Xv.1 hy];rfl⟩ ?_⟩;refine zb.t (zzq s k ht.tame) ?_;have ep:=zBI hv (i:=k) oM;have hpn:=zeP (zH s.ns) k
  refine⟨(p++[x.t],yh (zH s.ns) k),⟨by dsimp only;rw[XY,←hp,zzm hx];rfl,hpn.1,by dsimp only;omega⟩,zT [0,1,4] ⟨rfl,rfl,rfl,Xg (λq=>some (i64 q)) ep,trivial⟩ ⟨rfl,rfl,rfl,trivial⟩,by dsimp only;omega⟩
 have g:¬0<=j:=g;have e1:p=trs s.ns i:=by rw[←hp,zBB oM,XE]
 subst e1;refine zb.see 2 _ (zsJ (trs s.ns i) hle) rfl rfl rfl ?_;rw[e0];exact zM .refl .refl
def zEq{s:Sc}(h:inS s i)(hm:m<(qG (zH s.ns) i).length)(ha:(qG (zH s.ns) i)[(qG (zH s.ns) i).length-1-m]?=some a):(je s i)[m]?=some (a:Int):=by
 have e:je s i=((qG (zH s.ns) i).reverse).map (λk:Nat=>(k:Int)):=Xe h;rw[e,XD,QP hm,ha];rfl
def zBK{s:Sc}(h:inS s i):(je s i).length=(qG (zH s.ns) i).length:=by
 have e:je s i=((qG (zH s.ns) i).reverse).map (λk:Nat=>(k:Int)):=Xe h;rw[e,Xx,KV]
def zjc(s:Sc)(i:Int)(ht:jE s):CG0 59 [.agg (scE s),i64 i] [] (resW (kg s i)) []:=by
 refine zc Tryz.func59 ?_;refine zb.t (zeb s ht.tame)<|⟨λh=>zaZ (Xe h),λh=>?_⟩;have hv:jY s:=Xa.1 h;refine⟨λh1=>zaZ ((Xc h).trans (Xe (.inl h1))),λh1=>?_⟩;intro hl0;refine⟨λh2=>zaZ ((Xc h).trans (Xe (.inr h2))),λh2=>?_⟩;have e0:=zrk hv (i:=i) oM oM;have hl64:=uO hv;have hle:=zzB ht hv i;obtain⟨i,rfl⟩:∃k:Nat,i=(k:Int):=⟨i.toNat,oM⟩;have hi:i<s.ns.length:=oM;have hin:inS s i:=⟨hv,oM,oM⟩;have hlen:=zun hv hi
 have hcl:(trs s.ns i).length=(qG (zH s.ns) i).length:=by unfold trs;rw[Xx]
 have hal:=zBK hin;refine zb.t (zzA s i ht.tame) ?_;intro hl1;refine Ar.o ?_
 refine⟨Nat,λm=>⟨[(8,i64 ((m:Int)-1)),(7,.own 2),(6,.sl zV (je s i)),(4,.loc 1 0),(2,.loc 0 0)],[(2,.arr 38 afE 24 ((trs s.ns i).take ((trs s.ns i).length-m))),(1,.box 38 ud),(0,.box 26 (scE s))],3,49,0⟩,
  λm=>m<=(trs s.ns i).length,λm=>m,(trs s.ns i).length,Xk _,?_,?_⟩
 ·exact jh [(0,some 0),(1,some 1),(2,none)] ⟨Xg (λq=>some (i64 q)) oM,rfl,rfl,rfl,rfl,trivial⟩ ⟨by show Nat.beq (List.take _ _).length 0=true;rw[QY];rfl,rfl,rfl,trivial⟩
 intro m hm;have hm:m<=(trs s.ns i).length:=hm;refine⟨λg=>?_,λg=>?_⟩
 ·have g:0<=(m:Int)-1:=g;obtain⟨k,rfl⟩:∃k,m=k+1:=⟨m-1,oM⟩;obtain⟨a,ha⟩:∃a,(qG (zH s.ns) i)[(qG (zH s.ns) i).length-1-k]?=some a:=⟨_,Xb oM⟩
  have hta:(trs s.ns i)[(trs s.ns i).length-(k+1)]?=some (tAt s.ns a):=by
   rw[hcl,show(qG (zH s.ns) i).length-(k+1)=(qG (zH s.ns) i).length-1-k by omega];unfold trs;rw[XD,ha];rfl
  have han:=zEq hin oM ha;have hd0:(zH s.ns)[i]?=some (s.ns[i]).d:=yQ (Xb hi);obtain⟨y,hy,_⟩:=vV (zh1 (zak hv) hd0 ha);have hya:=(Xd.1 hy).1;refine Dr.k<|Ob.o ?_;intro x hx;have hx:x=(a:Int):=Xm ((show(je s i)[k]?=some x by rw[←hx];congr 1;omega).symm.trans han);rw[hx];refine Ob.o ?_;intro z hz;have hz:z=y:=Xm ((show s.ns[a]?=some z from hz).symm.trans hy);rw[hz];have ht':tAt s.ns a=y.t:=zrb hy
  refine⟨AF,afE,[y.t],rfl,Ob.mk ⟨rfl,dC,dC,dC,λq hq=>by rw[Xv.1 hq];exact⟨rfl,rfl,rfl⟩⟩ ?_⟩;have hpl:((trs s.ns i).take ((trs s.ns i).length-(k+1))).length<=8:=by rw[Xo];omega
  refine⟨[y.t],rfl,Ob.mk ⟨by show((((trs s.ns i).take ((trs s.ns i).length-(k+1))).length:Int)+1)*_<=_;dsimp only;omega,by show((trs s.ns i).take ((trs s.ns i).length-(k+1))).length+1<=_;omega,dC,λq hq=>by rw[Xv.1 hq];rfl⟩ ?_⟩;refine Ar.o ?_
  have en:(trs s.ns i).take ((trs s.ns i).length-(k+1))++[y.t]=(trs s.ns i).take ((trs s.ns i).length-k):=by
   rw[show(trs s.ns i).length-k=(trs s.ns i).length-(k+1)+1 by omega,Xl,hta,ht'];rfl
  exact⟨k,by show k<=_;omega,zT [0,1,4] ⟨Xg (λq=>some (i64 q)) oM,rfl,rfl,rfl,rfl,trivial⟩ ⟨Xg (λq=>some (Mem.arr 38 afE 24 q)) en,rfl,rfl,trivial⟩,by show k<k+1;omega⟩
 have g:¬0<=(m:Int)-1:=g;obtain rfl:m=0:=oM;have e1:(trs s.ns i).take ((trs s.ns i).length-0)=trs s.ns i:=by rw[YC,X5]
 refine zb.see 2 _ (zoJ ((trs s.ns i).take ((trs s.ns i).length-0)) (by rw[e1];exact hle)) rfl rfl rfl ?_;rw[e0,e1];exact zM .refl .refl
def zwb{l:List AF}:(vy l).2=0∨(vy l).2=5:=by
 unfold vy;split
 ·exact .inl rfl
 exact .inr rfl
def vX{s:Sc}{i:Int}:inS s i↔¬((kg s i).2=18∨(kg s i).2=8):=by
 unfold kg
 by_cases h:jY s
 ·rw[Xc (λk=>k h)]
  by_cases h1:i<0∨s.ns.length<=i
  ·rw[Xe h1];exact⟨λk=>by have:=k.2;omega,λk=>absurd (.inr rfl) k⟩
  rw[Xc h1];refine⟨λ_=>?_,λ_=>⟨h,oM,oM⟩⟩
  rcases zwb (l:=trs s.ns i) with e|e <;> rw[e] <;> decide
 rw[Xe h];exact⟨λk=>absurd k.1 h,λk=>absurd (.inl rfl) k⟩
def zh3{s:Sc}{i:Int}(h:¬inS s i):(kg s i).1=qA/\(kg s i).2≠0/\zZ s i=zNd:=by
 refine⟨?_,?_,Xc h⟩
 all_goals
  unfold kg
  by_cases h0:jY s
  ·rw[Xc (λk=>k h0),Xe (by
    rcases QB i 0 with k|k
    ·exact .inl k
    exact .inr (Jr.1 λq=>h ⟨h0,k,q⟩))]
   try (first|rfl|exact dC)
  rw[Xe h0]
  try (first|rfl|exact dC)
def zcY{s:Sc}{i:Int}(h:inS s i){n:Nd}(hn:s.ns[i.toNat]?=some n):zZ s i=n:=by
 unfold zZ;rw[Xe h,hn];rfl
def znb{s:Sc}(ht:jE s)(i:Int):(zZ s i).path.length<=300/\(zZ s i).clip.length<=300:=by
 by_cases h:inS s i
 ·obtain⟨n,hn⟩:=uN h;rw[zcY h hn];have:=ht (uO h.1) n (Xf hn);exact this.2.2
 rw[(zh3 h).2.2];exact⟨Xh _,Xh _⟩
def zzD(s:Sc)(i:Int):List SV:=afE (kg s i).1++(pr ((kg s i).2=0)::ndE (zZ s i))
def z47:List SV:=i64 0::i64 0::i64 0::(ud++[.val (.slice none 0 0),i64 0,u8 0,i64 0,bl false,bl false,.val (.slice none 0 0),i64 0,.val (.slice none 0 0),
 i64 0,i64 0,i64 0,i64 0,.val (.slice none 0 0),i64 0,.val (.slice none 0 0),i64 0,i64 0,.val (.slice none 0 0),i64 0])
def zlh:LEs ud (afE qA):=show LEs (z4++(z4++(z4++(z4++(z4++z4))))) (afE qA) from LEs.append yT (LEs.append yT (LEs.append yT (LEs.append yT (LEs.append yT yT))))
def zBL:LEs z47 (ndE zNd):=
 .C (.C (.C (LEs.append zlh (.cons zD (.C (.C (.C (.cons (zd dC) (.cons (zd dC) (.cons zD (.C (.cons zD
  (.C (.C (.C (.C (.cons zD (.C (.cons zD (.C (.C (.cons zD (.C .nil)))))))))))))))))))))))
def zrl{s:Sc}{i:Int}(h:¬inS s i):LE (.agg (ud++(bl false::z47))) (.agg (zzD s i)):=by
 obtain⟨h1,h2,h3⟩:=zh3 h;unfold zzD;rw[h1,h3];exact ji (LEs.append zlh (.cons (zd h2) zBL))
def zoQ(s:Sc)(i:Int)(ht:jE s):CG0 47 [.agg (scE s),i64 i] [] (.agg (zzD s i)) []:=by
 refine zc Tryz.func47 ?_;refine zb.t (zBJ s i ht)<|⟨λh=>zrl λk=>vX.1 k (.inl h),λh1=>?_⟩;refine⟨λh=>zrl λk=>vX.1 k (.inr h),λh2=>?_⟩;have hin:inS s i:=vX.2 λk=>k.elim h1 h2
 obtain⟨n,hn⟩:=uN hin;have hi:=(Xd.1 hn).1;have hi0:=hin.2;refine Dr.k<|Ob.o ?_;intro x hx;have hx:x=n:=Xm ((show s.ns[i.toNat]?=some x from hx).symm.trans hn);rw[hx];have e:zzD s i=afE (kg s i).1++(pr ((kg s i).2=0)::ndE n):=by unfold zzD;rw[zcY hin hn]
 rw[e];exact .refl
def zsT(r:AF×Int)(l:List Sg)(ht:r.1.le 100)(hl:l.length<=300):CG0 48 [.agg (afE r.1++[pr (r.2=0)]),.sl sgE l] [] (.sl zk (uM r l)) []:=by
 refine zc Tryz.func48 ?_;refine⟨λh=>by rw[show uM r l=[] from Xe h];exact zD,λh=>?_⟩;have e:uM r l=(yn l r.1 32).1:=Xc h;refine zb.t (zBk l r.1 32 (ht.up dC) hl) ?_;rw[e];exact⟨λk=>by rw[zrc k];exact zD,λ_=>.refl⟩
def zuo(s:Sc)(i:Int)(ht:jE s):CG0 19 [.agg (scE s),i64 i] [] (.sl zk (zal s i)) []:=by
 refine zc Tryz.func19 ?_;refine zb.t (zoQ s i ht)<|⟨λh=>by rw[show zal s i=[] from Xe (.inl h)];exact zD,λh1=>?_⟩;intro hl0;refine⟨λh=>by rw[show zal s i=[] from Xe (.inr oM)];exact zD,λh2=>?_⟩;refine zb.t (zsT (kg s i) (zZ s i).path (zan s i) (znb ht i).1) ?_;rw[show zal s i=uM (kg s i) (zZ s i).path from Xc λk=>k.elim h1 λq=>h2 oM];exact .refl
def zrm(a b c d:Int):(zaF a b c d).length<=300:=by
 unfold zaF;split
 ·exact(by decide:5<=300)
 exact Xh _
def zzE(s:Sc)(i:Int)(ht:jE s):CG0 21 [.agg (scE s),i64 i] [] (.sl zk (zeV s i)) []:=by
 refine zc Tryz.func21 ?_;refine zb.t (zoQ s i ht)<|⟨λh=>by rw[show zeV s i=[] from Xe h];exact zD,λh=>?_⟩;refine Dr.k<|zb.t (zsi 0 0 (zZ s i).im.w (zZ s i).im.h)<|zb.t (zsT (kg s i) (zaF 0 0 (zZ s i).im.w (zZ s i).im.h) (zan s i) (zrm _ _ _ _)) ?_;rw[show zeV s i=uM (kg s i) (zaF 0 0 (zZ s i).im.w (zZ s i).im.h) from Xc h];exact .refl
def zli(s:Sc)(i:Int):SV:=.tup [.sl zk (zm7 s i),pr (0<(zZ s i).clip.length)]
def zoR{s:Sc}{i:Int}(h:(zZ s i).clip.length=0):LE (.tup [.val (.slice none 0 0),bl false]) (zli s i):=by
 unfold zli;rw[show zm7 s i=[] from Xe h];exact zM zD (zd oM)
def zlj{s:Sc}{i:Int}{v:SV}(h:(zZ s i).clip.length≠0)(hv:LE v (.sl zk (uM (kg s i) (zZ s i).clip))):LE (.tup [v,bl true]) (zli s i):=by
 unfold zli;rw[show zm7 s i=uM (kg s i) (zZ s i).clip from Xc h];exact zM hv (zI oM)
def zBM(s:Sc)(i:Int)(ht:jE s):CG0 44 [.agg (scE s),i64 i] [] (zli s i) []:=by
 refine zc Tryz.func44 ?_;refine zb.t (zoQ s i ht) ?_;intro hl0;refine⟨λh=>zoR oM,λh1=>?_⟩;exact zb.t (zsT (kg s i) (zZ s i).clip (zan s i) (znb ht i).2)<|zlj oM .refl
def zBN(s:Sc)(i:Int)(ht:jE s):CG0 56 [.agg (scE s),i64 i] [] (zli s i) []:=by
 refine zc Tryz.func56 ?_;refine zb.t (zjc s i ht) ?_;have out:¬inS s i->LE (.tup [.val (.slice none 0 0),bl false]) (zli s i):=λh=>zoR (by rw[(zh3 h).2.2];rfl)
 refine⟨λh=>out λk=>vX.1 k (.inl h),λh1=>?_⟩;refine⟨λh=>out λk=>vX.1 k (.inr h),λh2=>?_⟩;have hin:inS s i:=vX.2 λk=>k.elim h1 h2
 obtain⟨n,hn⟩:=uN hin;have hi:=(Xd.1 hn).1;have hi0:=hin.2;have en:=zcY hin hn;refine Ob.o ?_;intro x hx;have hx:x=n:=Xm ((show s.ns[i.toNat]?=some x from hx).symm.trans hn);rw[hx];intro hl0;refine⟨λh=>zoR (by rw[en];have h:(n.clip.length:Int)=0:=h;omega),λh3=>?_⟩;have hc:(zZ s i).clip.length≠0:=by rw[en];have h3:¬(n.clip.length:Int)=0:=h3;omega
 refine⟨λh=>zlj hc (by rw[show uM (kg s i) (zZ s i).clip=[] from Xe h];exact zD),λh4=>?_⟩;have h4:(kg s i).2=0:=Xa.1 h4;refine Dr.k<|Ob.o ?_;intro y hy;have hy:y=n:=Xm ((show s.ns[i.toNat]?=some y from hy).symm.trans hn);rw[hy];refine zb.t (zoG n.clip (kg s i).1 32 ((zan s i).up dC)) ?_;have e:uM (kg s i) (zZ s i).clip=(yn n.clip (kg s i).1 32).1:=by rw[en];exact Xc λk=>k h4
 exact zlj hc (by rw[e];exact .refl)
def zBO(xs:List Pt):zfX (.arr 28 ptE 2 xs):=λ_ _=>rfl
def zBP(n:Int)(h0:0<=n)(h1:n<=4096):CG0 243 [.val (.slice none 0 0),i64 n] [] (.own 0) [(0,.arr 28 ptE 2 [])]:=by
 refine qE tok mix Tryz.func243 rfl rfl rfl<|Br.mk (λh=>absurd h oM) (λ_=>?_);refine Ar.fit dC<|Ar.o<|Br.mk (λh=>?_) (λh=>?_)
 ·refine Ob.mk ⟨rfl,rfl,rfl⟩<|⟨Pt,ptE,zp,rfl,Ob.mk ⟨dC,h,(by show _*(16:Int)<=_;omega),oM⟩ ?_⟩;refine Sl.keep (Ob.mk ⟨rfl,Qo _,oM⟩ ?_);exact⟨some 1,.own _ rfl,rfl,λ_ _=>rfl⟩
 exact⟨none,.nil rfl,rfl⟩
variable{rs:List (List Pt)}
def zwc{x:List Pt}(h:rs[i]?=some x):(rs.take (i+1)).flatten=(rs.take i).flatten++x:=by
 rw[Xl,h];simp
def zrn(rs:List (List Pt)):rs.flatten.length=qb rs:=by unfold qb;rw[List.length_flatten]
def zwd(rs:List (List Pt))(hc:qb rs<=4096):CG0 166 [.sl zk rs] [] (.own 0) [(0,.arr 28 ptE 2 rs.flatten)]:=by
 refine qE tok mix Tryz.func166 rfl rfl rfl ?_;intro hl0;refine⟨Nat,λi=>⟨[(11,i64 (i:Int)),(10,i64 (rs.length:Int)),(9,.sl zk rs),(3,i64 (qb (rs.take i):Int)),(0,.sl zk rs)],[],0,36,0⟩,λi=>i<=rs.length,λi=>rs.length-i,0,Xh _,zC [],?_⟩;intro i hi;have hi:i<=rs.length:=hi;refine⟨λg=>?_,λg=>?_⟩
 ·have g:(i:Int)<rs.length:=g;refine Ob.o ?_;intro x hx;have hx:rs[i]?=some x:=hx;have e:=vd hx;have:=v7 rs (i+1);intro hl1;refine Ar.o<|Br.mk (λh=>absurd h oM) (λ_=>?_);exact Ar.o<|⟨i+1,by show i+1<=_;omega,jh [] ⟨rfl,rfl,rfl,Xg (λn=>some (i64 n)) (by rw[e];omega),rfl,trivial⟩ trivial,by dsimp only;omega⟩
 have g:¬(i:Int)<rs.length:=g;have et:rs.take i=rs:=Xi oM;refine zb.fresh _ _ (zBP (qb (rs.take i):Int) oM (by rw[et];omega)) rfl (zBO _) (.inl rfl) ?_;intro hl2;refine⟨Nat,λi=>⟨[(27,i64 (i:Int)),(26,i64 (rs.length:Int)),(25,.sl zk rs),(6,.own 0)],[(0,.arr 28 ptE 2 (rs.take i).flatten)],1,36,0⟩,λi=>i<=rs.length,λi=>rs.length-i,0,Xh _,zf [0],?_⟩;intro j hj;have hj:j<=rs.length:=hj;refine⟨λg=>?_,λg=>?_⟩
 ·have g:(j:Int)<rs.length:=g;refine Ob.o ?_;intro x hx;have hx:rs[j]?=some x:=hx;have e:=vd hx;have k1:=v7 rs (j+1);have k2:=zrn (rs.take j);refine⟨x,rfl,Ob.mk ⟨(by show((rs.take j).flatten.length+x.length:Int)*(16:Int)<=_;omega),oM,dC,λ_ _=>rfl⟩ ?_⟩;exact Ar.o<|⟨j+1,by show j+1<=_;omega,zu [1] ⟨Xg (λq=>some (Mem.arr 28 ptE 2 q)) (zwc hx).symm,trivial⟩,by dsimp only;omega⟩
 have g:¬(j:Int)<rs.length:=g;exact⟨some 0,.own _ rfl,Xg (λq=>some (Mem.arr 28 ptE 2 q)) (by rw[Xi (show rs.length<=j by omega)]),λ_ _=>rfl⟩
def zg6(rs:List (List Pt)):Prop:=rs.flatten≠[]/\kL rs
instance (rs:List (List Pt)):Decidable (zg6 rs):=inferInstanceAs (Decidable (_/\_))
def loR(rs:List (List Pt)):Pt:=if zg6 rs then bnd mnP rs.flatten else zp
def hiR(rs:List (List Pt)):Pt:=if zg6 rs then bnd mxP rs.flatten else zp
def pbE(rs:List (List Pt)):SV:=.tup [.agg (ptE (loR rs)),.agg (ptE (hiR rs)),pr (zg6 rs)]
def zzF(h:¬zg6 rs):LE (.tup [.agg [i64 0,i64 0],.agg [i64 0,i64 0],bl false]) (pbE rs):=by
 unfold pbE loR hiR;rw[Xc h,Xc h];exact zbP (.C (.C (.cons (zd h) .nil)))
def zEr(rs:List (List Pt))(hc:qb rs<=4096):CG0 112 [.sl zk rs] [] (pbE rs) []:=by
 refine zc Tryz.func112 ?_;refine zb.t ((zwd rs hc).plain rfl) ?_;generalize hq:rs.flatten=q;have hql:q.length<=4096:=by rw[←hq,zrn];exact hc
 intro hl0;refine⟨λh=>zzF λk=>k.1 (by rw[hq];exact Xp oM),λh1=>?_⟩;refine zb.t (zgz rs λr hr=>?_) ?_
 ·obtain⟨j,hj,e⟩:=Kl hr;have k1:=vd (rs:=rs) (i:=j) (Xb hj);have k2:=v7 rs (j+1);rw[e]at k1;omega
 refine⟨λh=>zzF λk=>h k.2,λh2=>?_⟩;have h2:kL rs:=Xa.1 h2;have hne:q≠[]:=λk=>h1 (by rw[k];rfl)
 have hs:zg6 rs:=⟨by rw[hq];exact hne,h2⟩
 obtain⟨p0,t0,hq0⟩:∃p t,q=p::t:=by
  cases q with
  |nil=>exact absurd rfl hne
  |cons p t=>exact⟨p,t,rfl⟩
 have hp0:q[0]?=some p0:=by rw[hq0];rfl
 refine Dr.d<|Ob.o ?_;intro x hx;have hx:x=p0:=Xm ((show q[0]?=some x from hx).symm.trans hp0);rw[hx];refine Ob.o ?_;intro y hy;have hy:y=p0:=Xm ((show q[0]?=some y from hy).symm.trans hp0);rw[hy];refine Ob.mk (by kernel_rfl) ?_;intro hl1
 refine⟨Nat,λi=>⟨[(30,i64 (i:Int)),(29,i64 (q.length:Int)),(28,.sl ptE q),(7,.loc 3 0),(6,.loc 2 0),(3,.loc 1 0),(2,.loc 0 0)],
  [(3,.box 28 (ptE ((q.take i).foldl mxP p0))),(2,.box 28 (ptE ((q.take i).foldl mnP p0))),(1,.box 28 (ptE zp)),(0,.box 28 (ptE zp))],4,59,0⟩,
  λi=>i<=q.length,λi=>q.length-i,0,Xh _,?_,?_⟩
 ·exact zf [0,1,2,3]
 intro i hi;have hi:i<=q.length:=hi;refine⟨λg=>?_,λg=>?_⟩
 ·have g:(i:Int)<q.length:=g;refine Ob.o ?_;intro z hz;have hz:q[i]?=some z:=hz;have e:∀f:Pt->Pt->Pt,(q.take (i+1)).foldl f p0=f ((q.take i).foldl f p0) z:=λf=>by rw[Xl,hz,KW];rfl
  refine Ar.o ?_
  exact⟨i+1,by show i+1<=_;omega,qI [(0,some 0),(1,some 1),(2,some 2),(3,some 3)] rfl rfl rfl ⟨rfl,rfl,rfl,rfl,rfl,rfl,rfl,trivial⟩
   ⟨Xg (λp=>some (Mem.box 28 (ptE p))) (e mxP).symm,Xg (λp=>some (Mem.box 28 (ptE p))) (e mnP).symm,rfl,rfl,trivial⟩,by dsimp only;omega⟩
 have g:¬(i:Int)<q.length:=g;have et:q.take i=q:=Xi oM;refine Dr.d<|Ob.mk (by kernel_rfl) ?_
 have eb:∀f:Pt->Pt->Pt,(q.take i).foldl f p0=bnd f rs.flatten:=λf=>by
  rw[et,hq];unfold bnd;rw[hq0];rfl
 rw[eb,eb];unfold pbE loR hiR;rw[Xe hs,Xe hs];exact zbP (.C (.C (.cons (zI hs) .nil)))
def zaA(s:Sc)(i:Int):List (List (List Pt)):=[zal s i,zaH s i,zeV s i]
def zro{s:Sc}{i:Int}(h:(zZ s i).k≠2∨(zZ s i).strk.length=0):zaH s i=[]:=Xe h
def zlk(t:AF):List BR:=[t.a,t.b,t.c,t.d,t.e,t.f]
def zup(t:AF)(n:Nat):t.le n↔∀x∈zlk t,x.len<=n:=by
 unfold zlk AF.le;simp
instance instLe51 (t:AF) (n:Nat):Decidable (t.le n):=inferInstanceAs (Decidable (_/\_))
def zuq(t:AF):CG0 8 [.agg (afE t)] [] (pr (t.le 12)) []:=by
 refine zc Tryz.func8 ?_;refine⟨BR,brE,zlk t,rfl,Ob.o0 ?_⟩;refine⟨Nat,λi=>⟨[(3,.own 0),(4,i64 (i:Int))],[(0,.arr 36 brE 4 (zlk t))],1,42,0⟩,λi=>i<=(zlk t).length/\∀x∈(zlk t).take i,x.len<=12,λi=>(zlk t).length-i,0,⟨Xh _,λx hx=>by cases hx⟩,?_,?_⟩
 ·exact zf [1]
 rintro i ⟨h1,h2⟩
 intro hl1;refine⟨λg=>?_,λg=>?_⟩
 ·have g:(i:Int)<(zlk t).length:=g;refine Ob.o<|Ob.o ?_;intro x hx;have hx:(zlk t)[i]?=some x:=hx;have no:¬x.len<=12->¬t.le 12:=λh k=>h ((zup t 12).1 k x (Xf hx))
  intro hl2;refine⟨λb=>?_,λb=>?_⟩
  ·have b:(12:Int)<x.num.mag.length:=b;exact zd (no (by unfold BR.len;omega))
  have b:¬(12:Int)<x.num.mag.length:=b;refine Ob.o<|Ob.o ?_;intro x' hx';have ex:x'=x:=Xm ((show(zlk t)[i]?=some x' from hx').symm.trans hx);rw[ex];intro hl3;refine⟨λc=>?_,λc=>?_⟩
  ·have c:(12:Int)<x.den.mag.length:=c;exact zd (no (by unfold BR.len;omega))
  have c:¬(12:Int)<x.den.mag.length:=c;exact Ar.o<|⟨i+1,⟨oM,yp hx h2 (by unfold BR.len;omega)⟩,zf [0],by dsimp only;omega⟩
 have g:¬(i:Int)<(zlk t).length:=g;rw[Xi oM]at h2;exact zI ((zup t 12).2 h2)
instance (lo hi p:Pt):Decidable (inB lo hi p):=inferInstanceAs (Decidable (_/\_))
def q_one:((1:Int):Rat)=1:=rfl
def q_zero:((0:Int):Rat)=0:=rfl
def znc{t:AF}{p:Pt}(h:(kr t p).2=0):(kr t p).1=goP t p:=by
 unfold kr at h ⊢
 by_cases h1:t.ok
 ·rw[kH h1]at h ⊢
  by_cases h2:zr p
  ·rw[kH h2]at h ⊢
   by_cases h3:zr (goP t p)
   ·rw[Xe h3]
   rw[Xc h3]at h;exact absurd h dC
  rw[Xe h2]at h;exact absurd h dC
 rw[Xe h1]at h;exact absurd h dC
def zh4{t:AF}:∀{l:List Pt},zde t l=0->∀p∈l,(kr t p).2=0
 |p::r,h,q,hq=>by
  unfold zde at h
  by_cases k:(kr t p).2=0
  ·rw[qK k]at h
   cases hq with
   |head=>exact k
   |tail _ hq=>exact zh4 h q hq
  rw[Xe k]at h;exact absurd h k
def zh5{t:AF}:∀{l:List (List Pt)},zdf t l=0->∀r∈l,zde t r=0
 |p::r,h,q,hq=>by
  unfold zdf at h
  by_cases k:zde t p=0
  ·rw[qK k]at h
   cases hq with
   |head=>exact k
   |tail _ hq=>exact zh5 h q hq
  rw[Xe k]at h;exact absurd h k
def zsU{t:AF}(h:(yo rs t).2=0):(yo rs t).1=rs.map (List.map (goP t)):=by
 unfold yo at h ⊢
 by_cases k:kL rs
 ·rw[kH k]at h ⊢
  by_cases e:zdf t rs=0
  ·rw[qK e];refine Qm λr hr=>Qm λp hp=>?_
   exact znc (zh4 (zh5 e r hr) p hp)
  rw[Xe e]at h;exact absurd h e
 rw[Xe k]at h;exact absurd h dC
def LEs.d:∀{us bs:List SV},LEs us bs->j9.flats bs=true->qZ us bs
 |[],[],_,_=>.nil
 |_::_,b::bs,.cons h t,hf=>by
  have hb:j9 b=true/\j9.flats bs=true:=by
   have hf:(match j9 b with|true=>j9.flats bs|false=>false)=true:=hf
   cases hb:j9 b with
   |true=>rw[hb]at hf;exact⟨rfl,hf⟩
   |false=>rw[hb]at hf;cases hf
  exact .cons (λS w v hd=>y8 hb.1 (h S (λ_=>False) (λ_=>none) w v (.d _ _ hd))) (LEs.d t hb.2)
def pc1:List SV:=i64 1::u8 0::u8 0::u8 0::u8 0::i64 0::i64 0::i64 0::i64 0::i64 0::nil1::i64 0::i64 0::i64 0::nil1::i64 0::ud
def uE(_:Unit):List SV:=pc1
def zzG:List SV:=[i64 0,i64 0,i64 0,i64 0,.val (.slice none 0 0),i64 0,.val (.slice none 0 0),i64 0,i64 0,.val (.slice none 0 0),i64 0]
def zBQ:LEs zzG (jb ⟨0,0,0,0,[],0⟩++(.sl yD []::(zk2 ⟨0,0,[]⟩++[i64 0]))):=
 .C (.C (.C (.C (.cons zD (.C (.cons zD (.C (.C (.cons zD (.C .nil))))))))))
def zEs:LEs pc1 (yD (zaG 1)):=
 .C (.C (.C (.C (.C (.C (.C (.C (.C (.C (.cons zD (.C (.C (.C (.cons zD (.C zk5)))))))))))))))
end Go.Gs
