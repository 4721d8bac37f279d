/- Scenes: nodes, what makes them qM, their order, ancestors: plain. -/
import Derived.Test.YtakicgnbhdpknaaGreatDoorNBJ
set_option maxRecDepth 100000
set_option maxHeartbeats 8000000
set_option linter.all false
namespace Go.Gs
open Proofs.Tryz
structure Nd where
 id:Int
 k:Int
 d:Int
 t:AF
 clip:LX
 cr:Int
 op:Int
 mode:Int
 iso:Bool
 ko:Bool
 path:LX
 rule:Int
 fill:LY
 pen:Pen
 strk:LY
 im:Img
 smp:Int
def ndE(n:Nd):LR:=
 i64 n.id::i64 n.k::i64 n.d::(afE n.t++(.sl sgE n.clip::i64 n.cr::u8 n.op::i64 n.mode::pr (n.iso=true)::pr (n.ko=true)::.sl sgE n.path::i64 n.rule::.sl yD n.fill::
  (jb n.pen++(.sl yD n.strk::(zk6 n.im++[i64 n.smp])))))
structure Sc where
 w:Int
 h:Int
 bg:Pix
 ns:List Nd
def scE(s:Sc):LR:=[i64 s.w,i64 s.h,u8 s.bg.r,u8 s.bg.g,u8 s.bg.b,u8 s.bg.a,.sl ndE s.ns]
def zch(n:Nd):Prop:=n.op=0/\n.mode=0/\n.iso=false/\n.ko=false
instance (n:Nd):Decidable (zch n):=wi
def uj(p:Pen):Prop:=p.w=0/\p.j=0/\p.c=0/\p.m=0/\p.d=[]/\p.ph=0
instance (p:Pen):Decidable (uj p):=wi
def zc5(n:Nd):Prop:=n.path.length=0/\n.rule=0/\n.fill.length=0/\n.strk.length=0
instance (n:Nd):Decidable (zc5 n):=wi
def zci(n:Nd):Prop:=n.im.w=0/\n.im.h=0/\n.im.px.length=0/\n.smp=0
instance (n:Nd):Decidable (zci n):=wi
def zcT(r:Int):Prop:=r=1∨r=2
instance (r:Int):Decidable (zcT r):=wj
def u3(n:Nd):Prop:=(n.clip.length=0/\n.cr=0)∨(0<n.clip.length/\zcT n.cr)
instance (n:Nd):Decidable (u3 n):=wj
def zg6(n:Nd):Prop:=u3 n/\(if n.k=1 then(zc5 n/\uj n.pen)/\zci n else if n.k=2 then zch n/\zci n else zch n/\zc5 n/\uj n.pen)
instance (n:Nd):Decidable (zg6 n):=by unfold zg6;infer_instance
def vA(n:Nd):Int:=
 if¬qM n.path then 10 else if¬zcT n.rule then 2 else if 1<n.fill.length∨1<n.strk.length then 5 else if 0<n.strk.length/\¬kC n.pen then 13
 else if n.strk.length=0/\¬uj n.pen then 17 else if (¬∀p∈n.fill,vz p)∨¬∀p∈n.strk,vz p then 16 else 0
def y7(n:Nd):Int:=
 if n.k<1∨3<n.k then 2 else if n.id<1∨1073741824<n.id∨n.d<0∨8<=n.d then 6 else if¬n.t.ok then 5 else if zbr n.t=0 then 9 else if¬qM n.clip then 10
 else if¬zg6 n then 17 else if n.k=1 then(if¬(1<=n.mode/\n.mode<=13) then 2 else 0) else if n.k=2 then vA n
 else if¬zff n.im then 16 else if n.smp≠1/\n.smp≠2 then 2 else 0
def jD(l:List Nd)(i:Nat)(n:Nd):Prop:=match l[i-1]? with
 |some p=>if i=0 then n.d=0 else(p.k=1/\n.d=p.d+1)∨n.d<=p.d
 |none=>n.d=0
instance (l:List Nd) (i:Nat) (n:Nd):Decidable (jD l i n):=by unfold jD;split <;> infer_instance
def zg7(l:List Nd)(i:Nat)(n:Nd):Int:=
 if y7 n≠0 then y7 n else if n.id∈(l.take i).map Nd.id then 7 else if¬jD l i n then 17 else 0
def yx(ds:LV)(d:Int):Nat->Int
 |0=> -1
 |k+1=>if ds[k]?=some d then k else yx ds d k
def yi(ds:LV)(i:Nat):Int:=yx ds (ds.getD i 0-1) i
def zcj(ds:LV)(d:Int):∀k,-1<=yx ds d k/\yx ds d k<k/\(0<=yx ds d k->ds[(yx ds d k).toNat]?=some d)
 |0=>⟨Qo _,show(-1:Int)<0 by decide,λh=>absurd (show(0:Int)<= -1 from h) dC⟩
 |k+1=>by
  have ih:=zcj ds d k;unfold yx
  split
  ·rename_i h;exact⟨oM,oM,λ_=>by simpa using h⟩
  exact⟨ih.1,oM,ih.2.2⟩
def zm9{ds:LV}{d:Int}:∀{k j:Nat},j<k->ds[j]?=some d->0<=yx ds d k
 |k+1,j,hj,h=>by
  unfold yx
  split
  ·omega
  rename_i hn
  by_cases e:j=k
  ·subst e;exact absurd h hn
  exact zm9 oM h
def zd5(ds:LV):Prop:=(∀d,ds[0]?=some d->d=0)/\(∀d∈ds,0<=d)/\∀i a b,ds[i]?=some a->ds[i+1]?=some b->b<=a+1
def zna{ds:LV}(h:zd5 ds){e:Int}(he:0<=e):∀{i:Nat} {d:Int},ds[i]?=some d->e<d->∃j,j<i/\ds[j]?=some e
 |0,d,hd,hl=>by have:=h.1 d hd;omega
 |i+1,d,hd,hl=>by
  obtain⟨a,ha⟩:∃a,ds[i]?=some a:=⟨_,Xb (by have:=(Xd.1 hd).1;omega)⟩;have hs:=h.2.2 i a d ha hd
  by_cases c:a=e
  ·exact⟨i,oM,by rw[ha,c]⟩
  obtain⟨j,h1,h2⟩:=zna h he ha oM;exact⟨j,oM,h2⟩
def zg8{ds:LV}(h:zd5 ds){i:Nat}{d:Int}(hd:ds[i]?=some d):(d=0->yi ds i= -1)/\(0<d->∃j:Nat,yi ds i=j/\j<i/\ds[j]?=some (d-1)):=by
 have hg:ds.getD i 0=d:=by rw[Xt,hd];rfl
 unfold yi;rw[hg];obtain⟨h1,h2,h3⟩:=zcj ds (d-1) i;refine⟨λe=>?_,λhp=>?_⟩
 ·subst e;refine Ya (Jp.1 λk=>?_) h1;have:=h.2.1 _ (Xf (h3 oM));omega
 obtain⟨j,hj,hjd⟩:=zna h (show 0<=d-1 by omega) hd oM;have:=zm9 hj hjd;exact⟨(yx ds (d-1) i).toNat,oM,oM,h3 this⟩
def zfU(ds:LV):Nat->Int->LC
 |0,_=>[]
 |n+1,i=>if i<0 then[] else i.toNat::zfU ds n (yi ds i.toNat)
open Go.Proofs
section
def zzp(n:Int):CX 181 [i64 n] (pr (zcT n)):=by
 refine zc func181<|Br.mk (λh=>?_) (λh=>?_)
 ·exact zH (.inl h)
 exact zE ⟨.inr,λk=>k.resolve_left h⟩
def zzq(xs ys:LV):CX 333 [.sl zN xs,.sl zN ys] (pr (xs=ys)):=by
 refine zc func333 λhl1 hl2=>?_;refine⟨λh1=>zd λe=>h1 (by rw[e]),λh1=>?_⟩;have h1:=Xa.1 h1;intro hl3;refine⟨Int,λi=>⟨[(13,i64 i),(12,i64 xs.length),(0,.sl zN xs),(1,.sl zN ys)],[],0,26,0⟩,λi=>0<=i/\i<=xs.length/\∀j:Nat,(j:Int)<i->xs[j]?=ys[j]?,λi=>((xs.length:Int)-i).toNat,0,?_,?_,?_⟩
 ·exact⟨oM,oM,λj hj=>by omega⟩
 ·exact zB []
 rintro i ⟨h4,h5,h6⟩
 refine⟨λh7=>?_,λh7=>?_⟩
 ·refine wc<|wb λx hx=>wb λy hy=>?_;refine⟨λh8=>?_,λh8=>?_⟩
  ·refine zd λe=>h8 ?_
   subst e;rw[hx]at hy;exact Xm hy
  refine wa<|⟨i+1,⟨oM,oM,λj hj=>?_⟩,zB [],oN⟩
  by_cases e:j=i.toNat
  ·subst e;rw[hx,hy,Xa.1 h8]
  exact h6 j oM
 exact zH (Kq λj=>by
  by_cases hj:(j:Int)<i
  ·exact h6 j hj
  rw[XF oM,XF oM])
def zPen:Pen:=⟨0,0,0,0,[],0⟩
def zBC:LE (.agg [i64 0,i64 0,i64 0,i64 0,nS,i64 0]) (wr zPen):=jj (.C (.C (.C (.C (.cons zC (.C .nil))))))
def zImg:Img:=⟨0,0,[]⟩
def zBD:LE (.agg [i64 0,i64 0,nS]) (.agg (zk6 zImg)):=jj (.C (.C (.cons zC .nil)))
def zjc(a b:Pen):Prop:=a.w=b.w/\a.j=b.j/\a.c=b.c/\a.m=b.m/\a.ph=b.ph/\a.d=b.d
instance (a b:Pen):Decidable (zjc a b):=wi
def zwb{p:Pen}:zjc p zPen↔uj p:=by
 unfold zjc uj zPen;constructor
 ·rintro⟨h1,h2,h3,h4,h5,h6⟩;exact⟨h1,h2,h3,h4,h6,h5⟩
 rintro⟨h1,h2,h3,h4,h5,h6⟩;exact⟨h1,h2,h3,h4,h6,h5⟩
def zwc(a b:Pen):CX 264 [wr a,wr b] (pr (zjc a b)):=by
 refine zc func264<|Br.mk (λh1=>?_) (λh1=>zd λk=>h1 k.1);refine⟨λh2=>?_,λh2=>zd λk=>h2 k.2.1⟩;refine⟨λh3=>?_,λh3=>zd λk=>h3 k.2.2.1⟩;refine⟨λh4=>?_,λh4=>zd λk=>h4 k.2.2.2.1⟩;refine⟨λh5=>?_,λh5=>zd λk=>h5 k.2.2.2.2.1⟩;exact wg (zzq a.d b.d)<|zE ⟨λh=>⟨h1,h2,h3,h4,h5,h⟩,λk=>k.2.2.2.2.2⟩
def zun(a:Pen):CX 264 [wr a,.agg [i64 0,i64 0,i64 0,i64 0,nS,i64 0]] (pr (uj a)):=
 ((zwc a zPen).args (.C (.cons zBC .nil))).le (zE zwb)
def zEl(t:AF)(ht:t.le 10000000):CX 185 [wo t] (pr (zbr t=0)):=by
 refine zc func185 ?_;refine wg (zk3 t ht) ?_;refine wg (yO 0 (by constructor <;> decide)) ?_;have hcmp:=ziu (ofQ (zbr t)) (ofQ ((0:Int):Rat)) (by have:=zg5 ht;rw[zF];omega) (by decide +kernel);rw[kv,kv]at hcmp;refine wg hcmp ?_;exact zE (Yg.1 (uJ _))
def uA(l:LY):Prop:=∀p∈l,vz p
instance (l:LY):Decidable (uA l):=inferInstanceAs (Decidable (∀p∈l,_))
def zfi(l:LY):Prop:=∀p∈l,p.t.le 1000/\p.im.px.length<=9223372036854775807
def zsP(l:LY):Int:=match l.findIdx? (λp=>¬vz p) with|some i=>i|none=> -1
def zBE{l:LY}{i:Nat}{x:Pnt}(h:∀(j:Nat) q,j<i->l[j]?=some q->vz q)(hx:l[i]?=some x)(hb:¬vz x):zsP l=i:=by
 have:l.findIdx? (λp=>¬vz p)=some i:=by
  rw[KG];have hi:=(Xd.1 hx);refine⟨hi.1,by rw[hi.2];simpa using hb,λj hj=>?_⟩;have:=h j _ hj (Xb (by have:=hi.1;omega))
  simpa using this
 unfold zsP;rw[this]
variable{l:LY}
def znb(h:∀p∈l,vz p):zsP l= -1:=by
 have:l.findIdx? (λp=>¬vz p)=none:=by
  rw[Ku];intro p hp;simpa using h p hp
 unfold zsP;rw[this]
def zq7:0<=zsP l↔¬uA l:=by
 by_cases h:uA l
 ·rw[znb h];exact⟨λk=>by omega,λk=>absurd h k⟩
 refine⟨λ_=>h,λ_=>?_⟩;unfold zsP
 cases hf:l.findIdx? (λp=>¬vz p) with
 |some i=>exact Int.natCast_nonneg i
 |none=>rw[Ku]at hf;exact absurd (λp hp=>by simpa using hf p hp) h
def zEm(p:Pnt)(hp:p.t.le 1000)(hl:p.im.px.length<=9223372036854775807):CX 336 [wx p] (pr (¬vz p)):=by
 exact zc func336<|wg (zsO p hp hl)<|zE K5
def zBF(xs:LY)(ht:zfi xs):CX 388 [.sl yD xs,.fn 336 []] (i64 (zsP xs)):=by
 refine zc func388 λhl0=>?_;refine⟨Int,λi=>⟨[(8,i64 i),(7,i64 xs.length),(0,.sl yD xs),(1,.fn 336 [])],[],0,19,0⟩,λi=>0<=i/\i<=xs.length/\∀(j:Nat) q,(j:Int)<i->xs[j]?=some q->vz q,λi=>((xs.length:Int)-i).toNat,0,?_,?_,?_⟩
 ·exact⟨oM,oM,λj q hj=>by omega⟩
 ·exact zB []
 rintro i ⟨h1,h2,h3⟩
 refine⟨λh4=>?_,λh4=>?_⟩
 ·refine wb λx hx=>?_;have hm:=ht x (Xf hx);refine wg (zEm x hm.1 hm.2)<|⟨λh5=>?_,λh5=>?_⟩
  ·refine ze ?_;rw[zBE (i:=i.toNat) (λj q hj=>h3 j q oM) hx h5];omega
  refine wa<|⟨i+1,⟨oM,oM,λj q hj hq=>?_⟩,zB [],oN⟩
  by_cases e:j=i.toNat
  ·subst e;rw[hx]at hq;cases hq;exact Xa.1 h5
  exact h3 j q oM hq
 refine ze (znb λp hp=>?_).symm;obtain⟨j,hj,he⟩:=Kl hp;exact h3 j p oM (by rw[←he];exact Xb hj)
def zsQ(xs:LY)(ht:zfi xs):CX 335 [.sl yD xs,.fn 336 []] (pr (¬uA xs)):=by
 exact zc func335<|wg (zBF xs ht)<|zE zq7
def zCK(xs:LY)(ht:zfi xs):CX 266 [.sl yD xs] (pr (uA xs)):=by
 exact zc func266<|wg (zsQ xs ht)<|zE Xa
def vB(n:Nd):Prop:=if n.k=1 then(zc5 n/\uj n.pen)/\zci n else if n.k=2 then zch n/\zci n else zch n/\zc5 n/\uj n.pen
instance (n:Nd):Decidable (vB n):=by unfold vB;infer_instance
def zoP{n:Nd}:zci n↔n.im=zImg/\n.smp=0:=by
 unfold zci zImg
 obtain⟨id,k,d,t,clip,cr,op,mode,iso,ko,path,rule,fill,pen,strk,⟨w,h,px⟩,smp⟩:=n
 simp only[Img.mk.injEq,XM];constructor
 ·rintro⟨h1,h2,h3,h4⟩;exact⟨⟨h1,h2,h3⟩,h4⟩
 rintro⟨⟨h1,h2,h3⟩,h4⟩;exact⟨h1,h2,h3,h4⟩
def zEn(n:Nd):CX 187 [.agg (ndE n)] (pr (vB n)):=by
 refine zcS tok func187 rfl rfl rfl (zda.cut tok mix 2 (λ_:Unit=>⟨[(3,pr (zch n)),(1,.loc 0 0)],[(0,.box 66 (ndE n))],1,78,0⟩) (λ_=>True) ?_ λ_ _=>
  zda.cut tok mix 1 (λ_:Unit=>⟨[(4,pr (zc5 n/\uj n.pen)),(3,pr (zch n)),(1,.loc 0 0)],[(0,.box 66 (ndE n))],1,78,0⟩) (λ_=>True) ?_ λ_ _=>
  zda.cut tok mix 1 (λ_:Unit=>⟨[(5,pr (zci n)),(4,pr (zc5 n/\uj n.pen)),(3,pr (zch n)),(1,.loc 0 0)],[(0,.box 66 (ndE n))],1,78,0⟩) (λ_=>True) ?_ λ_ _=>zda.vc tok mix ?_)
 ·refine⟨λh1=>?_,λh1=>⟨(),tV,(jQ (t:=3) rfl (zd λk=>h1 k.1)).trans (qF [(0,some 0)] rfl rfl rfl ⟨rfl,rfl,tV⟩ ⟨rfl,tV⟩)⟩⟩;refine⟨λh2=>?_,λh2=>⟨(),tV,(jQ (t:=3) rfl (zd λk=>h2 k.2.1)).trans (qF [(0,some 0)] rfl rfl rfl ⟨rfl,rfl,tV⟩ ⟨rfl,tV⟩)⟩⟩;refine⟨λh3=>?_,λh3=>⟨(),tV,(jQ (t:=3) rfl (zd λk=>h3 (by rw[k.2.2.1];decide))).trans (qF [(0,some 0)] rfl rfl rfl ⟨rfl,rfl,tV⟩ ⟨rfl,tV⟩)⟩⟩
  exact⟨(),tV,(jQ (t:=3) rfl (zE ⟨λh=>⟨h1,h2,by simpa using h3,by simpa using h⟩,λk=>by rw[k.2.2.2];decide⟩)).trans (qF [(0,some 0)] rfl rfl rfl ⟨rfl,rfl,tV⟩ ⟨rfl,tV⟩)⟩
 ·intro hl1;refine⟨λh1=>?_,λh1=>⟨(),tV,(jQ (t:=4) rfl (zd λk=>h1 (by have:=k.1.1;omega))).trans (qF [(0,some 0)] rfl rfl rfl ⟨rfl,rfl,rfl,tV⟩ ⟨rfl,tV⟩)⟩⟩;refine⟨λh2=>?_,λh2=>⟨(),tV,(jQ (t:=4) rfl (zd λk=>h2 k.1.2.1)).trans (qF [(0,some 0)] rfl rfl rfl ⟨rfl,rfl,rfl,tV⟩ ⟨rfl,tV⟩)⟩⟩;intro hl2;refine⟨λh3=>?_,λh3=>⟨(),tV,(jQ (t:=4) rfl (zd λk=>h3 (by have:=k.1.2.2.1;omega))).trans (qF [(0,some 0)] rfl rfl rfl ⟨rfl,rfl,rfl,tV⟩ ⟨rfl,tV⟩)⟩⟩
  intro hl3;refine⟨λh4=>?_,λh4=>⟨(),tV,(jQ (t:=4) rfl (zd λk=>h4 (by have:=k.1.2.2.2;omega))).trans (qF [(0,some 0)] rfl rfl rfl ⟨rfl,rfl,rfl,tV⟩ ⟨rfl,tV⟩)⟩⟩;exact wg (zun n.pen)<|⟨(),tV,(jQ (t:=4) rfl (zE ⟨λh=>⟨⟨oM,h2,oM,oM⟩,h⟩,λk=>k.2⟩)).trans (qF [(0,some 0)] rfl rfl rfl ⟨rfl,rfl,rfl,tV⟩ ⟨rfl,tV⟩)⟩
 ·refine wg ((zm7 n.im zImg).args (.C (.cons zBD .nil)))<|⟨λh1=>?_,λh1=>⟨(),tV,(jQ (t:=5) rfl (zd λk=>h1 (zoP.1 k).1)).trans (qF [(0,some 0)] rfl rfl rfl ⟨rfl,rfl,rfl,rfl,tV⟩ ⟨rfl,tV⟩)⟩⟩;exact⟨(),tV,(jQ (t:=5) rfl (zE ⟨λh=>zoP.2 ⟨h1,h⟩,λk=>(zoP.1 k).2⟩)).trans (qF [(0,some 0)] rfl rfl rfl ⟨rfl,rfl,rfl,rfl,tV⟩ ⟨rfl,tV⟩)⟩
 refine⟨λk1=>?_,λk1=>?_⟩
 ·have e:vB n↔(zc5 n/\uj n.pen)/\zci n:=by unfold vB;rw[Xe k1]
  exact⟨λa=>zE ⟨λh=>e.2 ⟨a,h⟩,λk=>(e.1 k).2⟩,λa=>zd λk=>a (e.1 k).1⟩
 refine⟨λk2=>?_,λk2=>?_⟩
 ·have e:vB n↔zch n/\zci n:=by unfold vB;rw[Xc k1,Xe k2]
  exact⟨λa=>zE ⟨λh=>e.2 ⟨a,h⟩,λk=>(e.1 k).2⟩,λa=>zd λk=>a (e.1 k).1⟩
 have e:vB n↔zch n/\zc5 n/\uj n.pen:=by unfold vB;rw[Xc k1,Xc k2]
 exact⟨λa=>zE ⟨λh=>e.2 ⟨a,h⟩,λk=>(e.1 k).2⟩,λa=>zd λk=>a (e.1 k).1⟩
def zq8(n:Nd):Prop:=n.k<1∨3<n.k
instance (n:Nd):Decidable (zq8 n):=wj
def zlR(n:Nd):Prop:=n.id<1∨1073741824<n.id∨n.d<0∨8<=n.d
instance (n:Nd):Decidable (zlR n):=wj
def zcU(n:Nd):Er:=zbo [k7 (zq8 n) 2,k7 (zlR n) 6,k7 (¬n.t.ok) 5,k7 (zbr n.t=0) 9,k7 (¬qM n.clip) 10,k7 (¬u3 n∨¬vB n) 17]
def zzr(n:Nd)(ht:n.t.le 1000):CX 125 [.agg (ndE n)] (.op (erV (zcU n))):=by
 refine zcS tok func125 rfl rfl rfl (zda.cut tok mix 2 (λ_:Unit=>⟨[(3,pr (u3 n)),(1,.loc 0 0)],[(0,.box 66 (ndE n))],1,76,0⟩) (λ_=>True) ?_ λ_ _=>zda.vc tok mix ?_)
 ·intro hl1;refine⟨λh1=>?_,λh1=>?_⟩
  ·refine⟨λh2=>⟨(),tV,(jQ (t:=3) rfl (zH (.inl ⟨oM,h2⟩))).trans (qF [(0,some 0)] rfl rfl rfl ⟨rfl,rfl,tV⟩ ⟨rfl,tV⟩)⟩,λh2=>?_⟩;intro hl2;refine⟨λh3=>?_,λh3=>⟨(),tV,(jQ (t:=3) rfl (zd λk=>k.elim (λk=>h2 k.2) λk=>by have:=k.1;omega)).trans (qF [(0,some 0)] rfl rfl rfl ⟨rfl,rfl,tV⟩ ⟨rfl,tV⟩)⟩⟩;omega
  intro hl2;refine⟨λh3=>?_,λh3=>?_⟩
  ·exact wg (zzp n.cr)<|⟨(),tV,(jQ (t:=3) rfl (zE ⟨λh=>.inr ⟨oM,h⟩,λk=>k.elim (λk=>by have:=k.1;omega) λk=>k.2⟩)).trans (qF [(0,some 0)] rfl rfl rfl ⟨rfl,rfl,tV⟩ ⟨rfl,tV⟩)⟩
  omega
 refine wd<|Br.mk (λa1=>?_) (λa1=>?_)
 all_goals refine wg ((yC (zq8 n) 2).args (.cons (by first|exact zH (.inl a1)|exact zE ⟨.inr,λk=>k.resolve_left a1⟩) LEs.refl)) ?_
 all_goals (refine⟨λb1=>?_,λb1=>?_⟩;rotate_left;refine⟨λb2=>?_,λb2=>?_⟩;rotate_left;refine⟨λb3=>?_,λb3=>?_⟩)
 all_goals refine wg ((yC (zlR n) 6).args (.cons (by first|exact zH (by unfold zlR;omega)|exact zE (by unfold zlR;constructor <;> intro <;> omega)) LEs.refl)) ?_
 all_goals refine wg (zgD n.t (ht.up dC)) ?_
 all_goals refine wg (yC (¬n.t.ok) 5) ?_
 all_goals refine wg (zEl n.t (ht.up dC)) ?_
 all_goals refine wg (yC (zbr n.t=0) 9) ?_
 all_goals refine wg (ziY n.clip) ?_
 all_goals refine wg (yC (¬qM n.clip) 10) ?_
 all_goals refine⟨λc1=>?_,λc1=>?_⟩
 all_goals first
  |refine wg ((yC (¬u3 n∨¬vB n) 17).args (.cons (zH (.inl c1)) LEs.refl)) ?_
  |(refine wg (zEn n) ?_;refine wg ((yC (¬u3 n∨¬vB n) 17).args (.cons (zE ⟨.inr,λk=>k.resolve_left c1⟩) LEs.refl)) ?_)
 all_goals refine⟨Er,zzb,[k7 (zq8 n) 2,k7 (zlR n) 6,k7 (¬n.t.ok) 5,k7 (zbr n.t=0) 9,k7 (¬qM n.clip) 10,k7 (¬u3 n∨¬vB n) 17],rfl,wb16 ?_⟩
 all_goals refine zb.see 1 _ (zoI [k7 (zq8 n) 2,k7 (zlR n) 6,k7 (¬n.t.ok) 5,k7 (zbr n.t=0) 9,k7 (¬qM n.clip) 10,k7 (¬u3 n∨¬vB n) 17]) rfl rfl rfl ?_
 all_goals refine wh ?_
 all_goals exact .refl
def zoQ(n:Nd):Er:=zbo [k7 (¬qM n.path) 10,k7 (¬zcT n.rule) 2,k7 (1<n.fill.length∨1<n.strk.length) 5,k7 (0<n.strk.length/\¬kC n.pen) 13,k7 (n.strk.length=0/\¬uj n.pen) 17,k7 (¬uA n.fill∨¬uA n.strk) 16]
def zBG(n:Nd)(h1:zfi n.fill)(h2:zfi n.strk):CX 189 [.agg (ndE n)] (.op (erV (zoQ n))):=by
 refine zc func189 λhl1=>wd<|wg (ziY n.path)<|wg (yC (¬qM n.path) 10)<|wg (zzp n.rule)<|wg (yC (¬zcT n.rule) 2) λhl2=>?_;refine⟨λa1=>?_,λa1=>?_⟩;rotate_left;intro hl3
 all_goals refine wg ((yC (1<n.fill.length∨1<n.strk.length) 5).args (.cons (by first|exact zH (.inl oM)|exact zE (by constructor <;> intro <;> omega)) LEs.refl)) ?_
 all_goals refine⟨λb1=>?_,λb1=>?_⟩
 all_goals first
  |(refine wg (zep n.pen) ?_;refine wg ((yC (0<n.strk.length/\¬kC n.pen) 13).args (.cons (zE ⟨λh=>⟨oM,h⟩,λk=>k.2⟩) LEs.refl)) ?_)
  |refine wg ((yC (0<n.strk.length/\¬kC n.pen) 13).args (.cons (zd oM) LEs.refl)) ?_
 all_goals refine⟨λc1=>?_,λc1=>?_⟩
 all_goals first
  |(refine wg (zun n.pen) ?_;refine wg ((yC (n.strk.length=0/\¬uj n.pen) 17).args (.cons (zE ⟨λh=>⟨oM,h⟩,λk=>k.2⟩) LEs.refl)) ?_)
  |refine wg ((yC (n.strk.length=0/\¬uj n.pen) 17).args (.cons (zd oM) LEs.refl)) ?_
 all_goals refine wg (zCK n.fill h1) ?_
 all_goals refine⟨λd1=>?_,λd1=>?_⟩
 all_goals first
  |refine wg ((yC (¬uA n.fill∨¬uA n.strk) 16).args (.cons (zH (.inl d1)) LEs.refl)) ?_
  |(refine wg (zCK n.strk h2) ?_;refine wg ((yC (¬uA n.fill∨¬uA n.strk) 16).args (.cons (zE ⟨.inr,λk=>k.resolve_left d1⟩) LEs.refl)) ?_)
 all_goals refine⟨Er,zzb,[k7 (¬qM n.path) 10,k7 (¬zcT n.rule) 2,k7 (1<n.fill.length∨1<n.strk.length) 5,k7 (0<n.strk.length/\¬kC n.pen) 13,k7 (n.strk.length=0/\¬uj n.pen) 17,k7 (¬uA n.fill∨¬uA n.strk) 16],rfl,wb16 ?_⟩
 all_goals refine zb.see 1 _ (zoI [k7 (¬qM n.path) 10,k7 (¬zcT n.rule) 2,k7 (1<n.fill.length∨1<n.strk.length) 5,k7 (0<n.strk.length/\¬kC n.pen) 13,k7 (n.strk.length=0/\¬uj n.pen) 17,k7 (¬uA n.fill∨¬uA n.strk) 16]) rfl rfl rfl ?_
 all_goals refine wh ?_
 all_goals exact .refl
def zlS(n:Nd):Er:=if n.k=1 then k7 (¬zla n.mode) 2 else if n.k=2 then zoQ n else zbo [k7 (¬zff n.im) 16,k7 (n.smp≠1/\n.smp≠2) 2]
def zlb(n:Nd):Prop:=n.t.le 1000/\zfi n.fill/\zfi n.strk/\n.im.px.length<=9223372036854775807
def g_own(n:Nd)(h:zlb n):CX 126 [.agg (ndE n)] (.op (erV (zlS n))):=by
 obtain⟨_,h1,h2,h3⟩:=h;refine zc func126<|Br.mk (λk1=>?_) (λk1=>?_)
 ·refine wg (zEj n.mode)<|wg (yC (¬zla n.mode) 2) ?_;rw[zlS,Xe k1];exact .refl
 refine⟨λk2=>?_,λk2=>?_⟩
 ·refine wg (zBG n h1 h2) ?_;rw[zlS,Xc k1,Xe k2];exact .refl
 rw[zlS,Xc k1,Xc k2];refine wd<|wg (zm6 n.im h3)<|wg (yC (¬zff n.im) 16)<|⟨λb1=>?_,λb1=>?_⟩
 all_goals refine wg ((yC (n.smp≠1/\n.smp≠2) 2).args (.cons (by first|exact zE ⟨λh=>⟨b1,h⟩,λk=>k.2⟩|exact zd λk=>b1 k.1) LEs.refl)) ?_
 all_goals refine⟨Er,zzb,[k7 (¬zff n.im) 16,k7 (n.smp≠1/\n.smp≠2) 2],rfl,wb16 ?_⟩
 all_goals refine zb.see 1 _ (zoI [k7 (¬zff n.im) 16,k7 (n.smp≠1/\n.smp≠2) 2]) rfl rfl rfl ?_
 all_goals refine wh ?_
 all_goals exact .refl
def zd6:Er->Int->Int
 |.nil,c=>c
 |.w c u,_=>zd6 u c
def zuo:Er->Nat
 |.nil=>0
 |.w _ u=>zuo u+1
def zsR(n:Nd):Er:=match zcU n with
 |.nil=>zlS n
 |.w c u=>.w c u
def cellA:Option (Int×Er)->SV
 |none=>i64 0
 |some (a,_)=>i64 a
def zEo:Option (Int×Er)->SV
 |none=>.val .nilIface
 |some (_,b)=>.op (erV b)
def zzs(n:Nd)(h:zlb n):CX 89 [.agg (ndE n)] (i64 (zd6 (zsR n) 0)):=by
 refine zcS tok func89 rfl rfl rfl (zda.cut tok mix 3 (λ_:Unit=>⟨[(3,.op (erV (zsR n)))],[],1,20,0⟩) (λ_=>True) ?_ λ_ _=>zda.vc tok mix ?_)
 ·have hc:=zzr n h.1;have ht:zsR n=match zcU n with|.nil=>zlS n|.w c u=>.w c u:=rfl
  revert hc ht
  generalize zcU n=e
  cases e with
  |nil=>
   intro hc ht;refine wg hc<|Br.mk (λ_=>?_) (λk=>absurd rfl k);refine wg (g_own n h) ?_;rw[ht];exact⟨(),tV,zf [0]⟩
  |w c u=>
   intro hc ht;refine wg hc<|Br.mk (λk=>by cases k) (λ_=>?_);rw[ht];exact⟨(),tV,zf [0]⟩
 refine⟨Er×Int×Option (Int×Er),λx=>⟨[(4,i64 x.2.1),(3,.op (erV x.1)),(5,.loc 1 0)],[(1,.box 155 [cellA x.2.2,zEo x.2.2])],2,20,0⟩,λx=>zd6 x.1 x.2.1=zd6 (zsR n) 0,λx=>zuo x.1,(zsR n,0,none),rfl,zB [(1,some 1)],?_⟩
 rintro⟨e,c,o⟩ hI
 cases e with
 |nil=>
  rcases o with _|⟨a,b⟩
  ·exact zb.give [1] 0 [.op (erV .nil),.ifc 157 (.loc 0 0)] [(0,.box 155 [i64 0,.val .nilIface])] [(0,.box 155 [i64 0,.val .nilIface])] (bl false) (zq1 _ _) LEs.refl rfl rfl rfl ⟨⟨_,rfl,rfl,rfl⟩,tV⟩ rfl ⟨⟨rfl,rfl⟩,tV⟩<|ze hI
  exact zb.give [1] 0 [.op (erV .nil),.ifc 157 (.loc 0 0)] [(0,.box 155 [i64 a,.op (erV b)])] [(0,.box 155 [i64 a,.op (erV b)])] (bl false) (zq1 _ _) LEs.refl rfl rfl rfl ⟨⟨_,rfl,rfl,rfl⟩,tV⟩ rfl ⟨⟨rfl,rfl⟩,tV⟩<|ze hI
 |w c' u=>
  rcases o with _|⟨a,b⟩
  ·exact zb.give [1] 0 [.op (erV (.w c' u)),.ifc 157 (.loc 0 0)] [(0,.box 155 [i64 0,.val .nilIface])] [(0,.box 155 [i64 c',.op (erV u)])] (bl true) (zq2 c' u _ _) LEs.refl rfl rfl rfl ⟨⟨_,rfl,rfl,rfl⟩,tV⟩ rfl ⟨⟨rfl,rfl⟩,tV⟩<|wc<|⟨(u,c',some (c',u)),hI,zB [(1,some 1)],by dsimp only[zuo];omega⟩
  exact zb.give [1] 0 [.op (erV (.w c' u)),.ifc 157 (.loc 0 0)] [(0,.box 155 [i64 a,.op (erV b)])] [(0,.box 155 [i64 c',.op (erV u)])] (bl true) (zq2 c' u _ _) LEs.refl rfl rfl rfl ⟨⟨_,rfl,rfl,rfl⟩,tV⟩ rfl ⟨⟨rfl,rfl⟩,tV⟩<|wc<|⟨(u,c',some (c',u)),hI,zB [(1,some 1)],by dsimp only[zuo];omega⟩
variable{p:Prop}{c:Int}
def zlc[Decidable p]{l:List Er}:zbo (k7 p c::l)=if p then .w 0 (.w c .nil) else zbo l:=by unfold k7;split <;> rfl
def zwd[Decidable p]:zd6 (k7 p c) 0=if p then c else 0:=by unfold k7;split <;> rfl
def zzt{n:Nd}:¬zg6 n↔¬u3 n∨¬vB n:=by
 show¬(u3 n/\vB n)↔_;exact Decidable.not_and_iff_or_not
def zld[Decidable p]{l:List Er}:zd6 (zbo (k7 p c::l)) 0=if p then c else zd6 (zbo l) 0:=by rw[zlc];split <;> rfl
def zEp(n:Nd):zd6 (zsR n) 0=y7 n:=by
 have hs:zd6 (zoQ n) 0=vA n:=by
  unfold zoQ vA;simp only[zld];rfl
 have ho:zd6 (zlS n) 0=if n.k=1 then(if¬(1<=n.mode/\n.mode<=13) then 2 else 0) else if n.k=2 then vA n else if¬zff n.im then 16 else if n.smp≠1/\n.smp≠2 then 2 else 0:=by
  unfold zlS
  split
  ·exact zwd
  split
  ·exact hs
  simp only[zld];rfl
 have ht:zsR n=match zcU n with|.nil=>zlS n|.w c u=>.w c u:=rfl
 have hc:y7 n=if zq8 n then 2 else if zlR n then 6 else if¬n.t.ok then 5 else if zbr n.t=0 then 9 else if¬qM n.clip then 10 else if¬u3 n∨¬vB n then 17 else zd6 (zlS n) 0:=by
  rw[ho];unfold y7;simp only[zzt];rfl
 rw[hc,ht]
 have hm:zcU n=if zq8 n then .w 0 (.w 2 .nil) else if zlR n then .w 0 (.w 6 .nil) else if¬n.t.ok then .w 0 (.w 5 .nil) else if zbr n.t=0 then .w 0 (.w 9 .nil) else if¬qM n.clip then .w 0 (.w 10 .nil) else if¬u3 n∨¬vB n then .w 0 (.w 17 .nil) else .nil:=by
  unfold zcU;simp only[zlc];rfl
 rw[hm]
 by_cases h1:zq8 n
 ·simp only[Xe h1];rfl
 simp only[Xc h1]
 by_cases h2:zlR n
 ·simp only[Xe h2];rfl
 simp only[Xc h2]
 by_cases h3:¬n.t.ok
 ·simp only[Xe h3];rfl
 simp only[Xc h3]
 by_cases h4:zbr n.t=0
 ·simp only[Xe h4];rfl
 simp only[Xc h4]
 by_cases h5:¬qM n.clip
 ·simp only[Xe h5];rfl
 simp only[Xc h5]
 by_cases h6:¬u3 n∨¬vB n
 ·simp only[Xe h6];rfl
 simp only[Xc h6]
def zBH(n:Nd)(h:zlb n):CX 89 [.agg (ndE n)] (i64 (y7 n)):=zEp n ▸ zzs n h
def uk(t:AF)(x:LU)(j:Nat):LU:=y6 t (x.take j)++List.replicate (x.length-j) zp
variable{j:Nat}
def zle(t:AF)(x:LU)(h:j<=x.length):(uk t x j).length=x.length:=by
 unfold uk y6;rw[Xq,Xx,Xo,Ki];omega
def zlf{t:AF}{x:LU}{z:Pt}(h:x[j]?=some z):(uk t x j).set j (kr t z).1=uk t x (j+1):=by
 have hj:j<x.length:=(Xd.1 h).1;have hl:(y6 t (x.take j)).length=j:=by unfold y6;rw[Xx,Xo];omega
 unfold uk;rw[show x.length-j=(x.length-(j+1))+1 by omega,List.replicate_succ,Ym _ _ oM,hl,QJ,List.set_cons_zero];have e:y6 t (x.take (j+1))=y6 t (x.take j)++[(kr t z).1]:=by unfold y6;rw[Xl,h,XA];rfl
 rw[e,XZ];rfl
def tQ(rs:LQ)(t:AF):Nat->St
 |0=>⟨[(3,.loc 0 0),(4,.loc 1 0),(5,.loc 2 0),(15,.sl zk rs),(16,i64 rs.length),(17,i64 ((0:Nat):Int))],[(0,.box 57 (afE t)),(1,.box 94 [.val (.slice none 0 0)]),(2,.box 42 [i64 0])],3,48,3⟩
 |i+1=>⟨[(3,.loc 0 0),(4,.loc 1 0),(5,.loc 2 0),(15,.sl zk rs),(16,i64 rs.length),(17,i64 ((i+1:Nat):Int))],[(0,.box 57 (afE t)),(1,.box 94 [.own 3]),(2,.box 42 [i64 0]),(3,.garr 148 1 (yK ((rs.take (i+1)).map (y6 t))))],4,48,3⟩
def zEq(rs:LQ)(t:AF)(ht:t.le 100000)(hl:rs.length<=100000)(hs:∀r∈rs,(r.length:Int)<=9223372036854771711):CX 178 [.sl zk rs,wo t] (rgE (yp rs t)):=by
 refine zm3 2 2 tok mix func178 rfl rfl rfl func256 rfl rfl<|⟨_,_,rfl,?_⟩;refine⟨_,_,rfl,?_⟩;refine wg (zgw rs hs)<|⟨λk=>?_,λk=>?_⟩
 ·have k:¬kL rs:=k;exact qG (by unfold yp;rw[Xe k])
 have k:kL rs:=Xa.1 k;have es:yp rs t=if zdc t rs≠0 then([],zdc t rs) else(rs.map (y6 t),0):=by unfold yp;rw[kH k]
 have hc:qa rs<=4096:=by have:=k.1;omega
 refine⟨_,_,_,_,_,rfl,rfl,rfl,rfl,?_⟩;refine⟨_,rfl,rfl,rfl,?_⟩;intro hl1;refine⟨Nat,tQ rs t,λi=>i<=rs.length/\∀r∈rs.take i,zdb t r=0,λi=>rs.length-i,0,⟨Xh _,λr hr=>by cases hr⟩,zf [0,1,2],?_⟩
 rintro(_|i) ⟨h1,h2⟩
 ·refine⟨λg=>?_,λg=>?_⟩;rotate_left
  ·have g:¬(((0:Nat):Int))<rs.length:=g;have e0:rs=[]:=Xp oM;refine⟨_,.refl,rfl,?_⟩;refine⟨λh=>absurd rfl h,λ_=>?_⟩;exact qG (by rw[es,e0];rfl)
  have g:((0:Nat):Int)<rs.length:=g;obtain⟨x,hx⟩:∃x,rs[0]?=some x:=⟨_,Xb oM⟩;have hxl:=XB (vv (Xf hx)) hc;refine wb λy hy=>?_;have ey:y=x:=Xm ((show rs[0]?=some y from hy).symm.trans hx);rw[ey];intro hl2;refine⟨Pt,ptE,zp,rfl,Ob.mk ⟨dC,oM,oM,(by show(x.length:Int)*16<=_;omega),oM⟩ ?_⟩;intro hl3
  refine⟨Nat,λj=>⟨[(3,.loc 0 0),(4,.loc 1 0),(5,.loc 2 0),(8,.own 3),(15,.sl zk rs),(16,i64 rs.length),(17,i64 ((0:Nat):Int)),(24,.sl ptE x),(25,i64 x.length),(26,i64 j)],[(0,.box 57 (afE t)),(1,.box 94 [nS]),(2,.box 42 [i64 0]),(3,.arr 28 ptE 2 (uk t x j))],4,48,3⟩,λj=>j<=x.length/\∀p∈x.take j,(kr t p).2=0,λj=>x.length-j,0,⟨Xh _,λp hp=>by cases hp⟩,?_,?_⟩
  ·exact zu [0,1,2,3] ⟨rfl,rfl,rfl,aR (by unfold uk;rfl),tV⟩
  rintro j ⟨j1,j2⟩
  have zl:=zle t x j1;refine⟨λq:(j:Int)<x.length=>?_,λq:¬(j:Int)<x.length=>?_⟩
  ·refine wb λz(hz:x[j]?=some z)=>?_;refine wg (zeA t z ht)<|wb<|wb λold _=>?_;refine⟨(kr t z).1,rfl,?_⟩;refine⟨λe:¬(kr t z).2=0=>?_,λe=>?_⟩
   ·have eL:=zg0 hz j2 e;have eR:=zg1 hx h2 (by rw[eL];exact e);refine⟨_,.refl,rfl,?_⟩;refine⟨λ_=>?_,λh=>absurd e h⟩;exact qG (by rw[es,eR,eL,Xe e])
   have e:(kr t z).2=0:=Xa.1 e;exact wa<|⟨j+1,⟨oM,yq hz j2 e⟩,zu [0,1,2,3] ⟨rfl,rfl,Xg (λn=>some (Mem.box 42 [i64 n])) e,aR (zlf hz),tV⟩,oN⟩
  have etx:x.take j=x:=Xi oM;have ez:uk t x j=y6 t x:=by unfold uk;rw[etx,show x.length-j=0 by omega];exact XE _
  rw[etx]at j2;refine⟨[[.own 3]],rfl,wb9 ?_⟩;refine wb27<|wa<|⟨0+1,⟨oM,yq hx h2 (zgZ j2)⟩,(zcB (sz0:=1) (T0:=148) 3 5 (enc:=ptE) (ys:=uk t x j) rfl rfl (xs':=yK ([]++[uk t x j])) (by rfl) (λz hz=>?_) zg2).trans (zu [0,1,2,5] ⟨rfl,rfl,rfl,⟨_,rfl,zak ?_⟩,tV⟩),oN⟩
  ·unfold yK at hz;obtain⟨b,_,rfl⟩:=XO.1 hz;rfl
  rw[ez];rw[Xl,hx];rfl
 refine⟨λg=>?_,λg=>?_⟩;rotate_left
 ·have g:¬((i+1:Nat):Int)<rs.length:=g;have et:rs.take (i+1)=rs:=Xi oM;have h3:=h2;rw[et]at h3;have er:yp rs t=(rs.map (y6 t),0):=by rw[es,zoL h3];rfl
  refine⟨_,zgg 3 zk ((rs.take (i+1)).map (y6 t)) rfl (λ_ _=>rfl),rfl,?_⟩;refine⟨λh=>absurd rfl h,λ_=>?_⟩;rw[er];exact zM (zZ (show(rs.take (i+1)).map (y6 t)=rs.map (y6 t) by rw[et])) .refl
 have g:(((i+1):Nat):Int)<rs.length:=g;obtain⟨x,hx⟩:∃x,rs[(i+1)]?=some x:=⟨_,Xb oM⟩;have hxl:=XB (vv (Xf hx)) hc;refine wb λy hy=>?_;have ey:y=x:=Xm ((show rs[(i+1)]?=some y from hy).symm.trans hx);rw[ey];intro hl2;refine⟨Pt,ptE,zp,rfl,Ob.mk ⟨dC,oM,oM,(by show(x.length:Int)*16<=_;omega),oM⟩ ?_⟩;intro hl3
 refine⟨Nat,λj=>⟨[(3,.loc 0 0),(4,.loc 1 0),(5,.loc 2 0),(8,.own 4),(15,.sl zk rs),(16,i64 rs.length),(17,i64 (((i+1):Nat):Int)),(24,.sl ptE x),(25,i64 x.length),(26,i64 j)],[(0,.box 57 (afE t)),(1,.box 94 [.own 3]),(2,.box 42 [i64 0]),(3,.garr 148 1 (yK ((rs.take (i+1)).map (y6 t)))),(4,.arr 28 ptE 2 (uk t x j))],5,48,3⟩,λj=>j<=x.length/\∀p∈x.take j,(kr t p).2=0,λj=>x.length-j,0,⟨Xh _,λp hp=>by cases hp⟩,?_,?_⟩
 ·exact zu [0,1,2,3,4] ⟨rfl,rfl,rfl,⟨_,rfl,zak rfl⟩,aR (by unfold uk;rfl),tV⟩
 rintro j ⟨j1,j2⟩
 have zl:=zle t x j1;refine⟨λq:(j:Int)<x.length=>?_,λq:¬(j:Int)<x.length=>?_⟩
 ·refine wb λz(hz:x[j]?=some z)=>?_;refine wg (zeA t z ht)<|wb<|wb λold _=>?_;refine⟨(kr t z).1,rfl,?_⟩;refine⟨λe:¬(kr t z).2=0=>?_,λe=>?_⟩
  ·have eL:=zg0 hz j2 e;have eR:=zg1 hx h2 (by rw[eL];exact e);refine⟨_,.refl,rfl,?_⟩;refine⟨λ_=>?_,λh=>absurd e h⟩;exact qG (by rw[es,eR,eL,Xe e])
  have e:(kr t z).2=0:=Xa.1 e;exact wa<|⟨j+1,⟨oM,yq hz j2 e⟩,zu [0,1,2,3,4] ⟨rfl,rfl,Xg (λn=>some (Mem.box 42 [i64 n])) e,⟨_,rfl,zak rfl⟩,aR (zlf hz),tV⟩,oN⟩
 have etx:x.take j=x:=Xi oM;have ez:uk t x j=y6 t x:=by unfold uk;rw[etx,show x.length-j=0 by omega];exact XE _
 rw[etx]at j2;refine⟨[[.own 4]],rfl,wb9 ?_⟩;refine Ob.mk ⟨by show _*(24:Int)<=_;rw[vd,Xx,Xo];simp only[Xn,Xr];omega,by rw[vd,Xx,Xo];simp only[Xn,Xr];omega,dC⟩<|wa ?_
 refine⟨(i+1)+1,⟨oM,yq hx h2 (zgZ j2)⟩,(zcB (sz0:=1) (T0:=148) 4 6 (enc:=ptE) (ys:=uk t x j) rfl rfl (xs':=yK ((rs.take (i+1)).map (y6 t)++[uk t x j])) (by rw[vd,Xq,Xq,vd];rfl) (λz hz=>?_) zg2).trans (zu [0,1,2,6] ⟨rfl,rfl,rfl,⟨_,rfl,zak ?_⟩,tV⟩),oN⟩
 ·unfold yK at hz;obtain⟨b,_,rfl⟩:=XO.1 hz;rfl
 rw[ez];rw[Xl (l:=rs) (i:=i+1),hx,XA];rfl
variable{pen:Pen}
def zzu{p:Pl}:∀r∈ku p pen,0<r.length:=by
 intro r hr;unfold ku at hr
 rcases Xs.1 hr with hr|hr
 ·rcases Xs.1 hr with hr|hr
  ·rw[vR]at hr
   rcases Xs.1 hr with hr|hr
   ·unfold zdV at hr;obtain⟨i,_,hr⟩:=QF.1 hr;exact zcb hr
   split at hr
   ·exact zcb hr
   cases hr
  rw[zcc]at hr
  split at hr
  ·cases hr
  unfold yd at hr;obtain⟨i,_,hr⟩:=QF.1 hr;unfold zfd at hr
  split at hr
  ·cases hr
  exact zoy r hr
 unfold zdJ at hr
 split at hr
 ·exact zcb hr
 split at hr
 ·rcases Xs.1 hr with hr|hr <;> exact zcb hr
 cases hr
def zsS{p:Pl}:∀r∈(kz p pen).1,0<r.length:=by
 unfold kz
 split
 ·intro r hr;cases hr
 split
 ·intro r hr;cases hr
 split
 ·intro r hr;cases hr
 split
 ·intro r hr;cases hr
 split
 ·intro r hr;cases hr
 exact zzu
def ziC{pen:Pen}:∀{l:LZ},∀r∈(qk l pen).1,0<r.length
 |[],r,hr=>by cases hr
 |p::s,r,hr=>by
  unfold qk at hr
  split at hr
  ·cases hr
  split at hr
  ·cases hr
  rcases Xs.1 hr with hr|hr
  ·exact zsS r hr
  exact ziC r hr
def zzv:∀{rs:LQ},(∀r∈rs,0<r.length)->rs.length<=qa rs
 |[],_=>Xh _
 |r::s,h=>by
  have h1:=h r (.head _);have h2:=zzv λq hq=>h q (.tail _ hq)
  rw[zgQ,Xn];omega
def zd7(l:LZ)(pen:Pen):(qo l pen).1.length<=4096/\∀r∈(qo l pen).1,(r.length:Int)<=9223372036854771711:=by
 unfold qo
 split
 ·exact⟨Xh _,λr hr=>by cases hr⟩
 split
 ·exact⟨Xh _,λr hr=>by cases hr⟩
 split
 ·exact⟨Xh _,λr hr=>by cases hr⟩
 rename_i h;have hg:=zzv (ziC (l:=l) (pen:=pen));exact⟨oN,λr hr=>by have hr:r∈(qk l pen).1:=hr;have:=vv hr;omega⟩
def zd8{pen:Pen}:∀{l:LZ},(∀p∈l,p.pts.length<=4096)->(jP l pen).1.length<=4096*l.length/\∀q∈(jP l pen).1,q.pts.length<=4096
 |[],_=>⟨Xk 0,λq hq=>by cases hq⟩
 |p::r,hl=>by
  obtain⟨i1,i2⟩:=zd8 (pen:=pen) (l:=r) λq hq=>hl q (.tail _ hq)
  obtain⟨f1,f2⟩:=zbE (pen:=pen) (hl p (.head _));unfold jP
  split
  ·exact⟨Xh _,λq hq=>by cases hq⟩
  split
  ·exact⟨Xh _,λq hq=>by cases hq⟩
  rw[Xq,Xn];refine⟨oM,λq hq=>?_⟩
  rcases Xs.1 hq with hq|hq
  ·exact f2 q hq
  exact i2 q hq
def zay(l:LX)(pen:Pen)(t:AF)(tol:Int):LQ×Int:=
 if¬kC pen then([],13) else if (zW l tol).2≠0 then([],(zW l tol).2) else if (jP (zW l tol).1 pen).2≠0 then([],(jP (zW l tol).1 pen).2)
 else if (qo (jP (zW l tol).1 pen).1 pen).2≠0 then([],(qo (jP (zW l tol).1 pen).1 pen).2) else yp (qo (jP (zW l tol).1 pen).1 pen).1 t
def zwe(l:LX)(pen:Pen)(t:AF)(tol:Int)(ht:t.le 100000):CX 118 [.sl sgE l,wr pen,wo t,i64 tol] (rgE (zay l pen t tol)):=by
 refine zc func118 ?_;have de:=zsD pen;refine wg (zBn pen)<|⟨λe=>?_,λe=>?_⟩
 ·have e:¬(jw ⟨[],false⟩ pen).2=0:=e;have k:¬kC pen:=λk=>e (by rw[de,Xe k])
  refine qG ?_;rw[de,Xc k];unfold zay;rw[Xe k]
 have e:(jw ⟨[],false⟩ pen).2=0:=Xa.1 e
 have hk:kC pen:=by
  refine Xa.1 λk=>?_
  rw[de,Xc k]at e;exact absurd e dC
 have fs:=zbG l tol;have cf:=zd8 (pen:=pen) fs.2;refine wg (zyu l tol)<|⟨λe1=>?_,λe1=>?_⟩
 ·have e1:¬(zW l tol).2=0:=e1;exact qG (by unfold zay;rw[kH hk,Xe e1])
 have e1:(zW l tol).2=0:=Xa.1 e1;refine wg (zD8 (zW l tol).1 pen fs.1 fs.2)<|⟨λe2=>?_,λe2=>?_⟩
 ·have e2:¬(jP (zW l tol).1 pen).2=0:=e2;exact qG (by unfold zay;rw[kH hk,qH e1,Xe e2])
 have e2:(jP (zW l tol).1 pen).2=0:=Xa.1 e2;refine wg (zvE (jP (zW l tol).1 pen).1 pen oM cf.2) ?_;have sm:=zd7 (jP (zW l tol).1 pen).1 pen;refine⟨λe3:¬(qo (jP (zW l tol).1 pen).1 pen).2=0=>?_,λe3=>?_⟩
 ·exact qG (by unfold zay;rw[kH hk,qH e1,qH e2,Xe e3])
 have e3:(qo (jP (zW l tol).1 pen).1 pen).2=0:=Xa.1 e3;refine wg (zEq (qo (jP (zW l tol).1 pen).1 pen).1 t ht oM sm.2) ?_;have ee:zay l pen t tol=yp (qo (jP (zW l tol).1 pen).1 pen).1 t:=by unfold zay;rw[kH hk,qH e1,qH e2,qH e3]
 rw[ee];exact .refl
def zwf(l:LX)(pen:Pen)(t:AF)(tol:Int)(ht:t.le 100000):CX 108 [.sl sgE l,wr pen,wo t,i64 tol] (rgE (zay l pen t tol)):=by
 refine zc func108<|wg (zcJ pen)<|⟨λk=>?_,λk=>?_⟩
 ·have k:¬kC pen:=k;exact qG (by unfold zay;rw[Xe k])
 have hk:kC pen:=Xa.1 k;have fs:=zbG l tol;have cf:=zd8 (pen:=pen) fs.2;refine wg (zyv l tol)<|⟨λe1=>?_,λe1=>?_⟩
 ·have e1:¬(zW l tol).2=0:=e1;exact qG (by unfold zay;rw[kH hk,Xe e1])
 have e1:(zW l tol).2=0:=Xa.1 e1;refine⟨Nat,λi=>⟨[(5,.loc 0 0),(6,.loc 1 0),(10,.sl plE (zW l tol).1),(12,.own 2),(13,i64 i)],[(0,.box 61 (jb pen)),(1,.box 57 (afE t)),(2,.arr 193 plE 2 (zcR ((zW l tol).1.take i) pen))],3,65,0⟩,λi=>i<=(zW l tol).1.length/\∀q∈(zW l tol).1.take i,(jw q pen).2=0,λi=>(zW l tol).1.length-i,0,⟨Xh _,λq hq=>by cases hq⟩,zB [(0,some 0),(1,some 1),(2,none)],?_⟩
 rintro i ⟨h1,h2⟩
 obtain⟨f1,_⟩:=zfQ (pen:=pen) (l:=(zW l tol).1.take i) λq hq=>fs.2 q (XL hq)
 rw[Xo]at f1;intro hl1;refine⟨λg:(i:Int)<(zW l tol).1.length=>?_,λg:¬(i:Int)<(zW l tol).1.length=>?_⟩
 ·refine wd<|wb λx(hx:(zW l tol).1[i]?=some x)=>?_;have hpx:=fs.2 x (Xf hx);refine wg (zD7 x pen hpx)<|wh<|⟨λz=>?_,λz=>?_⟩
  ·have z:¬(jw x pen).2=0:=z;have ce:=zhX hx h2 z;exact qG (by unfold zay;rw[kH hk,qH e1,ce];exact Xe z)
  have z:(jw x pen).2=0:=Xa.1 z;obtain⟨s1,s2⟩:=zbE (pen:=pen) hpx;refine⟨(jw x pen).1,rfl,wb26 ?_⟩;exact wa<|⟨i+1,⟨oM,zgR hx h2 z⟩,zu [0,1,3] ⟨rfl,rfl,aR (zm1 hx).symm,tV⟩,oN⟩
 have et:(zW l tol).1.take i=(zW l tol).1:=Xi oM;rw[et]at h2;have co:=zkX h2;have c1:(jP (zW l tol).1 pen).1=zcR ((zW l tol).1.take i) pen:=by rw[co,et]
 have c2:(jP (zW l tol).1 pen).2=0:=by rw[co]
 have ee:zay l pen t tol=if (qo (zcR ((zW l tol).1.take i) pen) pen).2≠0 then([],(qo (zcR ((zW l tol).1.take i) pen) pen).2) else yp (qo (zcR ((zW l tol).1.take i) pen) pen).1 t:=by
  unfold zay;rw[kH hk,qH e1,qH c2,c1]
 rw[c1]at cf;refine zb.see 2 _ (zvF (zcR ((zW l tol).1.take i) pen) pen oM cf.2) rfl rfl rfl ?_;have sm:=zd7 (zcR ((zW l tol).1.take i) pen) pen;refine⟨λe3:¬(qo (zcR ((zW l tol).1.take i) pen) pen).2=0=>?_,λe3=>?_⟩
 ·exact qG (by rw[ee,Xe e3])
 have e3:(qo (zcR ((zW l tol).1.take i) pen) pen).2=0:=Xa.1 e3;rw[qH e3]at ee;refine wg (zEg (qo (zcR ((zW l tol).1.take i) pen) pen).1 t ht oM) ?_;rw[ee];exact .refl
end
abbrev wq(x:Sc):SV:=.agg (scE x)
abbrev ww(x:Nd):SV:=.agg (ndE x)
abbrev LW:=List Nd
end Go.Gs
