/- Transforms, many of them, one after the other, both texts. -/
import Derived.Test.YtkngjacccoklaaaGreatDoorMA
import Derived.Test.YtkngjacccoklaaaGreatDoorMAP
import Derived.Test.YtkngjacccoklaaaGreatDoorMBC
import Derived.Test.YtkngjacccoklaaaGreatDoorMAZ
import Derived.Test.YtkngjacccoklaaaGreatDoorMAQ
import Derived.Test.YtkngjacccoklaaaGreatDoorMBB
set_option maxRecDepth 100000
set_option maxHeartbeats 8000000
set_option linter.all false
namespace Go.Gs
open Go.Proofs
def uh(l:List AF):AF:=l.foldl beh idA
variable{i:Nat}
def zfP{l:List AF}{x:AF}(h:l[i]?=some x):uh (l.take (i+1))=beh (uh (l.take i)) x:=by
 unfold uh;rw[Xl,h,KW];rfl
def zoI(l:List AF):Prop:=(∀t∈l,t.ok)/\∀i,i<l.length->(uh (l.take (i+1))).ok
instance (l:List AF):Decidable (zoI l):=inferInstanceAs (Decidable (_/\∀i,i<l.length->_))
def vy(l:List AF):AF×Int:=if zoI l then(uh l,0) else(qA,5)
def zBn:idA.nrm=idA:=by unfold idA AF.nrm afQ;simp only[kv]
def zk1{l:List AF}:∀{i:Nat},i<=l.length->(∀k,k<i->(uh (l.take (k+1))).ok)->(uh (l.take i)).le 8
 |0,_,_=>zxG.up dC
 |i+1,hi,h=>by
  have hk:=h i oM;have hx:l[i]?=some l[i]:=Xb oM;rw[zfP hx]at hk ⊢;exact zva hk
def zvX(l:List AF):(uh l).nrm=uh l:=by
 rcases Yk l with rfl|⟨q,x,rfl⟩
 ·exact zBn
 unfold uh;rw[List.concat_eq_append,KW];exact zn6 _ _
def zsJ(l:List AF)(hl:∀t∈l,t.le 100):CG0 124 [.sl afE l] [] (.tup [.agg (afE (vy l).1),i64 (vy l).2]) []:=by
 have bad:¬zoI l->LE (.tup [.agg ud,i64 5]) (.tup [.agg (afE (vy l).1),i64 (vy l).2]):=λh=>by
  rw[show vy l=(qA,5) from Xc h];exact zM zb9 .refl
 refine zc Tryz.func124 ?_;refine zb.t zsa ?_;intro hl0
 refine⟨Nat,λi=>⟨[(12,i64 (i:Int)),(11,i64 (l.length:Int)),(10,.sl afE l),(4,.loc 1 0),(2,.loc 0 0),(0,.sl afE l)],[(1,.box 38 (afE idA)),(0,.box 38 ud)],2,37,0⟩,
  λi=>i<=l.length/\∀t∈l.take i,t.ok,λi=>l.length-i,0,⟨Xh _,λt ht=>by cases ht⟩,?_,?_⟩
 ·exact zf [0,1]
 rintro i ⟨h1,h2⟩
 refine⟨λg=>?_,λg=>?_⟩
 ·have g:(i:Int)<l.length:=g;refine Ob.o ?_;intro x hx;have hx:l[i]?=some x:=hx;have hm:=Xf hx;refine zb.t (zgq x ((hl x hm).up dC))<|⟨λh=>bad λk=>h (k.1 x hm),λh=>?_⟩;exact Ar.o<|⟨i+1,⟨oM,yp hx h2 (Xa.1 h)⟩,zf [0,1],by dsimp only;omega⟩
 have g:¬(i:Int)<l.length:=g;rw[Xi oM]at h2;intro hl1
 refine⟨Nat,λi=>⟨[(23,i64 (i:Int)),(22,i64 (l.length:Int)),(21,.sl afE l),(4,.loc 1 0),(2,.loc 0 0)],[(1,.box 38 (afE (uh (l.take i)))),(0,.box 38 ud)],2,37,0⟩,
  λi=>i<=l.length/\∀k,k<i->(uh (l.take (k+1))).ok,λi=>l.length-i,0,⟨Xh _,λk h=>by omega⟩,?_,?_⟩
 ·exact zf [0,1]
 rintro j ⟨j1,j2⟩
 have lj:=zk1 j1 j2;refine⟨λg=>?_,λg=>?_⟩
 ·have g:(j:Int)<l.length:=g;refine Ob.o ?_;intro x hx;have hx:l[j]?=some x:=hx;have hm:=Xf hx;have e:=zfP hx;refine zb.t (zxy (uh (l.take j)) x (lj.up dC) ((hl x hm).up dC))<|zb.t (zgq (beh (uh (l.take j)) x) ((zxz (n:=100) (lj.up dC) (hl x hm)).up dC))<|⟨λh=>bad λk=>h (by rw[←e];exact k.2 j oM),λh=>?_⟩;have h:(beh (uh (l.take j)) x).ok:=Xa.1 h;refine Ar.o ?_
  refine⟨j+1,⟨oM,λk hk=>?_⟩,zu [0,1] ⟨Xg (λq=>some (Mem.box 38 (afE q))) e.symm,rfl,trivial⟩,by dsimp only;omega⟩
  by_cases c:k=j
  ·rw[c,e];exact h
  exact j2 k oM
 have g:¬(j:Int)<l.length:=g;have et:l.take j=l:=Xi oM;refine zb.t (zpZ (uh (l.take j)) (lj.up dC)) ?_;rw[zvX];have ef:vy l=(uh (l.take j),0):=by rw[et];exact Xe ⟨h2,λk hk=>j2 k oM⟩
 rw[ef];exact zM .refl .refl
def zoJ(l:List AF)(hl:∀t∈l,t.le 100):CG0 95 [.sl afE l] [] (.tup [.agg (afE (vy l).1),i64 (vy l).2]) []:=by
 have bad:¬zoI l->LE (.tup [.agg ud,i64 5]) (.tup [.agg (afE (vy l).1),i64 (vy l).2]):=λh=>by
  rw[show vy l=(qA,5) from Xc h];exact zM zb9 .refl
 refine zc Tryz.func95 ?_;refine zb.t zaN ?_
 refine⟨Nat,λi=>⟨[(5,i64 (i:Int)),(4,.loc 1 0),(2,.loc 0 0),(0,.sl afE l)],[(1,.box 38 (afE (uh (l.take i)))),(0,.box 38 ud)],2,31,0⟩,
  λi=>i<=l.length/\(∀t∈l.take i,t.ok)/\∀k,k<i->(uh (l.take (k+1))).ok,λi=>l.length-i,0,⟨Xh _,(λt ht=>by cases ht),λk h=>by omega⟩,?_,?_⟩
 ·exact zf [0,1]
 rintro j ⟨j1,j0,j2⟩
 have lj:=zk1 j1 j2;intro hl1;refine⟨λg=>?_,λg=>?_⟩
 ·have g:(j:Int)<l.length:=g;refine Ob.o ?_;intro x hx;have hx:l[j]?=some x:=hx;have hm:=Xf hx;have e:=zfP hx;refine zb.t (zb8 x ((hl x hm).up dC))<|⟨λh=>bad λk=>h (k.1 x hm),λh=>?_⟩;refine Dr.k<|Ob.o ?_;intro y hy;have ey:y=x:=Xm ((show l[j]?=some y from hy).symm.trans hx);rw[ey];refine zb.t (zp2 (uh (l.take j)) x (lj.up dC) ((hl x hm).up dC))<|zb.t (zb8 (beh (uh (l.take j)) x) ((zxz (n:=100) (lj.up dC) (hl x hm)).up dC)) ?_
  refine⟨λh=>bad λk=>h (by rw[←e];exact k.2 j oM),λh2=>?_⟩;have h2:(beh (uh (l.take j)) x).ok:=Xa.1 h2;refine Ar.o<|⟨j+1,⟨oM,yp hx j0 (Xa.1 h),λk hk=>?_⟩,zu [0,1] ⟨Xg (λq=>some (Mem.box 38 (afE q))) e.symm,rfl,trivial⟩,by dsimp only;omega⟩
  by_cases c:k=j
  ·rw[c,e];exact h2
  exact j2 k oM
 have g:¬(j:Int)<l.length:=g;have et:l.take j=l:=Xi oM;rw[et]at j0;have ef:vy l=(uh (l.take j),0):=by rw[et];exact Xe ⟨j0,λk hk=>j2 k oM⟩
 rw[ef];exact zM .refl .refl
structure Nd where
 id:Int
 k:Int
 d:Int
 t:AF
 clip:List Sg
 cr:Int
 op:Int
 mode:Int
 iso:Bool
 ko:Bool
 path:List Sg
 rule:Int
 fill:List Pnt
 pen:Pen
 strk:List Pnt
 im:Img
 smp:Int
def ndE(n:Nd):List SV:=
 i64 n.id::i64 n.k::i64 n.d::(afE n.t++(.sl sgE n.clip::i64 n.cr::u8 n.op::i64 n.mode::pr (n.iso=true)::pr (n.ko=true)::.sl sgE n.path::i64 n.rule::.sl yD n.fill::
  (jb n.pen++(.sl yD n.strk::(zk2 n.im++[i64 n.smp])))))
structure Sc where
 w:Int
 h:Int
 bg:Pix
 ns:List Nd
def scE(s:Sc):List SV:=[i64 s.w,i64 s.h,u8 s.bg.r,u8 s.bg.g,u8 s.bg.b,u8 s.bg.a,.sl ndE s.ns]
def zck(n:Nd):Prop:=n.op=0/\n.mode=0/\n.iso=false/\n.ko=false
instance (n:Nd):Decidable (zck n):=inferInstanceAs (Decidable (_/\_))
def uj(p:Pen):Prop:=p.w=0/\p.j=0/\p.c=0/\p.m=0/\p.d=[]/\p.ph=0
instance (p:Pen):Decidable (uj p):=inferInstanceAs (Decidable (_/\_))
def zc8(n:Nd):Prop:=n.path.length=0/\n.rule=0/\n.fill.length=0/\n.strk.length=0
instance (n:Nd):Decidable (zc8 n):=inferInstanceAs (Decidable (_/\_))
def zcl(n:Nd):Prop:=n.im.w=0/\n.im.h=0/\n.im.px.length=0/\n.smp=0
instance (n:Nd):Decidable (zcl n):=inferInstanceAs (Decidable (_/\_))
def zcU(r:Int):Prop:=r=1∨r=2
instance (r:Int):Decidable (zcU r):=inferInstanceAs (Decidable (_∨_))
def u5(n:Nd):Prop:=(n.clip.length=0/\n.cr=0)∨(0<n.clip.length/\zcU n.cr)
instance (n:Nd):Decidable (u5 n):=inferInstanceAs (Decidable (_∨_))
def zg2(n:Nd):Prop:=u5 n/\(if n.k=1 then(zc8 n/\uj n.pen)/\zcl n else if n.k=2 then zck n/\zcl n else zck n/\zc8 n/\uj n.pen)
instance (n:Nd):Decidable (zg2 n):=by unfold zg2;infer_instance
def vB(n:Nd):Int:=
 if¬qN n.path then 10 else if¬zcU n.rule then 2 else if 1<n.fill.length∨1<n.strk.length then 5 else if 0<n.strk.length/\¬kC n.pen then 13
 else if n.strk.length=0/\¬uj n.pen then 17 else if (¬∀p∈n.fill,vA p)∨¬∀p∈n.strk,vA p then 16 else 0
def y6(n:Nd):Int:=
 if n.k<1∨3<n.k then 2 else if n.id<1∨1073741824<n.id∨n.d<0∨8<=n.d then 6 else if¬n.t.ok then 5 else if zbr n.t=0 then 9 else if¬qN n.clip then 10
 else if¬zg2 n then 17 else if n.k=1 then(if¬(1<=n.mode/\n.mode<=13) then 2 else 0) else if n.k=2 then vB n
 else if¬zff n.im then 16 else if n.smp≠1/\n.smp≠2 then 2 else 0
def jC(l:List Nd)(i:Nat)(n:Nd):Prop:=match l[i-1]? with
 |some p=>if i=0 then n.d=0 else(p.k=1/\n.d=p.d+1)∨n.d<=p.d
 |none=>n.d=0
instance (l:List Nd) (i:Nat) (n:Nd):Decidable (jC l i n):=by unfold jC;split <;> infer_instance
def zg3(l:List Nd)(i:Nat)(n:Nd):Int:=
 if y6 n≠0 then y6 n else if n.id∈(l.take i).map Nd.id then 7 else if¬jC l i n then 17 else 0
def yw(ds:List Int)(d:Int):Nat->Int
 |0=> -1
 |k+1=>if ds[k]?=some d then k else yw ds d k
def yh(ds:List Int)(i:Nat):Int:=yw ds (ds.getD i 0-1) i
def zcm(ds:List Int)(d:Int):∀k,-1<=yw ds d k/\yw ds d k<k/\(0<=yw ds d k->ds[(yw ds d k).toNat]?=some d)
 |0=>⟨Qo _,show(-1:Int)<0 by decide,λh=>absurd (show(0:Int)<= -1 from h) dC⟩
 |k+1=>by
  have ih:=zcm ds d k;unfold yw
  split
  ·rename_i h;exact⟨oM,oM,λ_=>by simpa using h⟩
  exact⟨ih.1,oM,ih.2.2⟩
def zm3{ds:List Int}{d:Int}:∀{k j:Nat},j<k->ds[j]?=some d->0<=yw ds d k
 |k+1,j,hj,h=>by
  unfold yw
  split
  ·omega
  rename_i hn
  by_cases e:j=k
  ·subst e;exact absurd h hn
  exact zm3 oM h
def zd6(ds:List Int):Prop:=(∀d,ds[0]?=some d->d=0)/\(∀d∈ds,0<=d)/\∀i a b,ds[i]?=some a->ds[i+1]?=some b->b<=a+1
def zm4{ds:List Int}(h:zd6 ds){e:Int}(he:0<=e):∀{i:Nat} {d:Int},ds[i]?=some d->e<d->∃j,j<i/\ds[j]?=some e
 |0,d,hd,hl=>by have:=h.1 d hd;omega
 |i+1,d,hd,hl=>by
  obtain⟨a,ha⟩:∃a,ds[i]?=some a:=⟨_,Xb (by have:=(Xd.1 hd).1;omega)⟩;have hs:=h.2.2 i a d ha hd
  by_cases c:a=e
  ·exact⟨i,oM,by rw[ha,c]⟩
  obtain⟨j,h1,h2⟩:=zm4 h he ha oM;exact⟨j,oM,h2⟩
variable{ds:List Int}
def zg4(h:zd6 ds){d:Int}(hd:ds[i]?=some d):(d=0->yh ds i= -1)/\(0<d->∃j:Nat,yh ds i=j/\j<i/\ds[j]?=some (d-1)):=by
 have hg:ds.getD i 0=d:=by rw[Xt,hd];rfl
 unfold yh;rw[hg];obtain⟨h1,h2,h3⟩:=zcm ds (d-1) i;refine⟨λe=>?_,λhp=>?_⟩
 ·subst e;refine Yb (Jr.1 λk=>?_) h1;have:=h.2.1 _ (Xf (h3 oM));omega
 obtain⟨j,hj,hjd⟩:=zm4 h (show 0<=d-1 by omega) hd oM;have:=zm3 hj hjd;exact⟨(yw ds (d-1) i).toNat,oM,oM,h3 this⟩
def zfS(ds:List Int):Nat->Int->List Nat
 |0,_=>[]
 |n+1,i=>if i<0 then[] else i.toNat::zfS ds n (yh ds i.toNat)
def zzf(n:Int):CG0 230 [i64 n] [] (pr (zcU n)) []:=by
 refine zc Tryz.func230 ?_;refine⟨λh=>?_,λh=>?_⟩
 ·exact zI (.inl h)
 exact zE ⟨.inr,λk=>k.resolve_left h⟩
def zzg(xs ys:List Int):CG0 371 [.sl zV xs,.sl zV ys] [] (pr (xs=ys)) []:=by
 refine zc Tryz.func371 ?_;intro hl1 hl2;refine⟨λh1=>zd λe=>h1 (by rw[e]),λh1=>?_⟩;have h1:=Xa.1 h1;intro hl3;refine⟨Int,λi=>⟨[(13,i64 i),(12,i64 xs.length),(0,.sl zV xs),(1,.sl zV ys)],[],0,26,0⟩,λi=>0<=i/\i<=xs.length/\∀j:Nat,(j:Int)<i->xs[j]?=ys[j]?,λi=>((xs.length:Int)-i).toNat,0,?_,?_,?_⟩
 ·exact⟨oM,oM,λj hj=>by omega⟩
 ·exact zC []
 rintro i ⟨h4,h5,h6⟩
 refine⟨λh7=>?_,λh7=>?_⟩
 ·refine Dr.k<|Ob.o ?_;intro x hx;refine Ob.o ?_;intro y hy;refine⟨λh8=>?_,λh8=>?_⟩
  ·refine zd λe=>h8 ?_
   subst e;rw[hx]at hy;exact Xm hy
  refine Ar.o<|⟨i+1,⟨oM,oM,λj hj=>?_⟩,zC [],by dsimp only;omega⟩
  by_cases e:j=i.toNat
  ·subst e;rw[hx,hy,Xa.1 h8]
  exact h6 j oM
 exact zI (Kq λj=>by
  by_cases hj:(j:Int)<i
  ·exact h6 j hj
  rw[XG oM,XG oM])
def zPen:Pen:=⟨0,0,0,0,[],0⟩
def zBu:LE (.agg [i64 0,i64 0,i64 0,i64 0,.val (.slice none 0 0),i64 0]) (.agg (jb zPen)):=ji (.C (.C (.C (.C (.cons zD (.C .nil))))))
def zImg:Img:=⟨0,0,[]⟩
def zBv:LE (.agg [i64 0,i64 0,.val (.slice none 0 0)]) (.agg (zk2 zImg)):=ji (.C (.C (.cons zD .nil)))
def zi9(a b:Pen):Prop:=a.w=b.w/\a.j=b.j/\a.c=b.c/\a.m=b.m/\a.ph=b.ph/\a.d=b.d
instance (a b:Pen):Decidable (zi9 a b):=inferInstanceAs (Decidable (_/\_))
def zv2{p:Pen}:zi9 p zPen↔uj p:=by
 unfold zi9 uj zPen;constructor
 ·rintro⟨h1,h2,h3,h4,h5,h6⟩;exact⟨h1,h2,h3,h4,h6,h5⟩
 rintro⟨h1,h2,h3,h4,h5,h6⟩;exact⟨h1,h2,h3,h4,h6,h5⟩
def zv3(a b:Pen):CG0 308 [.agg (jb a),.agg (jb b)] [] (pr (zi9 a b)) []:=by
 refine zc Tryz.func308 ?_;refine⟨λh1=>?_,λh1=>zd λk=>h1 k.1⟩;refine⟨λh2=>?_,λh2=>zd λk=>h2 k.2.1⟩;refine⟨λh3=>?_,λh3=>zd λk=>h3 k.2.2.1⟩;refine⟨λh4=>?_,λh4=>zd λk=>h4 k.2.2.2.1⟩;refine⟨λh5=>?_,λh5=>zd λk=>h5 k.2.2.2.2.1⟩;exact zb.t (zzg a.d b.d)<|zE ⟨λh=>⟨h1,h2,h3,h4,h5,h⟩,λk=>k.2.2.2.2.2⟩
def zug(a:Pen):CG0 308 [.agg (jb a),.agg [i64 0,i64 0,i64 0,i64 0,.val (.slice none 0 0),i64 0]] [] (pr (uj a)) []:=
 ((zv3 a zPen).args (.C (.cons zBu .nil))).le (zE zv2)
def zEh(t:AF)(ht:t.le 10000000):CG0 233 [.agg (afE t)] [] (pr (zbr t=0)) []:=by
 refine zc Tryz.func233 ?_;refine zb.t (zkg t ht) ?_;refine zb.t (yO 0 (by constructor <;> decide)) ?_;have hcmp:=zil (ofQ (zbr t)) (ofQ ((0:Int):Rat)) (by have:=zg1 ht;rw[zF];omega) (by decide +kernel);rw[kv,kv]at hcmp;refine zb.t hcmp ?_;exact zE (Yh.1 (uL _))
def uB(l:List Pnt):Prop:=∀p∈l,vA p
instance (l:List Pnt):Decidable (uB l):=inferInstanceAs (Decidable (∀p∈l,_))
def zfi(l:List Pnt):Prop:=∀p∈l,p.t.le 1000/\p.im.px.length<=9223372036854775807
def zsO(l:List Pnt):Int:=match l.findIdx? (λp=>¬vA p) with|some i=>i|none=> -1
def zBw{l:List Pnt}{i:Nat}{x:Pnt}(h:∀(j:Nat) q,j<i->l[j]?=some q->vA q)(hx:l[i]?=some x)(hb:¬vA x):zsO l=i:=by
 have:l.findIdx? (λp=>¬vA p)=some i:=by
  rw[KH];have hi:=(Xd.1 hx);refine⟨hi.1,by rw[hi.2];simpa using hb,λj hj=>?_⟩;have:=h j _ hj (Xb (by have:=hi.1;omega))
  simpa using this
 unfold zsO;rw[this]
def zm5{l:List Pnt}(h:∀p∈l,vA p):zsO l= -1:=by
 have:l.findIdx? (λp=>¬vA p)=none:=by
  rw[Ku];intro p hp;simpa using h p hp
 unfold zsO;rw[this]
def zq9{l:List Pnt}:0<=zsO l↔¬uB l:=by
 by_cases h:uB l
 ·rw[zm5 h];exact⟨λk=>by omega,λk=>absurd h k⟩
 refine⟨λ_=>h,λ_=>?_⟩;unfold zsO
 cases hf:l.findIdx? (λp=>¬vA p) with
 |some i=>exact Int.natCast_nonneg i
 |none=>rw[Ku]at hf;exact absurd (λp hp=>by simpa using hf p hp) h
def zEi(p:Pnt)(hp:p.t.le 1000)(hl:p.im.px.length<=9223372036854775807):CG0 374 [.agg (yD p)] [] (pr (¬vA p)) []:=by
 refine zc Tryz.func374 ?_;exact zb.t (zsN p hp hl)<|zE K7
def zBx(xs:List Pnt)(ht:zfi xs):CG0 431 [.sl yD xs,.fn 374 []] [] (i64 (zsO xs)) []:=by
 refine zc Tryz.func431 ?_;intro hl0;refine⟨Int,λi=>⟨[(8,i64 i),(7,i64 xs.length),(0,.sl yD xs),(1,.fn 374 [])],[],0,19,0⟩,λi=>0<=i/\i<=xs.length/\∀(j:Nat) q,(j:Int)<i->xs[j]?=some q->vA q,λi=>((xs.length:Int)-i).toNat,0,?_,?_,?_⟩
 ·exact⟨oM,oM,λj q hj=>by omega⟩
 ·exact zC []
 rintro i ⟨h1,h2,h3⟩
 refine⟨λh4=>?_,λh4=>?_⟩
 ·refine Ob.o ?_;intro x hx;have hm:=ht x (Xf hx);refine zb.t (zEi x hm.1 hm.2)<|⟨λh5=>?_,λh5=>?_⟩
  ·refine ze ?_;rw[zBw (i:=i.toNat) (λj q hj=>h3 j q oM) hx h5];omega
  refine Ar.o<|⟨i+1,⟨oM,oM,λj q hj hq=>?_⟩,zC [],by dsimp only;omega⟩
  by_cases e:j=i.toNat
  ·subst e;rw[hx]at hq;cases hq;exact Xa.1 h5
  exact h3 j q oM hq
 refine ze (zm5 λp hp=>?_).symm;obtain⟨j,hj,he⟩:=Kl hp;exact h3 j p oM (by rw[←he];exact Xb hj)
def zsP(xs:List Pnt)(ht:zfi xs):CG0 373 [.sl yD xs,.fn 374 []] [] (pr (¬uB xs)) []:=by
 refine zc Tryz.func373 ?_;exact zb.t (zBx xs ht)<|zE zq9
def zCI(xs:List Pnt)(ht:zfi xs):CG0 310 [.sl yD xs] [] (pr (uB xs)) []:=by
 refine zc Tryz.func310 ?_;exact zb.t (zsP xs ht)<|zE Xa
def vC(n:Nd):Prop:=if n.k=1 then(zc8 n/\uj n.pen)/\zcl n else if n.k=2 then zck n/\zcl n else zck n/\zc8 n/\uj n.pen
instance (n:Nd):Decidable (vC n):=by unfold vC;infer_instance
def zoL{n:Nd}:zcl n↔n.im=zImg/\n.smp=0:=by
 unfold zcl zImg
 obtain⟨id,k,d,t,clip,cr,op,mode,iso,ko,path,rule,fill,pen,strk,⟨w,h,px⟩,smp⟩:=n
 simp only[Img.mk.injEq,XM];constructor
 ·rintro⟨h1,h2,h3,h4⟩;exact⟨⟨h1,h2,h3⟩,h4⟩
 rintro⟨⟨h1,h2,h3⟩,h4⟩;exact⟨h1,h2,h3,h4⟩
def zEj(n:Nd):CG0 234 [.agg (ndE n)] [] (pr (vC n)) []:=by
 refine zcF tok Tryz.func234 rfl rfl rfl (zdb.cut tok mix 2 (λ_:Unit=>⟨[(3,pr (zck n)),(1,.loc 0 0)],[(0,.box 48 (ndE n))],1,78,0⟩) (λ_=>True) ?_ λ_ _=>
  zdb.cut tok mix 1 (λ_:Unit=>⟨[(4,pr (zc8 n/\uj n.pen)),(3,pr (zck n)),(1,.loc 0 0)],[(0,.box 48 (ndE n))],1,78,0⟩) (λ_=>True) ?_ λ_ _=>
  zdb.cut tok mix 1 (λ_:Unit=>⟨[(5,pr (zcl n)),(4,pr (zc8 n/\uj n.pen)),(3,pr (zck n)),(1,.loc 0 0)],[(0,.box 48 (ndE n))],1,78,0⟩) (λ_=>True) ?_ λ_ _=>zdb.vc tok mix ?_)
 ·refine⟨λh1=>?_,λh1=>⟨(),trivial,(jP (t:=3) rfl (zd λk=>h1 k.1)).trans (qI [(0,some 0)] rfl rfl rfl ⟨rfl,rfl,trivial⟩ ⟨rfl,trivial⟩)⟩⟩;refine⟨λh2=>?_,λh2=>⟨(),trivial,(jP (t:=3) rfl (zd λk=>h2 k.2.1)).trans (qI [(0,some 0)] rfl rfl rfl ⟨rfl,rfl,trivial⟩ ⟨rfl,trivial⟩)⟩⟩;refine⟨λh3=>?_,λh3=>⟨(),trivial,(jP (t:=3) rfl (zd λk=>h3 (by rw[k.2.2.1];decide))).trans (qI [(0,some 0)] rfl rfl rfl ⟨rfl,rfl,trivial⟩ ⟨rfl,trivial⟩)⟩⟩
  exact⟨(),trivial,(jP (t:=3) rfl (zE ⟨λh=>⟨h1,h2,by simpa using h3,by simpa using h⟩,λk=>by rw[k.2.2.2];decide⟩)).trans (qI [(0,some 0)] rfl rfl rfl ⟨rfl,rfl,trivial⟩ ⟨rfl,trivial⟩)⟩
 ·intro hl1;refine⟨λh1=>?_,λh1=>⟨(),trivial,(jP (t:=4) rfl (zd λk=>h1 (by have:=k.1.1;omega))).trans (qI [(0,some 0)] rfl rfl rfl ⟨rfl,rfl,rfl,trivial⟩ ⟨rfl,trivial⟩)⟩⟩;refine⟨λh2=>?_,λh2=>⟨(),trivial,(jP (t:=4) rfl (zd λk=>h2 k.1.2.1)).trans (qI [(0,some 0)] rfl rfl rfl ⟨rfl,rfl,rfl,trivial⟩ ⟨rfl,trivial⟩)⟩⟩;intro hl2;refine⟨λh3=>?_,λh3=>⟨(),trivial,(jP (t:=4) rfl (zd λk=>h3 (by have:=k.1.2.2.1;omega))).trans (qI [(0,some 0)] rfl rfl rfl ⟨rfl,rfl,rfl,trivial⟩ ⟨rfl,trivial⟩)⟩⟩
  intro hl3;refine⟨λh4=>?_,λh4=>⟨(),trivial,(jP (t:=4) rfl (zd λk=>h4 (by have:=k.1.2.2.2;omega))).trans (qI [(0,some 0)] rfl rfl rfl ⟨rfl,rfl,rfl,trivial⟩ ⟨rfl,trivial⟩)⟩⟩;exact zb.t (zug n.pen)<|⟨(),trivial,(jP (t:=4) rfl (zE ⟨λh=>⟨⟨oM,h2,oM,oM⟩,h⟩,λk=>k.2⟩)).trans (qI [(0,some 0)] rfl rfl rfl ⟨rfl,rfl,rfl,trivial⟩ ⟨rfl,trivial⟩)⟩
 ·refine zb.t ((zm1 n.im zImg).args (.C (.cons zBv .nil)))<|⟨λh1=>?_,λh1=>⟨(),trivial,(jP (t:=5) rfl (zd λk=>h1 (zoL.1 k).1)).trans (qI [(0,some 0)] rfl rfl rfl ⟨rfl,rfl,rfl,rfl,trivial⟩ ⟨rfl,trivial⟩)⟩⟩;exact⟨(),trivial,(jP (t:=5) rfl (zE ⟨λh=>zoL.2 ⟨h1,h⟩,λk=>(zoL.1 k).2⟩)).trans (qI [(0,some 0)] rfl rfl rfl ⟨rfl,rfl,rfl,rfl,trivial⟩ ⟨rfl,trivial⟩)⟩
 refine⟨λk1=>?_,λk1=>?_⟩
 ·have e:vC n↔(zc8 n/\uj n.pen)/\zcl n:=by unfold vC;rw[Xe k1]
  exact⟨λa=>zE ⟨λh=>e.2 ⟨a,h⟩,λk=>(e.1 k).2⟩,λa=>zd λk=>a (e.1 k).1⟩
 refine⟨λk2=>?_,λk2=>?_⟩
 ·have e:vC n↔zck n/\zcl n:=by unfold vC;rw[Xc k1,Xe k2]
  exact⟨λa=>zE ⟨λh=>e.2 ⟨a,h⟩,λk=>(e.1 k).2⟩,λa=>zd λk=>a (e.1 k).1⟩
 have e:vC n↔zck n/\zc8 n/\uj n.pen:=by unfold vC;rw[Xc k1,Xc k2]
 exact⟨λa=>zE ⟨λh=>e.2 ⟨a,h⟩,λk=>(e.1 k).2⟩,λa=>zd λk=>a (e.1 k).1⟩
def zra(n:Nd):Prop:=n.k<1∨3<n.k
instance (n:Nd):Decidable (zra n):=inferInstanceAs (Decidable (_∨_))
def zlM(n:Nd):Prop:=n.id<1∨1073741824<n.id∨n.d<0∨8<=n.d
instance (n:Nd):Decidable (zlM n):=inferInstanceAs (Decidable (_∨_))
def zcV(n:Nd):Er:=zbc [kZ (zra n) 2,kZ (zlM n) 6,kZ (¬n.t.ok) 5,kZ (zbr n.t=0) 9,kZ (¬qN n.clip) 10,kZ (¬u5 n∨¬vC n) 17]
def zzh(n:Nd)(ht:n.t.le 1000):CG0 160 [.agg (ndE n)] [] (.op (erV (zcV n))) []:=by
 refine zcF tok Tryz.func160 rfl rfl rfl (zdb.cut tok mix 2 (λ_:Unit=>⟨[(3,pr (u5 n)),(1,.loc 0 0)],[(0,.box 48 (ndE n))],1,76,0⟩) (λ_=>True) ?_ λ_ _=>zdb.vc tok mix ?_)
 ·intro hl1;refine⟨λh1=>?_,λh1=>?_⟩
  ·refine⟨λh2=>⟨(),trivial,(jP (t:=3) rfl (zI (.inl ⟨oM,h2⟩))).trans (qI [(0,some 0)] rfl rfl rfl ⟨rfl,rfl,trivial⟩ ⟨rfl,trivial⟩)⟩,λh2=>?_⟩;intro hl2;refine⟨λh3=>?_,λh3=>⟨(),trivial,(jP (t:=3) rfl (zd λk=>k.elim (λk=>h2 k.2) λk=>by have:=k.1;omega)).trans (qI [(0,some 0)] rfl rfl rfl ⟨rfl,rfl,trivial⟩ ⟨rfl,trivial⟩)⟩⟩;omega
  intro hl2;refine⟨λh3=>?_,λh3=>?_⟩
  ·exact zb.t (zzf n.cr)<|⟨(),trivial,(jP (t:=3) rfl (zE ⟨λh=>.inr ⟨oM,h⟩,λk=>k.elim (λk=>by have:=k.1;omega) λk=>k.2⟩)).trans (qI [(0,some 0)] rfl rfl rfl ⟨rfl,rfl,trivial⟩ ⟨rfl,trivial⟩)⟩
  omega
 refine Dr.d<|Br.mk (λa1=>?_) (λa1=>?_)
 all_goals refine zb.t ((yz (zra n) 2).args (.cons (by first|exact zI (.inl a1)|exact zE ⟨.inr,λk=>k.resolve_left a1⟩) LEs.refl)) ?_
 all_goals (refine⟨λb1=>?_,λb1=>?_⟩;rotate_left;refine⟨λb2=>?_,λb2=>?_⟩;rotate_left;refine⟨λb3=>?_,λb3=>?_⟩)
 all_goals refine zb.t ((yz (zlM n) 6).args (.cons (by first|exact zI (by unfold zlM;omega)|exact zE (by unfold zlM;constructor <;> intro <;> omega)) LEs.refl)) ?_
 all_goals refine zb.t (zgq n.t (ht.up dC)) ?_
 all_goals refine zb.t (yz (¬n.t.ok) 5) ?_
 all_goals refine zb.t (zEh n.t (ht.up dC)) ?_
 all_goals refine zb.t (yz (zbr n.t=0) 9) ?_
 all_goals refine zb.t (ziY n.clip) ?_
 all_goals refine zb.t (yz (¬qN n.clip) 10) ?_
 all_goals refine⟨λc1=>?_,λc1=>?_⟩
 all_goals first
  |refine zb.t ((yz (¬u5 n∨¬vC n) 17).args (.cons (zI (.inl c1)) LEs.refl)) ?_
  |(refine zb.t (zEj n) ?_;refine zb.t ((yz (¬u5 n∨¬vC n) 17).args (.cons (zE ⟨.inr,λk=>k.resolve_left c1⟩) LEs.refl)) ?_)
 all_goals refine⟨Er,zxa,[kZ (zra n) 2,kZ (zlM n) 6,kZ (¬n.t.ok) 5,kZ (zbr n.t=0) 9,kZ (¬qN n.clip) 10,kZ (¬u5 n∨¬vC n) 17],rfl,Ob.o16 ?_⟩
 all_goals refine zb.see 1 _ (znT [kZ (zra n) 2,kZ (zlM n) 6,kZ (¬n.t.ok) 5,kZ (zbr n.t=0) 9,kZ (¬qN n.clip) 10,kZ (¬u5 n∨¬vC n) 17]) rfl rfl rfl ?_
 all_goals refine Ob.mk (by kernel_rfl) ?_
 all_goals exact .refl
def zoM(n:Nd):Er:=zbc [kZ (¬qN n.path) 10,kZ (¬zcU n.rule) 2,kZ (1<n.fill.length∨1<n.strk.length) 5,kZ (0<n.strk.length/\¬kC n.pen) 13,kZ (n.strk.length=0/\¬uj n.pen) 17,kZ (¬uB n.fill∨¬uB n.strk) 16]
def zBy(n:Nd)(h1:zfi n.fill)(h2:zfi n.strk):CG0 236 [.agg (ndE n)] [] (.op (erV (zoM n))) []:=by
 refine zc Tryz.func236 ?_;intro hl1;refine Dr.d<|zb.t (ziY n.path)<|zb.t (yz (¬qN n.path) 10)<|zb.t (zzf n.rule)<|zb.t (yz (¬zcU n.rule) 2) ?_;intro hl2;refine⟨λa1=>?_,λa1=>?_⟩;rotate_left;intro hl3
 all_goals refine zb.t ((yz (1<n.fill.length∨1<n.strk.length) 5).args (.cons (by first|exact zI (.inl oM)|exact zE (by constructor <;> intro <;> omega)) LEs.refl)) ?_
 all_goals refine⟨λb1=>?_,λb1=>?_⟩
 all_goals first
  |(refine zb.t (zey n.pen) ?_;refine zb.t ((yz (0<n.strk.length/\¬kC n.pen) 13).args (.cons (zE ⟨λh=>⟨oM,h⟩,λk=>k.2⟩) LEs.refl)) ?_)
  |refine zb.t ((yz (0<n.strk.length/\¬kC n.pen) 13).args (.cons (zd oM) LEs.refl)) ?_
 all_goals refine⟨λc1=>?_,λc1=>?_⟩
 all_goals first
  |(refine zb.t (zug n.pen) ?_;refine zb.t ((yz (n.strk.length=0/\¬uj n.pen) 17).args (.cons (zE ⟨λh=>⟨oM,h⟩,λk=>k.2⟩) LEs.refl)) ?_)
  |refine zb.t ((yz (n.strk.length=0/\¬uj n.pen) 17).args (.cons (zd oM) LEs.refl)) ?_
 all_goals refine zb.t (zCI n.fill h1) ?_
 all_goals refine⟨λd1=>?_,λd1=>?_⟩
 all_goals first
  |refine zb.t ((yz (¬uB n.fill∨¬uB n.strk) 16).args (.cons (zI (.inl d1)) LEs.refl)) ?_
  |(refine zb.t (zCI n.strk h2) ?_;refine zb.t ((yz (¬uB n.fill∨¬uB n.strk) 16).args (.cons (zE ⟨.inr,λk=>k.resolve_left d1⟩) LEs.refl)) ?_)
 all_goals refine⟨Er,zxa,[kZ (¬qN n.path) 10,kZ (¬zcU n.rule) 2,kZ (1<n.fill.length∨1<n.strk.length) 5,kZ (0<n.strk.length/\¬kC n.pen) 13,kZ (n.strk.length=0/\¬uj n.pen) 17,kZ (¬uB n.fill∨¬uB n.strk) 16],rfl,Ob.o16 ?_⟩
 all_goals refine zb.see 1 _ (znT [kZ (¬qN n.path) 10,kZ (¬zcU n.rule) 2,kZ (1<n.fill.length∨1<n.strk.length) 5,kZ (0<n.strk.length/\¬kC n.pen) 13,kZ (n.strk.length=0/\¬uj n.pen) 17,kZ (¬uB n.fill∨¬uB n.strk) 16]) rfl rfl rfl ?_
 all_goals refine Ob.mk (by kernel_rfl) ?_
 all_goals exact .refl
def zlN(n:Nd):Er:=if n.k=1 then kZ (¬zk6 n.mode) 2 else if n.k=2 then zoM n else zbc [kZ (¬zff n.im) 16,kZ (n.smp≠1/\n.smp≠2) 2]
def zk7(n:Nd):Prop:=n.t.le 1000/\zfi n.fill/\zfi n.strk/\n.im.px.length<=9223372036854775807
def g_own(n:Nd)(h:zk7 n):CG0 161 [.agg (ndE n)] [] (.op (erV (zlN n))) []:=by
 obtain⟨_,h1,h2,h3⟩:=h;refine zc Tryz.func161 ?_;refine⟨λk1=>?_,λk1=>?_⟩
 ·refine zb.t (zEf n.mode)<|zb.t (yz (¬zk6 n.mode) 2) ?_;rw[zlN,Xe k1];exact .refl
 refine⟨λk2=>?_,λk2=>?_⟩
 ·refine zb.t (zBy n h1 h2) ?_;rw[zlN,Xc k1,Xe k2];exact .refl
 rw[zlN,Xc k1,Xc k2];refine Dr.d<|zb.t (zm0 n.im h3)<|zb.t (yz (¬zff n.im) 16)<|⟨λb1=>?_,λb1=>?_⟩
 all_goals refine zb.t ((yz (n.smp≠1/\n.smp≠2) 2).args (.cons (by first|exact zE ⟨λh=>⟨b1,h⟩,λk=>k.2⟩|exact zd λk=>b1 k.1) LEs.refl)) ?_
 all_goals refine⟨Er,zxa,[kZ (¬zff n.im) 16,kZ (n.smp≠1/\n.smp≠2) 2],rfl,Ob.o16 ?_⟩
 all_goals refine zb.see 1 _ (znT [kZ (¬zff n.im) 16,kZ (n.smp≠1/\n.smp≠2) 2]) rfl rfl rfl ?_
 all_goals refine Ob.mk (by kernel_rfl) ?_
 all_goals exact .refl
def zd7:Er->Int->Int
 |.nil,c=>c
 |.w c u,_=>zd7 u c
def zuh:Er->Nat
 |.nil=>0
 |.w _ u=>zuh u+1
def zsQ(n:Nd):Er:=match zcV n with
 |.nil=>zlN n
 |.w c u=>.w c u
def cellA:Option (Int×Er)->SV
 |none=>i64 0
 |some (a,_)=>i64 a
def zEk:Option (Int×Er)->SV
 |none=>.val .nilIface
 |some (_,b)=>.op (erV b)
def zzi(n:Nd)(h:zk7 n):CG0 106 [.agg (ndE n)] [] (i64 (zd7 (zsQ n) 0)) []:=by
 refine zcF tok Tryz.func106 rfl rfl rfl (zdb.cut tok mix 3 (λ_:Unit=>⟨[(3,.op (erV (zsQ n)))],[],1,20,0⟩) (λ_=>True) ?_ λ_ _=>zdb.vc tok mix ?_)
 ·have hc:=zzh n h.1;have ht:zsQ n=match zcV n with|.nil=>zlN n|.w c u=>.w c u:=rfl
  revert hc ht
  generalize zcV n=e
  cases e with
  |nil=>
   intro hc ht;refine zb.t hc<|Br.mk (λ_=>?_) (λk=>absurd rfl k);refine zb.t (g_own n h) ?_;rw[ht];exact⟨(),trivial,zf [0]⟩
  |w c u=>
   intro hc ht;refine zb.t hc<|Br.mk (λk=>by cases k) (λ_=>?_);rw[ht];exact⟨(),trivial,zf [0]⟩
 refine⟨Er×Int×Option (Int×Er),λx=>⟨[(4,i64 x.2.1),(3,.op (erV x.1)),(5,.loc 1 0)],[(1,.box 199 [cellA x.2.2,zEk x.2.2])],2,20,0⟩,λx=>zd7 x.1 x.2.1=zd7 (zsQ n) 0,λx=>zuh x.1,(zsQ n,0,none),rfl,?_,?_⟩
 ·exact zC [(1,some 1)]
 rintro⟨e,c,o⟩ hI
 cases e with
 |nil=>
  rcases o with _|⟨a,b⟩
  ·exact zb.give [1] 0 [.op (erV .nil),.ifc 201 (.loc 0 0)] [(0,.box 199 [i64 0,.val .nilIface])] [(0,.box 199 [i64 0,.val .nilIface])] (bl false) (zpG _ _) LEs.refl rfl rfl rfl ⟨⟨_,rfl,rfl,rfl⟩,trivial⟩ rfl ⟨⟨rfl,rfl⟩,trivial⟩<|ze hI
  exact zb.give [1] 0 [.op (erV .nil),.ifc 201 (.loc 0 0)] [(0,.box 199 [i64 a,.op (erV b)])] [(0,.box 199 [i64 a,.op (erV b)])] (bl false) (zpG _ _) LEs.refl rfl rfl rfl ⟨⟨_,rfl,rfl,rfl⟩,trivial⟩ rfl ⟨⟨rfl,rfl⟩,trivial⟩<|ze hI
 |w c' u=>
  rcases o with _|⟨a,b⟩
  ·exact zb.give [1] 0 [.op (erV (.w c' u)),.ifc 201 (.loc 0 0)] [(0,.box 199 [i64 0,.val .nilIface])] [(0,.box 199 [i64 c',.op (erV u)])] (bl true) (zpH c' u _ _) LEs.refl rfl rfl rfl ⟨⟨_,rfl,rfl,rfl⟩,trivial⟩ rfl ⟨⟨rfl,rfl⟩,trivial⟩<|Dr.k<|⟨(u,c',some (c',u)),hI,zC [(1,some 1)],by dsimp only[zuh];omega⟩
  exact zb.give [1] 0 [.op (erV (.w c' u)),.ifc 201 (.loc 0 0)] [(0,.box 199 [i64 a,.op (erV b)])] [(0,.box 199 [i64 c',.op (erV u)])] (bl true) (zpH c' u _ _) LEs.refl rfl rfl rfl ⟨⟨_,rfl,rfl,rfl⟩,trivial⟩ rfl ⟨⟨rfl,rfl⟩,trivial⟩<|Dr.k<|⟨(u,c',some (c',u)),hI,zC [(1,some 1)],by dsimp only[zuh];omega⟩
variable{p:Prop}{c:Int}
def zk8[Decidable p]{l:List Er}:zbc (kZ p c::l)=if p then .w 0 (.w c .nil) else zbc l:=by unfold kZ;split <;> rfl
def zv4[Decidable p]:zd7 (kZ p c) 0=if p then c else 0:=by unfold kZ;split <;> rfl
def zzj{n:Nd}:¬zg2 n↔¬u5 n∨¬vC n:=by
 show¬(u5 n/\vC n)↔_;exact Decidable.not_and_iff_or_not
def zk9[Decidable p]{l:List Er}:zd7 (zbc (kZ p c::l)) 0=if p then c else zd7 (zbc l) 0:=by rw[zk8];split <;> rfl
def zEl(n:Nd):zd7 (zsQ n) 0=y6 n:=by
 have hs:zd7 (zoM n) 0=vB n:=by
  unfold zoM vB;simp only[zk9];rfl
 have ho:zd7 (zlN n) 0=if n.k=1 then(if¬(1<=n.mode/\n.mode<=13) then 2 else 0) else if n.k=2 then vB n else if¬zff n.im then 16 else if n.smp≠1/\n.smp≠2 then 2 else 0:=by
  unfold zlN
  split
  ·exact zv4
  split
  ·exact hs
  simp only[zk9];rfl
 have ht:zsQ n=match zcV n with|.nil=>zlN n|.w c u=>.w c u:=rfl
 have hc:y6 n=if zra n then 2 else if zlM n then 6 else if¬n.t.ok then 5 else if zbr n.t=0 then 9 else if¬qN n.clip then 10 else if¬u5 n∨¬vC n then 17 else zd7 (zlN n) 0:=by
  rw[ho];unfold y6;simp only[zzj];rfl
 rw[hc,ht]
 have hm:zcV n=if zra n then .w 0 (.w 2 .nil) else if zlM n then .w 0 (.w 6 .nil) else if¬n.t.ok then .w 0 (.w 5 .nil) else if zbr n.t=0 then .w 0 (.w 9 .nil) else if¬qN n.clip then .w 0 (.w 10 .nil) else if¬u5 n∨¬vC n then .w 0 (.w 17 .nil) else .nil:=by
  unfold zcV;simp only[zk8];rfl
 rw[hm]
 by_cases h1:zra n
 ·simp only[Xe h1];rfl
 simp only[Xc h1]
 by_cases h2:zlM n
 ·simp only[Xe h2];rfl
 simp only[Xc h2]
 by_cases h3:¬n.t.ok
 ·simp only[Xe h3];rfl
 simp only[Xc h3]
 by_cases h4:zbr n.t=0
 ·simp only[Xe h4];rfl
 simp only[Xc h4]
 by_cases h5:¬qN n.clip
 ·simp only[Xe h5];rfl
 simp only[Xc h5]
 by_cases h6:¬u5 n∨¬vC n
 ·simp only[Xe h6];rfl
 simp only[Xc h6]
def zBz(n:Nd)(h:zk7 n):CG0 106 [.agg (ndE n)] [] (i64 (y6 n)) []:=zEl n ▸ zzi n h
def uk(t:AF)(x:List Pt)(j:Nat):List Pt:=y5 t (x.take j)++List.replicate (x.length-j) zp
variable{j:Nat}
def zla(t:AF)(x:List Pt)(h:j<=x.length):(uk t x j).length=x.length:=by
 unfold uk y5;rw[Xq,Xx,Xo,Ki];omega
def zlb{t:AF}{x:List Pt}{z:Pt}(h:x[j]?=some z):(uk t x j).set j (kr t z).1=uk t x (j+1):=by
 have hj:j<x.length:=(Xd.1 h).1;have hl:(y5 t (x.take j)).length=j:=by unfold y5;rw[Xx,Xo];omega
 unfold uk;rw[show x.length-j=(x.length-(j+1))+1 by omega,List.replicate_succ,Yn _ _ oM,hl,QY,List.set_cons_zero];have e:y5 t (x.take (j+1))=y5 t (x.take j)++[(kr t z).1]:=by unfold y5;rw[Xl,h,XB];rfl
 rw[e,XY];rfl
def tQ(rs:List (List Pt))(t:AF):Nat->St
 |0=>⟨[(3,.loc 0 0),(4,.loc 1 0),(5,.loc 2 0),(15,.sl zk rs),(16,i64 (rs.length:Int)),(17,i64 ((0:Nat):Int))],[(0,.box 38 (afE t)),(1,.box 67 [.val (.slice none 0 0)]),(2,.box 55 [i64 0])],3,48,3⟩
 |i+1=>⟨[(3,.loc 0 0),(4,.loc 1 0),(5,.loc 2 0),(15,.sl zk rs),(16,i64 (rs.length:Int)),(17,i64 ((i+1:Nat):Int))],[(0,.box 38 (afE t)),(1,.box 67 [.own 3]),(2,.box 55 [i64 0]),(3,.garr 127 1 (yK ((rs.take (i+1)).map (y5 t))))],4,48,3⟩
def zEm(rs:List (List Pt))(t:AF)(ht:t.le 100000)(hl:rs.length<=100000)(hs:∀r∈rs,(r.length:Int)<=9223372036854771711):CG0 132 [.sl zk rs,.agg (afE t)] [] (rgE (yo rs t)) []:=by
 refine zmZ 2 2 tok mix Tryz.func132 rfl rfl rfl Tryz.func197 rfl rfl<|⟨_,_,rfl,?_⟩;refine⟨_,_,rfl,?_⟩;refine zb.t (zgz rs hs)<|⟨λk=>?_,λk=>?_⟩
 ·have k:¬kL rs:=k;exact qJ (by unfold yo;rw[Xe k])
 have k:kL rs:=Xa.1 k;have es:yo rs t=if zdf t rs≠0 then([],zdf t rs) else(rs.map (y5 t),0):=by unfold yo;rw[kH k]
 have hc:qb rs<=4096:=by have:=k.1;omega
 refine⟨_,_,_,_,_,rfl,rfl,rfl,rfl,?_⟩;refine⟨_,rfl,rfl,rfl,?_⟩;intro hl1;refine⟨Nat,tQ rs t,λi=>i<=rs.length/\∀r∈rs.take i,zde t r=0,λi=>rs.length-i,0,⟨Xh _,λr hr=>by cases hr⟩,?_,?_⟩
 ·exact zf [0,1,2]
 rintro(_|i) ⟨h1,h2⟩
 ·refine⟨λg=>?_,λg=>?_⟩;rotate_left
  ·have g:¬(((0:Nat):Int))<rs.length:=g;have e0:rs=[]:=Xp oM;refine⟨_,.refl,rfl,?_⟩;refine⟨λh=>absurd rfl h,λ_=>?_⟩;exact qJ (by rw[es,e0];rfl)
  have g:((0:Nat):Int)<rs.length:=g;obtain⟨x,hx⟩:∃x,rs[0]?=some x:=⟨_,Xb oM⟩;have hxl:=XC (vw (Xf hx)) hc;refine Ob.o ?_;intro y hy;have ey:y=x:=Xm ((show rs[0]?=some y from hy).symm.trans hx);rw[ey];intro hl2;refine⟨Pt,ptE,zp,rfl,Ob.mk ⟨dC,oM,oM,(by show(x.length:Int)*16<=_;omega),oM⟩ ?_⟩;intro hl3
  refine⟨Nat,λj=>⟨[(3,.loc 0 0),(4,.loc 1 0),(5,.loc 2 0),(8,.own 3),(15,.sl zk rs),(16,i64 (rs.length:Int)),(17,i64 ((0:Nat):Int)),(24,.sl ptE x),(25,i64 (x.length:Int)),(26,i64 (j:Int))],[(0,.box 38 (afE t)),(1,.box 67 [.val (.slice none 0 0)]),(2,.box 55 [i64 0]),(3,.arr 28 ptE 2 (uk t x j))],4,48,3⟩,λj=>j<=x.length/\∀p∈x.take j,(kr t p).2=0,λj=>x.length-j,0,⟨Xh _,λp hp=>by cases hp⟩,?_,?_⟩
  ·exact zu [0,1,2,3] ⟨rfl,rfl,rfl,Xg (λq=>some (Mem.arr 28 ptE 2 q)) (by unfold uk;rfl),trivial⟩
  rintro j ⟨j1,j2⟩
  have zl:=zla t x j1;refine⟨λq=>?_,λq=>?_⟩
  ·have q:(j:Int)<x.length:=q;refine Ob.o ?_;intro z hz;have hz:x[j]?=some z:=hz;refine zb.t (zeE t z ht)<|Ob.o<|Ob.o ?_;intro old _;refine⟨(kr t z).1,rfl,?_⟩;refine⟨λe=>?_,λe=>?_⟩
   ·have e:¬(kr t z).2=0:=e;have eL:=zgW hz j2 e;have eR:=zgX hx h2 (by rw[eL];exact e);refine⟨_,.refl,rfl,?_⟩;refine⟨λ_=>?_,λh=>absurd e h⟩;exact qJ (by rw[es,eR,eL,Xe e])
   have e:(kr t z).2=0:=Xa.1 e;exact Ar.o<|⟨j+1,⟨oM,yp hz j2 e⟩,zu [0,1,2,3] ⟨rfl,rfl,Xg (λn=>some (Mem.box 55 [i64 n])) e,Xg (λq=>some (Mem.arr 28 ptE 2 q)) (zlb hz),trivial⟩,by dsimp only;omega⟩
  have q:¬(j:Int)<x.length:=q;have etx:x.take j=x:=Xi oM;have ez:uk t x j=y5 t x:=by unfold uk;rw[etx,show x.length-j=0 by omega];exact XE _
  rw[etx]at j2;refine⟨[[.own 3]],rfl,Ob.o9 ?_⟩;refine Ob.o27<|Ar.o<|⟨0+1,⟨oM,yp hx h2 (zgV j2)⟩,(zcD (sz0:=1) (T0:=127) 3 5 (enc:=ptE) (ys:=uk t x j) rfl rfl (xs':=yK ([]++[uk t x j])) (by rfl) (λz hz=>?_) zgY).trans (zu [0,1,2,5] ⟨rfl,rfl,rfl,⟨_,rfl,zaj ?_⟩,trivial⟩),by dsimp only;omega⟩
  ·unfold yK at hz;obtain⟨b,_,rfl⟩:=XP.1 hz;rfl
  rw[ez];rw[Xl,hx];rfl
 refine⟨λg=>?_,λg=>?_⟩;rotate_left
 ·have g:¬((i+1:Nat):Int)<rs.length:=g;have et:rs.take (i+1)=rs:=Xi oM;have h3:=h2;rw[et]at h3;have er:yo rs t=(rs.map (y5 t),0):=by rw[es,zoH h3];rfl
  refine⟨_,zgg 3 zk ((rs.take (i+1)).map (y5 t)) rfl (λ_ _=>rfl),rfl,?_⟩;refine⟨λh=>absurd rfl h,λ_=>?_⟩;rw[er];exact zM (z0 (show(rs.take (i+1)).map (y5 t)=rs.map (y5 t) by rw[et])) .refl
 have g:(((i+1):Nat):Int)<rs.length:=g;obtain⟨x,hx⟩:∃x,rs[(i+1)]?=some x:=⟨_,Xb oM⟩;have hxl:=XC (vw (Xf hx)) hc;refine Ob.o ?_;intro y hy;have ey:y=x:=Xm ((show rs[(i+1)]?=some y from hy).symm.trans hx);rw[ey];intro hl2;refine⟨Pt,ptE,zp,rfl,Ob.mk ⟨dC,oM,oM,(by show(x.length:Int)*16<=_;omega),oM⟩ ?_⟩;intro hl3
 refine⟨Nat,λj=>⟨[(3,.loc 0 0),(4,.loc 1 0),(5,.loc 2 0),(8,.own 4),(15,.sl zk rs),(16,i64 (rs.length:Int)),(17,i64 (((i+1):Nat):Int)),(24,.sl ptE x),(25,i64 (x.length:Int)),(26,i64 (j:Int))],[(0,.box 38 (afE t)),(1,.box 67 [.own 3]),(2,.box 55 [i64 0]),(3,.garr 127 1 (yK ((rs.take (i+1)).map (y5 t)))),(4,.arr 28 ptE 2 (uk t x j))],5,48,3⟩,λj=>j<=x.length/\∀p∈x.take j,(kr t p).2=0,λj=>x.length-j,0,⟨Xh _,λp hp=>by cases hp⟩,?_,?_⟩
 ·exact zu [0,1,2,3,4] ⟨rfl,rfl,rfl,⟨_,rfl,zaj rfl⟩,Xg (λq=>some (Mem.arr 28 ptE 2 q)) (by unfold uk;rfl),trivial⟩
 rintro j ⟨j1,j2⟩
 have zl:=zla t x j1;refine⟨λq=>?_,λq=>?_⟩
 ·have q:(j:Int)<x.length:=q;refine Ob.o ?_;intro z hz;have hz:x[j]?=some z:=hz;refine zb.t (zeE t z ht)<|Ob.o<|Ob.o ?_;intro old _;refine⟨(kr t z).1,rfl,?_⟩;refine⟨λe=>?_,λe=>?_⟩
  ·have e:¬(kr t z).2=0:=e;have eL:=zgW hz j2 e;have eR:=zgX hx h2 (by rw[eL];exact e);refine⟨_,.refl,rfl,?_⟩;refine⟨λ_=>?_,λh=>absurd e h⟩;exact qJ (by rw[es,eR,eL,Xe e])
  have e:(kr t z).2=0:=Xa.1 e;exact Ar.o<|⟨j+1,⟨oM,yp hz j2 e⟩,zu [0,1,2,3,4] ⟨rfl,rfl,Xg (λn=>some (Mem.box 55 [i64 n])) e,⟨_,rfl,zaj rfl⟩,Xg (λq=>some (Mem.arr 28 ptE 2 q)) (zlb hz),trivial⟩,by dsimp only;omega⟩
 have q:¬(j:Int)<x.length:=q;have etx:x.take j=x:=Xi oM;have ez:uk t x j=y5 t x:=by unfold uk;rw[etx,show x.length-j=0 by omega];exact XE _
 rw[etx]at j2;refine⟨[[.own 4]],rfl,Ob.o9 ?_⟩;refine Ob.mk ⟨by show _*(24:Int)<=_;rw[vg,Xx,Xo];simp only[Xn,Xr];omega,by rw[vg,Xx,Xo];simp only[Xn,Xr];omega,dC⟩<|Ar.o ?_
 refine⟨(i+1)+1,⟨oM,yp hx h2 (zgV j2)⟩,(zcD (sz0:=1) (T0:=127) 4 6 (enc:=ptE) (ys:=uk t x j) rfl rfl (xs':=yK ((rs.take (i+1)).map (y5 t)++[uk t x j])) (by rw[vg,Xq,Xq,vg];rfl) (λz hz=>?_) zgY).trans (zu [0,1,2,6] ⟨rfl,rfl,rfl,⟨_,rfl,zaj ?_⟩,trivial⟩),by dsimp only;omega⟩
 ·unfold yK at hz;obtain⟨b,_,rfl⟩:=XP.1 hz;rfl
 rw[ez];rw[Xl (l:=rs) (i:=i+1),hx,XB];rfl
variable{pen:Pen}
def zzk{p:Pl}:∀r∈ku p pen,0<r.length:=by
 intro r hr;unfold ku at hr
 rcases Xs.1 hr with hr|hr
 ·rcases Xs.1 hr with hr|hr
  ·rw[vS]at hr
   rcases Xs.1 hr with hr|hr
   ·unfold zdW at hr;obtain⟨i,_,hr⟩:=QG.1 hr;exact zcg hr
   split at hr
   ·exact zcg hr
   cases hr
  rw[zch]at hr
  split at hr
  ·cases hr
  unfold yd at hr;obtain⟨i,_,hr⟩:=QG.1 hr;unfold zfe at hr
  split at hr
  ·cases hr
  exact zox r hr
 unfold zdP at hr
 split at hr
 ·exact zcg hr
 split at hr
 ·rcases Xs.1 hr with hr|hr <;> exact zcg hr
 cases hr
def zsR{p:Pl}:∀r∈(kz p pen).1,0<r.length:=by
 unfold kz
 split
 ·intro r hr;cases hr
 split
 ·intro r hr;cases hr
 split
 ·intro r hr;cases hr
 split
 ·intro r hr;cases hr
 split
 ·intro r hr;cases hr
 exact zzk
def ziz{pen:Pen}:∀{l:List Pl},∀r∈(qk l pen).1,0<r.length
 |[],r,hr=>by cases hr
 |p::s,r,hr=>by
  unfold qk at hr
  split at hr
  ·cases hr
  split at hr
  ·cases hr
  rcases Xs.1 hr with hr|hr
  ·exact zsR r hr
  exact ziz r hr
def zzl:∀{rs:List (List Pt)},(∀r∈rs,0<r.length)->rs.length<=qb rs
 |[],_=>Xh _
 |r::s,h=>by
  have h1:=h r (.head _);have h2:=zzl λq hq=>h q (.tail _ hq)
  rw[zgO,Xn];omega
def zd8(l:List Pl)(pen:Pen):(qo l pen).1.length<=4096/\∀r∈(qo l pen).1,(r.length:Int)<=9223372036854771711:=by
 unfold qo
 split
 ·exact⟨Xh _,λr hr=>by cases hr⟩
 split
 ·exact⟨Xh _,λr hr=>by cases hr⟩
 split
 ·exact⟨Xh _,λr hr=>by cases hr⟩
 rename_i h;have hg:=zzl (ziz (l:=l) (pen:=pen));exact⟨by dsimp only;omega,λr hr=>by have hr:r∈(qk l pen).1:=hr;have:=vw hr;omega⟩
def zd9{pen:Pen}:∀{l:List Pl},(∀p∈l,p.pts.length<=4096)->(jO l pen).1.length<=4096*l.length/\∀q∈(jO l pen).1,q.pts.length<=4096
 |[],_=>⟨Xk 0,λq hq=>by cases hq⟩
 |p::r,hl=>by
  obtain⟨i1,i2⟩:=zd9 (pen:=pen) (l:=r) λq hq=>hl q (.tail _ hq)
  obtain⟨f1,f2⟩:=zbE (pen:=pen) (hl p (.head _));unfold jO
  split
  ·exact⟨Xh _,λq hq=>by cases hq⟩
  split
  ·exact⟨Xh _,λq hq=>by cases hq⟩
  rw[Xq,Xn];refine⟨oM,λq hq=>?_⟩
  rcases Xs.1 hq with hq|hq
  ·exact f2 q hq
  exact i2 q hq
def zay(l:List Sg)(pen:Pen)(t:AF)(tol:Int):List (List Pt)×Int:=
 if¬kC pen then([],13) else if (zW l tol).2≠0 then([],(zW l tol).2) else if (jO (zW l tol).1 pen).2≠0 then([],(jO (zW l tol).1 pen).2)
 else if (qo (jO (zW l tol).1 pen).1 pen).2≠0 then([],(qo (jO (zW l tol).1 pen).1 pen).2) else yo (qo (jO (zW l tol).1 pen).1 pen).1 t
def zv5(l:List Sg)(pen:Pen)(t:AF)(tol:Int)(ht:t.le 100000):CG0 88 [.sl sgE l,.agg (jb pen),.agg (afE t),i64 tol] [] (rgE (zay l pen t tol)) []:=by
 refine zc Tryz.func88 ?_;have de:=zsI pen;refine zb.t (zBl pen)<|⟨λe=>?_,λe=>?_⟩
 ·have e:¬(jv ⟨[],false⟩ pen).2=0:=e;have k:¬kC pen:=λk=>e (by rw[de,Xe k])
  refine qJ ?_;rw[de,Xc k];unfold zay;rw[Xe k]
 have e:(jv ⟨[],false⟩ pen).2=0:=Xa.1 e
 have hk:kC pen:=by
  refine Xa.1 λk=>?_
  rw[de,Xc k]at e;exact absurd e dC
 have fs:=zbF l tol;have cf:=zd9 (pen:=pen) fs.2;refine zb.t (zyC l tol)<|⟨λe1=>?_,λe1=>?_⟩
 ·have e1:¬(zW l tol).2=0:=e1;exact qJ (by unfold zay;rw[kH hk,Xe e1])
 have e1:(zW l tol).2=0:=Xa.1 e1;refine zb.t (zEa (zW l tol).1 pen fs.1 fs.2)<|⟨λe2=>?_,λe2=>?_⟩
 ·have e2:¬(jO (zW l tol).1 pen).2=0:=e2;exact qJ (by unfold zay;rw[kH hk,qK e1,Xe e2])
 have e2:(jO (zW l tol).1 pen).2=0:=Xa.1 e2;refine zb.t (zvF (jO (zW l tol).1 pen).1 pen oM cf.2) ?_;have sm:=zd8 (jO (zW l tol).1 pen).1 pen;refine⟨λe3=>?_,λe3=>?_⟩
 ·have e3:¬(qo (jO (zW l tol).1 pen).1 pen).2=0:=e3;exact qJ (by unfold zay;rw[kH hk,qK e1,qK e2,Xe e3])
 have e3:(qo (jO (zW l tol).1 pen).1 pen).2=0:=Xa.1 e3;refine zb.t (zEm (qo (jO (zW l tol).1 pen).1 pen).1 t ht oM sm.2) ?_;have ee:zay l pen t tol=yo (qo (jO (zW l tol).1 pen).1 pen).1 t:=by unfold zay;rw[kH hk,qK e1,qK e2,qK e3]
 rw[ee];exact .refl
def zv6(l:List Sg)(pen:Pen)(t:AF)(tol:Int)(ht:t.le 100000):CG0 61 [.sl sgE l,.agg (jb pen),.agg (afE t),i64 tol] [] (rgE (zay l pen t tol)) []:=by
 refine zc Tryz.func61 ?_;refine zb.t (zcM pen)<|⟨λk=>?_,λk=>?_⟩
 ·have k:¬kC pen:=k;exact qJ (by unfold zay;rw[Xe k])
 have hk:kC pen:=Xa.1 k;have fs:=zbF l tol;have cf:=zd9 (pen:=pen) fs.2;refine zb.t (zyD l tol)<|⟨λe1=>?_,λe1=>?_⟩
 ·have e1:¬(zW l tol).2=0:=e1;exact qJ (by unfold zay;rw[kH hk,Xe e1])
 have e1:(zW l tol).2=0:=Xa.1 e1;refine⟨Nat,λi=>⟨[(5,.loc 0 0),(6,.loc 1 0),(10,.sl plE (zW l tol).1),(12,.own 2),(13,i64 (i:Int))],[(0,.box 43 (jb pen)),(1,.box 38 (afE t)),(2,.arr 143 plE 2 (zcT ((zW l tol).1.take i) pen))],3,65,0⟩,λi=>i<=(zW l tol).1.length/\∀q∈(zW l tol).1.take i,(jv q pen).2=0,λi=>(zW l tol).1.length-i,0,⟨Xh _,λq hq=>by cases hq⟩,?_,?_⟩
 ·exact zC [(0,some 0),(1,some 1),(2,none)]
 rintro i ⟨h1,h2⟩
 obtain⟨f1,_⟩:=zfO (pen:=pen) (l:=(zW l tol).1.take i) λq hq=>fs.2 q (XL hq)
 rw[Xo]at f1;intro hl1;refine⟨λg=>?_,λg=>?_⟩
 ·have g:(i:Int)<(zW l tol).1.length:=g;refine Dr.d<|Ob.o ?_;intro x hx;have hx:(zW l tol).1[i]?=some x:=hx;have hpx:=fs.2 x (Xf hx);refine zb.t (zD9 x pen hpx)<|Ob.mk (by kernel_rfl)<|⟨λz=>?_,λz=>?_⟩
  ·have z:¬(jv x pen).2=0:=z;have ce:=zhY hx h2 z;exact qJ (by unfold zay;rw[kH hk,qK e1,ce];exact Xe z)
  have z:(jv x pen).2=0:=Xa.1 z;obtain⟨s1,s2⟩:=zbE (pen:=pen) hpx;refine⟨(jv x pen).1,rfl,Ob.o26 ?_⟩;exact Ar.o<|⟨i+1,⟨oM,zgP hx h2 z⟩,zu [0,1,3] ⟨rfl,rfl,Xg (λq=>some (Mem.arr 143 plE 2 q)) (zmX hx).symm,trivial⟩,by dsimp only;omega⟩
 have g:¬(i:Int)<(zW l tol).1.length:=g;have et:(zW l tol).1.take i=(zW l tol).1:=Xi oM;rw[et]at h2;have co:=zkZ h2;have c1:(jO (zW l tol).1 pen).1=zcT ((zW l tol).1.take i) pen:=by rw[co,et]
 have c2:(jO (zW l tol).1 pen).2=0:=by rw[co]
 have ee:zay l pen t tol=if (qo (zcT ((zW l tol).1.take i) pen) pen).2≠0 then([],(qo (zcT ((zW l tol).1.take i) pen) pen).2) else yo (qo (zcT ((zW l tol).1.take i) pen) pen).1 t:=by
  unfold zay;rw[kH hk,qK e1,qK c2,c1]
 rw[c1]at cf;refine zb.see 2 _ (zvG (zcT ((zW l tol).1.take i) pen) pen oM cf.2) rfl rfl rfl ?_;have sm:=zd8 (zcT ((zW l tol).1.take i) pen) pen;refine⟨λe3=>?_,λe3=>?_⟩
 ·have e3:¬(qo (zcT ((zW l tol).1.take i) pen) pen).2=0:=e3;exact qJ (by rw[ee,Xe e3])
 have e3:(qo (zcT ((zW l tol).1.take i) pen) pen).2=0:=Xa.1 e3;rw[qK e3]at ee;refine zb.t (zEc (qo (zcT ((zW l tol).1.take i) pen) pen).1 t ht oM) ?_;rw[ee];exact .refl
def uC(l:List Nd)(i:Nat):Int:=match l[i]? with
 |some n=>zg3 l i n
 |none=>0
variable{l:List Nd}
def zcW{n:Nd}(h:l[i]?=some n):uC l i=zg3 l i n:=by unfold uC;rw[h]
def zoN(l:List Nd):Option Nat:=(List.range l.length).find? λi=>decide (uC l i≠0)
def zBA(hi:i<l.length)(h:∀j,j<i->uC l j=0)(hb:uC l i≠0):zoN l=some i:=by
 unfold zoN;rw[JZ];exact⟨by simpa using hb,Kd.2 hi,λj hj=>by simpa using h j hj⟩
def zv7(h:∀j,j<l.length->uC l j=0):zoN l=none:=by
 unfold zoN;rw[JY];exact λj hj=>by simpa using h j hj
def zv8(h:zoN l=some i):i<l.length/\uC l i≠0:=by
 unfold zoN at h;rw[JZ]at h;exact⟨Kd.1 h.2.1,by simpa using h.1⟩
def zfj(s:Sc):Prop:=s.w<1∨256<s.w∨s.h<1∨256<s.h
instance (s:Sc):Decidable (zfj s):=inferInstanceAs (Decidable (_∨_))
def ziL(s:Sc):Int×Int:=if zfj s then(6,0) else if 64<s.ns.length then(5,64) else match zoN s.ns with
 |some i=>(uC s.ns i,i)
 |none=>(0,0)
def jY(s:Sc):Prop:=(ziL s).1=0
instance (s:Sc):Decidable (jY s):=inferInstanceAs (Decidable (_=_))
def zlc{s:Sc}:jY s↔¬zfj s/\s.ns.length<=64/\∀j,j<s.ns.length->uC s.ns j=0:=by
 unfold jY ziL
 by_cases h1:zfj s
 ·rw[Xe h1];exact⟨λh=>absurd h dC,λh=>absurd h1 h.1⟩
 rw[Xc h1]
 by_cases h2:64<s.ns.length
 ·rw[Xe h2];exact⟨λh=>absurd h dC,λh=>absurd h.2.1 oM⟩
 rw[Xc h2]
 cases hb:zoN s.ns with
 |some i=>
  obtain⟨h3,h4⟩:=zv8 hb;exact⟨λh=>absurd h h4,λh=>absurd (h.2.2 i h3) h4⟩
 |none=>
  refine⟨λ_=>⟨h1,oM,λj hj=>?_⟩,λ_=>rfl⟩;unfold zoN at hb;rw[JY]at hb
  simpa using hb j hj
def zm6{n:Nd}(h:zg3 l i n=0):y6 n=0/\n.id∉(l.take i).map Nd.id/\jC l i n:=by
 unfold zg3 at h
 by_cases h1:y6 n≠0
 ·rw[Xe h1]at h;exact absurd h h1
 rw[Xc h1]at h
 by_cases h2:n.id∈(l.take i).map Nd.id
 ·rw[Xe h2]at h;exact absurd h dC
 rw[Xc h2]at h
 by_cases h3:jC l i n
 ·exact⟨Xa.1 h1,h2,h3⟩
 rw[Xe h3]at h;exact absurd h dC
def zea{n:Nd}(h:y6 n=0):(1<=n.k/\n.k<=3)/\(0<=n.d/\n.d<8)/\n.t.ok/\zbr n.t≠0/\qN n.clip/\zg2 n:=by
 unfold y6 at h
 by_cases h1:n.k<1∨3<n.k
 ·rw[Xe h1]at h;exact absurd h dC
 rw[Xc h1]at h
 by_cases h2:n.id<1∨1073741824<n.id∨n.d<0∨8<=n.d
 ·rw[Xe h2]at h;exact absurd h dC
 rw[Xc h2]at h
 by_cases h3:¬n.t.ok
 ·rw[Xe h3]at h;exact absurd h dC
 rw[Xc h3]at h
 by_cases h4:zbr n.t=0
 ·rw[Xe h4]at h;exact absurd h dC
 rw[Xc h4]at h
 by_cases h5:¬qN n.clip
 ·rw[Xe h5]at h;exact absurd h dC
 rw[Xc h5]at h
 by_cases h6:¬zg2 n
 ·rw[Xe h6]at h;exact absurd h dC
 exact⟨oM,oM,Xa.1 h3,h4,Xa.1 h5,Xa.1 h6⟩
def zcX{s:Sc}(h:jY s){n:Nd}(hn:s.ns[i]?=some n):y6 n=0/\n.id∉(s.ns.take i).map Nd.id/\jC s.ns i n:=by
 have:=(zlc.1 h).2.2 i (Xd.1 hn).1;rw[zcW hn]at this;exact zm6 this
def zH(l:List Nd):List Int:=l.map Nd.d
def yQ{n:Nd}(h:l[i]?=some n):(zH l)[i]?=some n.d:=by unfold zH;rw[XD,h];rfl
def vV{d:Int}(h:(zH l)[i]?=some d):∃n,l[i]?=some n/\n.d=d:=by
 unfold zH at h;rw[XD]at h
 cases hn:l[i]? with
 |none=>rw[hn]at h;cases h
 |some n=>rw[hn]at h;exact⟨n,rfl,Xm h⟩
def zak{s:Sc}(h:jY s):zd6 (zH s.ns):=by
 refine⟨λd hd=>?_,λd hd=>?_,λi a b ha hb=>?_⟩
 ·obtain⟨n,hn,rfl⟩:=vV hd;have:=(zcX h hn).2.2;unfold jC at this;rw[show s.ns[0-1]?=some n from hn]at this;exact this
 ·obtain⟨i,hi,he⟩:=Kl hd;obtain⟨n,hn,rfl⟩:=vV (he ▸ Xb hi);exact(zea (zcX h hn).1).2.1.1
 obtain⟨n,hn,rfl⟩:=vV ha;obtain⟨m,hm,rfl⟩:=vV hb;have:=(zcX h hm).2.2;unfold jC at this;rw[show s.ns[i+1-1]?=some n from hn]at this;have this:(n.k=1/\m.d=n.d+1)∨m.d<=n.d:=this;omega
def zeP(ds:List Int)(i:Nat): -1<=yh ds i/\yh ds i<i:=⟨(zcm ds _ i).1,(zcm ds _ i).2.1⟩
def ziA(ds:List Int):∀(n m:Nat) (i:Int),i<n->i<m->zfS ds n i=zfS ds m i
 |0,0,_,_,_=>rfl
 |0,m+1,i,h,_=>by show[]=if i<0 then[] else _;rw[Xe oM]
 |n+1,0,i,_,h=>by show(if i<0 then[] else _)=[];rw[Xe oM]
 |n+1,m+1,i,h1,h2=>by
  show(if i<0 then[] else i.toNat::zfS ds n (yh ds i.toNat))=if i<0 then[] else i.toNat::zfS ds m (yh ds i.toNat)
  by_cases c:i<0
  ·rw[Xe c,Xe c]
  have:=zeP ds i.toNat;rw[Xc c,Xc c,ziA ds n m _ oM oM]
def qG(ds:List Int)(i:Int):List Nat:=zfS ds (i+1).toNat i
def zaY{i:Int}(h:i<0):qG ds i=[]:=by
 unfold qG;rw[show(i+1).toNat=0 by omega];rfl
def jq(ds:List Int)(i:Nat):qG ds i=i::qG ds (yh ds i):=by
 have h:=zeP ds i;unfold qG;rw[show((i:Int)+1).toNat=i+1 by omega];show(if (i:Int)<0 then[] else(i:Int).toNat::zfS ds i (yh ds (i:Int).toNat))=_;rw[Xc oM,show(i:Int).toNat=i from rfl,ziA ds i (yh ds i+1).toNat _ oM oM]
def zld{ds:List Int}:∀{k i a j:Nat},(qG ds i)[k]?=some a->yh ds a=j->(qG ds i)[k+1]?=some j
 |0,i,a,j,h,hj=>by
  rw[jq]at h ⊢
  cases h
  show(qG ds (yh ds i))[0]?=some j;rw[hj,jq];rfl
 |k+1,i,a,j,h,hj=>by
  rw[jq]at h ⊢;have h:(qG ds (yh ds i))[k]?=some a:=h;show(qG ds (yh ds i))[k+1]?=some j
  rcases QB (yh ds i) 0 with c|c
  ·rw[zaY c]at h;cases h
  obtain⟨q,hq⟩:=Qh c;rw[hq]at h ⊢;exact zld h hj
def zh1{ds:List Int}(hs:zd6 ds):∀{k i a:Nat} {d:Int},ds[i]?=some d->(qG ds i)[k]?=some a->ds[a]?=some (d-k)
 |0,i,a,d,hd,h=>by
  rw[jq]at h
  cases h
  rw[hd];congr 1;omega
 |k+1,i,a,d,hd,h=>by
  rw[jq]at h;have h:(qG ds (yh ds i))[k]?=some a:=h;have hp:=zg4 hs hd;have h0:=hs.2.1 d (Xf hd)
  by_cases c:d=0
  ·rw[hp.1 c,zaY dC]at h;cases h
  obtain⟨j,hj,_,hjd⟩:=hp.2 oM;rw[hj]at h;have:=zh1 hs hjd h;rw[this];congr 1;omega
def zeQ{ds:List Int}(hs:zd6 ds):∀{d i:Nat},ds[i]?=some (d:Int)->(qG ds i).length=d+1
 |0,i,hd=>by
  rw[jq,(zg4 hs hd).1 rfl,zaY dC];rfl
 |d+1,i,hd=>by
  obtain⟨j,hj,_,hjd⟩:=(zg4 hs hd).2 oM;rw[jq,hj,Xn,zeQ (d:=d) hs (by rw[hjd];congr 1;omega)]
def tAt(l:List Nd)(k:Nat):AF:=match l[k]? with
 |some n=>n.t
 |none=>idA
def zrb{k:Nat}{n:Nd}(h:l[k]?=some n):tAt l k=n.t:=by unfold tAt;rw[h]
def trs(l:List Nd)(i:Int):List AF:=(qG (zH l) i).map (tAt l)
def zzm{n:Nd}(h:l[i]?=some n):trs l i=n.t::trs l (yh (zH l) i):=by
 unfold trs;rw[jq,QO,zrb h]
def zBB{i:Int}(h:i<0):trs l i=[]:=by unfold trs;rw[zaY h];rfl
def inS(s:Sc)(i:Int):Prop:=jY s/\0<=i/\i<s.ns.length
instance (s:Sc) (i:Int):Decidable (inS s i):=inferInstanceAs (Decidable (_/\_))
def kg(s:Sc)(i:Int):AF×Int:=if¬jY s then(qA,18) else if i<0∨s.ns.length<=i then(qA,8) else vy (trs s.ns i)
def zNd:Nd:=⟨0,0,0,qA,[],0,0,0,false,false,[],0,[],⟨0,0,0,0,[],0⟩,[],⟨0,0,[]⟩,0⟩
def zZ(s:Sc)(i:Int):Nd:=if inS s i then(s.ns[i.toNat]?).getD zNd else zNd
def uM(w:AF×Int)(l:List Sg):List (List Pt):=if w.2≠0 then[] else(yn l w.1 32).1
def zal(s:Sc)(i:Int):List (List Pt):=if (zZ s i).k≠2∨(zZ s i).fill.length=0 then[] else uM (kg s i) (zZ s i).path
def zaH(s:Sc)(i:Int):List (List Pt):=if (zZ s i).k≠2∨(zZ s i).strk.length=0 then[] else if (kg s i).2≠0 then[] else(zay (zZ s i).path (zZ s i).pen (kg s i).1 32).1
def zeV(s:Sc)(i:Int):List (List Pt):=if (zZ s i).k≠3 then[] else uM (kg s i) (zaF 0 0 (zZ s i).im.w (zZ s i).im.h)
def zm7(s:Sc)(i:Int):List (List Pt):=if (zZ s i).clip.length=0 then[] else uM (kg s i) (zZ s i).clip
def zrc{l:List Sg}{t:AF}{tol:Int}(h:(yn l t tol).2≠0):(yn l t tol).1=[]:=by
 unfold yn at h ⊢
 by_cases h1:(trans t l).2≠0
 ·rw[Xe h1]
 rw[Xc h1]at h ⊢
 by_cases h2:(zW (trans t l).1 tol).2≠0
 ·rw[Xe h2]
 rw[Xc h2]at h;exact absurd rfl h
end Go.Gs
