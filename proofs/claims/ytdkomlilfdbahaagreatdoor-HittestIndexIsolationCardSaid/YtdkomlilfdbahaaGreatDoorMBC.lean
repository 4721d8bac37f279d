/- Transforms, many of them, one after the other, both texts. -/
import Derived.Test.YtdkomlilfdbahaaGreatDoorMBB
import Derived.Test.YtdkomlilfdbahaaGreatDoorMAY
set_option maxRecDepth 100000
set_option maxHeartbeats 80000000
set_option linter.all false
namespace Go.Gs
open Proofs.Tryz
open Go.Proofs
def ur(l:List AF):AF:=l.foldl beh idA
variable{i:Nat}
def zgE{l:List AF}{x:AF}(h:l[i]?=some x):ur (l.take (i+1))=beh (ur (l.take i)) x:=by
 unfold ur;rw[Xn,h,KX];rfl
def zqi(l:List AF):Prop:=(∀t∈l,t.ok)/\∀i,i<l.length->(ur (l.take (i+1))).ok
instance (l:List AF):Decidable (zqi l):=wi
def vO(l:List AF):AF×Int:=if zqi l then(ur l,0) else(qJ,5)
def zEE:idA.nrm=idA:=by unfold idA AF.nrm afQ;simp only[ky]
def zmk{l:List AF}:∀{i:Nat},i<=l.length->(∀k,k<i->(ur (l.take (k+1))).ok)->(ur (l.take i)).le 8
 |0,_,_=>zAv.up dC
 |i+1,hi,h=>by
  have a:=h i oM;have b:l[i]?=some l[i]:=Xb oM;rw[zgE b]at a ⊢;exact zxM a
def zyA(l:List AF):(ur l).nrm=ur l:=by
 rcases YF l with rfl|⟨q,x,rfl⟩
 .exact zEE
 unfold ur;rw[List.concat_eq_append,KX];exact zpF _ _
def zuM(l:List AF)(m:∀t∈l,t.le 100):CX 174 [.sl afE l] (.tup [wo (vO l).1,i64 (vO l).2]):=by
 have a:¬zqi l->LE (.tup [.agg um,i64 5]) (.tup [wo (vO l).1,i64 (vO l).2]):=λh=>by
  rw[show vO l=(qJ,5) from Xc h];exact zP zcD .refl
 refine zc func174<|wg zud λu=>?_
 refine⟨Nat,λi=>⟨[(12,i64 i),(11,i64 l.length),(10,.sl afE l),(4,.loc 1 0),(2,.loc 0 0),(0,.sl afE l)],[(1,.box 51 (afE idA)),(0,.box 51 um)],2,37,0⟩,
  λi=>i<=l.length/\∀t∈l.take i,t.ok,λi=>l.length-i,0,⟨Xh _,λt ht=>by cases ht⟩,zf [0,1],?_⟩
 rintro i ⟨y,f⟩
 refine⟨λg:(i:Int)<l.length=>?_,λg:¬(i:Int)<l.length=>?_⟩
 .refine wb λx(d:l[i]?=some x)=>?_;have b:=Xf d;refine wg (zhi x ((m x b).up dC))<|⟨λh=>a λk=>h (k.1 x b),λh=>?_⟩;exact wa<|⟨i+1,⟨oM,yz d f (Xa.1 h)⟩,zf [0,1],oN⟩
 rw[Xi oM]at f;intro v
 refine⟨Nat,λi=>⟨[(23,i64 i),(22,i64 l.length),(21,.sl afE l),(4,.loc 1 0),(2,.loc 0 0)],[(1,.box 51 (afE (ur (l.take i)))),(0,.box 51 um)],2,37,0⟩,
  λi=>i<=l.length/\∀k,k<i->(ur (l.take (k+1))).ok,λi=>l.length-i,0,⟨Xh _,λk h=>by omega⟩,zf [0,1],?_⟩
 rintro j ⟨w,o⟩
 have lj:=zmk w o;refine⟨λg:(j:Int)<l.length=>?_,λg:¬(j:Int)<l.length=>?_⟩
 .refine wb λx(d:l[j]?=some x)=>?_;have b:=Xf d;have e:=zgE d;refine wg (zAn (ur (l.take j)) x (lj.up dC) ((m x b).up dC))<|wg (zhi (beh (ur (l.take j)) x) ((zAo (n:=100) (lj.up dC) (m x b)).up dC))<|⟨λh=>a λk=>h (by rw[←e];exact k.2 j oM),λh=>?_⟩;have h:(beh (ur (l.take j)) x).ok:=Xa.1 h;refine wa ?_
  refine⟨j+1,⟨oM,λk s=>?_⟩,zt [0,1] ⟨bR afE e.symm,rfl,tV⟩,oN⟩
  by_cases c:k=j
  .rw[c,e];exact h
  exact o k oM
 have r:l.take j=l:=Xi oM;refine wg (zrJ (ur (l.take j)) (lj.up dC)) ?_;rw[zyA];have q:vO l=(ur (l.take j),0):=by rw[r];exact Xe ⟨f,λk s=>o k oM⟩
 rw[q];exact zP .refl .refl
def zqj(l:List AF)(m:∀t∈l,t.le 100):CX 153 [.sl afE l] (.tup [wo (vO l).1,i64 (vO l).2]):=by
 have a:¬zqi l->LE (.tup [.agg um,i64 5]) (.tup [wo (vO l).1,i64 (vO l).2]):=λh=>by
  rw[show vO l=(qJ,5) from Xc h];exact zP zcD .refl
 refine zc func153<|wg za9 ?_
 refine⟨Nat,λi=>⟨[(5,i64 i),(4,.loc 1 0),(2,.loc 0 0),(0,.sl afE l)],[(1,.box 51 (afE (ur (l.take i)))),(0,.box 51 um)],2,31,0⟩,
  λi=>i<=l.length/\(∀t∈l.take i,t.ok)/\∀k,k<i->(ur (l.take (k+1))).ok,λi=>l.length-i,0,⟨Xh _,(λt ht=>by cases ht),λk h=>by omega⟩,zf [0,1],?_⟩
 rintro j ⟨w,j0,o⟩
 have lj:=zmk w o;intro u;refine⟨λg:(j:Int)<l.length=>?_,λg:¬(j:Int)<l.length=>?_⟩
 .refine wb λx(d:l[j]?=some x)=>?_;have b:=Xf d;have e:=zgE d;refine wg (zcC x ((m x b).up dC))<|⟨λh=>a λk=>h (k.1 x b),λh=>?_⟩;refine wc<|wb λy v=>?_;have ey:y=x:=Xl ((show l[j]?=some y from v).symm.trans d);rw[ey];refine wg (zrM (ur (l.take j)) x (lj.up dC) ((m x b).up dC))<|wg (zcC (beh (ur (l.take j)) x) ((zAo (n:=100) (lj.up dC) (m x b)).up dC)) ?_
  refine⟨λh=>a λk=>h (by rw[←e];exact k.2 j oM),λf=>?_⟩;have f:(beh (ur (l.take j)) x).ok:=Xa.1 f;refine wa<|⟨j+1,⟨oM,yz d j0 (Xa.1 h),λk s=>?_⟩,zt [0,1] ⟨bR afE e.symm,rfl,tV⟩,oN⟩
  by_cases c:k=j
  .rw[c,e];exact f
  exact o k oM
 have q:l.take j=l:=Xi oM;rw[q]at j0;have r:vO l=(ur (l.take j),0):=by rw[q];exact Xe ⟨j0,λk s=>o k oM⟩
 rw[r];exact zP .refl .refl
structure Nd where
 id:Int
 k:Int
 d:Int
 t:AF
 clip:LX
 cr:Int
 op:Int
 mode:Int
 iso:Bool
 ko:Bool
 path:LX
 rule:Int
 fill:LY
 pen:Pen
 strk:LY
 im:Img
 smp:Int
def ndE(n:Nd):LR:=
 i64 n.id::i64 n.k::i64 n.d::(afE n.t++(.sl sgE n.clip::i64 n.cr::u8 n.op::i64 n.mode::pr (n.iso=true)::pr (n.ko=true)::.sl sgE n.path::i64 n.rule::.sl qD n.fill::
  (jb n.pen++(.sl qD n.strk::(zi9 n.im++[i64 n.smp])))))
structure Sc where
 w:Int
 h:Int
 bg:Pix
 ns:List Nd
def scE(s:Sc):LR:=[i64 s.w,i64 s.h,u8 s.bg.r,u8 s.bg.g,u8 s.bg.b,u8 s.bg.a,.sl ndE s.ns]
def zcO(n:Nd):Prop:=n.op=0/\n.mode=0/\n.iso=false/\n.ko=false
instance (n:Nd):Decidable (zcO n):=wi
def ut(p:Pen):Prop:=p.w=0/\p.j=0/\p.c=0/\p.m=0/\p.d=[]/\p.ph=0
instance (p:Pen):Decidable (ut p):=wi
def zdL(n:Nd):Prop:=n.path.length=0/\n.rule=0/\n.fill.length=0/\n.strk.length=0
instance (n:Nd):Decidable (zdL n):=wi
def zcP(n:Nd):Prop:=n.im.w=0/\n.im.h=0/\n.im.px.length=0/\n.smp=0
instance (n:Nd):Decidable (zcP n):=wi
def zdq(r:Int):Prop:=r=1∨r=2
instance (r:Int):Decidable (zdq r):=wj
def vf(n:Nd):Prop:=(n.clip.length=0/\n.cr=0)∨(0<n.clip.length/\zdq n.cr)
instance (n:Nd):Decidable (vf n):=wj
def zhV(n:Nd):Prop:=vf n/\(if n.k=1 then(zdL n/\ut n.pen)/\zcP n else if n.k=2 then zcO n/\zcP n else zcO n/\zdL n/\ut n.pen)
instance (n:Nd):Decidable (zhV n):=by unfold zhV;infer_instance
def vR(n:Nd):Int:=
 if¬qU n.path then 10 else if¬zdq n.rule then 2 else if 1<n.fill.length∨1<n.strk.length then 5 else if 0<n.strk.length/\¬kF n.pen then 13
 else if n.strk.length=0/\¬ut n.pen then 17 else if (¬∀p∈n.fill,vQ p)∨¬∀p∈n.strk,vQ p then 16 else 0
def ue(n:Nd):Int:=
 if n.k<1∨3<n.k then 2 else if n.id<1∨1073741824<n.id∨n.d<0∨8<=n.d then 6 else if¬n.t.ok then 5 else if zbT n.t=0 then 9 else if¬qU n.clip then 10
 else if¬zhV n then 17 else if n.k=1 then(if¬(1<=n.mode/\n.mode<=13) then 2 else 0) else if n.k=2 then vR n
 else if¬zf1 n.im then 16 else if n.smp≠1/\n.smp≠2 then 2 else 0
def jP(l:List Nd)(i:Nat)(n:Nd):Prop:=match l[i-1]? with
 |some p=>if i=0 then n.d=0 else(p.k=1/\n.d=p.d+1)∨n.d<=p.d
 |none=>n.d=0
instance (l:List Nd) (i:Nat) (n:Nd):Decidable (jP l i n):=by unfold jP;split <;> infer_instance
def zhW(l:List Nd)(i:Nat)(n:Nd):Int:=
 if ue n≠0 then ue n else if n.id∈(l.take i).map Nd.id then 7 else if¬jP l i n then 17 else 0
def yE(ds:LV)(d:Int):Nat->Int
 |0=> -1
 |k+1=>if ds[k]?=some d then k else yE ds d k
def yn(ds:LV)(i:Nat):Int:=yE ds (ds.getD i 0-1) i
def zcQ(ds:LV)(d:Int):∀k,-1<=yE ds d k/\yE ds d k<k/\(0<=yE ds d k->ds[(yE ds d k).toNat]?=some d)
 |0=>⟨K4 _,show(-1:Int)<0 by decide,λh=>absurd (show(0:Int)<= -1 from h) dC⟩
 |k+1=>by
  have a:=zcQ ds d k;unfold yE
  split
  .rename_i h;exact⟨oM,oM,λ_=>by simpa using h⟩
  exact⟨a.1,oM,a.2.2⟩
def zoz{ds:LV}{d:Int}:∀{k j:Nat},j<k->ds[j]?=some d->0<=yE ds d k
 |k+1,j,b,h=>by
  unfold yE
  split
  .omega
  rename_i a
  by_cases e:j=k
  .subst e;exact absurd h a
  exact zoz oM h
def zeJ(ds:LV):Prop:=(∀d,ds[0]?=some d->d=0)/\(∀d∈ds,0<=d)/\∀i a b,ds[i]?=some a->ds[i+1]?=some b->b<=a+1
def zoA{ds:LV}(h:zeJ ds){e:Int}(k:0<=e):∀{i:Nat} {d:Int},ds[i]?=some d->e<d->∃j,j<i/\ds[j]?=some e
 |0,d,b,m=>by have:=h.1 d b;omega
 |i+1,d,b,m=>by
  obtain⟨a,f⟩:∃a,ds[i]?=some a:=⟨_,Xb (by have:=(Xd.1 b).1;omega)⟩;have o:=h.2.2 i a d f b
  by_cases c:a=e
  .exact⟨i,oM,by rw[f,c]⟩
  obtain⟨j,n,g⟩:=zoA h k f oM;exact⟨j,oM,g⟩
variable{ds:LV}
def zhX(h:zeJ ds){d:Int}(f:ds[i]?=some d):(d=0->yn ds i= -1)/\(0<d->∃j:Nat,yn ds i=j/\j<i/\ds[j]?=some (d-1)):=by
 have m:ds.getD i 0=d:=by rw[Xs,f];rfl
 unfold yn;rw[m];obtain⟨g,o,b⟩:=zcQ ds (d-1) i;refine⟨λe=>?_,λq=>?_⟩
 .subst e;refine JU (JJ.1 λk=>?_) g;have:=h.2.1 _ (Xf (b oM));omega
 obtain⟨j,n,a⟩:=zoA h (show 0<=d-1 by omega) f oM;have:=zoz n a;exact⟨(yE ds (d-1) i).toNat,oM,oM,b this⟩
def zgI(ds:LV):Nat->Int->LC
 |0,_=>[]
 |n+1,i=>if i<0 then[] else i.toNat::zgI ds n (yn ds i.toNat)
def zB4(n:Int):CX 201 [i64 n] (pr (zdq n)):=by
 refine zc func201<|Br.mk (λh=>?_) (λh=>?_)
 .exact zH (.inl h)
 exact zC ⟨.inr,λk=>k.resolve_left h⟩
def zB5(xs ys:LV):CX 334 [.sl zN xs,.sl zN ys] (pr (xs=ys)):=by
 refine zc func334 λm n=>?_;refine⟨λa=>zd λe=>a (by rw[e]),λa=>?_⟩;have a:=Xa.1 a;intro o;refine⟨Int,λi=>⟨[(13,i64 i),(12,i64 xs.length),(0,.sl zN xs),(1,.sl zN ys)],[],0,26,0⟩,λi=>0<=i/\i<=xs.length/\∀j:Nat,(j:Int)<i->xs[j]?=ys[j]?,λi=>((xs.length:Int)-i).toNat,0,?_,?_,?_⟩
 .exact⟨oM,oM,λj d=>by omega⟩
 .exact zB []
 rintro i ⟨q,r,g⟩
 refine⟨λk=>?_,λk=>?_⟩
 .refine wc<|wb λx h=>wb λy f=>?_;refine⟨λb=>?_,λb=>?_⟩
  .refine zd λe=>b ?_
   subst e;rw[h]at f;exact Xl f
  refine wa<|⟨i+1,⟨oM,oM,λj d=>?_⟩,zB [],oN⟩
  by_cases e:j=i.toNat
  .subst e;rw[h,f,Xa.1 b]
  exact g j oM
 exact zH (KA λj=>by
  by_cases d:(j:Int)<i
  .exact g j d
  rw[XH oM,XH oM])
def zPen:Pen:=⟨0,0,0,0,[],0⟩
def zEM:LE (.agg [i64 0,i64 0,i64 0,i64 0,nS,i64 0]) (ws zPen):=jk (.C (.C (.C (.C (.cons zD (.C .nil))))))
def zImg:Img:=⟨0,0,[]⟩
def zEN:LE (.agg [i64 0,i64 0,nS]) (.agg (zi9 zImg)):=jk (.C (.C (.cons zD .nil)))
def zkr(a b:Pen):Prop:=a.w=b.w/\a.j=b.j/\a.c=b.c/\a.m=b.m/\a.ph=b.ph/\a.d=b.d
instance (a b:Pen):Decidable (zkr a b):=wi
def zyF{p:Pen}:zkr p zPen↔ut p:=by
 unfold zkr ut zPen;constructor
 .rintro⟨a,b,d,e,f,g⟩;exact⟨a,b,d,e,g,f⟩
 rintro⟨a,b,d,e,f,g⟩;exact⟨a,b,d,e,g,f⟩
def zyG(a b:Pen):CX 272 [ws a,ws b] (pr (zkr a b)):=by
 refine zc func272<|Br.mk (λe=>?_) (λe=>zd λk=>e k.1);refine⟨λf=>?_,λf=>zd λk=>f k.2.1⟩;refine⟨λg=>?_,λg=>zd λk=>g k.2.2.1⟩;refine⟨λm=>?_,λm=>zd λk=>m k.2.2.2.1⟩;refine⟨λn=>?_,λn=>zd λk=>n k.2.2.2.2.1⟩;exact wg (zB5 a.d b.d)<|zC ⟨λh=>⟨e,f,g,m,n,h⟩,λk=>k.2.2.2.2.2⟩
def zwu(a:Pen):CX 272 [ws a,.agg [i64 0,i64 0,i64 0,i64 0,nS,i64 0]] (pr (ut a)):=
 ((zyG a zPen).args (.C (.cons zEM .nil))).le (zC zyF)
def zHK(t:AF)(ht:t.le 10000000):CX 205 [wo t] (pr (zbT t=0)):=by
 refine zc func205 ?_;refine wg (zlz t ht) ?_;refine wg (yW 0 (by constructor <;> decide)) ?_;have a:=zjD (ofQ (zbT t)) (ofQ ((0:Int):Rat)) (by have:=zhU ht;rw[zF];omega) (by decide +kernel);rw[ky,ky]at a;refine wg a ?_;exact zC (YC.1 (uQ _))
def uI(l:LY):Prop:=∀p∈l,vQ p
instance (l:LY):Decidable (uI l):=inferInstanceAs (Decidable (∀p∈l,_))
def zf3(l:LY):Prop:=∀p∈l,p.t.le 1000/\p.im.px.length<=9223372036854775807
def zuR(l:LY):Int:=match l.findIdx? (λp=>¬vQ p) with|some i=>i|none=> -1
def zEO{l:LY}{i:Nat}{x:Pnt}(h:∀(j:Nat) q,j<i->l[j]?=some q->vQ q)(d:l[i]?=some x)(a:¬vQ x):zuR l=i:=by
 have:l.findIdx? (λp=>¬vQ p)=some i:=by
  rw[KS];have hi:=(Xd.1 d);refine⟨hi.1,by rw[hi.2];simpa using a,λj b=>?_⟩;have:=h j _ b (Xb (by have:=hi.1;omega))
  simpa using this
 unfold zuR;rw[this]
def zoB{l:LY}(h:∀p∈l,vQ p):zuR l= -1:=by
 have:l.findIdx? (λp=>¬vQ p)=none:=by
  rw[KE];intro p a;simpa using h p a
 unfold zuR;rw[this]
def zsT{l:LY}:0<=zuR l↔¬uI l:=by
 by_cases h:uI l
 .rw[zoB h];exact⟨λk=>by omega,λk=>absurd h k⟩
 refine⟨λ_=>h,λ_=>?_⟩;unfold zuR
 cases a:l.findIdx? (λp=>¬vQ p) with
 |some i=>exact Kv i
 |none=>rw[KE]at a;exact absurd (λp b=>by simpa using a p b) h
def zHL(p:Pnt)(b:p.t.le 1000)(a:p.im.px.length<=9223372036854775807):CX 337 [wx p] (pr (¬vQ p)):=by
 exact zc func337<|wg (zuQ p b a)<|zC Qk
def zEP(xs:LY)(ht:zf3 xs):CX 394 [.sl qD xs,.fn 337 []] (i64 (zuR xs)):=by
 refine zc func394 λn=>?_;refine⟨Int,λi=>⟨[(8,i64 i),(7,i64 xs.length),(0,.sl qD xs),(1,.fn 337 [])],[],0,19,0⟩,λi=>0<=i/\i<=xs.length/\∀(j:Nat) q,(j:Int)<i->xs[j]?=some q->vQ q,λi=>((xs.length:Int)-i).toNat,0,?_,?_,?_⟩
 .exact⟨oM,oM,λj q a=>by omega⟩
 .exact zB []
 rintro i ⟨r,s,b⟩
 refine⟨λk=>?_,λk=>?_⟩
 .refine wb λx g=>?_;have h:=ht x (Xf g);refine wg (zHL x h.1 h.2)<|⟨λd=>?_,λd=>?_⟩
  .refine ze ?_;rw[zEO (i:=i.toNat) (λj q a=>b j q oM) g d];omega
  refine wa<|⟨i+1,⟨oM,oM,λj q a f=>?_⟩,zB [],oN⟩
  by_cases e:j=i.toNat
  .subst e;rw[g]at f;cases f;exact Xa.1 d
  exact b j q oM f
 refine ze (zoB λp o=>?_).symm;obtain⟨j,a,m⟩:=Kw o;exact b j p oM (by rw[←m];exact Xb a)
def zuS(xs:LY)(ht:zf3 xs):CX 336 [.sl qD xs,.fn 337 []] (pr (¬uI xs)):=by
 exact zc func336<|wg (zEP xs ht)<|zC zsT
def zF8(xs:LY)(ht:zf3 xs):CX 274 [.sl qD xs] (pr (uI xs)):=by
 exact zc func274<|wg (zuS xs ht)<|zC Xa
def vS(n:Nd):Prop:=if n.k=1 then(zdL n/\ut n.pen)/\zcP n else if n.k=2 then zcO n/\zcP n else zcO n/\zdL n/\ut n.pen
instance (n:Nd):Decidable (vS n):=by unfold vS;infer_instance
def zqn{n:Nd}:zcP n↔n.im=zImg/\n.smp=0:=by
 unfold zcP zImg
 obtain⟨id,k,d,t,clip,cr,op,mode,iso,ko,path,rule,fill,pen,strk,⟨w,h,px⟩,smp⟩:=n
 simp only[Img.mk.injEq,XQ];constructor
 .rintro⟨a,b,e,f⟩;exact⟨⟨a,b,e⟩,f⟩
 rintro⟨⟨a,b,e⟩,f⟩;exact⟨a,b,e,f⟩
def zHM(n:Nd):CX 207 [.agg (ndE n)] (pr (vS n)):=by
 refine zby tok func207 rfl rfl rfl (zaz.cut tok mix 2 (λ_:Unit=>⟨[(3,pr (zcO n)),(1,.loc 0 0)],[(0,.box 60 (ndE n))],1,78,0⟩) (λ_=>True) ?_ λ_ _=>
  zaz.cut tok mix 1 (λ_:Unit=>⟨[(4,pr (zdL n/\ut n.pen)),(3,pr (zcO n)),(1,.loc 0 0)],[(0,.box 60 (ndE n))],1,78,0⟩) (λ_=>True) ?_ λ_ _=>
  zaz.cut tok mix 1 (λ_:Unit=>⟨[(5,pr (zcP n)),(4,pr (zdL n/\ut n.pen)),(3,pr (zcO n)),(1,.loc 0 0)],[(0,.box 60 (ndE n))],1,78,0⟩) (λ_=>True) ?_ λ_ _=>zaz.vc tok mix ?_)
 .refine⟨λb=>?_,λb=>⟨(),tV,(qS (t:=3) rfl (zd λk=>b k.1)).trans (kM [(0,some 0)] rfl rfl rfl ⟨rfl,rfl,tV⟩ ⟨rfl,tV⟩)⟩⟩;refine⟨λd=>?_,λd=>⟨(),tV,(qS (t:=3) rfl (zd λk=>d k.2.1)).trans (kM [(0,some 0)] rfl rfl rfl ⟨rfl,rfl,tV⟩ ⟨rfl,tV⟩)⟩⟩;refine⟨λf=>?_,λf=>⟨(),tV,(qS (t:=3) rfl (zd λk=>f (by rw[k.2.2.1];decide))).trans (kM [(0,some 0)] rfl rfl rfl ⟨rfl,rfl,tV⟩ ⟨rfl,tV⟩)⟩⟩
  exact⟨(),tV,(qS (t:=3) rfl (zC ⟨λh=>⟨b,d,by simpa using f,by simpa using h⟩,λk=>by rw[k.2.2.2];decide⟩)).trans (kM [(0,some 0)] rfl rfl rfl ⟨rfl,rfl,tV⟩ ⟨rfl,tV⟩)⟩
 .intro q;refine⟨λb=>?_,λb=>⟨(),tV,(qS (t:=4) rfl (zd λk=>b (by have:=k.1.1;omega))).trans (kM [(0,some 0)] rfl rfl rfl ⟨rfl,rfl,rfl,tV⟩ ⟨rfl,tV⟩)⟩⟩;refine⟨λd=>?_,λd=>⟨(),tV,(qS (t:=4) rfl (zd λk=>d k.1.2.1)).trans (kM [(0,some 0)] rfl rfl rfl ⟨rfl,rfl,rfl,tV⟩ ⟨rfl,tV⟩)⟩⟩;intro r;refine⟨λf=>?_,λf=>⟨(),tV,(qS (t:=4) rfl (zd λk=>f (by have:=k.1.2.2.1;omega))).trans (kM [(0,some 0)] rfl rfl rfl ⟨rfl,rfl,rfl,tV⟩ ⟨rfl,tV⟩)⟩⟩
  intro s;refine⟨λo=>?_,λo=>⟨(),tV,(qS (t:=4) rfl (zd λk=>o (by have:=k.1.2.2.2;omega))).trans (kM [(0,some 0)] rfl rfl rfl ⟨rfl,rfl,rfl,tV⟩ ⟨rfl,tV⟩)⟩⟩;exact wg (zwu n.pen)<|⟨(),tV,(qS (t:=4) rfl (zC ⟨λh=>⟨⟨oM,d,oM,oM⟩,h⟩,λk=>k.2⟩)).trans (kM [(0,some 0)] rfl rfl rfl ⟨rfl,rfl,rfl,tV⟩ ⟨rfl,tV⟩)⟩
 .refine wg ((zox n.im zImg).args (.C (.cons zEN .nil)))<|⟨λb=>?_,λb=>⟨(),tV,(qS (t:=5) rfl (zd λk=>b (zqn.1 k).1)).trans (kM [(0,some 0)] rfl rfl rfl ⟨rfl,rfl,rfl,rfl,tV⟩ ⟨rfl,tV⟩)⟩⟩;exact⟨(),tV,(qS (t:=5) rfl (zC ⟨λh=>zqn.2 ⟨b,h⟩,λk=>(zqn.1 k).2⟩)).trans (kM [(0,some 0)] rfl rfl rfl ⟨rfl,rfl,rfl,rfl,tV⟩ ⟨rfl,tV⟩)⟩
 refine⟨λg=>?_,λg=>?_⟩
 .have e:vS n↔(zdL n/\ut n.pen)/\zcP n:=by unfold vS;rw[Xe g]
  exact⟨λa=>zC ⟨λh=>e.2 ⟨a,h⟩,λk=>(e.1 k).2⟩,λa=>zd λk=>a (e.1 k).1⟩
 refine⟨λm=>?_,λm=>?_⟩
 .have e:vS n↔zcO n/\zcP n:=by unfold vS;rw[Xc g,Xe m]
  exact⟨λa=>zC ⟨λh=>e.2 ⟨a,h⟩,λk=>(e.1 k).2⟩,λa=>zd λk=>a (e.1 k).1⟩
 have e:vS n↔zcO n/\zdL n/\ut n.pen:=by unfold vS;rw[Xc g,Xc m]
 exact⟨λa=>zC ⟨λh=>e.2 ⟨a,h⟩,λk=>(e.1 k).2⟩,λa=>zd λk=>a (e.1 k).1⟩
def zsU(n:Nd):Prop:=n.k<1∨3<n.k
instance (n:Nd):Decidable (zsU n):=wj
def zni(n:Nd):Prop:=n.id<1∨1073741824<n.id∨n.d<0∨8<=n.d
instance (n:Nd):Decidable (zni n):=wj
def zds(n:Nd):Er:=zbz [qb (zsU n) 2,qb (zni n) 6,qb (¬n.t.ok) 5,qb (zbT n.t=0) 9,qb (¬qU n.clip) 10,qb (¬vf n∨¬vS n) 17]
def zB6(n:Nd)(ht:n.t.le 1000):CX 138 [.agg (ndE n)] (.op (erV (zds n))):=by
 refine zby tok func138 rfl rfl rfl (zaz.cut tok mix 2 (λ_:Unit=>⟨[(3,pr (vf n)),(1,.loc 0 0)],[(0,.box 60 (ndE n))],1,76,0⟩) (λ_=>True) ?_ λ_ _=>zaz.vc tok mix ?_)
 .intro q;refine⟨λo=>?_,λo=>?_⟩
  .refine⟨λb=>⟨(),tV,(qS (t:=3) rfl (zH (.inl ⟨oM,b⟩))).trans (kM [(0,some 0)] rfl rfl rfl ⟨rfl,rfl,tV⟩ ⟨rfl,tV⟩)⟩,λb=>?_⟩;intro e;refine⟨λd=>?_,λd=>⟨(),tV,(qS (t:=3) rfl (zd λk=>k.elim (λk=>b k.2) λk=>by have:=k.1;omega)).trans (kM [(0,some 0)] rfl rfl rfl ⟨rfl,rfl,tV⟩ ⟨rfl,tV⟩)⟩⟩;omega
  intro e;refine⟨λd=>?_,λd=>?_⟩
  .exact wg (zB4 n.cr)<|⟨(),tV,(qS (t:=3) rfl (zC ⟨λh=>.inr ⟨oM,h⟩,λk=>k.elim (λk=>by have:=k.1;omega) λk=>k.2⟩)).trans (kM [(0,some 0)] rfl rfl rfl ⟨rfl,rfl,tV⟩ ⟨rfl,tV⟩)⟩
  omega
 refine wd<|Br.mk (λa=>?_) (λa=>?_)
 all_goals refine wg ((yF (zsU n) 2).args (.cons (by first|exact zH (.inl a)|exact zC ⟨.inr,λk=>k.resolve_left a⟩) LEs.refl)) ?_
 all_goals (refine⟨λf=>?_,λf=>?_⟩;rotate_left;refine⟨λg=>?_,λg=>?_⟩;rotate_left;refine⟨λm=>?_,λm=>?_⟩)
 all_goals refine wg ((yF (zni n) 6).args (.cons (by first|exact zH (by unfold zni;omega)|exact zC (by unfold zni;constructor <;> intro <;> omega)) LEs.refl)) ?_
 all_goals refine wg (zhi n.t (ht.up dC)) ?_
 all_goals refine wg (yF (¬n.t.ok) 5) ?_
 all_goals refine wg (zHK n.t (ht.up dC)) ?_
 all_goals refine wg (yF (zbT n.t=0) 9) ?_
 all_goals refine wg (zkf n.clip) ?_
 all_goals refine wg (yF (¬qU n.clip) 10) ?_
 all_goals refine⟨λc1=>?_,λc1=>?_⟩
 all_goals first
  |refine wg ((yF (¬vf n∨¬vS n) 17).args (.cons (zH (.inl c1)) LEs.refl)) ?_
  |(refine wg (zHM n) ?_;refine wg ((yF (¬vf n∨¬vS n) 17).args (.cons (zC ⟨.inr,λk=>k.resolve_left c1⟩) LEs.refl)) ?_)
 all_goals refine⟨Er,zzZ,[qb (zsU n) 2,qb (zni n) 6,qb (¬n.t.ok) 5,qb (zbT n.t=0) 9,qb (¬qU n.clip) 10,qb (¬vf n∨¬vS n) 17],rfl,wb16 ?_⟩
 all_goals refine zb.see 1 _ (zps [qb (zsU n) 2,qb (zni n) 6,qb (¬n.t.ok) 5,qb (zbT n.t=0) 9,qb (¬qU n.clip) 10,qb (¬vf n∨¬vS n) 17]) rfl rfl rfl ?_
 all_goals refine wh ?_
 all_goals exact .refl
def zqo(n:Nd):Er:=zbz [qb (¬qU n.path) 10,qb (¬zdq n.rule) 2,qb (1<n.fill.length∨1<n.strk.length) 5,qb (0<n.strk.length/\¬kF n.pen) 13,qb (n.strk.length=0/\¬ut n.pen) 17,qb (¬uI n.fill∨¬uI n.strk) 16]
def zEQ(n:Nd)(e:zf3 n.fill)(f:zf3 n.strk):CX 209 [.agg (ndE n)] (.op (erV (zqo n))):=by
 refine zc func209 λg=>wd<|wg (zkf n.path)<|wg (yF (¬qU n.path) 10)<|wg (zB4 n.rule)<|wg (yF (¬zdq n.rule) 2) λm=>?_;refine⟨λb=>?_,λb=>?_⟩;rotate_left;intro o
 all_goals refine wg ((yF (1<n.fill.length∨1<n.strk.length) 5).args (.cons (by first|exact zH (.inl oM)|exact zC (by constructor <;> intro <;> omega)) LEs.refl)) ?_
 all_goals refine⟨λd=>?_,λd=>?_⟩
 all_goals first
  |(refine wg (zfi n.pen) ?_;refine wg ((yF (0<n.strk.length/\¬kF n.pen) 13).args (.cons (zC ⟨λh=>⟨oM,h⟩,λk=>k.2⟩) LEs.refl)) ?_)
  |refine wg ((yF (0<n.strk.length/\¬kF n.pen) 13).args (.cons (zd oM) LEs.refl)) ?_
 all_goals refine⟨λc1=>?_,λc1=>?_⟩
 all_goals first
  |(refine wg (zwu n.pen) ?_;refine wg ((yF (n.strk.length=0/\¬ut n.pen) 17).args (.cons (zC ⟨λh=>⟨oM,h⟩,λk=>k.2⟩) LEs.refl)) ?_)
  |refine wg ((yF (n.strk.length=0/\¬ut n.pen) 17).args (.cons (zd oM) LEs.refl)) ?_
 all_goals refine wg (zF8 n.fill e) ?_
 all_goals refine⟨λa=>?_,λa=>?_⟩
 all_goals first
  |refine wg ((yF (¬uI n.fill∨¬uI n.strk) 16).args (.cons (zH (.inl a)) LEs.refl)) ?_
  |(refine wg (zF8 n.strk f) ?_;refine wg ((yF (¬uI n.fill∨¬uI n.strk) 16).args (.cons (zC ⟨.inr,λk=>k.resolve_left a⟩) LEs.refl)) ?_)
 all_goals refine⟨Er,zzZ,[qb (¬qU n.path) 10,qb (¬zdq n.rule) 2,qb (1<n.fill.length∨1<n.strk.length) 5,qb (0<n.strk.length/\¬kF n.pen) 13,qb (n.strk.length=0/\¬ut n.pen) 17,qb (¬uI n.fill∨¬uI n.strk) 16],rfl,wb16 ?_⟩
 all_goals refine zb.see 1 _ (zps [qb (¬qU n.path) 10,qb (¬zdq n.rule) 2,qb (1<n.fill.length∨1<n.strk.length) 5,qb (0<n.strk.length/\¬kF n.pen) 13,qb (n.strk.length=0/\¬ut n.pen) 17,qb (¬uI n.fill∨¬uI n.strk) 16]) rfl rfl rfl ?_
 all_goals refine wh ?_
 all_goals exact .refl
def znj(n:Nd):Er:=if n.k=1 then qb (¬zmo n.mode) 2 else if n.k=2 then zqo n else zbz [qb (¬zf1 n.im) 16,qb (n.smp≠1/\n.smp≠2) 2]
def zmq(n:Nd):Prop:=n.t.le 1000/\zf3 n.fill/\zf3 n.strk/\n.im.px.length<=9223372036854775807
def g_own(n:Nd)(h:zmq n):CX 139 [.agg (ndE n)] (.op (erV (znj n))):=by
 obtain⟨_,e,f,g⟩:=h;refine zc func139<|Br.mk (λa=>?_) (λa=>?_)
 .refine wg (zHI n.mode)<|wg (yF (¬zmo n.mode) 2) ?_;rw[znj,Xe a];exact .refl
 refine⟨λd=>?_,λd=>?_⟩
 .refine wg (zEQ n e f) ?_;rw[znj,Xc a,Xe d];exact .refl
 rw[znj,Xc a,Xc d];refine wd<|wg (zow n.im g)<|wg (yF (¬zf1 n.im) 16)<|⟨λb=>?_,λb=>?_⟩
 all_goals refine wg ((yF (n.smp≠1/\n.smp≠2) 2).args (.cons (by first|exact zC ⟨λh=>⟨b,h⟩,λk=>k.2⟩|exact zd λk=>b k.1) LEs.refl)) ?_
 all_goals refine⟨Er,zzZ,[qb (¬zf1 n.im) 16,qb (n.smp≠1/\n.smp≠2) 2],rfl,wb16 ?_⟩
 all_goals refine zb.see 1 _ (zps [qb (¬zf1 n.im) 16,qb (n.smp≠1/\n.smp≠2) 2]) rfl rfl rfl ?_
 all_goals refine wh ?_
 all_goals exact .refl
def zeK:Er->Int->Int
 |.nil,c=>c
 |.w c u,_=>zeK u c
def zwv:Er->Nat
 |.nil=>0
 |.w _ u=>zwv u+1
def zuT(n:Nd):Er:=match zds n with
 |.nil=>znj n
 |.w c u=>.w c u
def cellA:Option (Int×Er)->SV
 |none=>i64 0
 |some (a,_)=>i64 a
def zHN:Option (Int×Er)->SV
 |none=>.val .nilIface
 |some (_,b)=>.op (erV b)
def zB7(n:Nd)(h:zmq n):CX 88 [.agg (ndE n)] (i64 (zeK (zuT n) 0)):=by
 refine zby tok func88 rfl rfl rfl (zaz.cut tok mix 3 (λ_:Unit=>⟨[(3,.op (erV (zuT n)))],[],1,20,0⟩) (λ_=>True) ?_ λ_ _=>zaz.vc tok mix ?_)
 .have f:=zB6 n h.1;have ht:zuT n=match zds n with|.nil=>znj n|.w c u=>.w c u:=rfl
  revert f ht
  generalize zds n=e
  cases e with
  |nil=>
   intro f ht;refine wg f<|Br.mk (λ_=>?_) (λk=>absurd rfl k);refine wg (g_own n h) ?_;rw[ht];exact⟨(),tV,zf [0]⟩
  |w c u=>
   intro f ht;refine wg f<|Br.mk (λk=>by cases k) (λ_=>?_);rw[ht];exact⟨(),tV,zf [0]⟩
 refine⟨Er×Int×Option (Int×Er),λx=>⟨[(4,i64 x.2.1),(3,.op (erV x.1)),(5,.loc 1 0)],[(1,.box 170 [cellA x.2.2,zHN x.2.2])],2,20,0⟩,λx=>zeK x.1 x.2.1=zeK (zuT n) 0,λx=>zwv x.1,(zuT n,0,none),rfl,zB [(1,some 1)],?_⟩
 rintro⟨e,c,o⟩ hI
 cases e with
 |nil=>
  rcases o with _|⟨a,b⟩
  .exact zb.give [1] 0 [.op (erV .nil),.ifc 172 (.loc 0 0)] [(0,.box 170 [i64 0,.val .nilIface])] [(0,.box 170 [i64 0,.val .nilIface])] (bl false) (zrq _ _) LEs.refl rfl rfl rfl ⟨⟨_,rfl,rfl,rfl⟩,tV⟩ rfl ⟨⟨rfl,rfl⟩,tV⟩<|ze hI
  exact zb.give [1] 0 [.op (erV .nil),.ifc 172 (.loc 0 0)] [(0,.box 170 [i64 a,.op (erV b)])] [(0,.box 170 [i64 a,.op (erV b)])] (bl false) (zrq _ _) LEs.refl rfl rfl rfl ⟨⟨_,rfl,rfl,rfl⟩,tV⟩ rfl ⟨⟨rfl,rfl⟩,tV⟩<|ze hI
 |w d u=>
  rcases o with _|⟨a,b⟩
  .exact zb.give [1] 0 [.op (erV (.w d u)),.ifc 172 (.loc 0 0)] [(0,.box 170 [i64 0,.val .nilIface])] [(0,.box 170 [i64 d,.op (erV u)])] (bl true) (zrr d u _ _) LEs.refl rfl rfl rfl ⟨⟨_,rfl,rfl,rfl⟩,tV⟩ rfl ⟨⟨rfl,rfl⟩,tV⟩<|wc<|⟨(u,d,some (d,u)),hI,zB [(1,some 1)],by dsimp only[zwv];omega⟩
  exact zb.give [1] 0 [.op (erV (.w d u)),.ifc 172 (.loc 0 0)] [(0,.box 170 [i64 a,.op (erV b)])] [(0,.box 170 [i64 d,.op (erV u)])] (bl true) (zrr d u _ _) LEs.refl rfl rfl rfl ⟨⟨_,rfl,rfl,rfl⟩,tV⟩ rfl ⟨⟨rfl,rfl⟩,tV⟩<|wc<|⟨(u,d,some (d,u)),hI,zB [(1,some 1)],by dsimp only[zwv];omega⟩
variable{p:Prop}{c:Int}
def zmr[Decidable p]{l:List Er}:zbz (qb p c::l)=if p then .w 0 (.w c .nil) else zbz l:=by unfold qb;split <;> rfl
def zyH[Decidable p]:zeK (qb p c) 0=if p then c else 0:=by unfold qb;split <;> rfl
def zB8{n:Nd}:¬zhV n↔¬vf n∨¬vS n:=by
 show¬(vf n/\vS n)↔_;exact Decidable.not_and_iff_or_not
def zms[Decidable p]{l:List Er}:zeK (zbz (qb p c::l)) 0=if p then c else zeK (zbz l) 0:=by rw[zmr];split <;> rfl
def zHO(n:Nd):zeK (zuT n) 0=ue n:=by
 have q:zeK (zqo n) 0=vR n:=by
  unfold zqo vR;simp only[zms];rfl
 have o:zeK (znj n) 0=if n.k=1 then(if¬(1<=n.mode/\n.mode<=13) then 2 else 0) else if n.k=2 then vR n else if¬zf1 n.im then 16 else if n.smp≠1/\n.smp≠2 then 2 else 0:=by
  unfold znj
  split
  .exact zyH
  split
  .exact q
  simp only[zms];rfl
 have ht:zuT n=match zds n with|.nil=>znj n|.w c u=>.w c u:=rfl
 have h:ue n=if zsU n then 2 else if zni n then 6 else if¬n.t.ok then 5 else if zbT n.t=0 then 9 else if¬qU n.clip then 10 else if¬vf n∨¬vS n then 17 else zeK (znj n) 0:=by
  rw[o];unfold ue;simp only[zB8];rfl
 rw[h,ht]
 have m:zds n=if zsU n then .w 0 (.w 2 .nil) else if zni n then .w 0 (.w 6 .nil) else if¬n.t.ok then .w 0 (.w 5 .nil) else if zbT n.t=0 then .w 0 (.w 9 .nil) else if¬qU n.clip then .w 0 (.w 10 .nil) else if¬vf n∨¬vS n then .w 0 (.w 17 .nil) else .nil:=by
  unfold zds;simp only[zmr];rfl
 rw[m]
 by_cases a:zsU n
 .simp only[Xe a];rfl
 simp only[Xc a]
 by_cases b:zni n
 .simp only[Xe b];rfl
 simp only[Xc b]
 by_cases d:¬n.t.ok
 .simp only[Xe d];rfl
 simp only[Xc d]
 by_cases e:zbT n.t=0
 .simp only[Xe e];rfl
 simp only[Xc e]
 by_cases f:¬qU n.clip
 .simp only[Xe f];rfl
 simp only[Xc f]
 by_cases g:¬vf n∨¬vS n
 .simp only[Xe g];rfl
 simp only[Xc g]
def zER(n:Nd)(h:zmq n):CX 88 [.agg (ndE n)] (i64 (ue n)):=zHO n ▸ zB7 n h
def uv(t:AF)(x:LU)(j:Nat):LU:=ud t (x.take j)++List.replicate (x.length-j) zp
variable{j:Nat}
def zmt(t:AF)(x:LU)(h:j<=x.length):(uv t x j).length=x.length:=by
 unfold uv ud;rw[Xr,Xv,Xp,Ks];omega
def zmu{t:AF}{x:LU}{z:Pt}(h:x[j]?=some z):(uv t x j).set j (ku t z).1=uv t x (j+1):=by
 have b:j<x.length:=(Xd.1 h).1;have a:(ud t (x.take j)).length=j:=by unfold ud;rw[Xv,Xp];omega
 unfold uv;rw[show x.length-j=(x.length-(j+1))+1 by omega,List.replicate_succ,YH _ _ oM,a,QT,List.set_cons_zero];have e:ud t (x.take (j+1))=ud t (x.take j)++[(ku t z).1]:=by unfold ud;rw[Xn,h,Xz];rfl
 rw[e,XL];rfl
def tQ(rs:LQ)(t:AF):Nat->St
 |0=>⟨[(3,.loc 0 0),(4,.loc 1 0),(5,.loc 2 0),(15,.sl zk rs),(16,i64 rs.length),(17,i64 ((0:Nat):Int))],[(0,.box 51 (afE t)),(1,.box 88 [.val (.slice none 0 0)]),(2,.box 42 [i64 0])],3,48,3⟩
 |i+1=>⟨[(3,.loc 0 0),(4,.loc 1 0),(5,.loc 2 0),(15,.sl zk rs),(16,i64 rs.length),(17,i64 ((i+1:Nat):Int))],[(0,.box 51 (afE t)),(1,.box 88 [.own 3]),(2,.box 42 [i64 0]),(3,.garr 156 1 (yQ ((rs.take (i+1)).map (ud t))))],4,48,3⟩
def zHP(rs:LQ)(t:AF)(ht:t.le 100000)(K:rs.length<=100000)(I:∀r∈rs,(r.length:Int)<=9223372036854771711):CX 182 [.sl zk rs,wo t] (rgE (yy rs t)):=by
 refine zov 2 2 tok mix func182 rfl rfl rfl func254 rfl rfl<|⟨_,_,rfl,?_⟩;refine⟨_,_,rfl,?_⟩;refine wg (zhr rs I)<|⟨λk=>?_,λk=>?_⟩
 .have k:¬kC rs:=k;exact qO (by unfold yy;rw[Xe k])
 have k:kC rs:=Xa.1 k;have o:yy rs t=if zdS t rs≠0 then([],zdS t rs) else(rs.map (ud t),0):=by unfold yy;rw[kI k]
 have E:qh rs<=4096:=by have:=k.1;omega
 refine⟨_,_,_,_,_,rfl,rfl,rfl,rfl,?_⟩;refine⟨_,rfl,rfl,rfl,?_⟩;intro G;refine⟨Nat,tQ rs t,λi=>i<=rs.length/\∀r∈rs.take i,zdR t r=0,λi=>rs.length-i,0,⟨Xh _,λr H=>by cases H⟩,zf [0,1,2],?_⟩
 rintro(_|i) ⟨J,m⟩
 .refine⟨λg=>?_,λg=>?_⟩;rotate_left
  .have g:¬(((0:Nat):Int))<rs.length:=g;have F:rs=[]:=Xq oM;refine⟨_,.refl,rfl,?_⟩;refine⟨λh=>absurd rfl h,λ_=>?_⟩;exact qO (by rw[o,F];rfl)
  have g:((0:Nat):Int)<rs.length:=g;obtain⟨x,d⟩:∃x,rs[0]?=some x:=⟨_,Xb oM⟩;have w:=XC (vN (Xf d)) E;refine wb λy A=>?_;have ey:y=x:=Xl ((show rs[0]?=some y from A).symm.trans d);rw[ey];intro s;refine⟨Pt,ptE,zp,rfl,Ob.mk ⟨dC,oM,oM,(by show(x.length:Int)*16<=_;omega),oM⟩ ?_⟩;intro u
  refine⟨Nat,λj=>⟨[(3,.loc 0 0),(4,.loc 1 0),(5,.loc 2 0),(8,.own 3),(15,.sl zk rs),(16,i64 rs.length),(17,i64 ((0:Nat):Int)),(24,.sl ptE x),(25,i64 x.length),(26,i64 j)],[(0,.box 51 (afE t)),(1,.box 88 [nS]),(2,.box 42 [i64 0]),(3,.arr 28 ptE 2 (uv t x j))],4,48,3⟩,λj=>j<=x.length/\∀p∈x.take j,(ku t p).2=0,λj=>x.length-j,0,⟨Xh _,λp v=>by cases v⟩,?_,?_⟩
  .exact zt [0,1,2,3] ⟨rfl,rfl,rfl,aR (by unfold uv;rfl),tV⟩
  rintro j ⟨B,f⟩
  have zl:=zmt t x B;refine⟨λq:(j:Int)<x.length=>?_,λq:¬(j:Int)<x.length=>?_⟩
  .refine wb λz(a:x[j]?=some z)=>?_;refine wg (zfo t z ht)<|wb<|wb λold _=>?_;refine⟨(ku t z).1,rfl,?_⟩;refine⟨λe:¬(ku t z).2=0=>?_,λe=>?_⟩
   .have eL:=zhP a f e;have eR:=zhQ d m (by rw[eL];exact e);refine⟨_,.refl,rfl,?_⟩;refine⟨λ_=>?_,λh=>absurd e h⟩;exact qO (by rw[o,eR,eL,Xe e])
   have e:(ku t z).2=0:=Xa.1 e;exact wa<|⟨j+1,⟨oM,yz a f e⟩,zt [0,1,2,3] ⟨rfl,rfl,Xg (λn=>some (Mem.box 42 [i64 n])) e,aR (zmu a),tV⟩,oN⟩
  have etx:x.take j=x:=Xi oM;have ez:uv t x j=ud t x:=by unfold uv;rw[etx,show x.length-j=0 by omega];exact XE _
  rw[etx]at f;refine⟨[[.own 3]],rfl,wb8 ?_⟩;refine wb27<|wa<|⟨0+1,⟨oM,yz d m (zhO f)⟩,(za6 (sz0:=1) (T0:=156) 3 5 (enc:=ptE) (ys:=uv t x j) rfl rfl (xs':=yQ ([]++[uv t x j])) (by rfl) (λz a=>?_) zhR).trans (zt [0,1,2,5] ⟨rfl,rfl,rfl,⟨_,rfl,zaG ?_⟩,tV⟩),oN⟩
  .unfold yQ at a;obtain⟨b,_,rfl⟩:=XK.1 a;rfl
  rw[ez];rw[Xn,d];rfl
 refine⟨λg=>?_,λg=>?_⟩;rotate_left
 .have g:¬((i+1:Nat):Int)<rs.length:=g;have C:rs.take (i+1)=rs:=Xi oM;have D:=m;rw[C]at D;have er:yy rs t=(rs.map (ud t),0):=by rw[o,zqh D];rfl
  refine⟨_,zct 3 zk ((rs.take (i+1)).map (ud t)) rfl (λ_ _=>rfl),rfl,?_⟩;refine⟨λh=>absurd rfl h,λ_=>?_⟩;rw[er];exact zP (z6 (show(rs.take (i+1)).map (ud t)=rs.map (ud t) by rw[C])) .refl
 have g:(((i+1):Nat):Int)<rs.length:=g;obtain⟨x,d⟩:∃x,rs[(i+1)]?=some x:=⟨_,Xb oM⟩;have w:=XC (vN (Xf d)) E;refine wb λy A=>?_;have ey:y=x:=Xl ((show rs[(i+1)]?=some y from A).symm.trans d);rw[ey];intro s;refine⟨Pt,ptE,zp,rfl,Ob.mk ⟨dC,oM,oM,(by show(x.length:Int)*16<=_;omega),oM⟩ ?_⟩;intro u
 refine⟨Nat,λj=>⟨[(3,.loc 0 0),(4,.loc 1 0),(5,.loc 2 0),(8,.own 4),(15,.sl zk rs),(16,i64 rs.length),(17,i64 (((i+1):Nat):Int)),(24,.sl ptE x),(25,i64 x.length),(26,i64 j)],[(0,.box 51 (afE t)),(1,.box 88 [.own 3]),(2,.box 42 [i64 0]),(3,.garr 156 1 (yQ ((rs.take (i+1)).map (ud t)))),(4,.arr 28 ptE 2 (uv t x j))],5,48,3⟩,λj=>j<=x.length/\∀p∈x.take j,(ku t p).2=0,λj=>x.length-j,0,⟨Xh _,λp v=>by cases v⟩,?_,?_⟩
 .exact zt [0,1,2,3,4] ⟨rfl,rfl,rfl,⟨_,rfl,zaG rfl⟩,aR (by unfold uv;rfl),tV⟩
 rintro j ⟨B,f⟩
 have zl:=zmt t x B;refine⟨λq:(j:Int)<x.length=>?_,λq:¬(j:Int)<x.length=>?_⟩
 .refine wb λz(a:x[j]?=some z)=>?_;refine wg (zfo t z ht)<|wb<|wb λold _=>?_;refine⟨(ku t z).1,rfl,?_⟩;refine⟨λe:¬(ku t z).2=0=>?_,λe=>?_⟩
  .have eL:=zhP a f e;have eR:=zhQ d m (by rw[eL];exact e);refine⟨_,.refl,rfl,?_⟩;refine⟨λ_=>?_,λh=>absurd e h⟩;exact qO (by rw[o,eR,eL,Xe e])
  have e:(ku t z).2=0:=Xa.1 e;exact wa<|⟨j+1,⟨oM,yz a f e⟩,zt [0,1,2,3,4] ⟨rfl,rfl,Xg (λn=>some (Mem.box 42 [i64 n])) e,⟨_,rfl,zaG rfl⟩,aR (zmu a),tV⟩,oN⟩
 have etx:x.take j=x:=Xi oM;have ez:uv t x j=ud t x:=by unfold uv;rw[etx,show x.length-j=0 by omega];exact XE _
 rw[etx]at f;refine⟨[[.own 4]],rfl,wb8 ?_⟩;refine Ob.mk ⟨by show _*(24:Int)<=_;rw[vo,Xv,Xp];simp only[Xm,Xo];omega,by rw[vo,Xv,Xp];simp only[Xm,Xo];omega,dC⟩<|wa ?_
 refine⟨(i+1)+1,⟨oM,yz d m (zhO f)⟩,(za6 (sz0:=1) (T0:=156) 4 6 (enc:=ptE) (ys:=uv t x j) rfl rfl (xs':=yQ ((rs.take (i+1)).map (ud t)++[uv t x j])) (by rw[vo,Xr,Xr,vo];rfl) (λz a=>?_) zhR).trans (zt [0,1,2,6] ⟨rfl,rfl,rfl,⟨_,rfl,zaG ?_⟩,tV⟩),oN⟩
 .unfold yQ at a;obtain⟨b,_,rfl⟩:=XK.1 a;rfl
 rw[ez];rw[Xn (l:=rs) (i:=i+1),d,Xz];rfl
variable{pen:Pen}
def zB9{p:Pl}:∀r∈kv p pen,0<r.length:=by
 intro r a;unfold kv at a
 rcases Xu.1 a with a|a
 .rcases Xu.1 a with a|a
  .rw[zaj]at a
   rcases Xu.1 a with a|a
   .unfold zeA at a;obtain⟨i,_,a⟩:=QO.1 a;exact zcK a
   split at a
   .exact zcK a
   cases a
  rw[zcL]at a
  split at a
  .cases a
  unfold yj at a;obtain⟨i,_,a⟩:=QO.1 a;unfold zf0 at a
  split at a
  .cases a
  exact zp7 r a
 unfold zet at a
 split at a
 .exact zcK a
 split at a
 .rcases Xu.1 a with a|a <;> exact zcK a
 cases a
def zuU{p:Pl}:∀r∈(kB p pen).1,0<r.length:=by
 unfold kB
 split
 .intro r a;cases a
 split
 .intro r a;cases a
 split
 .intro r a;cases a
 split
 .intro r a;cases a
 split
 .intro r a;cases a
 exact zB9
def zjQ{pen:Pen}:∀{l:LZ},∀r∈(qr l pen).1,0<r.length
 |[],r,a=>by cases a
 |p::s,r,a=>by
  unfold qr at a
  split at a
  .cases a
  split at a
  .cases a
  rcases Xu.1 a with a|a
  .exact zuU r a
  exact zjQ r a
def zCa:∀{rs:LQ},(∀r∈rs,0<r.length)->rs.length<=qh rs
 |[],_=>Xh _
 |r::s,h=>by
  have b:=h r (.head _);have d:=zCa λq a=>h q (.tail _ a)
  rw[zhH,Xm];omega
def zeL(l:LZ)(pen:Pen):(qz l pen).1.length<=4096/\∀r∈(qz l pen).1,(r.length:Int)<=9223372036854771711:=by
 unfold qz
 split
 .exact⟨Xh _,λr a=>by cases a⟩
 split
 .exact⟨Xh _,λr a=>by cases a⟩
 split
 .exact⟨Xh _,λr a=>by cases a⟩
 rename_i h;have b:=zCa (zjQ (l:=l) (pen:=pen));exact⟨oN,λr a=>by have a:r∈(qr l pen).1:=a;have:=vN a;omega⟩
def zeM{pen:Pen}:∀{l:LZ},(∀p∈l,p.pts.length<=4096)->(jX l pen).1.length<=4096*l.length/\∀q∈(jX l pen).1,q.pts.length<=4096
 |[],_=>⟨Xj 0,λq a=>by cases a⟩
 |p::r,b=>by
  obtain⟨g,e⟩:=zeM (pen:=pen) (l:=r) λq a=>b q (.tail _ a)
  obtain⟨f,d⟩:=zb8 (pen:=pen) (b p (.head _));unfold jX
  split
  .exact⟨Xh _,λq a=>by cases a⟩
  split
  .exact⟨Xh _,λq a=>by cases a⟩
  rw[Xr,Xm];refine⟨oM,λq a=>?_⟩
  rcases Xu.1 a with a|a
  .exact d q a
  exact e q a
def zaV(l:LX)(pen:Pen)(t:AF)(tol:Int):LQ×Int:=
 if¬kF pen then([],13) else if (zY l tol).2≠0 then([],(zY l tol).2) else if (jX (zY l tol).1 pen).2≠0 then([],(jX (zY l tol).1 pen).2)
 else if (qz (jX (zY l tol).1 pen).1 pen).2≠0 then([],(qz (jX (zY l tol).1 pen).1 pen).2) else yy (qz (jX (zY l tol).1 pen).1 pen).1 t
def zyI(l:LX)(pen:Pen)(t:AF)(tol:Int)(ht:t.le 100000):CX 124 [.sl sgE l,ws pen,wo t,i64 tol] (rgE (zaV l pen t tol)):=by
 refine zc func124 ?_;have de:=zuL pen;refine wg (zEC pen)<|⟨λe=>?_,λe=>?_⟩
 .have e:¬(jH ⟨[],false⟩ pen).2=0:=e;have k:¬kF pen:=λk=>e (by rw[de,Xe k])
  refine qO ?_;rw[de,Xc k];unfold zaV;rw[Xe k]
 have e:(jH ⟨[],false⟩ pen).2=0:=Xa.1 e
 have f:kF pen:=by
  refine Xa.1 λk=>?_
  rw[de,Xc k]at e;exact absurd e dC
 have fs:=zb9 l tol;have cf:=zeM (pen:=pen) fs.2;refine wg (zBs l tol)<|⟨λa=>?_,λa=>?_⟩
 .have a:¬(zY l tol).2=0:=a;exact qO (by unfold zaV;rw[kI f,Xe a])
 have a:(zY l tol).2=0:=Xa.1 a;refine wg (zHC (zY l tol).1 pen fs.1 fs.2)<|⟨λb=>?_,λb=>?_⟩
 .have b:¬(jX (zY l tol).1 pen).2=0:=b;exact qO (by unfold zaV;rw[kI f,qP a,Xe b])
 have b:(jX (zY l tol).1 pen).2=0:=Xa.1 b;refine wg (zyi (jX (zY l tol).1 pen).1 pen oM cf.2) ?_;have sm:=zeL (jX (zY l tol).1 pen).1 pen;refine⟨λd:¬(qz (jX (zY l tol).1 pen).1 pen).2=0=>?_,λd=>?_⟩
 .exact qO (by unfold zaV;rw[kI f,qP a,qP b,Xe d])
 have d:(qz (jX (zY l tol).1 pen).1 pen).2=0:=Xa.1 d;refine wg (zHP (qz (jX (zY l tol).1 pen).1 pen).1 t ht oM sm.2) ?_;have ee:zaV l pen t tol=yy (qz (jX (zY l tol).1 pen).1 pen).1 t:=by unfold zaV;rw[kI f,qP a,qP b,qP d]
 rw[ee];exact .refl
def zyJ(l:LX)(pen:Pen)(t:AF)(tol:Int)(ht:t.le 100000):CX 105 [.sl sgE l,ws pen,wo t,i64 tol] (rgE (zaV l pen t tol)):=by
 refine zc func105<|wg (zdi pen)<|⟨λk=>?_,λk=>?_⟩
 .have k:¬kF pen:=k;exact qO (by unfold zaV;rw[Xe k])
 have h:kF pen:=Xa.1 k;have fs:=zb9 l tol;have cf:=zeM (pen:=pen) fs.2;refine wg (zBt l tol)<|⟨λa=>?_,λa=>?_⟩
 .have a:¬(zY l tol).2=0:=a;exact qO (by unfold zaV;rw[kI h,Xe a])
 have a:(zY l tol).2=0:=Xa.1 a;refine⟨Nat,λi=>⟨[(5,.loc 0 0),(6,.loc 1 0),(10,.sl plE (zY l tol).1),(12,.own 2),(13,i64 i)],[(0,.box 55 (jb pen)),(1,.box 51 (afE t)),(2,.arr 191 plE 2 (zdp ((zY l tol).1.take i) pen))],3,65,0⟩,λi=>i<=(zY l tol).1.length/\∀q∈(zY l tol).1.take i,(jH q pen).2=0,λi=>(zY l tol).1.length-i,0,⟨Xh _,λq m=>by cases m⟩,zB [(0,some 0),(1,some 1),(2,none)],?_⟩
 rintro i ⟨u,e⟩
 obtain⟨r,_⟩:=zgD (pen:=pen) (l:=(zY l tol).1.take i) λq m=>fs.2 q (XP m)
 rw[Xp]at r;intro s;refine⟨λg:(i:Int)<(zY l tol).1.length=>?_,λg:¬(i:Int)<(zY l tol).1.length=>?_⟩
 .refine wd<|wb λx(f:(zY l tol).1[i]?=some x)=>?_;have d:=fs.2 x (Xf f);refine wg (zHB x pen d)<|wh<|⟨λz=>?_,λz=>?_⟩
  .have z:¬(jH x pen).2=0:=z;have ce:=zi7 f e z;exact qO (by unfold zaV;rw[kI h,qP a,ce];exact Xe z)
  have z:(jH x pen).2=0:=Xa.1 z;obtain⟨s1,v⟩:=zb8 (pen:=pen) d;refine⟨(jH x pen).1,rfl,wb26 ?_⟩;exact wa<|⟨i+1,⟨oM,zhI f e z⟩,zt [0,1,3] ⟨rfl,rfl,aR (zot f).symm,tV⟩,oN⟩
 have n:(zY l tol).1.take i=(zY l tol).1:=Xi oM;rw[n]at e;have co:=zmi e;have c1:(jX (zY l tol).1 pen).1=zdp ((zY l tol).1.take i) pen:=by rw[co,n]
 have o:(jX (zY l tol).1 pen).2=0:=by rw[co]
 have ee:zaV l pen t tol=if (qz (zdp ((zY l tol).1.take i) pen) pen).2≠0 then([],(qz (zdp ((zY l tol).1.take i) pen) pen).2) else yy (qz (zdp ((zY l tol).1.take i) pen) pen).1 t:=by
  unfold zaV;rw[kI h,qP a,qP o,c1]
 rw[c1]at cf;refine zb.see 2 _ (zyj (zdp ((zY l tol).1.take i) pen) pen oM cf.2) rfl rfl rfl ?_;have sm:=zeL (zdp ((zY l tol).1.take i) pen) pen;refine⟨λb:¬(qz (zdp ((zY l tol).1.take i) pen) pen).2=0=>?_,λb=>?_⟩
 .exact qO (by rw[ee,Xe b])
 have b:(qz (zdp ((zY l tol).1.take i) pen) pen).2=0:=Xa.1 b;rw[qP b]at ee;refine wg (zHE (qz (zdp ((zY l tol).1.take i) pen) pen).1 t ht oM) ?_;rw[ee];exact .refl
def uJ(l:List Nd)(i:Nat):Int:=match l[i]? with
 |some n=>zhW l i n
 |none=>0
variable{l:List Nd}
def zdt{n:Nd}(h:l[i]?=some n):uJ l i=zhW l i n:=by unfold uJ;rw[h]
def zqp(l:List Nd):LK:=(List.range l.length).find? λi=>decide (uJ l i≠0)
def zES(hi:i<l.length)(h:∀j,j<i->uJ l j=0)(a:uJ l i≠0):zqp l=some i:=by
 unfold zqp;rw[Ym];exact⟨by simpa using a,XV.2 hi,λj b=>by simpa using h j b⟩
def zyK(h:∀j,j<l.length->uJ l j=0):zqp l=none:=by
 unfold zqp;rw[Yl];exact λj a=>by simpa using h j a
def zyL(h:zqp l=some i):i<l.length/\uJ l i≠0:=by
 unfold zqp at h;rw[Ym]at h;exact⟨XV.1 h.2.1,by simpa using h.1⟩
def zf4(s:Sc):Prop:=s.w<1∨256<s.w∨s.h<1∨256<s.h
instance (s:Sc):Decidable (zf4 s):=wj
def zj3(s:Sc):Int×Int:=if zf4 s then(6,0) else if 64<s.ns.length then(5,64) else match zqp s.ns with
 |some i=>(uJ s.ns i,i)
 |none=>(0,0)
def qy(s:Sc):Prop:=(zj3 s).1=0
instance (s:Sc):Decidable (qy s):=inferInstanceAs (Decidable (_=_))
def zmv{s:Sc}:qy s↔¬zf4 s/\s.ns.length<=64/\∀j,j<s.ns.length->uJ s.ns j=0:=by
 unfold qy zj3
 by_cases a:zf4 s
 .rw[Xe a];exact⟨λh=>absurd h dC,λh=>absurd a h.1⟩
 rw[Xc a]
 by_cases d:64<s.ns.length
 .rw[Xe d];exact⟨λh=>absurd h dC,λh=>absurd h.2.1 oM⟩
 rw[Xc d]
 cases b:zqp s.ns with
 |some i=>
  obtain⟨f,e⟩:=zyL b;exact⟨λh=>absurd h e,λh=>absurd (h.2.2 i f) e⟩
 |none=>
  refine⟨λ_=>⟨a,oM,λj g=>?_⟩,λ_=>rfl⟩;unfold zqp at b;rw[Yl]at b
  simpa using b j g
def zoC{n:Nd}(h:zhW l i n=0):ue n=0/\n.id∉(l.take i).map Nd.id/\jP l i n:=by
 unfold zhW at h
 by_cases a:ue n≠0
 .rw[Xe a]at h;exact absurd h a
 rw[Xc a]at h
 by_cases b:n.id∈(l.take i).map Nd.id
 .rw[Xe b]at h;exact absurd h dC
 rw[Xc b]at h
 by_cases d:jP l i n
 .exact⟨Xa.1 a,b,d⟩
 rw[Xe d]at h;exact absurd h dC
def zcR{n:Nd}(h:ue n=0):(1<=n.k/\n.k<=3)/\(0<=n.d/\n.d<8)/\n.t.ok/\zbT n.t≠0/\qU n.clip/\zhV n:=by
 unfold ue at h
 by_cases f:n.k<1∨3<n.k
 .rw[Xe f]at h;exact absurd h dC
 rw[Xc f]at h
 by_cases g:n.id<1∨1073741824<n.id∨n.d<0∨8<=n.d
 .rw[Xe g]at h;exact absurd h dC
 rw[Xc g]at h
 by_cases a:¬n.t.ok
 .rw[Xe a]at h;exact absurd h dC
 rw[Xc a]at h
 by_cases b:zbT n.t=0
 .rw[Xe b]at h;exact absurd h dC
 rw[Xc b]at h
 by_cases e:¬qU n.clip
 .rw[Xe e]at h;exact absurd h dC
 rw[Xc e]at h
 by_cases m:¬zhV n
 .rw[Xe m]at h;exact absurd h dC
 exact⟨oM,oM,Xa.1 a,b,Xa.1 e,Xa.1 m⟩
def zbP{s:Sc}(h:qy s){n:Nd}(a:s.ns[i]?=some n):ue n=0/\n.id∉(s.ns.take i).map Nd.id/\jP s.ns i n:=by
 have:=(zmv.1 h).2.2 i (Xd.1 a).1;rw[zdt a]at this;exact zoC this
def zJ(l:List Nd):LV:=l.map Nd.d
def yY{n:Nd}(h:l[i]?=some n):(zJ l)[i]?=some n.d:=by unfold zJ;rw[XD,h];rfl
def zam{d:Int}(h:(zJ l)[i]?=some d):∃n,l[i]?=some n/\n.d=d:=by
 unfold zJ at h;rw[XD]at h
 cases a:l[i]? with
 |none=>rw[a]at h;cases h
 |some n=>rw[a]at h;exact⟨n,rfl,Xl h⟩
def zaH{s:Sc}(h:qy s):zeJ (zJ s.ns):=by
 refine⟨λd f=>?_,λd f=>?_,λi a b g o=>?_⟩
 .obtain⟨n,e,rfl⟩:=zam f;have:=(zbP h e).2.2;unfold jP at this;rw[show s.ns[0-1]?=some n from e]at this;exact this
 .obtain⟨i,hi,q⟩:=Kw f;obtain⟨n,e,rfl⟩:=zam (q ▸ Xb hi);exact(zcR (zbP h e).1).2.1.1
 obtain⟨n,e,rfl⟩:=zam g;obtain⟨m,r,rfl⟩:=zam o;have:=(zbP h r).2.2;unfold jP at this;rw[show s.ns[i+1-1]?=some n from e]at this;have this:(n.k=1/\m.d=n.d+1)∨m.d<=n.d:=this;omega
def zfA(ds:LV)(i:Nat): -1<=yn ds i/\yn ds i<i:=⟨(zcQ ds _ i).1,(zcQ ds _ i).2.1⟩
def zjR(ds:LV):∀(n m:Nat) (i:Int),i<n->i<m->zgI ds n i=zgI ds m i
 |0,0,_,_,_=>rfl
 |0,m+1,i,h,_=>by show[]=if i<0 then[] else _;rw[Xe oM]
 |n+1,0,i,_,h=>by show(if i<0 then[] else _)=[];rw[Xe oM]
 |n+1,m+1,i,a,b=>by
  show(if i<0 then[] else i.toNat::zgI ds n (yn ds i.toNat))=if i<0 then[] else i.toNat::zgI ds m (yn ds i.toNat)
  by_cases c:i<0
  .rw[Xe c,Xe c]
  have:=zfA ds i.toNat;rw[Xc c,Xc c,zjR ds n m _ oM oM]
def qN(ds:LV)(i:Int):LC:=zgI ds (i+1).toNat i
def zbk{i:Int}(h:i<0):qN ds i=[]:=by
 unfold qN;rw[show(i+1).toNat=0 by omega];rfl
def jC(ds:LV)(i:Nat):qN ds i=i::qN ds (yn ds i):=by
 have h:=zfA ds i;unfold qN;rw[show((i:Int)+1).toNat=i+1 by omega];show(if (i:Int)<0 then[] else(i:Int).toNat::zgI ds i (yn ds (i:Int).toNat))=_;rw[Xc oM,show(i:Int).toNat=i from rfl,zjR ds i (yn ds i+1).toNat _ oM oM]
def zmw{ds:LV}:∀{k i a j:Nat},(qN ds i)[k]?=some a->yn ds a=j->(qN ds i)[k+1]?=some j
 |0,i,a,j,h,b=>by
  rw[jC]at h ⊢
  cases h
  show(qN ds (yn ds i))[0]?=some j;rw[b,jC];rfl
 |k+1,i,a,j,h,b=>by
  rw[jC]at h ⊢;have h:(qN ds (yn ds i))[k]?=some a:=h;show(qN ds (yn ds i))[k+1]?=some j
  rcases Qf (yn ds i) 0 with c|c
  .rw[zbk c]at h;cases h
  obtain⟨q,d⟩:=Qw c;rw[d]at h ⊢;exact zmw h b
def zja{ds:LV}(f:zeJ ds):∀{k i a:Nat} {d:Int},ds[i]?=some d->(qN ds i)[k]?=some a->ds[a]?=some (d-k)
 |0,i,a,d,b,h=>by
  rw[jC]at h
  cases h
  rw[b];congr 1;omega
 |k+1,i,a,d,b,h=>by
  rw[jC]at h;have h:(qN ds (yn ds i))[k]?=some a:=h;have g:=zhX f b;have n:=f.2.1 d (Xf b)
  by_cases c:d=0
  .rw[g.1 c,zbk dC]at h;cases h
  obtain⟨j,m,_,e⟩:=g.2 oM;rw[m]at h;have:=zja f e h;rw[this];congr 1;omega
def zfB{ds:LV}(e:zeJ ds):∀{d i:Nat},ds[i]?=some (d:Int)->(qN ds i).length=d+1
 |0,i,a=>by
  rw[jC,(zhX e a).1 rfl,zbk dC];rfl
 |d+1,i,a=>by
  obtain⟨j,f,_,b⟩:=(zhX e a).2 oM;rw[jC,f,Xm,zfB (d:=d) e (by rw[b];congr 1;omega)]
def tAt(l:List Nd)(k:Nat):AF:=match l[k]? with
 |some n=>n.t
 |none=>idA
def zsV{k:Nat}{n:Nd}(h:l[k]?=some n):tAt l k=n.t:=by unfold tAt;rw[h]
def trs(l:List Nd)(i:Int):List AF:=(qN (zJ l) i).map (tAt l)
def zCb{n:Nd}(h:l[i]?=some n):trs l i=n.t::trs l (yn (zJ l) i):=by
 unfold trs;rw[jC,Qu,zsV h]
def zET{i:Int}(h:i<0):trs l i=[]:=by unfold trs;rw[zbk h];rfl
def inS(s:Sc)(i:Int):Prop:=qy s/\0<=i/\i<s.ns.length
instance (s:Sc) (i:Int):Decidable (inS s i):=wi
def kj(s:Sc)(i:Int):AF×Int:=if¬qy s then(qJ,18) else if i<0∨s.ns.length<=i then(qJ,8) else vO (trs s.ns i)
def zNd:Nd:=⟨0,0,0,qJ,[],0,0,0,false,false,[],0,[],⟨0,0,0,0,[],0⟩,[],⟨0,0,[]⟩,0⟩
def zT(s:Sc)(i:Int):Nd:=if inS s i then(s.ns[i.toNat]?).getD zNd else zNd
def uS(w:AF×Int)(l:LX):LQ:=if w.2≠0 then[] else(yx l w.1 32).1
def vq(s:Sc)(i:Int):LQ:=if (zT s i).k≠2∨(zT s i).fill.length=0 then[] else uS (kj s i) (zT s i).path
def vT(s:Sc)(i:Int):LQ:=if (zT s i).k≠2∨(zT s i).strk.length=0 then[] else if (kj s i).2≠0 then[] else(zaV (zT s i).path (zT s i).pen (kj s i).1 32).1
def zdu(s:Sc)(i:Int):LQ:=if (zT s i).k≠3 then[] else uS (kj s i) (za2 0 0 (zT s i).im.w (zT s i).im.h)
def zoD(s:Sc)(i:Int):LQ:=if (zT s i).clip.length=0 then[] else uS (kj s i) (zT s i).clip
def zsW{l:LX}{t:AF}{tol:Int}(h:(yx l t tol).2≠0):(yx l t tol).1=[]:=by
 unfold yx at h ⊢
 by_cases a:(trans t l).2≠0
 .rw[Xe a]
 rw[Xc a]at h ⊢
 by_cases b:(zY (trans t l).1 tol).2≠0
 .rw[Xe b]
 rw[Xc b]at h;exact absurd rfl h
abbrev wq(x:Sc):SV:=.agg (scE x)
abbrev ww(x:Nd):SV:=.agg (ndE x)
abbrev LW:=List Nd
end Go.Gs
