/- The checks of a node, the program's text. -/
import Derived.Test.YtakicgnbhdpknaaGreatDoorPBJ
set_option maxRecDepth 100000
set_option maxHeartbeats 8000000
set_option linter.all false
namespace Go.Gs
open Proofs.Tryz
open Go.Proofs
def zBr(n:Int):CX 181 [i64 n] (pr (zdh n)):=by
 refine zc func181<|Br.mk (λh=>?_) (λh=>?_)
 .exact zH (.inl h)
 exact zB ⟨.inr,λk=>k.resolve_left h⟩
def zBs(xs ys:LV):CX 333 [.sl zM xs,.sl zM ys] (pr (xs=ys)):=by
 refine zc func333 λm n=>?_;refine⟨λa=>zd λe=>a (by rw[e]),λa=>?_⟩;have a:=Xa.1 a;intro o;refine⟨Int,λi=>⟨[(13,i64 i),(12,i64 xs.length),(0,.sl zM xs),(1,.sl zM ys)],[],0,26,0⟩,λi=>0<=i/\i<=xs.length/\∀j:Nat,(j:Int)<i->xs[j]?=ys[j]?,λi=>((xs.length:Int)-i).toNat,0,?_,?_,?_⟩
 .exact⟨oM,oM,λj d=>by omega⟩
 .exact zC []
 rintro i ⟨q,r,g⟩
 refine⟨λk=>?_,λk=>?_⟩
 .refine wc<|wb λx h=>wb λy f=>?_;refine⟨λb=>?_,λb=>?_⟩
  .refine zd λe=>b ?_
   subst e;rw[h]at f;exact Xl f
  refine wa<|⟨i+1,⟨oM,oM,λj d=>?_⟩,zC [],oN⟩
  by_cases e:j=i.toNat
  .subst e;rw[h,f,Xa.1 b]
  exact g j oM
 exact zH (Kw λj=>by
  by_cases d:(j:Int)<i
  .exact g j d
  rw[XG oM,XG oM])
def zPen:Pen:=⟨0,0,0,0,[],0⟩
def zD0:LE (.agg [i64 0,i64 0,i64 0,i64 0,nS,i64 0]) (ws zPen):=jp (.C (.C (.C (.C (.cons zD (.C .nil))))))
def zImg:Img:=⟨0,0,[]⟩
def zD1:LE (.agg [i64 0,i64 0,nS]) (.agg (zlY zImg)):=jp (.C (.C (.cons zD .nil)))
def zj6(a b:Pen):Prop:=a.w=b.w/\a.j=b.j/\a.c=b.c/\a.m=b.m/\a.ph=b.ph/\a.d=b.d
instance (a b:Pen):Decidable (zj6 a b):=wi
def zx3{p:Pen}:zj6 p zPen↔un p:=by
 unfold zj6 un zPen;constructor
 .rintro⟨a,b,d,e,f,g⟩;exact⟨a,b,d,e,g,f⟩
 rintro⟨a,b,d,e,f,g⟩;exact⟨a,b,d,e,g,f⟩
def zx4(a b:Pen):CX 264 [ws a,ws b] (pr (zj6 a b)):=by
 refine zc func264<|Br.mk (λe=>?_) (λe=>zd λk=>e k.1);refine⟨λf=>?_,λf=>zd λk=>f k.2.1⟩;refine⟨λg=>?_,λg=>zd λk=>g k.2.2.1⟩;refine⟨λm=>?_,λm=>zd λk=>m k.2.2.2.1⟩;refine⟨λn=>?_,λn=>zd λk=>n k.2.2.2.2.1⟩;exact wg (zBs a.d b.d)<|zB ⟨λh=>⟨e,f,g,m,n,h⟩,λk=>k.2.2.2.2.2⟩
def zvW(a:Pen):CX 264 [ws a,.agg [i64 0,i64 0,i64 0,i64 0,nS,i64 0]] (pr (un a)):=
 ((zx4 a zPen).args (.C (.cons zD0 .nil))).le (zB zx3)
def zGT(t:AF)(ht:t.le 10000000):CX 185 [wo t] (pr (zbO t=0)):=by
 refine zc func185 ?_;refine wg (zld t ht) ?_;refine wg (yR 0 (by constructor <;> decide)) ?_;have a:=zjj (ofQ (zbO t)) (ofQ ((0:Int):Rat)) (by have:=zhD ht;rw[zF];omega) (by decide +kernel);rw[kw,kw]at a;refine wg a ?_;exact zB (Yw.1 (uM _))
def uD(l:LY):Prop:=∀p∈l,vL p
instance (l:LY):Decidable (uD l):=inferInstanceAs (Decidable (∀p∈l,_))
def zfO(l:LY):Prop:=∀p∈l,p.t.le 1000/\p.im.px.length<=9223372036854775807
def zum(l:LY):Int:=match l.findIdx? (λp=>¬vL p) with|some i=>i|none=> -1
def zD2{l:LY}{i:Nat}{x:Pnt}(h:∀(j:Nat) q,j<i->l[j]?=some q->vL q)(d:l[i]?=some x)(a:¬vL x):zum l=i:=by
 have:l.findIdx? (λp=>¬vL p)=some i:=by
  rw[KN];have hi:=(Xd.1 d);refine⟨hi.1,by rw[hi.2];simpa using a,λj b=>?_⟩;have:=h j _ b (Xb (by have:=hi.1;omega))
  simpa using this
 unfold zum;rw[this]
def zoc{l:LY}(h:∀p∈l,vL p):zum l= -1:=by
 have:l.findIdx? (λp=>¬vL p)=none:=by
  rw[Kz];intro p a;simpa using h p a
 unfold zum;rw[this]
def zsq{l:LY}:0<=zum l↔¬uD l:=by
 by_cases h:uD l
 .rw[zoc h];exact⟨λk=>by omega,λk=>absurd h k⟩
 refine⟨λ_=>h,λ_=>?_⟩;unfold zum
 cases a:l.findIdx? (λp=>¬vL p) with
 |some i=>exact Int.natCast_nonneg i
 |none=>rw[Kz]at a;exact absurd (λp b=>by simpa using a p b) h
def zGU(p:Pnt)(b:p.t.le 1000)(a:p.im.px.length<=9223372036854775807):CX 336 [wx p] (pr (¬vL p)):=by
 exact zc func336<|wg (zul p b a)<|zB Qj
def zD3(xs:LY)(ht:zfO xs):CX 388 [.sl yG xs,.fn 336 []] (i64 (zum xs)):=by
 refine zc func388 λn=>?_;refine⟨Int,λi=>⟨[(8,i64 i),(7,i64 xs.length),(0,.sl yG xs),(1,.fn 336 [])],[],0,19,0⟩,λi=>0<=i/\i<=xs.length/\∀(j:Nat) q,(j:Int)<i->xs[j]?=some q->vL q,λi=>((xs.length:Int)-i).toNat,0,?_,?_,?_⟩
 .exact⟨oM,oM,λj q a=>by omega⟩
 .exact zC []
 rintro i ⟨r,s,b⟩
 refine⟨λk=>?_,λk=>?_⟩
 .refine wb λx g=>?_;have h:=ht x (Xf g);refine wg (zGU x h.1 h.2)<|⟨λd=>?_,λd=>?_⟩
  .refine ze ?_;rw[zD2 (i:=i.toNat) (λj q a=>b j q oM) g d];omega
  refine wa<|⟨i+1,⟨oM,oM,λj q a f=>?_⟩,zC [],oN⟩
  by_cases e:j=i.toNat
  .subst e;rw[g]at f;cases f;exact Xa.1 d
  exact b j q oM f
 refine ze (zoc λp o=>?_).symm;obtain⟨j,a,m⟩:=Ks o;exact b j p oM (by rw[←m];exact Xb a)
def zun(xs:LY)(ht:zfO xs):CX 335 [.sl yG xs,.fn 336 []] (pr (¬uD xs)):=by
 exact zc func335<|wg (zD3 xs ht)<|zB zsq
def zFj(xs:LY)(ht:zfO xs):CX 266 [.sl yG xs] (pr (uD xs)):=by
 exact zc func266<|wg (zun xs ht)<|zB Xa
def vN(n:Nd):Prop:=if n.k=1 then(zdC n/\un n.pen)/\zcG n else if n.k=2 then zcF n/\zcG n else zcF n/\zdC n/\un n.pen
instance (n:Nd):Decidable (vN n):=by unfold vN;infer_instance
def zpX{n:Nd}:zcG n↔n.im=zImg/\n.smp=0:=by
 unfold zcG zImg
 obtain⟨id,k,d,t,clip,cr,op,mode,iso,ko,path,rule,fill,pen,strk,⟨w,h,px⟩,smp⟩:=n
 simp only[Img.mk.injEq,XP];constructor
 .rintro⟨a,b,e,f⟩;exact⟨⟨a,b,e⟩,f⟩
 rintro⟨⟨a,b,e⟩,f⟩;exact⟨a,b,e,f⟩
def zGV(n:Nd):CX 187 [ww n] (pr (vN n)):=by
 refine zc2 tok func187 rfl rfl rfl (zdH.cut tok mix 2 (λ_:Unit=>⟨[(3,pr (zcF n)),(1,.loc 0 0)],[(0,.box 66 (ndE n))],1,78,0⟩) (λ_=>True) ?_ λ_ _=>
  zdH.cut tok mix 1 (λ_:Unit=>⟨[(4,pr (zdC n/\un n.pen)),(3,pr (zcF n)),(1,.loc 0 0)],[(0,.box 66 (ndE n))],1,78,0⟩) (λ_=>True) ?_ λ_ _=>
  zdH.cut tok mix 1 (λ_:Unit=>⟨[(5,pr (zcG n)),(4,pr (zdC n/\un n.pen)),(3,pr (zcF n)),(1,.loc 0 0)],[(0,.box 66 (ndE n))],1,78,0⟩) (λ_=>True) ?_ λ_ _=>zdH.vc tok mix ?_)
 .refine⟨λb=>?_,λb=>⟨(),tV,(qQ (t:=3) rfl (zd λk=>b k.1)).trans (qI [(0,some 0)] rfl rfl rfl ⟨rfl,rfl,tV⟩ ⟨rfl,tV⟩)⟩⟩;refine⟨λd=>?_,λd=>⟨(),tV,(qQ (t:=3) rfl (zd λk=>d k.2.1)).trans (qI [(0,some 0)] rfl rfl rfl ⟨rfl,rfl,tV⟩ ⟨rfl,tV⟩)⟩⟩;refine⟨λf=>?_,λf=>⟨(),tV,(qQ (t:=3) rfl (zd λk=>f (by rw[k.2.2.1];decide))).trans (qI [(0,some 0)] rfl rfl rfl ⟨rfl,rfl,tV⟩ ⟨rfl,tV⟩)⟩⟩
  exact⟨(),tV,(qQ (t:=3) rfl (zB ⟨λh=>⟨b,d,by simpa using f,by simpa using h⟩,λk=>by rw[k.2.2.2];decide⟩)).trans (qI [(0,some 0)] rfl rfl rfl ⟨rfl,rfl,tV⟩ ⟨rfl,tV⟩)⟩
 .intro q;refine⟨λb=>?_,λb=>⟨(),tV,(qQ (t:=4) rfl (zd λk=>b (by have:=k.1.1;omega))).trans (qI [(0,some 0)] rfl rfl rfl ⟨rfl,rfl,rfl,tV⟩ ⟨rfl,tV⟩)⟩⟩;refine⟨λd=>?_,λd=>⟨(),tV,(qQ (t:=4) rfl (zd λk=>d k.1.2.1)).trans (qI [(0,some 0)] rfl rfl rfl ⟨rfl,rfl,rfl,tV⟩ ⟨rfl,tV⟩)⟩⟩;intro r;refine⟨λf=>?_,λf=>⟨(),tV,(qQ (t:=4) rfl (zd λk=>f (by have:=k.1.2.2.1;omega))).trans (qI [(0,some 0)] rfl rfl rfl ⟨rfl,rfl,rfl,tV⟩ ⟨rfl,tV⟩)⟩⟩
  intro s;refine⟨λo=>?_,λo=>⟨(),tV,(qQ (t:=4) rfl (zd λk=>o (by have:=k.1.2.2.2;omega))).trans (qI [(0,some 0)] rfl rfl rfl ⟨rfl,rfl,rfl,tV⟩ ⟨rfl,tV⟩)⟩⟩;exact wg (zvW n.pen)<|⟨(),tV,(qQ (t:=4) rfl (zB ⟨λh=>⟨⟨oM,d,oM,oM⟩,h⟩,λk=>k.2⟩)).trans (qI [(0,some 0)] rfl rfl rfl ⟨rfl,rfl,rfl,tV⟩ ⟨rfl,tV⟩)⟩
 .refine wg ((zn8 n.im zImg).args (.C (.cons zD1 .nil)))<|⟨λb=>?_,λb=>⟨(),tV,(qQ (t:=5) rfl (zd λk=>b (zpX.1 k).1)).trans (qI [(0,some 0)] rfl rfl rfl ⟨rfl,rfl,rfl,rfl,tV⟩ ⟨rfl,tV⟩)⟩⟩;exact⟨(),tV,(qQ (t:=5) rfl (zB ⟨λh=>zpX.2 ⟨b,h⟩,λk=>(zpX.1 k).2⟩)).trans (qI [(0,some 0)] rfl rfl rfl ⟨rfl,rfl,rfl,rfl,tV⟩ ⟨rfl,tV⟩)⟩
 refine⟨λg=>?_,λg=>?_⟩
 .have e:vN n↔(zdC n/\un n.pen)/\zcG n:=by unfold vN;rw[Xe g]
  exact⟨λa=>zB ⟨λh=>e.2 ⟨a,h⟩,λk=>(e.1 k).2⟩,λa=>zd λk=>a (e.1 k).1⟩
 refine⟨λm=>?_,λm=>?_⟩
 .have e:vN n↔zcF n/\zcG n:=by unfold vN;rw[Xc g,Xe m]
  exact⟨λa=>zB ⟨λh=>e.2 ⟨a,h⟩,λk=>(e.1 k).2⟩,λa=>zd λk=>a (e.1 k).1⟩
 have e:vN n↔zcF n/\zdC n/\un n.pen:=by unfold vN;rw[Xc g,Xc m]
 exact⟨λa=>zB ⟨λh=>e.2 ⟨a,h⟩,λk=>(e.1 k).2⟩,λa=>zd λk=>a (e.1 k).1⟩
def zsr(n:Nd):Prop:=n.k<1∨3<n.k
instance (n:Nd):Decidable (zsr n):=wj
def zmU(n:Nd):Prop:=n.id<1∨1073741824<n.id∨n.d<0∨8<=n.d
instance (n:Nd):Decidable (zmU n):=wj
def zdj(n:Nd):Er:=zbw [k8 (zsr n) 2,k8 (zmU n) 6,k8 (¬n.t.ok) 5,k8 (zbO n.t=0) 9,k8 (¬valid n.clip) 10,k8 (¬u9 n∨¬vN n) 17]
def zBt(n:Nd)(ht:n.t.le 1000):CX 125 [ww n] (.op (erV (zdj n))):=by
 refine zc2 tok func125 rfl rfl rfl (zdH.cut tok mix 2 (λ_:Unit=>⟨[(3,pr (u9 n)),(1,.loc 0 0)],[(0,.box 66 (ndE n))],1,76,0⟩) (λ_=>True) ?_ λ_ _=>zdH.vc tok mix ?_)
 .intro q;refine⟨λo=>?_,λo=>?_⟩
  .refine⟨λb=>⟨(),tV,(qQ (t:=3) rfl (zH (.inl ⟨oM,b⟩))).trans (qI [(0,some 0)] rfl rfl rfl ⟨rfl,rfl,tV⟩ ⟨rfl,tV⟩)⟩,λb=>?_⟩;intro e;refine⟨λd=>?_,λd=>⟨(),tV,(qQ (t:=3) rfl (zd λk=>k.elim (λk=>b k.2) λk=>by have:=k.1;omega)).trans (qI [(0,some 0)] rfl rfl rfl ⟨rfl,rfl,tV⟩ ⟨rfl,tV⟩)⟩⟩;omega
  intro e;refine⟨λd=>?_,λd=>?_⟩
  .exact wg (zBr n.cr)<|⟨(),tV,(qQ (t:=3) rfl (zB ⟨λh=>.inr ⟨oM,h⟩,λk=>k.elim (λk=>by have:=k.1;omega) λk=>k.2⟩)).trans (qI [(0,some 0)] rfl rfl rfl ⟨rfl,rfl,tV⟩ ⟨rfl,tV⟩)⟩
  omega
 refine wd<|Br.mk (λa=>?_) (λa=>?_)
 all_goals refine wg ((yC (zsr n) 2).args (.cons (by first|exact zH (.inl a)|exact zB ⟨.inr,λk=>k.resolve_left a⟩) LEs.refl)) ?_
 all_goals (refine⟨λf=>?_,λf=>?_⟩;rotate_left;refine⟨λg=>?_,λg=>?_⟩;rotate_left;refine⟨λm=>?_,λm=>?_⟩)
 all_goals refine wg ((yC (zmU n) 6).args (.cons (by first|exact zH (by unfold zmU;omega)|exact zB (by unfold zmU;constructor <;> intro <;> omega)) LEs.refl)) ?_
 all_goals refine wg (zg1 n.t (ht.up dC)) ?_
 all_goals refine wg (yC (¬n.t.ok) 5) ?_
 all_goals refine wg (zGT n.t (ht.up dC)) ?_
 all_goals refine wg (yC (zbO n.t=0) 9) ?_
 all_goals refine wg (zjU n.clip) ?_
 all_goals refine wg (yC (¬valid n.clip) 10) ?_
 all_goals refine⟨λc1=>?_,λc1=>?_⟩
 all_goals first
  |refine wg ((yC (¬u9 n∨¬vN n) 17).args (.cons (zH (.inl c1)) LEs.refl)) ?_
  |(refine wg (zGV n) ?_;refine wg ((yC (¬u9 n∨¬vN n) 17).args (.cons (zB ⟨.inr,λk=>k.resolve_left c1⟩) LEs.refl)) ?_)
 all_goals refine⟨Er,zzn,[k8 (zsr n) 2,k8 (zmU n) 6,k8 (¬n.t.ok) 5,k8 (zbO n.t=0) 9,k8 (¬valid n.clip) 10,k8 (¬u9 n∨¬vN n) 17],rfl,wb16 ?_⟩
 all_goals refine zb.see 1 _ (zo2 [k8 (zsr n) 2,k8 (zmU n) 6,k8 (¬n.t.ok) 5,k8 (zbO n.t=0) 9,k8 (¬valid n.clip) 10,k8 (¬u9 n∨¬vN n) 17]) rfl rfl rfl ?_
 all_goals refine wh ?_
 all_goals exact .refl
def zpY(n:Nd):Er:=zbw [k8 (¬valid n.path) 10,k8 (¬zdh n.rule) 2,k8 (1<n.fill.length∨1<n.strk.length) 5,k8 (0<n.strk.length/\¬kE n.pen) 13,k8 (n.strk.length=0/\¬un n.pen) 17,k8 (¬uD n.fill∨¬uD n.strk) 16]
def zD4(n:Nd)(e:zfO n.fill)(f:zfO n.strk):CX 189 [ww n] (.op (erV (zpY n))):=by
 refine zc func189 λg=>wd<|wg (zjU n.path)<|wg (yC (¬valid n.path) 10)<|wg (zBr n.rule)<|wg (yC (¬zdh n.rule) 2) λm=>?_;refine⟨λb=>?_,λb=>?_⟩;rotate_left;intro o
 all_goals refine wg ((yC (1<n.fill.length∨1<n.strk.length) 5).args (.cons (by first|exact zH (.inl oM)|exact zB (by constructor <;> intro <;> omega)) LEs.refl)) ?_
 all_goals refine⟨λd=>?_,λd=>?_⟩
 all_goals first
  |(refine wg (ze5 n.pen) ?_;refine wg ((yC (0<n.strk.length/\¬kE n.pen) 13).args (.cons (zB ⟨λh=>⟨oM,h⟩,λk=>k.2⟩) LEs.refl)) ?_)
  |refine wg ((yC (0<n.strk.length/\¬kE n.pen) 13).args (.cons (zd oM) LEs.refl)) ?_
 all_goals refine⟨λc1=>?_,λc1=>?_⟩
 all_goals first
  |(refine wg (zvW n.pen) ?_;refine wg ((yC (n.strk.length=0/\¬un n.pen) 17).args (.cons (zB ⟨λh=>⟨oM,h⟩,λk=>k.2⟩) LEs.refl)) ?_)
  |refine wg ((yC (n.strk.length=0/\¬un n.pen) 17).args (.cons (zd oM) LEs.refl)) ?_
 all_goals refine wg (zFj n.fill e) ?_
 all_goals refine⟨λa=>?_,λa=>?_⟩
 all_goals first
  |refine wg ((yC (¬uD n.fill∨¬uD n.strk) 16).args (.cons (zH (.inl a)) LEs.refl)) ?_
  |(refine wg (zFj n.strk f) ?_;refine wg ((yC (¬uD n.fill∨¬uD n.strk) 16).args (.cons (zB ⟨.inr,λk=>k.resolve_left a⟩) LEs.refl)) ?_)
 all_goals refine⟨Er,zzn,[k8 (¬valid n.path) 10,k8 (¬zdh n.rule) 2,k8 (1<n.fill.length∨1<n.strk.length) 5,k8 (0<n.strk.length/\¬kE n.pen) 13,k8 (n.strk.length=0/\¬un n.pen) 17,k8 (¬uD n.fill∨¬uD n.strk) 16],rfl,wb16 ?_⟩
 all_goals refine zb.see 1 _ (zo2 [k8 (¬valid n.path) 10,k8 (¬zdh n.rule) 2,k8 (1<n.fill.length∨1<n.strk.length) 5,k8 (0<n.strk.length/\¬kE n.pen) 13,k8 (n.strk.length=0/\¬un n.pen) 17,k8 (¬uD n.fill∨¬uD n.strk) 16]) rfl rfl rfl ?_
 all_goals refine wh ?_
 all_goals exact .refl
def zmV(n:Nd):Er:=if n.k=1 then k8 (¬zl2 n.mode) 2 else if n.k=2 then zpY n else zbw [k8 (¬zfM n.im) 16,k8 (n.smp≠1/\n.smp≠2) 2]
def zl4(n:Nd):Prop:=n.t.le 1000/\zfO n.fill/\zfO n.strk/\n.im.px.length<=9223372036854775807
def g_own(n:Nd)(h:zl4 n):CX 126 [ww n] (.op (erV (zmV n))):=by
 obtain⟨_,e,f,g⟩:=h;refine zc func126<|Br.mk (λa=>?_) (λa=>?_)
 .refine wg (zGR n.mode)<|wg (yC (¬zl2 n.mode) 2) ?_;rw[zmV,Xe a];exact .refl
 refine⟨λd=>?_,λd=>?_⟩
 .refine wg (zD4 n e f) ?_;rw[zmV,Xc a,Xe d];exact .refl
 rw[zmV,Xc a,Xc d];refine wd<|wg (zn7 n.im g)<|wg (yC (¬zfM n.im) 16)<|⟨λb=>?_,λb=>?_⟩
 all_goals refine wg ((yC (n.smp≠1/\n.smp≠2) 2).args (.cons (by first|exact zB ⟨λh=>⟨b,h⟩,λk=>k.2⟩|exact zd λk=>b k.1) LEs.refl)) ?_
 all_goals refine⟨Er,zzn,[k8 (¬zfM n.im) 16,k8 (n.smp≠1/\n.smp≠2) 2],rfl,wb16 ?_⟩
 all_goals refine zb.see 1 _ (zo2 [k8 (¬zfM n.im) 16,k8 (n.smp≠1/\n.smp≠2) 2]) rfl rfl rfl ?_
 all_goals refine wh ?_
 all_goals exact .refl
def zeC:Er->Int->Int
 |.nil,c=>c
 |.w c u,_=>zeC u c
def zvX:Er->Nat
 |.nil=>0
 |.w _ u=>zvX u+1
def zuo(n:Nd):Er:=match zdj n with
 |.nil=>zmV n
 |.w c u=>.w c u
def cellA:Option (Int×Er)->SV
 |none=>i64 0
 |some (a,_)=>i64 a
def zGW:Option (Int×Er)->SV
 |none=>.val .nilIface
 |some (_,b)=>.op (erV b)
def zBu(n:Nd)(h:zl4 n):CX 89 [ww n] (i64 (zeC (zuo n) 0)):=by
 refine zc2 tok func89 rfl rfl rfl (zdH.cut tok mix 3 (λ_:Unit=>⟨[(3,.op (erV (zuo n)))],[],1,20,0⟩) (λ_=>True) ?_ λ_ _=>zdH.vc tok mix ?_)
 .have f:=zBt n h.1;have ht:zuo n=match zdj n with|.nil=>zmV n|.w c u=>.w c u:=rfl
  revert f ht
  generalize zdj n=e
  cases e with
  |nil=>
   intro f ht;refine wg f<|Br.mk (λ_=>?_) (λk=>absurd rfl k);refine wg (g_own n h) ?_;rw[ht];exact⟨(),tV,zf [0]⟩
  |w c u=>
   intro f ht;refine wg f<|Br.mk (λk=>by cases k) (λ_=>?_);rw[ht];exact⟨(),tV,zf [0]⟩
 refine⟨Er×Int×Option (Int×Er),λx=>⟨[(4,i64 x.2.1),(3,.op (erV x.1)),(5,.loc 1 0)],[(1,.box 155 [cellA x.2.2,zGW x.2.2])],2,20,0⟩,λx=>zeC x.1 x.2.1=zeC (zuo n) 0,λx=>zvX x.1,(zuo n,0,none),rfl,zC [(1,some 1)],?_⟩
 rintro⟨e,c,o⟩ hI
 cases e with
 |nil=>
  rcases o with _|⟨a,b⟩
  .exact zb.give [1] 0 [.op (erV .nil),.ifc 157 (.loc 0 0)] [(0,.box 155 [i64 0,.val .nilIface])] [(0,.box 155 [i64 0,.val .nilIface])] (bl false) (zqX _ _) LEs.refl rfl rfl rfl ⟨⟨_,rfl,rfl,rfl⟩,tV⟩ rfl ⟨⟨rfl,rfl⟩,tV⟩<|ze hI
  exact zb.give [1] 0 [.op (erV .nil),.ifc 157 (.loc 0 0)] [(0,.box 155 [i64 a,.op (erV b)])] [(0,.box 155 [i64 a,.op (erV b)])] (bl false) (zqX _ _) LEs.refl rfl rfl rfl ⟨⟨_,rfl,rfl,rfl⟩,tV⟩ rfl ⟨⟨rfl,rfl⟩,tV⟩<|ze hI
 |w d u=>
  rcases o with _|⟨a,b⟩
  .exact zb.give [1] 0 [.op (erV (.w d u)),.ifc 157 (.loc 0 0)] [(0,.box 155 [i64 0,.val .nilIface])] [(0,.box 155 [i64 d,.op (erV u)])] (bl true) (zqY d u _ _) LEs.refl rfl rfl rfl ⟨⟨_,rfl,rfl,rfl⟩,tV⟩ rfl ⟨⟨rfl,rfl⟩,tV⟩<|wc<|⟨(u,d,some (d,u)),hI,zC [(1,some 1)],by dsimp only[zvX];omega⟩
  exact zb.give [1] 0 [.op (erV (.w d u)),.ifc 157 (.loc 0 0)] [(0,.box 155 [i64 a,.op (erV b)])] [(0,.box 155 [i64 d,.op (erV u)])] (bl true) (zqY d u _ _) LEs.refl rfl rfl rfl ⟨⟨_,rfl,rfl,rfl⟩,tV⟩ rfl ⟨⟨rfl,rfl⟩,tV⟩<|wc<|⟨(u,d,some (d,u)),hI,zC [(1,some 1)],by dsimp only[zvX];omega⟩
variable{p:Prop}{c:Int}
def zl5[Decidable p]{l:List Er}:zbw (k8 p c::l)=if p then .w 0 (.w c .nil) else zbw l:=by unfold k8;split <;> rfl
def zx5[Decidable p]:zeC (k8 p c) 0=if p then c else 0:=by unfold k8;split <;> rfl
def zBv{n:Nd}:¬zhE n↔¬u9 n∨¬vN n:=by
 show¬(u9 n/\vN n)↔_;exact Decidable.not_and_iff_or_not
def zl6[Decidable p]{l:List Er}:zeC (zbw (k8 p c::l)) 0=if p then c else zeC (zbw l) 0:=by rw[zl5];split <;> rfl
def zGX(n:Nd):zeC (zuo n) 0=ua n:=by
 have q:zeC (zpY n) 0=vM n:=by
  unfold zpY vM;simp only[zl6];rfl
 have o:zeC (zmV n) 0=if n.k=1 then(if¬(1<=n.mode/\n.mode<=13) then 2 else 0) else if n.k=2 then vM n else if¬zfM n.im then 16 else if n.smp≠1/\n.smp≠2 then 2 else 0:=by
  unfold zmV
  split
  .exact zx5
  split
  .exact q
  simp only[zl6];rfl
 have ht:zuo n=match zdj n with|.nil=>zmV n|.w c u=>.w c u:=rfl
 have h:ua n=if zsr n then 2 else if zmU n then 6 else if¬n.t.ok then 5 else if zbO n.t=0 then 9 else if¬valid n.clip then 10 else if¬u9 n∨¬vN n then 17 else zeC (zmV n) 0:=by
  rw[o];unfold ua;simp only[zBv];rfl
 rw[h,ht]
 have m:zdj n=if zsr n then .w 0 (.w 2 .nil) else if zmU n then .w 0 (.w 6 .nil) else if¬n.t.ok then .w 0 (.w 5 .nil) else if zbO n.t=0 then .w 0 (.w 9 .nil) else if¬valid n.clip then .w 0 (.w 10 .nil) else if¬u9 n∨¬vN n then .w 0 (.w 17 .nil) else .nil:=by
  unfold zdj;simp only[zl5];rfl
 rw[m]
 by_cases a:zsr n
 .simp only[Xe a];rfl
 simp only[Xc a]
 by_cases b:zmU n
 .simp only[Xe b];rfl
 simp only[Xc b]
 by_cases d:¬n.t.ok
 .simp only[Xe d];rfl
 simp only[Xc d]
 by_cases e:zbO n.t=0
 .simp only[Xe e];rfl
 simp only[Xc e]
 by_cases f:¬valid n.clip
 .simp only[Xe f];rfl
 simp only[Xc f]
 by_cases g:¬u9 n∨¬vN n
 .simp only[Xe g];rfl
 simp only[Xc g]
def zD5(n:Nd)(h:zl4 n):CX 89 [ww n] (i64 (ua n)):=zGX n ▸ zBu n h
def uq(t:AF)(x:LU)(j:Nat):LU:=y9 t (x.take j)++List.replicate (x.length-j) zp
variable{j:Nat}
def zl7(t:AF)(x:LU)(h:j<=x.length):(uq t x j).length=x.length:=by
 unfold uq y9;rw[Xq,Xw,Xo,Kq];omega
def zl8{t:AF}{x:LU}{z:Pt}(h:x[j]?=some z):(uq t x j).set j (ku t z).1=uq t x (j+1):=by
 have b:j<x.length:=(Xd.1 h).1;have a:(y9 t (x.take j)).length=j:=by unfold y9;rw[Xw,Xo];omega
 unfold uq;rw[show x.length-j=(x.length-(j+1))+1 by omega,List.replicate_succ,YB _ _ oM,a,QQ,List.set_cons_zero];have e:y9 t (x.take (j+1))=y9 t (x.take j)++[(ku t z).1]:=by unfold y9;rw[Xm,h,XA];rfl
 rw[e,XM];rfl
def tQ(rs:LQ)(t:AF):Nat->St
 |0=>⟨[(3,.loc 0 0),(4,.loc 1 0),(5,.loc 2 0),(15,.sl zk rs),(16,i64 rs.length),(17,i64 ((0:Nat):Int))],[(0,.box 57 (afE t)),(1,.box 94 [.val (.slice none 0 0)]),(2,.box 42 [i64 0])],3,48,3⟩
 |i+1=>⟨[(3,.loc 0 0),(4,.loc 1 0),(5,.loc 2 0),(15,.sl zk rs),(16,i64 rs.length),(17,i64 ((i+1:Nat):Int))],[(0,.box 57 (afE t)),(1,.box 94 [.own 3]),(2,.box 42 [i64 0]),(3,.garr 148 1 (yN ((rs.take (i+1)).map (y9 t))))],4,48,3⟩
def zGY(rs:LQ)(t:AF)(ht:t.le 100000)(K:rs.length<=100000)(I:∀r∈rs,(r.length:Int)<=9223372036854771711):CX 178 [.sl zk rs,wo t] (rgE (yr rs t)):=by
 refine zn6 2 2 tok mix func178 rfl rfl rfl func256 rfl rfl<|⟨_,_,rfl,?_⟩;refine⟨_,_,rfl,?_⟩;refine wg (zha rs I)<|⟨λk=>?_,λk=>?_⟩
 .have k:¬kB rs:=k;exact qJ (by unfold yr;rw[Xe k])
 have k:kB rs:=Xa.1 k;have o:yr rs t=if zdL t rs≠0 then([],zdL t rs) else(rs.map (y9 t),0):=by unfold yr;rw[kI k]
 have E:qe rs<=4096:=by have:=k.1;omega
 refine⟨_,_,_,_,_,rfl,rfl,rfl,rfl,?_⟩;refine⟨_,rfl,rfl,rfl,?_⟩;intro G;refine⟨Nat,tQ rs t,λi=>i<=rs.length/\∀r∈rs.take i,zdK t r=0,λi=>rs.length-i,0,⟨Xh _,λr H=>by cases H⟩,zf [0,1,2],?_⟩
 rintro(_|i) ⟨J,m⟩
 .refine⟨λg=>?_,λg=>?_⟩;rotate_left
  .have g:¬(((0:Nat):Int))<rs.length:=g;have F:rs=[]:=Xp oM;refine⟨_,.refl,rfl,?_⟩;refine⟨λh=>absurd rfl h,λ_=>?_⟩;exact qJ (by rw[o,F];rfl)
  have g:((0:Nat):Int)<rs.length:=g;obtain⟨x,d⟩:∃x,rs[0]?=some x:=⟨_,Xb oM⟩;have w:=XB (vI (Xf d)) E;refine wb λy A=>?_;have ey:y=x:=Xl ((show rs[0]?=some y from A).symm.trans d);rw[ey];intro s;refine⟨Pt,ptE,zp,rfl,Ob.mk ⟨dC,oM,oM,(by show(x.length:Int)*16<=_;omega),oM⟩ ?_⟩;intro u
  refine⟨Nat,λj=>⟨[(3,.loc 0 0),(4,.loc 1 0),(5,.loc 2 0),(8,.own 3),(15,.sl zk rs),(16,i64 rs.length),(17,i64 ((0:Nat):Int)),(24,.sl ptE x),(25,i64 x.length),(26,i64 j)],[(0,.box 57 (afE t)),(1,.box 94 [nS]),(2,.box 42 [i64 0]),(3,.arr 28 ptE 2 (uq t x j))],4,48,3⟩,λj=>j<=x.length/\∀p∈x.take j,(ku t p).2=0,λj=>x.length-j,0,⟨Xh _,λp v=>by cases v⟩,?_,?_⟩
  .exact zt [0,1,2,3] ⟨rfl,rfl,rfl,aR (by unfold uq;rfl),tV⟩
  rintro j ⟨B,f⟩
  have zl:=zl7 t x B;refine⟨λq:(j:Int)<x.length=>?_,λq:¬(j:Int)<x.length=>?_⟩
  .refine wb λz(a:x[j]?=some z)=>?_;refine wg (zfb t z ht)<|wb<|wb λold _=>?_;refine⟨(ku t z).1,rfl,?_⟩;refine⟨λe:¬(ku t z).2=0=>?_,λe=>?_⟩
   .have eL:=zhy a f e;have eR:=zhz d m (by rw[eL];exact e);refine⟨_,.refl,rfl,?_⟩;refine⟨λ_=>?_,λh=>absurd e h⟩;exact qJ (by rw[o,eR,eL,Xe e])
   have e:(ku t z).2=0:=Xa.1 e;exact wa<|⟨j+1,⟨oM,yu a f e⟩,zt [0,1,2,3] ⟨rfl,rfl,Xg (λn=>some (Mem.box 42 [i64 n])) e,aR (zl8 a),tV⟩,oN⟩
  have etx:x.take j=x:=Xi oM;have ez:uq t x j=y9 t x:=by unfold uq;rw[etx,show x.length-j=0 by omega];exact XC _
  rw[etx]at f;refine⟨[[.own 3]],rfl,wb8 ?_⟩;refine wb27<|wa<|⟨0+1,⟨oM,yu d m (zhx f)⟩,(zc0 (sz0:=1) (T0:=148) 3 5 (enc:=ptE) (ys:=uq t x j) rfl rfl (xs':=yN ([]++[uq t x j])) (by rfl) (λz a=>?_) zhA).trans (zt [0,1,2,5] ⟨rfl,rfl,rfl,⟨_,rfl,zaD ?_⟩,tV⟩),oN⟩
  .unfold yN at a;obtain⟨b,_,rfl⟩:=XN.1 a;rfl
  rw[ez];rw[Xm,d];rfl
 refine⟨λg=>?_,λg=>?_⟩;rotate_left
 .have g:¬((i+1:Nat):Int)<rs.length:=g;have C:rs.take (i+1)=rs:=Xi oM;have D:=m;rw[C]at D;have er:yr rs t=(rs.map (y9 t),0):=by rw[o,zpR D];rfl
  refine⟨_,zgR 3 zk ((rs.take (i+1)).map (y9 t)) rfl (λ_ _=>rfl),rfl,?_⟩;refine⟨λh=>absurd rfl h,λ_=>?_⟩;rw[er];exact zO (z6 (show(rs.take (i+1)).map (y9 t)=rs.map (y9 t) by rw[C])) .refl
 have g:(((i+1):Nat):Int)<rs.length:=g;obtain⟨x,d⟩:∃x,rs[(i+1)]?=some x:=⟨_,Xb oM⟩;have w:=XB (vI (Xf d)) E;refine wb λy A=>?_;have ey:y=x:=Xl ((show rs[(i+1)]?=some y from A).symm.trans d);rw[ey];intro s;refine⟨Pt,ptE,zp,rfl,Ob.mk ⟨dC,oM,oM,(by show(x.length:Int)*16<=_;omega),oM⟩ ?_⟩;intro u
 refine⟨Nat,λj=>⟨[(3,.loc 0 0),(4,.loc 1 0),(5,.loc 2 0),(8,.own 4),(15,.sl zk rs),(16,i64 rs.length),(17,i64 (((i+1):Nat):Int)),(24,.sl ptE x),(25,i64 x.length),(26,i64 j)],[(0,.box 57 (afE t)),(1,.box 94 [.own 3]),(2,.box 42 [i64 0]),(3,.garr 148 1 (yN ((rs.take (i+1)).map (y9 t)))),(4,.arr 28 ptE 2 (uq t x j))],5,48,3⟩,λj=>j<=x.length/\∀p∈x.take j,(ku t p).2=0,λj=>x.length-j,0,⟨Xh _,λp v=>by cases v⟩,?_,?_⟩
 .exact zt [0,1,2,3,4] ⟨rfl,rfl,rfl,⟨_,rfl,zaD rfl⟩,aR (by unfold uq;rfl),tV⟩
 rintro j ⟨B,f⟩
 have zl:=zl7 t x B;refine⟨λq:(j:Int)<x.length=>?_,λq:¬(j:Int)<x.length=>?_⟩
 .refine wb λz(a:x[j]?=some z)=>?_;refine wg (zfb t z ht)<|wb<|wb λold _=>?_;refine⟨(ku t z).1,rfl,?_⟩;refine⟨λe:¬(ku t z).2=0=>?_,λe=>?_⟩
  .have eL:=zhy a f e;have eR:=zhz d m (by rw[eL];exact e);refine⟨_,.refl,rfl,?_⟩;refine⟨λ_=>?_,λh=>absurd e h⟩;exact qJ (by rw[o,eR,eL,Xe e])
  have e:(ku t z).2=0:=Xa.1 e;exact wa<|⟨j+1,⟨oM,yu a f e⟩,zt [0,1,2,3,4] ⟨rfl,rfl,Xg (λn=>some (Mem.box 42 [i64 n])) e,⟨_,rfl,zaD rfl⟩,aR (zl8 a),tV⟩,oN⟩
 have etx:x.take j=x:=Xi oM;have ez:uq t x j=y9 t x:=by unfold uq;rw[etx,show x.length-j=0 by omega];exact XC _
 rw[etx]at f;refine⟨[[.own 4]],rfl,wb8 ?_⟩;refine Ob.mk ⟨by show _*(24:Int)<=_;rw[vl,Xw,Xo];simp only[Xn,Xs];omega,by rw[vl,Xw,Xo];simp only[Xn,Xs];omega,dC⟩<|wa ?_
 refine⟨(i+1)+1,⟨oM,yu d m (zhx f)⟩,(zc0 (sz0:=1) (T0:=148) 4 6 (enc:=ptE) (ys:=uq t x j) rfl rfl (xs':=yN ((rs.take (i+1)).map (y9 t)++[uq t x j])) (by rw[vl,Xq,Xq,vl];rfl) (λz a=>?_) zhA).trans (zt [0,1,2,6] ⟨rfl,rfl,rfl,⟨_,rfl,zaD ?_⟩,tV⟩),oN⟩
 .unfold yN at a;obtain⟨b,_,rfl⟩:=XN.1 a;rfl
 rw[ez];rw[Xm (l:=rs) (i:=i+1),d,XA];rfl
variable{pen:Pen}
def zBw{p:Pl}:∀r∈kv p pen,0<r.length:=by
 intro r a;unfold kv at a
 rcases Xt.1 a with a|a
 .rcases Xt.1 a with a|a
  .rw[zai]at a
   rcases Xt.1 a with a|a
   .unfold zer at a;obtain⟨i,_,a⟩:=QL.1 a;exact zcB a
   split at a
   .exact zcB a
   cases a
  rw[zcC]at a
  split at a
  .cases a
  unfold yh at a;obtain⟨i,_,a⟩:=QL.1 a;unfold zfL at a
  split at a
  .cases a
  exact zpH r a
 unfold zek at a
 split at a
 .exact zcB a
 split at a
 .rcases Xt.1 a with a|a <;> exact zcB a
 cases a
def zup{p:Pl}:∀r∈(kA p pen).1,0<r.length:=by
 unfold kA
 split
 .intro r a;cases a
 split
 .intro r a;cases a
 split
 .intro r a;cases a
 split
 .intro r a;cases a
 split
 .intro r a;cases a
 exact zBw
def zjw{pen:Pen}:∀{l:LZ},∀r∈(qo l pen).1,0<r.length
 |[],r,a=>by cases a
 |p::s,r,a=>by
  unfold qo at a
  split at a
  .cases a
  split at a
  .cases a
  rcases Xt.1 a with a|a
  .exact zup r a
  exact zjw r a
def zBx:∀{rs:LQ},(∀r∈rs,0<r.length)->rs.length<=qe rs
 |[],_=>Xh _
 |r::s,h=>by
  have b:=h r (.head _);have d:=zBx λq a=>h q (.tail _ a)
  rw[zhq,Xn];omega
def zeD(l:LZ)(pen:Pen):(qw l pen).1.length<=4096/\∀r∈(qw l pen).1,(r.length:Int)<=9223372036854771711:=by
 unfold qw
 split
 .exact⟨Xh _,λr a=>by cases a⟩
 split
 .exact⟨Xh _,λr a=>by cases a⟩
 split
 .exact⟨Xh _,λr a=>by cases a⟩
 rename_i h;have b:=zBx (zjw (l:=l) (pen:=pen));exact⟨oN,λr a=>by have a:r∈(qo l pen).1:=a;have:=vI a;omega⟩
def zeE{pen:Pen}:∀{l:LZ},(∀p∈l,p.pts.length<=4096)->(jT l pen).1.length<=4096*l.length/\∀q∈(jT l pen).1,q.pts.length<=4096
 |[],_=>⟨Xj 0,λq a=>by cases a⟩
 |p::r,b=>by
  obtain⟨g,e⟩:=zeE (pen:=pen) (l:=r) λq a=>b q (.tail _ a)
  obtain⟨f,d⟩:=zb2 (pen:=pen) (b p (.head _));unfold jT
  split
  .exact⟨Xh _,λq a=>by cases a⟩
  split
  .exact⟨Xh _,λq a=>by cases a⟩
  rw[Xq,Xn];refine⟨oM,λq a=>?_⟩
  rcases Xt.1 a with a|a
  .exact d q a
  exact e q a
def zaU(l:LX)(pen:Pen)(t:AF)(tol:Int):LQ×Int:=
 if¬kE pen then([],13) else if (zY l tol).2≠0 then([],(zY l tol).2) else if (jT (zY l tol).1 pen).2≠0 then([],(jT (zY l tol).1 pen).2)
 else if (qw (jT (zY l tol).1 pen).1 pen).2≠0 then([],(qw (jT (zY l tol).1 pen).1 pen).2) else yr (qw (jT (zY l tol).1 pen).1 pen).1 t
def zx6(l:LX)(pen:Pen)(t:AF)(tol:Int)(ht:t.le 100000):CX 118 [.sl sgE l,ws pen,wo t,i64 tol] (rgE (zaU l pen t tol)):=by
 refine zc func118 ?_;have de:=zug pen;refine wg (zDQ pen)<|⟨λe=>?_,λe=>?_⟩
 .have e:¬(jC ⟨[],false⟩ pen).2=0:=e;have k:¬kE pen:=λk=>e (by rw[de,Xe k])
  refine qJ ?_;rw[de,Xc k];unfold zaU;rw[Xe k]
 have e:(jC ⟨[],false⟩ pen).2=0:=Xa.1 e
 have f:kE pen:=by
  refine Xa.1 λk=>?_
  rw[de,Xc k]at e;exact absurd e dC
 have fs:=zb3 l tol;have cf:=zeE (pen:=pen) fs.2;refine wg (zAQ l tol)<|⟨λa=>?_,λa=>?_⟩
 .have a:¬(zY l tol).2=0:=a;exact qJ (by unfold zaU;rw[kI f,Xe a])
 have a:(zY l tol).2=0:=Xa.1 a;refine wg (zGL (zY l tol).1 pen fs.1 fs.2)<|⟨λb=>?_,λb=>?_⟩
 .have b:¬(jT (zY l tol).1 pen).2=0:=b;exact qJ (by unfold zaU;rw[kI f,qK a,Xe b])
 have b:(jT (zY l tol).1 pen).2=0:=Xa.1 b;refine wg (zxG (jT (zY l tol).1 pen).1 pen oM cf.2) ?_;have sm:=zeD (jT (zY l tol).1 pen).1 pen;refine⟨λd:¬(qw (jT (zY l tol).1 pen).1 pen).2=0=>?_,λd=>?_⟩
 .exact qJ (by unfold zaU;rw[kI f,qK a,qK b,Xe d])
 have d:(qw (jT (zY l tol).1 pen).1 pen).2=0:=Xa.1 d;refine wg (zGY (qw (jT (zY l tol).1 pen).1 pen).1 t ht oM sm.2) ?_;have ee:zaU l pen t tol=yr (qw (jT (zY l tol).1 pen).1 pen).1 t:=by unfold zaU;rw[kI f,qK a,qK b,qK d]
 rw[ee];exact .refl
def zx7(l:LX)(pen:Pen)(t:AF)(tol:Int)(ht:t.le 100000):CX 108 [.sl sgE l,ws pen,wo t,i64 tol] (rgE (zaU l pen t tol)):=by
 refine zc func108<|wg (zc9 pen)<|⟨λk=>?_,λk=>?_⟩
 .have k:¬kE pen:=k;exact qJ (by unfold zaU;rw[Xe k])
 have h:kE pen:=Xa.1 k;have fs:=zb3 l tol;have cf:=zeE (pen:=pen) fs.2;refine wg (zAR l tol)<|⟨λa=>?_,λa=>?_⟩
 .have a:¬(zY l tol).2=0:=a;exact qJ (by unfold zaU;rw[kI h,Xe a])
 have a:(zY l tol).2=0:=Xa.1 a;refine⟨Nat,λi=>⟨[(5,.loc 0 0),(6,.loc 1 0),(10,.sl plE (zY l tol).1),(12,.own 2),(13,i64 i)],[(0,.box 61 (jg pen)),(1,.box 57 (afE t)),(2,.arr 193 plE 2 (zdg ((zY l tol).1.take i) pen))],3,65,0⟩,λi=>i<=(zY l tol).1.length/\∀q∈(zY l tol).1.take i,(jC q pen).2=0,λi=>(zY l tol).1.length-i,0,⟨Xh _,λq m=>by cases m⟩,zC [(0,some 0),(1,some 1),(2,none)],?_⟩
 rintro i ⟨u,e⟩
 obtain⟨r,_⟩:=zgn (pen:=pen) (l:=(zY l tol).1.take i) λq m=>fs.2 q (XO m)
 rw[Xo]at r;intro s;refine⟨λg:(i:Int)<(zY l tol).1.length=>?_,λg:¬(i:Int)<(zY l tol).1.length=>?_⟩
 .refine wd<|wb λx(f:(zY l tol).1[i]?=some x)=>?_;have d:=fs.2 x (Xf f);refine wg (zGK x pen d)<|wh<|⟨λz=>?_,λz=>?_⟩
  .have z:¬(jC x pen).2=0:=z;have ce:=ziN f e z;exact qJ (by unfold zaU;rw[kI h,qK a,ce];exact Xe z)
  have z:(jC x pen).2=0:=Xa.1 z;obtain⟨v,w⟩:=zb2 (pen:=pen) d;refine⟨(jC x pen).1,rfl,wb26 ?_⟩;exact wa<|⟨i+1,⟨oM,zhr f e z⟩,zt [0,1,3] ⟨rfl,rfl,aR (zn4 f).symm,tV⟩,oN⟩
 have n:(zY l tol).1.take i=(zY l tol).1:=Xi oM;rw[n]at e;have co:=zlV e;have c1:(jT (zY l tol).1 pen).1=zdg ((zY l tol).1.take i) pen:=by rw[co,n]
 have o:(jT (zY l tol).1 pen).2=0:=by rw[co]
 have ee:zaU l pen t tol=if (qw (zdg ((zY l tol).1.take i) pen) pen).2≠0 then([],(qw (zdg ((zY l tol).1.take i) pen) pen).2) else yr (qw (zdg ((zY l tol).1.take i) pen) pen).1 t:=by
  unfold zaU;rw[kI h,qK a,qK o,c1]
 rw[c1]at cf;refine zb.see 2 _ (zxH (zdg ((zY l tol).1.take i) pen) pen oM cf.2) rfl rfl rfl ?_;have sm:=zeD (zdg ((zY l tol).1.take i) pen) pen;refine⟨λb:¬(qw (zdg ((zY l tol).1.take i) pen) pen).2=0=>?_,λb=>?_⟩
 .exact qJ (by rw[ee,Xe b])
 have b:(qw (zdg ((zY l tol).1.take i) pen) pen).2=0:=Xa.1 b;rw[qK b]at ee;refine wg (zGN (qw (zdg ((zY l tol).1.take i) pen) pen).1 t ht oM) ?_;rw[ee];exact .refl
def uF(l:LW)(i:Nat):Int:=match l[i]? with
 |some n=>zhF l i n
 |none=>0
variable{l:LW}{i:Nat}
def zdk{n:Nd}(h:l[i]?=some n):uF l i=zhF l i n:=by unfold uF;rw[h]
def zpZ(l:LW):LK:=(List.range l.length).find? λi=>decide (uF l i≠0)
def zD6(hi:i<l.length)(h:∀j,j<i->uF l j=0)(a:uF l i≠0):zpZ l=some i:=by
 unfold zpZ;rw[Yg];exact⟨by simpa using a,XU.2 hi,λj b=>by simpa using h j b⟩
def zx8(h:∀j,j<l.length->uF l j=0):zpZ l=none:=by
 unfold zpZ;rw[Yf];exact λj a=>by simpa using h j a
def zx9(h:zpZ l=some i):i<l.length/\uF l i≠0:=by
 unfold zpZ at h;rw[Yg]at h;exact⟨XU.1 h.2.1,by simpa using h.1⟩
def zfP(s:Sc):Prop:=s.w<1∨256<s.w∨s.h<1∨256<s.h
instance (s:Sc):Decidable (zfP s):=wj
def zjI(s:Sc):Int×Int:=if zfP s then(6,0) else if 64<s.ns.length then(5,64) else match zpZ s.ns with
 |some i=>(uF s.ns i,i)
 |none=>(0,0)
def qy(s:Sc):Prop:=(zjI s).1=0
instance (s:Sc):Decidable (qy s):=inferInstanceAs (Decidable (_=_))
def zl9{s:Sc}:qy s↔¬zfP s/\s.ns.length<=64/\∀j,j<s.ns.length->uF s.ns j=0:=by
 unfold qy zjI
 by_cases a:zfP s
 .rw[Xe a];exact⟨λh=>absurd h dC,λh=>absurd a h.1⟩
 rw[Xc a]
 by_cases d:64<s.ns.length
 .rw[Xe d];exact⟨λh=>absurd h dC,λh=>absurd h.2.1 oM⟩
 rw[Xc d]
 cases b:zpZ s.ns with
 |some i=>
  obtain⟨f,e⟩:=zx9 b;exact⟨λh=>absurd h e,λh=>absurd (h.2.2 i f) e⟩
 |none=>
  refine⟨λ_=>⟨a,oM,λj g=>?_⟩,λ_=>rfl⟩;unfold zpZ at b;rw[Yf]at b
  simpa using b j g
def zod{n:Nd}(h:zhF l i n=0):ua n=0/\n.id∉(l.take i).map Nd.id/\jJ l i n:=by
 unfold zhF at h
 by_cases a:ua n≠0
 .rw[Xe a]at h;exact absurd h a
 rw[Xc a]at h
 by_cases b:n.id∈(l.take i).map Nd.id
 .rw[Xe b]at h;exact absurd h dC
 rw[Xc b]at h
 by_cases d:jJ l i n
 .exact⟨Xa.1 a,b,d⟩
 rw[Xe d]at h;exact absurd h dC
def zcI{n:Nd}(h:ua n=0):(1<=n.k/\n.k<=3)/\(0<=n.d/\n.d<8)/\n.t.ok/\zbO n.t≠0/\valid n.clip/\zhE n:=by
 unfold ua at h
 by_cases f:n.k<1∨3<n.k
 .rw[Xe f]at h;exact absurd h dC
 rw[Xc f]at h
 by_cases g:n.id<1∨1073741824<n.id∨n.d<0∨8<=n.d
 .rw[Xe g]at h;exact absurd h dC
 rw[Xc g]at h
 by_cases a:¬n.t.ok
 .rw[Xe a]at h;exact absurd h dC
 rw[Xc a]at h
 by_cases b:zbO n.t=0
 .rw[Xe b]at h;exact absurd h dC
 rw[Xc b]at h
 by_cases e:¬valid n.clip
 .rw[Xe e]at h;exact absurd h dC
 rw[Xc e]at h
 by_cases m:¬zhE n
 .rw[Xe m]at h;exact absurd h dC
 exact⟨oM,oM,Xa.1 a,b,Xa.1 e,Xa.1 m⟩
def zbL{s:Sc}(h:qy s){n:Nd}(a:s.ns[i]?=some n):ua n=0/\n.id∉(s.ns.take i).map Nd.id/\jJ s.ns i n:=by
 have:=(zl9.1 h).2.2 i (Xd.1 a).1;rw[zdk a]at this;exact zod this
def zI(l:LW):LV:=l.map Nd.d
def yT{n:Nd}(h:l[i]?=some n):(zI l)[i]?=some n.d:=by unfold zI;rw[XD,h];rfl
def zal{d:Int}(h:(zI l)[i]?=some d):∃n,l[i]?=some n/\n.d=d:=by
 unfold zI at h;rw[XD]at h
 cases a:l[i]? with
 |none=>rw[a]at h;cases h
 |some n=>rw[a]at h;exact⟨n,rfl,Xl h⟩
def zaE{s:Sc}(h:qy s):zeB (zI s.ns):=by
 refine⟨λd f=>?_,λd f=>?_,λi a b g o=>?_⟩
 .obtain⟨n,e,rfl⟩:=zal f;have:=(zbL h e).2.2;unfold jJ at this;rw[show s.ns[0-1]?=some n from e]at this;exact this
 .obtain⟨i,hi,q⟩:=Ks f;obtain⟨n,e,rfl⟩:=zal (q ▸ Xb hi);exact(zcI (zbL h e).1).2.1.1
 obtain⟨n,e,rfl⟩:=zal g;obtain⟨m,r,rfl⟩:=zal o;have:=(zbL h r).2.2;unfold jJ at this;rw[show s.ns[i+1-1]?=some n from e]at this;have this:(n.k=1/\m.d=n.d+1)∨m.d<=n.d:=this;omega
def zfn(a:LV)(i:Nat): -1<=yl a i/\yl a i<i:=⟨(zcH a _ i).1,(zcH a _ i).2.1⟩
def zjx(a:LV):∀(n m:Nat) (i:Int),i<n->i<m->zgr a n i=zgr a m i
 |0,0,_,_,_=>rfl
 |0,m+1,i,h,_=>by show[]=if i<0 then[] else _;rw[Xe oM]
 |n+1,0,i,_,h=>by show(if i<0 then[] else _)=[];rw[Xe oM]
 |n+1,m+1,i,b,d=>by
  show(if i<0 then[] else i.toNat::zgr a n (yl a i.toNat))=if i<0 then[] else i.toNat::zgr a m (yl a i.toNat)
  by_cases c:i<0
  .rw[Xe c,Xe c]
  have:=zfn a i.toNat;rw[Xc c,Xc c,zjx a n m _ oM oM]
def qH(a:LV)(i:Int):LC:=zgr a (i+1).toNat i
def zbh{a:LV}{i:Int}(h:i<0):qH a i=[]:=by
 unfold qH;rw[show(i+1).toNat=0 by omega];rfl
def jy(a:LV)(i:Nat):qH a i=i::qH a (yl a i):=by
 have h:=zfn a i;unfold qH;rw[show((i:Int)+1).toNat=i+1 by omega];show(if (i:Int)<0 then[] else(i:Int).toNat::zgr a i (yl a (i:Int).toNat))=_;rw[Xc oM,show(i:Int).toNat=i from rfl,zjx a i (yl a i+1).toNat _ oM oM]
def zma{b:LV}:∀{k i a j:Nat},(qH b i)[k]?=some a->yl b a=j->(qH b i)[k+1]?=some j
 |0,i,a,j,h,d=>by
  rw[jy]at h ⊢
  cases h
  show(qH b (yl b i))[0]?=some j;rw[d,jy];rfl
 |k+1,i,a,j,h,d=>by
  rw[jy]at h ⊢;have h:(qH b (yl b i))[k]?=some a:=h;show(qH b (yl b i))[k+1]?=some j
  rcases Qe (yl b i) 0 with c|c
  .rw[zbh c]at h;cases h
  obtain⟨q,e⟩:=Qu c;rw[e]at h ⊢;exact zma h d
def ziQ{b:LV}(g:zeB b):∀{k i a:Nat} {d:Int},b[i]?=some d->(qH b i)[k]?=some a->b[a]?=some (d-k)
 |0,i,a,d,e,h=>by
  rw[jy]at h
  cases h
  rw[e];congr 1;omega
 |k+1,i,a,d,e,h=>by
  rw[jy]at h;have h:(qH b (yl b i))[k]?=some a:=h;have m:=zhG g e;have o:=g.2.1 d (Xf e)
  by_cases c:d=0
  .rw[m.1 c,zbh dC]at h;cases h
  obtain⟨j,n,_,f⟩:=m.2 oM;rw[n]at h;have:=ziQ g f h;rw[this];congr 1;omega
def zfo{a:LV}(f:zeB a):∀{d i:Nat},a[i]?=some (d:Int)->(qH a i).length=d+1
 |0,i,b=>by
  rw[jy,(zhG f b).1 rfl,zbh dC];rfl
 |d+1,i,b=>by
  obtain⟨j,g,_,e⟩:=(zhG f b).2 oM;rw[jy,g,Xn,zfo (d:=d) f (by rw[e];congr 1;omega)]
def tAt(l:LW)(k:Nat):AF:=match l[k]? with
 |some n=>n.t
 |none=>idA
def zss{k:Nat}{n:Nd}(h:l[k]?=some n):tAt l k=n.t:=by unfold tAt;rw[h]
def trs(l:LW)(i:Int):List AF:=(qH (zI l) i).map (tAt l)
def zBy{n:Nd}(h:l[i]?=some n):trs l i=n.t::trs l (yl (zI l) i):=by
 unfold trs;rw[jy,Qr,zss h]
def zD7{i:Int}(h:i<0):trs l i=[]:=by unfold trs;rw[zbh h];rfl
def inS(s:Sc)(i:Int):Prop:=qy s/\0<=i/\i<s.ns.length
instance (s:Sc) (i:Int):Decidable (inS s i):=wi
def kj(s:Sc)(i:Int):AF×Int:=if¬qy s then(qE,18) else if i<0∨s.ns.length<=i then(qE,8) else vJ (trs s.ns i)
def zNd:Nd:=⟨0,0,0,qE,[],0,0,0,false,false,[],0,[],⟨0,0,0,0,[],0⟩,[],⟨0,0,[]⟩,0⟩
def zS(s:Sc)(i:Int):Nd:=if inS s i then(s.ns[i.toNat]?).getD zNd else zNd
def uO(w:AF×Int)(l:LX):LQ:=if w.2≠0 then[] else(yq l w.1 32).1
def vn(s:Sc)(i:Int):LQ:=if (zS s i).k≠2∨(zS s i).fill.length=0 then[] else uO (kj s i) (zS s i).path
def vO(s:Sc)(i:Int):LQ:=if (zS s i).k≠2∨(zS s i).strk.length=0 then[] else if (kj s i).2≠0 then[] else(zaU (zS s i).path (zS s i).pen (kj s i).1 32).1
def zdl(s:Sc)(i:Int):LQ:=if (zS s i).k≠3 then[] else uO (kj s i) (za1 0 0 (zS s i).im.w (zS s i).im.h)
def zoe(s:Sc)(i:Int):LQ:=if (zS s i).clip.length=0 then[] else uO (kj s i) (zS s i).clip
def zst{l:LX}{t:AF}{tol:Int}(h:(yq l t tol).2≠0):(yq l t tol).1=[]:=by
 unfold yq at h ⊢
 by_cases a:(trans t l).2≠0
 .rw[Xe a]
 rw[Xc a]at h ⊢
 by_cases b:(zY (trans t l).1 tol).2≠0
 .rw[Xe b]
 rw[Xc b]at h;exact absurd rfl h
end Go.Gs
