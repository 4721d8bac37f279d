/- The stops of a gradient: those that may be, those that are the same, copies; offsets spread. -/
import Derived.Test.YtdkomlilfdbahaaGreatDoorMAX
set_option maxRecDepth 100000
set_option maxHeartbeats 80000000
set_option linter.all false
namespace Go.Gs
open Proofs.Tryz
open Go.Proofs
structure zgH where
 o:Int
 c:Pix
 deriving DecidableEq
def zbN(s:zgH):LR:=[i64 s.o,u8 s.c.r,u8 s.c.g,u8 s.c.b,u8 s.c.a]
def zws{p q:zgH}:(p.o=q.o/\p.c.r=q.c.r/\p.c.g=q.c.g/\p.c.b=q.c.b/\p.c.a=q.c.a/\True)↔p=q:=by
 obtain⟨a,b,c,d,e⟩:=p;obtain⟨f,h,i,j,k⟩:=q;simp
def zsR:Int->List zgH->Prop
 |_,[]=>True
 |lo,s::l=>(lo<=s.o/\s.o<=65536)/\zsR s.o l
instance upDec:∀lo l,Decidable (zsR lo l)
 |_,[]=>isTrue trivial
 |_,s::l=>haveI:=upDec s.o l;inferInstanceAs (Decidable (_/\_))
def zfx(l:List zgH):Prop:=(1<=(l.length:Int)/\(l.length:Int)<=16)/\zsR 0 l
instance (l:List zgH):Decidable (zfx l):=wi
def zB1(l:List zgH):CX 450 [.sl zbN l] (pr (zfx l)):=by
 refine zc func450 λm=>?_;refine⟨λh=>zd (λk=>by have:=k.1.1;omega),λv=>?_⟩;intro n;refine⟨λh=>zd (λk=>by have:=k.1.2;omega),λw=>?_⟩;intro q;refine⟨Int×Int,λ⟨i,at_⟩=>⟨[(3,i64 at_),(14,.sl zbN l),(15,i64 l.length),(16,i64 i)],[],0,32,0⟩,λ(i,at_)=>0<=i/\i<=l.length/\(zsR 0 l↔zsR at_ (l.drop i.toNat)),λ(i,_)=>((l.length:Int)-i).toNat,(0,0),?_,?_,?_⟩
 .exact⟨oM,oM,Qk⟩
 .exact zB []
 rintro⟨i,at_⟩ ⟨t,u,c⟩
 refine⟨λd=>?_,λd=>?_⟩
 .refine wb λx s=>?_
  have g:l.drop i.toNat=x::l.drop (i.toNat+1):=by
   obtain⟨hi,j⟩:=Xd.1 s;rw[K8 hi,j]
  rw[g]at c;refine⟨λe=>zd (λk=>by have:=(c.1 k.2).1;omega),λe=>?_⟩;refine⟨λf=>zd (λk=>by have:=(c.1 k.2).1;omega),λf=>?_⟩;refine wa<|⟨(i+1,x.o),⟨oM,oM,?_⟩,zB [],oN⟩;rw[c,show(i+1).toNat=i.toNat+1 by omega];exact⟨λk=>k.2,λk=>⟨oM,k⟩⟩
 refine zH ⟨oM,c.2 ?_⟩;rw[KI oM];trivial
def zoy(l:List zgH):CX 384 [.sl zbN l] (pr (zfx l)):=by
 refine zc func384<|⟨Int×Int,λ⟨i,_⟩=>⟨[(0,.sl zbN l),(3,i64 i)],[],0,50,0⟩,λ(i,at_)=>0<=i/\i<=l.length/\(i=0->at_=0)/\(0<i->0<=at_/\∃y,l[(i-1).toNat]?=some y/\y.o=at_)/\(zsR 0 l↔zsR at_ (l.drop i.toNat)),λ(i,_)=>((l.length:Int)-i).toNat,(0,0),?_,?_,?_⟩
 .exact⟨oM,oM,λ_=>rfl,λh=>by omega,Qk⟩
 .exact zB []
 rintro⟨i,at_⟩ ⟨F,G,j,m,d⟩
 intro A;refine⟨λs=>?_,λs=>?_⟩
 .refine wc<|wb λx e=>?_
  have w:l.drop i.toNat=x::l.drop (i.toNat+1):=by
   obtain⟨hi,z⟩:=Xd.1 e;rw[K8 hi,z]
  rw[w]at d
  have v:0<=at_:=by
   by_cases q:0<i
   .exact(m q).1
   have:=j oM;omega
  refine⟨λg=>zd (λk=>by have:=(d.1 k.2).1;omega),λg=>?_⟩;refine wb λx' c=>?_;rw[e]at c;cases c
  refine⟨λt=>zd (λk=>by have:=(d.1 k.2).1;omega),λt=>?_⟩;refine⟨λn=>?_,λn=>?_⟩
  .obtain⟨_,y,D,E⟩:=m n;refine wb λx' c=>?_;rw[e]at c;cases c
   refine wa<|wb λH f=>?_;rw[D]at f;cases f
   refine⟨λu=>zd (λk=>by have:=(d.1 k.2).1;omega),λu=>?_⟩;refine wa<|⟨(i+1,x.o),⟨oM,oM,λh=>by omega,λ_=>⟨oM,x,by rw[show(i+1-1).toNat=i.toNat by omega];exact e,rfl⟩,?_⟩,zB [],oN⟩;rw[d,show(i+1).toNat=i.toNat+1 by omega];exact⟨λk=>k.2,λk=>⟨oM,k⟩⟩
  refine wa ?_;have:=j oM;refine⟨(i+1,x.o),⟨oM,oM,λh=>by omega,λ_=>⟨oM,x,by rw[show(i+1-1).toNat=i.toNat by omega];exact e,rfl⟩,?_⟩,zB [],oN⟩;rw[d,show(i+1).toNat=i.toNat+1 by omega];exact⟨λk=>k.2,λk=>⟨oM,k⟩⟩
 have hall:zsR 0 l:=d.2 (by rw[KI oM];trivial);intro B;refine⟨λg=>?_,λg=>?_⟩
 .intro C;exact zC ⟨λk=>⟨⟨oM,k⟩,hall⟩,λk=>k.1.2⟩
 exact zd λk=>g k.1.1
def zuO{xs ys:List zgH}{i:Int}(d:(xs.length:Int)=ys.length)(hi:¬i<xs.length)(h:∀j:Nat,(j:Int)<i->xs[j]?=ys[j]?):xs=ys:=by
 refine KA λj=>?_
 by_cases c:(j:Int)<i
 .exact h j c
 rw[XH oM,XH oM]
def zEI(xs ys:List zgH):CX 449 [.sl zbN xs,.sl zbN ys] (pr (xs=ys)):=by
 refine zc func449 λm n=>?_;refine⟨λc=>zd λe=>c (by rw[e]),λc=>?_⟩;have c:=Xa.1 c;intro o;refine⟨Int,λi=>⟨[(13,i64 i),(12,i64 xs.length),(0,.sl zbN xs),(1,.sl zbN ys)],[],0,26,0⟩,λi=>0<=i/\i<=xs.length/\∀j:Nat,(j:Int)<i->xs[j]?=ys[j]?,λi=>((xs.length:Int)-i).toNat,0,?_,?_,?_⟩
 .exact⟨oM,oM,λj l=>by omega⟩
 .exact zB []
 rintro i ⟨q,s,g⟩
 refine⟨λh=>?_,λh=>?_⟩
 .refine wc<|wb λx k=>wb λy f=>?_;refine⟨λd=>?_,λd=>?_⟩
  .refine zd λe=>d (zws.2 ?_)
   subst e;rw[k]at f;exact Xl f
  refine wa<|⟨i+1,⟨oM,oM,λj l=>?_⟩,zB [],oN⟩
  by_cases e:j=i.toNat
  .subst e;rw[k,f,zws.1 (Xa.1 d)]
  exact g j oM
 exact zH (zuO c h g)
def zsS(m:Int):Prop:=1<=m/\m<=3
instance (m:Int):Decidable (zsS m):=wi
def zB2{n:Int}(h:R64 n):y4 (n:Rat)<=2:=by
 have c:=zek n;have d:=jw h;omega
structure Pnt where
 k:Int
 c:Pix
 p0:Pt
 p1:Pt
 r:Int
 st:List zgH
 sp:Int
 im:Img
 sm:Int
 t:AF
def qD(p:Pnt):LR:=
 i64 p.k::u8 p.c.r::u8 p.c.g::u8 p.c.b::u8 p.c.a::i64 p.p0.x::i64 p.p0.y::i64 p.p1.x::i64 p.p1.y::i64 p.r::.sl zbN p.st::i64 p.sp::i64 p.im.w::i64 p.im.h::.sl zcl p.im.px::i64 p.sm::afE p.t
def Pnt.same(p q:Pnt):Prop:=p.k=q.k/\p.c=q.c/\p.p0=q.p0/\p.p1=q.p1/\p.r=q.r/\p.st=q.st/\p.sp=q.sp/\p.im=q.im/\p.sm=q.sm/\p.t.same q.t
instance (p q:Pnt):Decidable (p.same q):=wi
def zuP(p q:Pnt)(n:p.t.le 10000000)(o:q.t.le 10000000):CX 395 [.agg (qD p),.agg (qD q)] (pr (p.same q)):=by
 refine zc func395<|Br.mk (λc=>?_) (λc=>zd (λe=>c e.1));refine⟨λd=>?_,λd=>zd (λe=>d (zmm.2 e.2.1))⟩;refine⟨λf=>?_,λf=>zd (λe=>f (qp.2 e.2.2.1))⟩;refine⟨λg=>?_,λg=>zd (λe=>g (qp.2 e.2.2.2.1))⟩;refine⟨λi=>?_,λi=>zd (λe=>i e.2.2.2.2.1)⟩;refine⟨λj=>?_,λj=>zd (λe=>j e.2.2.2.2.2.2.1)⟩;refine⟨λk=>?_,λk=>zd (λe=>k e.2.2.2.2.2.2.2.2.1)⟩;refine wg (zEI p.st q.st) ?_
 refine⟨λl=>?_,λl=>zd (λe=>l e.2.2.2.2.2.1)⟩;refine wg (zox p.im q.im)<|⟨λm=>?_,λm=>zd (λe=>m e.2.2.2.2.2.2.2.1)⟩;exact wg (zvP p.t q.t n o)<|zC ⟨λh=>⟨c,zmm.1 d,qp.1 f,qp.1 g,i,l,j,m,k,h⟩,λe=>e.2.2.2.2.2.2.2.2.2⟩
def zmn:LEs um (afE qJ):=by
 have c:LEs z4 (brE zBR):=y5;have h:LEs (z4++(z4++(z4++(z4++(z4++z4))))) (afE qJ):=LEs.append c (LEs.append c (LEs.append c (LEs.append c (LEs.append c c))));exact h
def za3(k:Int):Pnt:=⟨k,zeH,zp,zp,0,[],0,⟨0,0,[]⟩,0,qJ⟩
def nil1:SV:=nS
def zB3(k:Int):LE (.agg (i64 k::u8 0::u8 0::u8 0::u8 0::i64 0::i64 0::i64 0::i64 0::i64 0::nil1::i64 0::i64 0::i64 0::nil1::i64 0::um)) (.agg (qD (za3 k))):=by
 have h:=zmn;exact jk (.C (.C (.C (.C (.C (.C (.C (.C (.C (.C (.cons zD (.C (.C (.C (.cons zD (.C h))))))))))))))))
def vp(p:Pnt):Pnt:=
 if p.k=1 then { p with c:=zeH,t:=qJ } else if p.k=2 then { p with p0:=zp,p1:=zp,st:=[],sp:=0,t:=qJ }
 else if p.k=3 then { p with p0:=zp,r:=0,st:=[],sp:=0,t:=qJ } else if p.k=4 then { p with im:=⟨0,0,[]⟩,sp:=0,sm:=0,t:=qJ } else { p with t:=qJ }
def zyE(p:Pnt):CX 396 [.agg (qD p)] (.agg (qD (vp p))):=by
 have d:∀{O:SV} {q:Pnt},vp p=q->LE O (.agg (qD q))->LE O (.agg (qD (vp p))):=λe h=>e ▸ h
 refine zc func396<|Br.mk (λf=>?_) (λf=>?_)
 .exact d (q:={ p with c:=zeH,t:=qJ }) (by rw[vp,Xe f])<|jk (.C (.C (.C (.C (.C (.C (.C (.C (.C (.C (.C (.C (.C (.C (.C (.C zmn))))))))))))))))
 refine⟨λg=>?_,λg=>?_⟩
 .exact d (q:={ p with p0:=zp,p1:=zp,st:=[],sp:=0,t:=qJ }) (by rw[vp,Xc f,Xe g])<|jk (.C (.C (.C (.C (.C (.C (.C (.C (.C (.C (.cons zD (.C (.C (.C (.C (.C zmn))))))))))))))))
 refine⟨λi=>?_,λi=>?_⟩
 .exact d (q:={ p with p0:=zp,r:=0,st:=[],sp:=0,t:=qJ }) (by rw[vp,Xc f,Xc g,Xe i])<|jk (.C (.C (.C (.C (.C (.C (.C (.C (.C (.C (.cons zD (.C (.C (.C (.C (.C zmn))))))))))))))))
 refine⟨λj=>?_,λj=>?_⟩
 .exact d (q:={ p with im:=⟨0,0,[]⟩,sp:=0,sm:=0,t:=qJ }) (by rw[vp,Xc f,Xc g,Xc i,Xe j])<|jk (.C (.C (.C (.C (.C (.C (.C (.C (.C (.C (.C (.C (.C (.C (.cons zD (.C zmn))))))))))))))))
 exact d (q:={ p with t:=qJ }) (by rw[vp,Xc f,Xc g,Xc i,Xc j])<|jk (.C (.C (.C (.C (.C (.C (.C (.C (.C (.C (.C (.C (.C (.C (.C (.C zmn))))))))))))))))
def zf2(n:Int):CX 399 [i64 n] (pr (zsS n)):=by
 refine zc func399<|Br.mk (λc=>?_) (λc=>zd (λh=>c h.1));exact zC ⟨λh=>⟨c,h⟩,λh=>h.2⟩
def zbO(n:Int):CX 385 [i64 n] (pr (zsS n)):=by
 refine zc func385<|Br.mk (λc=>?_) (λc=>zd (λh=>c h.1));exact zC ⟨λh=>⟨c,h⟩,λh=>h.2⟩
def zhT(p:Pnt):CX 398 [.agg (qD p)] (pr (zfx p.st/\zsS p.sp)):=by
 refine zc func398<|wg (zB1 p.st)<|⟨λc=>?_,λc=>zd (λh=>c h.1)⟩;exact wg (zf2 p.sp)<|zC ⟨λh=>⟨c,h⟩,λh=>h.2⟩
def vP(p:Pnt):Prop:=p.im.w=0/\p.im.h=0/\p.im.px=[]/\p.sm=0
instance (p:Pnt):Decidable (vP p):=wi
def zeI(p:Pnt):Prop:=p.p0=zp/\p.p1=zp/\p.r=0/\p.st=[]
instance (p:Pnt):Decidable (zeI p):=wi
def has1(p:Pnt):Prop:=zeI p/\vP p/\p.sp=0/\p.t.same qJ
instance (p:Pnt):Decidable (has1 p):=wi
def has2(p:Pnt):Prop:=vP p/\p.c=zeH/\p.r=0/\zm p.p0/\zm p.p1/\zfx p.st/\zsS p.sp
instance (p:Pnt):Decidable (has2 p):=wi
def has3(p:Pnt):Prop:=vP p/\p.c=zeH/\p.p1=zp/\zm p.p0/\1<=p.r/\p.r<=1048576/\zfx p.st/\zsS p.sp
instance (p:Pnt):Decidable (has3 p):=wi
def has4(p:Pnt):Prop:=zeI p/\p.c=zeH/\zf1 p.im/\(p.sp=0∨zsS p.sp)/\(p.sm=1∨p.sm=2)
instance (p:Pnt):Decidable (has4 p):=wi
def zqk(p:Pnt):Prop:=(p.k=1/\has1 p)∨(p.k=2/\has2 p)∨(p.k=3/\has3 p)∨(p.k=4/\has4 p)
instance (p:Pnt):Decidable (zqk p):=wj
def vQ(p:Pnt):Prop:=p.t.ok/\zqk p/\(p.k=1∨zbT p.t≠0)
instance (p:Pnt):Decidable (vQ p):=wi
def zF3{p:Pnt}(h:p.k=1):(vp p).same (za3 p.k)↔zeI p/\vP p/\p.sp=0:=by
 rw[vp,Xe h]
 obtain⟨k,c,p0,p1,r,st,sp,⟨w,o,px⟩,sm,t⟩:=p
 simp only[Pnt.same,za3,zeI,vP,Img.mk.injEq];constructor
 .rintro⟨_,_,f,g,i,j,l,⟨m,n,d⟩,e,_⟩
  exact⟨⟨f,g,i,j⟩,⟨m,n,d,e⟩,l⟩
 rintro⟨⟨f,g,i,j⟩,⟨m,n,d,e⟩,l⟩
 exact⟨tV,tV,f,g,i,j,l,⟨m,n,d⟩,e,rfl,rfl,rfl,rfl,rfl,rfl⟩
def zF4{p:Pnt}(h:p.k=2):(vp p).same (za3 p.k)↔vP p/\p.c=zeH/\p.r=0:=by
 rw[vp,Xc oM,Xe h]
 obtain⟨k,c,p0,p1,r,st,sp,⟨w,l,px⟩,sm,t⟩:=p
 simp only[Pnt.same,za3,vP,Img.mk.injEq];constructor
 .rintro⟨_,f,_,_,g,_,_,⟨i,j,d⟩,e,_⟩
  exact⟨⟨i,j,d,e⟩,f,g⟩
 rintro⟨⟨i,j,d,e⟩,f,g⟩
 exact⟨tV,f,tV,tV,g,tV,tV,⟨i,j,d⟩,e,rfl,rfl,rfl,rfl,rfl,rfl⟩
def zF5{p:Pnt}(h:p.k=3):(vp p).same (za3 p.k)↔vP p/\p.c=zeH/\p.p1=zp:=by
 rw[vp,Xc oM,Xc oM,Xe h]
 obtain⟨k,c,p0,p1,r,st,sp,⟨w,l,px⟩,sm,t⟩:=p
 simp only[Pnt.same,za3,vP,Img.mk.injEq];constructor
 .rintro⟨_,f,_,g,_,_,_,⟨i,j,d⟩,e,_⟩
  exact⟨⟨i,j,d,e⟩,f,g⟩
 rintro⟨⟨i,j,d,e⟩,f,g⟩
 exact⟨tV,f,tV,g,tV,tV,tV,⟨i,j,d⟩,e,rfl,rfl,rfl,rfl,rfl,rfl⟩
def zF6{p:Pnt}(h:p.k=4):(vp p).same (za3 p.k)↔zeI p/\p.c=zeH:=by
 rw[vp,Xc oM,Xc oM,Xc oM,Xe h]
 obtain⟨k,c,p0,p1,r,st,sp,⟨w,j,px⟩,sm,t⟩:=p
 simp only[Pnt.same,za3,zeI];constructor
 .rintro⟨_,d,e,f,g,i,_⟩
  exact⟨⟨e,f,g,i⟩,d⟩
 rintro⟨⟨e,f,g,i⟩,d⟩
 exact⟨tV,d,e,f,g,i,tV,tV,tV,rfl,rfl,rfl,rfl,rfl,rfl⟩
def zEJ(p:Pnt):(vp p).t=qJ:=by
 unfold vp;repeat (first|rfl|split)
def zal(n:Nat):qJ.le n:=⟨Xh _,Xh _,Xh _,Xh _,Xh _,Xh _⟩
def uQ(x:Rat):¬zly x 0=0↔x≠0:=by
 have c:=zpC (x:=x) (y:=0);have d:=zvO (x:=x) (y:=0);constructor
 .rintro h rfl
  exact h (JU (d.2 Rat.le_refl) (c.2 Rat.le_refl))
 intro h k;exact h (Rat.le_antisymm (d.1 oM) (c.1 oM))
def zhU{t:AF}{n:Nat}(h:t.le n):y4 (zbT t)<=4*n+5:=by
 obtain⟨m,o,q,s,_,_⟩:=h;have e:=zAl (t.a.v*t.d.v) (t.b.v*t.c.v);have f:=yN t.a.v t.d.v;have g:=yN t.b.v t.c.v;have i:=zR t.a;have j:=zR t.b;have k:=zR t.c;have l:=zR t.d;unfold zbT;omega
def zuQ(p:Pnt)(u:p.t.le 1000)(x:p.im.px.length<=9223372036854775807):CX 338 [.agg (qD p)] (pr (vQ p)):=by
 refine zc func338 ?_;have d:p.t.le 10000000:=u.up dC;refine wc<|wg (zhi p.t (u.up dC))<|⟨λi=>zd (λk=>i k.1),λi=>?_⟩;have i:=Xa.1 i;refine wg (zyE p)<|wg ((zuP (vp p) (za3 p.k) (by rw[zEJ];exact zal _) (zal _)).args (.C (.cons (zB3 p.k) .nil))) ?_
 have only:p.k=1∨p.k=2∨p.k=3∨p.k=4->¬(vp p).same (za3 p.k)->¬zqk p:=by
  intro _ g k
  obtain⟨e,k⟩|⟨e,k⟩|⟨e,k⟩|⟨e,k⟩:=k
  .exact g ((zF3 e).2 ⟨k.1,k.2.1,k.2.2.1⟩)
  .exact g ((zF4 e).2 ⟨k.1,k.2.1,k.2.2.1⟩)
  .exact g ((zF5 e).2 ⟨k.1,k.2.1,k.2.2.1⟩)
  exact g ((zF6 e).2 ⟨k.1,k.2.1⟩)
 refine⟨λg=>zd (λk=>only (by rcases k.2.1 with h|h|h|h <;> omega) g k.2.1),λg=>?_⟩;have g:=Xa.1 g;have m:=zjD (ofQ (zbT p.t)) zBR (by have:=zhU u;rw[zF];omega) (Xh _);rw[ky,zBR_v]at m;have det:=m.args (args:=[wm (ofQ (zbT p.t)),.agg [bl false,nS,bl false,nS]]) (.C (.cons (jk y5) .nil));refine⟨λq=>?_,λq=>?_⟩
 .have c:=(zF3 q).1 g;refine wg ((zvP p.t qJ d (zal _)).args (.C (.cons zcD .nil)))<|zC ⟨λh=>⟨i,.inl ⟨q,c.1,c.2.1,c.2.2,h⟩,.inl q⟩,λh=>?_⟩
  obtain⟨e,k⟩|⟨e,_⟩|⟨e,_⟩|⟨e,_⟩:=h.2.1
  .exact k.2.2.2
  all_goals omega
 refine⟨λv=>?_,λv=>?_⟩
 .have c:=(zF4 v).1 g
  have get:vQ p->has2 p:=λh=>by
   obtain⟨e,_⟩|⟨e,k⟩|⟨e,_⟩|⟨e,_⟩:=h.2.1
   .omega
   .exact k
   all_goals omega
  refine wg (qe p.p0)<|⟨λf=>zd (λk=>f (get k).2.2.2.1),λf=>?_⟩;refine wg (qe p.p1)<|⟨λl=>zd (λk=>l (get k).2.2.2.2.1),λl=>?_⟩;refine wg (zhT p)<|⟨λj=>zd (λk=>j (get k).2.2.2.2.2),λj=>?_⟩;refine wg (zlz p.t d)<|wg det ?_;refine zC ((uQ _).trans ⟨λh=>⟨i,.inr (.inl ⟨v,c.1,c.2.1,c.2.2,Xa.1 f,Xa.1 l,Xa.1 j⟩),.inr h⟩,λh=>h.2.2.resolve_left oM⟩)
 refine⟨λw=>?_,λw=>?_⟩
 .have c:=(zF5 w).1 g
  have get:vQ p->has3 p:=λh=>by
   obtain⟨e,_⟩|⟨e,_⟩|⟨e,k⟩|⟨e,_⟩:=h.2.1
   .omega
   .omega
   .exact k
   omega
  refine wg (qe p.p0)<|⟨λf=>zd (λk=>f (get k).2.2.2.1),λf=>?_⟩;refine⟨λl=>zd (λk=>by have:=(get k).2.2.2.2.1;omega),λl=>?_⟩;refine⟨λj=>zd (λk=>by have:=(get k).2.2.2.2.2.1;omega),λj=>?_⟩;refine wg (zhT p)<|⟨λn=>zd (λk=>n (get k).2.2.2.2.2.2),λn=>?_⟩;refine wg (zlz p.t d)<|wg det ?_
  refine zC ((uQ _).trans ⟨λh=>⟨i,.inr (.inr (.inl ⟨w,c.1,c.2.1,c.2.2,Xa.1 f,oM,oM,Xa.1 n⟩)),.inr h⟩,λh=>h.2.2.resolve_left oM⟩)
 refine⟨λo=>?_,λo=>?_⟩
 .have c:=(zF6 o).1 g
  have get:vQ p->has4 p:=λh=>by
   obtain⟨e,_⟩|⟨e,_⟩|⟨e,_⟩|⟨e,k⟩:=h.2.1
   .omega
   .omega
   .omega
   exact k
  refine wg (zow p.im x)<|⟨λf=>zd (λk=>f (get k).2.2.1),λf=>?_⟩;refine⟨λl=>?_,λl=>?_⟩
  .refine wg (zf2 p.sp)<|⟨λj=>zd (λk=>by rcases(get k).2.2.2.1 with h|h;exact l h;exact j h),λj=>?_⟩;refine⟨λn=>?_,λn=>?_⟩
   .refine⟨λs=>zd (λk=>by have:=(get k).2.2.2.2;omega),λs=>?_⟩;refine wg (zlz p.t d)<|wg det ?_;refine zC ((uQ _).trans ⟨λh=>⟨i,.inr (.inr (.inr ⟨o,c.1,c.2,Xa.1 f,.inr (Xa.1 j),oM⟩)),.inr h⟩,λh=>h.2.2.resolve_left oM⟩)
   refine wg (zlz p.t d)<|wg det ?_;refine zC ((uQ _).trans ⟨λh=>⟨i,.inr (.inr (.inr ⟨o,c.1,c.2,Xa.1 f,.inr (Xa.1 j),oM⟩)),.inr h⟩,λh=>h.2.2.resolve_left oM⟩)
  refine⟨λn=>?_,λn=>?_⟩
  .refine⟨λs=>zd (λk=>by have:=(get k).2.2.2.2;omega),λs=>?_⟩;refine wg (zlz p.t d)<|wg det ?_;refine zC ((uQ _).trans ⟨λh=>⟨i,.inr (.inr (.inr ⟨o,c.1,c.2,Xa.1 f,.inl oM,oM⟩)),.inr h⟩,λh=>h.2.2.resolve_left oM⟩)
  refine wg (zlz p.t d)<|wg det ?_;refine zC ((uQ _).trans ⟨λh=>⟨i,.inr (.inr (.inr ⟨o,c.1,c.2,Xa.1 f,.inl oM,oM⟩)),.inr h⟩,λh=>h.2.2.resolve_left oM⟩)
 exact zd (λk=>by obtain⟨e,_⟩|⟨e,_⟩|⟨e,_⟩|⟨e,_⟩:=k.2.1 <;> omega)
def mulb{a b A B:Int}(d:0<=a)(e:a<=A)(c:0<=b)(f:b<=B):0<=a*b/\a*b<=A*B:=
 ⟨XI d c,J5 e f c oM⟩
def zmo(mode:Int):Prop:=1<=mode/\mode<=13
instance instB01 (m:Int):Decidable (zmo m):=wi
structure Rc where
 x0:Int
 y0:Int
 x1:Int
 y1:Int
def rcE(r:Rc):LR:=[i64 r.x0,i64 r.y0,i64 r.x1,i64 r.y1]
def qj:Rc:=⟨0,0,0,0⟩
def zF7{p q:Rc}:(p.x0=q.x0/\p.y0=q.y0/\p.x1=q.x1/\p.y1=q.y1/\True)↔p=q:=by
 obtain⟨a,b,c,d⟩:=p;obtain⟨e,f,g,h⟩:=q;simp
instance instG01:DecidableEq Rc:=λ_ _=>decidable_of_iff _ zF7
def zbb(n:Int):Prop:= -4096<=n/\n<=4096
instance instG02 (n:Int):Decidable (zbb n):=wi
def Rc.ok(r:Rc):Prop:=zbb r.x0/\zbb r.y0/\zbb r.x1/\zbb r.y1
instance instG03 (r:Rc):Decidable r.ok:=wi
def Rc.mt(r:Rc):Prop:=¬r.ok∨r.x1<=r.x0∨r.y1<=r.y0
instance instG04 (r:Rc):Decidable r.mt:=wj
def Rc.canon(r:Rc):Rc:=if r.mt then qj else r
def Rc.w(r:Rc):Int:=r.x1-r.x0
def Rc.h(r:Rc):Int:=r.y1-r.y0
def Rc.area(r:Rc):Int:=r.canon.w*r.canon.h
def Rc.meet(a b:Rc):Rc:=if a.mt∨b.mt then qj else Rc.canon ⟨max a.x0 b.x0,max a.y0 b.y0,min a.x1 b.x1,min a.y1 b.y1⟩
def uu:qj.mt:=dC
def Rc.canon_canon(r:Rc):r.canon.canon=r.canon:=by
 unfold Rc.canon
 by_cases h:r.mt
 .rw[Xe h];decide
 rw[Xc h,Xc h]
variable{r:Rc}
def Rc.canon_self(h:r.canon=r):(r=qj)∨(¬r.mt):=by
 unfold Rc.canon at h
 by_cases k:r.mt
 .rw[Xe k]at h;exact .inl h.symm
 exact .inr k
def Rc.notmt(h:¬r.mt):r.ok/\r.x0<r.x1/\r.y0<r.y1:=by
 unfold Rc.mt at h;refine⟨Xa.1 λk=>h (.inl k),?_,?_⟩
 .rcases Qf r.x0 r.x1 with k|k
  .exact k
  exact absurd (.inr (.inl k)) h
 rcases Qf r.y0 r.y1 with k|k
 .exact k
 exact absurd (.inr (.inr k)) h
def Rc.sides(h:r.canon=r):zbb r.x0/\zbb r.y0/\zbb r.x1/\zbb r.y1/\0<=r.w/\r.w<=8192/\0<=r.h/\r.h<=8192/\(r.w=0↔r.h=0):=by
 unfold Rc.w Rc.h
 rcases Rc.canon_self h with rfl|k
 .decide
 obtain⟨⟨⟨a,b⟩,⟨c,d⟩,⟨e,f⟩,g,i⟩,j,k⟩:=Rc.notmt k;unfold zbb;omega
def uR{p q:Rc}(h:p=q):LE (.agg (rcE p)) (.agg (rcE q)):=by subst h;exact .refl
def Rc.canon_pos(h:r.mt):r.canon=qj:=Xe h
def Rc.canon_neg(h:¬r.mt):r.canon=r:=Xc h
def Rc.canon_R(r:Rc):zbb r.canon.x0/\zbb r.canon.y0/\zbb r.canon.x1/\zbb r.canon.y1/\0<=r.canon.x1-r.canon.x0/\r.canon.x1-r.canon.x0<=8192/\0<=r.canon.y1-r.canon.y0/\r.canon.y1-r.canon.y0<=8192:=by
 obtain⟨a,b,c,d,e,f,g,h,_⟩:=Rc.sides r.canon_canon;exact⟨a,b,c,d,e,f,g,h⟩
def Rc.meet_canon(a b:Rc):Rc.canon ⟨max a.canon.x0 b.canon.x0,max a.canon.y0 b.canon.y0,min a.canon.x1 b.canon.x1,min a.canon.y1 b.canon.y1⟩=a.meet b:=by
 unfold Rc.meet;have c:qj.x0=0/\qj.y0=0/\qj.x1=0/\qj.y1=0:=⟨rfl,rfl,rfl,rfl⟩
 by_cases d:a.mt
 .rw[Xe (.inl d),Rc.canon_pos d,Rc.canon_pos]
  right;left;dsimp only;rw[c.1,c.2.2.1];omega
 by_cases e:b.mt
 .rw[Xe (.inr e),Rc.canon_pos e,Rc.canon_pos]
  right;left;dsimp only;rw[c.1,c.2.2.1];omega
 rw[Xc (λh=>h.elim d e),Rc.canon_neg d,Rc.canon_neg e]
def zwt(n:Int):CX 95 [i64 n] (pr (zbb n)):=by
 refine zc func95<|Br.mk (λc=>?_) (λc=>zd (λh=>c h.1));exact zC ⟨λh=>⟨c,h⟩,λh=>h.2⟩
def zEK(r:Rc):CX 55 [.agg (rcE r)] (pr r.ok):=by
 refine zc func55<|wg (zwt r.x0)<|⟨λc=>?_,λc=>zd (λh=>c h.1)⟩;refine wg (zwt r.y0)<|⟨λd=>?_,λd=>zd (λh=>d h.2.1)⟩;refine wg (zwt r.x1)<|⟨λe=>?_,λe=>zd (λh=>e h.2.2.1)⟩;exact wg (zwt r.y1)<|zC ⟨λh=>⟨c,d,e,h⟩,λh=>h.2.2.2⟩
def zdr(r:Rc):CX 27 [.agg (rcE r)] (pr r.mt):=by
 refine zc func27<|wg (zEK r)<|⟨λc=>zH (.inl c),λc=>?_⟩;refine⟨λd=>zH (.inr (.inl d)),λd=>?_⟩;exact zC ⟨λh=>.inr (.inr h),λh=>by rcases h with h|h|h;exact absurd h c;exact absurd h d;exact h⟩
def zfy(r:Rc):CX 54 [.agg (rcE r)] (.agg (rcE r.canon)):=by
 refine zc func54<|wg (zdr r) ?_;refine⟨λc=>uR (Rc.canon_pos c).symm,λc=>uR (Rc.canon_neg c).symm⟩
def zmp(r:Rc):CX 56 [.agg (rcE r)] (i64 r.area):=by
 obtain⟨a,b,c,d,e,f,g,h⟩:=r.canon_R;unfold zbb at a b c d;have i:=mulb e f g h;refine zc func56<|wg (zfy r) ?_;(iterate 3 refine wa ?_);exact .refl
def zkq(n:Int):CX 100 [i64 n] (pr (zbb n)):=by
 refine zc func100<|Br.mk (λc=>?_) (λc=>zd (λh=>c h.1));exact zC ⟨λh=>⟨c,h⟩,λh=>h.2⟩
def zEL(r:Rc):CX 60 [.agg (rcE r)] (pr r.ok):=by
 refine zc func60<|wg (zkq r.x0)<|⟨λc=>?_,λc=>zd (λh=>c h.1)⟩;refine wg (zkq r.y0)<|⟨λd=>?_,λd=>zd (λh=>d h.2.1)⟩;refine wg (zkq r.x1)<|⟨λe=>?_,λe=>zd (λh=>e h.2.2.1)⟩;exact wg (zkq r.y1)<|zC ⟨λh=>⟨c,d,e,h⟩,λh=>h.2.2.2⟩
def zfz(r:Rc):CX 30 [.agg (rcE r)] (pr r.mt):=by
 refine zc func30<|wg (zEL r)<|⟨λc=>zH (.inl c),λc=>?_⟩;refine⟨λd=>zH (.inr (.inl d)),λd=>?_⟩;exact zC ⟨λh=>.inr (.inr h),λh=>by rcases h with h|h|h;exact absurd h c;exact absurd h d;exact h⟩
def zql(r:Rc):CX 61 [.agg (rcE r)] (.agg (rcE r.canon)):=by
 refine zc func61<|wg (zfz r) ?_;refine⟨λc=>uR (Rc.canon_pos c).symm,λc=>uR (Rc.canon_neg c).symm⟩
def zqm(a b:Rc):CX 34 [.agg (rcE a),.agg (rcE b)] (.agg (rcE (a.meet b))):=by
 refine zc func34<|wd<|wg (zfy a)<|wg (zfy b)<|wh<|wg (zfy ⟨max a.canon.x0 b.canon.x0,max a.canon.y0 b.canon.y0,min a.canon.x1 b.canon.x1,min a.canon.y1 b.canon.y1⟩) ?_;exact uR (Rc.meet_canon a b)
def zHH(a b:Rc):CX 31 [.agg (rcE a),.agg (rcE b)] (.agg (rcE (a.meet b))):=by
 refine zc func31<|wg (zfz a)<|⟨λc=>uR (p:=qj) (by unfold Rc.meet;rw[Xe (.inl c)]),λc=>?_⟩;refine wg (zfz b)<|⟨λd=>uR (p:=qj) (by unfold Rc.meet;rw[Xe (.inr d)]),λd=>?_⟩;exact wg (zql ⟨max a.x0 b.x0,max a.y0 b.y0,min a.x1 b.x1,min a.y1 b.y1⟩)<|uR (by unfold Rc.meet;rw[Xc (λh=>h.elim c d)])
def zHI(m:Int):CX 208 [i64 m] (pr (zmo m)):=by
 refine zc func208<|Br.mk (λc=>?_) (λc=>zd (λh=>c h.1));exact zC ⟨λh=>⟨c,h⟩,λh=>h.2⟩
def zHJ(m:Int):CX 134 [i64 m] (pr (zmo m)):=by
 refine zc func134<|Br.mk (λc=>?_) (λc=>zd (λh=>c h.1));exact zC ⟨λh=>⟨c,h⟩,λh=>h.2⟩
def zqq(ks:LV):List (Int×SV):=ks.map λk=>(k,bl true)
def zyM{n:Int}{A K0:Prop}{F:Int×SV->List (Int×SV)->Prop->Prop}{ks:LV}(hF:∀k r c,(n=k->A)->(¬n=k->c)->F (k,bl true) r c)(f:n∈ks->A)(d:n∉ks->K0):
  List.rec (motive:=λ_=>Prop) K0 F (zqq ks):=by
 induction ks with
 |nil=>exact d sI
 |cons k r c=>
  exact hF k (zqq r) _ (λe=>f (by rw[e];exact .head _)) λe=>c (λh=>f (.tail _ h)) λh=>d λi=>by
   cases i with
   |head=>exact e rfl
   |tail _ g=>exact h g
def zsX{n:Int}:∀{ks:LV} {K:List (Int×SV)->Prop},n∉ks->K (zqq (ks++[n]))->zzw (zqq ks) n (bl true) K
 |[],_,_,k=>k
 |a::r,K,c,k=>by
  show Br (n=a->K ((n,bl true)::zqq r)) (¬n=a->zzw (zqq r) n (bl true) λd=>K ((a,bl true)::d));exact⟨λe=>absurd (e ▸ .head _) c,λ_=>zsX (λh=>c (.tail _ h)) k⟩
def zoG{p:Pix}:(p.r=0/\p.g=0/\p.b=0/\p.a=0/\True)↔p=zeH:=zmm (q:=zeH)
variable{p:Pt}
def pt_z:(p.x=0/\p.y=0/\True)↔p=zp:=qp (q:=zp)
def zCg(p:Pnt):CX 381 [.agg (qD p)] (pr (zeI p)):=by
 refine zc func381<|Br.mk (λc=>?_) (λc=>zd (λh=>c (qp.2 h.1)));refine⟨λd=>?_,λd=>zd (λh=>d (qp.2 h.2.1))⟩;refine⟨λe=>?_,λe=>zd (λh=>e h.2.2.1)⟩;intro f;exact zC ⟨λh=>⟨pt_z.1 c,pt_z.1 d,e,XQ.1 oM⟩,λh=>by rw[h.2.2.2];rfl⟩
def zjb(p:Pnt):CX 382 [.agg (qD p)] (pr (vP p)):=by
 refine zc func382<|Br.mk (λc=>?_) (λc=>zd (λh=>c h.1));refine⟨λd=>?_,λd=>zd (λh=>d h.2.1)⟩;intro f;refine⟨λe=>?_,λe=>zd (λh=>e (by rw[h.2.2.1];rfl))⟩;exact zC ⟨λh=>⟨c,d,XQ.1 oM,h⟩,λh=>h.2.2.2⟩
def zEV(t:AF)(ht:t.le 10000000):CX 383 [wo t] (pr (t.same qJ)):=by
 exact zc func383<|wg ((zxL t qJ ht (zal _)).args (.C (.cons zcD .nil)))<|.refl
def c_has(p:Pnt)(s:p.t.le 10000000):CX 324 [.agg (qD p)] (pr (zqk p)):=by
 refine zc func324<|Br.mk (λm=>?_) (λm=>?_)
 .have get:zqk p->has1 p:=λh=>by obtain⟨e,k⟩|⟨e,k⟩|⟨e,k⟩|⟨e,k⟩:=h <;> first|exact k|omega
  refine wg (zCg p)<|⟨λc=>?_,λc=>zd (λk=>c (get k).1)⟩;refine wg (zjb p)<|⟨λd=>?_,λd=>zd (λk=>d (get k).2.1)⟩;refine⟨λf=>?_,λf=>zd (λk=>f (get k).2.2.1)⟩;exact wg (zEV p.t s)<|zC ⟨λh=>.inl ⟨m,c,d,f,h⟩,λk=>(get k).2.2.2⟩
 refine⟨λn=>?_,λn=>?_⟩
 .have get:zqk p->has2 p:=λh=>by obtain⟨e,k⟩|⟨e,k⟩|⟨e,k⟩|⟨e,k⟩:=h <;> first|exact k|omega
  refine wg (zjb p)<|⟨λc=>?_,λc=>zd (λk=>c (get k).1)⟩;refine⟨λd=>?_,λd=>zd (λk=>d (zoG.2 (get k).2.1))⟩;refine⟨λf=>?_,λf=>zd (λk=>f (get k).2.2.1)⟩;refine wg (ki p.p0)<|⟨λi=>?_,λi=>zd (λk=>i (get k).2.2.2.1)⟩;refine wg (ki p.p1)<|⟨λg=>?_,λg=>zd (λk=>g (get k).2.2.2.2.1)⟩;refine wg (zoy p.st)<|⟨λj=>?_,λj=>zd (λk=>j (get k).2.2.2.2.2.1)⟩;refine wg (zbO p.sp) ?_
  exact zC ⟨λh=>.inr (.inl ⟨n,c,zoG.1 d,f,i,g,j,h⟩),λk=>(get k).2.2.2.2.2.2⟩
 refine⟨λo=>?_,λo=>?_⟩
 .have get:zqk p->has3 p:=λh=>by obtain⟨e,k⟩|⟨e,k⟩|⟨e,k⟩|⟨e,k⟩:=h <;> first|exact k|omega
  refine wg (zjb p)<|⟨λc=>?_,λc=>zd (λk=>c (get k).1)⟩;refine⟨λd=>?_,λd=>zd (λk=>d (zoG.2 (get k).2.1))⟩;refine⟨λf=>?_,λf=>zd (λk=>f (pt_z.2 (get k).2.2.1))⟩;refine wg (ki p.p0)<|⟨λi=>?_,λi=>zd (λk=>i (get k).2.2.2.1)⟩;refine⟨λg=>?_,λg=>zd (λk=>g (get k).2.2.2.2.1)⟩;refine⟨λj=>?_,λj=>zd (λk=>j (get k).2.2.2.2.2.1)⟩;refine wg (zoy p.st) ?_
  refine⟨λl=>?_,λl=>zd (λk=>l (get k).2.2.2.2.2.2.1)⟩;exact wg (zbO p.sp)<|zC ⟨λh=>.inr (.inr (.inl ⟨o,c,zoG.1 d,pt_z.1 f,i,g,j,l,h⟩)),λk=>(get k).2.2.2.2.2.2.2⟩
 refine⟨λq=>?_,λq=>?_⟩
 .have get:zqk p->has4 p:=λh=>by obtain⟨e,k⟩|⟨e,k⟩|⟨e,k⟩|⟨e,k⟩:=h <;> first|exact k|omega
  refine wg (zCg p)<|⟨λc=>?_,λc=>zd (λk=>c (get k).1)⟩;refine⟨λd=>?_,λd=>zd (λk=>d (zoG.2 (get k).2.1))⟩;refine wg (zml p.im)<|⟨λf=>?_,λf=>zd (λk=>f (get k).2.2.1)⟩;have yes:(p.sp=0∨zsS p.sp)->(p.sm=1∨p.sm=2)->zqk p:=λa b=>.inr (.inr (.inr ⟨q,c,zoG.1 d,f,a,b⟩))
  refine⟨λi=>?_,λi=>?_⟩
  .refine⟨λg=>zH (yes (.inl i) (.inl g)),λg=>?_⟩;exact zC ⟨λh=>yes (.inl i) (.inr h),λk=>(get k).2.2.2.2.resolve_left g⟩
  refine wg (zbO p.sp)<|⟨λj=>?_,λj=>zd (λk=>by rcases(get k).2.2.2.1 with h|h;exact i h;exact j h)⟩;refine⟨λg=>zH (yes (.inr j) (.inl g)),λg=>?_⟩;exact zC ⟨λh=>yes (.inr j) (.inr h),λk=>(get k).2.2.2.2.resolve_left g⟩
 exact zd (λk=>by obtain⟨e,_⟩|⟨e,_⟩|⟨e,_⟩|⟨e,_⟩:=k <;> omega)
def zs0(p:Pnt)(f:p.t.le 1000):CX 262 [.agg (qD p)] (pr (vQ p)):=by
 refine zc func262<|wg (zcC p.t (f.up dC))<|⟨λd=>zd (λk=>d k.1),λd=>?_⟩;have d:=Xa.1 d;refine wg (c_has p (f.up dC))<|⟨λe=>zd (λk=>e k.2.1),λe=>?_⟩;have e:=Xa.1 e;refine⟨λg=>zH ⟨d,e,.inl g⟩,λg=>?_⟩;refine wg (zvQ p.t (f.up dC)) ?_;have i:=yH 0 dC;refine wg i ?_;have c:=zAt (ofQ (zbT p.t)) (ofQ ((0:Int):Rat)) (by have:=zhU f;rw[zF];omega) (by have:=zB2 (n:=0) dC;rw[zF];omega);rw[ky,ky]at c
 refine wg c ?_;refine zC ((uQ _).trans ⟨λh=>⟨d,e,.inr h⟩,λh=>h.2.2.resolve_left g⟩)
def orP(a b p:Pt):Int:=wdg (zae b a) (zae p a)
def uV(a b p:Pt):Int:=if a.y<=p.y/\p.y<b.y/\0<orP a b p then 1 else if b.y<=p.y/\p.y<a.y/\0<orP b a p then-1 else 0
def zjT(a b p:Pt): -1<=uV a b p/\uV a b p<=1:=by
 unfold uV;split
 .omega
 split <;> omega
def uW(r:LU)(p:Pt)(n:Nat):Int:=((List.range n).map λi=>uV (r.getD i zp) (r.getD ((i+1)%r.length) zp) p).sum
def zdB(r:LU)(p:Pt)(n:Nat):uW r p (n+1)=uW r p n+uV (r.getD n zp) (r.getD ((n+1)%r.length) zp) p:=by
 unfold uW;rw[KH,Xz,QW];simp
def zeR(r:LU)(p:Pt)(n:Nat): -(n:Int)<=uW r p n/\uW r p n<=n:=by
 induction n with
 |zero=>exact⟨by simp[uW],by simp[uW]⟩
 |succ n c=>
  have:=zjT (r.getD n zp) (r.getD ((n+1)%r.length) zp) p;rw[zdB];omega
def zoP{r:LU}{i:Nat}{x y:Pt}(d:r[i]?=some x)(c:r[(((i:Int)+1)%(r.length:Int)).toNat]?=some y)(h:i<r.length):uW r p (i+1)=uW r p i+uV x y p:=by
 rw[zkg h,XU]at c;rw[zdB,Xs,Xs,d,c];rfl
def zbS(rs:LQ)(p:Pt)(n:Nat):Int:=((List.range n).map λi=>uW (rs.getD i []) p (rs.getD i []).length).sum
def zdC{rs:LQ}{n:Nat}{r:LU}(h:rs[n]?=some r):zbS rs p (n+1)=zbS rs p n+uW r p r.length:=by
 unfold zbS;rw[KH,Xz,QW];simp[Xs,h]
def zcb(rs:LQ)(p:Pt):∀n,n<=rs.length-> -(qh (rs.take n):Int)<=zbS rs p n/\zbS rs p n<=qh (rs.take n)
 |0,_=>⟨by simp[zbS],by simp[zbS]⟩
 |n+1,h=>by
  have d:=zcb rs p n oM;obtain⟨r,c⟩:∃r,rs[n]?=some r:=⟨_,Xb oM⟩;have:=zeR r p r.length;rw[zdC c,vl c];omega
def zh5(rs:LQ)(p:Pt):Int:=if kC rs/\zm p then zbS rs p rs.length else 0
def ztj(rs:LQ)(p:Pt): -4096<=zh5 rs p/\zh5 rs p<=4096:=by
 unfold zh5;split
 .rename_i h;have c:=zcb rs p rs.length (Xj _);have d:=zat rs rs.length;have e:=h.1.1;omega
 omega
def zcm(n rule:Int):Prop:=rule=1/\n≠0∨rule=2/\n%2≠0
instance (n rule:Int):Decidable (zcm n rule):=wj
def yk(rs:LQ)(rule:Int)(p:Pt):Prop:=zcm (zh5 rs p) rule
instance (rs:LQ) (rule:Int) (p:Pt):Decidable (yk rs rule p):=inferInstanceAs (Decidable (zcm _ _))
def zh6(a b:Pt):zfU (zae a b):=zcH (jz _) (jz _)
def zCG(p q:Pt)(c:zfU p)(d:zfU q):CX 171 [wk p,wk q] (i64 (wdg p q)):=by
 have h:=zlL c d;refine zc func171 ?_;(iterate 3 refine wa ?_);exact .refl
def zCH(a b p:Pt):CX 120 [wk a,wk b,wk p] (i64 (sgn (orP a b p))):=by
 refine zc func120<|wc<|wg (zAC b a)<|wg (zAC p a)<|wg (zCG (zae b a) (zae p a) (zh6 _ _) (zh6 _ _))<|wg (zpH (orP a b p) (-1) 1) ?_;exact ze (zxN _)
def zH1(n:Int):CX 341 [i64 n] (i64 (sgn n)):=by
 refine zc func341<|Br.mk (λh=>ze (by unfold sgn;rw[Xe h])) (λh=>?_);refine⟨λk=>ze (by unfold sgn;rw[Xc h,Xe k]),λk=>ze (by unfold sgn;rw[Xc h,Xc k])⟩
def zqx(a b p:Pt):CX 282 [wk a,wk b,wk p] (i64 (sgn (orP a b p))):=by
 refine zc func282<|wc<|wg (znR b a)<|wg (znR p a)<|wg (zr1 (zae b a) (zae p a) (zh6 _ _) (zh6 _ _))<|wg (zH1 (orP a b p)) ?_;exact .refl
def zh7{n:Int}:0<sgn n↔0<n:=by unfold sgn;split <;> (try split) <;> omega
variable{a:Pt}{b:Pt}
def zwN(c:a.y<=p.y)(d:p.y<b.y)(e:0<sgn (orP a b p)):uV a b p=1:=Xe ⟨c,d,zh7.1 e⟩
def zku(c:¬(a.y<=p.y/\p.y<b.y/\0<sgn (orP a b p)))(d:b.y<=p.y)(e:p.y<a.y)(f:0<sgn (orP b a p)):uV a b p= -1:=by
 unfold uV;rw[Xc (λh=>c ⟨h.1,h.2.1,zh7.2 h.2.2⟩),Xe ⟨d,e,zh7.1 f⟩]
def zwO(c:¬(a.y<=p.y/\p.y<b.y/\0<sgn (orP a b p)))(d:¬(b.y<=p.y/\p.y<a.y/\0<sgn (orP b a p))):uV a b p=0:=by
 unfold uV;rw[Xc (λh=>c ⟨h.1,h.2.1,zh7.2 h.2.2⟩),Xc (λh=>d ⟨h.1,h.2.1,zh7.2 h.2.2⟩)]
def zH2(a b p:Pt):CX 217 [wk a,wk b,wk p] (i64 (uV a b p)):=by
 refine zc func217 ?_;have sec:¬(a.y<=p.y/\p.y<b.y/\0<sgn (orP a b p))->¬(b.y<=p.y/\p.y<a.y/\0<sgn (orP b a p))->LE (i64 0) (i64 (uV a b p)):=λh k=>ze (zwO h k).symm
 refine⟨λg=>?_,λg=>?_⟩
 .refine⟨λi=>?_,λi=>?_⟩
  .refine wg (zqx a b p)<|⟨λj=>ze (zwN g i j).symm,λj=>?_⟩;have c:¬(a.y<=p.y/\p.y<b.y/\0<sgn (orP a b p)):=λh=>j h.2.2
   refine⟨λd=>?_,λd=>sec c λh=>d h.1⟩;refine⟨λe=>?_,λe=>sec c λh=>e h.2.1⟩;exact wg (zqx b a p)<|⟨λf=>ze (zku c d e f).symm,λf=>sec c λh=>f h.2.2⟩
  have c:¬(a.y<=p.y/\p.y<b.y/\0<sgn (orP a b p)):=λh=>i h.2.1
  refine⟨λd=>?_,λd=>sec c λh=>d h.1⟩;refine⟨λe=>?_,λe=>sec c λh=>e h.2.1⟩;exact wg (zqx b a p)<|⟨λf=>ze (zku c d e f).symm,λf=>sec c λh=>f h.2.2⟩
 have c:¬(a.y<=p.y/\p.y<b.y/\0<sgn (orP a b p)):=λh=>g h.1
 refine⟨λd=>?_,λd=>sec c λh=>d h.1⟩;refine⟨λe=>?_,λe=>sec c λh=>e h.2.1⟩;exact wg (zqx b a p)<|⟨λf=>ze (zku c d e f).symm,λf=>sec c λh=>f h.2.2⟩
abbrev wr(x:Rc):SV:=.agg (rcE x)
abbrev wx(x:Pnt):SV:=.agg (qD x)
abbrev LY:=List Pnt
end Go.Gs
