/- The stops of a gradient: those that may be, those that are the same, copies; offsets spread. -/
import Derived.Test.YtkngjacccoklaaaGreatDoorMA
import Derived.Test.YtkngjacccoklaaaGreatDoorMAY
import Derived.Test.YtkngjacccoklaaaGreatDoorMAP
import Derived.Test.YtkngjacccoklaaaGreatDoorMAM
import Derived.Test.YtkngjacccoklaaaGreatDoorMAR
set_option maxRecDepth 100000
set_option maxHeartbeats 8000000
set_option linter.all false
namespace Go.Gs
open Go.Proofs
structure zh0 where
 o:Int
 c:Pix
 deriving DecidableEq
def zc7(s:zh0):List SV:=[i64 s.o,u8 s.c.r,u8 s.c.g,u8 s.c.b,u8 s.c.a]
def zue{p q:zh0}:(p.o=q.o/\p.c.r=q.c.r/\p.c.g=q.c.g/\p.c.b=q.c.b/\p.c.a=q.c.a/\True)↔p=q:=by
 obtain⟨a,b,c,d,e⟩:=p;obtain⟨a',b',c',d',e'⟩:=q;simp
def zq7:Int->List zh0->Prop
 |_,[]=>True
 |lo,s::l=>(lo<=s.o/\s.o<=65536)/\zq7 s.o l
instance upDec:∀lo l,Decidable (zq7 lo l)
 |_,[]=>isTrue trivial
 |_,s::l=>haveI:=upDec s.o l;inferInstanceAs (Decidable (_/\_))
def zeN(l:List zh0):Prop:=(1<=(l.length:Int)/\(l.length:Int)<=16)/\zq7 0 l
instance (l:List zh0):Decidable (zeN l):=inferInstanceAs (Decidable (_/\_))
def zza(l:List zh0):CG0 467 [.sl zc7 l] [] (pr (zeN l)) []:=by
 refine zc Tryz.func467 ?_;intro hl1;refine⟨λh=>zd (λk=>by have:=k.1.1;omega),λh2=>?_⟩;intro hl2;refine⟨λh=>zd (λk=>by have:=k.1.2;omega),λh3=>?_⟩;intro hl4;refine⟨Int×Int,λ⟨i,at_⟩=>⟨[(3,i64 at_),(14,.sl zc7 l),(15,i64 l.length),(16,i64 i)],[],0,32,0⟩,λ(i,at_)=>0<=i/\i<=l.length/\(zq7 0 l↔zq7 at_ (l.drop i.toNat)),λ(i,_)=>((l.length:Int)-i).toNat,(0,0),?_,?_,?_⟩
 ·exact⟨oM,oM,K7⟩
 ·exact zC []
 rintro⟨i,at_⟩ ⟨g1,g2,g3⟩
 refine⟨λh5=>?_,λh5=>?_⟩
 ·refine Ob.o ?_;intro x hx
  have hd:l.drop i.toNat=x::l.drop (i.toNat+1):=by
   obtain⟨hi,he⟩:=Xd.1 hx;rw[KT hi,he]
  rw[hd]at g3;refine⟨λh6=>zd (λk=>by have:=(g3.1 k.2).1;omega),λh6=>?_⟩;refine⟨λh7=>zd (λk=>by have:=(g3.1 k.2).1;omega),λh7=>?_⟩;refine Ar.o<|⟨(i+1,x.o),⟨oM,oM,?_⟩,zC [],by dsimp only;omega⟩;rw[g3,show(i+1).toNat=i.toNat+1 by omega];exact⟨λk=>k.2,λk=>⟨oM,k⟩⟩
 refine zI ⟨oM,g3.2 ?_⟩;rw[Ky oM];trivial
def zm2(l:List zh0):CG0 461 [.sl zc7 l] [] (pr (zeN l)) []:=by
 refine zc Tryz.func461 ?_;refine⟨Int×Int,λ⟨i,_⟩=>⟨[(0,.sl zc7 l),(3,i64 i)],[],0,50,0⟩,λ(i,at_)=>0<=i/\i<=l.length/\(i=0->at_=0)/\(0<i->0<=at_/\∃y,l[(i-1).toNat]?=some y/\y.o=at_)/\(zq7 0 l↔zq7 at_ (l.drop i.toNat)),λ(i,_)=>((l.length:Int)-i).toNat,(0,0),?_,?_,?_⟩
 ·exact⟨oM,oM,λ_=>rfl,λh=>by omega,K7⟩
 ·exact zC []
 rintro⟨i,at_⟩ ⟨g1,g2,g4,g5,g3⟩
 intro hl1;refine⟨λh5=>?_,λh5=>?_⟩
 ·refine Dr.k<|Ob.o ?_;intro x hx
  have hd:l.drop i.toNat=x::l.drop (i.toNat+1):=by
   obtain⟨hi,he⟩:=Xd.1 hx;rw[KT hi,he]
  rw[hd]at g3
  have hat:0<=at_:=by
   by_cases h0:0<i
   ·exact(g5 h0).1
   have:=g4 oM;omega
  refine⟨λh6=>zd (λk=>by have:=(g3.1 k.2).1;omega),λh6=>?_⟩;refine Ob.o ?_;intro x' hx';rw[hx]at hx';cases hx'
  refine⟨λh7=>zd (λk=>by have:=(g3.1 k.2).1;omega),λh7=>?_⟩;refine⟨λh8=>?_,λh8=>?_⟩
  ·obtain⟨_,y,hy,hyo⟩:=g5 h8;refine Ob.o ?_;intro x' hx';rw[hx]at hx';cases hx'
   refine Ar.o<|Ob.o ?_;intro y' hy';rw[hy]at hy';cases hy'
   refine⟨λh9=>zd (λk=>by have:=(g3.1 k.2).1;omega),λh9=>?_⟩;refine Ar.o<|⟨(i+1,x.o),⟨oM,oM,λh=>by omega,λ_=>⟨oM,x,by rw[show(i+1-1).toNat=i.toNat by omega];exact hx,rfl⟩,?_⟩,zC [],by dsimp only;omega⟩;rw[g3,show(i+1).toNat=i.toNat+1 by omega];exact⟨λk=>k.2,λk=>⟨oM,k⟩⟩
  refine Ar.o ?_;have:=g4 oM;refine⟨(i+1,x.o),⟨oM,oM,λh=>by omega,λ_=>⟨oM,x,by rw[show(i+1-1).toNat=i.toNat by omega];exact hx,rfl⟩,?_⟩,zC [],by dsimp only;omega⟩;rw[g3,show(i+1).toNat=i.toNat+1 by omega];exact⟨λk=>k.2,λk=>⟨oM,k⟩⟩
 have hall:zq7 0 l:=g3.2 (by rw[Ky oM];trivial);intro hl2;refine⟨λh6=>?_,λh6=>?_⟩
 ·intro hl3;exact zE ⟨λk=>⟨⟨oM,k⟩,hall⟩,λk=>k.1.2⟩
 exact zd λk=>h6 k.1.1
def zsL{xs ys:List zh0}{i:Int}(hl:(xs.length:Int)=ys.length)(hi:¬i<xs.length)(h:∀j:Nat,(j:Int)<i->xs[j]?=ys[j]?):xs=ys:=by
 refine Kq λj=>?_
 by_cases hj:(j:Int)<i
 ·exact h j hj
 rw[XG oM,XG oM]
def zBr(xs ys:List zh0):CG0 466 [.sl zc7 xs,.sl zc7 ys] [] (pr (xs=ys)) []:=by
 refine zc Tryz.func466 ?_;intro hl1 hl2;refine⟨λh1=>zd λe=>h1 (by rw[e]),λh1=>?_⟩;have h1:=Xa.1 h1;intro hl3;refine⟨Int,λi=>⟨[(13,i64 i),(12,i64 xs.length),(0,.sl zc7 xs),(1,.sl zc7 ys)],[],0,26,0⟩,λi=>0<=i/\i<=xs.length/\∀j:Nat,(j:Int)<i->xs[j]?=ys[j]?,λi=>((xs.length:Int)-i).toNat,0,?_,?_,?_⟩
 ·exact⟨oM,oM,λj hj=>by omega⟩
 ·exact zC []
 rintro i ⟨h4,h5,h6⟩
 refine⟨λh7=>?_,λh7=>?_⟩
 ·refine Dr.k<|Ob.o ?_;intro x hx;refine Ob.o ?_;intro y hy;refine⟨λh8=>?_,λh8=>?_⟩
  ·refine zd λe=>h8 (zue.2 ?_)
   subst e;rw[hx]at hy;exact Xm hy
  refine Ar.o<|⟨i+1,⟨oM,oM,λj hj=>?_⟩,zC [],by dsimp only;omega⟩
  by_cases e:j=i.toNat
  ·subst e;rw[hx,hy,zue.1 (Xa.1 h8)]
  exact h6 j oM
 exact zI (zsL h1 h7 h6)
def zq8(m:Int):Prop:=1<=m/\m<=3
instance (m:Int):Decidable (zq8 m):=inferInstanceAs (Decidable (_/\_))
def zzb{n:Int}(h:R64 n):yS (n:Rat)<=2:=by
 have h1:=zdG n;have h2:=jj h;omega
structure Pnt where
 k:Int
 c:Pix
 p0:Pt
 p1:Pt
 r:Int
 st:List zh0
 sp:Int
 im:Img
 sm:Int
 t:AF
def yD(p:Pnt):List SV:=
 i64 p.k::u8 p.c.r::u8 p.c.g::u8 p.c.b::u8 p.c.a::i64 p.p0.x::i64 p.p0.y::i64 p.p1.x::i64 p.p1.y::i64 p.r::.sl zc7 p.st::i64 p.sp::i64 p.im.w::i64 p.im.h::.sl zd3 p.im.px::i64 p.sm::afE p.t
def Pnt.same(p q:Pnt):Prop:=p.k=q.k/\p.c=q.c/\p.p0=q.p0/\p.p1=q.p1/\p.r=q.r/\p.st=q.st/\p.sp=q.sp/\p.im=q.im/\p.sm=q.sm/\p.t.same q.t
instance (p q:Pnt):Decidable (p.same q):=inferInstanceAs (Decidable (_/\_))
def zsM(p q:Pnt)(hp:p.t.le 10000000)(hq:q.t.le 10000000):CG0 432 [.agg (yD p),.agg (yD q)] [] (pr (p.same q)) []:=by
 refine zc Tryz.func432 ?_;refine⟨λh1=>?_,λh1=>zd (λe=>h1 e.1)⟩;refine⟨λh2=>?_,λh2=>zd (λe=>h2 (zk4.2 e.2.1))⟩;refine⟨λh3=>?_,λh3=>zd (λe=>h3 (qi.2 e.2.2.1))⟩;refine⟨λh4=>?_,λh4=>zd (λe=>h4 (qi.2 e.2.2.2.1))⟩;refine⟨λh5=>?_,λh5=>zd (λe=>h5 e.2.2.2.2.1)⟩;refine⟨λh6=>?_,λh6=>zd (λe=>h6 e.2.2.2.2.2.2.1)⟩;refine⟨λh7=>?_,λh7=>zd (λe=>h7 e.2.2.2.2.2.2.2.2.1)⟩;refine zb.t (zBr p.st q.st) ?_
 refine⟨λh8=>?_,λh8=>zd (λe=>h8 e.2.2.2.2.2.1)⟩;refine zb.t (zm1 p.im q.im)<|⟨λh9=>?_,λh9=>zd (λe=>h9 e.2.2.2.2.2.2.2.1)⟩;exact zb.t (ztD p.t q.t hp hq)<|zE ⟨λh=>⟨h1,zk4.1 h2,qi.1 h3,qi.1 h4,h5,h8,h6,h9,h7,h⟩,λe=>e.2.2.2.2.2.2.2.2.2⟩
def zk5:LEs ud (afE qA):=by
 have h0:LEs z4 (brE zBR):=yT;have h:LEs (z4++(z4++(z4++(z4++(z4++z4))))) (afE qA):=LEs.append h0 (LEs.append h0 (LEs.append h0 (LEs.append h0 (LEs.append h0 h0))));exact h
def zaG(k:Int):Pnt:=⟨k,zd4,zp,zp,0,[],0,⟨0,0,[]⟩,0,qA⟩
def nil1:SV:=.val (.slice none 0 0)
def zzc(k:Int):LE (.agg (i64 k::u8 0::u8 0::u8 0::u8 0::i64 0::i64 0::i64 0::i64 0::i64 0::nil1::i64 0::i64 0::i64 0::nil1::i64 0::ud)) (.agg (yD (zaG k))):=by
 have h:=zk5;exact ji (.C (.C (.C (.C (.C (.C (.C (.C (.C (.C (.cons zD (.C (.C (.C (.cons zD (.C h))))))))))))))))
def vh(p:Pnt):Pnt:=
 if p.k=1 then { p with c:=zd4,t:=qA } else if p.k=2 then { p with p0:=zp,p1:=zp,st:=[],sp:=0,t:=qA }
 else if p.k=3 then { p with p0:=zp,r:=0,st:=[],sp:=0,t:=qA } else if p.k=4 then { p with im:=⟨0,0,[]⟩,sp:=0,sm:=0,t:=qA } else { p with t:=qA }
def zv1(p:Pnt):CG0 433 [.agg (yD p)] [] (.agg (yD (vh p))) []:=by
 have fin:∀{σ:SV} {q:Pnt},vh p=q->LE σ (.agg (yD q))->LE σ (.agg (yD (vh p))):=λe h=>e ▸ h
 refine zc Tryz.func433 ?_;refine⟨λh1=>?_,λh1=>?_⟩
 ·exact fin (q:={ p with c:=zd4,t:=qA }) (by rw[vh,Xe h1])<|ji (.C (.C (.C (.C (.C (.C (.C (.C (.C (.C (.C (.C (.C (.C (.C (.C zk5))))))))))))))))
 refine⟨λh2=>?_,λh2=>?_⟩
 ·exact fin (q:={ p with p0:=zp,p1:=zp,st:=[],sp:=0,t:=qA }) (by rw[vh,Xc h1,Xe h2])<|ji (.C (.C (.C (.C (.C (.C (.C (.C (.C (.C (.cons zD (.C (.C (.C (.C (.C zk5))))))))))))))))
 refine⟨λh3=>?_,λh3=>?_⟩
 ·exact fin (q:={ p with p0:=zp,r:=0,st:=[],sp:=0,t:=qA }) (by rw[vh,Xc h1,Xc h2,Xe h3])<|ji (.C (.C (.C (.C (.C (.C (.C (.C (.C (.C (.cons zD (.C (.C (.C (.C (.C zk5))))))))))))))))
 refine⟨λh4=>?_,λh4=>?_⟩
 ·exact fin (q:={ p with im:=⟨0,0,[]⟩,sp:=0,sm:=0,t:=qA }) (by rw[vh,Xc h1,Xc h2,Xc h3,Xe h4])<|ji (.C (.C (.C (.C (.C (.C (.C (.C (.C (.C (.C (.C (.C (.C (.cons zD (.C zk5))))))))))))))))
 exact fin (q:={ p with t:=qA }) (by rw[vh,Xc h1,Xc h2,Xc h3,Xc h4])<|ji (.C (.C (.C (.C (.C (.C (.C (.C (.C (.C (.C (.C (.C (.C (.C (.C zk5))))))))))))))))
def zfg(n:Int):CG0 436 [i64 n] [] (pr (zq8 n)) []:=by
 refine zc Tryz.func436 ?_;refine⟨λh1=>?_,λh1=>zd (λh=>h1 h.1)⟩;exact zE ⟨λh=>⟨h1,h⟩,λh=>h.2⟩
def zbq(n:Int):CG0 462 [i64 n] [] (pr (zq8 n)) []:=by
 refine zc Tryz.func462 ?_;refine⟨λh1=>?_,λh1=>zd (λh=>h1 h.1)⟩;exact zE ⟨λh=>⟨h1,h⟩,λh=>h.2⟩
def zg0(p:Pnt):CG0 435 [.agg (yD p)] [] (pr (zeN p.st/\zq8 p.sp)) []:=by
 refine zc Tryz.func435 ?_;refine zb.t (zza p.st)<|⟨λh1=>?_,λh1=>zd (λh=>h1 h.1)⟩;exact zb.t (zfg p.sp)<|zE ⟨λh=>⟨h1,h⟩,λh=>h.2⟩
def vz(p:Pnt):Prop:=p.im.w=0/\p.im.h=0/\p.im.px=[]/\p.sm=0
instance (p:Pnt):Decidable (vz p):=inferInstanceAs (Decidable (_/\_))
def zd5(p:Pnt):Prop:=p.p0=zp/\p.p1=zp/\p.r=0/\p.st=[]
instance (p:Pnt):Decidable (zd5 p):=inferInstanceAs (Decidable (_/\_))
def has1(p:Pnt):Prop:=zd5 p/\vz p/\p.sp=0/\p.t.same qA
instance (p:Pnt):Decidable (has1 p):=inferInstanceAs (Decidable (_/\_))
def has2(p:Pnt):Prop:=vz p/\p.c=zd4/\p.r=0/\zr p.p0/\zr p.p1/\zeN p.st/\zq8 p.sp
instance (p:Pnt):Decidable (has2 p):=inferInstanceAs (Decidable (_/\_))
def has3(p:Pnt):Prop:=vz p/\p.c=zd4/\p.p1=zp/\zr p.p0/\1<=p.r/\p.r<=1048576/\zeN p.st/\zq8 p.sp
instance (p:Pnt):Decidable (has3 p):=inferInstanceAs (Decidable (_/\_))
def has4(p:Pnt):Prop:=zd5 p/\p.c=zd4/\zff p.im/\(p.sp=0∨zq8 p.sp)/\(p.sm=1∨p.sm=2)
instance (p:Pnt):Decidable (has4 p):=inferInstanceAs (Decidable (_/\_))
def zoK(p:Pnt):Prop:=(p.k=1/\has1 p)∨(p.k=2/\has2 p)∨(p.k=3/\has3 p)∨(p.k=4/\has4 p)
instance (p:Pnt):Decidable (zoK p):=inferInstanceAs (Decidable (_∨_))
def vA(p:Pnt):Prop:=p.t.ok/\zoK p/\(p.k=1∨zbr p.t≠0)
instance (p:Pnt):Decidable (vA p):=inferInstanceAs (Decidable (_/\_))
def zCE{p:Pnt}(h:p.k=1):(vh p).same (zaG p.k)↔zd5 p/\vz p/\p.sp=0:=by
 rw[vh,Xe h]
 obtain⟨k,c,p0,p1,r,st,sp,⟨w,hh,px⟩,sm,t⟩:=p
 simp only[Pnt.same,zaG,zd5,vz,Img.mk.injEq];constructor
 ·rintro⟨_,_,h3,h4,h5,h6,h7,⟨h8,h9,h10⟩,h11,_⟩
  exact⟨⟨h3,h4,h5,h6⟩,⟨h8,h9,h10,h11⟩,h7⟩
 rintro⟨⟨h3,h4,h5,h6⟩,⟨h8,h9,h10,h11⟩,h7⟩
 exact⟨trivial,trivial,h3,h4,h5,h6,h7,⟨h8,h9,h10⟩,h11,rfl,rfl,rfl,rfl,rfl,rfl⟩
def zCF{p:Pnt}(h:p.k=2):(vh p).same (zaG p.k)↔vz p/\p.c=zd4/\p.r=0:=by
 rw[vh,Xc oM,Xe h]
 obtain⟨k,c,p0,p1,r,st,sp,⟨w,hh,px⟩,sm,t⟩:=p
 simp only[Pnt.same,zaG,vz,Img.mk.injEq];constructor
 ·rintro⟨_,h2,_,_,h5,_,_,⟨h8,h9,h10⟩,h11,_⟩
  exact⟨⟨h8,h9,h10,h11⟩,h2,h5⟩
 rintro⟨⟨h8,h9,h10,h11⟩,h2,h5⟩
 exact⟨trivial,h2,trivial,trivial,h5,trivial,trivial,⟨h8,h9,h10⟩,h11,rfl,rfl,rfl,rfl,rfl,rfl⟩
def zCG{p:Pnt}(h:p.k=3):(vh p).same (zaG p.k)↔vz p/\p.c=zd4/\p.p1=zp:=by
 rw[vh,Xc oM,Xc oM,Xe h]
 obtain⟨k,c,p0,p1,r,st,sp,⟨w,hh,px⟩,sm,t⟩:=p
 simp only[Pnt.same,zaG,vz,Img.mk.injEq];constructor
 ·rintro⟨_,h2,_,h4,_,_,_,⟨h8,h9,h10⟩,h11,_⟩
  exact⟨⟨h8,h9,h10,h11⟩,h2,h4⟩
 rintro⟨⟨h8,h9,h10,h11⟩,h2,h4⟩
 exact⟨trivial,h2,trivial,h4,trivial,trivial,trivial,⟨h8,h9,h10⟩,h11,rfl,rfl,rfl,rfl,rfl,rfl⟩
def zCH{p:Pnt}(h:p.k=4):(vh p).same (zaG p.k)↔zd5 p/\p.c=zd4:=by
 rw[vh,Xc oM,Xc oM,Xc oM,Xe h]
 obtain⟨k,c,p0,p1,r,st,sp,⟨w,hh,px⟩,sm,t⟩:=p
 simp only[Pnt.same,zaG,zd5];constructor
 ·rintro⟨_,h2,h3,h4,h5,h6,_⟩
  exact⟨⟨h3,h4,h5,h6⟩,h2⟩
 rintro⟨⟨h3,h4,h5,h6⟩,h2⟩
 exact⟨trivial,h2,h3,h4,h5,h6,trivial,trivial,trivial,rfl,rfl,rfl,rfl,rfl,rfl⟩
def zBs(p:Pnt):(vh p).t=qA:=by
 unfold vh;repeat (first|rfl|split)
def vU(n:Nat):qA.le n:=⟨Xh _,Xh _,Xh _,Xh _,Xh _,Xh _⟩
def uL(x:Rat):¬zkf x 0=0↔x≠0:=by
 have h1:=zn3 (x:=x) (y:=0);have h2:=ztC (x:=x) (y:=0);constructor
 ·rintro h rfl
  exact h (Yb (h2.2 Rat.le_refl) (h1.2 Rat.le_refl))
 intro h k;exact h (Rat.le_antisymm (h2.1 oM) (h1.1 oM))
def zg1{t:AF}{n:Nat}(h:t.le n):yS (zbr t)<=4*n+5:=by
 obtain⟨ha,hb,hc,hd,_,_⟩:=h;have h1:=zxw (t.a.v*t.d.v) (t.b.v*t.c.v);have h2:=yH t.a.v t.d.v;have h3:=yH t.b.v t.c.v;have h4:=zO t.a;have h5:=zO t.b;have h6:=zO t.c;have h7:=zO t.d;unfold zbr;omega
def zsN(p:Pnt)(hp:p.t.le 1000)(hl:p.im.px.length<=9223372036854775807):CG0 375 [.agg (yD p)] [] (pr (vA p)) []:=by
 refine zc Tryz.func375 ?_;have hp7:p.t.le 10000000:=hp.up dC;refine Dr.k<|zb.t (zgq p.t (hp.up dC))<|⟨λh1=>zd (λk=>h1 k.1),λh1=>?_⟩;have h1:=Xa.1 h1;refine zb.t (zv1 p)<|zb.t ((zsM (vh p) (zaG p.k) (by rw[zBs];exact vU _) (vU _)).args (.C (.cons (zzc p.k) .nil))) ?_
 have only:p.k=1∨p.k=2∨p.k=3∨p.k=4->¬(vh p).same (zaG p.k)->¬zoK p:=by
  intro _ h2 k
  obtain⟨e,k⟩|⟨e,k⟩|⟨e,k⟩|⟨e,k⟩:=k
  ·exact h2 ((zCE e).2 ⟨k.1,k.2.1,k.2.2.1⟩)
  ·exact h2 ((zCF e).2 ⟨k.1,k.2.1,k.2.2.1⟩)
  ·exact h2 ((zCG e).2 ⟨k.1,k.2.1,k.2.2.1⟩)
  exact h2 ((zCH e).2 ⟨k.1,k.2.1⟩)
 refine⟨λh2=>zd (λk=>only (by rcases k.2.1 with h|h|h|h <;> omega) h2 k.2.1),λh2=>?_⟩;have h2:=Xa.1 h2;have hcmp:=zil (ofQ (zbr p.t)) zBR (by have:=zg1 hp;rw[zF];omega) (Xh _);rw[kv,zBR_v]at hcmp;have det:=hcmp.args (args:=[.agg (brE (ofQ (zbr p.t))),.agg [bl false,.val (.slice none 0 0),bl false,.val (.slice none 0 0)]]) (.C (.cons (ji yT) .nil));refine⟨λk1=>?_,λk1=>?_⟩
 ·have hb:=(zCE k1).1 h2;refine zb.t ((ztD p.t qA hp7 (vU _)).args (.C (.cons zb9 .nil)))<|zE ⟨λh=>⟨h1,.inl ⟨k1,hb.1,hb.2.1,hb.2.2,h⟩,.inl k1⟩,λh=>?_⟩
  obtain⟨e,k⟩|⟨e,_⟩|⟨e,_⟩|⟨e,_⟩:=h.2.1
  ·exact k.2.2.2
  all_goals omega
 refine⟨λk2=>?_,λk2=>?_⟩
 ·have hb:=(zCF k2).1 h2
  have get:vA p->has2 p:=λh=>by
   obtain⟨e,_⟩|⟨e,k⟩|⟨e,_⟩|⟨e,_⟩:=h.2.1
   ·omega
   ·exact k
   all_goals omega
  refine zb.t (k8 p.p0)<|⟨λh3=>zd (λk=>h3 (get k).2.2.2.1),λh3=>?_⟩;refine zb.t (k8 p.p1)<|⟨λh4=>zd (λk=>h4 (get k).2.2.2.2.1),λh4=>?_⟩;refine zb.t (zg0 p)<|⟨λh5=>zd (λk=>h5 (get k).2.2.2.2.2),λh5=>?_⟩;refine zb.t (zkg p.t hp7)<|zb.t det ?_;refine zE ((uL _).trans ⟨λh=>⟨h1,.inr (.inl ⟨k2,hb.1,hb.2.1,hb.2.2,Xa.1 h3,Xa.1 h4,Xa.1 h5⟩),.inr h⟩,λh=>h.2.2.resolve_left oM⟩)
 refine⟨λk3=>?_,λk3=>?_⟩
 ·have hb:=(zCG k3).1 h2
  have get:vA p->has3 p:=λh=>by
   obtain⟨e,_⟩|⟨e,_⟩|⟨e,k⟩|⟨e,_⟩:=h.2.1
   ·omega
   ·omega
   ·exact k
   omega
  refine zb.t (k8 p.p0)<|⟨λh3=>zd (λk=>h3 (get k).2.2.2.1),λh3=>?_⟩;refine⟨λh4=>zd (λk=>by have:=(get k).2.2.2.2.1;omega),λh4=>?_⟩;refine⟨λh5=>zd (λk=>by have:=(get k).2.2.2.2.2.1;omega),λh5=>?_⟩;refine zb.t (zg0 p)<|⟨λh6=>zd (λk=>h6 (get k).2.2.2.2.2.2),λh6=>?_⟩;refine zb.t (zkg p.t hp7)<|zb.t det ?_
  refine zE ((uL _).trans ⟨λh=>⟨h1,.inr (.inr (.inl ⟨k3,hb.1,hb.2.1,hb.2.2,Xa.1 h3,oM,oM,Xa.1 h6⟩)),.inr h⟩,λh=>h.2.2.resolve_left oM⟩)
 refine⟨λk4=>?_,λk4=>?_⟩
 ·have hb:=(zCH k4).1 h2
  have get:vA p->has4 p:=λh=>by
   obtain⟨e,_⟩|⟨e,_⟩|⟨e,_⟩|⟨e,k⟩:=h.2.1
   ·omega
   ·omega
   ·omega
   exact k
  refine zb.t (zm0 p.im hl)<|⟨λh3=>zd (λk=>h3 (get k).2.2.1),λh3=>?_⟩;refine⟨λh4=>?_,λh4=>?_⟩
  ·refine zb.t (zfg p.sp)<|⟨λh5=>zd (λk=>by rcases(get k).2.2.2.1 with h|h;exact h4 h;exact h5 h),λh5=>?_⟩;refine⟨λh6=>?_,λh6=>?_⟩
   ·refine⟨λh7=>zd (λk=>by have:=(get k).2.2.2.2;omega),λh7=>?_⟩;refine zb.t (zkg p.t hp7)<|zb.t det ?_;refine zE ((uL _).trans ⟨λh=>⟨h1,.inr (.inr (.inr ⟨k4,hb.1,hb.2,Xa.1 h3,.inr (Xa.1 h5),oM⟩)),.inr h⟩,λh=>h.2.2.resolve_left oM⟩)
   refine zb.t (zkg p.t hp7)<|zb.t det ?_;refine zE ((uL _).trans ⟨λh=>⟨h1,.inr (.inr (.inr ⟨k4,hb.1,hb.2,Xa.1 h3,.inr (Xa.1 h5),oM⟩)),.inr h⟩,λh=>h.2.2.resolve_left oM⟩)
  refine⟨λh6=>?_,λh6=>?_⟩
  ·refine⟨λh7=>zd (λk=>by have:=(get k).2.2.2.2;omega),λh7=>?_⟩;refine zb.t (zkg p.t hp7)<|zb.t det ?_;refine zE ((uL _).trans ⟨λh=>⟨h1,.inr (.inr (.inr ⟨k4,hb.1,hb.2,Xa.1 h3,.inl oM,oM⟩)),.inr h⟩,λh=>h.2.2.resolve_left oM⟩)
  refine zb.t (zkg p.t hp7)<|zb.t det ?_;refine zE ((uL _).trans ⟨λh=>⟨h1,.inr (.inr (.inr ⟨k4,hb.1,hb.2,Xa.1 h3,.inl oM,oM⟩)),.inr h⟩,λh=>h.2.2.resolve_left oM⟩)
 exact zd (λk=>by obtain⟨e,_⟩|⟨e,_⟩|⟨e,_⟩|⟨e,_⟩:=k.2.1 <;> omega)
def mulb{a b A B:Int}(h0:0<=a)(h1:a<=A)(k0:0<=b)(k1:b<=B):0<=a*b/\a*b<=A*B:=
 ⟨XJ h0 k0,JK h1 k1 k0 oM⟩
def zk6(mode:Int):Prop:=1<=mode/\mode<=13
instance instB01 (m:Int):Decidable (zk6 m):=inferInstanceAs (Decidable (_/\_))
structure Rc where
 x0:Int
 y0:Int
 x1:Int
 y1:Int
def rcE(r:Rc):List SV:=[i64 r.x0,i64 r.y0,i64 r.x1,i64 r.y1]
def ye:Rc:=⟨0,0,0,0⟩
def rc_eq{p q:Rc}:(p.x0=q.x0/\p.y0=q.y0/\p.x1=q.x1/\p.y1=q.y1/\True)↔p=q:=by
 obtain⟨a,b,c,d⟩:=p;obtain⟨a',b',c',d'⟩:=q;simp
instance instG01:DecidableEq Rc:=λ_ _=>decidable_of_iff _ rc_eq
def zeU(n:Int):Prop:= -4096<=n/\n<=4096
instance instG02 (n:Int):Decidable (zeU n):=inferInstanceAs (Decidable (_/\_))
def Rc.ok(r:Rc):Prop:=zeU r.x0/\zeU r.y0/\zeU r.x1/\zeU r.y1
instance instG03 (r:Rc):Decidable r.ok:=inferInstanceAs (Decidable (_/\_))
def Rc.mt(r:Rc):Prop:=¬r.ok∨r.x1<=r.x0∨r.y1<=r.y0
instance instG04 (r:Rc):Decidable r.mt:=inferInstanceAs (Decidable (_∨_))
def Rc.canon(r:Rc):Rc:=if r.mt then ye else r
def Rc.w(r:Rc):Int:=r.x1-r.x0
def Rc.h(r:Rc):Int:=r.y1-r.y0
def Rc.area(r:Rc):Int:=r.canon.w*r.canon.h
def Rc.meet(a b:Rc):Rc:=if a.mt∨b.mt then ye else Rc.canon ⟨max a.x0 b.x0,max a.y0 b.y0,min a.x1 b.x1,min a.y1 b.y1⟩
def Rc.canon_canon(r:Rc):r.canon.canon=r.canon:=by
 unfold Rc.canon
 by_cases h:r.mt
 ·rw[Xe h];decide
 rw[Xc h,Xc h]
variable{r:Rc}
def Rc.canon_self(h:r.canon=r):(r=ye)∨(¬r.mt):=by
 unfold Rc.canon at h
 by_cases k:r.mt
 ·rw[Xe k]at h;exact .inl h.symm
 exact .inr k
def Rc.notmt(h:¬r.mt):r.ok/\r.x0<r.x1/\r.y0<r.y1:=by
 unfold Rc.mt at h;refine⟨Xa.1 λk=>h (.inl k),?_,?_⟩
 ·rcases QB r.x0 r.x1 with k|k
  ·exact k
  exact absurd (.inr (.inl k)) h
 rcases QB r.y0 r.y1 with k|k
 ·exact k
 exact absurd (.inr (.inr k)) h
def Rc.sides(h:r.canon=r):zeU r.x0/\zeU r.y0/\zeU r.x1/\zeU r.y1/\0<=r.w/\r.w<=8192/\0<=r.h/\r.h<=8192/\(r.w=0↔r.h=0):=by
 unfold Rc.w Rc.h
 rcases Rc.canon_self h with rfl|k
 ·decide
 obtain⟨⟨⟨a,b⟩,⟨c,d⟩,⟨e,f⟩,g,i⟩,j,k⟩:=Rc.notmt k;unfold zeU;omega
def zfh{p q:Rc}(h:p=q):LE (.agg (rcE p)) (.agg (rcE q)):=by subst h;exact .refl
def Rc.canon_pos(h:r.mt):r.canon=ye:=Xe h
def Rc.canon_neg(h:¬r.mt):r.canon=r:=Xc h
def Rc.canon_R(r:Rc):zeU r.canon.x0/\zeU r.canon.y0/\zeU r.canon.x1/\zeU r.canon.y1/\0<=r.canon.x1-r.canon.x0/\r.canon.x1-r.canon.x0<=8192/\0<=r.canon.y1-r.canon.y0/\r.canon.y1-r.canon.y0<=8192:=by
 obtain⟨a,b,c,d,e,f,g,h,_⟩:=Rc.sides r.canon_canon;exact⟨a,b,c,d,e,f,g,h⟩
def Rc.meet_canon(a b:Rc):Rc.canon ⟨max a.canon.x0 b.canon.x0,max a.canon.y0 b.canon.y0,min a.canon.x1 b.canon.x1,min a.canon.y1 b.canon.y1⟩=a.meet b:=by
 unfold Rc.meet;have e0:ye.x0=0/\ye.y0=0/\ye.x1=0/\ye.y1=0:=⟨rfl,rfl,rfl,rfl⟩
 by_cases ha:a.mt
 ·rw[Xe (.inl ha),Rc.canon_pos ha,Rc.canon_pos]
  right;left;dsimp only;rw[e0.1,e0.2.2.1];omega
 by_cases hb:b.mt
 ·rw[Xe (.inr hb),Rc.canon_pos hb,Rc.canon_pos]
  right;left;dsimp only;rw[e0.1,e0.2.2.1];omega
 rw[Xc (λh=>h.elim ha hb),Rc.canon_neg ha,Rc.canon_neg hb]
def zuf(n:Int):CG0 114 [i64 n] [] (pr (zeU n)) []:=by
 refine zc Tryz.func114 ?_;refine⟨λh1=>?_,λh1=>zd (λh=>h1 h.1)⟩;exact zE ⟨λh=>⟨h1,h⟩,λh=>h.2⟩
def zBt(r:Rc):CG0 70 [.agg (rcE r)] [] (pr r.ok) []:=by
 refine zc Tryz.func70 ?_;refine zb.t (zuf r.x0)<|⟨λh1=>?_,λh1=>zd (λh=>h1 h.1)⟩;refine zb.t (zuf r.y0)<|⟨λh2=>?_,λh2=>zd (λh=>h2 h.2.1)⟩;refine zb.t (zuf r.x1)<|⟨λh3=>?_,λh3=>zd (λh=>h3 h.2.2.1)⟩;exact zb.t (zuf r.y1)<|zE ⟨λh=>⟨h1,h2,h3,h⟩,λh=>h.2.2.2⟩
def zeO(r:Rc):CG0 37 [.agg (rcE r)] [] (pr r.mt) []:=by
 refine zc Tryz.func37 ?_;refine zb.t (zBt r)<|⟨λh1=>zI (.inl h1),λh1=>?_⟩;refine⟨λh2=>zI (.inr (.inl h2)),λh2=>?_⟩;exact zE ⟨λh=>.inr (.inr h),λh=>by rcases h with h|h|h;exact absurd h h1;exact absurd h h2;exact h⟩
def zg5(r:Rc):CG0 69 [.agg (rcE r)] [] (.agg (rcE r.canon)) []:=by
 refine zc Tryz.func69 ?_;refine zb.t (zeO r) ?_;refine⟨λh1=>zfh (Rc.canon_pos h1).symm,λh1=>zfh (Rc.canon_neg h1).symm⟩
def zzd(r:Rc):CG0 71 [.agg (rcE r)] [] (i64 r.area) []:=by
 obtain⟨a,b,c,d,e,f,g,h⟩:=r.canon_R;unfold zeU at a b c d;have hm:=mulb e f g h;refine zc Tryz.func71 ?_;refine zb.t (zg5 r) ?_;(iterate 3 refine Ar.o ?_);exact .refl
def zze(a b:Rc):CG0 75 [.agg (rcE a),.agg (rcE b)] [] (.agg (rcE (a.meet b))) []:=by
 refine zc Tryz.func75 ?_;exact Dr.d<|zb.t (zg5 a)<|zb.t (zg5 b)<|Ob.mk (by kernel_rfl)<|zb.t (zg5 ⟨max a.canon.x0 b.canon.x0,max a.canon.y0 b.canon.y0,min a.canon.x1 b.canon.x1,min a.canon.y1 b.canon.y1⟩)<|zfh (Rc.meet_canon a b)
def zEf(m:Int):CG0 235 [i64 m] [] (pr (zk6 m)) []:=by
 refine zc Tryz.func235 ?_;refine⟨λh1=>?_,λh1=>zd (λh=>h1 h.1)⟩;exact zE ⟨λh=>⟨h1,h⟩,λh=>h.2⟩
def zEg(m:Int):CG0 202 [i64 m] [] (pr (zk6 m)) []:=by
 refine zc Tryz.func202 ?_;refine⟨λh1=>?_,λh1=>zd (λh=>h1 h.1)⟩;exact zE ⟨λh=>⟨h1,h⟩,λh=>h.2⟩
def zoO(ks:List Int):List (Int×SV):=ks.map λk=>(k,bl true)
def zv9{n:Int}{A K0:Prop}{F:Int×SV->List (Int×SV)->Prop->Prop}{ks:List Int}(hF:∀k r ih,(n=k->A)->(¬n=k->ih)->F (k,bl true) r ih)(h1:n∈ks->A)(h0:n∉ks->K0):
  List.rec (motive:=λ_=>Prop) K0 F (zoO ks):=by
 induction ks with
 |nil=>exact h0 (by simp)
 |cons k r ih=>
  exact hF k (zoO r) _ (λe=>h1 (by rw[e];exact .head _)) λe=>ih (λh=>h1 (.tail _ h)) λh=>h0 λhm=>by
   cases hm with
   |head=>exact e rfl
   |tail _ h'=>exact h h'
def zrd{n:Int}:∀{ks:List Int} {K:List (Int×SV)->Prop},n∉ks->K (zoO (ks++[n]))->zwE (zoO ks) n (bl true) K
 |[],_,_,k=>k
 |a::r,K,hn,k=>by
  show Br (n=a->K ((n,bl true)::zoO r)) (¬n=a->zwE (zoO r) n (bl true) λr'=>K ((a,bl true)::r'));exact⟨λe=>absurd (e ▸ .head _) hn,λ_=>zrd (λh=>hn (.tail _ h)) k⟩
def zna{p:Pix}:(p.r=0/\p.g=0/\p.b=0/\p.a=0/\True)↔p=zd4:=zk4 (q:=zd4)
variable{p:Pt}
def pt_z:(p.x=0/\p.y=0/\True)↔p=zp:=qi (q:=zp)
def zzr(p:Pnt):CG0 458 [.agg (yD p)] [] (pr (zd5 p)) []:=by
 refine zc Tryz.func458 ?_;refine⟨λh1=>?_,λh1=>zd (λh=>h1 (qi.2 h.1))⟩;refine⟨λh2=>?_,λh2=>zd (λh=>h2 (qi.2 h.2.1))⟩;refine⟨λh3=>?_,λh3=>zd (λh=>h3 h.2.2.1)⟩;intro hl;exact zE ⟨λh=>⟨pt_z.1 h1,pt_z.1 h2,h3,XM.1 oM⟩,λh=>by rw[h.2.2.2];rfl⟩
def zh2(p:Pnt):CG0 459 [.agg (yD p)] [] (pr (vz p)) []:=by
 refine zc Tryz.func459 ?_;refine⟨λh1=>?_,λh1=>zd (λh=>h1 h.1)⟩;refine⟨λh2=>?_,λh2=>zd (λh=>h2 h.2.1)⟩;intro hl;refine⟨λh3=>?_,λh3=>zd (λh=>h3 (by rw[h.2.2.1];rfl))⟩;exact zE ⟨λh=>⟨h1,h2,XM.1 oM,h⟩,λh=>h.2.2.2⟩
def zBD(t:AF)(ht:t.le 10000000):CG0 460 [.agg (afE t)] [] (pr (t.same qA)) []:=by
 refine zc Tryz.func460 ?_;exact zb.t ((zu9 t qA ht (vU _)).args (.C (.cons zb9 .nil)))<|.refl
def c_has(p:Pnt)(hp:p.t.le 10000000):CG0 412 [.agg (yD p)] [] (pr (zoK p)) []:=by
 refine zc Tryz.func412 ?_;refine⟨λk1=>?_,λk1=>?_⟩
 ·have get:zoK p->has1 p:=λh=>by obtain⟨e,k⟩|⟨e,k⟩|⟨e,k⟩|⟨e,k⟩:=h <;> first|exact k|omega
  refine zb.t (zzr p)<|⟨λh1=>?_,λh1=>zd (λk=>h1 (get k).1)⟩;refine zb.t (zh2 p)<|⟨λh2=>?_,λh2=>zd (λk=>h2 (get k).2.1)⟩;refine⟨λh3=>?_,λh3=>zd (λk=>h3 (get k).2.2.1)⟩;exact zb.t (zBD p.t hp)<|zE ⟨λh=>.inl ⟨k1,h1,h2,h3,h⟩,λk=>(get k).2.2.2⟩
 refine⟨λk2=>?_,λk2=>?_⟩
 ·have get:zoK p->has2 p:=λh=>by obtain⟨e,k⟩|⟨e,k⟩|⟨e,k⟩|⟨e,k⟩:=h <;> first|exact k|omega
  refine zb.t (zh2 p)<|⟨λh1=>?_,λh1=>zd (λk=>h1 (get k).1)⟩;refine⟨λh2=>?_,λh2=>zd (λk=>h2 (zna.2 (get k).2.1))⟩;refine⟨λh3=>?_,λh3=>zd (λk=>h3 (get k).2.2.1)⟩;refine zb.t (z9 p.p0)<|⟨λh4=>?_,λh4=>zd (λk=>h4 (get k).2.2.2.1)⟩;refine zb.t (z9 p.p1)<|⟨λh5=>?_,λh5=>zd (λk=>h5 (get k).2.2.2.2.1)⟩;refine zb.t (zm2 p.st)<|⟨λh6=>?_,λh6=>zd (λk=>h6 (get k).2.2.2.2.2.1)⟩;refine zb.t (zbq p.sp) ?_
  exact zE ⟨λh=>.inr (.inl ⟨k2,h1,zna.1 h2,h3,h4,h5,h6,h⟩),λk=>(get k).2.2.2.2.2.2⟩
 refine⟨λk3=>?_,λk3=>?_⟩
 ·have get:zoK p->has3 p:=λh=>by obtain⟨e,k⟩|⟨e,k⟩|⟨e,k⟩|⟨e,k⟩:=h <;> first|exact k|omega
  refine zb.t (zh2 p)<|⟨λh1=>?_,λh1=>zd (λk=>h1 (get k).1)⟩;refine⟨λh2=>?_,λh2=>zd (λk=>h2 (zna.2 (get k).2.1))⟩;refine⟨λh3=>?_,λh3=>zd (λk=>h3 (pt_z.2 (get k).2.2.1))⟩;refine zb.t (z9 p.p0)<|⟨λh4=>?_,λh4=>zd (λk=>h4 (get k).2.2.2.1)⟩;refine⟨λh5=>?_,λh5=>zd (λk=>h5 (get k).2.2.2.2.1)⟩;refine⟨λh6=>?_,λh6=>zd (λk=>h6 (get k).2.2.2.2.2.1)⟩;refine zb.t (zm2 p.st) ?_
  refine⟨λh7=>?_,λh7=>zd (λk=>h7 (get k).2.2.2.2.2.2.1)⟩;exact zb.t (zbq p.sp)<|zE ⟨λh=>.inr (.inr (.inl ⟨k3,h1,zna.1 h2,pt_z.1 h3,h4,h5,h6,h7,h⟩)),λk=>(get k).2.2.2.2.2.2.2⟩
 refine⟨λk4=>?_,λk4=>?_⟩
 ·have get:zoK p->has4 p:=λh=>by obtain⟨e,k⟩|⟨e,k⟩|⟨e,k⟩|⟨e,k⟩:=h <;> first|exact k|omega
  refine zb.t (zzr p)<|⟨λh1=>?_,λh1=>zd (λk=>h1 (get k).1)⟩;refine⟨λh2=>?_,λh2=>zd (λk=>h2 (zna.2 (get k).2.1))⟩;refine zb.t (zk3 p.im)<|⟨λh3=>?_,λh3=>zd (λk=>h3 (get k).2.2.1)⟩;have yes:(p.sp=0∨zq8 p.sp)->(p.sm=1∨p.sm=2)->zoK p:=λa b=>.inr (.inr (.inr ⟨k4,h1,zna.1 h2,h3,a,b⟩))
  refine⟨λh4=>?_,λh4=>?_⟩
  ·refine⟨λh5=>zI (yes (.inl h4) (.inl h5)),λh5=>?_⟩;exact zE ⟨λh=>yes (.inl h4) (.inr h),λk=>(get k).2.2.2.2.resolve_left h5⟩
  refine zb.t (zbq p.sp)<|⟨λh6=>?_,λh6=>zd (λk=>by rcases(get k).2.2.2.1 with h|h;exact h4 h;exact h6 h)⟩;refine⟨λh5=>zI (yes (.inr h6) (.inl h5)),λh5=>?_⟩;exact zE ⟨λh=>yes (.inr h6) (.inr h),λk=>(get k).2.2.2.2.resolve_left h5⟩
 exact zd (λk=>by obtain⟨e,_⟩|⟨e,_⟩|⟨e,_⟩|⟨e,_⟩:=k <;> omega)
def zrg(p:Pnt)(hp:p.t.le 1000):CG0 350 [.agg (yD p)] [] (pr (vA p)) []:=by
 refine zc Tryz.func350 ?_;refine zb.t (zb8 p.t (hp.up dC))<|⟨λh1=>zd (λk=>h1 k.1),λh1=>?_⟩;have h1:=Xa.1 h1;refine zb.t (c_has p (hp.up dC))<|⟨λh2=>zd (λk=>h2 k.2.1),λh2=>?_⟩;have h2:=Xa.1 h2;refine⟨λh3=>zI ⟨h1,h2,.inl h3⟩,λh3=>?_⟩;refine zb.t (ztE p.t (hp.up dC)) ?_;have hz:=yB 0 dC;refine zb.t hz ?_;have hcmp:=zxE (ofQ (zbr p.t)) (ofQ ((0:Int):Rat)) (by have:=zg1 hp;rw[zF];omega) (by have:=zzb (n:=0) dC;rw[zF];omega);rw[kv,kv]at hcmp
 refine zb.t hcmp ?_;refine zE ((uL _).trans ⟨λh=>⟨h1,h2,.inr h⟩,λh=>h.2.2.resolve_left h3⟩)
def orP(a b p:Pt):Int:=wdg (zae b a) (zae p a)
def zao(a b p:Pt):Int:=if a.y<=p.y/\p.y<b.y/\0<orP a b p then 1 else if b.y<=p.y/\p.y<a.y/\0<orP b a p then-1 else 0
def ziC(a b p:Pt): -1<=zao a b p/\zao a b p<=1:=by
 unfold zao;split
 ·omega
 split <;> omega
def zaI(r:List Pt)(p:Pt)(n:Nat):Int:=((List.range n).map λi=>zao (r.getD i zp) (r.getD ((i+1)%r.length) zp) p).sum
def zlo(r:List Pt)(p:Pt)(n:Nat):zaI r p (n+1)=zaI r p n+zao (r.getD n zp) (r.getD ((n+1)%r.length) zp) p:=by
 unfold zaI;rw[Kx,XB,QM];simp
def zec(r:List Pt)(p:Pt)(n:Nat): -(n:Int)<=zaI r p n/\zaI r p n<=n:=by
 induction n with
 |zero=>exact⟨by simp[zaI],by simp[zaI]⟩
 |succ n ih=>
  have:=ziC (r.getD n zp) (r.getD ((n+1)%r.length) zp) p;rw[zlo];omega
def zne{r:List Pt}{i:Nat}{x y:Pt}(hx:r[i]?=some x)(hy:r[(((i:Int)+1)%(r.length:Int)).toNat]?=some y)(h:i<r.length):zaI r p (i+1)=zaI r p i+zao x y p:=by
 rw[ziZ h,XT]at hy;rw[zlo,Xt,Xt,hx,hy];rfl
def zbG(rs:List (List Pt))(p:Pt)(n:Nat):Int:=((List.range n).map λi=>zaI (rs.getD i []) p (rs.getD i []).length).sum
def zfT{rs:List (List Pt)}{n:Nat}{r:List Pt}(h:rs[n]?=some r):zbG rs p (n+1)=zbG rs p n+zaI r p r.length:=by
 unfold zbG;rw[Kx,XB,QM];simp[Xt,h]
def zbH(rs:List (List Pt))(p:Pt):∀n,n<=rs.length-> -(qb (rs.take n):Int)<=zbG rs p n/\zbG rs p n<=qb (rs.take n)
 |0,_=>⟨by simp[zbG],by simp[zbG]⟩
 |n+1,h=>by
  have ih:=zbH rs p n oM;obtain⟨r,hr⟩:∃r,rs[n]?=some r:=⟨_,Xb oM⟩;have:=zec r p r.length;rw[zfT hr,vd hr];omega
def zlp(rs:List (List Pt))(p:Pt):Int:=if kL rs/\zr p then zbG rs p rs.length else 0
def zrs(rs:List (List Pt))(p:Pt): -4096<=zlp rs p/\zlp rs p<=4096:=by
 unfold zlp;split
 ·rename_i h;have h1:=zbH rs p rs.length (Xk _);have h2:=v7 rs rs.length;have h3:=h.1.1;omega
 omega
def zc0(n rule:Int):Prop:=rule=1/\n≠0∨rule=2/\n%2≠0
instance (n rule:Int):Decidable (zc0 n rule):=inferInstanceAs (Decidable (_∨_))
def uu(rs:List (List Pt))(rule:Int)(p:Pt):Prop:=zc0 (zlp rs p) rule
instance (rs:List (List Pt)) (rule:Int) (p:Pt):Decidable (uu rs rule p):=inferInstanceAs (Decidable (zc0 _ _))
def zg7(a b:Pt):ze8 (zae a b):=zcd (jn _) (jn _)
def zzQ(p q:Pt)(hp:ze8 p)(hq:ze8 q):CG0 121 [.agg (ptE p),.agg (ptE q)] [] (i64 (wdg p q)) []:=by
 have h:=zkt hp hq;refine zc Tryz.func121 ?_;(iterate 3 refine Ar.o ?_);exact .refl
def zzR(a b p:Pt):CG0 84 [.agg (ptE a),.agg (ptE b),.agg (ptE p)] [] (i64 (sgn (orP a b p))) []:=by
 refine zc Tryz.func84 ?_;exact Dr.k<|zb.t (zxM b a)<|zb.t (zxM p a)<|zb.t (zzQ (zae b a) (zae p a) (zg7 _ _) (zg7 _ _))<|zb.t (zn8 (orP a b p) (-1) 1)<|ze (zvb _)
def zEx(n:Int):CG0 204 [i64 n] [] (i64 (sgn n)) []:=by
 refine zc Tryz.func204 ?_;refine⟨λh=>ze (by unfold sgn;rw[Xe h]),λh=>?_⟩;refine⟨λk=>ze (by unfold sgn;rw[Xc h,Xe k]),λk=>ze (by unfold sgn;rw[Xc h,Xc k])⟩
def zoT(a b p:Pt):CG0 136 [.agg (ptE a),.agg (ptE b),.agg (ptE p)] [] (i64 (sgn (orP a b p))) []:=by
 refine zc Tryz.func136 ?_;exact Dr.k<|zb.t (zmj b a)<|zb.t (zmj p a)<|zb.t (zqh (zae b a) (zae p a) (zg7 _ _) (zg7 _ _))<|zb.t (zEx (orP a b p))<|.refl
def zg8{n:Int}:0<sgn n↔0<n:=by unfold sgn;split <;> (try split) <;> omega
variable{a:Pt}{b:Pt}
def zuv(h1:a.y<=p.y)(h2:p.y<b.y)(h3:0<sgn (orP a b p)):zao a b p=1:=Xe ⟨h1,h2,zg8.1 h3⟩
def zjd(h0:¬(a.y<=p.y/\p.y<b.y/\0<sgn (orP a b p)))(h1:b.y<=p.y)(h2:p.y<a.y)(h3:0<sgn (orP b a p)):zao a b p= -1:=by
 unfold zao;rw[Xc (λh=>h0 ⟨h.1,h.2.1,zg8.2 h.2.2⟩),Xe ⟨h1,h2,zg8.1 h3⟩]
def zuw(h0:¬(a.y<=p.y/\p.y<b.y/\0<sgn (orP a b p)))(h1:¬(b.y<=p.y/\p.y<a.y/\0<sgn (orP b a p))):zao a b p=0:=by
 unfold zao;rw[Xc (λh=>h0 ⟨h.1,h.2.1,zg8.2 h.2.2⟩),Xc (λh=>h1 ⟨h.1,h.2.1,zg8.2 h.2.2⟩)]
def zEy(a b p:Pt):CG0 93 [.agg (ptE a),.agg (ptE b),.agg (ptE p)] [] (i64 (zao a b p)) []:=by
 refine zc Tryz.func93 ?_;have sec:¬(a.y<=p.y/\p.y<b.y/\0<sgn (orP a b p))->¬(b.y<=p.y/\p.y<a.y/\0<sgn (orP b a p))->LE (i64 0) (i64 (zao a b p)):=λh k=>ze (zuw h k).symm
 refine⟨λh1=>?_,λh1=>?_⟩
 ·refine⟨λh2=>?_,λh2=>?_⟩
  ·refine zb.t (zoT a b p)<|⟨λh3=>ze (zuv h1 h2 h3).symm,λh3=>?_⟩;have h0:¬(a.y<=p.y/\p.y<b.y/\0<sgn (orP a b p)):=λh=>h3 h.2.2
   refine⟨λk1=>?_,λk1=>sec h0 λh=>k1 h.1⟩;refine⟨λk2=>?_,λk2=>sec h0 λh=>k2 h.2.1⟩;exact zb.t (zoT b a p)<|⟨λk3=>ze (zjd h0 k1 k2 k3).symm,λk3=>sec h0 λh=>k3 h.2.2⟩
  have h0:¬(a.y<=p.y/\p.y<b.y/\0<sgn (orP a b p)):=λh=>h2 h.2.1
  refine⟨λk1=>?_,λk1=>sec h0 λh=>k1 h.1⟩;refine⟨λk2=>?_,λk2=>sec h0 λh=>k2 h.2.1⟩;exact zb.t (zoT b a p)<|⟨λk3=>ze (zjd h0 k1 k2 k3).symm,λk3=>sec h0 λh=>k3 h.2.2⟩
 have h0:¬(a.y<=p.y/\p.y<b.y/\0<sgn (orP a b p)):=λh=>h1 h.1
 refine⟨λk1=>?_,λk1=>sec h0 λh=>k1 h.1⟩;refine⟨λk2=>?_,λk2=>sec h0 λh=>k2 h.2.1⟩;exact zb.t (zoT b a p)<|⟨λk3=>ze (zjd h0 k1 k2 k3).symm,λk3=>sec h0 λh=>k3 h.2.2⟩
end Go.Gs
