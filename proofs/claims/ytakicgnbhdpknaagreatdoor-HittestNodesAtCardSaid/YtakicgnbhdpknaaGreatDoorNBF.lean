/- Transforms, both texts: two of them composed, and the inverse. -/
import Derived.Test.YtakicgnbhdpknaaGreatDoorNBE
set_option maxRecDepth 100000
set_option maxHeartbeats 8000000
set_option linter.all false
namespace Go.Gs
open Proofs.Tryz
open Go.Proofs
def zBR:BR:=⟨⟨false,[]⟩,⟨false,[]⟩⟩
def qA:AF:=⟨zBR,zBR,zBR,zBR,zBR,zBR⟩
def zBR_v:zBR.v=0:=by decide +kernel
def yY:LEs [bl false,nS,bl false,nS] (brE zBR):=
 .cons (zd dC) (.cons zC (.cons (zd dC) (.cons zC .nil)))
def LEs.append:∀{xs bs cs ds:LR},LEs xs bs->LEs cs ds->LEs (xs++cs) (bs++ds)
 |[],[],_,_,_,h=>h
 |_::_,_::_,_,_,.cons h hs,k=>.cons h (LEs.append hs k)
def z4:LR:=[bl false,nS,bl false,nS]
def zcg:LE (.agg uf) (wo qA):=by
 have yY:LEs z4 (brE zBR):=yY;have h:LE (.agg (z4++(z4++(z4++(z4++(z4++z4)))))) (wo qA):=jj (LEs.append yY (LEs.append yY (LEs.append yY (LEs.append yY (LEs.append yY yY)))));exact h
def idA:AF:=afQ ((1:Int):Rat) ((0:Int):Rat) ((0:Int):Rat) ((1:Int):Rat) ((0:Int):Rat) ((0:Int):Rat)
def zzg:idA.le 2:=⟨by decide +kernel,by decide +kernel,by decide +kernel,by decide +kernel,by decide +kernel,by decide +kernel⟩
def zoJ(t u:AF):(beh t u).nrm=beh t u:=by
 unfold beh AF.nrm afQ;simp only[kv]
def zv5{t u:AF}(h:(beh t u).ok):(beh t u).le 8:=by
 have:=ok_le (t:=beh t u) (by rw[zoJ];exact h)
 rwa [zoJ]at this
def AF.le.up{t:AF}{n m:Nat}(h:t.le n)(k:n<=m):t.le m:=by
 obtain⟨h1,h2,h3,h4,h5,h6⟩:=h;exact⟨oM,oM,oM,oM,oM,oM⟩
def zoK(a b c d:Int)(e f:BR)(ha:R64 a)(hb:R64 b)(hc:R64 c)(hd:R64 d)(he:e.len<=100000000)(hf:f.len<=100000000):
  CX 75 [i64 a,i64 b,i64 c,i64 d,wm e,wm f] (wo (afQ a b c d e.v f.v)):=by
 refine zc func75<|wc<|wg (yA a ha)<|wg (yA b hb)<|wg (yA c hc)<|wg (yA d hd) ?_;exact wg (kG e oM)<|wg (kG f oM)<|.refl
def zEf:zBR.v=((0:Int):Rat):=by decide +kernel
def zaO:CX 42 [] (wo idA):=by
 refine zc func42 ?_
 refine zb.to _ ((zoK 1 0 0 1 zBR zBR dC dC dC dC dC dC).args
  (.C (.C (.C (.C (.cons (jj yY) (.cons (jj yY) .nil))))))) rfl ?_
 rw[zEf];exact .refl
structure Pix where
 r:Int
 g:Int
 b:Int
 a:Int
 deriving DecidableEq
def zd2(p:Pix):LR:=[u8 p.r,u8 p.g,u8 p.b,u8 p.a]
structure Img where
 w:Int
 h:Int
 px:List Pix
 deriving DecidableEq
def zk6(m:Img):LR:=[i64 m.w,i64 m.h,.sl zd2 m.px]
def zfS(p:Pix):Prop:=p.r<=p.a/\p.g<=p.a/\p.b<=p.a
instance (p:Pix):Decidable (zfS p):=wi
def zff(m:Img):Prop:=(1<=m.w/\m.w<=4096)/\(1<=m.h/\m.h<=4096)/\m.w*m.h<=65536/\(m.px.length:Int)=m.w*m.h/\∀p∈m.px,zfS p
instance (m:Img):Decidable (zff m):=wi
def zg3(x r g b a:Int):CX 395 [u8 x,.ptr [u8 r,u8 g,u8 b,u8 a]] (u8 (min x a)):=by
 exact zc func395<|ze rfl
def zEh(p:Pix)(r g b a:Int):CX 394 [.agg (zd2 p),.fn 395 [.ptr [u8 r,u8 g,u8 b,u8 a]]] (.agg [u8 (min p.r a),u8 (min p.g a),u8 (min p.b a),u8 (min p.a a)]):=by
 refine zc func394<|wc<|wg (zg3 _ r g b a)<|wg (zg3 _ r g b a)<|wg (zg3 _ r g b a)<|wg (zg3 _ r g b a) ?_;exact .refl
def zzh(p:Pix):CX 339 [.agg (zd2 p)] (.agg [u8 (min p.r p.a),u8 (min p.g p.a),u8 (min p.b p.a),u8 (min p.a p.a)]):=by
 exact zc func339<|wg (zEh p p.r p.g p.b p.a)<|.refl
def zzi(p:Pix):CX 270 [.agg (zd2 p)] (pr (zfS p)):=by
 refine zc func270<|wc<|wg (zzh p)<|zE (p:=min p.r p.a=p.r/\min p.g p.a=p.g/\min p.b p.a=p.b/\min p.a p.a=p.a/\True) ?_;constructor
 ·rintro⟨h1,h2,h3,_⟩
  exact⟨oM,oM,oM⟩
 rintro⟨h1,h2,h3⟩
 exact⟨oM,oM,oM,oM,tV⟩
def zv7(p:Pix):CX 269 [.agg (zd2 p)] (pr (¬zfS p)):=by
 exact zc func269<|wg (zzi p)<|zE K5
def zfT(xs:List Pix):Int:=match xs.findIdx? (λp=>decide (¬zfS p)) with
 |some i=>i
 |none=> -1
def zv8{xs:List Pix}{i:Nat}{p:Pix}(h:∀(j:Nat) q,j<i->xs[j]?=some q->zfS q)(hi:xs[i]?=some p)(hp:¬zfS p):zfT xs=i:=by
 have:xs.findIdx? (λp=>decide (¬zfS p))=some i:=by
  rw[KG];obtain⟨hl,he⟩:=Xd.1 hi;refine⟨hl,by simp[he,hp],λj hj=>?_⟩;have:=h j xs[j] hj (Xb _);simp[this]
 simp only[zfT,this]
variable{xs:List Pix}
def ziB(h:∀p∈xs,zfS p):zfT xs= -1:=by
 have:xs.findIdx? (λp=>decide (¬zfS p))=none:=by
  rw[Ku];intro p hp;simp[h p hp]
 simp only[zfT,this]
def zlQ:0<=zfT xs↔¬∀p∈xs,zfS p:=by
 constructor
 ·intro h hall;rw[ziB hall]at h;omega
 intro h;unfold zfT
 split
 ·omega
 rename_i hn;rw[Ku]at hn;exact absurd (λp hp=>by simpa using hn p hp) h
def zBw(xs:List Pix)(hl:xs.length<=9223372036854775807):CX 338 [.sl zd2 xs,.fn 269 []] (i64 (zfT xs)):=by
 refine zc func338 λhl0=>?_;refine⟨Int,λi=>⟨[(8,i64 i),(7,i64 xs.length),(0,.sl zd2 xs),(1,.fn 269 [])],[],0,19,0⟩,λi=>0<=i/\i<=xs.length/\∀(j:Nat) q,(j:Int)<i->xs[j]?=some q->zfS q,λi=>((xs.length:Int)-i).toNat,0,?_,?_,?_⟩
 ·exact⟨oM,oM,λj q hj=>by omega⟩
 ·exact zB []
 rintro i ⟨h1,h2,h3⟩
 refine⟨λh4=>?_,λh4=>?_⟩
 ·refine wb λx hx=>wg (zv7 x)<|⟨λh5=>?_,λh5=>?_⟩
  ·refine ze ?_;rw[zv8 (i:=i.toNat) (λj q hj=>h3 j q oM) hx h5];omega
  refine wa<|⟨i+1,⟨oM,oM,λj q hj hq=>?_⟩,zB [],oN⟩
  by_cases e:j=i.toNat
  ·subst e;rw[hx]at hq;cases hq;exact Xa.1 h5
  exact h3 j q oM hq
 refine ze (ziB λp hp=>?_).symm;obtain⟨j,hj,he⟩:=Kl hp;exact h3 j p oM (by rw[←he];exact Xb hj)
def zsL(xs:List Pix)(hl:xs.length<=9223372036854775807):CX 268 [.sl zd2 xs,.fn 269 []] (pr (¬∀p∈xs,zfS p)):=by
 exact zc func268<|wg (zBw xs hl)<|zE zlQ
def zCF(n:Int):CX 267 [i64 n] (pr (1<=n/\n<=4096)):=by
 refine zc func267<|Br.mk (λh=>?_) (λh=>?_)
 ·exact zE oM
 exact zd oM
variable{a:Int}{b:Int}{A:Int}{B:Int}
def zzj(h1:0<=a)(h2:a<=A)(h3:0<=b)(h4:b<=B):0<=a*b/\a*b<=A*B:=
 ⟨XJ h1 h3,JH h2 h4 h3 oM⟩
def zm6(m:Img)(hl:m.px.length<=9223372036854775807):CX 190 [.agg (zk6 m)] (pr (zff m)):=by
 refine zc func190<|wg (zCF m.w)<|⟨λh1=>?_,λh1=>?_⟩
 ·exact zd (λh=>h1 h.1)
 have h1:=Xa.1 h1;refine wg (zCF m.h)<|⟨λh2=>?_,λh2=>?_⟩
 ·exact zd (λh=>h2 h.2.1)
 have h2:=Xa.1 h2;have hm:=zzj (show 0<=m.w by omega) h1.2 (show 0<=m.h by omega) h2.2;refine wa<|Br.mk (λh3=>?_) (λh3=>?_)
 ·exact zd (λh=>by have:=h.2.2.1;omega)
 intro hl0;refine wa<|Br.mk (λh4=>?_) (λh4=>?_)
 ·exact zd (λh=>h4 h.2.2.2.1)
 exact wg (zsL m.px hl)<|zE<|⟨λh=>⟨h1,h2,oM,Xa.1 h4,Xa.1 h⟩,λh h'=>h' h.2.2.2.2⟩
def zEi(w h:Int):CX 210 [i64 w,i64 h] (pr ((1<=w/\w<=4096)/\(1<=h/\h<=4096)/\w*h<=65536)):=by
 refine zc func210<|Br.mk (λh1=>?_) (λh1=>zd oM);refine⟨λh2=>?_,λh2=>zd oM⟩;refine⟨λh3=>?_,λh3=>zd oM⟩;refine⟨λh4=>?_,λh4=>zd oM⟩;have hm:=zzj (show 0<=w by omega) h2 (show 0<=h by omega) h4;exact wa<|zE ⟨λh=>⟨⟨h1,h2⟩,⟨h3,h4⟩,h⟩,λh=>h.2.2⟩
def zv9(p:Pix):CX 211 [.agg (zd2 p)] (pr (zfS p)):=by
 refine zc func211<|Br.mk (λh1=>?_) (λh1=>zd (λh=>h1 h.1));refine⟨λh2=>?_,λh2=>zd (λh=>h2 h.2.1)⟩;exact zE ⟨λh=>⟨h1,h2,h⟩,λh=>h.2.2⟩
def zk7(m:Img):CX 139 [.agg (zk6 m)] (pr (zff m)):=by
 refine zc func139<|wg (zEi m.w m.h)<|⟨λh1=>zd (λh=>h1 ⟨h.1,h.2.1,h.2.2.1⟩),λh1=>?_⟩;have h1:=Xa.1 h1;have hm:=zzj (show 0<=m.w by omega) h1.1.2 (show 0<=m.h by omega) h1.2.1.2;intro hl0;refine wa<|Br.mk (λh4=>zd (λh=>h4 h.2.2.2.1)) (λh4=>?_);have h4:=Xa.1 h4
 refine⟨Int,λi=>⟨[(3,i64 i),(1,.loc 0 0)],[(0,.box 64 (zk6 m))],1,35,0⟩,λi=>0<=i/\i<=m.px.length/\∀(j:Nat) q,(j:Int)<i->m.px[j]?=some q->zfS q,λi=>((m.px.length:Int)-i).toNat,0,?_,?_,?_⟩
 ·exact⟨oM,oM,λj q hj=>by omega⟩
 ·exact zf [0]
 rintro i ⟨g1,g2,g3⟩
 intro hl1;refine⟨λg4=>?_,λg4=>?_⟩
 ·refine wb λx hx=>wg (zv9 x)<|⟨λg5=>?_,λg5=>?_⟩
  ·exact zd λh=>g5 (h.2.2.2.2 x (Xf hx))
  refine wa<|⟨i+1,⟨oM,oM,λj q hj hq=>?_⟩,zf [0],oN⟩
  by_cases e:j=i.toNat
  ·subst e;rw[hx]at hq;cases hq;exact Xa.1 g5
  exact g3 j q oM hq
 refine zH ⟨h1.1,h1.2.1,h1.2.2,h4,λp hp=>?_⟩;obtain⟨j,hj,he⟩:=Kl hp;exact g3 j p oM (by rw[←he];exact Xb hj)
def zk8{p q:Pix}:(p.r=q.r/\p.g=q.g/\p.b=q.b/\p.a=q.a/\True)↔p=q:=by
 cases p;cases q;simp
variable{i:Int}
def zBx{ys:List Pix}(hl:(xs.length:Int)=ys.length)(hi:¬i<xs.length)(h:∀j:Nat,(j:Int)<i->xs[j]?=ys[j]?):xs=ys:=by
 refine Kq λj=>?_
 by_cases hj:(j:Int)<i
 ·exact h j hj
 rw[XF oM,XF oM]
def zBy(xs ys:List Pix):CX 334 [.sl zd2 xs,.sl zd2 ys] (pr (xs=ys)):=by
 refine zc func334 λhl1 hl2=>?_;refine⟨λh1=>zd λe=>h1 (by rw[e]),λh1=>?_⟩;have h1:=Xa.1 h1;intro hl3;refine⟨Int,λi=>⟨[(13,i64 i),(12,i64 xs.length),(0,.sl zd2 xs),(1,.sl zd2 ys)],[],0,26,0⟩,λi=>0<=i/\i<=xs.length/\∀j:Nat,(j:Int)<i->xs[j]?=ys[j]?,λi=>((xs.length:Int)-i).toNat,0,?_,?_,?_⟩
 ·exact⟨oM,oM,λj hj=>by omega⟩
 ·exact zB []
 rintro i ⟨h4,h5,h6⟩
 refine⟨λh7=>?_,λh7=>?_⟩
 ·refine wc<|wb λx hx=>wb λy hy=>?_;refine⟨λh8=>?_,λh8=>?_⟩
  ·refine zd λe=>h8 (zk8.2 ?_)
   subst e;rw[hx]at hy;exact Xm hy
  refine wa<|⟨i+1,⟨oM,oM,λj hj=>?_⟩,zB [],oN⟩
  by_cases e:j=i.toNat
  ·subst e;rw[hx,hy,zk8.1 (Xa.1 h8)]
  exact h6 j oM
 exact zH (zBx h1 h7 h6)
def zm7(m n:Img):CX 265 [.agg (zk6 m),.agg (zk6 n)] (pr (m=n)):=by
 refine zc func265<|Br.mk (λh1=>?_) (λh1=>zd λe=>h1 (by rw[e]));refine⟨λh2=>?_,λh2=>zd λe=>h2 (by rw[e])⟩;refine wg (zBy m.px n.px)<|zE ⟨λh=>?_,λh=>by rw[h]⟩
 cases m;cases n;simp_all
def zd3:Pix:=⟨0,0,0,0⟩
structure zh0 where
 o:Int
 c:Pix
 deriving DecidableEq
def zc4(s:zh0):LR:=[i64 s.o,u8 s.c.r,u8 s.c.g,u8 s.c.b,u8 s.c.a]
def zul{p q:zh0}:(p.o=q.o/\p.c.r=q.c.r/\p.c.g=q.c.g/\p.c.b=q.c.b/\p.c.a=q.c.a/\True)↔p=q:=by
 obtain⟨a,b,c,d,e⟩:=p;obtain⟨a',b',c',d',e'⟩:=q;simp
def zq5:Int->List zh0->Prop
 |_,[]=>True
 |lo,s::l=>(lo<=s.o/\s.o<=65536)/\zq5 s.o l
instance upDec:∀lo l,Decidable (zq5 lo l)
 |_,[]=>isTrue trivial
 |_,s::l=>haveI:=upDec s.o l;inferInstanceAs (Decidable (_/\_))
def zeL(l:List zh0):Prop:=(1<=(l.length:Int)/\(l.length:Int)<=16)/\zq5 0 l
instance (l:List zh0):Decidable (zeL l):=wi
def zzk(l:List zh0):CX 448 [.sl zc4 l] (pr (zeL l)):=by
 refine zc func448 λhl1=>?_;refine⟨λh=>zd (λk=>by have:=k.1.1;omega),λh2=>?_⟩;intro hl2;refine⟨λh=>zd (λk=>by have:=k.1.2;omega),λh3=>?_⟩;intro hl4;refine⟨Int×Int,λ⟨i,at_⟩=>⟨[(3,i64 at_),(14,.sl zc4 l),(15,i64 l.length),(16,i64 i)],[],0,32,0⟩,λ(i,at_)=>0<=i/\i<=l.length/\(zq5 0 l↔zq5 at_ (l.drop i.toNat)),λ(i,_)=>((l.length:Int)-i).toNat,(0,0),?_,?_,?_⟩
 ·exact⟨oM,oM,K5⟩
 ·exact zB []
 rintro⟨i,at_⟩ ⟨g1,g2,g3⟩
 refine⟨λh5=>?_,λh5=>?_⟩
 ·refine wb λx hx=>?_
  have hd:l.drop i.toNat=x::l.drop (i.toNat+1):=by
   obtain⟨hi,he⟩:=Xd.1 hx;rw[KS hi,he]
  rw[hd]at g3;refine⟨λh6=>zd (λk=>by have:=(g3.1 k.2).1;omega),λh6=>?_⟩;refine⟨λh7=>zd (λk=>by have:=(g3.1 k.2).1;omega),λh7=>?_⟩;refine wa<|⟨(i+1,x.o),⟨oM,oM,?_⟩,zB [],oN⟩;rw[g3,show(i+1).toNat=i.toNat+1 by omega];exact⟨λk=>k.2,λk=>⟨oM,k⟩⟩
 refine zH ⟨oM,g3.2 ?_⟩;rw[Kx oM];trivial
def zm8(l:List zh0):CX 399 [.sl zc4 l] (pr (zeL l)):=by
 refine zc func399<|⟨Int×Int,λ⟨i,_⟩=>⟨[(0,.sl zc4 l),(3,i64 i)],[],0,50,0⟩,λ(i,at_)=>0<=i/\i<=l.length/\(i=0->at_=0)/\(0<i->0<=at_/\∃y,l[(i-1).toNat]?=some y/\y.o=at_)/\(zq5 0 l↔zq5 at_ (l.drop i.toNat)),λ(i,_)=>((l.length:Int)-i).toNat,(0,0),?_,?_,?_⟩
 ·exact⟨oM,oM,λ_=>rfl,λh=>by omega,K5⟩
 ·exact zB []
 rintro⟨i,at_⟩ ⟨g1,g2,g4,g5,g3⟩
 intro hl1;refine⟨λh5=>?_,λh5=>?_⟩
 ·refine wc<|wb λx hx=>?_
  have hd:l.drop i.toNat=x::l.drop (i.toNat+1):=by
   obtain⟨hi,he⟩:=Xd.1 hx;rw[KS hi,he]
  rw[hd]at g3
  have hat:0<=at_:=by
   by_cases h0:0<i
   ·exact(g5 h0).1
   have:=g4 oM;omega
  refine⟨λh6=>zd (λk=>by have:=(g3.1 k.2).1;omega),λh6=>?_⟩;refine wb λx' hx'=>?_;rw[hx]at hx';cases hx'
  refine⟨λh7=>zd (λk=>by have:=(g3.1 k.2).1;omega),λh7=>?_⟩;refine⟨λh8=>?_,λh8=>?_⟩
  ·obtain⟨_,y,hy,hyo⟩:=g5 h8;refine wb λx' hx'=>?_;rw[hx]at hx';cases hx'
   refine wa<|wb λy' hy'=>?_;rw[hy]at hy';cases hy'
   refine⟨λh9=>zd (λk=>by have:=(g3.1 k.2).1;omega),λh9=>?_⟩;refine wa<|⟨(i+1,x.o),⟨oM,oM,λh=>by omega,λ_=>⟨oM,x,by rw[show(i+1-1).toNat=i.toNat by omega];exact hx,rfl⟩,?_⟩,zB [],oN⟩;rw[g3,show(i+1).toNat=i.toNat+1 by omega];exact⟨λk=>k.2,λk=>⟨oM,k⟩⟩
  refine wa ?_;have:=g4 oM;refine⟨(i+1,x.o),⟨oM,oM,λh=>by omega,λ_=>⟨oM,x,by rw[show(i+1-1).toNat=i.toNat by omega];exact hx,rfl⟩,?_⟩,zB [],oN⟩;rw[g3,show(i+1).toNat=i.toNat+1 by omega];exact⟨λk=>k.2,λk=>⟨oM,k⟩⟩
 have hall:zq5 0 l:=g3.2 (by rw[Kx oM];trivial);intro hl2;refine⟨λh6=>?_,λh6=>?_⟩
 ·intro hl3;exact zE ⟨λk=>⟨⟨oM,k⟩,hall⟩,λk=>k.1.2⟩
 exact zd λk=>h6 k.1.1
def zsM{xs ys:List zh0}(hl:(xs.length:Int)=ys.length)(hi:¬i<xs.length)(h:∀j:Nat,(j:Int)<i->xs[j]?=ys[j]?):xs=ys:=by
 refine Kq λj=>?_
 by_cases hj:(j:Int)<i
 ·exact h j hj
 rw[XF oM,XF oM]
def zBz(xs ys:List zh0):CX 447 [.sl zc4 xs,.sl zc4 ys] (pr (xs=ys)):=by
 refine zc func447 λhl1 hl2=>?_;refine⟨λh1=>zd λe=>h1 (by rw[e]),λh1=>?_⟩;have h1:=Xa.1 h1;intro hl3;refine⟨Int,λi=>⟨[(13,i64 i),(12,i64 xs.length),(0,.sl zc4 xs),(1,.sl zc4 ys)],[],0,26,0⟩,λi=>0<=i/\i<=xs.length/\∀j:Nat,(j:Int)<i->xs[j]?=ys[j]?,λi=>((xs.length:Int)-i).toNat,0,?_,?_,?_⟩
 ·exact⟨oM,oM,λj hj=>by omega⟩
 ·exact zB []
 rintro i ⟨h4,h5,h6⟩
 refine⟨λh7=>?_,λh7=>?_⟩
 ·refine wc<|wb λx hx=>wb λy hy=>?_;refine⟨λh8=>?_,λh8=>?_⟩
  ·refine zd λe=>h8 (zul.2 ?_)
   subst e;rw[hx]at hy;exact Xm hy
  refine wa<|⟨i+1,⟨oM,oM,λj hj=>?_⟩,zB [],oN⟩
  by_cases e:j=i.toNat
  ·subst e;rw[hx,hy,zul.1 (Xa.1 h8)]
  exact h6 j oM
 exact zH (zsM h1 h7 h6)
def zq6(m:Int):Prop:=1<=m/\m<=3
instance (m:Int):Decidable (zq6 m):=wi
def zzl{n:Int}(h:R64 n):yV (n:Rat)<=2:=by
 have h1:=zdP n;have h2:=jk h;omega
structure Pnt where
 k:Int
 c:Pix
 p0:Pt
 p1:Pt
 r:Int
 st:List zh0
 sp:Int
 im:Img
 sm:Int
 t:AF
def yD(p:Pnt):LR:=
 i64 p.k::u8 p.c.r::u8 p.c.g::u8 p.c.b::u8 p.c.a::i64 p.p0.x::i64 p.p0.y::i64 p.p1.x::i64 p.p1.y::i64 p.r::.sl zc4 p.st::i64 p.sp::i64 p.im.w::i64 p.im.h::.sl zd2 p.im.px::i64 p.sm::afE p.t
def Pnt.same(p q:Pnt):Prop:=p.k=q.k/\p.c=q.c/\p.p0=q.p0/\p.p1=q.p1/\p.r=q.r/\p.st=q.st/\p.sp=q.sp/\p.im=q.im/\p.sm=q.sm/\p.t.same q.t
instance (p q:Pnt):Decidable (p.same q):=wi
def zsN(p q:Pnt)(hp:p.t.le 10000000)(hq:q.t.le 10000000):CX 389 [.agg (yD p),.agg (yD q)] (pr (p.same q)):=by
 refine zc func389<|Br.mk (λh1=>?_) (λh1=>zd (λe=>h1 e.1));refine⟨λh2=>?_,λh2=>zd (λe=>h2 (zk8.2 e.2.1))⟩;refine⟨λh3=>?_,λh3=>zd (λe=>h3 (qi.2 e.2.2.1))⟩;refine⟨λh4=>?_,λh4=>zd (λe=>h4 (qi.2 e.2.2.2.1))⟩;refine⟨λh5=>?_,λh5=>zd (λe=>h5 e.2.2.2.2.1)⟩;refine⟨λh6=>?_,λh6=>zd (λe=>h6 e.2.2.2.2.2.2.1)⟩;refine⟨λh7=>?_,λh7=>zd (λe=>h7 e.2.2.2.2.2.2.2.2.1)⟩;refine wg (zBz p.st q.st) ?_
 refine⟨λh8=>?_,λh8=>zd (λe=>h8 e.2.2.2.2.2.1)⟩;refine wg (zm7 p.im q.im)<|⟨λh9=>?_,λh9=>zd (λe=>h9 e.2.2.2.2.2.2.2.1)⟩;exact wg (zuj p.t q.t hp hq)<|zE ⟨λh=>⟨h1,zk8.1 h2,qi.1 h3,qi.1 h4,h5,h8,h6,h9,h7,h⟩,λe=>e.2.2.2.2.2.2.2.2.2⟩
def zk9:LEs uf (afE qA):=by
 have h0:LEs z4 (brE zBR):=yY;have h:LEs (z4++(z4++(z4++(z4++(z4++z4))))) (afE qA):=LEs.append h0 (LEs.append h0 (LEs.append h0 (LEs.append h0 (LEs.append h0 h0))));exact h
def zaH(k:Int):Pnt:=⟨k,zd3,zp,zp,0,[],0,⟨0,0,[]⟩,0,qA⟩
def nil1:SV:=nS
def zzm(k:Int):LE (.agg (i64 k::u8 0::u8 0::u8 0::u8 0::i64 0::i64 0::i64 0::i64 0::i64 0::nil1::i64 0::i64 0::i64 0::nil1::i64 0::uf)) (.agg (yD (zaH k))):=by
 have h:=zk9;exact jj (.C (.C (.C (.C (.C (.C (.C (.C (.C (.C (.cons zC (.C (.C (.C (.cons zC (.C h))))))))))))))))
def ve(p:Pnt):Pnt:=
 if p.k=1 then { p with c:=zd3,t:=qA } else if p.k=2 then { p with p0:=zp,p1:=zp,st:=[],sp:=0,t:=qA }
 else if p.k=3 then { p with p0:=zp,r:=0,st:=[],sp:=0,t:=qA } else if p.k=4 then { p with im:=⟨0,0,[]⟩,sp:=0,sm:=0,t:=qA } else { p with t:=qA }
def zwa(p:Pnt):CX 390 [.agg (yD p)] (.agg (yD (ve p))):=by
 have fin:∀{σ:SV} {q:Pnt},ve p=q->LE σ (.agg (yD q))->LE σ (.agg (yD (ve p))):=λe h=>e ▸ h
 refine zc func390<|Br.mk (λh1=>?_) (λh1=>?_)
 ·exact fin (q:={ p with c:=zd3,t:=qA }) (by rw[ve,Xe h1])<|jj (.C (.C (.C (.C (.C (.C (.C (.C (.C (.C (.C (.C (.C (.C (.C (.C zk9))))))))))))))))
 refine⟨λh2=>?_,λh2=>?_⟩
 ·exact fin (q:={ p with p0:=zp,p1:=zp,st:=[],sp:=0,t:=qA }) (by rw[ve,Xc h1,Xe h2])<|jj (.C (.C (.C (.C (.C (.C (.C (.C (.C (.C (.cons zC (.C (.C (.C (.C (.C zk9))))))))))))))))
 refine⟨λh3=>?_,λh3=>?_⟩
 ·exact fin (q:={ p with p0:=zp,r:=0,st:=[],sp:=0,t:=qA }) (by rw[ve,Xc h1,Xc h2,Xe h3])<|jj (.C (.C (.C (.C (.C (.C (.C (.C (.C (.C (.cons zC (.C (.C (.C (.C (.C zk9))))))))))))))))
 refine⟨λh4=>?_,λh4=>?_⟩
 ·exact fin (q:={ p with im:=⟨0,0,[]⟩,sp:=0,sm:=0,t:=qA }) (by rw[ve,Xc h1,Xc h2,Xc h3,Xe h4])<|jj (.C (.C (.C (.C (.C (.C (.C (.C (.C (.C (.C (.C (.C (.C (.cons zC (.C zk9))))))))))))))))
 exact fin (q:={ p with t:=qA }) (by rw[ve,Xc h1,Xc h2,Xc h3,Xc h4])<|jj (.C (.C (.C (.C (.C (.C (.C (.C (.C (.C (.C (.C (.C (.C (.C (.C zk9))))))))))))))))
def zfg(n:Int):CX 393 [i64 n] (pr (zq6 n)):=by
 refine zc func393<|Br.mk (λh1=>?_) (λh1=>zd (λh=>h1 h.1));exact zE ⟨λh=>⟨h1,h⟩,λh=>h.2⟩
def zbp(n:Int):CX 400 [i64 n] (pr (zq6 n)):=by
 refine zc func400<|Br.mk (λh1=>?_) (λh1=>zd (λh=>h1 h.1));exact zE ⟨λh=>⟨h1,h⟩,λh=>h.2⟩
def zg4(p:Pnt):CX 392 [.agg (yD p)] (pr (zeL p.st/\zq6 p.sp)):=by
 refine zc func392<|wg (zzk p.st)<|⟨λh1=>?_,λh1=>zd (λh=>h1 h.1)⟩;exact wg (zfg p.sp)<|zE ⟨λh=>⟨h1,h⟩,λh=>h.2⟩
def vy(p:Pnt):Prop:=p.im.w=0/\p.im.h=0/\p.im.px=[]/\p.sm=0
instance (p:Pnt):Decidable (vy p):=wi
def zd4(p:Pnt):Prop:=p.p0=zp/\p.p1=zp/\p.r=0/\p.st=[]
instance (p:Pnt):Decidable (zd4 p):=wi
def has1(p:Pnt):Prop:=zd4 p/\vy p/\p.sp=0/\p.t.same qA
instance (p:Pnt):Decidable (has1 p):=wi
def has2(p:Pnt):Prop:=vy p/\p.c=zd3/\p.r=0/\zr p.p0/\zr p.p1/\zeL p.st/\zq6 p.sp
instance (p:Pnt):Decidable (has2 p):=wi
def has3(p:Pnt):Prop:=vy p/\p.c=zd3/\p.p1=zp/\zr p.p0/\1<=p.r/\p.r<=1048576/\zeL p.st/\zq6 p.sp
instance (p:Pnt):Decidable (has3 p):=wi
def has4(p:Pnt):Prop:=zd4 p/\p.c=zd3/\zff p.im/\(p.sp=0∨zq6 p.sp)/\(p.sm=1∨p.sm=2)
instance (p:Pnt):Decidable (has4 p):=wi
def zoO(p:Pnt):Prop:=(p.k=1/\has1 p)∨(p.k=2/\has2 p)∨(p.k=3/\has3 p)∨(p.k=4/\has4 p)
instance (p:Pnt):Decidable (zoO p):=wj
def vz(p:Pnt):Prop:=p.t.ok/\zoO p/\(p.k=1∨zbr p.t≠0)
instance (p:Pnt):Decidable (vz p):=wi
variable{p:Pnt}
def zCG(h:p.k=1):(ve p).same (zaH p.k)↔zd4 p/\vy p/\p.sp=0:=by
 rw[ve,Xe h]
 obtain⟨k,c,p0,p1,r,st,sp,⟨w,hh,px⟩,sm,t⟩:=p
 simp only[Pnt.same,zaH,zd4,vy,Img.mk.injEq];constructor
 ·rintro⟨_,_,h3,h4,h5,h6,h7,⟨h8,h9,h10⟩,h11,_⟩
  exact⟨⟨h3,h4,h5,h6⟩,⟨h8,h9,h10,h11⟩,h7⟩
 rintro⟨⟨h3,h4,h5,h6⟩,⟨h8,h9,h10,h11⟩,h7⟩
 exact⟨tV,tV,h3,h4,h5,h6,h7,⟨h8,h9,h10⟩,h11,rfl,rfl,rfl,rfl,rfl,rfl⟩
def zCH(h:p.k=2):(ve p).same (zaH p.k)↔vy p/\p.c=zd3/\p.r=0:=by
 rw[ve,Xc oM,Xe h]
 obtain⟨k,c,p0,p1,r,st,sp,⟨w,hh,px⟩,sm,t⟩:=p
 simp only[Pnt.same,zaH,vy,Img.mk.injEq];constructor
 ·rintro⟨_,h2,_,_,h5,_,_,⟨h8,h9,h10⟩,h11,_⟩
  exact⟨⟨h8,h9,h10,h11⟩,h2,h5⟩
 rintro⟨⟨h8,h9,h10,h11⟩,h2,h5⟩
 exact⟨tV,h2,tV,tV,h5,tV,tV,⟨h8,h9,h10⟩,h11,rfl,rfl,rfl,rfl,rfl,rfl⟩
def zCI(h:p.k=3):(ve p).same (zaH p.k)↔vy p/\p.c=zd3/\p.p1=zp:=by
 rw[ve,Xc oM,Xc oM,Xe h]
 obtain⟨k,c,p0,p1,r,st,sp,⟨w,hh,px⟩,sm,t⟩:=p
 simp only[Pnt.same,zaH,vy,Img.mk.injEq];constructor
 ·rintro⟨_,h2,_,h4,_,_,_,⟨h8,h9,h10⟩,h11,_⟩
  exact⟨⟨h8,h9,h10,h11⟩,h2,h4⟩
 rintro⟨⟨h8,h9,h10,h11⟩,h2,h4⟩
 exact⟨tV,h2,tV,h4,tV,tV,tV,⟨h8,h9,h10⟩,h11,rfl,rfl,rfl,rfl,rfl,rfl⟩
def zCJ(h:p.k=4):(ve p).same (zaH p.k)↔zd4 p/\p.c=zd3:=by
 rw[ve,Xc oM,Xc oM,Xc oM,Xe h]
 obtain⟨k,c,p0,p1,r,st,sp,⟨w,hh,px⟩,sm,t⟩:=p
 simp only[Pnt.same,zaH,zd4];constructor
 ·rintro⟨_,h2,h3,h4,h5,h6,_⟩
  exact⟨⟨h3,h4,h5,h6⟩,h2⟩
 rintro⟨⟨h3,h4,h5,h6⟩,h2⟩
 exact⟨tV,h2,h3,h4,h5,h6,tV,tV,tV,rfl,rfl,rfl,rfl,rfl,rfl⟩
def zBA(p:Pnt):(ve p).t=qA:=by
 unfold ve;repeat (first|rfl|split)
def vT(n:Nat):qA.le n:=⟨Xh _,Xh _,Xh _,Xh _,Xh _,Xh _⟩
def uJ(x:Rat):¬zkt x 0=0↔x≠0:=by
 have h1:=zoh (x:=x) (y:=0);have h2:=ztT (x:=x) (y:=0);constructor
 ·rintro h rfl
  exact h (Ya (h2.2 Rat.le_refl) (h1.2 Rat.le_refl))
 intro h k;exact h (Rat.le_antisymm (h2.1 oM) (h1.1 oM))
def zg5{t:AF}{n:Nat}(h:t.le n):yV (zbr t)<=4*n+5:=by
 obtain⟨ha,hb,hc,hd,_,_⟩:=h;have h1:=zxT (t.a.v*t.d.v) (t.b.v*t.c.v);have h2:=yH t.a.v t.d.v;have h3:=yH t.b.v t.c.v;have h4:=zO t.a;have h5:=zO t.b;have h6:=zO t.c;have h7:=zO t.d;unfold zbr;omega
def zsO(p:Pnt)(hp:p.t.le 1000)(hl:p.im.px.length<=9223372036854775807):CX 337 [.agg (yD p)] (pr (vz p)):=by
 refine zc func337 ?_;have hp7:p.t.le 10000000:=hp.up dC;refine wc<|wg (zgD p.t (hp.up dC))<|⟨λh1=>zd (λk=>h1 k.1),λh1=>?_⟩;have h1:=Xa.1 h1;refine wg (zwa p)<|wg ((zsN (ve p) (zaH p.k) (by rw[zBA];exact vT _) (vT _)).args (.C (.cons (zzm p.k) .nil))) ?_
 have only:p.k=1∨p.k=2∨p.k=3∨p.k=4->¬(ve p).same (zaH p.k)->¬zoO p:=by
  intro _ h2 k
  obtain⟨e,k⟩|⟨e,k⟩|⟨e,k⟩|⟨e,k⟩:=k
  ·exact h2 ((zCG e).2 ⟨k.1,k.2.1,k.2.2.1⟩)
  ·exact h2 ((zCH e).2 ⟨k.1,k.2.1,k.2.2.1⟩)
  ·exact h2 ((zCI e).2 ⟨k.1,k.2.1,k.2.2.1⟩)
  exact h2 ((zCJ e).2 ⟨k.1,k.2.1⟩)
 refine⟨λh2=>zd (λk=>only (by rcases k.2.1 with h|h|h|h <;> omega) h2 k.2.1),λh2=>?_⟩;have h2:=Xa.1 h2;have hcmp:=ziu (ofQ (zbr p.t)) zBR (by have:=zg5 hp;rw[zF];omega) (Xh _);rw[kv,zBR_v]at hcmp;have det:=hcmp.args (args:=[wm (ofQ (zbr p.t)),.agg [bl false,nS,bl false,nS]]) (.C (.cons (jj yY) .nil));refine⟨λk1=>?_,λk1=>?_⟩
 ·have hb:=(zCG k1).1 h2;refine wg ((zuj p.t qA hp7 (vT _)).args (.C (.cons zcg .nil)))<|zE ⟨λh=>⟨h1,.inl ⟨k1,hb.1,hb.2.1,hb.2.2,h⟩,.inl k1⟩,λh=>?_⟩
  obtain⟨e,k⟩|⟨e,_⟩|⟨e,_⟩|⟨e,_⟩:=h.2.1
  ·exact k.2.2.2
  all_goals omega
 refine⟨λk2=>?_,λk2=>?_⟩
 ·have hb:=(zCH k2).1 h2
  have get:vz p->has2 p:=λh=>by
   obtain⟨e,_⟩|⟨e,k⟩|⟨e,_⟩|⟨e,_⟩:=h.2.1
   ·omega
   ·exact k
   all_goals omega
  refine wg (kY p.p0)<|⟨λh3=>zd (λk=>h3 (get k).2.2.2.1),λh3=>?_⟩;refine wg (kY p.p1)<|⟨λh4=>zd (λk=>h4 (get k).2.2.2.2.1),λh4=>?_⟩;refine wg (zg4 p)<|⟨λh5=>zd (λk=>h5 (get k).2.2.2.2.2),λh5=>?_⟩;refine wg (zk3 p.t hp7)<|wg det ?_;refine zE ((uJ _).trans ⟨λh=>⟨h1,.inr (.inl ⟨k2,hb.1,hb.2.1,hb.2.2,Xa.1 h3,Xa.1 h4,Xa.1 h5⟩),.inr h⟩,λh=>h.2.2.resolve_left oM⟩)
 refine⟨λk3=>?_,λk3=>?_⟩
 ·have hb:=(zCI k3).1 h2
  have get:vz p->has3 p:=λh=>by
   obtain⟨e,_⟩|⟨e,_⟩|⟨e,k⟩|⟨e,_⟩:=h.2.1
   ·omega
   ·omega
   ·exact k
   omega
  refine wg (kY p.p0)<|⟨λh3=>zd (λk=>h3 (get k).2.2.2.1),λh3=>?_⟩;refine⟨λh4=>zd (λk=>by have:=(get k).2.2.2.2.1;omega),λh4=>?_⟩;refine⟨λh5=>zd (λk=>by have:=(get k).2.2.2.2.2.1;omega),λh5=>?_⟩;refine wg (zg4 p)<|⟨λh6=>zd (λk=>h6 (get k).2.2.2.2.2.2),λh6=>?_⟩;refine wg (zk3 p.t hp7)<|wg det ?_
  refine zE ((uJ _).trans ⟨λh=>⟨h1,.inr (.inr (.inl ⟨k3,hb.1,hb.2.1,hb.2.2,Xa.1 h3,oM,oM,Xa.1 h6⟩)),.inr h⟩,λh=>h.2.2.resolve_left oM⟩)
 refine⟨λk4=>?_,λk4=>?_⟩
 ·have hb:=(zCJ k4).1 h2
  have get:vz p->has4 p:=λh=>by
   obtain⟨e,_⟩|⟨e,_⟩|⟨e,_⟩|⟨e,k⟩:=h.2.1
   ·omega
   ·omega
   ·omega
   exact k
  refine wg (zm6 p.im hl)<|⟨λh3=>zd (λk=>h3 (get k).2.2.1),λh3=>?_⟩;refine⟨λh4=>?_,λh4=>?_⟩
  ·refine wg (zfg p.sp)<|⟨λh5=>zd (λk=>by rcases(get k).2.2.2.1 with h|h;exact h4 h;exact h5 h),λh5=>?_⟩;refine⟨λh6=>?_,λh6=>?_⟩
   ·refine⟨λh7=>zd (λk=>by have:=(get k).2.2.2.2;omega),λh7=>?_⟩;refine wg (zk3 p.t hp7)<|wg det ?_;refine zE ((uJ _).trans ⟨λh=>⟨h1,.inr (.inr (.inr ⟨k4,hb.1,hb.2,Xa.1 h3,.inr (Xa.1 h5),oM⟩)),.inr h⟩,λh=>h.2.2.resolve_left oM⟩)
   refine wg (zk3 p.t hp7)<|wg det ?_;refine zE ((uJ _).trans ⟨λh=>⟨h1,.inr (.inr (.inr ⟨k4,hb.1,hb.2,Xa.1 h3,.inr (Xa.1 h5),oM⟩)),.inr h⟩,λh=>h.2.2.resolve_left oM⟩)
  refine⟨λh6=>?_,λh6=>?_⟩
  ·refine⟨λh7=>zd (λk=>by have:=(get k).2.2.2.2;omega),λh7=>?_⟩;refine wg (zk3 p.t hp7)<|wg det ?_;refine zE ((uJ _).trans ⟨λh=>⟨h1,.inr (.inr (.inr ⟨k4,hb.1,hb.2,Xa.1 h3,.inl oM,oM⟩)),.inr h⟩,λh=>h.2.2.resolve_left oM⟩)
  refine wg (zk3 p.t hp7)<|wg det ?_;refine zE ((uJ _).trans ⟨λh=>⟨h1,.inr (.inr (.inr ⟨k4,hb.1,hb.2,Xa.1 h3,.inl oM,oM⟩)),.inr h⟩,λh=>h.2.2.resolve_left oM⟩)
 exact zd (λk=>by obtain⟨e,_⟩|⟨e,_⟩|⟨e,_⟩|⟨e,_⟩:=k.2.1 <;> omega)
def mulb(h0:0<=a)(h1:a<=A)(k0:0<=b)(k1:b<=B):0<=a*b/\a*b<=A*B:=
 ⟨XJ h0 k0,JH h1 k1 k0 oM⟩
def zla(mode:Int):Prop:=1<=mode/\mode<=13
instance instB01 (m:Int):Decidable (zla m):=wi
structure Rc where
 x0:Int
 y0:Int
 x1:Int
 y1:Int
def rcE(r:Rc):LR:=[i64 r.x0,i64 r.y0,i64 r.x1,i64 r.y1]
def ye:Rc:=⟨0,0,0,0⟩
def rc_eq{p q:Rc}:(p.x0=q.x0/\p.y0=q.y0/\p.x1=q.x1/\p.y1=q.y1/\True)↔p=q:=by
 obtain⟨a,b,c,d⟩:=p;obtain⟨a',b',c',d'⟩:=q;simp
instance instG01:DecidableEq Rc:=λ_ _=>decidable_of_iff _ rc_eq
def zeT(n:Int):Prop:= -4096<=n/\n<=4096
instance instG02 (n:Int):Decidable (zeT n):=wi
def Rc.ok(r:Rc):Prop:=zeT r.x0/\zeT r.y0/\zeT r.x1/\zeT r.y1
instance instG03 (r:Rc):Decidable r.ok:=wi
def Rc.mt(r:Rc):Prop:=¬r.ok∨r.x1<=r.x0∨r.y1<=r.y0
instance instG04 (r:Rc):Decidable r.mt:=wj
def Rc.canon(r:Rc):Rc:=if r.mt then ye else r
def Rc.w(r:Rc):Int:=r.x1-r.x0
def Rc.h(r:Rc):Int:=r.y1-r.y0
def Rc.area(r:Rc):Int:=r.canon.w*r.canon.h
def Rc.meet(a b:Rc):Rc:=if a.mt∨b.mt then ye else Rc.canon ⟨max a.x0 b.x0,max a.y0 b.y0,min a.x1 b.x1,min a.y1 b.y1⟩
def Rc.canon_canon(r:Rc):r.canon.canon=r.canon:=by
 unfold Rc.canon
 by_cases h:r.mt
 ·rw[Xe h];decide
 rw[Xc h,Xc h]
variable{r:Rc}
def Rc.canon_self(h:r.canon=r):(r=ye)∨(¬r.mt):=by
 unfold Rc.canon at h
 by_cases k:r.mt
 ·rw[Xe k]at h;exact .inl h.symm
 exact .inr k
def Rc.notmt(h:¬r.mt):r.ok/\r.x0<r.x1/\r.y0<r.y1:=by
 unfold Rc.mt at h;refine⟨Xa.1 λk=>h (.inl k),?_,?_⟩
 ·rcases QA r.x0 r.x1 with k|k
  ·exact k
  exact absurd (.inr (.inl k)) h
 rcases QA r.y0 r.y1 with k|k
 ·exact k
 exact absurd (.inr (.inr k)) h
def Rc.sides(h:r.canon=r):zeT r.x0/\zeT r.y0/\zeT r.x1/\zeT r.y1/\0<=r.w/\r.w<=8192/\0<=r.h/\r.h<=8192/\(r.w=0↔r.h=0):=by
 unfold Rc.w Rc.h
 rcases Rc.canon_self h with rfl|k
 ·decide
 obtain⟨⟨⟨a,b⟩,⟨c,d⟩,⟨e,f⟩,g,i⟩,j,k⟩:=Rc.notmt k;unfold zeT;omega
def zfh{p q:Rc}(h:p=q):LE (.agg (rcE p)) (.agg (rcE q)):=by subst h;exact .refl
def Rc.canon_pos(h:r.mt):r.canon=ye:=Xe h
def Rc.canon_neg(h:¬r.mt):r.canon=r:=Xc h
def Rc.canon_R(r:Rc):zeT r.canon.x0/\zeT r.canon.y0/\zeT r.canon.x1/\zeT r.canon.y1/\0<=r.canon.x1-r.canon.x0/\r.canon.x1-r.canon.x0<=8192/\0<=r.canon.y1-r.canon.y0/\r.canon.y1-r.canon.y0<=8192:=by
 obtain⟨a,b,c,d,e,f,g,h,_⟩:=Rc.sides r.canon_canon;exact⟨a,b,c,d,e,f,g,h⟩
def Rc.meet_canon(a b:Rc):Rc.canon ⟨max a.canon.x0 b.canon.x0,max a.canon.y0 b.canon.y0,min a.canon.x1 b.canon.x1,min a.canon.y1 b.canon.y1⟩=a.meet b:=by
 unfold Rc.meet;have e0:ye.x0=0/\ye.y0=0/\ye.x1=0/\ye.y1=0:=⟨rfl,rfl,rfl,rfl⟩
 by_cases ha:a.mt
 ·rw[Xe (.inl ha),Rc.canon_pos ha,Rc.canon_pos]
  right;left;dsimp only;rw[e0.1,e0.2.2.1];omega
 by_cases hb:b.mt
 ·rw[Xe (.inr hb),Rc.canon_pos hb,Rc.canon_pos]
  right;left;dsimp only;rw[e0.1,e0.2.2.1];omega
 rw[Xc (λh=>h.elim ha hb),Rc.canon_neg ha,Rc.canon_neg hb]
def zum(n:Int):CX 97 [i64 n] (pr (zeT n)):=by
 refine zc func97<|Br.mk (λh1=>?_) (λh1=>zd (λh=>h1 h.1));exact zE ⟨λh=>⟨h1,h⟩,λh=>h.2⟩
def zBB(r:Rc):CX 59 [.agg (rcE r)] (pr r.ok):=by
 refine zc func59<|wg (zum r.x0)<|⟨λh1=>?_,λh1=>zd (λh=>h1 h.1)⟩;refine wg (zum r.y0)<|⟨λh2=>?_,λh2=>zd (λh=>h2 h.2.1)⟩;refine wg (zum r.x1)<|⟨λh3=>?_,λh3=>zd (λh=>h3 h.2.2.1)⟩;exact wg (zum r.y1)<|zE ⟨λh=>⟨h1,h2,h3,h⟩,λh=>h.2.2.2⟩
def zeM(r:Rc):CX 34 [.agg (rcE r)] (pr r.mt):=by
 refine zc func34<|wg (zBB r)<|⟨λh1=>zH (.inl h1),λh1=>?_⟩;refine⟨λh2=>zH (.inr (.inl h2)),λh2=>?_⟩;exact zE ⟨λh=>.inr (.inr h),λh=>by rcases h with h|h|h;exact absurd h h1;exact absurd h h2;exact h⟩
def zg9(r:Rc):CX 58 [.agg (rcE r)] (.agg (rcE r.canon)):=by
 refine zc func58<|wg (zeM r) ?_;refine⟨λh1=>zfh (Rc.canon_pos h1).symm,λh1=>zfh (Rc.canon_neg h1).symm⟩
def zzn(r:Rc):CX 60 [.agg (rcE r)] (i64 r.area):=by
 obtain⟨a,b,c,d,e,f,g,h⟩:=r.canon_R;unfold zeT at a b c d;have hm:=mulb e f g h;refine zc func60<|wg (zg9 r) ?_;(iterate 3 refine wa ?_);exact .refl
def zzo(a b:Rc):CX 65 [.agg (rcE a),.agg (rcE b)] (.agg (rcE (a.meet b))):=by
 refine zc func65<|wd<|wg (zg9 a)<|wg (zg9 b)<|wh<|wg (zg9 ⟨max a.canon.x0 b.canon.x0,max a.canon.y0 b.canon.y0,min a.canon.x1 b.canon.x1,min a.canon.y1 b.canon.y1⟩) ?_;exact zfh (Rc.meet_canon a b)
def zEj(m:Int):CX 188 [i64 m] (pr (zla m)):=by
 refine zc func188<|Br.mk (λh1=>?_) (λh1=>zd (λh=>h1 h.1));exact zE ⟨λh=>⟨h1,h⟩,λh=>h.2⟩
def zEk(m:Int):CX 138 [i64 m] (pr (zla m)):=by
 refine zc func138<|Br.mk (λh1=>?_) (λh1=>zd (λh=>h1 h.1));exact zE ⟨λh=>⟨h1,h⟩,λh=>h.2⟩
def zoS(ks:LV):List (Int×SV):=ks.map λk=>(k,bl true)
def zwi{n:Int}{A K0:Prop}{F:Int×SV->List (Int×SV)->Prop->Prop}{ks:LV}(hF:∀k r ih,(n=k->A)->(¬n=k->ih)->F (k,bl true) r ih)(h1:n∈ks->A)(h0:n∉ks->K0):
  List.rec (motive:=λ_=>Prop) K0 F (zoS ks):=by
 induction ks with
 |nil=>exact h0 sI
 |cons k r ih=>
  exact hF k (zoS r) _ (λe=>h1 (by rw[e];exact .head _)) λe=>ih (λh=>h1 (.tail _ h)) λh=>h0 λhm=>by
   cases hm with
   |head=>exact e rfl
   |tail _ h'=>exact h h'
def zrb{n:Int}:∀{ks:LV} {K:List (Int×SV)->Prop},n∉ks->K (zoS (ks++[n]))->zwL (zoS ks) n (bl true) K
 |[],_,_,k=>k
 |a::r,K,hn,k=>by
  show Br (n=a->K ((n,bl true)::zoS r)) (¬n=a->zwL (zoS r) n (bl true) λr'=>K ((a,bl true)::r'));exact⟨λe=>absurd (e ▸ .head _) hn,λ_=>zrb (λh=>hn (.tail _ h)) k⟩
def zng{p:Pix}:(p.r=0/\p.g=0/\p.b=0/\p.a=0/\True)↔p=zd3:=zk8 (q:=zd3)
def pt_z{p:Pt}:(p.x=0/\p.y=0/\True)↔p=zp:=qi (q:=zp)
def zzB(p:Pnt):CX 396 [.agg (yD p)] (pr (zd4 p)):=by
 refine zc func396<|Br.mk (λh1=>?_) (λh1=>zd (λh=>h1 (qi.2 h.1)));refine⟨λh2=>?_,λh2=>zd (λh=>h2 (qi.2 h.2.1))⟩;refine⟨λh3=>?_,λh3=>zd (λh=>h3 h.2.2.1)⟩;intro hl;exact zE ⟨λh=>⟨pt_z.1 h1,pt_z.1 h2,h3,XM.1 oM⟩,λh=>by rw[h.2.2.2];rfl⟩
def zh2(p:Pnt):CX 397 [.agg (yD p)] (pr (vy p)):=by
 refine zc func397<|Br.mk (λh1=>?_) (λh1=>zd (λh=>h1 h.1));refine⟨λh2=>?_,λh2=>zd (λh=>h2 h.2.1)⟩;intro hl;refine⟨λh3=>?_,λh3=>zd (λh=>h3 (by rw[h.2.2.1];rfl))⟩;exact zE ⟨λh=>⟨h1,h2,XM.1 oM,h⟩,λh=>h.2.2.2⟩
def zBL(t:AF)(ht:t.le 10000000):CX 398 [wo t] (pr (t.same qA)):=by
 exact zc func398<|wg ((zv4 t qA ht (vT _)).args (.C (.cons zcg .nil)))<|.refl
def c_has(p:Pnt)(hp:p.t.le 10000000):CX 342 [.agg (yD p)] (pr (zoO p)):=by
 refine zc func342<|Br.mk (λk1=>?_) (λk1=>?_)
 ·have get:zoO p->has1 p:=λh=>by obtain⟨e,k⟩|⟨e,k⟩|⟨e,k⟩|⟨e,k⟩:=h <;> first|exact k|omega
  refine wg (zzB p)<|⟨λh1=>?_,λh1=>zd (λk=>h1 (get k).1)⟩;refine wg (zh2 p)<|⟨λh2=>?_,λh2=>zd (λk=>h2 (get k).2.1)⟩;refine⟨λh3=>?_,λh3=>zd (λk=>h3 (get k).2.2.1)⟩;exact wg (zBL p.t hp)<|zE ⟨λh=>.inl ⟨k1,h1,h2,h3,h⟩,λk=>(get k).2.2.2⟩
 refine⟨λk2=>?_,λk2=>?_⟩
 ·have get:zoO p->has2 p:=λh=>by obtain⟨e,k⟩|⟨e,k⟩|⟨e,k⟩|⟨e,k⟩:=h <;> first|exact k|omega
  refine wg (zh2 p)<|⟨λh1=>?_,λh1=>zd (λk=>h1 (get k).1)⟩;refine⟨λh2=>?_,λh2=>zd (λk=>h2 (zng.2 (get k).2.1))⟩;refine⟨λh3=>?_,λh3=>zd (λk=>h3 (get k).2.2.1)⟩;refine wg (z9 p.p0)<|⟨λh4=>?_,λh4=>zd (λk=>h4 (get k).2.2.2.1)⟩;refine wg (z9 p.p1)<|⟨λh5=>?_,λh5=>zd (λk=>h5 (get k).2.2.2.2.1)⟩;refine wg (zm8 p.st)<|⟨λh6=>?_,λh6=>zd (λk=>h6 (get k).2.2.2.2.2.1)⟩;refine wg (zbp p.sp) ?_
  exact zE ⟨λh=>.inr (.inl ⟨k2,h1,zng.1 h2,h3,h4,h5,h6,h⟩),λk=>(get k).2.2.2.2.2.2⟩
 refine⟨λk3=>?_,λk3=>?_⟩
 ·have get:zoO p->has3 p:=λh=>by obtain⟨e,k⟩|⟨e,k⟩|⟨e,k⟩|⟨e,k⟩:=h <;> first|exact k|omega
  refine wg (zh2 p)<|⟨λh1=>?_,λh1=>zd (λk=>h1 (get k).1)⟩;refine⟨λh2=>?_,λh2=>zd (λk=>h2 (zng.2 (get k).2.1))⟩;refine⟨λh3=>?_,λh3=>zd (λk=>h3 (pt_z.2 (get k).2.2.1))⟩;refine wg (z9 p.p0)<|⟨λh4=>?_,λh4=>zd (λk=>h4 (get k).2.2.2.1)⟩;refine⟨λh5=>?_,λh5=>zd (λk=>h5 (get k).2.2.2.2.1)⟩;refine⟨λh6=>?_,λh6=>zd (λk=>h6 (get k).2.2.2.2.2.1)⟩;refine wg (zm8 p.st) ?_
  refine⟨λh7=>?_,λh7=>zd (λk=>h7 (get k).2.2.2.2.2.2.1)⟩;exact wg (zbp p.sp)<|zE ⟨λh=>.inr (.inr (.inl ⟨k3,h1,zng.1 h2,pt_z.1 h3,h4,h5,h6,h7,h⟩)),λk=>(get k).2.2.2.2.2.2.2⟩
 refine⟨λk4=>?_,λk4=>?_⟩
 ·have get:zoO p->has4 p:=λh=>by obtain⟨e,k⟩|⟨e,k⟩|⟨e,k⟩|⟨e,k⟩:=h <;> first|exact k|omega
  refine wg (zzB p)<|⟨λh1=>?_,λh1=>zd (λk=>h1 (get k).1)⟩;refine⟨λh2=>?_,λh2=>zd (λk=>h2 (zng.2 (get k).2.1))⟩;refine wg (zk7 p.im)<|⟨λh3=>?_,λh3=>zd (λk=>h3 (get k).2.2.1)⟩;have yes:(p.sp=0∨zq6 p.sp)->(p.sm=1∨p.sm=2)->zoO p:=λa b=>.inr (.inr (.inr ⟨k4,h1,zng.1 h2,h3,a,b⟩))
  refine⟨λh4=>?_,λh4=>?_⟩
  ·refine⟨λh5=>zH (yes (.inl h4) (.inl h5)),λh5=>?_⟩;exact zE ⟨λh=>yes (.inl h4) (.inr h),λk=>(get k).2.2.2.2.resolve_left h5⟩
  refine wg (zbp p.sp)<|⟨λh6=>?_,λh6=>zd (λk=>by rcases(get k).2.2.2.1 with h|h;exact h4 h;exact h6 h)⟩;refine⟨λh5=>zH (yes (.inr h6) (.inl h5)),λh5=>?_⟩;exact zE ⟨λh=>yes (.inr h6) (.inr h),λk=>(get k).2.2.2.2.resolve_left h5⟩
 exact zd (λk=>by obtain⟨e,_⟩|⟨e,_⟩|⟨e,_⟩|⟨e,_⟩:=k <;> omega)
def zre(p:Pnt)(hp:p.t.le 1000):CX 280 [.agg (yD p)] (pr (vz p)):=by
 refine zc func280<|wg (zce p.t (hp.up dC))<|⟨λh1=>zd (λk=>h1 k.1),λh1=>?_⟩;have h1:=Xa.1 h1;refine wg (c_has p (hp.up dC))<|⟨λh2=>zd (λk=>h2 k.2.1),λh2=>?_⟩;have h2:=Xa.1 h2;refine⟨λh3=>zH ⟨h1,h2,.inl h3⟩,λh3=>?_⟩;refine wg (zuk p.t (hp.up dC)) ?_;have hz:=yA 0 dC;refine wg hz ?_;have hcmp:=zxV (ofQ (zbr p.t)) (ofQ ((0:Int):Rat)) (by have:=zg5 hp;rw[zF];omega) (by have:=zzl (n:=0) dC;rw[zF];omega);rw[kv,kv]at hcmp
 refine wg hcmp ?_;refine zE ((uJ _).trans ⟨λh=>⟨h1,h2,.inr h⟩,λh=>h.2.2.resolve_left h3⟩)
abbrev wv(x:Rc):SV:=.agg (rcE x)
abbrev wx(x:Pnt):SV:=.agg (yD x)
abbrev LY:=List Pnt
end Go.Gs
