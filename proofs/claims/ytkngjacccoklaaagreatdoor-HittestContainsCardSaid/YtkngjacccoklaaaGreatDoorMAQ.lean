/- Segments that may be, the one text. -/
import Derived.Test.YtkngjacccoklaaaGreatDoorMA
import Derived.Test.YtkngjacccoklaaaGreatDoorMAP
set_option maxRecDepth 100000
set_option maxHeartbeats 8000000
set_option linter.all false
namespace Go.Gs
open Go.Proofs
structure Sg where
 v:Int
 a:Pt
 b:Pt
 c:Pt
 deriving DecidableEq
def sgE(s:Sg):List SV:=[i64 s.v,i64 s.a.x,i64 s.a.y,i64 s.b.x,i64 s.b.y,i64 s.c.x,i64 s.c.y]
def nm(v:Int):Int:=if v=1 then 1 else if v=2 then 1 else if v=3 then 2 else if v=4 then 3 else if v=5 then 0 else-1
def c_named(v:Int):CG0 257 [i64 v] [] (i64 (nm v)) []:=by
 refine zc Tryz.func257 ?_;refine⟨λh4=>?_,λh4=>?_⟩
 ·exact Ar.fit dC<|Ar.fit dC<|Ar.fit dC<|ze (by rw[h4];rfl)
 refine⟨λh3=>?_,λh3=>?_⟩
 ·exact Ar.fit dC<|Ar.fit dC<|ze (by rw[h3];rfl)
 refine⟨λh1=>?_,λh1=>?_⟩
 ·refine⟨λ_=>?_,λh=>absurd h1 h⟩;exact Ar.fit dC<|ze (by rw[h1];rfl)
 refine⟨λh2=>?_,λh2=>?_⟩
 ·exact Ar.fit dC<|ze (by rw[h2];rfl)
 refine⟨λh5=>?_,λh5=>?_⟩
 ·exact ze (by rw[h5];rfl)
 exact ze (by unfold nm;rw[Xc h1,Xc h2,Xc h3,Xc h4,Xc h5])
def pk(n i:Int)(p:Pt):Prop:=zr p/\(n<=i->p=zp)
instance (n i:Int) (p:Pt):Decidable (pk n i p):=inferInstanceAs (Decidable (_/\_))
def zdc(s:Sg):Prop:=pk (nm s.v) 0 s.a/\pk (nm s.v) 1 s.b/\pk (nm s.v) 2 s.c
instance (s:Sg):Decidable (zdc s):=inferInstanceAs (Decidable (_/\_))
def zp4{s:Sg}:zdc s↔∀(j:Nat) x,[s.a,s.b,s.c][j]?=some x->pk (nm s.v) j x:=by
 constructor
 ·rintro⟨h1,h2,h3⟩ j x hx
  match j,hx with
  |0,hx=>cases hx;exact h1
  |1,hx=>cases hx;exact h2
  |2,hx=>cases hx;exact h3
 exact λh=>⟨h 0 _ rfl,h 1 _ rfl,h 2 _ rfl⟩
def zsg(s:Sg):CG0 322 [.agg (sgE s)] [] (pr (zdc s)) []:=by
 refine zc Tryz.func322 ?_;refine⟨Pt,ptE,[s.a,s.b,s.c],rfl,Ob.o0 ?_⟩;intro _
 refine⟨Nat,λi=>⟨[(13,i64 i),(12,i64 3),(11,.own 1),(1,.loc 0 0)],[(1,.arr 28 ptE 2 [s.a,s.b,s.c]),(0,.box 111 (sgE s))],2,34,0⟩,
  λi=>i<=3/\∀(j:Nat) x,j<i->[s.a,s.b,s.c][j]?=some x->pk (nm s.v) j x,λi=>3-i,0,?_,?_,?_⟩
 ·exact⟨oM,λj x hj=>by omega⟩
 ·exact zf [0,1]
 rintro i ⟨h1,h2⟩
 refine⟨λh3=>?_,λh3=>?_⟩
 ·have h3:i<3:=by omega
  refine Ob.mk ⟨oM,by show(i:Int)<3;omega⟩<|Ob.mk ⟨oM,by show(i:Int)<3;omega⟩ ?_;intro x hx;have hx:[s.a,s.b,s.c][i]?=some x:=hx;refine zb.t (k8 x) ?_;have out:¬pk (nm s.v) i x->¬zdc s:=λh hf=>h (zp4.1 hf i x hx)
  refine⟨λh4=>zd (out λh=>h4 h.1),λh4=>?_⟩;have h4:=Xa.1 h4;refine zb.t (c_named s.v) ?_
  have next:pk (nm s.v) i x->(i+1<=3/\∀(j:Nat) x,j<i+1->[s.a,s.b,s.c][j]?=some x->pk (nm s.v) j x):=λh=>⟨oM,λj y hj hy=>by
   by_cases e:j=i
   ·subst e;rw[hx]at hy;cases hy;exact h
   exact h2 j y oM hy⟩
  refine⟨λh5=>?_,λh5=>?_⟩
  ·refine⟨λh6=>zd (out λh=>h6 (qi.2 (h.2 h5))),λh6=>?_⟩;have h6:x=zp:=qi.1 (Xa.1 h6);exact Ar.o<|⟨i+1,next ⟨h4,λ_=>h6⟩,zf [0,1],by dsimp only;omega⟩
  exact Ar.o<|⟨i+1,next ⟨h4,λh=>absurd h h5⟩,zf [0,1],by dsimp only;omega⟩
 refine zI (zp4.2 λj x hx=>h2 j x ?_ hx);have:=(Xd.1 hx).1;have h3:¬((i:Int)<3):=h3;simp at this;omega
def zbR(last v:Int):Prop:=v=1∨(last≠5/\(v≠5∨last≠1))
instance (last v:Int):Decidable (zbR last v):=inferInstanceAs (Decidable (_∨_))
def jN(last:Int)(s:Sg):Int:=if nm s.v<0 then 2 else if¬zbR last s.v then 10 else if¬zdc s then 6 else 0
def chk(last:Int)(i:Nat):List Sg->Int×Int
 |[]=>(0,0)
 |s::r=>if jN last s≠0 then(jN last s,i) else chk s.v (i+1) r
def zaf(l:List Sg):Int×Int:=if 256<l.length then(5,256) else chk 5 0 l
def qN(l:List Sg):Prop:=(zaf l).1=0
instance (l:List Sg):Decidable (qN l):=inferInstanceAs (Decidable (_=_))
variable{α:Type}{i:Nat}
def zgs{l:List α}{x:α}(h:l[i]?=some x):l.drop i=x::l.drop (i+1):=by
 obtain⟨hl,he⟩:=Xd.1 h;rw[KT hl,he]
def twoI(c:Int×Int):SV:=.tup [i64 c.1,i64 c.2]
def zAE(l:List Sg):CG0 256 [.sl sgE l] [] (twoI (zaf l)) []:=by
 refine zc Tryz.func256 ?_;have fin:∀{a b:Int},zaf l=(a,b)->LE (.tup [i64 a,i64 b]) (twoI (zaf l)):=λh=>by rw[h];exact .refl
 intro hl;refine⟨λh=>fin (by unfold zaf;rw[Xe oM]),λh=>?_⟩;have hc:zaf l=chk 5 0 l:=by unfold zaf;rw[Xc oM]
 intro hl1;refine⟨Nat×Int,λq=>⟨[(13,i64 q.1),(12,i64 l.length),(11,.sl sgE l),(4,i64 q.2)],[],0,52,0⟩,λq=>q.1<=l.length/\chk 5 0 l=chk q.2 q.1 (l.drop q.1),λq=>l.length-q.1,(0,5),?_,?_,?_⟩
 ·exact⟨Xh _,rfl⟩
 ·exact zC []
 rintro⟨i,last⟩ ⟨h1,h2⟩
 have h1:i<=l.length:=h1;have h2:chk 5 0 l=chk last i (l.drop i):=h2;refine⟨λh3=>?_,λh3=>?_⟩
 ·have h3:(i:Int)<l.length:=h3;refine Ob.mk ⟨by dsimp only;omega,h3⟩ ?_;intro x hx;have hx:l[i]?=some x:=hx;rw[zgs hx]at h2
  have bad:∀{e:Int},jN last x=e->e≠0->zaf l=(e,(i:Int)):=λh hn=>by
   rw[hc,h2];unfold chk;rw[Xe (by rw[h];exact hn),h]
  have good:jN last x=0->(i+1,x.v).1<=l.length/\chk 5 0 l=chk (i+1,x.v).2 (i+1,x.v).1 (l.drop (i+1,x.v).1):=λh=>⟨by show i+1<=_;omega,by
   show _=chk x.v (i+1) _;rw[h2];conv=>lhs;unfold chk
   rw[Xc (λhn=>hn h)]⟩
  refine⟨λj1=>?_,λj1=>?_⟩
  ·have st:zbR last x.v:=.inl j1;refine zb.t (c_named x.v)<|⟨λk1=>fin (bad (by unfold jN;rw[Xe k1]) dC),λk1=>?_⟩;refine zb.t (zsg x)<|⟨λk2=>fin (bad (by unfold jN;rw[Xc k1,Xc (λh=>h st),Xe k2]) dC),λk2=>?_⟩;exact Ar.fit (by dsimp only;omega)<|⟨(i+1,x.v),good (by unfold jN;rw[Xc k1,Xc (λh=>h st),Xc k2]),zC [],by show l.length-(i+1)<l.length-i;omega⟩
  refine⟨λj2=>?_,λj2=>?_⟩
  ·refine⟨λj3=>?_,λj3=>?_⟩
   ·have st:zbR last x.v:=.inr ⟨j2,.inl j3⟩;refine zb.t (c_named x.v)<|⟨λk1=>fin (bad (by unfold jN;rw[Xe k1]) dC),λk1=>?_⟩;refine zb.t (zsg x)<|⟨λk2=>fin (bad (by unfold jN;rw[Xc k1,Xc (λh=>h st),Xe k2]) dC),λk2=>?_⟩;exact Ar.fit (by dsimp only;omega)<|⟨(i+1,x.v),good (by unfold jN;rw[Xc k1,Xc (λh=>h st),Xc k2]),zC [],by show l.length-(i+1)<l.length-i;omega⟩
   refine zb.t (c_named x.v)<|⟨λk1=>fin (bad (by unfold jN;rw[Xe k1]) dC),λk1=>?_⟩;have j3:=Xa.1 j3
   have ns:¬last≠1->¬zbR last x.v:=λk0 st=>by
    rcases st with st|⟨_,st|st⟩
    ·exact j1 st
    ·exact st j3
    exact k0 st
   refine⟨λk0=>fin (bad (by unfold jN;rw[Xc k1,Xe (ns k0)]) dC),λk0=>?_⟩;have st:zbR last x.v:=.inr ⟨j2,.inr (Xa.1 k0)⟩;refine zb.t (zsg x)<|⟨λk2=>fin (bad (by unfold jN;rw[Xc k1,Xc (λh=>h st),Xe k2]) dC),λk2=>?_⟩;exact Ar.fit (by dsimp only;omega)<|⟨(i+1,x.v),good (by unfold jN;rw[Xc k1,Xc (λh=>h st),Xc k2]),zC [],by show l.length-(i+1)<l.length-i;omega⟩
  refine zb.t (c_named x.v)<|⟨λk1=>fin (bad (by unfold jN;rw[Xe k1]) dC),λk1=>?_⟩
  have ns:¬zbR last x.v:=λst=>by
   rcases st with st|⟨st,_⟩
   ·exact j1 st
   exact j2 st
  exact fin (bad (by unfold jN;rw[Xc k1,Xe ns]) dC)
 refine fin (hc.trans (h2.trans ?_));rw[Ky (by have h3:¬(i:Int)<l.length:=h3;omega)];rfl
def ziY(l:List Sg):CG0 183 [.sl sgE l] [] (pr (qN l)) []:=by
 refine zc Tryz.func183 ?_;exact zb.t (zAE l)<|zE K7
def zp5(v:Int):CG0 141 [i64 v] [] (i64 (nm v)) []:=by
 refine zc Tryz.func141 ?_;refine⟨λh1=>?_,λh1=>?_⟩
 ·refine⟨λ_=>?_,λh=>absurd h1 h⟩;exact ze (by rw[h1];rfl)
 refine⟨λh2=>ze (by rw[h2];rfl),λh2=>?_⟩;refine⟨λh3=>ze (by rw[h3];rfl),λh3=>?_⟩;refine⟨λh4=>ze (by rw[h4];rfl),λh4=>?_⟩;refine⟨λh5=>ze (by rw[h5];rfl),λh5=>?_⟩;exact ze (by unfold nm;rw[Xc h1,Xc h2,Xc h3,Xc h4,Xc h5])
def ztG(s:Sg):CG0 140 [.agg (sgE s)] [] (.agg (ptE s.a++ptE s.b++ptE s.c)) []:=by
 refine zc Tryz.func140 ?_;exact .refl
def zdL(l:List Sg)(i:Nat):Int:=if i=0 then 5 else(l[i-1]?.map Sg.v).getD 0
def zvc(l:List Sg)(i:Nat)(x:Sg)(hx:l[i]?=some x)(hl:l.length<=256):CG0 354 [.sl sgE l,i64 i] [] (pr (zbR (zdL l i) x.v)) []:=by
 refine zc Tryz.func354 ?_;have hi:i<l.length:=(Xd.1 hx).1;refine⟨λh1=>?_,λh1=>?_⟩
 ·have h0:i=0:=by omega
  subst h0;refine Ob.o4 ?_;intro y hy;have hy:l[0]?=some y:=hy;rw[hx]at hy;cases hy
  refine zE ⟨λh=>.inl h,λh=>?_⟩
  rcases h with h|⟨h,_⟩
  ·exact h
  exact absurd rfl h
 refine Ar.o<|Ob.o4 ?_;intro y hy;have hy:l[i-1]?=some y:=by rw[←hy];congr 1;omega
 have hlast:zdL l i=y.v:=by unfold zdL;rw[Xc oM,hy];rfl
 rw[hlast];refine⟨λh2=>?_,λh2=>?_⟩
 ·refine Ob.o4 ?_;intro z hz;have hz:l[i]?=some z:=hz;rw[hx]at hz;cases hz
  refine zE ⟨λh=>.inl h,λh=>?_⟩
  rcases h with h|⟨h,_⟩
  ·exact h
  exact absurd h2 h
 refine Ob.o4 ?_;intro z hz;have hz:l[i]?=some z:=hz;rw[hx]at hz;cases hz
 refine⟨λh3=>?_,λh3=>?_⟩
 ·exact zI (.inr ⟨h2,.inl h3⟩)
 refine Ar.o<|Ob.o4 ?_;intro u hu;have hu:l[i-1]?=some u:=by rw[←hu];congr 1;omega
 rw[hy]at hu;cases hu
 refine zE ⟨λh=>.inr ⟨h2,.inr h⟩,λh=>?_⟩;have h3:x.v=5:=Xa.1 h3
 rcases h with h|⟨_,h|h⟩
 ·omega
 ·exact absurd h3 h
 exact h
def zAF(l:List Sg)(i:Nat)(x:Sg)(hx:l[i]?=some x)(hl:l.length<=256):CG0 291 [.sl sgE l,i64 i] [] (i64 (jN (zdL l i) x)) []:=by
 refine zc Tryz.func291 ?_;have hi:i<l.length:=(Xd.1 hx).1;refine Ob.o4 ?_;intro y hy;have hy:l[i]?=some y:=hy;rw[hx]at hy;cases hy
 refine zb.t (zp5 x.v)<|⟨λh1=>ze (by unfold jN;rw[Xe h1]),λh1=>?_⟩;refine zb.t (zvc l i x hx hl)<|⟨λh2=>ze (by unfold jN;rw[Xc h1,Xe h2]),λh2=>?_⟩;refine Ob.o4 ?_;intro y hy;have hy:l[i]?=some y:=hy;rw[hx]at hy;cases hy
 refine zb.t (ztG x) ?_;have bad:¬zdc x->LE (i64 6) (i64 (jN (zdL l i) x)):=λh=>ze (by unfold jN;rw[Xc h1,Xc h2,Xe h])
 have hn:0<=nm x.v:=oM;have zOK:zr zp:=dC
 refine⟨Nat,λk=>⟨[(7,i64 k),(5,i64 (nm x.v)),(6,.loc 0 0)],[(0,.box 174 (ptE x.a++ptE x.b++ptE x.c))],1,51,0⟩,
  λk=>k<=3/\(1<=k->pk (nm x.v) 0 x.a)/\(2<=k->pk (nm x.v) 1 x.b)/\(3<=k->pk (nm x.v) 2 x.c),λk=>3-k,0,?_,?_,?_⟩
 ·exact⟨oM,λh=>by omega,λh=>by omega,λh=>by omega⟩
 ·exact zf [0]
 rintro k ⟨k1,k2,k3,k4⟩
 refine⟨λg1=>?_,λg1=>?_⟩
 ·have g1:(k:Int)<3:=g1;have hk:k=0∨k=1∨k=2:=oM
  rcases hk with rfl|rfl|rfl
  ·refine⟨λa1=>?_,λa1=>?_⟩
   ·refine zb.t (z9 x.a)<|⟨λa2=>bad (λh=>a2 h.1.1),λa2=>?_⟩;have a2:zr x.a:=Xa.1 a2;refine⟨λa3=>absurd a3 oM,λa3=>?_⟩;exact Ar.o<|⟨1,⟨oM,λ_=>⟨a2,λh=>absurd h oM⟩,λh=>by omega,λh=>by omega⟩,zf [0],by dsimp only;omega⟩
   refine⟨λa3=>?_,λa3=>absurd a3 oM⟩;refine⟨λa4=>bad (λh=>a4 (qi.2 (h.1.2 oM))),λa4=>?_⟩;have a4:x.a=zp:=qi.1 (Xa.1 a4);exact Ar.o<|⟨1,⟨oM,λ_=>⟨a4 ▸ zOK,λ_=>a4⟩,λh=>by omega,λh=>by omega⟩,zf [0],by dsimp only;omega⟩
  ·refine⟨λa1=>?_,λa1=>?_⟩
   ·refine zb.t (z9 x.b)<|⟨λa2=>bad (λh=>a2 h.2.1.1),λa2=>?_⟩;have a2:zr x.b:=Xa.1 a2;refine⟨λa3=>absurd a3 oM,λa3=>?_⟩;exact Ar.o<|⟨2,⟨oM,λ_=>k2 oM,λ_=>⟨a2,λh=>absurd h oM⟩,λh=>by omega⟩,zf [0],by dsimp only;omega⟩
   refine⟨λa3=>?_,λa3=>absurd a3 oM⟩;refine⟨λa4=>bad (λh=>a4 (qi.2 (h.2.1.2 oM))),λa4=>?_⟩;have a4:x.b=zp:=qi.1 (Xa.1 a4);exact Ar.o<|⟨2,⟨oM,λ_=>k2 oM,λ_=>⟨a4 ▸ zOK,λ_=>a4⟩,λh=>by omega⟩,zf [0],by dsimp only;omega⟩
  refine⟨λa1=>?_,λa1=>?_⟩
  ·refine zb.t (z9 x.c)<|⟨λa2=>bad (λh=>a2 h.2.2.1),λa2=>?_⟩;have a2:zr x.c:=Xa.1 a2;refine⟨λa3=>absurd a3 oM,λa3=>?_⟩;exact Ar.o<|⟨3,⟨oM,λ_=>k2 oM,λ_=>k3 oM,λ_=>⟨a2,λh=>absurd h oM⟩⟩,zf [0],by dsimp only;omega⟩
  refine⟨λa3=>?_,λa3=>absurd a3 oM⟩;refine⟨λa4=>bad (λh=>a4 (qi.2 (h.2.2.2 oM))),λa4=>?_⟩;have a4:x.c=zp:=qi.1 (Xa.1 a4);exact Ar.o<|⟨3,⟨oM,λ_=>k2 oM,λ_=>k3 oM,λ_=>⟨a4 ▸ zOK,λ_=>a4⟩⟩,zf [0],by dsimp only;omega⟩
 have h3:k=3:=by have g1:¬(k:Int)<3:=g1;omega
 subst h3;exact ze (by unfold jN;rw[Xc h1,Xc h2,Xc (λh=>h ⟨k2 oM,k3 oM,k4 oM⟩)])
variable{l:List Sg}{x:Sg}
def zp6(h:l[i]?=some x):zdL l (i+1)=x.v:=by
 unfold zdL;rw[Xc oM,Qr,h];rfl
def zxK(l:List Sg):CG0 211 [.sl sgE l] [] (twoI (zaf l)) []:=by
 refine zc Tryz.func211 ?_;have fin:∀{a b:Int},zaf l=(a,b)->LE (.tup [i64 a,i64 b]) (twoI (zaf l)):=λh=>by rw[h];exact .refl
 intro hl;refine⟨λh=>fin (by unfold zaf;rw[Xe oM]),λh=>?_⟩;have hc:zaf l=chk 5 0 l:=by unfold zaf;rw[Xc oM]
 refine⟨Nat,λi=>⟨[(4,i64 i),(0,.sl sgE l)],[],0,22,0⟩,λi=>i<=l.length/\chk 5 0 l=chk (zdL l i) i (l.drop i),λi=>l.length-i,0,?_,?_,?_⟩
 ·exact⟨Xh _,rfl⟩
 ·exact zC []
 rintro i ⟨h1,h2⟩
 intro hl1;refine⟨λh3=>?_,λh3=>?_⟩
 ·have hx:=Xb (show i<l.length by omega);generalize l[i]'oM=x at hx;rw[zgs hx]at h2;refine zb.t (zAF l i x hx oM)<|⟨λh4=>fin ?_,λh4=>?_⟩
  ·rw[hc,h2];unfold chk;rw[Xe h4]
  refine Ar.o<|⟨i+1,⟨oM,?_⟩,zC [],by dsimp only;omega⟩;rw[h2,zp6 hx];conv=>lhs;unfold chk
  rw[Xc h4]
 refine fin (hc.trans (h2.trans ?_));rw[Ky oM];rfl
def zgt(l:List Sg):CG0 139 [.sl sgE l] [] (pr (qN l)) []:=by
 refine zc Tryz.func139 ?_;exact zb.t (zxK l)<|zE K7
def zdM(v:Int): -1<=nm v/\nm v<=3:=by unfold nm;split <;> (try split) <;> (try split) <;> (try split) <;> (try split) <;> omega
def kB(s:Sg):List Pt:=[s.a,s.b,s.c].take (nm s.v).toNat
def zp7(s:Sg):CG0 184 [.agg (sgE s)] [] (.sl ptE (kB s)) []:=by
 refine zc Tryz.func184 ?_;refine⟨Pt,ptE,[s.a,s.b,s.c],rfl,Ob.o0 ?_⟩;refine zb.t (c_named s.v) ?_;have hr:=zdM s.v;refine Sl.see (Ob.mk ⟨dC,by show 0<=max (nm s.v) 0;omega,by show max (nm s.v) 0<=3;omega,Qo _⟩ ?_);refine z0 ?_;show([s.a,s.b,s.c].drop 0).take (max (nm s.v) 0-0).toNat=_;unfold kB;rw[KZ];congr 1;omega
def qe(l:List Sg):List Pt:=l.flatMap kB
def mnP(p q:Pt):Pt:=⟨min p.x q.x,min p.y q.y⟩
def mxP(p q:Pt):Pt:=⟨max p.x q.x,max p.y q.y⟩
def bnd(f:Pt->Pt->Pt)(q:List Pt):Pt:=q.foldl f (q.headD zp)
def zin(h:l[i]?=some x):qe (l.take (i+1))=qe (l.take i)++kB x:=by
 unfold qe;rw[Xl,h];simp[Qk]
def zhA(h:qN l):l.length<=256:=by
 unfold qN zaf at h
 by_cases e:256<l.length
 ·rw[Xe e]at h;cases h
 omega
def zDy{s:Sg}{k:Nat}(h:(k:Int)<nm s.v):(kB s)[k]?=[s.a,s.b,s.c][k]? :=by
 unfold kB;rw[XI,Xe oM]
def zDz{r m a:Nat}(h:r=2^(m+1)*a)(hr:r<4294967296)(hm:m<=31):vk .or .u64 (r:Int) (1*2^(m:Int).toNat)=((r+2^m:Nat):Int):=by
 have hp:2^m<=2^31:=XH dC hm;have e:(1*2^(m:Int).toNat:Int)=((2^m:Nat):Int):=by rw[JT];simp
 rw[e,zj2 oM oM];have:=K8 (i:=m+1) (b:=2^m) (Nat.pow_lt_pow_right dC oM) a;rw[h,←this]
def zxL(n:Int)(h0:0<=n/\n<=18446744073709551615):CG0 339 [u64 n] [] (u64 (isq n)) []:=by
 refine zc Tryz.func339 ?_
 refine⟨Int×Nat,λz=>⟨[(0,u64 n),(3,u64 (z.2:Int)),(4,i64 z.1)],[],0,21,0⟩,λz=> -1<=z.1/\z.1<=31/\(∃a,z.2=2^(z.1+1).toNat*a)/\z.2+2^(z.1+1).toNat<=4294967296/\sqL n (z.1+1).toNat z.2=isq n,
  λz=>(z.1+1).toNat,(31,0),⟨dC,dC,⟨0,rfl⟩,dC,rfl⟩,?_,?_⟩
 ·exact zC []
 rintro⟨j,r⟩ ⟨h1,h2,⟨a,h3⟩,h4,h5⟩
 dsimp only at h1 h2 h3 h4 h5;refine⟨λg=>?_,λg=>?_⟩
 ·have g:0<=j:=g;obtain⟨m,rfl⟩:∃m:Nat,j=m:=⟨j.toNat,oM⟩;have e:((m:Int)+1).toNat=m+1:=oM;rw[e]at h3 h4 h5;have hm:m<=31:=oM;have hp:2^m<=2147483648:=XH (n:=2) dC hm;have hp1:0<2^m:=KX dC;have hp2:2^(m+1)=2*2^m:=by rw[XU];omega
  have ee:(1*2^(m:Int).toNat:Int)=((2^m:Nat):Int):=by rw[JT];simp
  have hq:(r+2^m)*(r+2^m)<=18446744065119617025:=XC (Qs (show r+2^m<=4294967295 by omega) (show r+2^m<=4294967295 by omega)) dC
  have hs:sqL n (m+1) r=sqL n m (if ((r+2^m:Nat):Int)*((r+2^m:Nat):Int)<=n then((r+2^m:Nat):Int) else r):=by
   have:((r+2^m:Nat):Int)=(r:Int)+2^m:=by simp
   rw[this];rfl
  rw[hs]at h5;have em:((m:Int)-1+1).toNat=m:=oM;refine Ob.mk (by show(0:Int)<=m/\(m:Int)<64;omega)<|Ar.fit (by rw[ee];omega)<|⟨((r+2^m:Nat):Int),(zDz h3 oM hm).symm,?_⟩;have hq':((r+2^m:Nat):Int)*((r+2^m:Nat):Int)<=18446744065119617025:=by have h:=JH.mpr hq;rw[X1]at h;exact h
  have hq0:0<=((r+2^m:Nat):Int)*((r+2^m:Nat):Int):=XJ oM oM;refine Ar.fit ⟨hq0,oM⟩<|⟨λk=>?_,λk=>?_⟩
  ·refine Ar.o ?_;rw[Xe k]at h5;refine⟨((m:Int)-1,r+2^m),⟨by dsimp only;omega,by dsimp only;omega,⟨2*a+1,?_⟩,?_,?_⟩,zC [],by dsimp only;omega⟩
   ·dsimp only;rw[em,h3,hp2];grind
   ·dsimp only;rw[em];omega
   dsimp only;rw[em];exact h5
  refine Ar.o ?_;rw[Xc k]at h5;refine⟨((m:Int)-1,r),⟨by dsimp only;omega,by dsimp only;omega,⟨2*a,?_⟩,?_,?_⟩,zC [],by dsimp only;omega⟩
  ·dsimp only;rw[em,h3,hp2];grind
  ·dsimp only;rw[em];omega
  dsimp only;rw[em];exact h5
 have g:¬0<=j:=g;have e:(j+1).toNat=0:=oM;rw[e]at h5;exact ze h5
def ztH(n:Int)(h0:0<=n/\n<=18446744073709551615):CG0 359 [u64 n] [] (u64 (isq n)) []:=by
 refine zc Tryz.func359 ?_
 refine⟨Int×Nat,λz=>⟨[(0,u64 n),(3,u64 (z.2:Int)),(4,i64 z.1)],[],0,22,0⟩,λz=> -1<=z.1/\z.1<=31/\z.2+2^(z.1+1).toNat<=4294967296/\sqL n (z.1+1).toNat z.2=isq n,
  λz=>(z.1+1).toNat,(31,0),⟨dC,dC,dC,rfl⟩,?_,?_⟩
 ·exact zC []
 rintro⟨j,r⟩ ⟨h1,h2,h4,h5⟩
 dsimp only at h1 h2 h4 h5;refine⟨λg=>?_,λg=>?_⟩
 ·have g:0<=j:=g;obtain⟨m,rfl⟩:∃m:Nat,j=m:=⟨j.toNat,oM⟩;have e:((m:Int)+1).toNat=m+1:=oM;rw[e]at h4 h5;have hm:m<=31:=oM;have hp:2^m<=2147483648:=XH (n:=2) dC hm;have hp1:0<2^m:=KX dC;have hp2:2^(m+1)=2*2^m:=by rw[XU];omega
  have ee:(1*2^(m:Int).toNat:Int)=((2^m:Nat):Int):=by rw[JT];simp
  have hq:(r+2^m)*(r+2^m)<=18446744065119617025:=XC (Qs (show r+2^m<=4294967295 by omega) (show r+2^m<=4294967295 by omega)) dC
  have hs:sqL n (m+1) r=sqL n m (if ((r+2^m:Nat):Int)*((r+2^m:Nat):Int)<=n then((r+2^m:Nat):Int) else r):=by
   have:((r+2^m:Nat):Int)=(r:Int)+2^m:=by simp
   rw[this];rfl
  rw[hs]at h5;have em:((m:Int)-1+1).toNat=m:=oM;refine Ar.o<|Ob.mk (by show(0:Int)<=m/\(m:Int)<64;omega)<|Ar.fit (by rw[ee];omega) ?_;change Ar _ _ _;rw[ee,show(r:Int)+((2^m:Nat):Int)=((r+2^m:Nat):Int) by omega];refine Ar.o ?_;have hq':((r+2^m:Nat):Int)*((r+2^m:Nat):Int)<=18446744065119617025:=by have h:=JH.mpr hq;rw[X1]at h;exact h
  have hq0:0<=((r+2^m:Nat):Int)*((r+2^m:Nat):Int):=XJ oM oM;refine Ar.fit ⟨hq0,oM⟩<|⟨λk=>?_,λk=>?_⟩
  ·refine Ar.o ?_;rw[Xe k]at h5;refine⟨((m:Int)-1,r+2^m),⟨by dsimp only;omega,by dsimp only;omega,?_,?_⟩,zC [],by dsimp only;omega⟩
   ·dsimp only;rw[em];omega
   dsimp only;rw[em];exact h5
  refine Ar.o ?_;rw[Xc k]at h5;refine⟨((m:Int)-1,r),⟨by dsimp only;omega,by dsimp only;omega,?_,?_⟩,zC [],by dsimp only;omega⟩
  ·dsimp only;rw[em];omega
  dsimp only;rw[em];exact h5
 have g:¬0<=j:=g;have e:(j+1).toNat=0:=oM;rw[e]at h5;exact ze h5
def zcJ(p:Pt):CG0 81 [.agg (ptE p)] [] (.agg (ptE (js p))) []:=zxI p
def zkk(n lo hi:Int):CG0 296 [i64 n,i64 lo,i64 hi] [] (i64 (kV n lo hi)) []:=by
 refine zc Tryz.func296 ?_;refine⟨λh=>?_,λh=>?_⟩
 ·exact ze (by simp[kV,h])
 refine⟨λh2=>?_,λh2=>?_⟩
 ·exact ze (by simp[kV,h,h2])
 exact ze (by simp[kV,h,h2])
def zcK(p:Pt):CG0 288 [.agg (ptE p)] [] (.agg (ptE (js p))) []:=by
 refine zc Tryz.func288 ?_;exact Dr.k<|zb.t (zkk p.x _ _)<|zb.t (zkk p.y _ _)<|.refl
def zxM(p q:Pt):CG0 122 [.agg (ptE p),.agg (ptE q)] [] (.agg (ptE (zae p q))) []:=by
 have h1:=qj p.x;have h2:=qj p.y;have h3:=qj q.x;have h4:=qj q.y;refine zc Tryz.func122 ?_;refine Dr.k<|zb.t (zcJ p)<|zb.t (zcJ q) ?_;unfold js;exact Ar.fit (by dsimp only;omega)<|Ar.fit (by dsimp only;omega)<|.refl
def zmj(p q:Pt):CG0 206 [.agg (ptE p),.agg (ptE q)] [] (.agg (ptE (zae p q))) []:=by
 have h1:=qj p.x;have h2:=qj p.y;have h3:=qj q.x;have h4:=qj q.y;refine zc Tryz.func206 ?_;refine Dr.k<|zb.t (zcK p)<|zb.t (zcK q) ?_;unfold js;exact Ar.fit (by dsimp only;omega)<|Ar.fit (by dsimp only;omega)<|.refl
def zxN(p q:Pt):CG0 427 [.agg (ptE p),.agg (ptE q)] [] (.agg (ptE (addP p q))) []:=by
 have h1:=qj p.x;have h2:=qj p.y;have h3:=qj q.x;have h4:=qj q.y;refine zc Tryz.func427 ?_;refine Dr.k<|zb.t (zcK p)<|zb.t (zcK q) ?_;unfold js;exact Ar.fit (by dsimp only;omega)<|Ar.fit (by dsimp only;omega)<|.refl
def zDA(p:Pt):CG0 471 [.agg (ptE p)] [] (.agg (ptE (perpP p))) []:=by
 have h2:=qj p.y;refine zc Tryz.func471 ?_;refine zb.t (zcJ p) ?_;unfold js;exact Ar.fit (by dsimp only;omega)<|.refl
def zxO(p q:Pt)(hp:zr p)(hq:zr q):CG0 121 [.agg (ptE p),.agg (ptE q)] [] (i64 (wdg p q)) []:=by
 have h:=zca hp hq;unfold wdg at h;refine zc Tryz.func121 ?_;(iterate 3 refine Ar.o ?_);exact .refl
def zAG(p q:Pt)(hp:zr p)(hq:zr q):CG0 205 [.agg (ptE p),.agg (ptE q)] [] (i64 (wdg p q)) []:=by
 have h:=zca hp hq;unfold wdg at h;refine zc Tryz.func205 ?_;(iterate 3 refine Ar.o ?_);exact .refl
def zDB(p q:Pt)(hp:zr p)(hq:zr q):CG0 398 [.agg (ptE p),.agg (ptE q)] [] (i64 (dtp p q)) []:=by
 have h:=zex hp hq;unfold dtp at h;refine zc Tryz.func398 ?_;(iterate 3 refine Ar.o ?_);exact .refl
def zAH(p q:Pt):CG0 474 [.agg (ptE p),.agg (ptE q)] [] (i64 (zaw p q)) []:=by
 refine zc Tryz.func474 ?_;exact Dr.k<|zb.t (zcJ p)<|zb.t (zcJ q)<|zb.t (zxO (js p) (js q) (jn p) (jn q))<|.refl
def zAI(p q:Pt):CG0 476 [.agg (ptE p),.agg (ptE q)] [] (i64 (zaw p q)) []:=by
 refine zc Tryz.func476 ?_;exact Dr.k<|zb.t (zcK p)<|zb.t (zcK q)<|zb.t (zAG (js p) (js q) (jn p) (jn q))<|.refl
def p_dot(p q:Pt):CG0 340 [.agg (ptE p),.agg (ptE q)] [] (i64 (ziI p q)) []:=by
 refine zc Tryz.func340 ?_;exact Dr.k<|zb.t (zcJ p)<|zb.t (zcJ q)<|zb.t (zDB (js p) (js q) (jn p) (jn q))<|.refl
def r_dot(p q:Pt):CG0 360 [.agg (ptE p),.agg (ptE q)] [] (i64 (ziI p q)) []:=by
 have h:=zex (jn p) (jn q);unfold dtp at h;refine zc Tryz.func360 ?_;refine Dr.k<|zb.t (zcK p)<|zb.t (zcK q) ?_;(iterate 3 refine Ar.o ?_);exact .refl
def zkl(p:Pt):0<=ziI p p/\ziI p p<=2199023255552:=by
 have h:=zex (jn p) (jn p);have h1:=ja (js p).x;have h2:=ja (js p).y;unfold ziI;unfold dtp at*;omega
def zhB(p:Pt):0<=zp3 p/\zp3 p<4294967296:=by
 have h:=zkl p;exact⟨(zgr oM oM).1,zxJ oM oM⟩
def zxP(p:Pt):CG0 268 [.agg (ptE p)] [] (i64 (zp3 p)) []:=by
 have h:=zkl p;have hl:=zhB p;unfold zp3 at hl;refine zc Tryz.func268 ?_;refine zb.t (p_dot p p) ?_;(iterate 2 refine Ar.o ?_);exact zb.t (zxL (65536*ziI p p) oM)<|Ar.o<|.refl
def zxQ(p:Pt):CG0 295 [.agg (ptE p)] [] (i64 (zp3 p)) []:=by
 have h:=zkl p;have hl:=zhB p;unfold zp3 at hl;refine zc Tryz.func295 ?_;refine zb.t (r_dot p p) ?_;(iterate 2 refine Ar.o ?_);exact zb.t (ztH (65536*ziI p p) oM)<|Ar.o<|.refl
def zoa{a b:Int}{M:Nat}(hb:b≠0)(h:a.natAbs<=M*b.natAbs): -(M:Int)<=z6 a b/\z6 a b<=M:=by
 have e:=zdD a b
 have:(2*a.natAbs+b.natAbs)/(2*b.natAbs)<M+1:=by
  rw[XS oM];have:(M+1)*(2*b.natAbs)=2*(M*b.natAbs)+2*b.natAbs:=by grind
  omega
 omega
variable{b:Int}
def zmk:z6 0 b=0:=by
 have e:=zdD 0 b
 have:(2*(0:Int).natAbs+b.natAbs)/(2*b.natAbs)=0:=by
  by_cases h:b.natAbs=0
  ·rw[h];rfl
  exact Kh (by show 0+b.natAbs<_;omega)
 omega
def uY{a b:Int}{M:Nat}(h:a.natAbs<=M): -(M:Int)<=z6 a b/\z6 a b<=M:=by
 by_cases hb:b=0
 ·subst hb;have e:=zdD a 0;rw[show(2*(0:Int).natAbs)=0 by rfl,Nat.div_zero]at e;omega
 refine zoa hb (XC h ?_);exact QH _ oM
def uK{a:Int}(h: -4611686018427387904<=a/\a<=4611686018427387904):yZ (z6 a b)=z6 a b:=by
 have:=uY (a:=a) (b:=b) (M:=4611686018427387904) oM;unfold yZ;rw[Xe oM]
def zgu{n d:Int}(h:1<=d):0<=kV n 0 d/\kV n 0 d<=d:=by unfold kV;split <;> (try split) <;> omega
def zhC{n d f t:Int}(hd:1<=d/\d<=1099511627776)(hn:0<=n/\n<=d)(hf: -1048576<=f/\f<=1048576)(ht: -1048576<=t/\t<=1048576):
  (-2305843009213693952<=n*(t-f)/\n*(t-f)<=2305843009213693952)/\(-2097152<=z6 (n*(t-f)) d/\z6 (n*(t-f)) d<=2097152)/\yZ (z6 (n*(t-f)) d)=z6 (n*(t-f)) d:=by
 have h1:=ju (A:=d) (B:=2097152) (a:=n) (b:=t-f) oM oM;have h2:(n*(t-f)).natAbs<=2097152*d.natAbs:=oM;have h3:=zoa (M:=2097152) oM h2;exact⟨oM,oM,uK oM⟩
def ztI(f t n d:Int)(hd:1<=d/\d<=1099511627776)(hn:0<=n/\n<=d)(hf: -1048576<=f/\f<=1048576)(ht: -1048576<=t/\t<=1048576):
  CG0 399 [i64 f,i64 t,.ptr [i64 n],.ptr [i64 d]] [] (i64 (f+z6 (n*(t-f)) d)) []:=by
 have h:=zhC hd hn hf ht;refine zc Tryz.func399 ?_;(iterate 2 refine Ar.o ?_);refine zb.t (uV (n*(t-f)) d ⟨oM,oM⟩ ⟨oM,oM⟩) ?_;rw[h.2.2];exact Ar.o<|.refl
def zxR(a b:Pt)(n d:Int):CG0 341 [.agg (ptE a),.agg (ptE b),i64 n,i64 d] [] (.agg (ptE (uJ a b n d))) []:=by
 have h1:=qj a.x;have h2:=qj a.y;have h3:=qj b.x;have h4:=qj b.y;refine zc Tryz.func341 ?_;refine Dr.k<|zb.t (zcJ a)<|zb.t (zcJ b)<|⟨λg=>?_,λg=>?_⟩
 ·unfold uJ;rw[Xe (.inl g)];exact .refl
 refine⟨λg2=>?_,λg2=>?_⟩
 ·unfold uJ;rw[Xe (.inr g2)];exact .refl
 have g:¬(d<1∨1099511627776<d):=λh=>h.elim g g2
 have hn:=zgu (n:=n) (d:=d) oM;refine zb.t (zn8 n 0 d)<|Dr.k<|zb.t (ztI (hI a.x) (hI b.x) (kV n 0 d) d oM hn h1 h3)<|zb.t (ztI (hI a.y) (hI b.y) (kV n 0 d) d oM hn h2 h4) ?_;unfold uJ;rw[Xc g];exact .refl
def zxS(a b:Pt)(n d:Int):CG0 223 [.agg (ptE a),.agg (ptE b),i64 n,i64 d] [] (.agg (ptE (uJ a b n d))) []:=by
 have h1:=qj a.x;have h2:=qj a.y;have h3:=qj b.x;have h4:=qj b.y;refine zc Tryz.func223 ?_;refine zb.t (zcK a)<|⟨λg=>?_,λg=>?_⟩
 ·unfold uJ;rw[Xe (.inl g)];exact .refl
 refine⟨λg2=>?_,λg2=>?_⟩
 ·unfold uJ;rw[Xe (.inr g2)];exact .refl
 have g:¬(d<1∨1099511627776<d):=λh=>h.elim g g2
 have hn:=zgu (n:=n) (d:=d) oM;have k1:=zhC oM hn h1 h3;have k2:=zhC oM hn h2 h4;refine zb.t (zmj b a)<|zb.t (zkk n 0 d)<|Dr.k<|Ar.fit (by show _<=kV n 0 d*(hI b.x-hI a.x)/\kV n 0 d*(hI b.x-hI a.x)<=_;omega)<|zb.t (uc (kV n 0 d*(hI b.x-hI a.x)) d ⟨oM,oM⟩ ⟨oM,oM⟩) ?_;rw[k1.2.2];refine Ar.fit (by show _<=hI a.x+z6 (kV n 0 d*(hI b.x-hI a.x)) d/\hI a.x+z6 (kV n 0 d*(hI b.x-hI a.x)) d<=_;omega)<|Ar.fit (by show _<=kV n 0 d*(hI b.y-hI a.y)/\kV n 0 d*(hI b.y-hI a.y)<=_;omega) ?_
 refine zb.t (uc (kV n 0 d*(hI b.y-hI a.y)) d ⟨oM,oM⟩ ⟨oM,oM⟩) ?_;rw[k2.2.2];refine Ar.fit (by show _<=hI a.y+z6 (kV n 0 d*(hI b.y-hI a.y)) d/\hI a.y+z6 (kV n 0 d*(hI b.y-hI a.y)) d<=_;omega) ?_;unfold uJ;rw[Xc g];exact .refl
def vO(w:Int):CG0 265 [i64 w] [] (pr (ki w)) []:=by
 refine zc Tryz.func265 ?_;refine⟨λh=>?_,λh=>zd (λk=>h k.1)⟩;exact zE ⟨λk=>⟨h,k⟩,λk=>k.2⟩
def zCt(n:Int):CG0 472 [i64 n] [] (pr (zbs n)) []:=by
 refine zc Tryz.func472 ?_;refine⟨λh=>zI (.inl h),λh=>?_⟩;exact zE ⟨λk=>.inr k,λk=>k.resolve_left h⟩
def zag(n a b:Int):CG0 147 [i64 n,i64 a,i64 b] [] (pr (a<=n/\n<=b)) []:=by
 refine zc Tryz.func147 ?_;refine⟨λh=>?_,λh=>zd (λk=>h k.1)⟩;exact zE ⟨λk=>⟨h,k⟩,λk=>k.2⟩
def zob(w:Int):CG0 146 [i64 w] [] (pr (ki w)) []:=by
 refine zc Tryz.func146 ?_;exact zb.t (zag w 1 16384)<|zE K7
def ztJ(a b:Pt)(w:Int):CG0 420 [.agg (ptE a),.agg (ptE b),i64 w] [] (pr (ki w/\zr a/\zr b)) []:=by
 refine zc Tryz.func420 ?_;refine zb.t (z9 a)<|⟨λh1=>?_,λh1=>zd (λh=>h1 h.2.1)⟩;refine zb.t (z9 b)<|⟨λh2=>?_,λh2=>zd (λh=>h2 h.2.2)⟩;exact zb.t (zob w)<|zE ⟨λh=>⟨h,h1,h2⟩,λh=>h.1⟩
def zdN(out:List (List Sg))(s:Sg):List (List Sg):=if s.v=1 then out++[[s]] else out.dropLast++[out.getLastD []++[s]]
def subs(l:List Sg):List (List Sg):=l.foldl zdN []
def zkm(v:Int)(q:List Pt):Sg:=⟨v,q.getD 0 zp,q.getD 1 zp,q.getD 2 zp⟩
def gid(i:Nat)(x:List SV)(hx:[[SV.loc 1 1],[.loc 1 3],[.loc 1 5]][i]?=some x):ren.rens [(0,some 0),(1,some 1),(2,some 2)] x=some x:=by
 match i,hx with
 |0,hx=>cases hx;rfl
 |1,hx=>cases hx;rfl
 |2,hx=>cases hx;rfl
def zoc(v:Int)(q:List Pt):CG0 186 [i64 v,.sl ptE q] [] (.agg (sgE (zkm v q))) []:=by
 refine zc Tryz.func186 ?_
 refine⟨[[.loc 1 1],[.loc 1 3],[.loc 1 5]],rfl,Ob.mk ⟨rfl,dC,dC,dC,λx hx=>by
  simp only[XZ,XW,or_false]at hx
  rcases hx with rfl|rfl|rfl <;> rfl⟩ ?_⟩
 intro _
 refine⟨Nat,λi=>⟨[(15,i64 i),(14,i64 3),(13,.own 2),(5,.loc 1 0),(4,.loc 0 0),(1,.sl ptE q)],
  [(2,.garr 291 1 [[.loc 1 1],[.loc 1 3],[.loc 1 5]]),(1,.box 111 (sgE ⟨v,if 1<=i then q.getD 0 zp else zp,if 2<=i then q.getD 1 zp else zp,if 3<=i then q.getD 2 zp else zp⟩)),(0,.box 111 (sgE ⟨0,zp,zp,zp⟩))],3,32,0⟩,
  λi=>i<=3,λi=>3-i,0,dC,zu [0,1,2] ⟨⟨_,rfl,rfl,λi x hx=>?_⟩,rfl,rfl,trivial⟩,?_⟩
 ·exact⟨x,hx,gid i x hx⟩
 rintro i hi
 have hi:i<=3:=hi;have e:i=0∨i=1∨i=2∨i=3:=oM
 rcases e with rfl|rfl|rfl|rfl
 ·refine Br.y<|Ob.mk ⟨dC,by show(0:Int)<((3:Nat):Int);decide⟩<|Ob.mk ⟨dC,by show(0:Int)<((3:Nat):Int);decide⟩ ?_;intro y hy;have hy:some [SV.loc 1 1]=some y:=hy
  cases hy
  intro _;refine⟨λh1=>?_,λh1=>?_⟩
  ·refine Ob.mk ⟨dC,h1⟩ ?_;intro x hx;have hx:q[0]?=some x:=hx;have hg:q.getD 0 zp=x:=by rw[Xt,hx];rfl
   exact Ar.fit dC<|⟨1,dC,zu [0,1,2] ⟨⟨_,rfl,rfl,λi x hx=>⟨x,hx,gid i x hx⟩⟩,Xg (λp=>some (Mem.box 111 (sgE ⟨v,p,zp,zp⟩))) hg.symm,rfl,trivial⟩,dC⟩
  have h1:¬((0:Nat):Int)<q.length:=h1;have hg:q.getD 0 zp=zp:=by rw[Xt,XG oM];rfl
  exact Ar.fit dC<|⟨1,dC,zu [0,1,2] ⟨⟨_,rfl,rfl,λi x hx=>⟨x,hx,gid i x hx⟩⟩,Xg (λp=>some (Mem.box 111 (sgE ⟨v,p,zp,zp⟩))) hg.symm,rfl,trivial⟩,dC⟩
 ·refine Br.y<|Ob.mk ⟨dC,by show(1:Int)<((3:Nat):Int);decide⟩<|Ob.mk ⟨dC,by show(1:Int)<((3:Nat):Int);decide⟩ ?_;intro y hy;have hy:some [SV.loc 1 3]=some y:=hy
  cases hy
  intro _;refine⟨λh1=>?_,λh1=>?_⟩
  ·refine Ob.mk ⟨dC,h1⟩ ?_;intro x hx;have hx:q[1]?=some x:=hx;have hg:q.getD 1 zp=x:=by rw[Xt,hx];rfl
   exact Ar.fit dC<|⟨2,dC,zu [0,1,2] ⟨⟨_,rfl,rfl,λi x hx=>⟨x,hx,gid i x hx⟩⟩,Xg (λp=>some (Mem.box 111 (sgE ⟨v,q.getD 0 zp,p,zp⟩))) hg.symm,rfl,trivial⟩,dC⟩
  have h1:¬((1:Nat):Int)<q.length:=h1;have hg:q.getD 1 zp=zp:=by rw[Xt,XG oM];rfl
  exact Ar.fit dC<|⟨2,dC,zu [0,1,2] ⟨⟨_,rfl,rfl,λi x hx=>⟨x,hx,gid i x hx⟩⟩,Xg (λp=>some (Mem.box 111 (sgE ⟨v,q.getD 0 zp,p,zp⟩))) hg.symm,rfl,trivial⟩,dC⟩
 ·refine Br.y<|Ob.mk ⟨dC,by show(2:Int)<((3:Nat):Int);decide⟩<|Ob.mk ⟨dC,by show(2:Int)<((3:Nat):Int);decide⟩ ?_;intro y hy;have hy:some [SV.loc 1 5]=some y:=hy
  cases hy
  intro _;refine⟨λh1=>?_,λh1=>?_⟩
  ·refine Ob.mk ⟨dC,h1⟩ ?_;intro x hx;have hx:q[2]?=some x:=hx;have hg:q.getD 2 zp=x:=by rw[Xt,hx];rfl
   exact Ar.fit dC<|⟨3,dC,zu [0,1,2] ⟨⟨_,rfl,rfl,λi x hx=>⟨x,hx,gid i x hx⟩⟩,Xg (λp=>some (Mem.box 111 (sgE ⟨v,q.getD 0 zp,q.getD 1 zp,p⟩))) hg.symm,rfl,trivial⟩,dC⟩
  have h1:¬((2:Nat):Int)<q.length:=h1;have hg:q.getD 2 zp=zp:=by rw[Xt,XG oM];rfl
  exact Ar.fit dC<|⟨3,dC,zu [0,1,2] ⟨⟨_,rfl,rfl,λi x hx=>⟨x,hx,gid i x hx⟩⟩,Xg (λp=>some (Mem.box 111 (sgE ⟨v,q.getD 0 zp,q.getD 1 zp,p⟩))) hg.symm,rfl,trivial⟩,dC⟩
 refine⟨λh=>absurd h dC,λ_=>?_⟩;exact .refl
def zsh:Sg:=⟨5,zp,zp,zp⟩
def oks:Int->List Sg->Prop
 |_,[]=>True
 |last,s::r=>jN last s=0/\oks s.v r
def ztK:∀{l:List Sg} {last:Int} {i:Nat},(chk last i l).1=0↔oks last l
 |[],_,_=>by simp[chk,oks]
 |s::r,last,i=>by
  unfold chk oks
  by_cases h:jN last s=0
  ·rw[Xc (λhn=>hn h),ztK];exact⟨λk=>⟨h,k⟩,λk=>k.2⟩
  rw[Xe h];exact⟨λk=>absurd k h,λk=>absurd k.1 h⟩
def zaV:qN l↔l.length<=256/\oks 5 l:=by
 unfold qN zaf
 by_cases h:256<l.length
 ·rw[Xe h];exact⟨λk=>absurd k dC,λk=>absurd h oM⟩
 rw[Xc h,ztK];exact⟨λk=>⟨oM,k⟩,λk=>k.2⟩
variable{last:Int}
def uZ{s:Sg}:jN last s=0↔0<=nm s.v/\zbR last s.v/\zdc s:=by
 unfold jN
 by_cases h1:nm s.v<0
 ·rw[Xe h1];exact⟨λh=>absurd h dC,λh=>by omega⟩
 rw[Xc h1]
 by_cases h2:zbR last s.v
 ·rw[Xc (λh=>h h2)]
  by_cases h3:zdc s
  ·rw[Xc (λh=>h h3)];exact⟨λ_=>⟨oM,h2,h3⟩,λ_=>rfl⟩
  rw[Xe h3];exact⟨λh=>absurd h dC,λh=>absurd h.2.2 h3⟩
 rw[Xe h2];exact⟨λh=>absurd h dC,λh=>absurd h.2.1 h2⟩
def zml{v:Int}(h:0<=nm v):v=1∨v=2∨v=3∨v=4∨v=5:=by
 unfold nm at h
 by_cases h1:v=1
 ·exact .inl h1
 rw[Xc h1]at h
 by_cases h2:v=2
 ·exact .inr (.inl h2)
 rw[Xc h2]at h
 by_cases h3:v=3
 ·exact .inr (.inr (.inl h3))
 rw[Xc h3]at h
 by_cases h4:v=4
 ·exact .inr (.inr (.inr (.inl h4)))
 rw[Xc h4]at h
 by_cases h5:v=5
 ·exact .inr (.inr (.inr (.inr h5)))
 rw[Xc h5]at h;omega
def midV(s:Sg):Prop:=s.v=2∨s.v=3∨s.v=4
def Grp(g:List Sg)(last:Int):Prop:=
 ∃m mid,m.v=1/\(∀s∈mid,midV s)/\(∀s∈g,zdc s)/\
  ((g=m::mid/\last≠5/\(mid=[]->last=1))∨∃c,g=m::mid++[c]/\c.v=5/\last=5/\mid≠[])
def zxT{g:List Sg}(h:Grp g last)(he:jN last x=0)(hv:x.v≠1):Grp (g++[x]) x.v:=by
 obtain⟨h0,h1,h2⟩:=uZ.1 he;obtain⟨m,mid,g1,g2,g3,g4⟩:=h;have hs:last≠5/\(x.v≠5∨last≠1):=h1.resolve_left hv
 have hf:∀s∈g++[x],zdc s:=λs hs=>by
  rcases Xs.1 hs with hs|hs
  ·exact g3 s hs
  simp at hs;subst hs;exact h2
 obtain⟨rfl,g5,g6⟩|⟨c,_,_,g5,_⟩:=g4
 ·by_cases h5:x.v=5
  ·exact⟨m,mid,g1,g2,hf,.inr ⟨x,rfl,h5,h5,λe=>(hs.2.resolve_left (λh=>h h5)) (g6 e)⟩⟩
  refine⟨m,mid++[x],g1,λs hs=>?_,hf,.inl ⟨rfl,h5,λe=>by simp at e⟩⟩
  rcases Xs.1 hs with hs|hs
  ·exact g2 s hs
  simp at hs;subst hs
  rcases zml h0 with h|h|h|h|h
  ·exact absurd h hv
  ·exact .inl h
  ·exact .inr (.inl h)
  ·exact .inr (.inr h)
  exact absurd h h5
 exact absurd g5 hs.1
def zmm(he:jN last x=0)(hv:x.v=1):Grp [x] x.v:=
 ⟨x,[],hv,λs hs=>(by cases hs),λs hs=>by simp at hs;subst hs;exact(uZ.1 he).2.2,.inl ⟨rfl,oM,λ_=>hv⟩⟩
def InvS(S:List (List Sg))(last:Int):Prop:=(S=[]/\last=5)∨∃cl g,S=cl++[g]/\Grp g last/\∀h∈cl,∃k,Grp h k
def zxU{S:List (List Sg)}(h:InvS S last)(he:jN last x=0):InvS (zdN S x) x.v:=by
 unfold zdN
 by_cases hv:x.v=1
 ·rw[Xe hv]
  obtain⟨rfl,rfl⟩|⟨cl,g,rfl,h1,h2⟩:=h
  ·exact .inr ⟨[],[x],rfl,zmm he hv,λh hh=>by cases hh⟩
  refine .inr ⟨cl++[g],[x],rfl,zmm he hv,λh hh=>?_⟩
  rcases Xs.1 hh with hh|hh
  ·exact h2 h hh
  simp at hh;subst hh;exact⟨_,h1⟩
 rw[Xc hv]
 obtain⟨rfl,rfl⟩|⟨cl,g,rfl,h1,h2⟩:=h
 ·exact absurd ((uZ.1 he).2.1.resolve_left hv).1 (λh=>h rfl)
 exact .inr ⟨cl,g++[x],by simp,zxT h1 he hv,h2⟩
def ztL:∀(r:List Sg) {S:List (List Sg)} {last:Int},InvS S last->oks last r->∃k,InvS (r.foldl zdN S) k
 |[],_,last,h,_=>⟨last,h⟩
 |_::r,_,_,h,ho=>ztL r (zxU h ho.1) ho.2
def zp8(h:qN l):∀g∈subs l,∃k,Grp g k:=by
 obtain⟨k,hk⟩:=ztL l (S:=[]) (last:=5) (.inl ⟨rfl,rfl⟩) (zaV.1 h).2;intro g hg;have hg:g∈l.foldl zdN []:=hg
 obtain⟨e,_⟩|⟨cl,g',e,h1,h2⟩:=hk
 ·rw[e]at hg;cases hg
 rw[e]at hg
 rcases Xs.1 hg with hg|hg
 ·exact h2 g hg
 simp at hg;subst hg;exact⟨_,h1⟩
def zp9(S:List (List Sg))(x:Sg):(zdN S x).flatten=S.flatten++[x]:=by
 unfold zdN
 by_cases hv:x.v=1
 ·rw[Xe hv];simp
 rw[Xc hv]
 rcases Yk S with rfl|⟨cl,g,rfl⟩
 ·rfl
 simp
def zmn:∀(r:List Sg) (S:List (List Sg)),(r.foldl zdN S).flatten=S.flatten++r
 |[],S=>by simp
 |x::r,S=>by rw[Qx,zmn r,zp9];simp
def zmo(l:List Sg):(subs l).flatten=l:=by
 unfold subs;rw[zmn];rfl
def zio(h:qN l):∀x,l[0]?=some x->x.v=1:=λx hx=>by
 have ho:=(zaV.1 h).2
 cases l with
 |nil=>cases hx
 |cons a r=>
  cases hx
  exact(uZ.1 ho.1).2.1.resolve_right (λh=>h.1 rfl)
def zp_ok:zr zp:=dC
def inR(n:Int):Prop:= -4096<=n/\n<=4096
instance (n:Int):Decidable (inR n):=inferInstanceAs (Decidable (_/\_))
def rok(a b c d:Int):Prop:=inR a/\inR b/\inR c/\inR d/\a<c/\b<d
instance (a b c d:Int):Decidable (rok a b c d):=inferInstanceAs (Decidable (_/\_))
def zaF(a b c d:Int):List Sg:=if rok a b c d then[⟨1,⟨a*256,b*256⟩,zp,zp⟩,⟨2,⟨c*256,b*256⟩,zp,zp⟩,⟨2,⟨c*256,d*256⟩,zp,zp⟩,⟨2,⟨a*256,d*256⟩,zp,zp⟩,zsh] else[]
def reE(a b c d:Int):List SV:=[i64 a,i64 b,i64 c,i64 d]
def zV(n:Int):List SV:=[i64 n]
def zDC{enc:α->List SV}:LE (.val (.slice none 0 0)) (.sl enc []):=λS Pm ρ w v hg=>by
 rw[hg.val_inv];exact .d _ _ (.nil enc none)
def zAJ(a b c d:Int):CG0 89 [.agg (reE a b c d)] [] (pr (¬rok a b c d)) []:=by
 refine zc Tryz.func89 ?_;refine⟨Int,zV,[a,b,c,d],rfl,Ob.o0 ?_⟩;intro _
 refine⟨Nat,λi=>⟨[(15,i64 i),(14,i64 4),(13,.own 1),(1,.loc 0 0)],[(1,.arr 3 zV 1 [a,b,c,d]),(0,.box 62 (reE a b c d))],2,38,0⟩,
  λi=>i<=4/\∀(j:Nat) n,j<i->[a,b,c,d][j]?=some n->inR n,λi=>4-i,0,⟨oM,λj n hj=>by omega⟩,zf [0,1],?_⟩
 rintro i ⟨h1,h2⟩
 refine⟨λh3=>?_,λh3=>?_⟩
 ·have h3:(i:Int)<4:=h3;refine Ob.mk ⟨oM,h3⟩<|Ob.mk ⟨oM,h3⟩ ?_;intro n hn;have hn:[a,b,c,d][i]?=some n:=hn
  have out:¬inR n->¬rok a b c d:=λhr ⟨r1,r2,r3,r4,_⟩=>hr (by
   have:i=0∨i=1∨i=2∨i=3:=oM
   rcases this with rfl|rfl|rfl|rfl <;> (cases hn;assumption))
  refine⟨λh4=>zI (out λh=>by have:=h.1;omega),λh4=>?_⟩;refine⟨λh5=>zI (out λh=>by have:=h.2;omega),λh5=>?_⟩;refine Ar.o ?_
  exact⟨i+1,⟨oM,λj m hj hm=>by
   by_cases e:j=i
   ·subst e;rw[hn]at hm;cases hm;exact⟨oM,oM⟩
   exact h2 j m oM hm⟩,zf [0,1],by dsimp only;omega⟩
 have h3:¬(i:Int)<4:=h3;have h0:=h2 0 a oM rfl;have h1:=h2 1 b oM rfl;have h4:=h2 2 c oM rfl;have h5:=h2 3 d oM rfl;refine⟨λh6=>zI λh=>by have:=h.2.2.2.2.1;omega,λh6=>?_⟩;refine zE ⟨λh7 h=>by have:=h.2.2.2.2.2;omega,λh=>?_⟩
 by_cases h8:d<=b
 ·exact h8
 exact absurd ⟨h0,h1,h4,h5,oM,oM⟩ h
def c_at(x y:Int)(hx:inR x)(hy:inR y):CG0 90 [i64 x,i64 y] [] (.agg (ptE ⟨x*256,y*256⟩)) []:=by
 refine zc Tryz.func90 ?_;unfold inR at hx hy;(iterate 2 refine Ar.o ?_);exact .refl
def zsi(a b c d:Int):CG0 50 [.agg (reE a b c d)] [] (.sl sgE (zaF a b c d)) []:=by
 refine zc Tryz.func50 ?_;have fin:∀{L:List Sg} {s:SV},zaF a b c d=L->LE s (.sl sgE L)->LE s (.sl sgE (zaF a b c d)):=λe h=>e ▸ h
 refine zb.t (zAJ a b c d)<|⟨λh=>fin (Xc h) zDC,λh=>?_⟩;have h:=Xa.1 h;have hL:=show zaF a b c d=_ from Xe h;obtain⟨h1,h2,h3,h4,_⟩:=h;refine Dr.k<|zb.t (c_at a b h1 h2)<|zb.t (c_at c b h3 h2)<|zb.t (c_at c d h3 h4)<|zb.t (c_at a d h1 h4)<|⟨Sg,sgE,[⟨1,⟨a*256,b*256⟩,zp,zp⟩,⟨2,⟨c*256,b*256⟩,zp,zp⟩,⟨2,⟨c*256,d*256⟩,zp,zp⟩,⟨2,⟨a*256,d*256⟩,zp,zp⟩,zsh],(by kernel_rfl),Ob.o0 ?_⟩;exact fin hL (z0 rfl)
def zod(n:Int):CG0 156 [i64 n] [] (pr (inR n)) []:=by
 refine zc Tryz.func156 ?_;refine⟨λh=>zE ⟨λk=>⟨h,k⟩,λk=>k.2⟩,λh=>zd λk=>h k.1⟩
def zvd(a b c d:Int):CG0 103 [.agg (reE a b c d)] [] (pr (inR a/\inR b/\inR c/\inR d)) []:=by
 refine zc Tryz.func103 ?_;refine zb.t (zod a)<|⟨λh1=>?_,λh1=>zd λk=>h1 k.1⟩;refine zb.t (zod b)<|⟨λh2=>?_,λh2=>zd λk=>h2 k.2.1⟩;refine zb.t (zod c)<|⟨λh3=>?_,λh3=>zd λk=>h3 k.2.2.1⟩;exact zb.t (zod d)<|zE ⟨λh4=>⟨h1,h2,h3,h4⟩,λk=>k.2.2.2⟩
def zxV(a b c d:Int):CG0 64 [.agg (reE a b c d)] [] (pr (¬rok a b c d)) []:=by
 refine zc Tryz.func64 ?_;refine zb.t (zvd a b c d)<|⟨λh=>zI λk=>h ⟨k.1,k.2.1,k.2.2.1,k.2.2.2.1⟩,λh=>?_⟩;obtain⟨h0,h1,h4,h5⟩:=Xa.1 h;refine⟨λh6=>zI λh=>by have:=h.2.2.2.2.1;omega,λh6=>?_⟩;refine zE ⟨λh7 h=>by have:=h.2.2.2.2.2;omega,λh=>?_⟩
 by_cases h8:d<=b
 ·exact h8
 exact absurd ⟨h0,h1,h4,h5,oM,oM⟩ h
def ziq(a b c d:Int):CG0 31 [.agg (reE a b c d)] [] (.sl sgE (zaF a b c d)) []:=by
 refine zc Tryz.func31 ?_;have fin:∀{L:List Sg} {s:SV},zaF a b c d=L->LE s (.sl sgE L)->LE s (.sl sgE (zaF a b c d)):=λe h=>e ▸ h
 refine zb.t (zxV a b c d)<|⟨λh=>?_,λh=>?_⟩
 ·refine⟨Sg,sgE,[],rfl,Ob.o2 ?_⟩;exact fin (Xc h) .refl
 have h:=Xa.1 h;have hL:=show zaF a b c d=_ from Xe h;obtain⟨h1,h2,h3,h4,_⟩:=h;unfold inR at h1 h2 h3 h4;refine Dr.d ?_;(iterate 4 refine Ar.o ?_);refine Ob.mk (by kernel_rfl)<|⟨Sg,sgE,[⟨1,⟨a*256,b*256⟩,zp,zp⟩,⟨2,⟨c*256,b*256⟩,zp,zp⟩,⟨2,⟨c*256,d*256⟩,zp,zp⟩,⟨2,⟨a*256,d*256⟩,zp,zp⟩,zsh],(by kernel_rfl),Ob.o0 ?_⟩;exact fin hL (z0 rfl)
def jb(p:Pen):List SV:=[i64 p.w,i64 p.j,i64 p.c,i64 p.m,.sl zV p.d,i64 p.ph]
def zdO(l:List Int)(i:Nat):Prop:=l=[]∨∃n∈l.take i,0<n
def zgv{l:List Int}{x:Int}(h:l[i]?=some x):l.take (i+1)=l.take i++[x]:=by
 rw[Xl,h];rfl
def zcL{l:List Int}{x:Int}(h:l[i]?=some x):zdO l (i+1)↔zdO l i∨0<x:=by
 unfold zdO;rw[zgv h];constructor
 ·rintro(h|⟨n,hn,h0⟩)
  ·exact .inl (.inl h)
  rcases Xs.1 hn with hn|hn
  ·exact .inl (.inr ⟨n,hn,h0⟩)
  rw[Xv]at hn;exact .inr (hn ▸ h0)
 rintro((h|⟨n,hn,h0⟩)|h)
 ·exact .inl h
 ·exact .inr ⟨n,Qg _ hn,h0⟩
 exact .inr ⟨x,Qv _ (Xv.2 rfl),h⟩
def ztM{l:List Int}{i:Nat}(hi:l.length<=i)(ha:∀n∈l.take i,0<=n/\n<=1048576):uz l↔zdO l i/\l.length%2=0/\(l.length:Int)<=16:=by
 rw[Xi hi]at ha;unfold uz zdO;rw[Xi hi];exact⟨λh=>h.2,λh=>⟨ha,h⟩⟩
def zgw{l:List Int}{x:Int}(h:l[i]?=some x)(ha:∀n∈l.take i,0<=n/\n<=1048576)(hx:0<=x/\x<=1048576):∀n∈l.take (i+1),0<=n/\n<=1048576:=by
 rw[zgv h];intro n hn
 rcases Xs.1 hn with hn|hn
 ·exact ha n hn
 rw[Xv]at hn;exact hn ▸ hx
def zkn{l:List Int}{x:Int}(h:l[i]?=some x)(hx:¬(0<=x/\x<=1048576)):¬uz l:=λk=>hx (k.1 x (Xf h))
def vp(l:List Int):CG0 266 [.sl zV l] [] (pr (uz l)) []:=by
 refine zc Tryz.func266 ?_;intro hl1;intro hl2;refine⟨Nat×Bool,λz=>⟨[(3,bl z.2),(11,i64 (z.1:Int)),(10,i64 (l.length:Int)),(9,.sl zV l),(0,.sl zV l)],[],0,39,0⟩,λz=>z.1<=l.length/\(z.2=true↔zdO l z.1)/\∀n∈l.take z.1,0<=n/\n<=1048576,λz=>l.length-z.1,(0,decide (l=[])),?_,?_,?_⟩
 ·refine⟨Xh _,?_,λn hn=>by cases hn⟩;show decide (l=[])=true↔_;unfold zdO;rw[decide_eq_true_iff];exact⟨.inl,λh=>h.elim id (λ⟨n,hn,_⟩=>by cases hn)⟩
 ·refine Sub.trans (jP (t:=3) (s':=bl (decide (l=[]))) rfl (ztm ?_)) (qI [] rfl rfl rfl ⟨rfl,rfl,rfl,rfl,rfl,trivial⟩ trivial);rw[decide_eq_true_iff,←XM];omega
 rintro⟨i,b⟩ ⟨h1,h2,h3⟩
 dsimp only at h1 h2 h3;refine⟨λg=>?_,λg=>?_⟩
 ·have g:(i:Int)<l.length:=g;refine Ob.o ?_;intro x hx;refine⟨λa1=>zd (zkn hx oM),λa1=>?_⟩;refine⟨λa2=>zd (zkn hx oM),λa2=>?_⟩;have hx:l[i]?=some x:=hx
  cases b with
  |true=>
   refine Ar.o<|⟨(i+1,true),⟨by dsimp only;omega,?_,zgw hx h3 oM⟩,zC [],by dsimp only;omega⟩;exact⟨λ_=>(zcL hx).2 (.inl (h2.1 rfl)),λ_=>rfl⟩
  |false=>
   refine Ar.o<|⟨(i+1,decide (0<x)),⟨by dsimp only;omega,?_,zgw hx h3 oM⟩,Sub.trans (jP (t:=3) (s':=bl (decide (0<x))) rfl (ztm ?_)) (qI [] rfl rfl rfl ⟨rfl,rfl,rfl,rfl,rfl,trivial⟩ trivial),by dsimp only;omega⟩
   ·show decide (0<x)=true↔zdO l (i+1);rw[decide_eq_true_iff,zcL (show l[i]?=some x from hx)];exact⟨.inr,λh=>h.elim (λk=>by have:=h2.2 k;cases this) id⟩
   rw[decide_eq_true_iff]
 have g:¬(i:Int)<l.length:=g;have hd:=ztM (l:=l) (i:=i) oM h3
 cases b with
 |false=>
  exact zd (λk=>by have:=h2.2 (hd.1 k).1;cases this)
 |true=>
  intro hl3;refine Dv.pos ⟨oM,oM⟩<|⟨λa1=>?_,λa1=>zd (λk=>a1 (by have:=(hd.1 k).2.1;omega))⟩;intro hl4;exact zE ⟨λk=>hd.2 ⟨h2.1 rfl,oM,k⟩,λk=>(hd.1 k).2.2⟩
def zxW(l:List Int):CG0 148 [.sl zV l] [] (pr (uz l)) []:=by
 refine zc Tryz.func148 ?_;intro hl1;refine⟨Nat×Bool,λz=>⟨[(3,bl z.2),(4,i64 (z.1:Int)),(0,.sl zV l)],[],0,40,0⟩,λz=>z.1<=l.length/\(z.2=true↔zdO l z.1)/\∀n∈l.take z.1,0<=n/\n<=1048576,λz=>l.length-z.1,(0,decide (l=[])),?_,?_,?_⟩
 ·refine⟨Xh _,?_,λn hn=>by cases hn⟩;show decide (l=[])=true↔_;unfold zdO;rw[decide_eq_true_iff];exact⟨.inl,λh=>h.elim id (λ⟨n,hn,_⟩=>by cases hn)⟩
 ·refine Sub.trans (jP (t:=3) (s':=bl (decide (l=[]))) rfl (ztm ?_)) (qI [] rfl rfl rfl ⟨rfl,rfl,rfl,trivial⟩ trivial);rw[decide_eq_true_iff,←XM];omega
 rintro⟨i,b⟩ ⟨h1,h2,h3⟩
 dsimp only at h1 h2 h3;intro hl2;refine⟨λg=>?_,λg=>?_⟩
 ·have g:(i:Int)<l.length:=g;refine Ob.o ?_;intro x hx;refine zb.t (zag x 0 1048576)<|⟨λa1=>zd (zkn hx a1),λa1=>?_⟩;have a1:0<=x/\x<=1048576:=Xa.1 a1;have hx:l[i]?=some x:=hx
  cases b with
  |true=>
   refine Ar.o<|⟨(i+1,true),⟨by dsimp only;omega,?_,zgw hx h3 a1⟩,zC [],by dsimp only;omega⟩;exact⟨λ_=>(zcL hx).2 (.inl (h2.1 rfl)),λ_=>rfl⟩
  |false=>
   refine Ob.o ?_;intro y hy;have hy:l[i]?=some y:=hy;have e:x=y:=Xm ((show l[i]?=some x from hx).symm.trans hy);subst e;refine Ar.o<|⟨(i+1,decide (0<x)),⟨by dsimp only;omega,?_,zgw hx h3 a1⟩,Sub.trans (jP (t:=3) (s':=bl (decide (0<x))) rfl (ztm ?_)) (qI [] rfl rfl rfl ⟨rfl,rfl,rfl,trivial⟩ trivial),by dsimp only;omega⟩
   ·show decide (0<x)=true↔zdO l (i+1);rw[decide_eq_true_iff,zcL (show l[i]?=some x from hx)];exact⟨.inr,λh=>h.elim (λk=>by have:=h2.2 k;cases this) id⟩
   rw[decide_eq_true_iff]
 have g:¬(i:Int)<l.length:=g;have hd:=ztM (l:=l) (i:=i) oM h3
 cases b with
 |false=>
  exact zd (λk=>by have:=h2.2 (hd.1 k).1;cases this)
 |true=>
  intro hl3;refine⟨λa1=>?_,λa1=>zd (λk=>a1 (hd.1 k).2.2)⟩;intro hl4;exact Dv.pos ⟨oM,oM⟩<|zE ⟨λk=>hd.2 ⟨h2.1 rfl,oM,a1⟩,λk=>by have:=(hd.1 k).2.1;omega⟩
def zir(p:Pen):kC p↔((1<=p.w/\p.w<=16384)/\(p.j=1∨p.j=2∨p.j=3)/\(p.c=3∨p.c=4∨p.c=5)/\(256<=p.m/\p.m<=65536)/\(0<=p.ph/\p.ph<=1048576))/\uz p.d:=by
 unfold kC ki;exact⟨λh=>⟨⟨h.1,h.2.1,h.2.2.1,h.2.2.2.1,h.2.2.2.2.2⟩,h.2.2.2.2.1⟩,λh=>⟨h.1.1,h.1.2.1,h.1.2.2.1,h.1.2.2.2.1,h.2,h.1.2.2.2.2⟩⟩
def zcM(p:Pen):CG0 99 [.agg (jb p)] [] (pr (kC p)) []:=by
 have hp:=zir p;refine zc Tryz.func99 ?_;refine zb.t (zob p.w)<|⟨λa1=>zd (λk=>a1 (hp.1 k).1.1),λa1=>?_⟩;refine zb.t (zag p.j 1 3)<|⟨λa2=>zd (λk=>by have:=(hp.1 k).1;omega),λa2=>?_⟩;refine zb.t (zag p.c 3 5)<|⟨λa3=>zd (λk=>by have:=(hp.1 k).1;omega),λa3=>?_⟩;refine zb.t (zag p.m 256 65536)<|⟨λa4=>?_,λa4=>zd (λk=>by have:=(hp.1 k).1;omega)⟩;refine zb.t (zxW p.d)<|⟨λa5=>?_,λa5=>zd (λk=>a5 (hp.1 k).2)⟩
 exact zb.t (zag p.ph 0 1048576)<|zE ⟨λk=>hp.2 ⟨by unfold ki at a1;omega,a5⟩,λk=>by have:=(hp.1 k).1;omega⟩
def zey(p:Pen):CG0 190 [.agg (jb p)] [] (pr (kC p)) []:=by
 have hp:=zir p;refine zc Tryz.func190 ?_;refine⟨λj1=>?_,λj1=>?_⟩
 ·
  refine⟨λc1=>?_,λc1=>?_⟩
  ·
   refine zb.t (vO p.w)<|⟨λw1=>?_,λw1=>zd (λk=>w1 (hp.1 k).1.1)⟩;refine⟨λm1=>?_,λm1=>zd (λk=>by have:=(hp.1 k).1;omega)⟩;refine⟨λm2=>?_,λm2=>zd (λk=>by have:=(hp.1 k).1;omega)⟩;refine zb.t (vp p.d)<|⟨λd1=>?_,λd1=>zd (λk=>d1 (hp.1 k).2)⟩;refine⟨λp1=>?_,λp1=>zd (λk=>by have:=(hp.1 k).1;omega)⟩;exact zE ⟨λk=>hp.2 ⟨by unfold ki at w1;omega,d1⟩,λk=>by have:=(hp.1 k).1;omega⟩
  refine⟨λc2=>?_,λc2=>?_⟩
  ·
   refine zb.t (vO p.w)<|⟨λw1=>?_,λw1=>zd (λk=>w1 (hp.1 k).1.1)⟩;refine⟨λm1=>?_,λm1=>zd (λk=>by have:=(hp.1 k).1;omega)⟩;refine⟨λm2=>?_,λm2=>zd (λk=>by have:=(hp.1 k).1;omega)⟩;refine zb.t (vp p.d)<|⟨λd1=>?_,λd1=>zd (λk=>d1 (hp.1 k).2)⟩;refine⟨λp1=>?_,λp1=>zd (λk=>by have:=(hp.1 k).1;omega)⟩;exact zE ⟨λk=>hp.2 ⟨by unfold ki at w1;omega,d1⟩,λk=>by have:=(hp.1 k).1;omega⟩
  refine zb.t (vO p.w)<|⟨λw1=>?_,λw1=>zd (λk=>w1 (hp.1 k).1.1)⟩;refine⟨λc3=>?_,λc3=>zd (λk=>by have:=(hp.1 k).1;omega)⟩;refine⟨λm1=>?_,λm1=>zd (λk=>by have:=(hp.1 k).1;omega)⟩;refine⟨λm2=>?_,λm2=>zd (λk=>by have:=(hp.1 k).1;omega)⟩;refine zb.t (vp p.d)<|⟨λd1=>?_,λd1=>zd (λk=>d1 (hp.1 k).2)⟩;refine⟨λp1=>?_,λp1=>zd (λk=>by have:=(hp.1 k).1;omega)⟩
  exact zE ⟨λk=>hp.2 ⟨by unfold ki at w1;omega,d1⟩,λk=>by have:=(hp.1 k).1;omega⟩
 refine⟨λj2=>?_,λj2=>?_⟩
 ·
  refine⟨λc1=>?_,λc1=>?_⟩
  ·
   refine zb.t (vO p.w)<|⟨λw1=>?_,λw1=>zd (λk=>w1 (hp.1 k).1.1)⟩;refine⟨λm1=>?_,λm1=>zd (λk=>by have:=(hp.1 k).1;omega)⟩;refine⟨λm2=>?_,λm2=>zd (λk=>by have:=(hp.1 k).1;omega)⟩;refine zb.t (vp p.d)<|⟨λd1=>?_,λd1=>zd (λk=>d1 (hp.1 k).2)⟩;refine⟨λp1=>?_,λp1=>zd (λk=>by have:=(hp.1 k).1;omega)⟩;exact zE ⟨λk=>hp.2 ⟨by unfold ki at w1;omega,d1⟩,λk=>by have:=(hp.1 k).1;omega⟩
  refine⟨λc2=>?_,λc2=>?_⟩
  ·
   refine zb.t (vO p.w)<|⟨λw1=>?_,λw1=>zd (λk=>w1 (hp.1 k).1.1)⟩;refine⟨λm1=>?_,λm1=>zd (λk=>by have:=(hp.1 k).1;omega)⟩;refine⟨λm2=>?_,λm2=>zd (λk=>by have:=(hp.1 k).1;omega)⟩;refine zb.t (vp p.d)<|⟨λd1=>?_,λd1=>zd (λk=>d1 (hp.1 k).2)⟩;refine⟨λp1=>?_,λp1=>zd (λk=>by have:=(hp.1 k).1;omega)⟩;exact zE ⟨λk=>hp.2 ⟨by unfold ki at w1;omega,d1⟩,λk=>by have:=(hp.1 k).1;omega⟩
  refine zb.t (vO p.w)<|⟨λw1=>?_,λw1=>zd (λk=>w1 (hp.1 k).1.1)⟩;refine⟨λc3=>?_,λc3=>zd (λk=>by have:=(hp.1 k).1;omega)⟩;refine⟨λm1=>?_,λm1=>zd (λk=>by have:=(hp.1 k).1;omega)⟩;refine⟨λm2=>?_,λm2=>zd (λk=>by have:=(hp.1 k).1;omega)⟩;refine zb.t (vp p.d)<|⟨λd1=>?_,λd1=>zd (λk=>d1 (hp.1 k).2)⟩;refine⟨λp1=>?_,λp1=>zd (λk=>by have:=(hp.1 k).1;omega)⟩
  exact zE ⟨λk=>hp.2 ⟨by unfold ki at w1;omega,d1⟩,λk=>by have:=(hp.1 k).1;omega⟩
 refine⟨λc1=>?_,λc1=>?_⟩
 ·
  refine zb.t (vO p.w)<|⟨λw1=>?_,λw1=>zd (λk=>w1 (hp.1 k).1.1)⟩;refine⟨λj3=>?_,λj3=>zd (λk=>by have:=(hp.1 k).1;omega)⟩;refine⟨λm1=>?_,λm1=>zd (λk=>by have:=(hp.1 k).1;omega)⟩;refine⟨λm2=>?_,λm2=>zd (λk=>by have:=(hp.1 k).1;omega)⟩;refine zb.t (vp p.d)<|⟨λd1=>?_,λd1=>zd (λk=>d1 (hp.1 k).2)⟩;refine⟨λp1=>?_,λp1=>zd (λk=>by have:=(hp.1 k).1;omega)⟩
  exact zE ⟨λk=>hp.2 ⟨by unfold ki at w1;omega,d1⟩,λk=>by have:=(hp.1 k).1;omega⟩
 refine⟨λc2=>?_,λc2=>?_⟩
 ·
  refine zb.t (vO p.w)<|⟨λw1=>?_,λw1=>zd (λk=>w1 (hp.1 k).1.1)⟩;refine⟨λj3=>?_,λj3=>zd (λk=>by have:=(hp.1 k).1;omega)⟩;refine⟨λm1=>?_,λm1=>zd (λk=>by have:=(hp.1 k).1;omega)⟩;refine⟨λm2=>?_,λm2=>zd (λk=>by have:=(hp.1 k).1;omega)⟩;refine zb.t (vp p.d)<|⟨λd1=>?_,λd1=>zd (λk=>d1 (hp.1 k).2)⟩;refine⟨λp1=>?_,λp1=>zd (λk=>by have:=(hp.1 k).1;omega)⟩
  exact zE ⟨λk=>hp.2 ⟨by unfold ki at w1;omega,d1⟩,λk=>by have:=(hp.1 k).1;omega⟩
 refine zb.t (vO p.w)<|⟨λw1=>?_,λw1=>zd (λk=>w1 (hp.1 k).1.1)⟩;refine⟨λj3=>?_,λj3=>zd (λk=>by have:=(hp.1 k).1;omega)⟩;refine⟨λc3=>?_,λc3=>zd (λk=>by have:=(hp.1 k).1;omega)⟩;refine⟨λm1=>?_,λm1=>zd (λk=>by have:=(hp.1 k).1;omega)⟩;refine⟨λm2=>?_,λm2=>zd (λk=>by have:=(hp.1 k).1;omega)⟩;refine zb.t (vp p.d)<|⟨λd1=>?_,λd1=>zd (λk=>d1 (hp.1 k).2)⟩
 refine⟨λp1=>?_,λp1=>zd (λk=>by have:=(hp.1 k).1;omega)⟩;exact zE ⟨λk=>hp.2 ⟨by unfold ki at w1;omega,d1⟩,λk=>by have:=(hp.1 k).1;omega⟩
end Go.Gs
