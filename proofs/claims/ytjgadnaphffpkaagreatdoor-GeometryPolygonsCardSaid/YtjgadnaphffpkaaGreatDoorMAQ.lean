/- Segments that may be, the one text. -/
import Derived.Test.YtjgadnaphffpkaaGreatDoorMA
import Derived.Test.YtjgadnaphffpkaaGreatDoorMAP
set_option maxRecDepth 100000
set_option maxHeartbeats 8000000
set_option linter.all false
namespace Go.Gs
open Go.Proofs
structure Sg where
 v:Int
 a:Pt
 b:Pt
 c:Pt
 deriving DecidableEq
def sgE(s:Sg):List SV:=[i64 s.v,i64 s.a.x,i64 s.a.y,i64 s.b.x,i64 s.b.y,i64 s.c.x,i64 s.c.y]
def nm(v:Int):Int:=if v=1 then 1 else if v=2 then 1 else if v=3 then 2 else if v=4 then 3 else if v=5 then 0 else -1
theorem c_named(v:Int):CG0 228 [i64 v] [] (i64 (nm v)) []:=by
 refine zc Tryz.func228 ?_;refine⟨λh4=>?_,λh4=>?_⟩
 ·exact Ar.fit dC<|Ar.fit dC<|Ar.fit dC<|zi (by rw[h4];rfl)
 refine⟨λh3=>?_,λh3=>?_⟩
 ·exact Ar.fit dC<|Ar.fit dC<|zi (by rw[h3];rfl)
 refine⟨λh1=>?_,λh1=>?_⟩
 ·refine⟨λ_=>?_,λh=>absurd h1 h⟩;exact Ar.fit dC<|zi (by rw[h1];rfl)
 refine⟨λh2=>?_,λh2=>?_⟩
 ·exact Ar.fit dC<|zi (by rw[h2];rfl)
 refine⟨λh5=>?_,λh5=>?_⟩
 ·exact zi (by rw[h5];rfl)
 ·exact zi (by unfold nm;rw[if_neg h1,if_neg h2,if_neg h3,if_neg h4,if_neg h5])
def pk(n i:Int)(p:Pt):Prop:=zr p/\(n<=i->p=zp)
instance (n i:Int) (p:Pt):Decidable (pk n i p):=inferInstanceAs (Decidable (_/\_))
def ze6(s:Sg):Prop:=pk (nm s.v) 0 s.a/\pk (nm s.v) 1 s.b/\pk (nm s.v) 2 s.c
instance (s:Sg):Decidable (ze6 s):=inferInstanceAs (Decidable (_/\_))
theorem zo0{s:Sg}:ze6 s↔∀(j:Nat) x,[s.a,s.b,s.c][j]? =some x->pk (nm s.v) j x:=by
 constructor
 ·rintro⟨h1,h2,h3⟩ j x hx
  match j,hx with
  | 0,hx=>cases hx;exact h1
  | 1,hx=>cases hx;exact h2
  | 2,hx=>cases hx;exact h3
 ·exact λh=>⟨h 0 _ rfl,h 1 _ rfl,h 2 _ rfl⟩
theorem zq7(s:Sg):CG0 285 [.agg (sgE s)] [] (pr (ze6 s)) []:=by
 refine zc Tryz.func285 ?_;refine⟨Pt,ptE,[s.a,s.b,s.c],rfl,Ob.o0 ?_⟩;intro _
 refine⟨Nat,λi=>⟨[(13,i64 i),(12,i64 3),(11,.own 1),(1,.loc 0 0)],[(1,.arr 35 ptE 2 [s.a,s.b,s.c]),(0,.box 124 (sgE s))],2,34,0⟩,
  λi=>i<=3/\∀(j:Nat) x,j < i->[s.a,s.b,s.c][j]? =some x->pk (nm s.v) j x,λi=>3 - i,0,?_,?_,?_⟩
 ·exact⟨oM,λj x hj=>by omega⟩
 ·exact zf [0,1]
 rintro i ⟨h1,h2⟩
 refine⟨λh3=>?_,λh3=>?_⟩
 ·have h3:i < 3:=by omega
  refine Ob.mk ⟨oM,by show(i:Int) < 3;omega⟩<|Ob.mk ⟨oM,by show(i:Int) < 3;omega⟩ ?_;intro x hx;have hx:[s.a,s.b,s.c][i]? =some x:=hx;refine zb.t (qg x) ?_;have out:¬pk (nm s.v) i x->¬ze6 s:=λh hf=>h (zo0.1 hf i x hx)
  refine⟨λh4=>zd (out λh=>h4 h.1),λh4=>?_⟩;have h4:=Xa.1 h4;refine zb.t (c_named s.v) ?_
  have next:pk (nm s.v) i x->(i+1<=3/\∀(j:Nat) x,j < i+1->[s.a,s.b,s.c][j]? =some x->pk (nm s.v) j x):=λh=>⟨oM,λj y hj hy=>by
   by_cases e:j=i
   ·subst e;rw[hx]at hy;cases hy;exact h
   ·exact h2 j y oM hy⟩
  refine⟨λh5=>?_,λh5=>?_⟩
  ·refine⟨λh6=>zd (out λh=>h6 (k8.2 (h.2 h5))),λh6=>?_⟩;have h6:x=zp:=k8.1 (Xa.1 h6);exact Ar.o<|⟨i+1,next ⟨h4,λ_=>h6⟩,zf [0,1],by dsimp only;omega⟩
  ·exact Ar.o<|⟨i+1,next ⟨h4,λh=>absurd h h5⟩,zf [0,1],by dsimp only;omega⟩
 ·refine zT (zo0.2 λj x hx=>h2 j x ?_ hx);have:=(Xc.1 hx).1;have h3:¬((i:Int) < 3):=h3;simp at this;omega
def zbE(last v:Int):Prop:=v=1∨(last≠5/\(v≠5∨last≠1))
instance (last v:Int):Decidable (zbE last v):=inferInstanceAs (Decidable (_∨_))
def jQ(last:Int)(s:Sg):Int:=if nm s.v < 0 then 2 else if ¬zbE last s.v then 10 else if ¬ze6 s then 6 else 0
def chk(last:Int)(i:Nat):List Sg->Int×Int
 | []=>(0,0)
 | s::r=>if jQ last s≠0 then(jQ last s,i) else chk s.v (i+1) r
def zaa(l:List Sg):Int×Int:=if 256 < l.length then(5,256) else chk 5 0 l
def jn(l:List Sg):Prop:=(zaa l).1=0
instance (l:List Sg):Decidable (jn l):=inferInstanceAs (Decidable (_=_))
variable{α:Type}{i:Nat}
theorem zf3{l:List α}{x:α}(h:l[i]? =some x):l.drop i=x::l.drop (i+1):=by
 obtain⟨hl,he⟩:=Xc.1 h;rw[KM hl,he]
def twoI(c:Int×Int):SV:=.tup [i64 c.1,i64 c.2]
theorem zyE(l:List Sg):CG0 227 [.sl sgE l] [] (twoI (zaa l)) []:=by
 refine zc Tryz.func227 ?_;have fin:∀{a b:Int},zaa l=(a,b)->LE (.tup [i64 a,i64 b]) (twoI (zaa l)):=λh=>by rw[h];exact .refl
 intro hl;refine⟨λh=>fin (by unfold zaa;rw[if_pos oM]),λh=>?_⟩;have hc:zaa l=chk 5 0 l:=by unfold zaa;rw[if_neg oM]
 intro hl1;refine⟨Nat×Int,λq=>⟨[(13,i64 q.1),(12,i64 l.length),(11,.sl sgE l),(4,i64 q.2)],[],0,52,0⟩,λq=>q.1<=l.length/\chk 5 0 l=chk q.2 q.1 (l.drop q.1),λq=>l.length - q.1,(0,5),?_,?_,?_⟩
 ·exact⟨Xe _,rfl⟩
 ·exact zE []
 rintro⟨i,last⟩ ⟨h1,h2⟩
 have h1:i<=l.length:=h1;have h2:chk 5 0 l=chk last i (l.drop i):=h2;refine⟨λh3=>?_,λh3=>?_⟩
 ·have h3:(i:Int) < l.length:=h3;refine Ob.mk ⟨by dsimp only;omega,h3⟩ ?_;intro x hx;have hx:l[i]? =some x:=hx;rw[zf3 hx]at h2
  have bad:∀{e:Int},jQ last x=e->e≠0->zaa l=(e,(i:Int)):=λh hn=>by
   rw[hc,h2];unfold chk;rw[if_pos (by rw[h];exact hn),h]
  have good:jQ last x=0->(i+1,x.v).1<=l.length/\chk 5 0 l=chk (i+1,x.v).2 (i+1,x.v).1 (l.drop (i+1,x.v).1):=λh=>⟨by show i+1<=_;omega,by
   show _=chk x.v (i+1) _;rw[h2];conv=>lhs;unfold chk
   rw[if_neg (λhn=>hn h)]⟩
  refine⟨λj1=>?_,λj1=>?_⟩
  ·have st:zbE last x.v:=.inl j1;refine zb.t (c_named x.v)<|⟨λk1=>fin (bad (by unfold jQ;rw[if_pos k1]) dC),λk1=>?_⟩;refine zb.t (zq7 x)<|⟨λk2=>fin (bad (by unfold jQ;rw[if_neg k1,if_neg (λh=>h st),if_pos k2]) dC),λk2=>?_⟩;exact Ar.fit (by dsimp only;omega)<|⟨(i+1,x.v),good (by unfold jQ;rw[if_neg k1,if_neg (λh=>h st),if_neg k2]),zE [],by show l.length - (i+1) < l.length - i;omega⟩
  refine⟨λj2=>?_,λj2=>?_⟩
  ·refine⟨λj3=>?_,λj3=>?_⟩
   ·have st:zbE last x.v:=.inr ⟨j2,.inl j3⟩;refine zb.t (c_named x.v)<|⟨λk1=>fin (bad (by unfold jQ;rw[if_pos k1]) dC),λk1=>?_⟩;refine zb.t (zq7 x)<|⟨λk2=>fin (bad (by unfold jQ;rw[if_neg k1,if_neg (λh=>h st),if_pos k2]) dC),λk2=>?_⟩;exact Ar.fit (by dsimp only;omega)<|⟨(i+1,x.v),good (by unfold jQ;rw[if_neg k1,if_neg (λh=>h st),if_neg k2]),zE [],by show l.length - (i+1) < l.length - i;omega⟩
   ·refine zb.t (c_named x.v)<|⟨λk1=>fin (bad (by unfold jQ;rw[if_pos k1]) dC),λk1=>?_⟩;have j3:=Xa.1 j3
    have ns:¬last≠1->¬zbE last x.v:=λk0 st=>by
     rcases st with st | ⟨_,st | st⟩
     ·exact j1 st
     ·exact st j3
     ·exact k0 st
    refine⟨λk0=>fin (bad (by unfold jQ;rw[if_neg k1,if_pos (ns k0)]) dC),λk0=>?_⟩;have st:zbE last x.v:=.inr ⟨j2,.inr (Xa.1 k0)⟩;refine zb.t (zq7 x)<|⟨λk2=>fin (bad (by unfold jQ;rw[if_neg k1,if_neg (λh=>h st),if_pos k2]) dC),λk2=>?_⟩;exact Ar.fit (by dsimp only;omega)<|⟨(i+1,x.v),good (by unfold jQ;rw[if_neg k1,if_neg (λh=>h st),if_neg k2]),zE [],by show l.length - (i+1) < l.length - i;omega⟩
  ·refine zb.t (c_named x.v)<|⟨λk1=>fin (bad (by unfold jQ;rw[if_pos k1]) dC),λk1=>?_⟩
   have ns:¬zbE last x.v:=λst=>by
    rcases st with st | ⟨st,_⟩
    ·exact j1 st
    ·exact j2 st
   exact fin (bad (by unfold jQ;rw[if_neg k1,if_pos ns]) dC)
 ·refine fin (hc.trans (h2.trans ?_));rw[Kx (by have h3:¬(i:Int) < l.length:=h3;omega)];rfl
theorem zit(l:List Sg):CG0 167 [.sl sgE l] [] (pr (jn l)) []:=by
 refine zc Tryz.func167 ?_;exact zb.t (zyE l)<|zF K4
theorem zo1(v:Int):CG0 116 [i64 v] [] (i64 (nm v)) []:=by
 refine zc Tryz.func116 ?_;refine⟨λh1=>?_,λh1=>?_⟩
 ·refine⟨λ_=>?_,λh=>absurd h1 h⟩;exact zi (by rw[h1];rfl)
 refine⟨λh2=>zi (by rw[h2];rfl),λh2=>?_⟩;refine⟨λh3=>zi (by rw[h3];rfl),λh3=>?_⟩;refine⟨λh4=>zi (by rw[h4];rfl),λh4=>?_⟩;refine⟨λh5=>zi (by rw[h5];rfl),λh5=>?_⟩;exact zi (by unfold nm;rw[if_neg h1,if_neg h2,if_neg h3,if_neg h4,if_neg h5])
theorem zso(s:Sg):CG0 115 [.agg (sgE s)] [] (.agg (ptE s.a++ptE s.b++ptE s.c)) []:=by
 refine zc Tryz.func115 ?_;exact .refl
def zdz(l:List Sg)(i:Nat):Int:=if i=0 then 5 else(l[i - 1]?.map Sg.v).getD 0
theorem ztR(l:List Sg)(i:Nat)(x:Sg)(hx:l[i]? =some x)(hl:l.length<=256):CG0 299 [.sl sgE l,i64 i] [] (pr (zbE (zdz l i) x.v)) []:=by
 refine zc Tryz.func299 ?_;have hi:i < l.length:=(Xc.1 hx).1;refine⟨λh1=>?_,λh1=>?_⟩
 ·have h0:i=0:=by omega
  subst h0;refine Ob.o4 ?_;intro y hy;have hy:l[0]? =some y:=hy;rw[hx]at hy;cases hy
  refine zF ⟨λh=>.inl h,λh=>?_⟩
  rcases h with h | ⟨h,_⟩
  ·exact h
  ·exact absurd rfl h
 refine Ar.o<|Ob.o4 ?_;intro y hy;have hy:l[i - 1]? =some y:=by rw[← hy];congr 1;omega
 have hlast:zdz l i=y.v:=by unfold zdz;rw[if_neg oM,hy];rfl
 rw[hlast];refine⟨λh2=>?_,λh2=>?_⟩
 ·refine Ob.o4 ?_;intro z hz;have hz:l[i]? =some z:=hz;rw[hx]at hz;cases hz
  refine zF ⟨λh=>.inl h,λh=>?_⟩
  rcases h with h | ⟨h,_⟩
  ·exact h
  ·exact absurd h2 h
 ·refine Ob.o4 ?_;intro z hz;have hz:l[i]? =some z:=hz;rw[hx]at hz;cases hz
  refine⟨λh3=>?_,λh3=>?_⟩
  ·exact zT (.inr ⟨h2,.inl h3⟩)
  ·refine Ar.o<|Ob.o4 ?_;intro u hu;have hu:l[i - 1]? =some u:=by rw[← hu];congr 1;omega
   rw[hy]at hu;cases hu
   refine zF ⟨λh=>.inr ⟨h2,.inr h⟩,λh=>?_⟩;have h3:x.v=5:=Xa.1 h3
   rcases h with h | ⟨_,h | h⟩
   ·omega
   ·exact absurd h3 h
   ·exact h
theorem zyF(l:List Sg)(i:Nat)(x:Sg)(hx:l[i]? =some x)(hl:l.length<=256):CG0 236 [.sl sgE l,i64 i] [] (i64 (jQ (zdz l i) x)) []:=by
 refine zc Tryz.func236 ?_;have hi:i < l.length:=(Xc.1 hx).1;refine Ob.o4 ?_;intro y hy;have hy:l[i]? =some y:=hy;rw[hx]at hy;cases hy
 refine zb.t (zo1 x.v)<|⟨λh1=>zi (by unfold jQ;rw[if_pos h1]),λh1=>?_⟩;refine zb.t (ztR l i x hx hl)<|⟨λh2=>zi (by unfold jQ;rw[if_neg h1,if_pos h2]),λh2=>?_⟩;refine Ob.o4 ?_;intro y hy;have hy:l[i]? =some y:=hy;rw[hx]at hy;cases hy
 refine zb.t (zso x) ?_;have bad:¬ze6 x->LE (i64 6) (i64 (jQ (zdz l i) x)):=λh=>zi (by unfold jQ;rw[if_neg h1,if_neg h2,if_pos h])
 have hn:0<=nm x.v:=oM;have zOK:zr zp:=dC
 refine⟨Nat,λk=>⟨[(7,i64 k),(5,i64 (nm x.v)),(6,.loc 0 0)],[(0,.box 155 (ptE x.a++ptE x.b++ptE x.c))],1,51,0⟩,
  λk=>k<=3/\(1<=k->pk (nm x.v) 0 x.a)/\(2<=k->pk (nm x.v) 1 x.b)/\(3<=k->pk (nm x.v) 2 x.c),λk=>3 - k,0,?_,?_,?_⟩
 ·exact⟨oM,λh=>by omega,λh=>by omega,λh=>by omega⟩
 ·exact zf [0]
 rintro k ⟨k1,k2,k3,k4⟩
 refine⟨λg1=>?_,λg1=>?_⟩
 ·have g1:(k:Int) < 3:=g1;have hk:k=0∨k=1∨k=2:=oM
  rcases hk with rfl | rfl | rfl
  ·refine⟨λa1=>?_,λa1=>?_⟩
   ·refine zb.t (kH x.a)<|⟨λa2=>bad (λh=>a2 h.1.1),λa2=>?_⟩;have a2:zr x.a:=Xa.1 a2;refine⟨λa3=>absurd a3 oM,λa3=>?_⟩;exact Ar.o<|⟨1,⟨oM,λ_=>⟨a2,λh=>absurd h oM⟩,λh=>by omega,λh=>by omega⟩,zf [0],by dsimp only;omega⟩
   ·refine⟨λa3=>?_,λa3=>absurd a3 oM⟩;refine⟨λa4=>bad (λh=>a4 (k8.2 (h.1.2 oM))),λa4=>?_⟩;have a4:x.a=zp:=k8.1 (Xa.1 a4);exact Ar.o<|⟨1,⟨oM,λ_=>⟨a4 ▸ zOK,λ_=>a4⟩,λh=>by omega,λh=>by omega⟩,zf [0],by dsimp only;omega⟩
  ·refine⟨λa1=>?_,λa1=>?_⟩
   ·refine zb.t (kH x.b)<|⟨λa2=>bad (λh=>a2 h.2.1.1),λa2=>?_⟩;have a2:zr x.b:=Xa.1 a2;refine⟨λa3=>absurd a3 oM,λa3=>?_⟩;exact Ar.o<|⟨2,⟨oM,λ_=>k2 oM,λ_=>⟨a2,λh=>absurd h oM⟩,λh=>by omega⟩,zf [0],by dsimp only;omega⟩
   ·refine⟨λa3=>?_,λa3=>absurd a3 oM⟩;refine⟨λa4=>bad (λh=>a4 (k8.2 (h.2.1.2 oM))),λa4=>?_⟩;have a4:x.b=zp:=k8.1 (Xa.1 a4);exact Ar.o<|⟨2,⟨oM,λ_=>k2 oM,λ_=>⟨a4 ▸ zOK,λ_=>a4⟩,λh=>by omega⟩,zf [0],by dsimp only;omega⟩
  ·refine⟨λa1=>?_,λa1=>?_⟩
   ·refine zb.t (kH x.c)<|⟨λa2=>bad (λh=>a2 h.2.2.1),λa2=>?_⟩;have a2:zr x.c:=Xa.1 a2;refine⟨λa3=>absurd a3 oM,λa3=>?_⟩;exact Ar.o<|⟨3,⟨oM,λ_=>k2 oM,λ_=>k3 oM,λ_=>⟨a2,λh=>absurd h oM⟩⟩,zf [0],by dsimp only;omega⟩
   ·refine⟨λa3=>?_,λa3=>absurd a3 oM⟩;refine⟨λa4=>bad (λh=>a4 (k8.2 (h.2.2.2 oM))),λa4=>?_⟩;have a4:x.c=zp:=k8.1 (Xa.1 a4);exact Ar.o<|⟨3,⟨oM,λ_=>k2 oM,λ_=>k3 oM,λ_=>⟨a4 ▸ zOK,λ_=>a4⟩⟩,zf [0],by dsimp only;omega⟩
 ·have h3:k=3:=by have g1:¬(k:Int) < 3:=g1;omega
  subst h3;exact zi (by unfold jQ;rw[if_neg h1,if_neg h2,if_neg (λh=>h ⟨k2 oM,k3 oM,k4 oM⟩)])
variable{l:List Sg}{x:Sg}
theorem zo2(h:l[i]? =some x):zdz l (i+1)=x.v:=by
 unfold zdz;rw[if_neg oM,Qd,h];rfl
theorem zwf(l:List Sg):CG0 177 [.sl sgE l] [] (twoI (zaa l)) []:=by
 refine zc Tryz.func177 ?_;have fin:∀{a b:Int},zaa l=(a,b)->LE (.tup [i64 a,i64 b]) (twoI (zaa l)):=λh=>by rw[h];exact .refl
 intro hl;refine⟨λh=>fin (by unfold zaa;rw[if_pos oM]),λh=>?_⟩;have hc:zaa l=chk 5 0 l:=by unfold zaa;rw[if_neg oM]
 refine⟨Nat,λi=>⟨[(4,i64 i),(0,.sl sgE l)],[],0,22,0⟩,λi=>i<=l.length/\chk 5 0 l=chk (zdz l i) i (l.drop i),λi=>l.length - i,0,?_,?_,?_⟩
 ·exact⟨Xe _,rfl⟩
 ·exact zE []
 rintro i ⟨h1,h2⟩
 intro hl1;refine⟨λh3=>?_,λh3=>?_⟩
 ·have hx:=Xb (show i < l.length by omega);generalize l[i]'oM=x at hx;rw[zf3 hx]at h2;refine zb.t (zyF l i x hx oM)<|⟨λh4=>fin ?_,λh4=>?_⟩
  ·rw[hc,h2];unfold chk;rw[if_pos h4]
  ·refine Ar.o<|⟨i+1,⟨oM,?_⟩,zE [],by dsimp only;omega⟩;rw[h2,zo2 hx];conv=>lhs;unfold chk
   rw[if_neg h4]
 ·refine fin (hc.trans (h2.trans ?_));rw[Kx oM];rfl
theorem zf4(l:List Sg):CG0 114 [.sl sgE l] [] (pr (jn l)) []:=by
 refine zc Tryz.func114 ?_;exact zb.t (zwf l)<|zF K4
theorem zf5(v:Int): -1<=nm v/\nm v<=3:=by unfold nm;split <;> (try split) <;> (try split) <;> (try split) <;> (try split) <;> omega
def kN(s:Sg):List Pt:=[s.a,s.b,s.c].take (nm s.v).toNat
theorem zo3(s:Sg):CG0 168 [.agg (sgE s)] [] (.sl ptE (kN s)) []:=by
 refine zc Tryz.func168 ?_;refine⟨Pt,ptE,[s.a,s.b,s.c],rfl,Ob.o0 ?_⟩;refine zb.t (c_named s.v) ?_;have hr:=zf5 s.v;refine Sl.see (Ob.mk ⟨dC,by show 0<=max (nm s.v) 0;omega,by show max (nm s.v) 0<=3;omega,Qb _⟩ ?_);refine z9 ?_;show([s.a,s.b,s.c].drop 0).take (max (nm s.v) 0 - 0).toNat=_;unfold kN;rw[KR];congr 1;omega
def jh(l:List Sg):List Pt:=l.flatMap kN
def mnP(p q:Pt):Pt:=⟨min p.x q.x,min p.y q.y⟩
def mxP(p q:Pt):Pt:=⟨max p.x q.x,max p.y q.y⟩
def bnd(f:Pt->Pt->Pt)(q:List Pt):Pt:=q.foldl f (q.headD zp)
theorem zhT(h:l[i]? =some x):jh (l.take (i+1))=jh (l.take i)++kN x:=by
 unfold jh;rw[Xm,h];simp[K8]
theorem zg9(h:jn l):l.length<=256:=by
 unfold jn zaa at h
 by_cases e:256 < l.length
 ·rw[if_pos e]at h;cases h
 ·omega
theorem zA3{s:Sg}{k:Nat}(h:(k:Int) < nm s.v):(kN s)[k]? =[s.a,s.b,s.c][k]? :=by
 unfold kN;rw[Xv,if_pos oM]
theorem zA4{r m a:Nat}(h:r=2 ^ (m+1)*a)(hr:r < 4294967296)(hm:m<=31):zau .or .u64 (r:Int) (1*2 ^ (m:Int).toNat)=((r+2 ^ m:Nat):Int):=by
 have hp:2 ^ m<=2 ^ 31:=XH dC hm;have e:(1*2 ^ (m:Int).toNat:Int)=((2 ^ m:Nat):Int):=by rw[JI];simp
 rw[e,zjt oM oM];have:=KX (i:=m+1) (b:=2 ^ m) (Nat.pow_lt_pow_right dC oM) a;rw[h,← this]
theorem zwg(n:Int)(h0:0<=n/\n<=18446744073709551615):CG0 305 [u64 n] [] (u64 (isq n)) []:=by
 refine zc Tryz.func305 ?_
 refine⟨Int×Nat,λz=>⟨[(0,u64 n),(3,u64 (z.2:Int)),(4,i64 z.1)],[],0,21,0⟩,λz=> -1<=z.1/\z.1<=31/\(∃a,z.2=2 ^ (z.1+1).toNat*a)/\z.2+2 ^ (z.1+1).toNat<=4294967296/\sqL n (z.1+1).toNat z.2=isq n,
  λz=>(z.1+1).toNat,(31,0),⟨dC,dC,⟨0,rfl⟩,dC,rfl⟩,?_,?_⟩
 ·exact zE []
 rintro⟨j,r⟩ ⟨h1,h2,⟨a,h3⟩,h4,h5⟩
 dsimp only at h1 h2 h3 h4 h5;refine⟨λg=>?_,λg=>?_⟩
 ·have g:0<=j:=g;obtain⟨m,rfl⟩:∃m:Nat,j=m:=⟨j.toNat,oM⟩;have e:((m:Int)+1).toNat=m+1:=oM;rw[e]at h3 h4 h5;have hm:m<=31:=oM;have hp:2 ^ m<=2147483648:=XH (n:=2) dC hm;have hp1:0 < 2 ^ m:=KQ dC;have hp2:2 ^ (m+1)=2*2 ^ m:=by rw[XR];omega
  have ee:(1*2 ^ (m:Int).toNat:Int)=((2 ^ m:Nat):Int):=by rw[JI];simp
  have hq:(r+2 ^ m)*(r+2 ^ m)<=18446744065119617025:=Xz (Qe (show r+2 ^ m<=4294967295 by omega) (show r+2 ^ m<=4294967295 by omega)) dC
  have hs:sqL n (m+1) r=sqL n m (if ((r+2 ^ m:Nat):Int)*((r+2 ^ m:Nat):Int)<=n then((r+2 ^ m:Nat):Int) else r):=by
   have:((r+2 ^ m:Nat):Int)=(r:Int)+2 ^ m:=by simp
   rw[this];rfl
  rw[hs]at h5;have em:((m:Int) - 1+1).toNat=m:=oM;refine Ob.mk (by show(0:Int)<=m/\(m:Int) < 64;omega)<|Ar.fit (by rw[ee];omega)<|⟨((r+2 ^ m:Nat):Int),(zA4 h3 oM hm).symm,?_⟩;have hq':((r+2 ^ m:Nat):Int)*((r+2 ^ m:Nat):Int)<=18446744065119617025:=by have h:=Ju.mpr hq;rw[X0]at h;exact h
  have hq0:0<=((r+2 ^ m:Nat):Int)*((r+2 ^ m:Nat):Int):=XG oM oM;refine Ar.fit ⟨hq0,oM⟩<|⟨λk=>?_,λk=>?_⟩
  ·refine Ar.o ?_;rw[if_pos k]at h5;refine⟨((m:Int) - 1,r+2 ^ m),⟨by dsimp only;omega,by dsimp only;omega,⟨2*a+1,?_⟩,?_,?_⟩,zE [],by dsimp only;omega⟩
   ·dsimp only;rw[em,h3,hp2];grind
   ·dsimp only;rw[em];omega
   ·dsimp only;rw[em];exact h5
  ·refine Ar.o ?_;rw[if_neg k]at h5;refine⟨((m:Int) - 1,r),⟨by dsimp only;omega,by dsimp only;omega,⟨2*a,?_⟩,?_,?_⟩,zE [],by dsimp only;omega⟩
   ·dsimp only;rw[em,h3,hp2];grind
   ·dsimp only;rw[em];omega
   ·dsimp only;rw[em];exact h5
 ·have g:¬0<=j:=g;have e:(j+1).toNat=0:=oM;rw[e]at h5;exact zi h5
theorem zsp(n:Int)(h0:0<=n/\n<=18446744073709551615):CG0 313 [u64 n] [] (u64 (isq n)) []:=by
 refine zc Tryz.func313 ?_
 refine⟨Int×Nat,λz=>⟨[(0,u64 n),(3,u64 (z.2:Int)),(4,i64 z.1)],[],0,22,0⟩,λz=> -1<=z.1/\z.1<=31/\z.2+2 ^ (z.1+1).toNat<=4294967296/\sqL n (z.1+1).toNat z.2=isq n,
  λz=>(z.1+1).toNat,(31,0),⟨dC,dC,dC,rfl⟩,?_,?_⟩
 ·exact zE []
 rintro⟨j,r⟩ ⟨h1,h2,h4,h5⟩
 dsimp only at h1 h2 h4 h5;refine⟨λg=>?_,λg=>?_⟩
 ·have g:0<=j:=g;obtain⟨m,rfl⟩:∃m:Nat,j=m:=⟨j.toNat,oM⟩;have e:((m:Int)+1).toNat=m+1:=oM;rw[e]at h4 h5;have hm:m<=31:=oM;have hp:2 ^ m<=2147483648:=XH (n:=2) dC hm;have hp1:0 < 2 ^ m:=KQ dC;have hp2:2 ^ (m+1)=2*2 ^ m:=by rw[XR];omega
  have ee:(1*2 ^ (m:Int).toNat:Int)=((2 ^ m:Nat):Int):=by rw[JI];simp
  have hq:(r+2 ^ m)*(r+2 ^ m)<=18446744065119617025:=Xz (Qe (show r+2 ^ m<=4294967295 by omega) (show r+2 ^ m<=4294967295 by omega)) dC
  have hs:sqL n (m+1) r=sqL n m (if ((r+2 ^ m:Nat):Int)*((r+2 ^ m:Nat):Int)<=n then((r+2 ^ m:Nat):Int) else r):=by
   have:((r+2 ^ m:Nat):Int)=(r:Int)+2 ^ m:=by simp
   rw[this];rfl
  rw[hs]at h5;have em:((m:Int) - 1+1).toNat=m:=oM;refine Ar.o<|Ob.mk (by show(0:Int)<=m/\(m:Int) < 64;omega)<|Ar.fit (by rw[ee];omega) ?_;change Ar _ _ _;rw[ee,show(r:Int)+((2 ^ m:Nat):Int)=((r+2 ^ m:Nat):Int) by omega];refine Ar.o ?_;have hq':((r+2 ^ m:Nat):Int)*((r+2 ^ m:Nat):Int)<=18446744065119617025:=by have h:=Ju.mpr hq;rw[X0]at h;exact h
  have hq0:0<=((r+2 ^ m:Nat):Int)*((r+2 ^ m:Nat):Int):=XG oM oM;refine Ar.fit ⟨hq0,oM⟩<|⟨λk=>?_,λk=>?_⟩
  ·refine Ar.o ?_;rw[if_pos k]at h5;refine⟨((m:Int) - 1,r+2 ^ m),⟨by dsimp only;omega,by dsimp only;omega,?_,?_⟩,zE [],by dsimp only;omega⟩
   ·dsimp only;rw[em];omega
   ·dsimp only;rw[em];exact h5
  ·refine Ar.o ?_;rw[if_neg k]at h5;refine⟨((m:Int) - 1,r),⟨by dsimp only;omega,by dsimp only;omega,?_,?_⟩,zE [],by dsimp only;omega⟩
   ·dsimp only;rw[em];omega
   ·dsimp only;rw[em];exact h5
 ·have g:¬0<=j:=g;have e:(j+1).toNat=0:=oM;rw[e]at h5;exact zi h5
theorem zcw(p:Pt):CG0 70 [.agg (ptE p)] [] (.agg (ptE (jw p))) []:=zwd p
theorem zjI(n lo hi:Int):CG0 77 [i64 n,i64 lo,i64 hi] [] (i64 (qf n lo hi)) []:=by
 refine zc Tryz.func77 ?_;refine⟨λh=>?_,λh=>?_⟩
 ·exact zi (by simp[qf,h])
 refine⟨λh2=>?_,λh2=>?_⟩
 ·exact zi (by simp[qf,h,h2])
 ·exact zi (by simp[qf,h,h2])
theorem zcx(p:Pt):CG0 75 [.agg (ptE p)] [] (.agg (ptE (jw p))) []:=by
 refine zc Tryz.func75 ?_;exact Dr.k<|zb.t (zjI p.x _ _)<|zb.t (zjI p.y _ _)<|.refl
theorem p_sub(p q:Pt):CG0 244 [.agg (ptE p),.agg (ptE q)] [] (.agg (ptE (zcv p q))) []:=by
 have h1:=qo p.x;have h2:=qo p.y;have h3:=qo q.x;have h4:=qo q.y;refine zc Tryz.func244 ?_;refine Dr.k<|zb.t (zcw p)<|zb.t (zcw q) ?_;unfold jw;exact Ar.fit (by dsimp only;omega)<|Ar.fit (by dsimp only;omega)<|.refl
theorem zsq(p q:Pt):CG0 76 [.agg (ptE p),.agg (ptE q)] [] (.agg (ptE (zcv p q))) []:=by
 have h1:=qo p.x;have h2:=qo p.y;have h3:=qo q.x;have h4:=qo q.y;refine zc Tryz.func76 ?_;refine Dr.k<|zb.t (zcx p)<|zb.t (zcx q) ?_;unfold jw;exact Ar.fit (by dsimp only;omega)<|Ar.fit (by dsimp only;omega)<|.refl
theorem zwh(p q:Pt):CG0 373 [.agg (ptE p),.agg (ptE q)] [] (.agg (ptE (addP p q))) []:=by
 have h1:=qo p.x;have h2:=qo p.y;have h3:=qo q.x;have h4:=qo q.y;refine zc Tryz.func373 ?_;refine Dr.k<|zb.t (zcx p)<|zb.t (zcx q) ?_;unfold jw;exact Ar.fit (by dsimp only;omega)<|Ar.fit (by dsimp only;omega)<|.refl
theorem uD(p:Pt):CG0 405 [.agg (ptE p)] [] (.agg (ptE (perpP p))) []:=by
 have h2:=qo p.y;refine zc Tryz.func405 ?_;refine zb.t (zcw p) ?_;unfold jw;exact Ar.fit (by dsimp only;omega)<|.refl
theorem zwi(p q:Pt)(hp:zr p)(hq:zr q):CG0 419 [.agg (ptE p),.agg (ptE q)] [] (i64 (wdg p q)) []:=by
 have h:=zbW hp hq;unfold wdg at h;refine zc Tryz.func419 ?_;(iterate 3 refine Ar.o ?_);exact .refl
theorem zyG(p q:Pt)(hp:zr p)(hq:zr q):CG0 395 [.agg (ptE p),.agg (ptE q)] [] (i64 (wdg p q)) []:=by
 have h:=zbW hp hq;unfold wdg at h;refine zc Tryz.func395 ?_;(iterate 3 refine Ar.o ?_);exact .refl
theorem zA5(p q:Pt)(hp:zr p)(hq:zr q):CG0 354 [.agg (ptE p),.agg (ptE q)] [] (i64 (dtp p q)) []:=by
 have h:=zei hp hq;unfold dtp at h;refine zc Tryz.func354 ?_;(iterate 3 refine Ar.o ?_);exact .refl
theorem zyH(p q:Pt):CG0 409 [.agg (ptE p),.agg (ptE q)] [] (i64 (zap p q)) []:=by
 refine zc Tryz.func409 ?_;exact Dr.k<|zb.t (zcw p)<|zb.t (zcw q)<|zb.t (zwi (jw p) (jw q) (jU p) (jU q))<|.refl
theorem zyI(p q:Pt):CG0 410 [.agg (ptE p),.agg (ptE q)] [] (i64 (zap p q)) []:=by
 refine zc Tryz.func410 ?_;exact Dr.k<|zb.t (zcx p)<|zb.t (zcx q)<|zb.t (zyG (jw p) (jw q) (jU p) (jU q))<|.refl
theorem p_dot(p q:Pt):CG0 306 [.agg (ptE p),.agg (ptE q)] [] (i64 (zib p q)) []:=by
 refine zc Tryz.func306 ?_;exact Dr.k<|zb.t (zcw p)<|zb.t (zcw q)<|zb.t (zA5 (jw p) (jw q) (jU p) (jU q))<|.refl
theorem r_dot(p q:Pt):CG0 314 [.agg (ptE p),.agg (ptE q)] [] (i64 (zib p q)) []:=by
 have h:=zei (jU p) (jU q);unfold dtp at h;refine zc Tryz.func314 ?_;refine Dr.k<|zb.t (zcx p)<|zb.t (zcx q) ?_;(iterate 3 refine Ar.o ?_);exact .refl
theorem zjJ(p:Pt):0<=zib p p/\zib p p<=2199023255552:=by
 have h:=zei (jU p) (jU p);have h1:=jg (jw p).x;have h2:=jg (jw p).y;unfold zib;unfold dtp at*;omega
theorem zha(p:Pt):0<=zoZ p/\zoZ p < 4294967296:=by
 have h:=zjJ p;exact⟨(zf2 oM oM).1,zwe oM oM⟩
theorem zwj(p:Pt):CG0 243 [.agg (ptE p)] [] (i64 (zoZ p)) []:=by
 have h:=zjJ p;have hl:=zha p;unfold zoZ at hl;refine zc Tryz.func243 ?_;refine zb.t (p_dot p p) ?_;(iterate 2 refine Ar.o ?_);exact zb.t (zwg (65536*zib p p) oM)<|Ar.o<|.refl
theorem zwk(p:Pt):CG0 252 [.agg (ptE p)] [] (i64 (zoZ p)) []:=by
 have h:=zjJ p;have hl:=zha p;unfold zoZ at hl;refine zc Tryz.func252 ?_;refine zb.t (r_dot p p) ?_;(iterate 2 refine Ar.o ?_);exact zb.t (zsp (65536*zib p p) oM)<|Ar.o<|.refl
theorem zna{a b:Int}{M:Nat}(hb:b≠0)(h:a.natAbs<=M*b.natAbs): -(M:Int)<=zQ a b/\zQ a b<=M:=by
 have e:=zdr a b
 have:(2*a.natAbs+b.natAbs) / (2*b.natAbs) < M+1:=by
  rw[XQ oM];have:(M+1)*(2*b.natAbs)=2*(M*b.natAbs)+2*b.natAbs:=by grind
  omega
 omega
variable{b:Int}
theorem zlB:zQ 0 b=0:=by
 have e:=zdr 0 b
 have:(2*(0:Int).natAbs+b.natAbs) / (2*b.natAbs)=0:=by
  by_cases h:b.natAbs=0
  ·rw[h];rfl
  ·exact Kd (by show 0+b.natAbs < _;omega)
 omega
theorem u0{a b:Int}{M:Nat}(h:a.natAbs<=M): -(M:Int)<=zQ a b/\zQ a b<=M:=by
 by_cases hb:b=0
 ·subst hb;have e:=zdr a 0;rw[show(2*(0:Int).natAbs)=0 by rfl,Nat.div_zero]at e;omega
 ·refine zna hb (Xz h ?_);exact Qu _ oM
theorem uM{a:Int}(h: -4611686018427387904<=a/\a<=4611686018427387904):y4 (zQ a b)=zQ a b:=by
 have:=u0 (a:=a) (b:=b) (M:=4611686018427387904) oM;unfold y4;rw[if_pos oM]
theorem zf6{n d:Int}(h:1<=d):0<=qf n 0 d/\qf n 0 d<=d:=by unfold qf;split <;> (try split) <;> omega
theorem zhb{n d f t:Int}(hd:1<=d/\d<=1099511627776)(hn:0<=n/\n<=d)(hf: -1048576<=f/\f<=1048576)(ht: -1048576<=t/\t<=1048576):
  (-2305843009213693952<=n*(t - f)/\n*(t - f)<=2305843009213693952)/\(-2097152<=zQ (n*(t - f)) d/\zQ (n*(t - f)) d<=2097152)/\y4 (zQ (n*(t - f)) d)=zQ (n*(t - f)) d:=by
 have h1:=jx (A:=d) (B:=2097152) (a:=n) (b:=t - f) oM oM;have h2:(n*(t - f)).natAbs<=2097152*d.natAbs:=oM;have h3:=zna (M:=2097152) oM h2;exact⟨oM,oM,uM oM⟩
theorem zsr(f t n d:Int)(hd:1<=d/\d<=1099511627776)(hn:0<=n/\n<=d)(hf: -1048576<=f/\f<=1048576)(ht: -1048576<=t/\t<=1048576):
  CG0 72 [i64 f,i64 t,.ptr [i64 n],.ptr [i64 d]] [] (i64 (f+zQ (n*(t - f)) d)) []:=by
 have h:=zhb hd hn hf ht;refine zc Tryz.func72 ?_;(iterate 2 refine Ar.o ?_);refine zb.t (zM (n*(t - f)) d ⟨oM,oM⟩ ⟨oM,oM⟩) ?_;rw[h.2.2];exact Ar.o<|.refl
theorem znb(a b:Pt)(n d:Int):CG0 34 [.agg (ptE a),.agg (ptE b),i64 n,i64 d] [] (.agg (ptE (yl a b n d))) []:=by
 have h1:=qo a.x;have h2:=qo a.y;have h3:=qo b.x;have h4:=qo b.y;refine zc Tryz.func34 ?_;refine Dr.k<|zb.t (zcw a)<|zb.t (zcw b)<|⟨λg=>?_,λg=>?_⟩
 ·unfold yl;rw[if_pos (.inl g)];exact .refl
 refine⟨λg2=>?_,λg2=>?_⟩
 ·unfold yl;rw[if_pos (.inr g2)];exact .refl
 ·have g:¬(d < 1∨1099511627776 < d):=λh=>h.elim g g2
  have hn:=zf6 (n:=n) (d:=d) oM;refine zb.t (zsm n 0 d)<|Dr.k<|zb.t (zsr (hI a.x) (hI b.x) (qf n 0 d) d oM hn h1 h3)<|zb.t (zsr (hI a.y) (hI b.y) (qf n 0 d) d oM hn h2 h4) ?_;unfold yl;rw[if_neg g];exact .refl
theorem zhc(a b:Pt)(n d:Int):CG0 36 [.agg (ptE a),.agg (ptE b),i64 n,i64 d] [] (.agg (ptE (yl a b n d))) []:=by
 have h1:=qo a.x;have h2:=qo a.y;have h3:=qo b.x;have h4:=qo b.y;refine zc Tryz.func36 ?_;refine zb.t (zcx a)<|⟨λg=>?_,λg=>?_⟩
 ·unfold yl;rw[if_pos (.inl g)];exact .refl
 refine⟨λg2=>?_,λg2=>?_⟩
 ·unfold yl;rw[if_pos (.inr g2)];exact .refl
 ·have g:¬(d < 1∨1099511627776 < d):=λh=>h.elim g g2
  have hn:=zf6 (n:=n) (d:=d) oM;have k1:=zhb oM hn h1 h3;have k2:=zhb oM hn h2 h4;refine zb.t (zsq b a)<|zb.t (zjI n 0 d)<|Dr.k<|Ar.fit (by show _<=qf n 0 d*(hI b.x - hI a.x)/\qf n 0 d*(hI b.x - hI a.x)<=_;omega)<|zb.t (uc (qf n 0 d*(hI b.x - hI a.x)) d ⟨oM,oM⟩ ⟨oM,oM⟩) ?_;rw[k1.2.2];refine Ar.fit (by show _<=hI a.x+zQ (qf n 0 d*(hI b.x - hI a.x)) d/\hI a.x+zQ (qf n 0 d*(hI b.x - hI a.x)) d<=_;omega)<|Ar.fit (by show _<=qf n 0 d*(hI b.y - hI a.y)/\qf n 0 d*(hI b.y - hI a.y)<=_;omega) ?_
  refine zb.t (uc (qf n 0 d*(hI b.y - hI a.y)) d ⟨oM,oM⟩ ⟨oM,oM⟩) ?_;rw[k2.2.2];refine Ar.fit (by show _<=hI a.y+zQ (qf n 0 d*(hI b.y - hI a.y)) d/\hI a.y+zQ (qf n 0 d*(hI b.y - hI a.y)) d<=_;omega) ?_;unfold yl;rw[if_neg g];exact .refl
theorem vK(w:Int):CG0 240 [i64 w] [] (pr (kr w)) []:=by
 refine zc Tryz.func240 ?_;refine⟨λh=>?_,λh=>zd (λk=>h k.1)⟩;exact zF ⟨λk=>⟨h,k⟩,λk=>k.2⟩
theorem zz9(n:Int):CG0 406 [i64 n] [] (pr (zbf n)) []:=by
 refine zc Tryz.func406 ?_;refine⟨λh=>zT (.inl h),λh=>?_⟩;exact zF ⟨λk=>.inr k,λk=>k.resolve_left h⟩
theorem zab(n a b:Int):CG0 126 [i64 n,i64 a,i64 b] [] (pr (a<=n/\n<=b)) []:=by
 refine zc Tryz.func126 ?_;refine⟨λh=>?_,λh=>zd (λk=>h k.1)⟩;exact zF ⟨λk=>⟨h,k⟩,λk=>k.2⟩
theorem znc(w:Int):CG0 125 [i64 w] [] (pr (kr w)) []:=by
 refine zc Tryz.func125 ?_;exact zb.t (zab w 1 16384)<|zF K4
theorem zss(a b:Pt)(w:Int):CG0 366 [.agg (ptE a),.agg (ptE b),i64 w] [] (pr (kr w/\zr a/\zr b)) []:=by
 refine zc Tryz.func366 ?_;refine zb.t (kH a)<|⟨λh1=>?_,λh1=>zd (λh=>h1 h.2.1)⟩;refine zb.t (kH b)<|⟨λh2=>?_,λh2=>zd (λh=>h2 h.2.2)⟩;exact zb.t (znc w)<|zF ⟨λh=>⟨h,h1,h2⟩,λh=>h.1⟩
def zdA(out:List (List Sg))(s:Sg):List (List Sg):=if s.v=1 then out++[[s]] else out.dropLast++[out.getLastD []++[s]]
def subs(l:List Sg):List (List Sg):=l.foldl zdA []
def zjK(v:Int)(q:List Pt):Sg:=⟨v,q.getD 0 zp,q.getD 1 zp,q.getD 2 zp⟩
theorem gid(i:Nat)(x:List SV)(hx:[[SV.loc 1 1],[.loc 1 3],[.loc 1 5]][i]? =some x):ren.rens [(0,some 0),(1,some 1),(2,some 2)] x=some x:=by
 match i,hx with
 | 0,hx=>cases hx;rfl
 | 1,hx=>cases hx;rfl
 | 2,hx=>cases hx;rfl
theorem znd(v:Int)(q:List Pt):CG0 169 [i64 v,.sl ptE q] [] (.agg (sgE (zjK v q))) []:=by
 refine zc Tryz.func169 ?_
 refine⟨[[.loc 1 1],[.loc 1 3],[.loc 1 5]],rfl,Ob.mk ⟨rfl,dC,dC,dC,λx hx=>by
  simp only[Kn,Kw,or_false]at hx
  rcases hx with rfl | rfl | rfl <;> rfl⟩ ?_⟩
 intro _
 refine⟨Nat,λi=>⟨[(15,i64 i),(14,i64 3),(13,.own 2),(5,.loc 1 0),(4,.loc 0 0),(1,.sl ptE q)],
  [(2,.garr 246 1 [[.loc 1 1],[.loc 1 3],[.loc 1 5]]),(1,.box 124 (sgE ⟨v,if 1<=i then q.getD 0 zp else zp,if 2<=i then q.getD 1 zp else zp,if 3<=i then q.getD 2 zp else zp⟩)),(0,.box 124 (sgE ⟨0,zp,zp,zp⟩))],3,32,0⟩,
  λi=>i<=3,λi=>3 - i,0,dC,zC [0,1,2] ⟨⟨_,rfl,rfl,λi x hx=>?_⟩,rfl,rfl,trivial⟩,?_⟩
 ·exact⟨x,hx,gid i x hx⟩
 rintro i hi
 have hi:i<=3:=hi;have e:i=0∨i=1∨i=2∨i=3:=oM
 rcases e with rfl | rfl | rfl | rfl
 ·refine Br.y<|Ob.mk ⟨dC,by show(0:Int) < ((3:Nat):Int);decide⟩<|Ob.mk ⟨dC,by show(0:Int) < ((3:Nat):Int);decide⟩ ?_;intro y hy;have hy:some [SV.loc 1 1]=some y:=hy
  cases hy
  intro _;refine⟨λh1=>?_,λh1=>?_⟩
  ·refine Ob.mk ⟨dC,h1⟩ ?_;intro x hx;have hx:q[0]? =some x:=hx;have hg:q.getD 0 zp=x:=by rw[Xt,hx];rfl
   exact Ar.fit dC<|⟨1,dC,zC [0,1,2] ⟨⟨_,rfl,rfl,λi x hx=>⟨x,hx,gid i x hx⟩⟩,congrArg (λp=>some (Mem.box 124 (sgE ⟨v,p,zp,zp⟩))) hg.symm,rfl,trivial⟩,dC⟩
  ·have h1:¬((0:Nat):Int) < q.length:=h1;have hg:q.getD 0 zp=zp:=by rw[Xt,XB oM];rfl
   exact Ar.fit dC<|⟨1,dC,zC [0,1,2] ⟨⟨_,rfl,rfl,λi x hx=>⟨x,hx,gid i x hx⟩⟩,congrArg (λp=>some (Mem.box 124 (sgE ⟨v,p,zp,zp⟩))) hg.symm,rfl,trivial⟩,dC⟩
 ·refine Br.y<|Ob.mk ⟨dC,by show(1:Int) < ((3:Nat):Int);decide⟩<|Ob.mk ⟨dC,by show(1:Int) < ((3:Nat):Int);decide⟩ ?_;intro y hy;have hy:some [SV.loc 1 3]=some y:=hy
  cases hy
  intro _;refine⟨λh1=>?_,λh1=>?_⟩
  ·refine Ob.mk ⟨dC,h1⟩ ?_;intro x hx;have hx:q[1]? =some x:=hx;have hg:q.getD 1 zp=x:=by rw[Xt,hx];rfl
   exact Ar.fit dC<|⟨2,dC,zC [0,1,2] ⟨⟨_,rfl,rfl,λi x hx=>⟨x,hx,gid i x hx⟩⟩,congrArg (λp=>some (Mem.box 124 (sgE ⟨v,q.getD 0 zp,p,zp⟩))) hg.symm,rfl,trivial⟩,dC⟩
  ·have h1:¬((1:Nat):Int) < q.length:=h1;have hg:q.getD 1 zp=zp:=by rw[Xt,XB oM];rfl
   exact Ar.fit dC<|⟨2,dC,zC [0,1,2] ⟨⟨_,rfl,rfl,λi x hx=>⟨x,hx,gid i x hx⟩⟩,congrArg (λp=>some (Mem.box 124 (sgE ⟨v,q.getD 0 zp,p,zp⟩))) hg.symm,rfl,trivial⟩,dC⟩
 ·refine Br.y<|Ob.mk ⟨dC,by show(2:Int) < ((3:Nat):Int);decide⟩<|Ob.mk ⟨dC,by show(2:Int) < ((3:Nat):Int);decide⟩ ?_;intro y hy;have hy:some [SV.loc 1 5]=some y:=hy
  cases hy
  intro _;refine⟨λh1=>?_,λh1=>?_⟩
  ·refine Ob.mk ⟨dC,h1⟩ ?_;intro x hx;have hx:q[2]? =some x:=hx;have hg:q.getD 2 zp=x:=by rw[Xt,hx];rfl
   exact Ar.fit dC<|⟨3,dC,zC [0,1,2] ⟨⟨_,rfl,rfl,λi x hx=>⟨x,hx,gid i x hx⟩⟩,congrArg (λp=>some (Mem.box 124 (sgE ⟨v,q.getD 0 zp,q.getD 1 zp,p⟩))) hg.symm,rfl,trivial⟩,dC⟩
  ·have h1:¬((2:Nat):Int) < q.length:=h1;have hg:q.getD 2 zp=zp:=by rw[Xt,XB oM];rfl
   exact Ar.fit dC<|⟨3,dC,zC [0,1,2] ⟨⟨_,rfl,rfl,λi x hx=>⟨x,hx,gid i x hx⟩⟩,congrArg (λp=>some (Mem.box 124 (sgE ⟨v,q.getD 0 zp,q.getD 1 zp,p⟩))) hg.symm,rfl,trivial⟩,dC⟩
 ·refine⟨λh=>absurd h dC,λ_=>?_⟩;exact .refl
def zq8:Sg:=⟨5,zp,zp,zp⟩
def oks:Int->List Sg->Prop
 | _,[]=>True
 | last,s::r=>jQ last s=0/\oks s.v r
theorem zst:∀{l:List Sg} {last:Int} {i:Nat},(chk last i l).1=0↔oks last l
 | [],_,_=>by simp[chk,oks]
 | s::r,last,i=>by
  unfold chk oks
  by_cases h:jQ last s=0
  ·rw[if_neg (λhn=>hn h),zst];exact⟨λk=>⟨h,k⟩,λk=>k.2⟩
  ·rw[if_pos h];exact⟨λk=>absurd k h,λk=>absurd k.1 h⟩
theorem zbY:jn l↔l.length<=256/\oks 5 l:=by
 unfold jn zaa
 by_cases h:256 < l.length
 ·rw[if_pos h];exact⟨λk=>absurd k dC,λk=>absurd h oM⟩
 ·rw[if_neg h,zst];exact⟨λk=>⟨oM,k⟩,λk=>k.2⟩
variable{last:Int}
theorem u1{s:Sg}:jQ last s=0↔0<=nm s.v/\zbE last s.v/\ze6 s:=by
 unfold jQ
 by_cases h1:nm s.v < 0
 ·rw[if_pos h1];exact⟨λh=>absurd h dC,λh=>by omega⟩
 ·rw[if_neg h1]
  by_cases h2:zbE last s.v
  ·rw[if_neg (λh=>h h2)]
   by_cases h3:ze6 s
   ·rw[if_neg (λh=>h h3)];exact⟨λ_=>⟨oM,h2,h3⟩,λ_=>rfl⟩
   ·rw[if_pos h3];exact⟨λh=>absurd h dC,λh=>absurd h.2.2 h3⟩
  ·rw[if_pos h2];exact⟨λh=>absurd h dC,λh=>absurd h.2.1 h2⟩
theorem zlC{v:Int}(h:0<=nm v):v=1∨v=2∨v=3∨v=4∨v=5:=by
 unfold nm at h
 by_cases h1:v=1
 ·exact .inl h1
 rw[if_neg h1]at h
 by_cases h2:v=2
 ·exact .inr (.inl h2)
 rw[if_neg h2]at h
 by_cases h3:v=3
 ·exact .inr (.inr (.inl h3))
 rw[if_neg h3]at h
 by_cases h4:v=4
 ·exact .inr (.inr (.inr (.inl h4)))
 rw[if_neg h4]at h
 by_cases h5:v=5
 ·exact .inr (.inr (.inr (.inr h5)))
 rw[if_neg h5]at h;omega
def midV(s:Sg):Prop:=s.v=2∨s.v=3∨s.v=4
def Grp(g:List Sg)(last:Int):Prop:=
 ∃m mid,m.v=1/\(∀s∈mid,midV s)/\(∀s∈g,ze6 s)/\
  ((g=m::mid/\last≠5/\(mid=[]->last=1))∨∃c,g=m::mid++[c]/\c.v=5/\last=5/\mid≠[])
theorem zwl{g:List Sg}(h:Grp g last)(he:jQ last x=0)(hv:x.v≠1):Grp (g++[x]) x.v:=by
 obtain⟨h0,h1,h2⟩:=u1.1 he;obtain⟨m,mid,g1,g2,g3,g4⟩:=h;have hs:last≠5/\(x.v≠5∨last≠1):=h1.resolve_left hv
 have hf:∀s∈g++[x],ze6 s:=λs hs=>by
  rcases Xo.1 hs with hs | hs
  ·exact g3 s hs
  ·simp at hs;subst hs;exact h2
 rcases g4 with⟨rfl,g5,g6⟩ | ⟨c,_,_,g5,_⟩
 ·by_cases h5:x.v=5
  ·exact⟨m,mid,g1,g2,hf,.inr ⟨x,rfl,h5,h5,λe=>(hs.2.resolve_left (λh=>h h5)) (g6 e)⟩⟩
  ·refine⟨m,mid++[x],g1,λs hs=>?_,hf,.inl ⟨rfl,h5,λe=>by simp at e⟩⟩
   rcases Xo.1 hs with hs | hs
   ·exact g2 s hs
   ·simp at hs;subst hs
    rcases zlC h0 with h | h | h | h | h
    ·exact absurd h hv
    ·exact .inl h
    ·exact .inr (.inl h)
    ·exact .inr (.inr h)
    ·exact absurd h h5
 ·exact absurd g5 hs.1
theorem zlD(he:jQ last x=0)(hv:x.v=1):Grp [x] x.v:=
 ⟨x,[],hv,λs hs=>(by cases hs),λs hs=>by simp at hs;subst hs;exact(u1.1 he).2.2,.inl ⟨rfl,oM,λ_=>hv⟩⟩
def InvS(S:List (List Sg))(last:Int):Prop:=(S=[]/\last=5)∨∃cl g,S=cl++[g]/\Grp g last/\∀h∈cl,∃k,Grp h k
theorem zwm{S:List (List Sg)}(h:InvS S last)(he:jQ last x=0):InvS (zdA S x) x.v:=by
 unfold zdA
 by_cases hv:x.v=1
 ·rw[if_pos hv]
  rcases h with⟨rfl,rfl⟩ | ⟨cl,g,rfl,h1,h2⟩
  ·exact .inr ⟨[],[x],rfl,zlD he hv,λh hh=>by cases hh⟩
  ·refine .inr ⟨cl++[g],[x],rfl,zlD he hv,λh hh=>?_⟩
   rcases Xo.1 hh with hh | hh
   ·exact h2 h hh
   ·simp at hh;subst hh;exact⟨_,h1⟩
 ·rw[if_neg hv]
  rcases h with⟨rfl,rfl⟩ | ⟨cl,g,rfl,h1,h2⟩
  ·exact absurd ((u1.1 he).2.1.resolve_left hv).1 (λh=>h rfl)
  ·exact .inr ⟨cl,g++[x],by simp,zwl h1 he hv,h2⟩
theorem zsu:∀(r:List Sg) {S:List (List Sg)} {last:Int},InvS S last->oks last r->∃k,InvS (r.foldl zdA S) k
 | [],_,last,h,_=>⟨last,h⟩
 | _::r,_,_,h,ho=>zsu r (zwm h ho.1) ho.2
theorem zo4(h:jn l):∀g∈subs l,∃k,Grp g k:=by
 obtain⟨k,hk⟩:=zsu l (S:=[]) (last:=5) (.inl ⟨rfl,rfl⟩) (zbY.1 h).2;intro g hg;have hg:g∈l.foldl zdA []:=hg
 rcases hk with⟨e,_⟩ | ⟨cl,g',e,h1,h2⟩
 ·rw[e]at hg;cases hg
 ·rw[e]at hg
  rcases Xo.1 hg with hg | hg
  ·exact h2 g hg
  ·simp at hg;subst hg;exact⟨_,h1⟩
theorem zo5(S:List (List Sg))(x:Sg):(zdA S x).flatten=S.flatten++[x]:=by
 unfold zdA
 by_cases hv:x.v=1
 ·rw[if_pos hv];simp
 ·rw[if_neg hv]
  rcases J4 S with rfl | ⟨cl,g,rfl⟩
  ·rfl
  ·simp
theorem zlE:∀(r:List Sg) (S:List (List Sg)),(r.foldl zdA S).flatten=S.flatten++r
 | [],S=>by simp
 | x::r,S=>by rw[Qh,zlE r,zo5];simp
theorem zlF(l:List Sg):(subs l).flatten=l:=by
 unfold subs;rw[zlE];rfl
theorem zhU(h:jn l):∀x,l[0]? =some x->x.v=1:=λx hx=>by
 have ho:=(zbY.1 h).2
 cases l with
 | nil=>cases hx
 | cons a r=>
  cases hx
  exact(u1.1 ho.1).2.1.resolve_right (λh=>h.1 rfl)
def inR(n:Int):Prop:= -4096<=n/\n<=4096
instance (n:Int):Decidable (inR n):=inferInstanceAs (Decidable (_/\_))
def rok(a b c d:Int):Prop:=inR a/\inR b/\inR c/\inR d/\a < c/\b < d
instance (a b c d:Int):Decidable (rok a b c d):=inferInstanceAs (Decidable (_/\_))
def vB(a b c d:Int):List Sg:=if rok a b c d then[⟨1,⟨a*256,b*256⟩,zp,zp⟩,⟨2,⟨c*256,b*256⟩,zp,zp⟩,⟨2,⟨c*256,d*256⟩,zp,zp⟩,⟨2,⟨a*256,d*256⟩,zp,zp⟩,zq8] else[]
def reE(a b c d:Int):List SV:=[i64 a,i64 b,i64 c,i64 d]
def uN(n:Int):List SV:=[i64 n]
theorem zA6{enc:α->List SV}:LE (.val (.slice none 0 0)) (.sl enc []):=λS Pm ρ w v hg=>by
 rw[hg.val_inv];exact .d _ _ (.nil enc none)
theorem zyJ(a b c d:Int):CG0 65 [.agg (reE a b c d)] [] (pr (¬rok a b c d)) []:=by
 refine zc Tryz.func65 ?_;refine⟨Int,uN,[a,b,c,d],rfl,Ob.o0 ?_⟩;intro _
 refine⟨Nat,λi=>⟨[(15,i64 i),(14,i64 4),(13,.own 1),(1,.loc 0 0)],[(1,.arr 3 uN 1 [a,b,c,d]),(0,.box 86 (reE a b c d))],2,38,0⟩,
  λi=>i<=4/\∀(j:Nat) n,j < i->[a,b,c,d][j]? =some n->inR n,λi=>4 - i,0,⟨oM,λj n hj=>by omega⟩,zf [0,1],?_⟩
 rintro i ⟨h1,h2⟩
 refine⟨λh3=>?_,λh3=>?_⟩
 ·have h3:(i:Int) < 4:=h3;refine Ob.mk ⟨oM,h3⟩<|Ob.mk ⟨oM,h3⟩ ?_;intro n hn;have hn:[a,b,c,d][i]? =some n:=hn
  have out:¬inR n->¬rok a b c d:=λhr ⟨r1,r2,r3,r4,_⟩=>hr (by
   have:i=0∨i=1∨i=2∨i=3:=oM
   rcases this with rfl | rfl | rfl | rfl <;> (cases hn;assumption))
  refine⟨λh4=>zT (out λh=>by have:=h.1;omega),λh4=>?_⟩;refine⟨λh5=>zT (out λh=>by have:=h.2;omega),λh5=>?_⟩;refine Ar.o ?_
  exact⟨i+1,⟨oM,λj m hj hm=>by
   by_cases e:j=i
   ·subst e;rw[hn]at hm;cases hm;exact⟨oM,oM⟩
   ·exact h2 j m oM hm⟩,zf [0,1],by dsimp only;omega⟩
 ·have h3:¬(i:Int) < 4:=h3;have h0:=h2 0 a oM rfl;have h1:=h2 1 b oM rfl;have h4:=h2 2 c oM rfl;have h5:=h2 3 d oM rfl;refine⟨λh6=>zT λh=>by have:=h.2.2.2.2.1;omega,λh6=>?_⟩;refine zF ⟨λh7 h=>by have:=h.2.2.2.2.2;omega,λh=>?_⟩
  by_cases h8:d<=b
  ·exact h8
  ·exact absurd ⟨h0,h1,h4,h5,oM,oM⟩ h
theorem c_at(x y:Int)(hx:inR x)(hy:inR y):CG0 66 [i64 x,i64 y] [] (.agg (ptE ⟨x*256,y*256⟩)) []:=by
 refine zc Tryz.func66 ?_;unfold inR at hx hy;(iterate 2 refine Ar.o ?_);exact .refl
theorem zq9(a b c d:Int):CG0 31 [.agg (reE a b c d)] [] (.sl sgE (vB a b c d)) []:=by
 refine zc Tryz.func31 ?_;have fin:∀{L:List Sg} {s:SV},vB a b c d=L->LE s (.sl sgE L)->LE s (.sl sgE (vB a b c d)):=λe h=>e ▸ h
 refine zb.t (zyJ a b c d)<|⟨λh=>fin (if_neg h) zA6,λh=>?_⟩;have h:=Xa.1 h;have hL:=show vB a b c d=_ from if_pos h;obtain⟨h1,h2,h3,h4,_⟩:=h;refine Dr.k<|zb.t (c_at a b h1 h2)<|zb.t (c_at c b h3 h2)<|zb.t (c_at c d h3 h4)<|zb.t (c_at a d h1 h4)<|⟨Sg,sgE,[⟨1,⟨a*256,b*256⟩,zp,zp⟩,⟨2,⟨c*256,b*256⟩,zp,zp⟩,⟨2,⟨c*256,d*256⟩,zp,zp⟩,⟨2,⟨a*256,d*256⟩,zp,zp⟩,zq8],(by kernel_rfl),Ob.o0 ?_⟩;exact fin hL (z9 rfl)
theorem zne(n:Int):CG0 199 [i64 n] [] (pr (inR n)) []:=by
 refine zc Tryz.func199 ?_;refine⟨λh=>zF ⟨λk=>⟨h,k⟩,λk=>k.2⟩,λh=>zd λk=>h k.1⟩
theorem ztS(a b c d:Int):CG0 135 [.agg (reE a b c d)] [] (pr (inR a/\inR b/\inR c/\inR d)) []:=by
 refine zc Tryz.func135 ?_;refine zb.t (zne a)<|⟨λh1=>?_,λh1=>zd λk=>h1 k.1⟩;refine zb.t (zne b)<|⟨λh2=>?_,λh2=>zd λk=>h2 k.2.1⟩;refine zb.t (zne c)<|⟨λh3=>?_,λh3=>zd λk=>h3 k.2.2.1⟩;exact zb.t (zne d)<|zF ⟨λh4=>⟨h1,h2,h3,h4⟩,λk=>k.2.2.2⟩
theorem zwn(a b c d:Int):CG0 67 [.agg (reE a b c d)] [] (pr (¬rok a b c d)) []:=by
 refine zc Tryz.func67 ?_;refine zb.t (ztS a b c d)<|⟨λh=>zT λk=>h ⟨k.1,k.2.1,k.2.2.1,k.2.2.2.1⟩,λh=>?_⟩;obtain⟨h0,h1,h4,h5⟩:=Xa.1 h;refine⟨λh6=>zT λh=>by have:=h.2.2.2.2.1;omega,λh6=>?_⟩;refine zF ⟨λh7 h=>by have:=h.2.2.2.2.2;omega,λh=>?_⟩
 by_cases h8:d<=b
 ·exact h8
 ·exact absurd ⟨h0,h1,h4,h5,oM,oM⟩ h
theorem zhV(a b c d:Int):CG0 32 [.agg (reE a b c d)] [] (.sl sgE (vB a b c d)) []:=by
 refine zc Tryz.func32 ?_;have fin:∀{L:List Sg} {s:SV},vB a b c d=L->LE s (.sl sgE L)->LE s (.sl sgE (vB a b c d)):=λe h=>e ▸ h
 refine zb.t (zwn a b c d)<|⟨λh=>?_,λh=>?_⟩
 ·refine⟨Sg,sgE,[],rfl,Ob.o2 ?_⟩;exact fin (if_neg h) .refl
 have h:=Xa.1 h;have hL:=show vB a b c d=_ from if_pos h;obtain⟨h1,h2,h3,h4,_⟩:=h;unfold inR at h1 h2 h3 h4;refine Dr.d ?_;(iterate 4 refine Ar.o ?_);refine Ob.mk (by kernel_rfl)<|⟨Sg,sgE,[⟨1,⟨a*256,b*256⟩,zp,zp⟩,⟨2,⟨c*256,b*256⟩,zp,zp⟩,⟨2,⟨c*256,d*256⟩,zp,zp⟩,⟨2,⟨a*256,d*256⟩,zp,zp⟩,zq8],(by kernel_rfl),Ob.o0 ?_⟩;exact fin hL (z9 rfl)
def ji(p:Pen):List SV:=[i64 p.w,i64 p.j,i64 p.c,i64 p.m,.sl uN p.d,i64 p.ph]
def zdB(l:List Int)(i:Nat):Prop:=l=[]∨∃n∈l.take i,0 < n
theorem zf7{l:List Int}{x:Int}(h:l[i]? =some x):l.take (i+1)=l.take i++[x]:=by
 rw[Xm,h];rfl
theorem zcy{l:List Int}{x:Int}(h:l[i]? =some x):zdB l (i+1)↔zdB l i∨0 < x:=by
 unfold zdB;rw[zf7 h];constructor
 ·rintro(h | ⟨n,hn,h0⟩)
  ·exact .inl (.inl h)
  ·rcases Xo.1 hn with hn | hn
   ·exact .inl (.inr ⟨n,hn,h0⟩)
   ·rw[Xr]at hn;exact .inr (hn ▸ h0)
 ·rintro((h | ⟨n,hn,h0⟩) | h)
  ·exact .inl h
  ·exact .inr ⟨n,Ql _ hn,h0⟩
  ·exact .inr ⟨x,QA _ (Xr.2 rfl),h⟩
theorem zsv{l:List Int}{i:Nat}(hi:l.length<=i)(ha:∀n∈l.take i,0<=n/\n<=1048576):uC l↔zdB l i/\l.length % 2=0/\(l.length:Int)<=16:=by
 rw[Xg hi]at ha;unfold uC zdB;rw[Xg hi];exact⟨λh=>h.2,λh=>⟨ha,h⟩⟩
theorem zf8{l:List Int}{x:Int}(h:l[i]? =some x)(ha:∀n∈l.take i,0<=n/\n<=1048576)(hx:0<=x/\x<=1048576):∀n∈l.take (i+1),0<=n/\n<=1048576:=by
 rw[zf7 h];intro n hn
 rcases Xo.1 hn with hn | hn
 ·exact ha n hn
 ·rw[Xr]at hn;exact hn ▸ hx
theorem zjL{l:List Int}{x:Int}(h:l[i]? =some x)(hx:¬(0<=x/\x<=1048576)):¬uC l:=λk=>hx (k.1 x (Xd h))
theorem vn(l:List Int):CG0 241 [.sl uN l] [] (pr (uC l)) []:=by
 refine zc Tryz.func241 ?_;intro hl1;intro hl2;refine⟨Nat×Bool,λz=>⟨[(3,bl z.2),(11,i64 (z.1:Int)),(10,i64 (l.length:Int)),(9,.sl uN l),(0,.sl uN l)],[],0,39,0⟩,λz=>z.1<=l.length/\(z.2=true↔zdB l z.1)/\∀n∈l.take z.1,0<=n/\n<=1048576,λz=>l.length - z.1,(0,decide (l=[])),?_,?_,?_⟩
 ·refine⟨Xe _,?_,λn hn=>by cases hn⟩;show decide (l=[])=true↔_;unfold zdB;rw[decide_eq_true_iff];exact⟨.inl,λh=>h.elim id (λ⟨n,hn,_⟩=>by cases hn)⟩
 ·refine Sub.trans (jm (t:=3) (s':=bl (decide (l=[]))) rfl (zr2 ?_)) (qw [] rfl rfl rfl ⟨rfl,rfl,rfl,rfl,rfl,trivial⟩ trivial);rw[decide_eq_true_iff,← XJ];omega
 rintro⟨i,b⟩ ⟨h1,h2,h3⟩
 dsimp only at h1 h2 h3;refine⟨λg=>?_,λg=>?_⟩
 ·have g:(i:Int) < l.length:=g;refine Ob.o ?_;intro x hx;refine⟨λa1=>zd (zjL hx oM),λa1=>?_⟩;refine⟨λa2=>zd (zjL hx oM),λa2=>?_⟩;have hx:l[i]? =some x:=hx
  cases b with
  | true=>
   refine Ar.o<|⟨(i+1,true),⟨by dsimp only;omega,?_,zf8 hx h3 oM⟩,zE [],by dsimp only;omega⟩;exact⟨λ_=>(zcy hx).2 (.inl (h2.1 rfl)),λ_=>rfl⟩
  | false=>
   refine Ar.o<|⟨(i+1,decide (0 < x)),⟨by dsimp only;omega,?_,zf8 hx h3 oM⟩,Sub.trans (jm (t:=3) (s':=bl (decide (0 < x))) rfl (zr2 ?_)) (qw [] rfl rfl rfl ⟨rfl,rfl,rfl,rfl,rfl,trivial⟩ trivial),by dsimp only;omega⟩
   ·show decide (0 < x)=true↔zdB l (i+1);rw[decide_eq_true_iff,zcy (show l[i]? =some x from hx)];exact⟨.inr,λh=>h.elim (λk=>by have:=h2.2 k;cases this) id⟩
   ·rw[decide_eq_true_iff]
 ·have g:¬(i:Int) < l.length:=g;have hd:=zsv (l:=l) (i:=i) oM h3
  cases b with
  | false=>
   exact zd (λk=>by have:=h2.2 (hd.1 k).1;cases this)
  | true=>
   intro hl3;refine Dv.pos ⟨oM,oM⟩<|⟨λa1=>?_,λa1=>zd (λk=>a1 (by have:=(hd.1 k).2.1;omega))⟩;intro hl4;exact zF ⟨λk=>hd.2 ⟨h2.1 rfl,oM,k⟩,λk=>(hd.1 k).2.2⟩
theorem zwo(l:List Int):CG0 127 [.sl uN l] [] (pr (uC l)) []:=by
 refine zc Tryz.func127 ?_;intro hl1;refine⟨Nat×Bool,λz=>⟨[(3,bl z.2),(4,i64 (z.1:Int)),(0,.sl uN l)],[],0,40,0⟩,λz=>z.1<=l.length/\(z.2=true↔zdB l z.1)/\∀n∈l.take z.1,0<=n/\n<=1048576,λz=>l.length - z.1,(0,decide (l=[])),?_,?_,?_⟩
 ·refine⟨Xe _,?_,λn hn=>by cases hn⟩;show decide (l=[])=true↔_;unfold zdB;rw[decide_eq_true_iff];exact⟨.inl,λh=>h.elim id (λ⟨n,hn,_⟩=>by cases hn)⟩
 ·refine Sub.trans (jm (t:=3) (s':=bl (decide (l=[]))) rfl (zr2 ?_)) (qw [] rfl rfl rfl ⟨rfl,rfl,rfl,trivial⟩ trivial);rw[decide_eq_true_iff,← XJ];omega
 rintro⟨i,b⟩ ⟨h1,h2,h3⟩
 dsimp only at h1 h2 h3;intro hl2;refine⟨λg=>?_,λg=>?_⟩
 ·have g:(i:Int) < l.length:=g;refine Ob.o ?_;intro x hx;refine zb.t (zab x 0 1048576)<|⟨λa1=>zd (zjL hx a1),λa1=>?_⟩;have a1:0<=x/\x<=1048576:=Xa.1 a1;have hx:l[i]? =some x:=hx
  cases b with
  | true=>
   refine Ar.o<|⟨(i+1,true),⟨by dsimp only;omega,?_,zf8 hx h3 a1⟩,zE [],by dsimp only;omega⟩;exact⟨λ_=>(zcy hx).2 (.inl (h2.1 rfl)),λ_=>rfl⟩
  | false=>
   refine Ob.o ?_;intro y hy;have hy:l[i]? =some y:=hy;have e:x=y:=Xj ((show l[i]? =some x from hx).symm.trans hy);subst e;refine Ar.o<|⟨(i+1,decide (0 < x)),⟨by dsimp only;omega,?_,zf8 hx h3 a1⟩,Sub.trans (jm (t:=3) (s':=bl (decide (0 < x))) rfl (zr2 ?_)) (qw [] rfl rfl rfl ⟨rfl,rfl,rfl,trivial⟩ trivial),by dsimp only;omega⟩
   ·show decide (0 < x)=true↔zdB l (i+1);rw[decide_eq_true_iff,zcy (show l[i]? =some x from hx)];exact⟨.inr,λh=>h.elim (λk=>by have:=h2.2 k;cases this) id⟩
   ·rw[decide_eq_true_iff]
 ·have g:¬(i:Int) < l.length:=g;have hd:=zsv (l:=l) (i:=i) oM h3
  cases b with
  | false=>
   exact zd (λk=>by have:=h2.2 (hd.1 k).1;cases this)
  | true=>
   intro hl3;refine⟨λa1=>?_,λa1=>zd (λk=>a1 (hd.1 k).2.2)⟩;intro hl4;exact Dv.pos ⟨oM,oM⟩<|zF ⟨λk=>hd.2 ⟨h2.1 rfl,oM,a1⟩,λk=>by have:=(hd.1 k).2.1;omega⟩
theorem zhW(p:Pen):kF p↔((1<=p.w/\p.w<=16384)/\(p.j=1∨p.j=2∨p.j=3)/\(p.c=3∨p.c=4∨p.c=5)/\(256<=p.m/\p.m<=65536)/\(0<=p.ph/\p.ph<=1048576))/\uC p.d:=by
 unfold kF kr;exact⟨λh=>⟨⟨h.1,h.2.1,h.2.2.1,h.2.2.2.1,h.2.2.2.2.2⟩,h.2.2.2.2.1⟩,λh=>⟨h.1.1,h.1.2.1,h.1.2.2.1,h.1.2.2.2.1,h.2,h.1.2.2.2.2⟩⟩
theorem zcz(p:Pen):CG0 61 [.agg (ji p)] [] (pr (kF p)) []:=by
 have hp:=zhW p;refine zc Tryz.func61 ?_;refine zb.t (znc p.w)<|⟨λa1=>zd (λk=>a1 (hp.1 k).1.1),λa1=>?_⟩;refine zb.t (zab p.j 1 3)<|⟨λa2=>zd (λk=>by have:=(hp.1 k).1;omega),λa2=>?_⟩;refine zb.t (zab p.c 3 5)<|⟨λa3=>zd (λk=>by have:=(hp.1 k).1;omega),λa3=>?_⟩;refine zb.t (zab p.m 256 65536)<|⟨λa4=>?_,λa4=>zd (λk=>by have:=(hp.1 k).1;omega)⟩;refine zb.t (zwo p.d)<|⟨λa5=>?_,λa5=>zd (λk=>a5 (hp.1 k).2)⟩
 exact zb.t (zab p.ph 0 1048576)<|zF ⟨λk=>hp.2 ⟨by unfold kr at a1;omega,a5⟩,λk=>by have:=(hp.1 k).1;omega⟩
theorem zej(p:Pen):CG0 184 [.agg (ji p)] [] (pr (kF p)) []:=by
 have hp:=zhW p;refine zc Tryz.func184 ?_;refine⟨λj1=>?_,λj1=>?_⟩
 ·
  refine⟨λc1=>?_,λc1=>?_⟩
  ·
   refine zb.t (vK p.w)<|⟨λw1=>?_,λw1=>zd (λk=>w1 (hp.1 k).1.1)⟩;refine⟨λm1=>?_,λm1=>zd (λk=>by have:=(hp.1 k).1;omega)⟩;refine⟨λm2=>?_,λm2=>zd (λk=>by have:=(hp.1 k).1;omega)⟩;refine zb.t (vn p.d)<|⟨λd1=>?_,λd1=>zd (λk=>d1 (hp.1 k).2)⟩;refine⟨λp1=>?_,λp1=>zd (λk=>by have:=(hp.1 k).1;omega)⟩;exact zF ⟨λk=>hp.2 ⟨by unfold kr at w1;omega,d1⟩,λk=>by have:=(hp.1 k).1;omega⟩
  refine⟨λc2=>?_,λc2=>?_⟩
  ·
   refine zb.t (vK p.w)<|⟨λw1=>?_,λw1=>zd (λk=>w1 (hp.1 k).1.1)⟩;refine⟨λm1=>?_,λm1=>zd (λk=>by have:=(hp.1 k).1;omega)⟩;refine⟨λm2=>?_,λm2=>zd (λk=>by have:=(hp.1 k).1;omega)⟩;refine zb.t (vn p.d)<|⟨λd1=>?_,λd1=>zd (λk=>d1 (hp.1 k).2)⟩;refine⟨λp1=>?_,λp1=>zd (λk=>by have:=(hp.1 k).1;omega)⟩;exact zF ⟨λk=>hp.2 ⟨by unfold kr at w1;omega,d1⟩,λk=>by have:=(hp.1 k).1;omega⟩
  refine zb.t (vK p.w)<|⟨λw1=>?_,λw1=>zd (λk=>w1 (hp.1 k).1.1)⟩;refine⟨λc3=>?_,λc3=>zd (λk=>by have:=(hp.1 k).1;omega)⟩;refine⟨λm1=>?_,λm1=>zd (λk=>by have:=(hp.1 k).1;omega)⟩;refine⟨λm2=>?_,λm2=>zd (λk=>by have:=(hp.1 k).1;omega)⟩;refine zb.t (vn p.d)<|⟨λd1=>?_,λd1=>zd (λk=>d1 (hp.1 k).2)⟩;refine⟨λp1=>?_,λp1=>zd (λk=>by have:=(hp.1 k).1;omega)⟩
  exact zF ⟨λk=>hp.2 ⟨by unfold kr at w1;omega,d1⟩,λk=>by have:=(hp.1 k).1;omega⟩
 refine⟨λj2=>?_,λj2=>?_⟩
 ·
  refine⟨λc1=>?_,λc1=>?_⟩
  ·
   refine zb.t (vK p.w)<|⟨λw1=>?_,λw1=>zd (λk=>w1 (hp.1 k).1.1)⟩;refine⟨λm1=>?_,λm1=>zd (λk=>by have:=(hp.1 k).1;omega)⟩;refine⟨λm2=>?_,λm2=>zd (λk=>by have:=(hp.1 k).1;omega)⟩;refine zb.t (vn p.d)<|⟨λd1=>?_,λd1=>zd (λk=>d1 (hp.1 k).2)⟩;refine⟨λp1=>?_,λp1=>zd (λk=>by have:=(hp.1 k).1;omega)⟩;exact zF ⟨λk=>hp.2 ⟨by unfold kr at w1;omega,d1⟩,λk=>by have:=(hp.1 k).1;omega⟩
  refine⟨λc2=>?_,λc2=>?_⟩
  ·
   refine zb.t (vK p.w)<|⟨λw1=>?_,λw1=>zd (λk=>w1 (hp.1 k).1.1)⟩;refine⟨λm1=>?_,λm1=>zd (λk=>by have:=(hp.1 k).1;omega)⟩;refine⟨λm2=>?_,λm2=>zd (λk=>by have:=(hp.1 k).1;omega)⟩;refine zb.t (vn p.d)<|⟨λd1=>?_,λd1=>zd (λk=>d1 (hp.1 k).2)⟩;refine⟨λp1=>?_,λp1=>zd (λk=>by have:=(hp.1 k).1;omega)⟩;exact zF ⟨λk=>hp.2 ⟨by unfold kr at w1;omega,d1⟩,λk=>by have:=(hp.1 k).1;omega⟩
  refine zb.t (vK p.w)<|⟨λw1=>?_,λw1=>zd (λk=>w1 (hp.1 k).1.1)⟩;refine⟨λc3=>?_,λc3=>zd (λk=>by have:=(hp.1 k).1;omega)⟩;refine⟨λm1=>?_,λm1=>zd (λk=>by have:=(hp.1 k).1;omega)⟩;refine⟨λm2=>?_,λm2=>zd (λk=>by have:=(hp.1 k).1;omega)⟩;refine zb.t (vn p.d)<|⟨λd1=>?_,λd1=>zd (λk=>d1 (hp.1 k).2)⟩;refine⟨λp1=>?_,λp1=>zd (λk=>by have:=(hp.1 k).1;omega)⟩
  exact zF ⟨λk=>hp.2 ⟨by unfold kr at w1;omega,d1⟩,λk=>by have:=(hp.1 k).1;omega⟩
 refine⟨λc1=>?_,λc1=>?_⟩
 ·
  refine zb.t (vK p.w)<|⟨λw1=>?_,λw1=>zd (λk=>w1 (hp.1 k).1.1)⟩;refine⟨λj3=>?_,λj3=>zd (λk=>by have:=(hp.1 k).1;omega)⟩;refine⟨λm1=>?_,λm1=>zd (λk=>by have:=(hp.1 k).1;omega)⟩;refine⟨λm2=>?_,λm2=>zd (λk=>by have:=(hp.1 k).1;omega)⟩;refine zb.t (vn p.d)<|⟨λd1=>?_,λd1=>zd (λk=>d1 (hp.1 k).2)⟩;refine⟨λp1=>?_,λp1=>zd (λk=>by have:=(hp.1 k).1;omega)⟩
  exact zF ⟨λk=>hp.2 ⟨by unfold kr at w1;omega,d1⟩,λk=>by have:=(hp.1 k).1;omega⟩
 refine⟨λc2=>?_,λc2=>?_⟩
 ·
  refine zb.t (vK p.w)<|⟨λw1=>?_,λw1=>zd (λk=>w1 (hp.1 k).1.1)⟩;refine⟨λj3=>?_,λj3=>zd (λk=>by have:=(hp.1 k).1;omega)⟩;refine⟨λm1=>?_,λm1=>zd (λk=>by have:=(hp.1 k).1;omega)⟩;refine⟨λm2=>?_,λm2=>zd (λk=>by have:=(hp.1 k).1;omega)⟩;refine zb.t (vn p.d)<|⟨λd1=>?_,λd1=>zd (λk=>d1 (hp.1 k).2)⟩;refine⟨λp1=>?_,λp1=>zd (λk=>by have:=(hp.1 k).1;omega)⟩
  exact zF ⟨λk=>hp.2 ⟨by unfold kr at w1;omega,d1⟩,λk=>by have:=(hp.1 k).1;omega⟩
 refine zb.t (vK p.w)<|⟨λw1=>?_,λw1=>zd (λk=>w1 (hp.1 k).1.1)⟩;refine⟨λj3=>?_,λj3=>zd (λk=>by have:=(hp.1 k).1;omega)⟩;refine⟨λc3=>?_,λc3=>zd (λk=>by have:=(hp.1 k).1;omega)⟩;refine⟨λm1=>?_,λm1=>zd (λk=>by have:=(hp.1 k).1;omega)⟩;refine⟨λm2=>?_,λm2=>zd (λk=>by have:=(hp.1 k).1;omega)⟩;refine zb.t (vn p.d)<|⟨λd1=>?_,λd1=>zd (λk=>d1 (hp.1 k).2)⟩
 refine⟨λp1=>?_,λp1=>zd (λk=>by have:=(hp.1 k).1;omega)⟩;exact zF ⟨λk=>hp.2 ⟨by unfold kr at w1;omega,d1⟩,λk=>by have:=(hp.1 k).1;omega⟩
end Go.Gs
