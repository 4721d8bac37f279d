/- Segments that may be, the one text. -/
import Derived.Test.YtbgnkgoiocjbnaaGreatMA
import Derived.Test.YtbgnkgoiocjbnaaGreatMAQ
set_option maxRecDepth 100000
set_option maxHeartbeats 8000000
set_option linter.all false
namespace Go.Gs
open Go.Proofs
structure Sg where
 v:Int
 a:Pt
 b:Pt
 c:Pt
 deriving DecidableEq
def sgE(s:Sg):List SV:=[i64 s.v,i64 s.a.x,i64 s.a.y,i64 s.b.x,i64 s.b.y,i64 s.c.x,i64 s.c.y]
def nm(v:Int):Int:=if v=1 then 1 else if v=2 then 1 else if v=3 then 2 else if v=4 then 3 else if v=5 then 0 else -1
theorem zco(v:Int):zd Tryz.prog 128 [i64 v] [] (i64 (nm v)) []:=by
 refine zc tok mix Tryz.func128 rfl rfl rfl ?_;refine Br.mk (fun h4=>?_) (fun h4=>?_)
 ·refine Ar.fit dC ?_;refine Ar.fit dC ?_;refine Ar.fit dC ?_;exact zu (by rw [h4];rfl)
 refine Br.mk (fun h3=>?_) (fun h3=>?_)
 ·refine Ar.fit dC ?_;refine Ar.fit dC ?_;exact zu (by rw [h3];rfl)
 refine Br.mk (fun h1=>?_) (fun h1=>?_)
 ·refine Br.mk (fun _=>?_) (fun h=>absurd h1 h);refine Ar.fit dC ?_;exact zu (by rw [h1];rfl)
 refine Br.mk (fun h2=>?_) (fun h2=>?_)
 ·refine Ar.fit dC ?_;exact zu (by rw [h2];rfl)
 refine Br.mk (fun h5=>?_) (fun h5=>?_)
 ·exact zu (by rw [h5];rfl)
 ·exact zu (by unfold nm;rw [if_neg h1,if_neg h2,if_neg h3,if_neg h4,if_neg h5])
def pk(n i:Int)(p:Pt):Prop:=zo p/\(n<=i->p=zp)
instance (n i:Int) (p:Pt):Decidable (pk n i p):=inferInstanceAs (Decidable (_/\_))
def zbn(s:Sg):Prop:=pk (nm s.v) 0 s.a/\pk (nm s.v) 1 s.b/\pk (nm s.v) 2 s.c
instance (s:Sg):Decidable (zbn s):=inferInstanceAs (Decidable (_/\_))
theorem zk4{s:Sg}:zbn s↔∀(j:Nat) x,[s.a,s.b,s.c][j]? =some x->pk (nm s.v) j x:=by
 constructor
 ·rintro ⟨h1,h2,h3⟩ j x hx
  match j,hx with
  | 0,hx=>cases hx;exact h1
  | 1,hx=>cases hx;exact h2
  | 2,hx=>cases hx;exact h3
 ·exact fun h=>⟨h 0 _ rfl,h 1 _ rfl,h 2 _ rfl⟩
theorem zmP(s:Sg):zd Tryz.prog 191 [.agg (sgE s)] [] (pr (zbn s)) []:=by
 refine zc tok mix Tryz.func191 rfl rfl rfl ?_;refine ⟨Pt,ptE,[s.a,s.b,s.c],rfl,Ob.o0 ?_⟩;intro _
 refine ⟨Nat,fun i=>⟨[(13,i64 i),(12,i64 3),(11,.own 1),(1,.loc 0 0)],[(1,.arr 52 ptE 2 [s.a,s.b,s.c]),(0,.box 75 (sgE s))],2,34,0⟩,
  fun i=>i<=3/\∀(j:Nat) x,j < i->[s.a,s.b,s.c][j]? =some x->pk (nm s.v) j x,fun i=>3 - i,0,?_,?_,?_⟩
 ·exact ⟨oM,fun j x hj=>by omega⟩
 ·exact zh [(0,some 0),(1,some 1)]
 rintro i ⟨h1,h2⟩
 refine Br.mk (fun h3=>?_) (fun h3=>?_)
 ·have h3:i < 3:=by omega
  refine Ob.mk ⟨oM,by show (i:Int) < 3;omega⟩ ?_;refine Ob.mk ⟨oM,by show (i:Int) < 3;omega⟩ ?_;intro x hx;have hx:[s.a,s.b,s.c][i]? =some x:=hx;refine zb.t (qc x) ?_;have out:¬pk (nm s.v) i x->¬zbn s:=fun h hf=>h (zk4.1 hf i x hx)
  refine Br.mk (fun h4=>ze (out fun h=>h4 h.1)) (fun h4=>?_);have h4:=Decidable.not_not.1 h4;refine zb.t (zco s.v) ?_
  have next:pk (nm s.v) i x->(i+1<=3/\∀(j:Nat) x,j < i+1->[s.a,s.b,s.c][j]? =some x->pk (nm s.v) j x):=fun h=>⟨oM,fun j y hj hy=>by
   by_cases e:j=i
   ·subst e;rw [hx] at hy;cases hy;exact h
   ·exact h2 j y oM hy⟩
  refine Br.mk (fun h5=>?_) (fun h5=>?_)
  ·refine Br.mk (fun h6=>ze (out fun h=>h6 (qx.2 (h.2 h5)))) (fun h6=>?_);have h6:x=zp:=qx.1 (Decidable.not_not.1 h6);refine Ar.o ?_;exact ⟨i+1,next ⟨h4,fun _=>h6⟩,zh [(0,some 0),(1,some 1)],by dsimp only;omega⟩
  ·refine Ar.o ?_;exact ⟨i+1,next ⟨h4,fun h=>absurd h h5⟩,zh [(0,some 0),(1,some 1)],by dsimp only;omega⟩
 ·refine kC (zk4.2 fun j x hx=>h2 j x ?_ hx);have:=(List.getElem?_eq_some_iff.1 hx).1;have h3:¬((i:Int) < 3):=h3;simp at this;omega
def zag(last v:Int):Prop:=v=1∨(last≠5/\(v≠5∨last≠1))
instance (last v:Int):Decidable (zag last v):=inferInstanceAs (Decidable (_∨_))
def qU(last:Int)(s:Sg):Int:=if nm s.v < 0 then 2 else if ¬zag last s.v then 10 else if ¬zbn s then 6 else 0
def chk(last:Int)(i:Nat):List Sg->Int×Int
 | []=>(0,0)
 | s::r=>if qU last s≠0 then (qU last s,i) else chk s.v (i+1) r
def uX(l:List Sg):Int×Int:=if 256 < l.length then (5,256) else chk 5 0 l
def qK(l:List Sg):Prop:=(uX l).1=0
instance (l:List Sg):Decidable (qK l):=inferInstanceAs (Decidable (_=_))
theorem zfu{α:Type}{l:List α}{i:Nat}{x:α}(h:l[i]? =some x):l.drop i=x::l.drop (i+1):=by
 obtain ⟨hl,he⟩:=List.getElem?_eq_some_iff.1 h;rw [List.drop_eq_getElem_cons hl,he]
def twoI(c:Int×Int):SV:=.tup [i64 c.1,i64 c.2]
theorem zs6(l:List Sg):zd Tryz.prog 127 [.sl sgE l] [] (twoI (uX l)) []:=by
 refine zc tok mix Tryz.func127 rfl rfl rfl ?_;have fin:∀{a b:Int},uX l=(a,b)->LE (.tup [i64 a,i64 b]) (twoI (uX l)):=fun h=>by rw [h];exact .refl
 intro hl;refine Br.mk (fun h=>fin (by unfold uX;rw [if_pos oM])) (fun h=>?_);have hc:uX l=chk 5 0 l:=by unfold uX;rw [if_neg oM]
 intro hl1;refine ⟨Nat×Int,fun q=>⟨[(13,i64 q.1),(12,i64 l.length),(11,.sl sgE l),(4,i64 q.2)],[],0,52,0⟩,fun q=>q.1<=l.length/\chk 5 0 l=chk q.2 q.1 (l.drop q.1),fun q=>l.length - q.1,(0,5),?_,?_,?_⟩
 ·exact ⟨Nat.zero_le _,rfl⟩
 ·exact zh []
 rintro ⟨i,last⟩ ⟨h1,h2⟩
 have h1:i<=l.length:=h1;have h2:chk 5 0 l=chk last i (l.drop i):=h2;refine Br.mk (fun h3=>?_) (fun h3=>?_)
 ·have h3:(i:Int) < l.length:=h3;refine Ob.mk ⟨by dsimp only;omega,h3⟩ ?_;intro x hx;have hx:l[i]? =some x:=hx;rw [zfu hx] at h2
  have bad:∀{e:Int},qU last x=e->e≠0->uX l=(e,(i:Int)):=fun h hn=>by
   rw [hc,h2];unfold chk;rw [if_pos (by rw [h];exact hn),h]
  have good:qU last x=0->(i+1,x.v).1<=l.length/\chk 5 0 l=chk (i+1,x.v).2 (i+1,x.v).1 (l.drop (i+1,x.v).1):=fun h=>⟨by show i+1<=_;omega,by
   show _=chk x.v (i+1) _;rw [h2];conv=>lhs;unfold chk
   rw [if_neg (fun hn=>hn h)]⟩
  refine Br.mk (fun j1=>?_) (fun j1=>?_)
  ·have st:zag last x.v:=.inl j1;refine zb.t (zco x.v) ?_;refine Br.mk (fun k1=>fin (bad (by unfold qU;rw [if_pos k1]) dC)) (fun k1=>?_);refine zb.t (zmP x) ?_;refine Br.mk (fun k2=>fin (bad (by unfold qU;rw [if_neg k1,if_neg (fun h=>h st),if_pos k2]) dC)) (fun k2=>?_);refine Ar.fit (by dsimp only;omega) ?_;exact ⟨(i+1,x.v),good (by unfold qU;rw [if_neg k1,if_neg (fun h=>h st),if_neg k2]),zh [],by show l.length - (i+1) < l.length - i;omega⟩
  refine Br.mk (fun j2=>?_) (fun j2=>?_)
  ·refine Br.mk (fun j3=>?_) (fun j3=>?_)
   ·have st:zag last x.v:=.inr ⟨j2,.inl j3⟩;refine zb.t (zco x.v) ?_;refine Br.mk (fun k1=>fin (bad (by unfold qU;rw [if_pos k1]) dC)) (fun k1=>?_);refine zb.t (zmP x) ?_;refine Br.mk (fun k2=>fin (bad (by unfold qU;rw [if_neg k1,if_neg (fun h=>h st),if_pos k2]) dC)) (fun k2=>?_);refine Ar.fit (by dsimp only;omega) ?_;exact ⟨(i+1,x.v),good (by unfold qU;rw [if_neg k1,if_neg (fun h=>h st),if_neg k2]),zh [],by show l.length - (i+1) < l.length - i;omega⟩
   ·refine zb.t (zco x.v) ?_;refine Br.mk (fun k1=>fin (bad (by unfold qU;rw [if_pos k1]) dC)) (fun k1=>?_);have j3:=Decidable.not_not.1 j3
    have ns:¬last≠1->¬zag last x.v:=fun k0 st=>by
     rcases st with st | ⟨_,st | st⟩
     ·exact j1 st
     ·exact st j3
     ·exact k0 st
    refine Br.mk (fun k0=>fin (bad (by unfold qU;rw [if_neg k1,if_pos (ns k0)]) dC)) (fun k0=>?_);have st:zag last x.v:=.inr ⟨j2,.inr (Decidable.not_not.1 k0)⟩;refine zb.t (zmP x) ?_;refine Br.mk (fun k2=>fin (bad (by unfold qU;rw [if_neg k1,if_neg (fun h=>h st),if_pos k2]) dC)) (fun k2=>?_);refine Ar.fit (by dsimp only;omega) ?_;exact ⟨(i+1,x.v),good (by unfold qU;rw [if_neg k1,if_neg (fun h=>h st),if_neg k2]),zh [],by show l.length - (i+1) < l.length - i;omega⟩
  ·refine zb.t (zco x.v) ?_;refine Br.mk (fun k1=>fin (bad (by unfold qU;rw [if_pos k1]) dC)) (fun k1=>?_)
   have ns:¬zag last x.v:=fun st=>by
    rcases st with st | ⟨st,_⟩
    ·exact j1 st
    ·exact j2 st
   exact fin (bad (by unfold qU;rw [if_neg k1,if_pos ns]) dC)
 ·refine fin (hc.trans (h2.trans ?_));rw [List.drop_eq_nil_of_le (by have h3:¬(i:Int) < l.length:=h3;omega)];rfl
theorem zjy(l:List Sg):zd Tryz.prog 72 [.sl sgE l] [] (pr (qK l)) []:=by
 refine zc tok mix Tryz.func72 rfl rfl rfl ?_;refine zb.t (zs6 l) ?_;exact kZ Iff.rfl
theorem zgy(v:Int):zd Tryz.prog 79 [i64 v] [] (i64 (nm v)) []:=by
 refine zc tok mix Tryz.func79 rfl rfl rfl ?_;refine Br.mk (fun h1=>?_) (fun h1=>?_)
 ·refine Br.mk (fun _=>?_) (fun h=>absurd h1 h);exact zu (by rw [h1];rfl)
 refine Br.mk (fun h2=>zu (by rw [h2];rfl)) (fun h2=>?_);refine Br.mk (fun h3=>zu (by rw [h3];rfl)) (fun h3=>?_);refine Br.mk (fun h4=>zu (by rw [h4];rfl)) (fun h4=>?_);refine Br.mk (fun h5=>zu (by rw [h5];rfl)) (fun h5=>?_);exact zu (by unfold nm;rw [if_neg h1,if_neg h2,if_neg h3,if_neg h4,if_neg h5])
theorem zjz(s:Sg):zd Tryz.prog 78 [.agg (sgE s)] [] (.agg (ptE s.a++ptE s.b++ptE s.c)) []:=by
 refine zc tok mix Tryz.func78 rfl rfl rfl ?_;exact .refl
def zbQ(l:List Sg)(i:Nat):Int:=if i=0 then 5 else (l[i - 1]?.map Sg.v).getD 0
theorem zpg(l:List Sg)(i:Nat)(x:Sg)(hx:l[i]? =some x)(hl:l.length<=256):zd Tryz.prog 231 [.sl sgE l,i64 i] [] (pr (zag (zbQ l i) x.v)) []:=by
 refine zc tok mix Tryz.func231 rfl rfl rfl ?_;have hi:i < l.length:=(List.getElem?_eq_some_iff.1 hx).1;refine Br.mk (fun h1=>?_) (fun h1=>?_)
 ·have h0:i=0:=by omega
  subst h0;refine Ob.o4 ?_;intro y hy;have hy:l[0]? =some y:=hy;rw [hx] at hy;cases hy
  refine kZ ⟨fun h=>.inl h,fun h=>?_⟩
  rcases h with h | ⟨h,_⟩
  ·exact h
  ·exact absurd rfl h
 refine Ar.o ?_;refine Ob.o4 ?_;intro y hy;have hy:l[i - 1]? =some y:=by rw [← hy];congr 1;omega
 have hlast:zbQ l i=y.v:=by unfold zbQ;rw [if_neg oM,hy];rfl
 rw [hlast];refine Br.mk (fun h2=>?_) (fun h2=>?_)
 ·refine Ob.o4 ?_;intro z hz;have hz:l[i]? =some z:=hz;rw [hx] at hz;cases hz
  refine kZ ⟨fun h=>.inl h,fun h=>?_⟩
  rcases h with h | ⟨h,_⟩
  ·exact h
  ·exact absurd h2 h
 ·refine Ob.o4 ?_;intro z hz;have hz:l[i]? =some z:=hz;rw [hx] at hz;cases hz
  refine Br.mk (fun h3=>?_) (fun h3=>?_)
  ·exact kC (.inr ⟨h2,.inl h3⟩)
  ·refine Ar.o ?_;refine Ob.o4 ?_;intro u hu;have hu:l[i - 1]? =some u:=by rw [← hu];congr 1;omega
   rw [hy] at hu;cases hu
   refine kZ ⟨fun h=>.inr ⟨h2,.inr h⟩,fun h=>?_⟩;have h3:x.v=5:=Decidable.not_not.1 h3
   rcases h with h | ⟨_,h | h⟩
   ·omega
   ·exact absurd h3 h
   ·exact h
theorem zs7(l:List Sg)(i:Nat)(x:Sg)(hx:l[i]? =some x)(hl:l.length<=256):zd Tryz.prog 173 [.sl sgE l,i64 i] [] (i64 (qU (zbQ l i) x)) []:=by
 refine zc tok mix Tryz.func173 rfl rfl rfl ?_;have hi:i < l.length:=(List.getElem?_eq_some_iff.1 hx).1;refine Ob.o4 ?_;intro y hy;have hy:l[i]? =some y:=hy;rw [hx] at hy;cases hy
 refine zb.t (zgy x.v) ?_;refine Br.mk (fun h1=>zu (by unfold qU;rw [if_pos h1])) (fun h1=>?_);refine zb.t (zpg l i x hx hl) ?_;refine Br.mk (fun h2=>zu (by unfold qU;rw [if_neg h1,if_pos h2])) (fun h2=>?_);refine Ob.o4 ?_;intro y hy;have hy:l[i]? =some y:=hy;rw [hx] at hy;cases hy
 refine zb.t (zjz x) ?_;have bad:¬zbn x->LE (i64 6) (i64 (qU (zbQ l i) x)):=fun h=>zu (by unfold qU;rw [if_neg h1,if_neg h2,if_pos h])
 have hn:0<=nm x.v:=oM;have zOK:zo zp:=dC
 refine ⟨Nat,fun k=>⟨[(7,i64 k),(5,i64 (nm x.v)),(6,.loc 0 0)],[(0,.box 111 (ptE x.a++ptE x.b++ptE x.c))],1,51,0⟩,
  fun k=>k<=3/\(1<=k->pk (nm x.v) 0 x.a)/\(2<=k->pk (nm x.v) 1 x.b)/\(3<=k->pk (nm x.v) 2 x.c),fun k=>3 - k,0,?_,?_,?_⟩
 ·exact ⟨oM,fun h=>by omega,fun h=>by omega,fun h=>by omega⟩
 ·exact zh [(0,some 0)]
 rintro k ⟨k1,k2,k3,k4⟩
 refine Br.mk (fun g1=>?_) (fun g1=>?_)
 ·have g1:(k:Int) < 3:=g1;have hk:k=0∨k=1∨k=2:=oM
  rcases hk with rfl | rfl | rfl
  ·refine Br.mk (fun a1=>?_) (fun a1=>?_)
   ·refine zb.t (yG x.a) ?_;refine Br.mk (fun a2=>bad (fun h=>a2 h.1.1)) (fun a2=>?_);have a2:zo x.a:=Decidable.not_not.1 a2;refine Br.mk (fun a3=>absurd a3 oM) (fun a3=>?_);refine Ar.o ?_;exact ⟨1,⟨oM,fun _=>⟨a2,fun h=>absurd h oM⟩,fun h=>by omega,fun h=>by omega⟩,zh [(0,some 0)],by dsimp only;omega⟩
   ·refine Br.mk (fun a3=>?_) (fun a3=>absurd a3 oM);refine Br.mk (fun a4=>bad (fun h=>a4 (qx.2 (h.1.2 oM)))) (fun a4=>?_);have a4:x.a=zp:=qx.1 (Decidable.not_not.1 a4);refine Ar.o ?_;exact ⟨1,⟨oM,fun _=>⟨a4 ▸ zOK,fun _=>a4⟩,fun h=>by omega,fun h=>by omega⟩,zh [(0,some 0)],by dsimp only;omega⟩
  ·refine Br.mk (fun a1=>?_) (fun a1=>?_)
   ·refine zb.t (yG x.b) ?_;refine Br.mk (fun a2=>bad (fun h=>a2 h.2.1.1)) (fun a2=>?_);have a2:zo x.b:=Decidable.not_not.1 a2;refine Br.mk (fun a3=>absurd a3 oM) (fun a3=>?_);refine Ar.o ?_;exact ⟨2,⟨oM,fun _=>k2 oM,fun _=>⟨a2,fun h=>absurd h oM⟩,fun h=>by omega⟩,zh [(0,some 0)],by dsimp only;omega⟩
   ·refine Br.mk (fun a3=>?_) (fun a3=>absurd a3 oM);refine Br.mk (fun a4=>bad (fun h=>a4 (qx.2 (h.2.1.2 oM)))) (fun a4=>?_);have a4:x.b=zp:=qx.1 (Decidable.not_not.1 a4);refine Ar.o ?_;exact ⟨2,⟨oM,fun _=>k2 oM,fun _=>⟨a4 ▸ zOK,fun _=>a4⟩,fun h=>by omega⟩,zh [(0,some 0)],by dsimp only;omega⟩
  ·refine Br.mk (fun a1=>?_) (fun a1=>?_)
   ·refine zb.t (yG x.c) ?_;refine Br.mk (fun a2=>bad (fun h=>a2 h.2.2.1)) (fun a2=>?_);have a2:zo x.c:=Decidable.not_not.1 a2;refine Br.mk (fun a3=>absurd a3 oM) (fun a3=>?_);refine Ar.o ?_;exact ⟨3,⟨oM,fun _=>k2 oM,fun _=>k3 oM,fun _=>⟨a2,fun h=>absurd h oM⟩⟩,zh [(0,some 0)],by dsimp only;omega⟩
   ·refine Br.mk (fun a3=>?_) (fun a3=>absurd a3 oM);refine Br.mk (fun a4=>bad (fun h=>a4 (qx.2 (h.2.2.2 oM)))) (fun a4=>?_);have a4:x.c=zp:=qx.1 (Decidable.not_not.1 a4);refine Ar.o ?_;exact ⟨3,⟨oM,fun _=>k2 oM,fun _=>k3 oM,fun _=>⟨a4 ▸ zOK,fun _=>a4⟩⟩,zh [(0,some 0)],by dsimp only;omega⟩
 ·have h3:k=3:=by have g1:¬(k:Int) < 3:=g1;omega
  subst h3;exact zu (by unfold qU;rw [if_neg h1,if_neg h2,if_neg (fun h=>h ⟨k2 oM,k3 oM,k4 oM⟩)])
theorem zk5{l:List Sg}{i:Nat}{x:Sg}(h:l[i]? =some x):zbQ l (i+1)=x.v:=by
 unfold zbQ;rw [if_neg oM,Nat.add_sub_cancel,h];rfl
theorem zqY(l:List Sg):zd Tryz.prog 119 [.sl sgE l] [] (twoI (uX l)) []:=by
 refine zc tok mix Tryz.func119 rfl rfl rfl ?_;have fin:∀{a b:Int},uX l=(a,b)->LE (.tup [i64 a,i64 b]) (twoI (uX l)):=fun h=>by rw [h];exact .refl
 intro hl;refine Br.mk (fun h=>fin (by unfold uX;rw [if_pos oM])) (fun h=>?_);have hc:uX l=chk 5 0 l:=by unfold uX;rw [if_neg oM]
 refine ⟨Nat,fun i=>⟨[(4,i64 i),(0,.sl sgE l)],[],0,22,0⟩,fun i=>i<=l.length/\chk 5 0 l=chk (zbQ l i) i (l.drop i),fun i=>l.length - i,0,?_,?_,?_⟩
 ·exact ⟨Nat.zero_le _,rfl⟩
 ·exact zh []
 rintro i ⟨h1,h2⟩
 intro hl1;refine Br.mk (fun h3=>?_) (fun h3=>?_)
 ·have hx:=List.getElem?_eq_getElem (show i < l.length by omega);generalize l[i]'oM=x at hx;rw [zfu hx] at h2;refine zb.t (zs7 l i x hx oM) ?_;refine Br.mk (fun h4=>fin ?_) (fun h4=>?_)
  ·rw [hc,h2];unfold chk;rw [if_pos h4]
  ·refine Ar.o ?_;refine ⟨i+1,⟨oM,?_⟩,zh [],by dsimp only;omega⟩;rw [h2,zk5 hx];conv=>lhs;unfold chk
   rw [if_neg h4]
 ·refine fin (hc.trans (h2.trans ?_));rw [List.drop_eq_nil_of_le oM];rfl
theorem zgz(l:List Sg):zd Tryz.prog 64 [.sl sgE l] [] (pr (qK l)) []:=by
 refine zc tok mix Tryz.func64 rfl rfl rfl ?_;refine zb.t (zqY l) ?_;exact kZ Iff.rfl
theorem vC(v:Int): -1<=nm v/\nm v<=3:=by unfold nm;split <;> (try split) <;> (try split) <;> (try split) <;> (try split) <;> omega
def zD(s:Sg):List Pt:=[s.a,s.b,s.c].take (nm s.v).toNat
theorem zgA(s:Sg):zd Tryz.prog 73 [.agg (sgE s)] [] (.sl ptE (zD s)) []:=by
 refine zc tok mix Tryz.func73 rfl rfl rfl ?_;refine ⟨Pt,ptE,[s.a,s.b,s.c],rfl,Ob.o0 ?_⟩;refine zb.t (zco s.v) ?_;have hr:=vC s.v;refine Sl.see (Ob.mk ⟨dC,by show 0<=max (nm s.v) 0;omega,by show max (nm s.v) 0<=3;omega,Int.le_refl _⟩ ?_);refine qb ?_;show ([s.a,s.b,s.c].drop 0).take (max (nm s.v) 0 - 0).toNat=_;unfold zD;rw [List.drop_zero];congr 1;omega
def zY(l:List Sg):List Pt:=l.flatMap zD
def mnP(p q:Pt):Pt:=⟨min p.x q.x,min p.y q.y⟩
def mxP(p q:Pt):Pt:=⟨max p.x q.x,max p.y q.y⟩
def bnd(f:Pt->Pt->Pt)(q:List Pt):Pt:=q.foldl f (q.headD zp)
theorem zh8{f:Pt->Pt->Pt}(p:Pt):bnd f ([]++[p])=f p p:=rfl
theorem zk6{f:Pt->Pt->Pt}{q:List Pt}(h:q≠[])(p:Pt):bnd f (q++[p])=f (bnd f q) p:=by
 cases q with
 | nil=>exact absurd rfl h
 | cons a r=>simp [bnd,List.foldl_append]
def zbR(l:List Sg):Prop:=qK l/\zY l≠[]
instance (l:List Sg):Decidable (zbR l):=inferInstanceAs (Decidable (_/\_))
def zbo(l:List Sg):Pt:=if qK l then bnd mnP (zY l) else zp
def zbp(l:List Sg):Pt:=if qK l then bnd mxP (zY l) else zp
def zph(l:List Sg):SV:=.tup [.agg (ptE (zbo l)),.agg (ptE (zbp l)),pr (zbR l)]
theorem uC{l:List Sg}{i:Nat}{x:Sg}(h:l[i]? =some x):zY (l.take (i+1))=zY (l.take i)++zD x:=by
 unfold zY;rw [List.take_add_one,h];simp [List.flatMap_append]
theorem zau{l:List Sg}(h:qK l):l.length<=256:=by
 unfold qK uX at h
 by_cases e:256 < l.length
 ·rw [if_pos e] at h;cases h
 ·omega
theorem zqZ(l:List Sg):zd Tryz.prog 61 [.sl sgE l] [] (zph l) []:=by
 refine zc tok mix Tryz.func61 rfl rfl rfl ?_
 have fin:∀{a b:Pt} {s:SV},zbo l=a->zbp l=b->LE s (pr (zbR l))->LE (.tup [.agg (ptE a),.agg (ptE b),s]) (zph l):=fun h1 h2 h=>by
  unfold zph;rw [h1,h2];exact ue (.cons .refl (.cons .refl (.cons h .nil)))
 refine zb.t (zjy l) ?_;refine Br.mk (fun h=>?_) (fun h=>?_)
 ·refine Dr.d ?_;refine Ob.mk (by kernel_rfl) ?_;exact fin (a:=zp) (b:=zp) (if_neg h) (if_neg h) (ze fun hs=>h hs.1)
 have h:=Decidable.not_not.1 h;have hlen:=zau h;intro hl
 refine ⟨Nat×List Pt,fun q=>⟨[(19,i64 q.1),(18,i64 l.length),(17,.sl sgE l),(7,pr (q.2≠[])),(6,.loc 3 0),(5,.loc 2 0),(3,.loc 1 0),(2,.loc 0 0)],
  [(3,.box 52 (ptE (bnd mxP q.2))),(2,.box 52 (ptE (bnd mnP q.2))),(1,.box 52 (ptE zp)),(0,.box 52 (ptE zp))],4,61,0⟩,
  fun q=>q.1<=l.length/\q.2=zY (l.take q.1),fun q=>l.length - q.1,(0,[]),?_,?_,?_⟩
 ·exact ⟨Nat.zero_le _,rfl⟩
 ·exact (zaZ (t:=7) rfl (ze (q:=([]:List Pt)≠[]) (fun h=>h rfl))).trans (zh [(0,some 0),(1,some 1),(2,some 2),(3,some 3)])
 rintro ⟨i,q⟩ ⟨h1,h2⟩
 have h1:i<=l.length:=h1;have h2:q=zY (l.take i):=h2;refine Br.mk (fun h3=>?_) (fun h3=>?_)
 ·have h3:(i:Int) < l.length:=h3;refine Ob.mk ⟨by dsimp only;omega,h3⟩ ?_;intro x hx;have hx:l[i]? =some x:=hx;refine zb.t (zgA x) ?_;intro hl2
  refine ⟨Nat×List Pt,fun r=>⟨[(26,i64 r.1),(25,i64 (zD x).length),(24,.sl ptE (zD x)),(19,i64 i),(18,i64 l.length),(17,.sl sgE l),(7,pr (r.2≠[])),(6,.loc 3 0),(5,.loc 2 0),(3,.loc 1 0),(2,.loc 0 0)],
   [(3,.box 52 (ptE (bnd mxP r.2))),(2,.box 52 (ptE (bnd mnP r.2))),(1,.box 52 (ptE zp)),(0,.box 52 (ptE zp))],4,61,0⟩,
   fun r=>r.1<=(zD x).length/\r.2=q++(zD x).take r.1,fun r=>(zD x).length - r.1,(0,q),?_,?_,?_⟩
  ·exact ⟨Nat.zero_le _,by simp⟩
  ·exact zh [(0,some 0),(1,some 1),(2,some 2),(3,some 3)]
  rintro ⟨j,r⟩ ⟨j1,j2⟩
  have j1:j<=(zD x).length:=j1;have j2:r=q++(zD x).take j:=j2;refine Br.mk (fun j3=>?_) (fun j3=>?_)
  ·have j3:(j:Int) < (zD x).length:=j3;refine Ob.mk ⟨by dsimp only;omega,j3⟩ ?_;intro p hp;have hp:(zD x)[j]? =some p:=hp;have hr:r++[p]=q++(zD x).take (j+1):=by rw [j2,List.take_add_one,hp,List.append_assoc];rfl
   have inv:(j+1,r++[p]).1<=(zD x).length/\(j+1,r++[p]).2=q++(zD x).take (j+1,r++[p]).1:=⟨by show j+1<=_;omega,hr⟩;refine Br.mk (fun j4=>?_) (fun j4=>?_)
   ·have j4:r=[]:=Decidable.not_not.1 j4;refine Dr.d ?_;refine Ob.mk (by kernel_rfl) ?_;refine Ar.fit (by dsimp only;omega) ?_
    refine ⟨(j+1,r++[p]),inv,(zaZ (t:=7) rfl (kC (q:=r++[p]≠[]) (by simp))).trans (uP [(0,some 0),(1,some 1),(2,some 2),(3,some 3)] rfl rfl rfl
     ⟨rfl,rfl,rfl,rfl,rfl,rfl,rfl,rfl,rfl,rfl,rfl,trivial⟩ ⟨congrArg (fun p=>some (Mem.box 52 (ptE p))) (show mxP p p=bnd mxP (r++[p]) by rw [j4,zh8]),congrArg (fun p=>some (Mem.box 52 (ptE p))) (show mnP p p=bnd mnP (r++[p]) by rw [j4,zh8]),rfl,rfl,trivial⟩),
     by show (zD x).length - (j+1) < (zD x).length - j;omega⟩
   ·have j4:r≠[]:=fun e=>j4 (fun h=>h e)
    refine Ar.fit (by dsimp only;omega) ?_
    refine ⟨(j+1,r++[p]),inv,(zaZ (t:=7) rfl (kZ (q:=r++[p]≠[]) ⟨fun _=>by simp,fun _=>j4⟩)).trans (uP [(0,some 0),(1,some 1),(2,some 2),(3,some 3)] rfl rfl rfl
     ⟨rfl,rfl,rfl,rfl,rfl,rfl,rfl,rfl,rfl,rfl,rfl,trivial⟩ ⟨congrArg (fun p=>some (Mem.box 52 (ptE p))) (show mxP (bnd mxP r) p=bnd mxP (r++[p]) by rw [zk6 j4]),congrArg (fun p=>some (Mem.box 52 (ptE p))) (show mnP (bnd mnP r) p=bnd mnP (r++[p]) by rw [zk6 j4]),rfl,rfl,trivial⟩),
     by show (zD x).length - (j+1) < (zD x).length - j;omega⟩
  ·have j3:¬(j:Int) < (zD x).length:=j3;have hj:j=(zD x).length:=oM;refine Ar.o ?_
   refine ⟨(i+1,r),⟨by show i+1<=_;omega,by show r=zY (l.take (i+1));rw [j2,hj,List.take_length,h2,uC hx]⟩,uP [(0,some 0),(1,some 1),(2,some 2),(3,some 3)] rfl rfl rfl
    ⟨rfl,rfl,rfl,rfl,rfl,rfl,rfl,rfl,trivial⟩ ⟨rfl,rfl,rfl,rfl,trivial⟩,by show l.length - (i+1) < l.length - i;omega⟩
 ·have h3:¬(i:Int) < l.length:=h3;rw [List.take_of_length_le oM] at h2;subst h2;refine Dr.d ?_;refine Ob.mk (by kernel_rfl) ?_;exact fin (if_pos h) (if_pos h) (kZ ⟨fun hn=>⟨h,hn⟩,fun hs=>hs.2⟩)
theorem zmQ{s:Sg}{k:Nat}(h:(k:Int) < nm s.v):(zD s)[k]? =[s.a,s.b,s.c][k]? :=by
 unfold zD;rw [List.getElem?_take,if_pos oM]
theorem zq0(l:List Sg)(hlen:l.length<=300):zd Tryz.prog 63 [.sl sgE l] [] (.sl ptE (zY l)) []:=by
 refine zc tok mix Tryz.func63 rfl rfl rfl ?_
 have len3:∀n,(zY (l.take n)).length<=n*3:=fun n=>by
  induction n with
  | zero=>simp [zY]
  | succ n ih=>
   cases hx:l[n]? with
   | none=>rw [List.take_add_one,hx];simp;omega
   | some x=>
     rw [uC hx,List.length_append];have:(zD x).length<=3:=by simp [zD];omega
     omega
 refine ⟨Pt,ptE,[],rfl,Ob.o2 ?_⟩;refine ⟨Nat,fun i=>⟨[(4,i64 i),(3,.own 0),(0,.sl sgE l)],[(0,.arr 52 ptE 2 (zY (l.take i)))],1,36,0⟩,fun i=>i<=l.length,fun i=>l.length - i,0,?_,?_,?_⟩
 ·exact Nat.zero_le _
 ·exact zh [(0,some 0)]
 rintro i h1
 have h1:i<=l.length:=h1;intro hl1;refine Br.mk (fun h3=>?_) (fun h3=>?_)
 ·refine Ob.mk ⟨oM,h3⟩ ?_;intro x hx;have hx:l[i]? =some x:=hx;refine zb.t (zjz x) ?_;have hr:=vC x.v;have hl3:=len3 i
  refine ⟨Nat,fun k=>⟨[(6,i64 k),(5,.loc 1 0),(4,i64 i),(3,.own 0),(0,.sl sgE l)],[(1,.box 111 (ptE x.a++ptE x.b++ptE x.c)),(0,.arr 52 ptE 2 (zY (l.take i)++(zD x).take k))],2,36,0⟩,
   fun k=>k<=(zD x).length,fun k=>3 - k,0,?_,?_,?_⟩
  ·exact Nat.zero_le _
  ·exact zM [(0,some 0),(1,some 1)] ⟨rfl,congrArg (fun q=>some (Mem.arr 52 ptE 2 q)) (by simp),trivial⟩
  rintro k k1
  have k1:k<=(zD x).length:=k1;have hpl:(zD x).length=(nm x.v).toNat:=by simp [zD];omega
  refine Ob.mk ⟨oM,h3⟩ ?_;intro y hy;have hy:l[i]? =some y:=hy;rw [hx] at hy;cases hy
  refine zb.t (zgy x.v) ?_;refine Br.mk (fun k2=>?_) (fun k2=>?_)
  ·have k2:(k:Int) < nm x.v:=k2;have hp:=zmQ k2;have hk:k=0∨k=1∨k=2:=oM
   rcases hk with rfl | rfl | rfl
   ·have hp:(zD x)[0]? =some x.a:=hp;have hpl2:0 < (zD x).length:=(List.getElem?_eq_some_iff.1 hp).1;refine ⟨Pt,ptE,[x.a],rfl,Ob.o0 ?_⟩;refine ⟨_,rfl,Ob.o14 ?_⟩;refine Ar.fit dC ?_;refine ⟨1,by show 1<=_;omega,zM [(0,some 3),(1,some 1)] ⟨rfl,congrArg (fun q=>some (Mem.arr 52 ptE 2 q)) (by rw [List.append_assoc];congr 1;rw [List.take_add_one (i:=0),hp];rfl),trivial⟩,by dsimp only;omega⟩
   ·have hp:(zD x)[1]? =some x.b:=hp;have hpl2:1 < (zD x).length:=(List.getElem?_eq_some_iff.1 hp).1;refine ⟨Pt,ptE,[x.b],rfl,Ob.o0 ?_⟩;refine ⟨_,rfl,Ob.o14 ?_⟩;refine Ar.fit dC ?_;refine ⟨2,by show 2<=_;omega,zM [(0,some 3),(1,some 1)] ⟨rfl,congrArg (fun q=>some (Mem.arr 52 ptE 2 q)) (by rw [List.append_assoc];congr 1;rw [List.take_add_one (i:=1),hp];rfl),trivial⟩,by dsimp only;omega⟩
   ·have hp:(zD x)[2]? =some x.c:=hp;have hpl2:2 < (zD x).length:=(List.getElem?_eq_some_iff.1 hp).1;refine ⟨Pt,ptE,[x.c],rfl,Ob.o0 ?_⟩;refine ⟨_,rfl,Ob.o14 ?_⟩;refine Ar.fit dC ?_;refine ⟨3,by show 3<=_;omega,zM [(0,some 3),(1,some 1)] ⟨rfl,congrArg (fun q=>some (Mem.arr 52 ptE 2 q)) (by rw [List.append_assoc];congr 1;rw [List.take_add_one (i:=2),hp];rfl),trivial⟩,by dsimp only;omega⟩
  ·have k2:¬(k:Int) < nm x.v:=k2;refine Ar.o ?_;refine ⟨i+1,by show i+1<=_;omega,zM [(0,some 0)] ⟨congrArg (fun q=>some (Mem.arr 52 ptE 2 q)) (by rw [uC hx,List.take_of_length_le (l:=zD x) oM]),trivial⟩,by dsimp only;omega⟩
 ·refine qb ?_;rw [List.take_of_length_le oM]
theorem zcp(l:List Sg)(hlen:l.length<=300):zd Tryz.prog 32 [.sl sgE l] [] (zph l) []:=by
 refine zc tok mix Tryz.func32 rfl rfl rfl ?_
 have fin:∀{a b:Pt} {s:SV},zbo l=a->zbp l=b->LE s (pr (zbR l))->LE (.tup [.agg (ptE a),.agg (ptE b),s]) (zph l):=fun h1 h2 h=>by
  unfold zph;rw [h1,h2];exact ue (.cons .refl (.cons .refl (.cons h .nil)))
 refine zb.t (zq0 l hlen) ?_;refine zb.t (zgz l) ?_;refine Br.mk (fun h=>?_) (fun h=>?_)
 ·exact fin (a:=zp) (b:=zp) (if_neg h) (if_neg h) (ze fun hs=>h hs.1)
 have h:=Decidable.not_not.1 h;intro hl;refine Br.mk (fun h0=>?_) (fun h0=>?_)
 ·have h0:zY l=[]:=List.eq_nil_of_length_eq_zero oM;exact fin (a:=zp) (b:=zp) (by unfold zbo;rw [if_pos h,h0];rfl) (by unfold zbp;rw [if_pos h,h0];rfl) (ze fun hs=>hs.2 h0)
 have lo:=show zbo l=_ from if_pos h;have hi:=show zbp l=_ from if_pos h;have so:zbR l:=⟨h,fun e=>h0 (by rw [e];rfl)⟩;generalize zY l=q at*;have hq:0 < q.length:=oM;refine Dr.d ?_;refine Ob.o4 ?_;intro p hp;have hp:q[0]? =some p:=hp;refine Ob.o4 ?_;intro p' hp';have hp':q[0]? =some p':=hp';rw [hp] at hp';cases hp'
 refine Ob.mk (by kernel_rfl) ?_
 have hd:q.headD zp=p:=by cases q with
  | nil=>simp at hp
  | cons a r=>simpa using hp
 refine ⟨Nat,fun i=>⟨[(8,i64 i),(7,.loc 3 0),(6,.loc 2 0),(5,.sl ptE q),(3,.loc 1 0),(2,.loc 0 0)],
  [(3,.box 52 (ptE ((q.take i).foldl mxP p))),(2,.box 52 (ptE ((q.take i).foldl mnP p))),(1,.box 52 (ptE zp)),(0,.box 52 (ptE zp))],4,69,0⟩,
  fun i=>i<=q.length,fun i=>q.length - i,0,?_,?_,?_⟩
 ·exact Nat.zero_le _
 ·exact zh [(0,some 0),(1,some 1),(2,some 2),(3,some 3)]
 rintro i h1
 have h1:i<=q.length:=h1;intro hl2;refine Br.mk (fun h2=>?_) (fun h2=>?_)
 ·have h2:(i:Int) < q.length:=h2;have hx:=List.getElem?_eq_getElem (show i < q.length by omega);generalize q[i]'oM=x at hx;refine Dr.d ?_;refine Ob.mk ⟨oM,h2⟩ ?_;intro y hy;have hy:q[i]? =some y:=hy;rw [hx] at hy;cases hy
  refine Ob.mk ⟨oM,h2⟩ ?_;intro y hy;have hy:q[i]? =some y:=hy;rw [hx] at hy;cases hy
  refine Ob.mk (by kernel_rfl) ?_;refine Dr.d ?_;refine Ob.mk ⟨oM,h2⟩ ?_;intro y hy;have hy:q[i]? =some y:=hy;rw [hx] at hy;cases hy
  refine Ob.mk ⟨oM,h2⟩ ?_;intro y hy;have hy:q[i]? =some y:=hy;rw [hx] at hy;cases hy
  refine Ob.mk (by kernel_rfl) ?_;refine Ar.o ?_;have st:∀f:Pt->Pt->Pt,f ((q.take i).foldl f p) x=(q.take (i+1)).foldl f p:=fun f=>by rw [List.take_add_one,hx];simp [List.foldl_append]
  refine ⟨i+1,by show i+1<=_;omega,uP [(0,some 0),(1,some 1),(2,some 2),(3,some 3)] rfl rfl rfl ⟨rfl,rfl,rfl,rfl,rfl,rfl,trivial⟩
   ⟨congrArg (fun p=>some (Mem.box 52 (ptE p))) (st mxP),congrArg (fun p=>some (Mem.box 52 (ptE p))) (st mnP),rfl,rfl,trivial⟩,by dsimp only;omega⟩
 ·have h2:¬(i:Int) < q.length:=h2;have hi2:q.take i=q:=List.take_of_length_le oM;refine Dr.d ?_;refine Ob.mk (by kernel_rfl) ?_;exact fin (by rw [lo];unfold bnd;rw [hd,hi2]) (by rw [hi];unfold bnd;rw [hd,hi2]) (kC so)
end Go.Gs
