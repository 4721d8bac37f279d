/- Points copied, turned round, laid into a segment. -/
import Derived.Test.YtjgadnaphffpkaaGreatDoorNA
import Derived.Test.YtjgadnaphffpkaaGreatDoorNAK
set_option maxRecDepth 100000
set_option maxHeartbeats 8000000
set_option linter.all false
namespace Go.Gs
open Go.Proofs
def zj2(v:Int)(q:List Pt):Sg:=⟨v,q.getD 0 zp,q.getD 1 zp,q.getD 2 zp⟩
theorem gid(i:Nat)(x:List SV)(hx:[[SV.loc 1 1],[.loc 1 3],[.loc 1 5]][i]? =some x):ren.rens [(0,some 0),(1,some 1),(2,some 2)] x=some x:=by
 match i,hx with
 | 0,hx=>cases hx;rfl
 | 1,hx=>cases hx;rfl
 | 2,hx=>cases hx;rfl
theorem znI(v:Int)(q:List Pt):CG0 169 [i64 v,.sl ptE q] [] (.agg (sgE (zj2 v q))) []:=by
 refine zc Tryz.func169 ?_
 refine⟨[[.loc 1 1],[.loc 1 3],[.loc 1 5]],rfl,Ob.mk ⟨rfl,dC,dC,dC,λx hx=>by
  simp only[Kc,Kx,or_false]at hx
  rcases hx with rfl | rfl | rfl <;> rfl⟩ ?_⟩
 intro _
 refine⟨Nat,λi=>⟨[(15,i64 i),(14,i64 3),(13,.own 2),(5,.loc 1 0),(4,.loc 0 0),(1,.sl ptE q)],
  [(2,.garr 246 1 [[.loc 1 1],[.loc 1 3],[.loc 1 5]]),(1,.box 124 (sgE ⟨v,if 1<=i then q.getD 0 zp else zp,if 2<=i then q.getD 1 zp else zp,if 3<=i then q.getD 2 zp else zp⟩)),(0,.box 124 (sgE ⟨0,zp,zp,zp⟩))],3,32,0⟩,
  λi=>i<=3,λi=>3 - i,0,dC,zC [0,1,2] ⟨⟨_,rfl,rfl,λi x hx=>?_⟩,rfl,rfl,trivial⟩,?_⟩
 ·exact⟨x,hx,gid i x hx⟩
 rintro i hi
 have hi:i<=3:=hi;have e:i=0∨i=1∨i=2∨i=3:=oM
 rcases e with rfl | rfl | rfl | rfl
 ·refine Br.y<|Ob.mk ⟨dC,by show(0:Int) < ((3:Nat):Int);decide⟩<|Ob.mk ⟨dC,by show(0:Int) < ((3:Nat):Int);decide⟩ ?_;intro y hy;have hy:some [SV.loc 1 1]=some y:=hy
  cases hy
  intro _;refine⟨λh1=>?_,λh1=>?_⟩
  ·refine Ob.mk ⟨dC,h1⟩ ?_;intro x hx;have hx:q[0]? =some x:=hx;have hg:q.getD 0 zp=x:=by rw[Xt,hx];rfl
   exact Ar.fit dC<|⟨1,dC,zC [0,1,2] ⟨⟨_,rfl,rfl,λi x hx=>⟨x,hx,gid i x hx⟩⟩,congrArg (λp=>some (Mem.box 124 (sgE ⟨v,p,zp,zp⟩))) hg.symm,rfl,trivial⟩,dC⟩
  ·have h1:¬((0:Nat):Int) < q.length:=h1;have hg:q.getD 0 zp=zp:=by rw[Xt,XD oM];rfl
   exact Ar.fit dC<|⟨1,dC,zC [0,1,2] ⟨⟨_,rfl,rfl,λi x hx=>⟨x,hx,gid i x hx⟩⟩,congrArg (λp=>some (Mem.box 124 (sgE ⟨v,p,zp,zp⟩))) hg.symm,rfl,trivial⟩,dC⟩
 ·refine Br.y<|Ob.mk ⟨dC,by show(1:Int) < ((3:Nat):Int);decide⟩<|Ob.mk ⟨dC,by show(1:Int) < ((3:Nat):Int);decide⟩ ?_;intro y hy;have hy:some [SV.loc 1 3]=some y:=hy
  cases hy
  intro _;refine⟨λh1=>?_,λh1=>?_⟩
  ·refine Ob.mk ⟨dC,h1⟩ ?_;intro x hx;have hx:q[1]? =some x:=hx;have hg:q.getD 1 zp=x:=by rw[Xt,hx];rfl
   exact Ar.fit dC<|⟨2,dC,zC [0,1,2] ⟨⟨_,rfl,rfl,λi x hx=>⟨x,hx,gid i x hx⟩⟩,congrArg (λp=>some (Mem.box 124 (sgE ⟨v,q.getD 0 zp,p,zp⟩))) hg.symm,rfl,trivial⟩,dC⟩
  ·have h1:¬((1:Nat):Int) < q.length:=h1;have hg:q.getD 1 zp=zp:=by rw[Xt,XD oM];rfl
   exact Ar.fit dC<|⟨2,dC,zC [0,1,2] ⟨⟨_,rfl,rfl,λi x hx=>⟨x,hx,gid i x hx⟩⟩,congrArg (λp=>some (Mem.box 124 (sgE ⟨v,q.getD 0 zp,p,zp⟩))) hg.symm,rfl,trivial⟩,dC⟩
 ·refine Br.y<|Ob.mk ⟨dC,by show(2:Int) < ((3:Nat):Int);decide⟩<|Ob.mk ⟨dC,by show(2:Int) < ((3:Nat):Int);decide⟩ ?_;intro y hy;have hy:some [SV.loc 1 5]=some y:=hy
  cases hy
  intro _;refine⟨λh1=>?_,λh1=>?_⟩
  ·refine Ob.mk ⟨dC,h1⟩ ?_;intro x hx;have hx:q[2]? =some x:=hx;have hg:q.getD 2 zp=x:=by rw[Xt,hx];rfl
   exact Ar.fit dC<|⟨3,dC,zC [0,1,2] ⟨⟨_,rfl,rfl,λi x hx=>⟨x,hx,gid i x hx⟩⟩,congrArg (λp=>some (Mem.box 124 (sgE ⟨v,q.getD 0 zp,q.getD 1 zp,p⟩))) hg.symm,rfl,trivial⟩,dC⟩
  ·have h1:¬((2:Nat):Int) < q.length:=h1;have hg:q.getD 2 zp=zp:=by rw[Xt,XD oM];rfl
   exact Ar.fit dC<|⟨3,dC,zC [0,1,2] ⟨⟨_,rfl,rfl,λi x hx=>⟨x,hx,gid i x hx⟩⟩,congrArg (λp=>some (Mem.box 124 (sgE ⟨v,q.getD 0 zp,q.getD 1 zp,p⟩))) hg.symm,rfl,trivial⟩,dC⟩
 ·refine⟨λh=>absurd h dC,λ_=>?_⟩;exact .refl
def zrO:Sg:=⟨5,zp,zp,zp⟩
def oks:Int->List Sg->Prop
 | _,[]=>True
 | last,s::r=>jV last s=0/\oks s.v r
theorem zte:∀{l:List Sg} {last:Int} {i:Nat},(chk last i l).1=0↔oks last l
 | [],_,_=>by simp[chk,oks]
 | s::r,last,i=>by
  unfold chk oks
  by_cases h:jV last s=0
  ·rw[if_neg (λhn=>hn h),zte];exact⟨λk=>⟨h,k⟩,λk=>k.2⟩
  ·rw[if_pos h];exact⟨λk=>absurd k h,λk=>absurd k.1 h⟩
theorem zaQ{l:List Sg}:qU l↔l.length<=256/\oks 5 l:=by
 unfold qU zai
 by_cases h:256 < l.length
 ·rw[if_pos h];exact⟨λk=>absurd k dC,λk=>absurd h oM⟩
 ·rw[if_neg h,zte];exact⟨λk=>⟨oM,k⟩,λk=>k.2⟩
variable{last:Int}
theorem u9{s:Sg}:jV last s=0↔0<=nm s.v/\zbN last s.v/\zfk s:=by
 unfold jV
 by_cases h1:nm s.v < 0
 ·rw[if_pos h1];exact⟨λh=>absurd h dC,λh=>by omega⟩
 ·rw[if_neg h1]
  by_cases h2:zbN last s.v
  ·rw[if_neg (λh=>h h2)]
   by_cases h3:zfk s
   ·rw[if_neg (λh=>h h3)];exact⟨λ_=>⟨oM,h2,h3⟩,λ_=>rfl⟩
   ·rw[if_pos h3];exact⟨λh=>absurd h dC,λh=>absurd h.2.2 h3⟩
  ·rw[if_pos h2];exact⟨λh=>absurd h dC,λh=>absurd h.2.1 h2⟩
theorem zl0{v:Int}(h:0<=nm v):v=1∨v=2∨v=3∨v=4∨v=5:=by
 unfold nm at h
 by_cases h1:v=1
 ·exact .inl h1
 rw[if_neg h1]at h
 by_cases h2:v=2
 ·exact .inr (.inl h2)
 rw[if_neg h2]at h
 by_cases h3:v=3
 ·exact .inr (.inr (.inl h3))
 rw[if_neg h3]at h
 by_cases h4:v=4
 ·exact .inr (.inr (.inr (.inl h4)))
 rw[if_neg h4]at h
 by_cases h5:v=5
 ·exact .inr (.inr (.inr (.inr h5)))
 rw[if_neg h5]at h;omega
def midV(s:Sg):Prop:=s.v=2∨s.v=3∨s.v=4
def Grp(g:List Sg)(last:Int):Prop:=
 ∃m mid,m.v=1/\(∀s∈mid,midV s)/\(∀s∈g,zfk s)/\
  ((g=m::mid/\last≠5/\(mid=[]->last=1))∨∃c,g=m::mid++[c]/\c.v=5/\last=5/\mid≠[])
theorem zxk{g:List Sg}{x:Sg}(h:Grp g last)(he:jV last x=0)(hv:x.v≠1):Grp (g++[x]) x.v:=by
 obtain⟨h0,h1,h2⟩:=u9.1 he;obtain⟨m,mid,g1,g2,g3,g4⟩:=h;have hs:last≠5/\(x.v≠5∨last≠1):=h1.resolve_left hv
 have hf:∀s∈g++[x],zfk s:=λs hs=>by
  rcases Xo.1 hs with hs | hs
  ·exact g3 s hs
  ·simp at hs;subst hs;exact h2
 rcases g4 with⟨rfl,g5,g6⟩ | ⟨c,_,_,g5,_⟩
 ·by_cases h5:x.v=5
  ·exact⟨m,mid,g1,g2,hf,.inr ⟨x,rfl,h5,h5,λe=>(hs.2.resolve_left (λh=>h h5)) (g6 e)⟩⟩
  ·refine⟨m,mid++[x],g1,λs hs=>?_,hf,.inl ⟨rfl,h5,λe=>by simp at e⟩⟩
   rcases Xo.1 hs with hs | hs
   ·exact g2 s hs
   ·simp at hs;subst hs
    rcases zl0 h0 with h | h | h | h | h
    ·exact absurd h hv
    ·exact .inl h
    ·exact .inr (.inl h)
    ·exact .inr (.inr h)
    ·exact absurd h h5
 ·exact absurd g5 hs.1
theorem zl1{x:Sg}(he:jV last x=0)(hv:x.v=1):Grp [x] x.v:=
 ⟨x,[],hv,λs hs=>(by cases hs),λs hs=>by simp at hs;subst hs;exact(u9.1 he).2.2,.inl ⟨rfl,oM,λ_=>hv⟩⟩
def InvS(S:List (List Sg))(last:Int):Prop:=(S=[]/\last=5)∨∃cl g,S=cl++[g]/\Grp g last/\∀h∈cl,∃k,Grp h k
theorem zxl{S:List (List Sg)}{x:Sg}(h:InvS S last)(he:jV last x=0):InvS (zdO S x) x.v:=by
 unfold zdO
 by_cases hv:x.v=1
 ·rw[if_pos hv]
  rcases h with⟨rfl,rfl⟩ | ⟨cl,g,rfl,h1,h2⟩
  ·exact .inr ⟨[],[x],rfl,zl1 he hv,λh hh=>by cases hh⟩
  ·refine .inr ⟨cl++[g],[x],rfl,zl1 he hv,λh hh=>?_⟩
   rcases Xo.1 hh with hh | hh
   ·exact h2 h hh
   ·simp at hh;subst hh;exact⟨_,h1⟩
 ·rw[if_neg hv]
  rcases h with⟨rfl,rfl⟩ | ⟨cl,g,rfl,h1,h2⟩
  ·exact absurd ((u9.1 he).2.1.resolve_left hv).1 (λh=>h rfl)
  ·exact .inr ⟨cl,g++[x],by simp,zxk h1 he hv,h2⟩
theorem ztf:∀(r:List Sg) {S:List (List Sg)} {last:Int},InvS S last->oks last r->∃k,InvS (r.foldl zdO S) k
 | [],_,last,h,_=>⟨last,h⟩
 | _::r,_,_,h,ho=>ztf r (zxl h ho.1) ho.2
theorem zpC{l:List Sg}(h:qU l):∀g∈subs l,∃k,Grp g k:=by
 obtain⟨k,hk⟩:=ztf l (S:=[]) (last:=5) (.inl ⟨rfl,rfl⟩) (zaQ.1 h).2;intro g hg;have hg:g∈l.foldl zdO []:=hg
 rcases hk with⟨e,_⟩ | ⟨cl,g',e,h1,h2⟩
 ·rw[e]at hg;cases hg
 ·rw[e]at hg
  rcases Xo.1 hg with hg | hg
  ·exact h2 g hg
  ·simp at hg;subst hg;exact⟨_,h1⟩
theorem zpD(S:List (List Sg))(x:Sg):(zdO S x).flatten=S.flatten++[x]:=by
 unfold zdO
 by_cases hv:x.v=1
 ·rw[if_pos hv];simp
 ·rw[if_neg hv]
  rcases Yh S with rfl | ⟨cl,g,rfl⟩
  ·rfl
  ·simp
theorem zl2:∀(r:List Sg) (S:List (List Sg)),(r.foldl zdO S).flatten=S.flatten++r
 | [],S=>by simp
 | x::r,S=>by rw[Kw,zl2 r,zpD];simp
theorem zl3(l:List Sg):(subs l).flatten=l:=by
 unfold subs;rw[zl2];rfl
theorem zh8{l:List Sg}(h:qU l):∀x,l[0]? =some x->x.v=1:=λx hx=>by
 have ho:=(zaQ.1 h).2
 cases l with
 | nil=>cases hx
 | cons a r=>
  cases hx
  exact(u9.1 ho.1).2.1.resolve_right (λh=>h.1 rfl)
theorem zp_ok:zn zp:=dC
theorem ztg:∀(q:List Pt) (p:Pt),((q.foldl mnP p).x<=p.x/\(q.foldl mnP p).y<=p.y)/\(∀r∈q,(q.foldl mnP p).x<=r.x/\(q.foldl mnP p).y<=r.y)/\
  ((q.foldl mnP p).x=p.x∨∃r∈q,(q.foldl mnP p).x=r.x)/\((q.foldl mnP p).y=p.y∨∃r∈q,(q.foldl mnP p).y=r.y)
 | [],p=>⟨⟨KB _,KB _⟩,λr hr=>(by cases hr),.inl rfl,.inl rfl⟩
 | a::q,p=>by
  obtain⟨h1,h2,h3,h4⟩:=ztg q (mnP p a);rw[Kw];have e1:(mnP p a).x=min p.x a.x:=rfl;have e2:(mnP p a).y=min p.y a.y:=rfl;refine⟨⟨oM,oM⟩,λr hr=>?_,?_,?_⟩
  ·rcases Kc.1 hr with rfl | hr
   ·exact⟨oM,oM⟩
   ·exact h2 r hr
  ·rcases h3 with h3 | ⟨r,hr,h3⟩
   ·rcases QM p.x a.x with h | h
    ·exact .inl oM
    ·exact .inr ⟨a,.head _,oM⟩
   ·exact .inr ⟨r,.tail _ hr,h3⟩
  ·rcases h4 with h4 | ⟨r,hr,h4⟩
   ·rcases QM p.y a.y with h | h
    ·exact .inl oM
    ·exact .inr ⟨a,.head _,oM⟩
   ·exact .inr ⟨r,.tail _ hr,h4⟩
theorem zth:∀(q:List Pt) (p:Pt),(p.x<=(q.foldl mxP p).x/\p.y<=(q.foldl mxP p).y)/\(∀r∈q,r.x<=(q.foldl mxP p).x/\r.y<=(q.foldl mxP p).y)/\
  ((q.foldl mxP p).x=p.x∨∃r∈q,(q.foldl mxP p).x=r.x)/\((q.foldl mxP p).y=p.y∨∃r∈q,(q.foldl mxP p).y=r.y)
 | [],p=>⟨⟨KB _,KB _⟩,λr hr=>(by cases hr),.inl rfl,.inl rfl⟩
 | a::q,p=>by
  obtain⟨h1,h2,h3,h4⟩:=zth q (mxP p a);rw[Kw];have e1:(mxP p a).x=max p.x a.x:=rfl;have e2:(mxP p a).y=max p.y a.y:=rfl;refine⟨⟨oM,oM⟩,λr hr=>?_,?_,?_⟩
  ·rcases Kc.1 hr with rfl | hr
   ·exact⟨oM,oM⟩
   ·exact h2 r hr
  ·rcases h3 with h3 | ⟨r,hr,h3⟩
   ·rcases QM p.x a.x with h | h
    ·exact .inr ⟨a,.head _,oM⟩
    ·exact .inl oM
   ·exact .inr ⟨r,.tail _ hr,h3⟩
  ·rcases h4 with h4 | ⟨r,hr,h4⟩
   ·rcases QM p.y a.y with h | h
    ·exact .inr ⟨a,.head _,oM⟩
    ·exact .inl oM
   ·exact .inr ⟨r,.tail _ hr,h4⟩
def inR(n:Int):Prop:= -4096<=n/\n<=4096
instance (n:Int):Decidable (inR n):=inferInstanceAs (Decidable (_/\_))
def rok(a b c d:Int):Prop:=inR a/\inR b/\inR c/\inR d/\a < c/\b < d
instance (a b c d:Int):Decidable (rok a b c d):=inferInstanceAs (Decidable (_/\_))
def vJ(a b c d:Int):List Sg:=if rok a b c d then[⟨1,⟨a*256,b*256⟩,zp,zp⟩,⟨2,⟨c*256,b*256⟩,zp,zp⟩,⟨2,⟨c*256,d*256⟩,zp,zp⟩,⟨2,⟨a*256,d*256⟩,zp,zp⟩,zrO] else[]
def reE(a b c d:Int):List SV:=[i64 a,i64 b,i64 c,i64 d]
def uS(n:Int):List SV:=[i64 n]
theorem zCd{α:Type}{enc:α->List SV}:LE (.val (.slice none 0 0)) (.sl enc []):=λS Pm ρ w v hg=>by
 rw[hg.val_inv];exact .d _ _ (.nil enc none)
theorem zzN(a b c d:Int):CG0 65 [.agg (reE a b c d)] [] (pr (¬rok a b c d)) []:=by
 refine zc Tryz.func65 ?_;refine⟨Int,uS,[a,b,c,d],rfl,Ob.o0 ?_⟩;intro _
 refine⟨Nat,λi=>⟨[(15,i64 i),(14,i64 4),(13,.own 1),(1,.loc 0 0)],[(1,.arr 3 uS 1 [a,b,c,d]),(0,.box 86 (reE a b c d))],2,38,0⟩,
  λi=>i<=4/\∀(j:Nat) n,j < i->[a,b,c,d][j]? =some n->inR n,λi=>4 - i,0,⟨oM,λj n hj=>by omega⟩,zf [0,1],?_⟩
 rintro i ⟨h1,h2⟩
 refine⟨λh3=>?_,λh3=>?_⟩
 ·have h3:(i:Int) < 4:=h3;refine Ob.mk ⟨oM,h3⟩<|Ob.mk ⟨oM,h3⟩ ?_;intro n hn;have hn:[a,b,c,d][i]? =some n:=hn
  have out:¬inR n->¬rok a b c d:=λhr ⟨r1,r2,r3,r4,_⟩=>hr (by
   have:i=0∨i=1∨i=2∨i=3:=oM
   rcases this with rfl | rfl | rfl | rfl <;> (cases hn;assumption))
  refine⟨λh4=>zR (out λh=>by have:=h.1;omega),λh4=>?_⟩;refine⟨λh5=>zR (out λh=>by have:=h.2;omega),λh5=>?_⟩;refine Ar.o ?_
  exact⟨i+1,⟨oM,λj m hj hm=>by
   by_cases e:j=i
   ·subst e;rw[hn]at hm;cases hm;exact⟨oM,oM⟩
   ·exact h2 j m oM hm⟩,zf [0,1],by dsimp only;omega⟩
 ·have h3:¬(i:Int) < 4:=h3;have h0:=h2 0 a oM rfl;have h1:=h2 1 b oM rfl;have h4:=h2 2 c oM rfl;have h5:=h2 3 d oM rfl;refine⟨λh6=>zR λh=>by have:=h.2.2.2.2.1;omega,λh6=>?_⟩;refine zF ⟨λh7 h=>by have:=h.2.2.2.2.2;omega,λh=>?_⟩
  by_cases h8:d<=b
  ·exact h8
  ·exact absurd ⟨h0,h1,h4,h5,oM,oM⟩ h
theorem c_at(x y:Int)(hx:inR x)(hy:inR y):CG0 66 [i64 x,i64 y] [] (.agg (ptE ⟨x*256,y*256⟩)) []:=by
 refine zc Tryz.func66 ?_;unfold inR at hx hy;(iterate 2 refine Ar.o ?_);exact .refl
theorem zrP(a b c d:Int):CG0 31 [.agg (reE a b c d)] [] (.sl sgE (vJ a b c d)) []:=by
 refine zc Tryz.func31 ?_;have fin:∀{L:List Sg} {s:SV},vJ a b c d=L->LE s (.sl sgE L)->LE s (.sl sgE (vJ a b c d)):=λe h=>e ▸ h
 refine zb.t (zzN a b c d)<|⟨λh=>fin (if_neg h) zCd,λh=>?_⟩;have h:=Xa.1 h;have hL:=show vJ a b c d=_ from if_pos h;obtain⟨h1,h2,h3,h4,_⟩:=h;refine Dr.k<|zb.t (c_at a b h1 h2)<|zb.t (c_at c b h3 h2)<|zb.t (c_at c d h3 h4)<|zb.t (c_at a d h1 h4)<|⟨Sg,sgE,[⟨1,⟨a*256,b*256⟩,zp,zp⟩,⟨2,⟨c*256,b*256⟩,zp,zp⟩,⟨2,⟨c*256,d*256⟩,zp,zp⟩,⟨2,⟨a*256,d*256⟩,zp,zp⟩,zrO],(by kernel_rfl),Ob.o0 ?_⟩;exact fin hL (z9 rfl)
theorem znJ(n:Int):CG0 199 [i64 n] [] (pr (inR n)) []:=by
 refine zc Tryz.func199 ?_;refine⟨λh=>zF ⟨λk=>⟨h,k⟩,λk=>k.2⟩,λh=>zd λk=>h k.1⟩
theorem zuM(a b c d:Int):CG0 135 [.agg (reE a b c d)] [] (pr (inR a/\inR b/\inR c/\inR d)) []:=by
 refine zc Tryz.func135 ?_;refine zb.t (znJ a)<|⟨λh1=>?_,λh1=>zd λk=>h1 k.1⟩;refine zb.t (znJ b)<|⟨λh2=>?_,λh2=>zd λk=>h2 k.2.1⟩;refine zb.t (znJ c)<|⟨λh3=>?_,λh3=>zd λk=>h3 k.2.2.1⟩;exact zb.t (znJ d)<|zF ⟨λh4=>⟨h1,h2,h3,h4⟩,λk=>k.2.2.2⟩
theorem zxm(a b c d:Int):CG0 67 [.agg (reE a b c d)] [] (pr (¬rok a b c d)) []:=by
 refine zc Tryz.func67 ?_;refine zb.t (zuM a b c d)<|⟨λh=>zR λk=>h ⟨k.1,k.2.1,k.2.2.1,k.2.2.2.1⟩,λh=>?_⟩;obtain⟨h0,h1,h4,h5⟩:=Xa.1 h;refine⟨λh6=>zR λh=>by have:=h.2.2.2.2.1;omega,λh6=>?_⟩;refine zF ⟨λh7 h=>by have:=h.2.2.2.2.2;omega,λh=>?_⟩
 by_cases h8:d<=b
 ·exact h8
 ·exact absurd ⟨h0,h1,h4,h5,oM,oM⟩ h
theorem zh9(a b c d:Int):CG0 32 [.agg (reE a b c d)] [] (.sl sgE (vJ a b c d)) []:=by
 refine zc Tryz.func32 ?_;have fin:∀{L:List Sg} {s:SV},vJ a b c d=L->LE s (.sl sgE L)->LE s (.sl sgE (vJ a b c d)):=λe h=>e ▸ h
 refine zb.t (zxm a b c d)<|⟨λh=>?_,λh=>?_⟩
 ·refine⟨Sg,sgE,[],rfl,Ob.o2 ?_⟩;exact fin (if_neg h) .refl
 have h:=Xa.1 h;have hL:=show vJ a b c d=_ from if_pos h;obtain⟨h1,h2,h3,h4,_⟩:=h;unfold inR at h1 h2 h3 h4;refine Dr.d ?_;(iterate 4 refine Ar.o ?_);refine Ob.mk (by kernel_rfl)<|⟨Sg,sgE,[⟨1,⟨a*256,b*256⟩,zp,zp⟩,⟨2,⟨c*256,b*256⟩,zp,zp⟩,⟨2,⟨c*256,d*256⟩,zp,zp⟩,⟨2,⟨a*256,d*256⟩,zp,zp⟩,zrO],(by kernel_rfl),Ob.o0 ?_⟩;exact fin hL (z9 rfl)
def jo(p:Pen):List SV:=[i64 p.w,i64 p.j,i64 p.c,i64 p.m,.sl uS p.d,i64 p.ph]
def zdP(l:List Int)(i:Nat):Prop:=l=[]∨∃n∈l.take i,0 < n
variable{l:List Int}{i:Nat}{x:Int}
theorem zgi(h:l[i]? =some x):l.take (i+1)=l.take i++[x]:=by
 rw[Xm,h];rfl
theorem zcI(h:l[i]? =some x):zdP l (i+1)↔zdP l i∨0 < x:=by
 unfold zdP;rw[zgi h];constructor
 ·rintro(h | ⟨n,hn,h0⟩)
  ·exact .inl (.inl h)
  ·rcases Xo.1 hn with hn | hn
   ·exact .inl (.inr ⟨n,hn,h0⟩)
   ·rw[Xq]at hn;exact .inr (hn ▸ h0)
 ·rintro((h | ⟨n,hn,h0⟩) | h)
  ·exact .inl h
  ·exact .inr ⟨n,Qn _ hn,h0⟩
  ·exact .inr ⟨x,QH _ (Xq.2 rfl),h⟩
theorem zti{l:List Int}{i:Nat}(hi:l.length<=i)(ha:∀n∈l.take i,0<=n/\n<=1048576):uI l↔zdP l i/\l.length % 2=0/\(l.length:Int)<=16:=by
 rw[Xf hi]at ha;unfold uI zdP;rw[Xf hi];exact⟨λh=>h.2,λh=>⟨ha,h⟩⟩
theorem zgj(h:l[i]? =some x)(ha:∀n∈l.take i,0<=n/\n<=1048576)(hx:0<=x/\x<=1048576):∀n∈l.take (i+1),0<=n/\n<=1048576:=by
 rw[zgi h];intro n hn
 rcases Xo.1 hn with hn | hn
 ·exact ha n hn
 ·rw[Xq]at hn;exact hn ▸ hx
theorem zj3(h:l[i]? =some x)(hx:¬(0<=x/\x<=1048576)):¬uI l:=λk=>hx (k.1 x (Xd h))
theorem vw(l:List Int):CG0 241 [.sl uS l] [] (pr (uI l)) []:=by
 refine zc Tryz.func241 ?_;intro hl1;intro hl2;refine⟨Nat×Bool,λz=>⟨[(3,bl z.2),(11,i64 (z.1:Int)),(10,i64 (l.length:Int)),(9,.sl uS l),(0,.sl uS l)],[],0,39,0⟩,λz=>z.1<=l.length/\(z.2=true↔zdP l z.1)/\∀n∈l.take z.1,0<=n/\n<=1048576,λz=>l.length - z.1,(0,decide (l=[])),?_,?_,?_⟩
 ·refine⟨Xe _,?_,λn hn=>by cases hn⟩;show decide (l=[])=true↔_;unfold zdP;rw[decide_eq_true_iff];exact⟨.inl,λh=>h.elim id (λ⟨n,hn,_⟩=>by cases hn)⟩
 ·refine Sub.trans (qC (t:=3) (s':=bl (decide (l=[]))) rfl (zsN ?_)) (qA [] rfl rfl rfl ⟨rfl,rfl,rfl,rfl,rfl,trivial⟩ trivial);rw[decide_eq_true_iff,← XJ];omega
 rintro⟨i,b⟩ ⟨h1,h2,h3⟩
 dsimp only at h1 h2 h3;refine⟨λg=>?_,λg=>?_⟩
 ·have g:(i:Int) < l.length:=g;refine Ob.o ?_;intro x hx;refine⟨λa1=>zd (zj3 hx oM),λa1=>?_⟩;refine⟨λa2=>zd (zj3 hx oM),λa2=>?_⟩;have hx:l[i]? =some x:=hx
  cases b with
  | true=>
   refine Ar.o<|⟨(i+1,true),⟨by dsimp only;omega,?_,zgj hx h3 oM⟩,zE [],by dsimp only;omega⟩;exact⟨λ_=>(zcI hx).2 (.inl (h2.1 rfl)),λ_=>rfl⟩
  | false=>
   refine Ar.o<|⟨(i+1,decide (0 < x)),⟨by dsimp only;omega,?_,zgj hx h3 oM⟩,Sub.trans (qC (t:=3) (s':=bl (decide (0 < x))) rfl (zsN ?_)) (qA [] rfl rfl rfl ⟨rfl,rfl,rfl,rfl,rfl,trivial⟩ trivial),by dsimp only;omega⟩
   ·show decide (0 < x)=true↔zdP l (i+1);rw[decide_eq_true_iff,zcI (show l[i]? =some x from hx)];exact⟨.inr,λh=>h.elim (λk=>by have:=h2.2 k;cases this) id⟩
   ·rw[decide_eq_true_iff]
 ·have g:¬(i:Int) < l.length:=g;have hd:=zti (l:=l) (i:=i) oM h3
  cases b with
  | false=>
   exact zd (λk=>by have:=h2.2 (hd.1 k).1;cases this)
  | true=>
   intro hl3;refine Dv.pos ⟨oM,oM⟩<|⟨λa1=>?_,λa1=>zd (λk=>a1 (by have:=(hd.1 k).2.1;omega))⟩;intro hl4;exact zF ⟨λk=>hd.2 ⟨h2.1 rfl,oM,k⟩,λk=>(hd.1 k).2.2⟩
theorem zxn(l:List Int):CG0 127 [.sl uS l] [] (pr (uI l)) []:=by
 refine zc Tryz.func127 ?_;intro hl1;refine⟨Nat×Bool,λz=>⟨[(3,bl z.2),(4,i64 (z.1:Int)),(0,.sl uS l)],[],0,40,0⟩,λz=>z.1<=l.length/\(z.2=true↔zdP l z.1)/\∀n∈l.take z.1,0<=n/\n<=1048576,λz=>l.length - z.1,(0,decide (l=[])),?_,?_,?_⟩
 ·refine⟨Xe _,?_,λn hn=>by cases hn⟩;show decide (l=[])=true↔_;unfold zdP;rw[decide_eq_true_iff];exact⟨.inl,λh=>h.elim id (λ⟨n,hn,_⟩=>by cases hn)⟩
 ·refine Sub.trans (qC (t:=3) (s':=bl (decide (l=[]))) rfl (zsN ?_)) (qA [] rfl rfl rfl ⟨rfl,rfl,rfl,trivial⟩ trivial);rw[decide_eq_true_iff,← XJ];omega
 rintro⟨i,b⟩ ⟨h1,h2,h3⟩
 dsimp only at h1 h2 h3;intro hl2;refine⟨λg=>?_,λg=>?_⟩
 ·have g:(i:Int) < l.length:=g;refine Ob.o ?_;intro x hx;refine zb.t (zaj x 0 1048576)<|⟨λa1=>zd (zj3 hx a1),λa1=>?_⟩;have a1:0<=x/\x<=1048576:=Xa.1 a1;have hx:l[i]? =some x:=hx
  cases b with
  | true=>
   refine Ar.o<|⟨(i+1,true),⟨by dsimp only;omega,?_,zgj hx h3 a1⟩,zE [],by dsimp only;omega⟩;exact⟨λ_=>(zcI hx).2 (.inl (h2.1 rfl)),λ_=>rfl⟩
  | false=>
   refine Ob.o ?_;intro y hy;have hy:l[i]? =some y:=hy;have e:x=y:=Xi ((show l[i]? =some x from hx).symm.trans hy);subst e;refine Ar.o<|⟨(i+1,decide (0 < x)),⟨by dsimp only;omega,?_,zgj hx h3 a1⟩,Sub.trans (qC (t:=3) (s':=bl (decide (0 < x))) rfl (zsN ?_)) (qA [] rfl rfl rfl ⟨rfl,rfl,rfl,trivial⟩ trivial),by dsimp only;omega⟩
   ·show decide (0 < x)=true↔zdP l (i+1);rw[decide_eq_true_iff,zcI (show l[i]? =some x from hx)];exact⟨.inr,λh=>h.elim (λk=>by have:=h2.2 k;cases this) id⟩
   ·rw[decide_eq_true_iff]
 ·have g:¬(i:Int) < l.length:=g;have hd:=zti (l:=l) (i:=i) oM h3
  cases b with
  | false=>
   exact zd (λk=>by have:=h2.2 (hd.1 k).1;cases this)
  | true=>
   intro hl3;refine⟨λa1=>?_,λa1=>zd (λk=>a1 (hd.1 k).2.2)⟩;intro hl4;exact Dv.pos ⟨oM,oM⟩<|zF ⟨λk=>hd.2 ⟨h2.1 rfl,oM,a1⟩,λk=>by have:=(hd.1 k).2.1;omega⟩
theorem zia(p:Pen):kI p↔((1<=p.w/\p.w<=16384)/\(p.j=1∨p.j=2∨p.j=3)/\(p.c=3∨p.c=4∨p.c=5)/\(256<=p.m/\p.m<=65536)/\(0<=p.ph/\p.ph<=1048576))/\uI p.d:=by
 unfold kI ku;exact⟨λh=>⟨⟨h.1,h.2.1,h.2.2.1,h.2.2.2.1,h.2.2.2.2.2⟩,h.2.2.2.2.1⟩,λh=>⟨h.1.1,h.1.2.1,h.1.2.2.1,h.1.2.2.2.1,h.2,h.1.2.2.2.2⟩⟩
theorem zcJ(p:Pen):CG0 61 [.agg (jo p)] [] (pr (kI p)) []:=by
 have hp:=zia p;refine zc Tryz.func61 ?_;refine zb.t (znH p.w)<|⟨λa1=>zd (λk=>a1 (hp.1 k).1.1),λa1=>?_⟩;refine zb.t (zaj p.j 1 3)<|⟨λa2=>zd (λk=>by have:=(hp.1 k).1;omega),λa2=>?_⟩;refine zb.t (zaj p.c 3 5)<|⟨λa3=>zd (λk=>by have:=(hp.1 k).1;omega),λa3=>?_⟩;refine zb.t (zaj p.m 256 65536)<|⟨λa4=>?_,λa4=>zd (λk=>by have:=(hp.1 k).1;omega)⟩;refine zb.t (zxn p.d)<|⟨λa5=>?_,λa5=>zd (λk=>a5 (hp.1 k).2)⟩
 exact zb.t (zaj p.ph 0 1048576)<|zF ⟨λk=>hp.2 ⟨by unfold ku at a1;omega,a5⟩,λk=>by have:=(hp.1 k).1;omega⟩
theorem zeu(p:Pen):CG0 184 [.agg (jo p)] [] (pr (kI p)) []:=by
 have hp:=zia p;refine zc Tryz.func184 ?_;refine⟨λj1=>?_,λj1=>?_⟩
 ·
  refine⟨λc1=>?_,λc1=>?_⟩
  ·
   refine zb.t (vS p.w)<|⟨λw1=>?_,λw1=>zd (λk=>w1 (hp.1 k).1.1)⟩;refine⟨λm1=>?_,λm1=>zd (λk=>by have:=(hp.1 k).1;omega)⟩;refine⟨λm2=>?_,λm2=>zd (λk=>by have:=(hp.1 k).1;omega)⟩;refine zb.t (vw p.d)<|⟨λd1=>?_,λd1=>zd (λk=>d1 (hp.1 k).2)⟩;refine⟨λp1=>?_,λp1=>zd (λk=>by have:=(hp.1 k).1;omega)⟩;exact zF ⟨λk=>hp.2 ⟨by unfold ku at w1;omega,d1⟩,λk=>by have:=(hp.1 k).1;omega⟩
  refine⟨λc2=>?_,λc2=>?_⟩
  ·
   refine zb.t (vS p.w)<|⟨λw1=>?_,λw1=>zd (λk=>w1 (hp.1 k).1.1)⟩;refine⟨λm1=>?_,λm1=>zd (λk=>by have:=(hp.1 k).1;omega)⟩;refine⟨λm2=>?_,λm2=>zd (λk=>by have:=(hp.1 k).1;omega)⟩;refine zb.t (vw p.d)<|⟨λd1=>?_,λd1=>zd (λk=>d1 (hp.1 k).2)⟩;refine⟨λp1=>?_,λp1=>zd (λk=>by have:=(hp.1 k).1;omega)⟩;exact zF ⟨λk=>hp.2 ⟨by unfold ku at w1;omega,d1⟩,λk=>by have:=(hp.1 k).1;omega⟩
  refine zb.t (vS p.w)<|⟨λw1=>?_,λw1=>zd (λk=>w1 (hp.1 k).1.1)⟩;refine⟨λc3=>?_,λc3=>zd (λk=>by have:=(hp.1 k).1;omega)⟩;refine⟨λm1=>?_,λm1=>zd (λk=>by have:=(hp.1 k).1;omega)⟩;refine⟨λm2=>?_,λm2=>zd (λk=>by have:=(hp.1 k).1;omega)⟩;refine zb.t (vw p.d)<|⟨λd1=>?_,λd1=>zd (λk=>d1 (hp.1 k).2)⟩;refine⟨λp1=>?_,λp1=>zd (λk=>by have:=(hp.1 k).1;omega)⟩
  exact zF ⟨λk=>hp.2 ⟨by unfold ku at w1;omega,d1⟩,λk=>by have:=(hp.1 k).1;omega⟩
 refine⟨λj2=>?_,λj2=>?_⟩
 ·
  refine⟨λc1=>?_,λc1=>?_⟩
  ·
   refine zb.t (vS p.w)<|⟨λw1=>?_,λw1=>zd (λk=>w1 (hp.1 k).1.1)⟩;refine⟨λm1=>?_,λm1=>zd (λk=>by have:=(hp.1 k).1;omega)⟩;refine⟨λm2=>?_,λm2=>zd (λk=>by have:=(hp.1 k).1;omega)⟩;refine zb.t (vw p.d)<|⟨λd1=>?_,λd1=>zd (λk=>d1 (hp.1 k).2)⟩;refine⟨λp1=>?_,λp1=>zd (λk=>by have:=(hp.1 k).1;omega)⟩;exact zF ⟨λk=>hp.2 ⟨by unfold ku at w1;omega,d1⟩,λk=>by have:=(hp.1 k).1;omega⟩
  refine⟨λc2=>?_,λc2=>?_⟩
  ·
   refine zb.t (vS p.w)<|⟨λw1=>?_,λw1=>zd (λk=>w1 (hp.1 k).1.1)⟩;refine⟨λm1=>?_,λm1=>zd (λk=>by have:=(hp.1 k).1;omega)⟩;refine⟨λm2=>?_,λm2=>zd (λk=>by have:=(hp.1 k).1;omega)⟩;refine zb.t (vw p.d)<|⟨λd1=>?_,λd1=>zd (λk=>d1 (hp.1 k).2)⟩;refine⟨λp1=>?_,λp1=>zd (λk=>by have:=(hp.1 k).1;omega)⟩;exact zF ⟨λk=>hp.2 ⟨by unfold ku at w1;omega,d1⟩,λk=>by have:=(hp.1 k).1;omega⟩
  refine zb.t (vS p.w)<|⟨λw1=>?_,λw1=>zd (λk=>w1 (hp.1 k).1.1)⟩;refine⟨λc3=>?_,λc3=>zd (λk=>by have:=(hp.1 k).1;omega)⟩;refine⟨λm1=>?_,λm1=>zd (λk=>by have:=(hp.1 k).1;omega)⟩;refine⟨λm2=>?_,λm2=>zd (λk=>by have:=(hp.1 k).1;omega)⟩;refine zb.t (vw p.d)<|⟨λd1=>?_,λd1=>zd (λk=>d1 (hp.1 k).2)⟩;refine⟨λp1=>?_,λp1=>zd (λk=>by have:=(hp.1 k).1;omega)⟩
  exact zF ⟨λk=>hp.2 ⟨by unfold ku at w1;omega,d1⟩,λk=>by have:=(hp.1 k).1;omega⟩
 refine⟨λc1=>?_,λc1=>?_⟩
 ·
  refine zb.t (vS p.w)<|⟨λw1=>?_,λw1=>zd (λk=>w1 (hp.1 k).1.1)⟩;refine⟨λj3=>?_,λj3=>zd (λk=>by have:=(hp.1 k).1;omega)⟩;refine⟨λm1=>?_,λm1=>zd (λk=>by have:=(hp.1 k).1;omega)⟩;refine⟨λm2=>?_,λm2=>zd (λk=>by have:=(hp.1 k).1;omega)⟩;refine zb.t (vw p.d)<|⟨λd1=>?_,λd1=>zd (λk=>d1 (hp.1 k).2)⟩;refine⟨λp1=>?_,λp1=>zd (λk=>by have:=(hp.1 k).1;omega)⟩
  exact zF ⟨λk=>hp.2 ⟨by unfold ku at w1;omega,d1⟩,λk=>by have:=(hp.1 k).1;omega⟩
 refine⟨λc2=>?_,λc2=>?_⟩
 ·
  refine zb.t (vS p.w)<|⟨λw1=>?_,λw1=>zd (λk=>w1 (hp.1 k).1.1)⟩;refine⟨λj3=>?_,λj3=>zd (λk=>by have:=(hp.1 k).1;omega)⟩;refine⟨λm1=>?_,λm1=>zd (λk=>by have:=(hp.1 k).1;omega)⟩;refine⟨λm2=>?_,λm2=>zd (λk=>by have:=(hp.1 k).1;omega)⟩;refine zb.t (vw p.d)<|⟨λd1=>?_,λd1=>zd (λk=>d1 (hp.1 k).2)⟩;refine⟨λp1=>?_,λp1=>zd (λk=>by have:=(hp.1 k).1;omega)⟩
  exact zF ⟨λk=>hp.2 ⟨by unfold ku at w1;omega,d1⟩,λk=>by have:=(hp.1 k).1;omega⟩
 refine zb.t (vS p.w)<|⟨λw1=>?_,λw1=>zd (λk=>w1 (hp.1 k).1.1)⟩;refine⟨λj3=>?_,λj3=>zd (λk=>by have:=(hp.1 k).1;omega)⟩;refine⟨λc3=>?_,λc3=>zd (λk=>by have:=(hp.1 k).1;omega)⟩;refine⟨λm1=>?_,λm1=>zd (λk=>by have:=(hp.1 k).1;omega)⟩;refine⟨λm2=>?_,λm2=>zd (λk=>by have:=(hp.1 k).1;omega)⟩;refine zb.t (vw p.d)<|⟨λd1=>?_,λd1=>zd (λk=>d1 (hp.1 k).2)⟩
 refine⟨λp1=>?_,λp1=>zd (λk=>by have:=(hp.1 k).1;omega)⟩;exact zF ⟨λk=>hp.2 ⟨by unfold ku at w1;omega,d1⟩,λk=>by have:=(hp.1 k).1;omega⟩
abbrev S50(n:Int):Prop:= -1125899906842624<=n/\n<=1125899906842624
theorem zj4(p q:Pt)(hp:S50 p.x/\S50 p.y)(hq:S50 q.x/\S50 q.y):CG0 359 [.agg (ptE p),.agg (ptE q)] [] (.agg (ptE (zo p q))) []:=by
 refine zc Tryz.func359 ?_;(iterate 2 refine Ar.o ?_);exact .refl
theorem yg(p q:Pt)(hp:S50 p.x/\S50 p.y)(hq:S50 q.x/\S50 q.y):CG0 360 [.agg (ptE p),.agg (ptE q)] [] (.agg (ptE (zz p q))) []:=by
 refine zc Tryz.func360 ?_;(iterate 2 refine Ar.o ?_);exact .refl
theorem zhp(p q:Pt)(hp:S50 p.x/\S50 p.y)(hq:S50 q.x/\S50 q.y):CG0 368 [.agg (ptE p),.agg (ptE q)] [] (.agg (ptE (zo p q))) []:=by
 refine zc Tryz.func368 ?_;(iterate 2 refine Ar.o ?_);exact .refl
theorem zfl(p q:Pt)(hp:S50 p.x/\S50 p.y)(hq:S50 q.x/\S50 q.y):CG0 370 [.agg (ptE p),.agg (ptE q)] [] (.agg (ptE (zz p q))) []:=by
 refine zc Tryz.func370 ?_;(iterate 2 refine Ar.o ?_);exact .refl
variable{w:Int}
theorem zhq{v:Pt}(hw:ku w)(hx:¬zbp v.x)(hy:¬zbp v.y):
  (0<=v.x*v.x/\v.x*v.x<=4398046511104)/\(0<=v.y*v.y/\v.y*v.y<=4398046511104)/\
  (-34359738368<=v.x*w/\v.x*w<=34359738368)/\(-34359738368<= -v.y*w/\ -v.y*w<=34359738368)/\
  (0<=isq (65536*(v.x*v.x+v.y*v.y))/\isq (65536*(v.x*v.x+v.y*v.y)) < 4294967296):=by
 unfold zbp at hx hy;unfold ku at hw;have h1:=jA (A:=2097152) (B:=2097152) (a:=v.x) (b:=v.x) oM oM;have h2:=jA (A:=2097152) (B:=2097152) (a:=v.y) (b:=v.y) oM oM;have h3:=jA (A:=2097152) (B:=16384) (a:=v.x) (b:=w) oM oM;have h4:=jA (A:=2097152) (B:=16384) (a:= -v.y) (b:=w) oM oM;have h5:=jn v.x;have h6:=jn v.y;have h7:=zgf (n:=65536*(v.x*v.x+v.y*v.y)) oM oM;have h8:=zxc (n:=65536*(v.x*v.x+v.y*v.y)) oM oM;exact⟨oM,oM,oM,oM,h7.1,h8⟩
theorem zaR(v:Pt)(w:Int):(-4398046511104<=(z7 v w).x/\(z7 v w).x<=4398046511104)/\(-4398046511104<=(z7 v w).y/\(z7 v w).y<=4398046511104):=by
 unfold z7
 split
 ·exact⟨⟨dC,dC⟩,⟨dC,dC⟩⟩
 ·rename_i h;rw[not_or,not_or,not_or]at h;have hf:=zhq (Xa.1 h.1) h.2.1 h.2.2.1;exact⟨u7 (M:=4398046511104) oM,u7 (M:=4398046511104) oM⟩
theorem zj5(v:Pt)(w:Int):CG0 387 [.agg (ptE v),i64 w] [] (.agg (ptE (z7 v w))) []:=by
 refine zc Tryz.func387 ?_
 have bad:(¬ku w∨zbp v.x∨zbp v.y∨v=zp)->LE (.agg (ptE zp)) (.agg (ptE (z7 v w))):=λh=>by
  unfold z7;rw[if_pos h];exact .refl
 refine zb.t (vS w)<|⟨λa1=>bad (.inl a1),λa1=>?_⟩;refine zb.t (zBg v.x)<|⟨λa2=>bad (.inr (.inl a2)),λa2=>?_⟩;refine zb.t (zBg v.y)<|⟨λa3=>bad (.inr (.inr (.inl a3))),λa3=>?_⟩;refine⟨λa4=>bad (.inr (.inr (.inr (k9.1 a4)))),λa4=>?_⟩;have a1:=Xa.1 a1;have hf:=zhq a1 a2 a3;have a4:¬v=zp:=λh=>a4 (k9.2 h)
 (iterate 5 refine Ar.o ?_);refine zb.t (zxf (65536*(v.x*v.x+v.y*v.y)) oM)<|Ar.o<|Dr.k ?_;unfold ku at a1;unfold zbp at a2 a3;(iterate 3 refine Ar.o ?_);refine zb.t (zN (-v.y*w*128) (isq (65536*(v.x*v.x+v.y*v.y))) ⟨oM,oM⟩ ⟨oM,oM⟩) ?_;rw[uR oM];(iterate 2 refine Ar.o ?_);refine zb.t (zN (v.x*w*128) (isq (65536*(v.x*v.x+v.y*v.y))) ⟨oM,oM⟩ ⟨oM,oM⟩) ?_;rw[uR oM];unfold z7
 rw[if_neg (by unfold ku zbp;intro h;rcases h with h | h | h | h <;> first | exact a4 h | omega)];exact .refl
theorem zgk(v:Pt)(w:Int):CG0 367 [.agg (ptE v),i64 w] [] (.agg (ptE (z7 v w))) []:=by
 refine zc Tryz.func367 ?_
 have bad:(¬ku w∨zbp v.x∨zbp v.y∨v=zp)->LE (.agg (ptE zp)) (.agg (ptE (z7 v w))):=λh=>by
  unfold z7;rw[if_pos h];exact .refl
 have far:∀n:Int,¬(-2097152<=n/\n<=2097152)->zbp n:=λn h=>by unfold zbp;omega
 refine zb.t (znH w)<|⟨λa1=>bad (.inl a1),λa1=>?_⟩;refine zb.t (zaj v.x (-2097152) 2097152)<|⟨λa2=>bad (.inr (.inl (far _ a2))),λa2=>?_⟩;refine zb.t (zaj v.y (-2097152) 2097152)<|⟨λa3=>bad (.inr (.inr (.inl (far _ a3)))),λa3=>?_⟩;have a1:=Xa.1 a1;have b2:¬zbp v.x:=by unfold zbp;omega
 have b3:¬zbp v.y:=by unfold zbp;omega
 have hf:=zhq a1 b2 b3;(iterate 5 refine Ar.o ?_);refine zb.t (zta (65536*(v.x*v.x+v.y*v.y)) oM)<|Ar.o<|Dr.k ?_;(iterate 3 refine Ar.o ?_);refine zb.t (uf (-v.y*w*128) (isq (65536*(v.x*v.x+v.y*v.y))) ⟨oM,oM⟩ ⟨oM,oM⟩) ?_;rw[uR oM];(iterate 2 refine Ar.o ?_);refine zb.t (uf (v.x*w*128) (isq (65536*(v.x*v.x+v.y*v.y))) ⟨oM,oM⟩ ⟨oM,oM⟩) ?_;rw[uR oM]
 by_cases a4:v=zp
 ·have e1:zM (-v.y*w*128) (isq (65536*(v.x*v.x+v.y*v.y)))=0:=by
   rw[a4,show -zp.y*w*128=0 by show(-0:Int)*w*128=0;simp];exact zhn
  have e2:zM (v.x*w*128) (isq (65536*(v.x*v.x+v.y*v.y)))=0:=by
   rw[a4,show zp.x*w*128=0 by show(0:Int)*w*128=0;simp];exact zhn
  rw[e1,e2];exact bad (.inr (.inr (.inr a4)))
 ·unfold z7;rw[if_neg (by intro h;rcases h with h | h | h | h <;> first | exact a4 h | exact h a1 | exact b2 h | exact b3 h)];exact .refl
structure Pl where
 pts:List Pt
 cl:Bool
def plE(q:Pl):List SV:=[.sl ptE q.pts,pr (q.cl=true)]
def zh(r:List Pt):List SV:=[.sl ptE r]
def jd:List Pt->List Pt
 | []=>[]
 | p::r=>match r with
  | []=>[p]
  | q::_=>if p=q then jd r else p::jd r
def qm(l:List Pt):List Pt:=if 1 < l.length/\l.getLast?=l.head? then l.dropLast else l
def zu(p:Pl):Pl:=⟨if p.cl then qm (jd p.pts) else jd p.pts,p.cl⟩
def jI:List Pt->Prop
 | []=>True
 | p::r=>(∀q,r.head?=some q->p≠q)/\jI r
theorem zj6:∀l:List Pt,(jd l).head?=l.head?
 | []=>rfl
 | [p]=>rfl
 | p::q::r=>by
  unfold jd;dsimp only
  split
  ·rename_i h;rw[zj6 (q::r),h];rfl
  ·rfl
theorem ug:∀l:List Pt,jI (jd l)
 | []=>trivial
 | [p]=>⟨λ_ h=>(by cases h),trivial⟩
 | p::q::r=>by
  unfold jd;dsimp only
  split
  ·exact ug (q::r)
  ·rename_i h;refine⟨λz hz=>?_,ug (q::r)⟩;rw[zj6]at hz
   cases hz
   exact h
theorem zev:∀{l:List Pt} {p:Pt},p∈jd l->p∈l
 | [],_,h=>h
 | [q],_,h=>h
 | a::q::r,p,h=>by
  unfold jd at h;dsimp only at h
  split at h
  ·exact .tail _ (zev h)
  ·cases h with
   | head=>exact .head _
   | tail _ h=>exact .tail _ (zev h)
def nth(l:List Pt)(i:Nat):Pt:=l.getD i zp
def kZ(p:Pl)(pen:Pen):List (List Pt):=
 ((List.range (p.pts.length - 1)).flatMap λi=>kS (yb (nth p.pts i) (nth p.pts (i+1)) pen.w))++
 (if p.cl/\1 < p.pts.length then kS (yb (nth p.pts (p.pts.length - 1)) (nth p.pts 0) pen.w) else[])
def jp(p:Pl)(pen:Pen):List (List Pt):=
 if p.pts.length<=1 then[] else
 (List.range p.pts.length).flatMap λi=>if ¬p.cl=true/\(i=0∨i=p.pts.length - 1) then[]
  else ji (nth p.pts ((i+p.pts.length - 1) % p.pts.length)) (nth p.pts i) (nth p.pts ((i+1) % p.pts.length)) pen
def y9(a b:Pt)(pen:Pen):List Pt:=if pen.c=5 then zjZ a b pen.w else if pen.c=3 then vI b pen.w else[]
def zba(p:Pt)(pen:Pen):List Pt:=if pen.c=5 then zdK p pen.w else if pen.c=3 then vI p pen.w else[]
def zdQ(p:Pl)(pen:Pen):List (List Pt):=
 if p.pts.length=1 then kS (zba (nth p.pts 0) pen)
 else if 1 < p.pts.length/\¬p.cl=true then kS (y9 (nth p.pts 1) (nth p.pts 0) pen)++kS (y9 (nth p.pts (p.pts.length - 2)) (nth p.pts (p.pts.length - 1)) pen) else[]
def kA(p:Pl)(pen:Pen):List (List Pt):=kZ p pen++jp p pen++zdQ p pen
def qi(l:List (List Pt)):Nat:=(l.map List.length).sum
def kF(p:Pl)(pen:Pen):List (List Pt)×Int:=
 if ¬kI pen then([],13) else if ¬∀q∈p.pts,zn q then([],6) else if 4096 < p.pts.length then([],5)
 else if ¬∀r∈kA (zu p) pen,∀q∈r,zn q then([],6) else if 4096 < qi (kA (zu p) pen) then([],5) else(kA (zu p) pen,0)
def qu:List Pl->Pen->List (List Pt)×Int
 | [],_=>([],0)
 | p::r,pen=>if (kF p pen).2≠0 then([],(kF p pen).2)
  else if (qu r pen).2≠0 then([],(qu r pen).2) else((kF p pen).1++(qu r pen).1,0)
def qw(l:List Pl)(pen:Pen):List (List Pt)×Int:=
 if ¬kI pen then([],13) else if (qu l pen).2≠0 then([],(qu l pen).2) else if 4096 < qi (qu l pen).1 then([],5) else((qu l pen).1,0)
def yA(a b c:Pt):Int:=(a.x - 2*b.x+c.x)*(a.x - 2*b.x+c.x)+(a.y - 2*b.y+c.y)*(a.y - 2*b.y+c.y)
def enough(need tol:Int)(n:Nat):Prop:=need<=16*n*n*n*n*tol*tol
instance (need tol:Int) (n:Nat):Decidable (enough need tol n):=inferInstanceAs (Decidable (_<=_))
def yH(need tol:Int):Nat->Nat->Int×Int
 | 0,_=>(0,11)
 | k+1,n=>if enough need tol n then(n,0) else yH need tol k (n+1)
def k7(need tol:Int)(l:List Pt):Int×Int:=if ¬(1<=tol/\tol<=256) then(0,2) else if ¬∀p∈l,zn p then(0,6) else yH need tol 64 1
def yc(a b c:Pt)(tol:Int):Int×Int:=k7 (yA a b c) tol [a,b,c]
def yd(a b c d:Pt)(tol:Int):Int×Int:=k7 (9*max (yA a b c) (yA b c d)) tol [a,b,c,d]
def zpE(l:List Pt)(i n:Int):Prop:=(∀p∈l,zn p)/\1<=n/\n<=64/\0<=i/\i<=n
instance (l:List Pt) (i n:Int):Decidable (zpE l i n):=inferInstanceAs (Decidable (_/\_))
def q1(i n a b c:Int):Int:=zdJ ((n - i)*(n - i)*a+2*i*(n - i)*b+i*i*c) (n*n)
def yY(a b c:Pt)(i n:Int):Pt:=if ¬zpE [a,b,c] i n then zp else⟨q1 i n a.x b.x c.x,q1 i n a.y b.y c.y⟩
def c1(i n a b c d:Int):Int:=zdJ ((n - i)*(n - i)*(n - i)*a+3*i*(n - i)*(n - i)*b+3*i*i*(n - i)*c+i*i*i*d) (n*n*n)
def yZ(a b c d:Pt)(i n:Int):Pt:=if ¬zpE [a,b,c,d] i n then zp else⟨c1 i n a.x b.x c.x d.x,c1 i n a.y b.y c.y d.y⟩
def zb7(f:Int->Pt)(n:Nat):List Pt:=(List.range n).map λ(i:Nat)=>f ((i:Int)+1)
def zc3(a b c:Pt)(tol:Int):List Pt×Int:=if (yc a b c tol).2≠0 then([],(yc a b c tol).2) else(zb7 (λi=>yY a b c i (yc a b c tol).1) (yc a b c tol).1.toNat,0)
def zc4(a b c d:Pt)(tol:Int):List Pt×Int:=if (yd a b c d tol).2≠0 then([],(yd a b c d tol).2) else(zb7 (λi=>yZ a b c d i (yd a b c d tol).1) (yd a b c d tol).1.toNat,0)
def kw(rs:List (List Pt)):Prop:=(qi rs:Int)<=4096/\∀r∈rs,∀p∈r,zn p
instance (rs:List (List Pt)):Decidable (kw rs):=inferInstanceAs (Decidable (_/\_))
theorem zb8(r:List Pt):kw [r]↔znF r:=by
 unfold kw znF qi;simp
def zib(xs:List Pt):Int:=match xs.findIdx? (λp=>decide (¬zn p)) with
 | some i=>i
 | none=> -1
theorem zpF{xs:List Pt}{i:Nat}{p:Pt}(h:∀(j:Nat) q,j < i->xs[j]? =some q->zn q)(hi:xs[i]? =some p)(hp:¬zn p):zib xs=i:=by
 have:xs.findIdx? (λp=>decide (¬zn p))=some i:=by
  rw[KI];obtain⟨hl,he⟩:=Xc.1 hi;refine⟨hl,by simp[he,hp],λj hj=>?_⟩;have:=h j xs[j] hj (Xb _);simp[this]
 simp only[zib,this]
variable{xs:List Pt}
theorem zfm(h:∀p∈xs,zn p):zib xs= -1:=by
 have:xs.findIdx? (λp=>decide (¬zn p))=none:=by
  rw[Kt];intro p hp;simp[h p hp]
 simp only[zib,this]
theorem zgl:0<=zib xs↔¬∀p∈xs,zn p:=by
 constructor
 ·intro h hall;rw[zfm hall]at h;omega
 ·intro h;unfold zib
  split
  ·omega
  ·rename_i hn;rw[Kt]at hn;exact absurd (λp hp=>by simpa using hn p hp) h
theorem zxo(p:Pt):CG0 138 [.agg (ptE p)] [] (pr (¬zn p)) []:=by
 refine zc Tryz.func138 ?_;exact zb.t (qh p)<|zF K7
theorem zzO(xs:List Pt):CG0 200 [.sl ptE xs,.fn 138 []] [] (i64 (zib xs)) []:=by
 refine zc Tryz.func200 ?_;intro hl0;refine⟨Int,λi=>⟨[(8,i64 i),(7,i64 xs.length),(0,.sl ptE xs),(1,.fn 138 [])],[],0,19,0⟩,λi=>0<=i/\i<=xs.length/\∀(j:Nat) q,(j:Int) < i->xs[j]? =some q->zn q,λi=>((xs.length:Int) - i).toNat,0,?_,?_,?_⟩
 ·exact⟨oM,oM,λj q hj=>by omega⟩
 ·exact zE []
 rintro i ⟨h1,h2,h3⟩
 refine⟨λh4=>?_,λh4=>?_⟩
 ·refine Ob.o ?_;intro x hx;refine zb.t (zxo x)<|⟨λh5=>?_,λh5=>?_⟩
  ·refine zj ?_;rw[zpF (i:=i.toNat) (λj q hj=>h3 j q oM) hx h5];omega
  ·refine Ar.o<|⟨i+1,⟨oM,oM,λj q hj hq=>?_⟩,zE [],by dsimp only;omega⟩
   by_cases e:j=i.toNat
   ·subst e;rw[hx]at hq;cases hq;exact Xa.1 h5
   ·exact h3 j q oM hq
 ·refine zj (zfm λp hp=>?_).symm;obtain⟨j,hj,he⟩:=Ka hp;exact h3 j p oM (by rw[← he];exact Xb hj)
theorem zrQ(xs:List Pt):CG0 137 [.sl ptE xs,.fn 138 []] [] (pr (¬∀p∈xs,zn p)) []:=by
 refine zc Tryz.func137 ?_;exact zb.t (zzO xs)<|zF zgl
theorem vk{rs:List (List Pt)}{i:Nat}{r:List Pt}(h:rs[i]? =some r):qi (rs.take (i+1))=qi (rs.take i)+r.length:=by
 unfold qi;rw[Xm,h];simp
theorem zbB(rs:List (List Pt))(i:Nat):qi (rs.take i)<=qi rs:=by
 unfold qi
 conv=>rhs;rw[← Ki i rs]
 rw[XG,JA];omega
variable{r:List Pt}
theorem zcK{rs:List (List Pt)}(h:rs[i]? =some r)(ha:∀q∈rs.take i,∀p∈q,zn p)(hr:∀p∈r,zn p):∀q∈rs.take (i+1),∀p∈q,zn p:=by
 rw[Xm,h];intro q hq
 rcases Xo.1 hq with hq | hq
 ·exact ha q hq
 ·rw[JO,Xq]at hq;exact hq ▸ hr
theorem zj7(rs:List (List Pt))(hs:∀r∈rs,(r.length:Int)<=9223372036854771711):CG0 69 [.sl zh rs] [] (pr (kw rs)) []:=by
 refine zc Tryz.func69 ?_;intro hl1;refine⟨Nat,λi=>⟨[(3,i64 (qi (rs.take i):Int)),(8,i64 (i:Int)),(7,i64 (rs.length:Int)),(6,.sl zh rs)],[],0,23,0⟩,λi=>i<=rs.length/\(qi (rs.take i):Int)<=4096/\∀q∈rs.take i,∀p∈q,zn p,λi=>rs.length - i,0,?_,?_,?_⟩
 ·exact⟨Xe _,by show((0:Nat):Int)<=4096;decide,λq hq=>by cases hq⟩
 ·exact zE []
 rintro i ⟨h1,h2,h3⟩
 refine⟨λg=>?_,λg=>?_⟩
 ·refine Ob.o ?_;intro r hr;have hr:rs[i]? =some r:=hr;have hrl:=hs r (Xd hr);have hc:=vk hr;have hcl:=zbB rs (i+1);intro hl2;refine Ar.o<|Br.mk (λa1=>zd (λk=>by have:=k.1;omega)) (λa1=>?_);refine zb.t (zrQ r)<|⟨λa2=>zd (λk=>a2 (k.2 r (Xd hr))),λa2=>?_⟩;refine Ar.o ?_;have e:(qi (rs.take i):Int)+(r.length:Int)=((qi (rs.take (i+1)):Nat):Int):=oM;refine⟨i+1,⟨oM,oM,zcK hr h3 (Xa.1 a2)⟩,?_,by dsimp only;omega⟩;dsimp only;rw[← e]
  exact zE []
 ·rw[Xf oM]at h2 h3;exact zR ⟨h2,h3⟩
theorem zj8(rs:List (List Pt)):CG0 74 [.sl zh rs] [] (pr (kw rs)) []:=by
 refine zc Tryz.func74 ?_;refine⟨Nat,λi=>⟨[(3,i64 (qi (rs.take i):Int)),(4,i64 (i:Int)),(0,.sl zh rs)],[],0,45,0⟩,λi=>i<=rs.length/\(qi (rs.take i):Int)<=4096/\∀q∈rs.take i,∀p∈q,zn p,λi=>rs.length - i,0,?_,?_,?_⟩
 ·exact⟨Xe _,by show((0:Nat):Int)<=4096;decide,λq hq=>by cases hq⟩
 ·exact zE []
 rintro i ⟨h1,h2,h3⟩
 intro hl1;refine⟨λg=>?_,λg=>?_⟩
 ·refine Ob.o ?_;intro r hr;have hr:rs[i]? =some r:=hr;have hc:=vk hr;have hcl:=zbB rs (i+1);intro hl2;refine Ar.o<|Br.mk (λa1=>zd (λk=>by have:=k.1;omega)) (λa1=>?_);refine Ob.o ?_;intro r' hr';have e:r'=r:=Xi ((show rs[i]? =some r' from hr').symm.trans hr);rw[e];intro hl3;refine Ar.o ?_;have e:(qi (rs.take i):Int)+(r.length:Int)=((qi (rs.take (i+1)):Nat):Int):=oM;rw[e]
  refine⟨Nat,λk=>⟨[(5,i64 (k:Int)),(3,i64 (qi (rs.take (i+1)):Int)),(4,i64 (i:Int)),(0,.sl zh rs)],[],0,45,0⟩,λk=>k<=r.length/\∀p∈r.take k,zn p,λk=>r.length - k,0,?_,?_,?_⟩
  ·exact⟨Xe _,λq hq=>by cases hq⟩
  ·exact zE []
  rintro k ⟨k1,k2⟩
  refine Ob.o ?_;intro r' hr';have e:r'=r:=Xi ((show rs[i]? =some r' from hr').symm.trans hr);rw[e];intro hl4;refine⟨λg2=>?_,λg2=>?_⟩
  ·refine Ob.o ?_;intro r' hr';have e:r'=r:=Xi ((show rs[i]? =some r' from hr').symm.trans hr);rw[e];refine Ob.o ?_;intro x hx;have hx:r[k]? =some x:=hx;refine zb.t (kK x)<|⟨λa2=>zd (λkk=>a2 (kk.2 r (Xd hr) x (Xd hx))),λa2=>?_⟩;refine Ar.o<|⟨k+1,⟨oM,?_⟩,zE [],by dsimp only;omega⟩;rw[Xm,hx];intro q hq
   rcases Xo.1 hq with hq | hq
   ·exact k2 q hq
   ·rw[JO,Xq]at hq;exact hq ▸ Xa.1 a2
  ·rw[Xf oM]at k2;exact Ar.o<|⟨i+1,⟨oM,oM,zcK hr h3 k2⟩,zE [],by dsimp only;omega⟩
 ·rw[Xf oM]at h2 h3;exact zR ⟨h2,h3⟩
theorem zCe(n:Int)(p q:Pt)(hn: -4611686018427387904<=n/\n<=4611686018427387904):
  CG0 408 [.agg (ptE p),.agg (ptE q),.loc 0 0] [(0,.box 3 [i64 n])] (.tup []) [(0,.box 3 [i64 (n+zaw p q)])]:=by
 have hc:=zb5 (jZ p) (jZ q);exact uw tok mix Tryz.func408 rfl rfl rfl rfl rfl<|Dr.k<|zb.t (zzL p q)<|Ar.fit (by unfold zaw;omega)<|⟨rfl,.refl⟩
theorem ztj{n:Nat}(h:i < n):((i:Int)+1) % (n:Int)=(((i+1) % n:Nat):Int):=by rw[Jo,QD];rfl
theorem zl4{x y:Pt}(hx:r[i]? =some x)(hy:r[(((i:Int)+1) % (r.length:Int)).toNat]? =some y)(h:i < r.length):vj r (i+1)=vj r i+zaw x y:=by
 rw[ztj h,XW]at hy;rw[zfj,Xt,Xt,hx,hy];rfl
theorem zCf(r:List Pt)(hr:r.length<=4096):
  CG0 407 [.sl ptE r,.fn 408 [.loc 0 0]] [(0,.box 3 [i64 0])] (.tup []) [(0,.box 3 [i64 (vj r r.length)])]:=by
 refine uw tok mix Tryz.func407 rfl rfl rfl rfl rfl ?_;intro hl1;refine⟨Nat,λi=>⟨[(8,i64 (i:Int)),(7,i64 (r.length:Int)),(6,.sl ptE r),(0,.sl ptE r),(1,.fn 408 [.loc 0 0])],[(0,.box 3 [i64 (vj r i)])],1,25,1⟩,λi=>i<=r.length,λi=>r.length - i,0,?_,?_,?_⟩
 ·exact Xe _
 ·exact zf [0]
 rintro i h1
 refine⟨λg=>?_,λg=>?_⟩
 ·have g:(i:Int) < r.length:=g;refine Ob.o ?_;intro x hx;refine Dr.d<|Ar.o ?_;intro hl2;refine Dv.pos ⟨oM,oM⟩ ?_;have q1:=Kv ((i:Int)+1) (b:=(r.length:Int)) oM;have q2:=X8 ((i:Int)+1) (b:=(r.length:Int)) oM;refine Ob.mk ⟨q1,q2⟩ ?_;intro y hy;have hx:r[i]? =some x:=hx;have hy:r[(((i:Int)+1) % (r.length:Int)).toNat]? =some y:=hy;have ha:=zh6 r i;refine zb.hand 0 _ _ _ rfl (zCe (vj r i) x y oM) rfl rfl rfl rfl<|Ob.mk (by kernel_rfl)<|Ar.o ?_
  have e:vj r (i+1)=vj r i+zaw x y:=zl4 hx hy oM;refine⟨i+1,oM,?_,by dsimp only;omega⟩;dsimp only;rw[e];exact zf [0]
 ·have e:i=r.length:=by have g:¬(i:Int) < r.length:=g;omega
  subst e;exact⟨rfl,.refl⟩
theorem zCg(r:List Pt)(hr:(r.length:Int)<=9223372036854771711):CG0 388 [.sl ptE r] [] (i64 (zb6 r)) []:=by
 refine zc Tryz.func388 ?_;refine⟨List Pt,zh,[r],rfl,Ob.o0 ?_⟩;refine zb.see 0 _ (zj7 [r] (λq hq=>by rw[Xq]at hq;exact hq ▸ hr)) rfl rfl rfl<|Br.mk (λa1=>?_) (λa1=>?_)
 ·refine zj ?_;unfold zb6;rw[if_neg (λh=>a1 ((zb8 r).2 h))]
 ·have a1:=(zb8 r).1 (Xa.1 a1);refine zb.give [1] 0 [.sl ptE r,.fn 408 [.loc 0 0]] [(0,.box 3 [i64 0])] [(0,.box 3 [i64 (vj r r.length)])] (.tup []) (zCf r (by have:=a1.1;omega)) LEs.refl rfl rfl rfl ⟨⟨_,rfl,rfl,rfl⟩,trivial⟩ rfl ⟨⟨rfl,rfl⟩,trivial⟩<|zj ?_;unfold zb6;rw[if_pos a1]
theorem zCh(r:List Pt)(i:Nat)(y:Pt)(h:i < r.length/\r.length<=4096)(hy:r[(((i:Int)+1) % (r.length:Int)).toNat]? =some y):
  CG0 411 [.sl ptE r,i64 (i:Int)] [] (.agg (ptE y)) []:=by
 refine zc Tryz.func411 ?_;refine Ar.o ?_;intro hl1;refine Dv.pos ⟨oM,oM⟩ ?_;have q1:=Kv ((i:Int)+1) (b:=(r.length:Int)) oM;have q2:=X8 ((i:Int)+1) (b:=(r.length:Int)) oM;refine Ob.mk ⟨q1,q2⟩ ?_;intro z hz;have e:z=y:=Xi ((show r[(((i:Int)+1) % (r.length:Int)).toNat]? =some z from hz).symm.trans hy);rw[e];exact .refl
theorem zCi(r:List Pt):CG0 393 [.sl ptE r] [] (i64 (zb6 r)) []:=by
 refine zc Tryz.func393 ?_;refine⟨List Pt,zh,[r],rfl,Ob.o0 ?_⟩;refine zb.see 0 _ (zj8 [r]) rfl rfl rfl<|Br.mk (λa1=>?_) (λa1=>?_)
 ·refine zj ?_;unfold zb6;rw[if_neg (λh=>a1 ((zb8 r).2 h))]
 have a1:=(zb8 r).1 (Xa.1 a1);have hr:r.length<=4096:=by have:=a1.1;omega
 refine⟨Nat,λi=>⟨[(4,i64 (i:Int)),(3,i64 (vj r i)),(0,.sl ptE r)],[],1,26,0⟩,λi=>i<=r.length,λi=>r.length - i,0,?_,?_,?_⟩
 ·exact Xe _
 ·exact zE []
 rintro i h1
 intro hl1;refine⟨λg=>?_,λg=>?_⟩
 ·have g:(i:Int) < r.length:=g;refine Dr.k<|Ob.o ?_;intro x hx;have hx:r[i]? =some x:=hx;have hj:(i+1) % r.length < r.length:=Kn _ oM;obtain⟨y,hy0⟩:∃y,r[(i+1) % r.length]? =some y:=⟨_,Xb hj⟩;have hy:r[(((i:Int)+1) % (r.length:Int)).toNat]? =some y:=by rw[ztj oM,XW];exact hy0
  refine zb.t (zCh r i y ⟨oM,hr⟩ hy)<|zb.t (zzM x y) ?_;have ha:=zh6 r i;have hc:=zb5 (jZ x) (jZ y);refine Ar.fit (by unfold zaw;omega)<|Ar.o ?_;have e:vj r (i+1)=vj r i+zaw x y:=zl4 hx hy oM;refine⟨i+1,oM,?_,by dsimp only;omega⟩;dsimp only;rw[e];exact zE []
 ·have e:i=r.length:=by have g:¬(i:Int) < r.length:=g;omega
  subst e;refine zj ?_;unfold zb6;rw[if_pos a1]
theorem zpG(r:List Pt)(hr:r.length<=4096):CG0 120 [.sl ptE r] [] (.sl ptE r) []:=by
 refine zc Tryz.func120 ?_;refine⟨Pt,ptE,[],rfl,Ob.o2 ?_⟩;refine⟨Nat,λi=>⟨[(4,i64 (i:Int)),(3,.own 0),(0,.sl ptE r)],[(0,.arr 35 ptE 2 (r.take i))],1,20,0⟩,λi=>i<=r.length,λi=>r.length - i,0,?_,?_,?_⟩
 ·exact Xe _
 ·exact zf [0]
 rintro i h1
 intro hl1;refine⟨λg=>?_,λg=>?_⟩
 ·have g:(i:Int) < r.length:=g;refine Ob.o ?_;intro x hx;have hx:r[i]? =some x:=hx;refine⟨Pt,ptE,[x],rfl,Ob.o0 ?_⟩;have hlt:(r.take i).length=i:=by rw[Xk];omega
  refine⟨[x],rfl,Ob.mk ⟨(by show _*(16:Int)<=_;simp only[hlt,Xl,Xs];omega),(by simp only[hlt,Xl,Xs];omega),dC,λ_ _=>rfl⟩ ?_⟩;exact Ar.o<|⟨i+1,oM,zC [2] ⟨congrArg (λq=>some (Mem.arr 35 ptE 2 q)) (by rw[Xm,hx];rfl),trivial⟩,by dsimp only;omega⟩
 ·exact z9 (by rw[Xf (by have g:¬(i:Int) < r.length:=g;omega)])
theorem zl5:zb6 []=0:=by decide +kernel
theorem zhr{r:List Pt}(h:zb6 r≠0):r.length<=4096:=by
 unfold zb6 at h
 split at h
 ·rename_i k;have:=k.1;omega
 ·exact absurd rfl h
theorem zbb(r:List Pt):CG0 369 [.sl ptE r] [] (.sl ptE (kJ r)) []:=by
 refine zc Tryz.func369 ?_;refine zb.t (zCi r)<|⟨λa1=>?_,λa1=>?_⟩
 ·exact zb.t (zpG r (zhr oM))<|z9 (show r=kJ r by unfold kJ;rw[if_neg oM,if_neg oM])
 refine⟨Pt,ptE,[],rfl,Ob.o2 ?_⟩;refine⟨λa2=>?_,λa2=>?_⟩
 ·have hr:=zhr (r:=r) oM;have e:kJ r=zs8 r:=by unfold kJ;rw[if_neg oM,if_pos a2]
  cases r with
  | nil=>rw[zl5]at a2;omega
  | cons p q=>
   have hq:q.length+1<=4096:=hr;have hL:((p::q).length:Int)=q.length+1:=by simp only[Xl];omega
   refine Ob.o4 ?_;intro x hx;have hx:some p=some x:=hx
   cases hx
   refine⟨Pt,ptE,[p],rfl,Ob.o0 ?_⟩;refine⟨[p],rfl,Ob.o3 ?_⟩;intro hl1;refine Ar.o<|⟨Nat,λi=>⟨[(5,i64 (i:Int)),(4,.own 0),(0,.sl ptE (p::q))],[(0,.arr 35 ptE 2 (p::(q.drop i).reverse))],1,36,0⟩,λi=>i<=q.length,λi=>i,q.length,?_,?_,?_⟩
   ·exact Xh _
   ·exact zL [2] ⟨congrArg (λn=>some (i64 n)) oM,rfl,rfl,trivial⟩ ⟨congrArg (λr=>some (Mem.arr 35 ptE 2 r)) (by rw[List.drop_length];rfl),trivial⟩
   rintro i h1
   refine⟨λg=>?_,λg=>?_⟩
   ·have g:(0:Int) < i:=g;obtain⟨j,rfl⟩:∃j,i=j+1:=⟨i - 1,oM⟩;refine Ob.o4 ?_;intro y hy;have hy:q[j]? =some y:=hy;refine⟨Pt,ptE,[y],rfl,Ob.o0 ?_⟩;refine⟨[y],rfl,Ob.mk ⟨(by show _*(16:Int)<=_;simp only[Xl,Xs,Qu,XQ];omega),(by simp only[Xl,Xs,Qu,XQ];omega),dC,λ_ _=>rfl⟩ ?_⟩;refine Ar.o ?_
    refine⟨j,oM,zL [2] ⟨congrArg (λn=>some (i64 n)) (show((j+1:Nat):Int) - 1=(j:Int) by omega),rfl,rfl,trivial⟩ ⟨congrArg (λr=>some (Mem.arr 35 ptE 2 r)) ?_,trivial⟩,by dsimp only;omega⟩;rw[zgg hy,List.reverse_cons];rfl
   ·have g:¬(0:Int) < i:=g;have h0:i=0:=oM;subst h0;refine z9 ?_;rw[e];rfl
 ·refine z9 ?_;unfold kJ;rw[if_pos oM]
def zpH(q:List Pt)(i k:Nat):Pt:=if k < i∨q.length<=k+i then q.getD (q.length - 1 - k) zp else q.getD k zp
def zfn(q:List Pt)(i:Nat):List Pt:=(List.range q.length).map (zpH q i)
theorem zpI(q:List Pt)(i:Nat):(zfn q i).length=q.length:=by unfold zfn;simp
theorem zdR(q:List Pt)(i k:Nat):(zfn q i)[k]? =if k < q.length then some (zpH q i k) else none:=by
 unfold zfn;rw[XC]
 by_cases h:k < q.length
 ·rw[if_pos h,Qt h];rfl
 ·rw[if_neg h,XD (by simp;omega)];rfl
theorem zpJ{q:List Pt}{k:Nat}(h:k < q.length):q[k]? =some (q.getD k zp):=by
 rw[Xt,Xb h];rfl
theorem zuN(q:List Pt):zfn q 0=q:=by
 refine Ke λk=>?_
 rw[zdR]
 by_cases h:k < q.length
 ·rw[if_pos h,zpJ h];unfold zpH;rw[if_neg oM]
 ·rw[if_neg h,XD oM]
theorem zxp{q:List Pt}(h:q.length<=2*i+1):zfn q i=q.reverse:=by
 refine Ke λk=>?_
 rw[zdR]
 by_cases hk:k < q.length
 ·rw[if_pos hk,Jl hk,zpJ oM];unfold zpH
  by_cases c:k < i∨q.length<=k+i
  ·rw[if_pos c]
  ·rw[if_neg c,show q.length - 1 - k=k by omega]
 ·rw[if_neg hk,XD (by simp;omega)]
theorem zuO{q:List Pt}(h:2*i+1 < q.length):
  ((zfn q i).set i (q.getD (q.length - 1 - i) zp)).set (q.length - 1 - i) (q.getD i zp)=zfn q (i+1):=by
 refine Ke λk=>?_
 rw[Kf,Kf,X0,zpI,zdR,zdR]
 by_cases hk:k < q.length
 ·rw[if_pos hk,if_pos hk]
  by_cases c1:q.length - 1 - i=k
  ·rw[if_pos c1,if_pos oM];unfold zpH;rw[if_pos oM,show q.length - 1 - k=i by omega]
  ·rw[if_neg c1]
   by_cases c2:i=k
   ·rw[if_pos c2,if_pos oM];unfold zpH;rw[if_pos oM,c2]
   ·rw[if_neg c2];unfold zpH
    by_cases c3:k < i∨q.length<=k+i
    ·rw[if_pos c3,if_pos oM]
    ·rw[if_neg c3,if_neg oM]
 ·rw[if_neg oM,if_neg oM,if_neg hk,if_neg hk]
theorem ztk{q:List Pt}{k:Nat}(hk:k < q.length)(h:i<=k/\k+i < q.length):(zfn q i)[k]? =some (q.getD k zp):=by
 rw[zdR,if_pos hk];unfold zpH;rw[if_neg oM]
theorem p_rev(p:Pt)(q:List Pt)(hq:q.length<=4096):CG0 389 [.win 0 2 1 (q.length:Int)] [(0,.arr 35 ptE 2 (p::q))] (.tup []) [(0,.arr 35 ptE 2 (p::q.reverse))]:=by
 refine uw tok mix Tryz.func389 rfl rfl rfl (λ_ _=>rfl) rfl<|Ob.o<|Ar.o<|⟨Nat,λi=>⟨[(3,i64 ((q.length:Int) - 1 - i)),(2,i64 (i:Int)),(0,.win 0 2 1 (q.length:Int))],[(0,.arr 35 ptE 2 (p::zfn q i))],1,28,1⟩,λi=>2*i<=q.length,λi=>q.length - i,0,?_,?_,?_⟩
 ·exact Xe _
 ·exact zL [0] ⟨congrArg (λn=>some (i64 n)) oM,rfl,rfl,trivial⟩ ⟨congrArg (λr=>some (Mem.arr 35 ptE 2 (p::r))) (zuN q).symm,trivial⟩
 rintro i h1
 refine⟨λg=>?_,λg=>?_⟩
 ·have g:(i:Int) < (q.length:Int) - 1 - i:=g;have hlen:(p::zfn q i).length=q.length+1:=by rw[Xl,zpI]
  refine Dr.k<|Ob.o5<|Ob.mk (by rw[hlen];omega) ?_;intro x hx
  have hx:x=q.getD (q.length - 1 - i) zp:=by
   have e:(p::zfn q i)[(1+((q.length:Int) - 1 - i)).toNat]? =some x:=hx;rw[show(1+((q.length:Int) - 1 - i)).toNat=(q.length - 1 - i)+1 by omega,KL,ztk oM oM]at e;exact(Xi e).symm
  refine Ob.o5<|Ob.mk (by rw[hlen];omega) ?_;intro y hy
  have hy:y=q.getD i zp:=by
   have e:(p::zfn q i)[(1+(i:Int)).toNat]? =some y:=hy;rw[show(1+(i:Int)).toNat=i+1 by omega,KL,ztk oM oM]at e;exact(Xi e).symm
  refine Ob.o5<|Ob.mk (by rw[hlen];omega) ?_;intro x' _;refine⟨x,rfl,?_⟩;refine Ob.o5<|Ob.mk (by rw[X0,hlen];omega) ?_;intro y' _;refine⟨y,rfl,?_⟩;(iterate 2 refine Ar.o ?_);refine⟨i+1,oM,zL [0] ⟨congrArg (λn=>some (i64 n)) oM,rfl,rfl,trivial⟩ ⟨congrArg (λr=>some (Mem.arr 35 ptE 2 r)) ?_,trivial⟩,by dsimp only;omega⟩;show((p::zfn q i).set (1+(i:Int)).toNat x).set (1+((q.length:Int) - 1 - i)).toNat y=p::zfn q (i+1)
  rw[show(1+(i:Int)).toNat=i+1 by omega,show(1+((q.length:Int) - 1 - i)).toNat=(q.length - 1 - i)+1 by omega,JK,JK,hx,hy,zuO oM]
 ·have g:¬(i:Int) < (q.length:Int) - 1 - i:=g;refine⟨congrArg (λr=>some (Mem.arr 35 ptE 2 (p::r))) (zxp oM),.refl⟩
theorem znK(q:List Pt)(hq:q.length<=4096):CG0 172 [.sl ptE q] [] (.own 0) [(0,.arr 35 ptE 2 q)]:=by
 refine qY tok mix Tryz.func172 rfl rfl rfl ?_
 by_cases h0:q=[]
 ·refine zuf.any (Br.mk ?_ ?_)
  ·exact⟨none,.nil rfl,h0⟩
  ·refine⟨Pt,ptE,[],rfl,Ob.o2 ?_⟩;refine⟨q,rfl,Ob.o18 ?_⟩;exact⟨some 1,.own _ rfl,rfl,λ_ _=>rfl⟩
 ·refine zuf.some (λh=>h0 (Xn h))<|⟨Pt,ptE,[],rfl,Ob.o2 ?_⟩;refine⟨q,rfl,Ob.o18 ?_⟩;exact⟨some 1,.own _ rfl,rfl,λ_ _=>rfl⟩
theorem zuP(p:Pt):zb6 [p]=0:=by
 unfold zb6
 split
 ·show vj [p] 1=0;have e0:vj [p] 0=0:=by unfold vj;rfl
  have e1:[p].getD 0 zp=p:=rfl;have e2:[p].getD ((0+1) % [p].length) zp=p:=by show[p].getD ((0+1) % 1) zp=p;rw[Nat.mod_one];rfl
  rw[zfj,e0,e1,e2];unfold zaw;unfold wdg;rw[Qm (jz p).x];omega
 ·rfl
theorem zbc(r:List Pt)(hr:(r.length:Int)<=9223372036854771711):CG0 358 [.sl ptE r] [] (.sl ptE (kJ r)) []:=by
 refine zc Tryz.func358 ?_;refine zb.t (zCg r hr)<|⟨λa1=>?_,λa1=>?_⟩
 ·have e:kJ r=[]:=by unfold kJ;rw[if_pos a1]
  rw[e];exact zD
 have hq:=zhr a1;refine zb.fresh _ _ (znK r hq) rfl (λ_ _=>rfl) (.inr (λ_ _=>rfl))<|⟨λa2=>?_,λa2=>?_⟩
 ·have e:kJ r=zs8 r:=by unfold kJ;rw[if_neg a1,if_pos a2]
  cases r with
  | nil=>exact absurd zl5 a1
  | cons p q=>
   have h0:q≠[]:=λh=>a1 (by rw[h];exact zuP p)
   have h2:0 < q.length:=X5 λh=>h0 (Xn h)
   have hL:((p::q).length:Int)=(q.length:Int)+1:=by simp only[Xl];omega
   have hq:q.length<=4096:=by simp only[Xl]at hq;omega
   refine Sl.win (Ob.mk ⟨oM,oM,oM,oM⟩ ?_)
   have ct:CG0 389 [.win 0 2 1 (((p::q).length:Int) - 1)] [(0,.arr 35 ptE 2 (p::q))] (.tup []) [(0,.arr 35 ptE 2 (p::q.reverse))]:=by
    rw[show((p::q).length:Int) - 1=(q.length:Int) by omega];exact p_rev p q hq
   refine zb.hand 0 _ _ _ rfl ct (λ_ _=>rfl) (λ_ _=>rfl) rfl rfl ?_;rw[e];exact z9 rfl
 ·refine z9 (show r=kJ r by unfold kJ;rw[if_neg a1,if_neg a2])
def P45(p:Pt):Prop:=(-35184372088832<=p.x/\p.x<=35184372088832)/\(-35184372088832<=p.y/\p.y<=35184372088832)
variable{p:Pt}
theorem P45.s(h:P45 p):S50 p.x/\S50 p.y:=by unfold P45 at h;omega
theorem zn.p45(h:zn p):P45 p:=by unfold zn at h;unfold P45;omega
theorem jh(v:Pt)(w:Int):P45 (z7 v w):=by have:=zaR v w;unfold P45;omega
theorem zgm(v:Pt)(w:Int):P45 ⟨(z7 v w).y,-(z7 v w).x⟩:=by have:=zaR v w;unfold P45;dsimp only;omega
variable{q:Pt}
theorem zxq(h:P45 p)(k:P45 q):S50 (zo p q).x/\S50 (zo p q).y:=by
 unfold P45 at h k;show S50 (p.x - q.x)/\S50 (p.y - q.y);omega
theorem zxr(h:P45 p)(k:P45 q):S50 (zz p q).x/\S50 (zz p q).y:=by
 unfold P45 at h k;show S50 (p.x+q.x)/\S50 (p.y+q.y);omega
theorem zj9(hw:ku w):(-16384<=zM w 2/\zM w 2<=16384)/\y8 (zM w 2)=zM w 2:=by
 unfold ku at hw;have:=u7 (a:=w) (b:=2) (M:=16384) oM;exact⟨oM,uR oM⟩
theorem zpK(a b:Pt)(w:Int):CG0 357 [.agg (ptE a),.agg (ptE b),i64 w] []
  (.tup [.agg (ptE (if ku w/\zn a/\zn b then z7 (zo b a) w else zp)),pr (ku w/\zn a/\zn b)]) []:=by
 refine zc Tryz.func357 ?_
 have bad:¬(ku w/\zn a/\zn b)->LE (.tup [.agg (ptE zp),bl false]) (.tup [.agg (ptE (if ku w/\zn a/\zn b then z7 (zo b a) w else zp)),pr (ku w/\zn a/\zn b)]):=λh=>by
  rw[if_neg h];exact zI .refl (zd h)
 refine zb.t (vS w)<|⟨λa1=>bad (λh=>a1 h.1),λa1=>?_⟩;refine zb.t (qh a)<|⟨λa2=>bad (λh=>a2 h.2.1),λa2=>?_⟩;refine zb.t (qh b)<|⟨λa3=>bad (λh=>a3 h.2.2),λa3=>?_⟩;have h:ku w/\zn a/\zn b:=⟨Xa.1 a1,Xa.1 a2,Xa.1 a3⟩;refine zb.t (zj4 b a h.2.2.p45.s h.2.1.p45.s)<|zb.t (zj5 (zo b a) w) ?_;rw[if_pos h];exact zI .refl (zR h)
theorem zCj(a b:Pt)(w:Int):CG0 310 [.agg (ptE a),.agg (ptE b),i64 w] [] (.sl ptE (yb a b w)) []:=by
 refine zc Tryz.func310 ?_
 have bad:¬(ku w/\zn a/\zn b)->LE (.val (.slice none 0 0)) (.sl ptE (yb a b w)):=λh=>by
  unfold yb;rw[if_pos h];exact zD
 refine zb.t (zpK a b w)<|⟨λh=>bad h,λh=>?_⟩;have h:=Xa.1 h;rw[if_pos h];refine Dr.d<|zb.t (zj4 a (z7 (zo b a) w) h.2.1.p45.s (jh (zo b a) w).s)<|zb.t (zj4 b (z7 (zo b a) w) h.2.2.p45.s (jh (zo b a) w).s)<|zb.t (yg b (z7 (zo b a) w) h.2.2.p45.s (jh (zo b a) w).s)<|zb.t (yg a (z7 (zo b a) w) h.2.1.p45.s (jh (zo b a) w).s)<|⟨Pt,ptE,[zo a (z7 (zo b a) w),zo b (z7 (zo b a) w),zz b (z7 (zo b a) w),zz a (z7 (zo b a) w)],rfl,Ob.o0 ?_⟩
 refine zb.see 3 _ (zbc [zo a (z7 (zo b a) w),zo b (z7 (zo b a) w),zz b (z7 (zo b a) w),zz a (z7 (zo b a) w)] (by show((4:Nat):Int)<=_;decide)) rfl rfl rfl<|Ob.mk (by kernel_rfl) ?_;unfold yb;rw[if_neg (λk=>k h)];exact .refl
theorem p_cap(a b:Pt)(w:Int):CG0 365 [.agg (ptE a),.agg (ptE b),i64 w] [] (.sl ptE (zjZ a b w)) []:=by
 refine zc Tryz.func365 ?_
 have bad:¬(ku w/\zn a/\zn b)->LE (.val (.slice none 0 0)) (.sl ptE (zjZ a b w)):=λh=>by
  unfold zjZ;rw[if_pos h];exact zD
 refine zb.t (zpK a b w)<|⟨λh=>bad h,λh=>?_⟩;have h:=Xa.1 h;rw[if_pos h];have hn:=zaR (zo b a) w;refine Ar.o<|Dr.d<|zb.t (zj4 b (z7 (zo b a) w) h.2.2.p45.s (jh (zo b a) w).s)<|zb.t (zj4 b (z7 (zo b a) w) h.2.2.p45.s (jh (zo b a) w).s)<|zb.t (yg (zo b (z7 (zo b a) w)) ⟨(z7 (zo b a) w).y,-(z7 (zo b a) w).x⟩ (zxq h.2.2.p45 (jh (zo b a) w)) (zgm (zo b a) w).s)<|zb.t (yg b (z7 (zo b a) w) h.2.2.p45.s (jh (zo b a) w).s) ?_
 refine zb.t (yg (zz b (z7 (zo b a) w)) ⟨(z7 (zo b a) w).y,-(z7 (zo b a) w).x⟩ (zxr h.2.2.p45 (jh (zo b a) w)) (zgm (zo b a) w).s)<|zb.t (yg b (z7 (zo b a) w) h.2.2.p45.s (jh (zo b a) w).s)<|⟨Pt,ptE,[zo b (z7 (zo b a) w),zz (zo b (z7 (zo b a) w)) ⟨(z7 (zo b a) w).y,-(z7 (zo b a) w).x⟩,zz (zz b (z7 (zo b a) w)) ⟨(z7 (zo b a) w).y,-(z7 (zo b a) w).x⟩,zz b (z7 (zo b a) w)],rfl,Ob.o0 ?_⟩
 refine zb.see 4 _ (zbc [zo b (z7 (zo b a) w),zz (zo b (z7 (zo b a) w)) ⟨(z7 (zo b a) w).y,-(z7 (zo b a) w).x⟩,zz (zz b (z7 (zo b a) w)) ⟨(z7 (zo b a) w).y,-(z7 (zo b a) w).x⟩,zz b (z7 (zo b a) w)] (by show((4:Nat):Int)<=_;decide)) rfl rfl rfl<|Ob.mk (by kernel_rfl) ?_;unfold zjZ;rw[if_neg (λk=>k h)];exact .refl
theorem zCk(p:Pt)(w:Int):CG0 355 [.agg (ptE p),i64 w] [] (.sl ptE (zdK p w)) []:=by
 refine zc Tryz.func355 ?_
 have bad:¬(ku w/\zn p)->LE (.val (.slice none 0 0)) (.sl ptE (zdK p w)):=λh=>by
  unfold zdK;rw[if_pos h];exact zD
 refine zb.t (vS w)<|⟨λa1=>bad (λh=>a1 h.1),λa1=>?_⟩;refine zb.t (qh p)<|⟨λa2=>bad (λh=>a2 h.2),λa2=>?_⟩;have h:ku w/\zn p:=⟨Xa.1 a1,Xa.1 a2⟩;have hh:=zj9 h.1;have hw:=h.1;have hp:=h.2;unfold ku at hw;unfold zn at hp;refine zb.t (zN w 2 ⟨oM,oM⟩ ⟨oM,oM⟩) ?_;rw[hh.2];(iterate 8 refine Ar.o ?_)
 refine⟨Pt,ptE,[⟨p.x - zM w 2,p.y - zM w 2⟩,⟨p.x+zM w 2,p.y - zM w 2⟩,⟨p.x+zM w 2,p.y+zM w 2⟩,⟨p.x - zM w 2,p.y+zM w 2⟩],rfl,Ob.o0 ?_⟩;refine zb.see 1 _ (zbc [⟨p.x - zM w 2,p.y - zM w 2⟩,⟨p.x+zM w 2,p.y - zM w 2⟩,⟨p.x+zM w 2,p.y+zM w 2⟩,⟨p.x - zM w 2,p.y+zM w 2⟩] (by show((4:Nat):Int)<=_;decide)) rfl rfl rfl ?_;unfold zdK;rw[if_neg (λk=>k h)];exact .refl
theorem zxs(a b:Pt)(w:Int):CG0 315 [.agg (ptE a),.agg (ptE b),i64 w] [] (.sl ptE (yb a b w)) []:=by
 refine zc Tryz.func315 ?_;refine zb.t (ztd a b w)<|⟨λh=>?_,λh=>?_⟩
 ·refine⟨Pt,ptE,[],rfl,Ob.o2 ?_⟩;exact z9 (show[]=yb a b w by unfold yb;rw[if_pos h])
 have h:ku w/\zn a/\zn b:=Xa.1 h;refine zb.t (zhp b a h.2.2.p45.s h.2.1.p45.s)<|zb.t (zgk (zo b a) w)<|Dr.d<|zb.t (zhp a (z7 (zo b a) w) h.2.1.p45.s (jh (zo b a) w).s)<|zb.t (zhp b (z7 (zo b a) w) h.2.2.p45.s (jh (zo b a) w).s)<|zb.t (zfl b (z7 (zo b a) w) h.2.2.p45.s (jh (zo b a) w).s) ?_;refine zb.t (zfl a (z7 (zo b a) w) h.2.1.p45.s (jh (zo b a) w).s)<|⟨Pt,ptE,[zo a (z7 (zo b a) w),zo b (z7 (zo b a) w),zz b (z7 (zo b a) w),zz a (z7 (zo b a) w)],rfl,Ob.o0 ?_⟩
 refine zb.see 3 _ (zbb [zo a (z7 (zo b a) w),zo b (z7 (zo b a) w),zz b (z7 (zo b a) w),zz a (z7 (zo b a) w)]) rfl rfl rfl<|Ob.mk (by kernel_rfl) ?_;unfold yb;rw[if_neg (λk=>k h)];exact .refl
theorem r_cap(a b:Pt)(w:Int):CG0 319 [.agg (ptE a),.agg (ptE b),i64 w] [] (.sl ptE (zjZ a b w)) []:=by
 refine zc Tryz.func319 ?_;refine zb.t (ztd a b w)<|⟨λh=>?_,λh=>?_⟩
 ·refine⟨Pt,ptE,[],rfl,Ob.o2 ?_⟩;exact z9 (show[]=zjZ a b w by unfold zjZ;rw[if_pos h])
 have h:ku w/\zn a/\zn b:=Xa.1 h;refine zb.t (zhp b a h.2.2.p45.s h.2.1.p45.s)<|zb.t (zgk (zo b a) w) ?_;have hn:=zaR (zo b a) w;refine Ar.o<|Dr.d<|zb.t (zhp b (z7 (zo b a) w) h.2.2.p45.s (jh (zo b a) w).s)<|zb.t (zhp b (z7 (zo b a) w) h.2.2.p45.s (jh (zo b a) w).s)<|zb.t (zfl (zo b (z7 (zo b a) w)) ⟨(z7 (zo b a) w).y,-(z7 (zo b a) w).x⟩ (zxq h.2.2.p45 (jh (zo b a) w)) (zgm (zo b a) w).s)<|zb.t (zfl b (z7 (zo b a) w) h.2.2.p45.s (jh (zo b a) w).s) ?_
 refine zb.t (zfl (zz b (z7 (zo b a) w)) ⟨(z7 (zo b a) w).y,-(z7 (zo b a) w).x⟩ (zxr h.2.2.p45 (jh (zo b a) w)) (zgm (zo b a) w).s)<|zb.t (zfl b (z7 (zo b a) w) h.2.2.p45.s (jh (zo b a) w).s)<|⟨Pt,ptE,[zo b (z7 (zo b a) w),zz (zo b (z7 (zo b a) w)) ⟨(z7 (zo b a) w).y,-(z7 (zo b a) w).x⟩,zz (zz b (z7 (zo b a) w)) ⟨(z7 (zo b a) w).y,-(z7 (zo b a) w).x⟩,zz b (z7 (zo b a) w)],rfl,Ob.o0 ?_⟩
 refine zb.see 4 _ (zbb [zo b (z7 (zo b a) w),zz (zo b (z7 (zo b a) w)) ⟨(z7 (zo b a) w).y,-(z7 (zo b a) w).x⟩,zz (zz b (z7 (zo b a) w)) ⟨(z7 (zo b a) w).y,-(z7 (zo b a) w).x⟩,zz b (z7 (zo b a) w)]) rfl rfl rfl<|Ob.mk (by kernel_rfl) ?_;unfold zjZ;rw[if_neg (λk=>k h)];exact .refl
theorem zCl(p:Pt)(w:Int):CG0 317 [.agg (ptE p),i64 w] [] (.sl ptE (zdK p w)) []:=by
 refine zc Tryz.func317 ?_;refine zb.t (ztd p p w)<|⟨λh=>?_,λh=>?_⟩
 ·refine⟨Pt,ptE,[],rfl,Ob.o2 ?_⟩;exact z9 (show[]=zdK p w by unfold zdK;rw[if_pos (λk=>h ⟨k.1,k.2,k.2⟩)])
 have h:ku w/\zn p:=⟨(Xa.1 h).1,(Xa.1 h).2.1⟩;have hh:=zj9 h.1;have hw:=h.1;have hp:=h.2;unfold ku at hw;unfold zn at hp;refine zb.t (uf w 2 ⟨oM,oM⟩ ⟨oM,oM⟩) ?_;rw[hh.2];(iterate 8 refine Ar.o ?_);refine⟨Pt,ptE,[⟨p.x - zM w 2,p.y - zM w 2⟩,⟨p.x+zM w 2,p.y - zM w 2⟩,⟨p.x+zM w 2,p.y+zM w 2⟩,⟨p.x - zM w 2,p.y+zM w 2⟩],rfl,Ob.o0 ?_⟩
 refine zb.see 1 _ (zbb [⟨p.x - zM w 2,p.y - zM w 2⟩,⟨p.x+zM w 2,p.y - zM w 2⟩,⟨p.x+zM w 2,p.y+zM w 2⟩,⟨p.x - zM w 2,p.y+zM w 2⟩]) rfl rfl rfl ?_;unfold zdK;rw[if_neg (λk=>k h)];exact .refl
def wayN(q:Pt):Pt:=⟨-q.y,q.x⟩
theorem zuQ:∀i:Nat,i < 12->zw.take (4+i)++[wayN ((zw.take (4+i)).getD i zp)]=zw.take (4+(i+1)):=by decide +kernel
theorem j7:∀q∈zw,(-16384<=q.x/\q.x<=16384)/\(-16384<=q.y/\q.y<=16384):=by decide +kernel
theorem ztl{x:Pt}(h:(zw.take (4+i))[i]? =some x):x=(zw.take (4+i)).getD i zp:=by
 rw[Xt,h];rfl
theorem zCm:CG0 374 [] [] (.sl ptE zw) []:=by
 refine zc Tryz.func374 ?_;refine⟨Pt,ptE,zw.take 4,rfl,Ob.o0 ?_⟩;refine⟨Nat,λi=>⟨[(2,i64 (i:Int)),(1,.own 0)],[(0,.arr 35 ptE 2 (zw.take (4+i)))],1,28,0⟩,λi=>i<=12,λi=>12 - i,0,?_,?_,?_⟩
 ·exact Xe _
 ·exact zf [0]
 rintro i h1
 refine⟨λg=>?_,λg=>?_⟩
 ·have g:(i:Int) < 12:=g
  have hl:(zw.take (4+i)).length=4+i:=by
   rw[Xk,show zw.length=16 from rfl];omega
  refine Dr.d<|Ob.o<|Ob.mk (by rw[hl];omega) ?_;intro x hx;have hx:x=(zw.take (4+i)).getD i zp:=ztl hx;have hb:=j7 x (XE (i:=4+i) (by rw[hx,Xt,Xb oM];exact KO _));refine Ar.o<|Ob.o<|Ob.mk (by rw[hl];omega) ?_;intro y hy;have hy:y=x:=(ztl hy).trans hx.symm;rw[hy];refine⟨Pt,ptE,[wayN x],rfl,Ob.o0 ?_⟩
  refine⟨[wayN x],rfl,Ob.mk ⟨(by show _*(16:Int)<=_;simp only[hl,Xl,Xs];omega),(by simp only[hl,Xl,Xs];omega),dC,λ_ _=>rfl⟩ ?_⟩;exact Ob.mk (by kernel_rfl)<|Ar.o<|⟨i+1,oM,zC [2] ⟨congrArg (λq=>some (Mem.arr 35 ptE 2 q)) (show zw.take (4+i)++[wayN x]=zw.take (4+(i+1)) by rw[hx];exact zuQ i oM),trivial⟩,by dsimp only;omega⟩
 ·have e:i=12:=by have g:¬(i:Int) < 12:=g;omega
  subst e;exact z9 rfl
def qO(p:Pt)(w:Int)(q:Pt):Pt:=zz p ⟨zM (q.x*w) 32768,zM (q.y*w) 32768⟩
theorem z5(hx: -16384<=x/\x<=16384)(hw:ku w):(-268435456<=x*w/\x*w<=268435456)/\(-268435456<=zM (x*w) 32768/\zM (x*w) 32768<=268435456)/\y8 (zM (x*w) 32768)=zM (x*w) 32768:=by
 unfold ku at hw;have h:=jA (A:=16384) (B:=16384) (a:=x) (b:=w) oM oM;have:=u7 (a:=x*w) (b:=32768) (M:=268435456) oM;exact⟨oM,oM,uR oM⟩
theorem zrR(p:Pt)(w:Int):CG0 318 [.agg (ptE p),i64 w] [] (.sl ptE (vI p w)) []:=by
 refine zc Tryz.func318 ?_;refine zb.t (ztd p p w)<|⟨λh=>?_,λh=>?_⟩
 ·refine⟨Pt,ptE,[],rfl,Ob.o2 ?_⟩;exact z9 (show[]=vI p w by unfold vI;rw[if_pos (λk=>h ⟨k.1,k.2,k.2⟩)])
 have h:ku w/\zn p:=⟨(Xa.1 h).1,(Xa.1 h).2.1⟩;refine zb.t zCm<|⟨Pt,ptE,[],rfl,Ob.o2 ?_⟩;refine⟨Nat,λi=>⟨[(7,i64 (i:Int)),(6,.own 1),(5,.sl ptE zw),(2,.loc 0 0),(1,i64 w)],[(1,.arr 35 ptE 2 ((zw.take i).map (qO p w))),(0,.box 35 (ptE p))],2,46,0⟩,λi=>i<=16,λi=>16 - i,0,?_,?_,?_⟩
 ·exact Xe _
 ·exact zf [0,1]
 rintro i h1
 intro hl2;have hL:zw.length=16:=rfl;refine⟨λg=>?_,λg=>?_⟩
 ·have g:(i:Int) < (zw.length:Int):=g
  have hl:((zw.take i).map (qO p w)).length=i:=by
   rw[Xz,Xk];omega
  refine Dr.d<|Ob.o ?_;intro x hx;have hx:zw[i]? =some x:=hx;have hb:=j7 x (Xd hx);have t1:=z5 hb.1 h.1;have t2:=z5 hb.2 h.1;refine Ar.o<|zb.t (uf (x.x*w) 32768 ⟨oM,oM⟩ ⟨dC,dC⟩) ?_;rw[t1.2.2];refine Ob.o ?_;intro y hy;have hy:y=x:=Xi ((show zw[i]? =some y from hy).symm.trans hx);rw[hy];refine Ar.o<|zb.t (uf (x.y*w) 32768 ⟨oM,oM⟩ ⟨dC,dC⟩) ?_;rw[t2.2.2];refine zb.t (zfl p ⟨zM (x.x*w) 32768,zM (x.y*w) 32768⟩ h.2.p45.s ⟨by dsimp only;omega,by dsimp only;omega⟩) ?_
  refine⟨Pt,ptE,[qO p w x],rfl,Ob.o0 ?_⟩;refine⟨[qO p w x],rfl,Ob.mk ⟨(by show _*(16:Int)<=_;simp only[hl,Xl,Xs];omega),(by simp only[hl,Xl,Xs];omega),dC,λ_ _=>rfl⟩ ?_⟩;exact Ob.mk (by kernel_rfl)<|Ar.o<|⟨i+1,oM,zC [0,3] ⟨congrArg (λq=>some (Mem.arr 35 ptE 2 q)) (by rw[Xm,hx,XG];rfl),rfl,trivial⟩,by dsimp only;omega⟩
 ·have e:i=16:=by have g:¬(i:Int) < (zw.length:Int):=g;omega
  subst e;refine zb.see 1 _ (zbb (zw.map (qO p w))) rfl rfl rfl<|z9 (show kJ (zw.map (qO p w))=vI p w from ?_);unfold vI;rw[if_neg (λk=>k h)];rfl
def zka(p:Pt):Prop:=(-2097152<=p.x/\p.x<=2097152)/\(-2097152<=p.y/\p.y<=2097152)
theorem zew(hp:zn p)(hq:zn q):zka (zo p q):=by
 unfold zn at hp hq;show(-2097152<=p.x - q.x/\p.x - q.x<=2097152)/\(-2097152<=p.y - q.y/\p.y - q.y<=2097152);omega
theorem zpL(hp:zka p)(hq:zka q):(-4398046511104<=p.x*q.y/\p.x*q.y<=4398046511104)/\(-4398046511104<=p.y*q.x/\p.y*q.x<=4398046511104):=by
 have h1:=jA hp.1 hq.2;have h2:=jA hp.2 hq.1;omega
theorem zxt(p q:Pt)(hp:zka p)(hq:zka q):CG0 395 [.agg (ptE p),.agg (ptE q)] [] (i64 (wdg p q)) []:=by
 have h:=zpL hp hq;refine zc Tryz.func395 ?_;(iterate 3 refine Ar.o ?_);exact .refl
theorem ztm(w:Int):CG0 390 [i64 w] [] (pr (ku w)) []:=by
 refine zc Tryz.func390 ?_;refine⟨λh=>?_,λh=>zd (λk=>h k.1)⟩;exact zF ⟨λk=>⟨h,k⟩,λk=>k.2⟩
theorem ztn(w:Int):CG0 394 [i64 w] [] (pr (ku w)) []:=by
 refine zc Tryz.func394 ?_;refine⟨λh=>?_,λh=>zd (λk=>h k.1)⟩;exact zF ⟨λk=>⟨h,k⟩,λk=>k.2⟩
theorem zxu(a b:Pt)(ha:S50 a.x/\S50 a.y)(hb:S50 b.x/\S50 b.y):CG0 391 [.agg (ptE a),.agg (ptE b)] [] (.agg (ptE (zo b a))) []:=by
 refine zc Tryz.func391 ?_;(iterate 2 refine Ar.o ?_);exact .refl
theorem zuR(n:Pt):zo zp n=zhk n:=by
 unfold zo zhk zp;dsimp only;rw[Int.zero_sub,Int.zero_sub]
theorem zBh(n:Pt)(h:S50 n.x/\S50 n.y):CG0 391 [.agg (ptE n),.agg (ptE zp)] [] (.agg (ptE (zhk n))) []:=by
 have c:=zxu n zp h ⟨dC,dC⟩
 rwa [zuR]at c
theorem zkb(hp:zn p)(hq:zn q):zcE p q=zo p q:=by
 unfold zcE;rw[zb4 hp,zb4 hq]
def outE(o:Pt×Pt×Bool):SV:=.tup [.agg (ptE o.1),.agg (ptE o.2.1),pr (o.2.2=true)]
theorem vy{o:Pt×Pt×Bool}{n m:Pt}{b:Bool}(h:o=(n,m,b)):LE (.tup [.agg (ptE n),.agg (ptE m),bl b]) (outE o):=by
 subst h;exact vt (.cons .refl (.cons .refl (.cons zsO .nil)))
theorem zzP(a v b:Pt)(w:Int):CG0 362 [.agg (ptE a),.agg (ptE v),.agg (ptE b),i64 w] [] (outE (qB a v b w)) []:=by
 refine zc Tryz.func362 ?_;have bad:¬(zn a/\zn v/\zn b/\ku w)->qB a v b w=(zp,zp,false):=λh=>by unfold qB;rw[if_pos h]
 refine zb.t (qh a)<|⟨λa1=>vy (bad (λh=>a1 h.1)),λa1=>?_⟩;refine zb.t (qh v)<|⟨λa2=>vy (bad (λh=>a2 h.2.1)),λa2=>?_⟩;refine zb.t (qh b)<|⟨λa3=>vy (bad (λh=>a3 h.2.2.1)),λa3=>?_⟩;refine zb.t (ztm w)<|⟨λa4=>vy (bad (λh=>a4 h.2.2.2)),λa4=>?_⟩;have ha:=Xa.1 a1;have hv:=Xa.1 a2;have hb:=Xa.1 a3;have hw:=Xa.1 a4;have hx:=zew hv ha;have hy:=zew hb hv
 have e:qB a v b w=if wdg (zo v a) (zo b v)=0 then(zp,zp,false) else if 0 < wdg (zo v a) (zo b v) then(zhk (z7 (zo v a) w),zhk (z7 (zo b v) w),true) else(z7 (zo v a) w,z7 (zo b v) w,true):=by
  unfold qB;rw[if_neg (λk=>k ⟨ha,hv,hb,hw⟩)]
 have hd:=zpL hx hy;refine Dr.k<|zb.t (zxu a v ha.p45.s hv.p45.s)<|zb.t (zxu v b hv.p45.s hb.p45.s)<|Dr.k<|zb.t (zj5 (zo v a) w)<|zb.t (zj5 (zo b v) w) ?_;(iterate 3 refine Ar.o ?_);refine⟨λk=>?_,λk=>?_⟩
 ·have k:wdg (zo v a) (zo b v)=0:=k;exact vy (e.trans (if_pos k))
 have k:¬wdg (zo v a) (zo b v)=0:=k;refine⟨λk2=>?_,λk2=>?_⟩
 ·have k2:0 < wdg (zo v a) (zo b v):=k2;exact Dr.k<|zb.t (zBh (z7 (zo v a) w) (jh _ _).s)<|zb.t (zBh (z7 (zo b v) w) (jh _ _).s)<|vy (e.trans ((if_neg k).trans (if_pos k2)))
 ·have k2:¬0 < wdg (zo v a) (zo b v):=k2;exact Dr.d<|Ob.mk (by kernel_rfl)<|vy (e.trans ((if_neg k).trans (if_neg k2)))
theorem zzQ(a v b:Pt)(w:Int):CG0 371 [.agg (ptE a),.agg (ptE v),.agg (ptE b),i64 w] [] (outE (qB a v b w)) []:=by
 refine zc Tryz.func371 ?_;have bad:¬(zn a/\zn v/\zn b/\ku w)->qB a v b w=(zp,zp,false):=λh=>by unfold qB;rw[if_pos h]
 refine zb.t (kK a)<|⟨λa1=>vy (bad (λh=>a1 h.1)),λa1=>?_⟩;refine zb.t (kK v)<|⟨λa2=>vy (bad (λh=>a2 h.2.1)),λa2=>?_⟩;refine zb.t (kK b)<|⟨λa3=>vy (bad (λh=>a3 h.2.2.1)),λa3=>?_⟩;refine zb.t (ztn w)<|⟨λa4=>vy (bad (λh=>a4 h.2.2.2)),λa4=>?_⟩;have ha:=Xa.1 a1;have hv:=Xa.1 a2;have hb:=Xa.1 a3;have hw:=Xa.1 a4;have hx:=zew hv ha;have hy:=zew hb hv
 have e:qB a v b w=if wdg (zo v a) (zo b v)=0 then(zp,zp,false) else if 0 < wdg (zo v a) (zo b v) then(zhk (z7 (zo v a) w),zhk (z7 (zo b v) w),true) else(z7 (zo v a) w,z7 (zo b v) w,true):=by
  unfold qB;rw[if_neg (λk=>k ⟨ha,hv,hb,hw⟩)]
 have c1:=ztb v a;rw[zkb hv ha]at c1;have c2:=ztb b v;rw[zkb hb hv]at c2;have n1:=zaR (zo v a) w;have n2:=zaR (zo b v) w;refine Dr.k<|zb.t c1<|zb.t c2<|Dr.k<|zb.t (zgk (zo v a) w)<|zb.t (zgk (zo b v) w) ?_;refine zb.t (zxt (zo v a) (zo b v) hx hy)<|⟨λk=>?_,λk=>?_⟩
 ·exact vy (e.trans (if_pos k))
 refine⟨λk2=>?_,λk2=>?_⟩
 ·refine Dr.d ?_;(iterate 4 refine Ar.o ?_);exact Ob.mk (by kernel_rfl)<|Dr.d<|Ob.mk (by kernel_rfl)<|vy (n:=zhk (z7 (zo v a) w)) (m:=zhk (z7 (zo b v) w)) (e.trans ((if_neg k).trans (if_pos k2)))
 ·exact Dr.d<|Ob.mk (by kernel_rfl)<|vy (e.trans ((if_neg k).trans (if_neg k2)))
theorem zCn(a b:List (List Pt)):CG0 7 [.sl zh a,.sl zh b] [] (pr (a=b)) []:=by
 refine zc Tryz.func7 ?_;intro hl1 hl2;refine⟨λh1=>zd λe=>h1 (by rw[e]),λh1=>?_⟩;have h1:(a.length:Int)=b.length:=Xa.1 h1;refine⟨Nat,λi=>⟨[(5,i64 (i:Int)),(0,.sl zh a),(1,.sl zh b)],[],0,53,0⟩,λi=>i<=a.length/\∀j,j < i->a[j]? =b[j]?,λi=>a.length - i,0,?_,?_,?_⟩
 ·exact⟨Xe _,λj hj=>by omega⟩
 ·exact zE []
 rintro i ⟨h2,h3⟩
 intro hl3;refine⟨λg=>?_,λg=>?_⟩
 ·have g:(i:Int) < a.length:=g;refine Dr.k<|Ob.o ?_;intro x hx;have hx:a[i]? =some x:=hx;intro hl4;refine Ob.o ?_;intro y hy;have hy:b[i]? =some y:=hy;intro hl5;refine⟨λh4=>zd λe=>h4 ?_,λh4=>?_⟩
  ·rw[e,hy]at hx;rw[Xi hx]
  have h4:(x.length:Int)=y.length:=Xa.1 h4;refine⟨Nat,λk=>⟨[(6,i64 (k:Int)),(5,i64 (i:Int)),(0,.sl zh a),(1,.sl zh b)],[],0,53,0⟩,λk=>k<=x.length/\∀j,j < k->x[j]? =y[j]?,λk=>x.length - k,0,?_,?_,?_⟩
  ·exact⟨Xe _,λj hj=>by omega⟩
  ·exact zE []
  rintro k ⟨k1,k2⟩
  refine Ob.o ?_;intro x' hx';have e:x'=x:=Xi ((show a[i]? =some x' from hx').symm.trans hx);rw[e];intro hl6;refine⟨λg2=>?_,λg2=>?_⟩
  ·have g2:(k:Int) < x.length:=g2;refine Dr.k<|Ob.o ?_;intro x' hx';have e:x'=x:=Xi ((show a[i]? =some x' from hx').symm.trans hx);rw[e];refine Ob.o ?_;intro p hp;have hp:x[k]? =some p:=hp;refine Ob.o ?_;intro y' hy';have e:y'=y:=Xi ((show b[i]? =some y' from hy').symm.trans hy);rw[e];refine Ob.o ?_;intro q hq;have hq:y[k]? =some q:=hq;refine⟨λh5=>zd λe=>h5 ?_,λh5=>?_⟩
   ·rw[e,hy]at hx;rw[← Xi hx,hq]at hp;exact k9.2 (Xi hp).symm
   ·have h5:p=q:=k9.1 (Xa.1 h5);refine Ar.o<|⟨k+1,⟨oM,λj hj=>?_⟩,zE [],by dsimp only;omega⟩
    by_cases c:j=k
    ·rw[c,hp,hq,h5]
    ·exact k2 j oM
  ·have g2:¬(k:Int) < x.length:=g2
   have exy:x=y:=Ke λj=>by
    by_cases hj:j < k
    ·exact k2 j hj
    ·rw[XD oM,XD oM]
   refine Ar.o<|⟨i+1,⟨oM,λj hj=>?_⟩,zE [],by dsimp only;omega⟩
   by_cases c:j=i
   ·rw[c,hx,hy,exy]
   ·exact h3 j oM
 ·have g:¬(i:Int) < a.length:=g;refine zR (Ke λj=>?_)
  by_cases hj:j < i
  ·exact h3 j hj
  ·rw[XD oM,XD oM]
def wcell(i k j:Nat):Pt:=if j % 4 < i∨(j % 4=i/\j / 4 < k) then zw.getD j zp else zp
def zax(i k:Nat):List SV:=(List.range 16).flatMap λj=>ptE (wcell i k j)
theorem zCo:CG0 386 [] [] (.agg (zax 4 0)) []:=by
 refine zc Tryz.func386 ?_;refine⟨Nat,λi=>⟨[(10,i64 (i:Int)),(9,.agg [i64 16384,i64 0,i64 15137,i64 6270,i64 11585,i64 11585,i64 6270,i64 15137]),(1,.loc 1 0),(0,.loc 0 0)],[(1,.box 353 (zax i 0)),(0,.box 353 (zax 0 0))],2,28,0⟩,λi=>i<=4,λi=>4 - i,0,?_,?_,?_⟩
 ·exact Xe _
 ·exact zf [0,1]
 rintro i hi
 match i,hi with
 | 0,_=>
  refine Br.y<|⟨Nat,λk=>⟨[(14,i64 (k:Int)),(3,.loc 2 0),(2,i64 0),(10,i64 0),(9,.agg [i64 16384,i64 0,i64 15137,i64 6270,i64 11585,i64 11585,i64 6270,i64 15137]),(1,.loc 1 0),(0,.loc 0 0)],[(2,.box 35 (ptE (zw.getD ((4*k+0) % 16) zp))),(1,.box 353 (zax 0 k)),(0,.box 353 (zax 0 0))],3,28,0⟩,λk=>k<=4,λk=>4 - k,0,?_,?_,?_⟩
  ·exact Xe _
  ·exact zf [0,1,2]
  rintro k hk
  match k,hk with
  | 0,_=>
   exact Br.y<|Ar.fit dC<|Ar.fit dC<|zb.t (uJ (zw.getD 0 zp))<|Ar.fit dC<|⟨1,dC,zf [0,1,2],dC⟩
  | 1,_=>
   exact Br.y<|Ar.fit dC<|Ar.fit dC<|zb.t (uJ (zw.getD 4 zp))<|Ar.fit dC<|⟨2,dC,zf [0,1,2],dC⟩
  | 2,_=>
   exact Br.y<|Ar.fit dC<|Ar.fit dC<|zb.t (uJ (zw.getD 8 zp))<|Ar.fit dC<|⟨3,dC,zf [0,1,2],dC⟩
  | 3,_=>
   exact Br.y<|Ar.fit dC<|Ar.fit dC<|zb.t (uJ (zw.getD 12 zp))<|Ar.fit dC<|⟨4,dC,zf [0,1,2],dC⟩
  | 4,_=>
   refine⟨λh=>absurd h dC,λ_=>?_⟩;exact Ar.fit dC<|⟨1,dC,zf [0,1],dC⟩
  | _+5,hk=>exact absurd hk oM
 | 1,_=>
  refine Br.y<|⟨Nat,λk=>⟨[(14,i64 (k:Int)),(3,.loc 2 0),(2,i64 1),(10,i64 1),(9,.agg [i64 16384,i64 0,i64 15137,i64 6270,i64 11585,i64 11585,i64 6270,i64 15137]),(1,.loc 1 0),(0,.loc 0 0)],[(2,.box 35 (ptE (zw.getD ((4*k+1) % 16) zp))),(1,.box 353 (zax 1 k)),(0,.box 353 (zax 0 0))],3,28,0⟩,λk=>k<=4,λk=>4 - k,0,?_,?_,?_⟩
  ·exact Xe _
  ·exact zf [0,1,2]
  rintro k hk
  match k,hk with
  | 0,_=>
   exact Br.y<|Ar.fit dC<|Ar.fit dC<|zb.t (uJ (zw.getD 1 zp))<|Ar.fit dC<|⟨1,dC,zf [0,1,2],dC⟩
  | 1,_=>
   exact Br.y<|Ar.fit dC<|Ar.fit dC<|zb.t (uJ (zw.getD 5 zp))<|Ar.fit dC<|⟨2,dC,zf [0,1,2],dC⟩
  | 2,_=>
   exact Br.y<|Ar.fit dC<|Ar.fit dC<|zb.t (uJ (zw.getD 9 zp))<|Ar.fit dC<|⟨3,dC,zf [0,1,2],dC⟩
  | 3,_=>
   exact Br.y<|Ar.fit dC<|Ar.fit dC<|zb.t (uJ (zw.getD 13 zp))<|Ar.fit dC<|⟨4,dC,zf [0,1,2],dC⟩
  | 4,_=>
   refine⟨λh=>absurd h dC,λ_=>?_⟩;exact Ar.fit dC<|⟨2,dC,zf [0,1],dC⟩
  | _+5,hk=>exact absurd hk oM
 | 2,_=>
  refine Br.y<|⟨Nat,λk=>⟨[(14,i64 (k:Int)),(3,.loc 2 0),(2,i64 2),(10,i64 2),(9,.agg [i64 16384,i64 0,i64 15137,i64 6270,i64 11585,i64 11585,i64 6270,i64 15137]),(1,.loc 1 0),(0,.loc 0 0)],[(2,.box 35 (ptE (zw.getD ((4*k+2) % 16) zp))),(1,.box 353 (zax 2 k)),(0,.box 353 (zax 0 0))],3,28,0⟩,λk=>k<=4,λk=>4 - k,0,?_,?_,?_⟩
  ·exact Xe _
  ·exact zf [0,1,2]
  rintro k hk
  match k,hk with
  | 0,_=>
   exact Br.y<|Ar.fit dC<|Ar.fit dC<|zb.t (uJ (zw.getD 2 zp))<|Ar.fit dC<|⟨1,dC,zf [0,1,2],dC⟩
  | 1,_=>
   exact Br.y<|Ar.fit dC<|Ar.fit dC<|zb.t (uJ (zw.getD 6 zp))<|Ar.fit dC<|⟨2,dC,zf [0,1,2],dC⟩
  | 2,_=>
   exact Br.y<|Ar.fit dC<|Ar.fit dC<|zb.t (uJ (zw.getD 10 zp))<|Ar.fit dC<|⟨3,dC,zf [0,1,2],dC⟩
  | 3,_=>
   exact Br.y<|Ar.fit dC<|Ar.fit dC<|zb.t (uJ (zw.getD 14 zp))<|Ar.fit dC<|⟨4,dC,zf [0,1,2],dC⟩
  | 4,_=>
   refine⟨λh=>absurd h dC,λ_=>?_⟩;exact Ar.fit dC<|⟨3,dC,zf [0,1],dC⟩
  | _+5,hk=>exact absurd hk oM
 | 3,_=>
  refine Br.y<|⟨Nat,λk=>⟨[(14,i64 (k:Int)),(3,.loc 2 0),(2,i64 3),(10,i64 3),(9,.agg [i64 16384,i64 0,i64 15137,i64 6270,i64 11585,i64 11585,i64 6270,i64 15137]),(1,.loc 1 0),(0,.loc 0 0)],[(2,.box 35 (ptE (zw.getD ((4*k+3) % 16) zp))),(1,.box 353 (zax 3 k)),(0,.box 353 (zax 0 0))],3,28,0⟩,λk=>k<=4,λk=>4 - k,0,?_,?_,?_⟩
  ·exact Xe _
  ·exact zf [0,1,2]
  rintro k hk
  match k,hk with
  | 0,_=>
   exact Br.y<|Ar.fit dC<|Ar.fit dC<|zb.t (uJ (zw.getD 3 zp))<|Ar.fit dC<|⟨1,dC,zf [0,1,2],dC⟩
  | 1,_=>
   exact Br.y<|Ar.fit dC<|Ar.fit dC<|zb.t (uJ (zw.getD 7 zp))<|Ar.fit dC<|⟨2,dC,zf [0,1,2],dC⟩
  | 2,_=>
   exact Br.y<|Ar.fit dC<|Ar.fit dC<|zb.t (uJ (zw.getD 11 zp))<|Ar.fit dC<|⟨3,dC,zf [0,1,2],dC⟩
  | 3,_=>
   exact Br.y<|Ar.fit dC<|Ar.fit dC<|zb.t (uJ (zw.getD 15 zp))<|Ar.fit dC<|⟨4,dC,zf [0,1,2],dC⟩
  | 4,_=>
   refine⟨λh=>absurd h dC,λ_=>?_⟩;exact Ar.fit dC<|⟨4,dC,zf [0,1],dC⟩
  | _+5,hk=>exact absurd hk oM
 | 4,_=>
  refine⟨λh=>absurd h dC,λ_=>?_⟩;exact .refl
 | _+5,hi=>exact absurd hi oM
end Go.Gs
