/- Segments that may be, the one text. -/
import Derived.Test.YtdkomlilfdbahaaGreatDoorMAO
set_option maxRecDepth 100000
set_option maxHeartbeats 80000000
set_option linter.all false
namespace Go.Gs
open Proofs.Tryz
open Go.Proofs
structure Sg where
 v:Int
 a:Pt
 b:Pt
 c:Pt
 deriving DecidableEq
def sgE(s:Sg):LR:=[i64 s.v,i64 s.a.x,i64 s.a.y,i64 s.b.x,i64 s.b.y,i64 s.c.x,i64 s.c.y]
def nm(v:Int):Int:=if v=1 then 1 else if v=2 then 1 else if v=3 then 2 else if v=4 then 3 else if v=5 then 0 else-1
def c_named(v:Int):CX 302 [i64 v] (i64 (nm v)):=by
 refine zc func302<|Br.mk (λe=>?_) (λe=>?_)
 .exact Ar.fit dC<|Ar.fit dC<|Ar.fit dC<|ze (by rw[e];rfl)
 refine⟨λd=>?_,λd=>?_⟩
 .exact Ar.fit dC<|Ar.fit dC<|ze (by rw[d];rfl)
 refine⟨λa=>?_,λa=>?_⟩
 .refine⟨λ_=>?_,λh=>absurd a h⟩;exact Ar.fit dC<|ze (by rw[a];rfl)
 refine⟨λc=>?_,λc=>?_⟩
 .exact Ar.fit dC<|ze (by rw[c];rfl)
 refine⟨λg=>?_,λg=>?_⟩
 .exact ze (by rw[g];rfl)
 exact ze (by unfold nm;rw[Xc a,Xc c,Xc d,Xc e,Xc g])
def pk(n i:Int)(p:Pt):Prop:=zm p/\(n<=i->p=zp)
instance (n i:Int) (p:Pt):Decidable (pk n i p):=wi
def zdP(s:Sg):Prop:=pk (nm s.v) 0 s.a/\pk (nm s.v) 1 s.b/\pk (nm s.v) 2 s.c
instance (s:Sg):Decidable (zdP s):=wi
def zrO{s:Sg}:zdP s↔∀(j:Nat) x,[s.a,s.b,s.c][j]?=some x->pk (nm s.v) j x:=by
 constructor
 .rintro⟨e,g,k⟩ j x d
  match j,d with
  |0,d=>cases d;exact e
  |1,d=>cases d;exact g
  |2,d=>cases d;exact k
 exact λh=>⟨h 0 _ rfl,h 1 _ rfl,h 2 _ rfl⟩
def zuj(s:Sg):CX 333 [.agg (sgE s)] (pr (zdP s)):=by
 refine zc func333<|⟨Pt,ptE,[s.a,s.b,s.c],rfl,wb0 ?_⟩;intro _
 refine⟨Nat,λi=>⟨[(13,i64 i),(12,i64 3),(11,.own 1),(1,.loc 0 0)],[(1,.arr 28 ptE 2 [s.a,s.b,s.c]),(0,.box 62 (sgE s))],2,34,0⟩,
  λi=>i<=3/\∀(j:Nat) x,j<i->[s.a,s.b,s.c][j]?=some x->pk (nm s.v) j x,λi=>3-i,0,?_,?_,?_⟩
 .exact⟨oM,λj x r=>by omega⟩
 .exact zf [0,1]
 rintro i ⟨t,p⟩
 refine⟨λm=>?_,λm=>?_⟩
 .have m:i<3:=by omega
  refine Ob.mk ⟨oM,by show(i:Int)<3;omega⟩<|Ob.mk ⟨oM,by show(i:Int)<3;omega⟩ λx(k:[s.a,s.b,s.c][i]?=some x)=>?_;refine wg (qe x) ?_;have out:¬pk (nm s.v) i x->¬zdP s:=λh q=>h (zrO.1 q i x k)
  refine⟨λd=>zd (out λh=>d h.1),λd=>?_⟩;have d:=Xa.1 d;refine wg (c_named s.v) ?_
  have next:pk (nm s.v) i x->(i+1<=3/\∀(j:Nat) x,j<i+1->[s.a,s.b,s.c][j]?=some x->pk (nm s.v) j x):=λh=>⟨oM,λj y r o=>by
   by_cases e:j=i
   .subst e;rw[k]at o;cases o;exact h
   exact p j y oM o⟩
  refine⟨λn=>?_,λn=>?_⟩
  .refine⟨λg=>zd (out λh=>g (qp.2 (h.2 n))),λg=>?_⟩;have g:x=zp:=qp.1 (Xa.1 g);exact wa<|⟨i+1,next ⟨d,λ_=>g⟩,zf [0,1],oN⟩
  exact wa<|⟨i+1,next ⟨d,λh=>absurd h n⟩,zf [0,1],oN⟩
 refine zH (zrO.2 λj x k=>p j x ?_ k);have:=(Xd.1 k).1;have m:¬((i:Int)<3):=m;simp at this;omega
def zcj(last v:Int):Prop:=v=1∨(last≠5/\(v≠5∨last≠1))
instance (last v:Int):Decidable (zcj last v):=wj
def jW(last:Int)(s:Sg):Int:=if nm s.v<0 then 2 else if¬zcj last s.v then 10 else if¬zdP s then 6 else 0
def chk(last:Int)(i:Nat):List Sg->Int×Int
 |[]=>(0,0)
 |s::r=>if jW last s≠0 then(jW last s,i) else chk s.v (i+1) r
def zaC(l:List Sg):Int×Int:=if 256<l.length then(5,256) else chk 5 0 l
def qU(l:List Sg):Prop:=(zaC l).1=0
instance (l:List Sg):Decidable (qU l):=inferInstanceAs (Decidable (_=_))
variable{α:Type}{i:Nat}
def zhk{l:List α}{x:α}(h:l[i]?=some x):l.drop i=x::l.drop (i+1):=by
 obtain⟨c,a⟩:=Xd.1 h;rw[K8 c,a]
def twoI(c:Int×Int):SV:=.tup [i64 c.1,i64 c.2]
def zDV(l:List Sg):CX 271 [.sl sgE l] (twoI (zaC l)):=by
 refine zc func271 ?_;have c:∀{a b:Int},zaC l=(a,b)->LE (.tup [i64 a,i64 b]) (twoI (zaC l)):=λh=>by rw[h];exact .refl
 intro A;refine⟨λh=>c (by unfold zaC;rw[Xe oM]),λh=>?_⟩;have w:zaC l=chk 5 0 l:=by unfold zaC;rw[Xc oM]
 intro y;refine⟨Nat×Int,λq=>⟨[(13,i64 q.1),(12,i64 l.length),(11,.sl sgE l),(4,i64 q.2)],[],0,52,0⟩,λq=>q.1<=l.length/\chk 5 0 l=chk q.2 q.1 (l.drop q.1),λq=>l.length-q.1,(0,5),?_,?_,?_⟩
 .exact⟨Xh _,rfl⟩
 .exact zB []
 rintro⟨i,last⟩ ⟨u,k⟩
 have u:i<=l.length:=u;have k:chk 5 0 l=chk last i (l.drop i):=k;refine⟨λo:(i:Int)<l.length=>?_,λo=>?_⟩
 .refine Ob.mk ⟨oN,o⟩ λx(z:l[i]?=some x)=>?_;rw[zhk z]at k
  have d:∀{e:Int},jW last x=e->e≠0->zaC l=(e,(i:Int)):=λh s=>by
   rw[w,k];unfold chk;rw[Xe (by rw[h];exact s),h]
  have good:jW last x=0->(i+1,x.v).1<=l.length/\chk 5 0 l=chk (i+1,x.v).2 (i+1,x.v).1 (l.drop (i+1,x.v).1):=λh=>⟨by show i+1<=_;omega,by
   show _=chk x.v (i+1) _;rw[k];conv=>lhs;unfold chk
   rw[Xc (λs=>s h)]⟩
  refine⟨λp=>?_,λp=>?_⟩
  .have st:zcj last x.v:=.inl p;refine wg (c_named x.v)<|⟨λg=>c (d (by unfold jW;rw[Xe g]) dC),λg=>?_⟩;refine wg (zuj x)<|⟨λj=>c (d (by unfold jW;rw[Xc g,Xc (λh=>h st),Xe j]) dC),λj=>?_⟩;exact Ar.fit oN<|⟨(i+1,x.v),good (by unfold jW;rw[Xc g,Xc (λh=>h st),Xc j]),zB [],by show l.length-(i+1)<l.length-i;omega⟩
  refine⟨λr=>?_,λr=>?_⟩
  .refine⟨λm=>?_,λm=>?_⟩
   .have st:zcj last x.v:=.inr ⟨r,.inl m⟩;refine wg (c_named x.v)<|⟨λg=>c (d (by unfold jW;rw[Xe g]) dC),λg=>?_⟩;refine wg (zuj x)<|⟨λj=>c (d (by unfold jW;rw[Xc g,Xc (λh=>h st),Xe j]) dC),λj=>?_⟩;exact Ar.fit oN<|⟨(i+1,x.v),good (by unfold jW;rw[Xc g,Xc (λh=>h st),Xc j]),zB [],by show l.length-(i+1)<l.length-i;omega⟩
   refine wg (c_named x.v)<|⟨λg=>c (d (by unfold jW;rw[Xe g]) dC),λg=>?_⟩;have m:=Xa.1 m
   have t:¬last≠1->¬zcj last x.v:=λn st=>by
    rcases st with st|⟨_,st|st⟩
    .exact p st
    .exact st m
    exact n st
   refine⟨λn=>c (d (by unfold jW;rw[Xc g,Xe (t n)]) dC),λn=>?_⟩;have st:zcj last x.v:=.inr ⟨r,.inr (Xa.1 n)⟩;refine wg (zuj x)<|⟨λj=>c (d (by unfold jW;rw[Xc g,Xc (λh=>h st),Xe j]) dC),λj=>?_⟩;exact Ar.fit oN<|⟨(i+1,x.v),good (by unfold jW;rw[Xc g,Xc (λh=>h st),Xc j]),zB [],by show l.length-(i+1)<l.length-i;omega⟩
  refine wg (c_named x.v)<|⟨λg=>c (d (by unfold jW;rw[Xe g]) dC),λg=>?_⟩
  have t:¬zcj last x.v:=λst=>by
   rcases st with st|⟨st,_⟩
   .exact p st
   exact r st
  exact c (d (by unfold jW;rw[Xc g,Xe t]) dC)
 refine c (w.trans (k.trans ?_));rw[KI (by have o:¬(i:Int)<l.length:=o;omega)];rfl
def zkf(l:List Sg):CX 206 [.sl sgE l] (pr (qU l)):=by
 exact zc func206<|wg (zDV l)<|zC Qk
def zrP(v:Int):CX 221 [i64 v] (i64 (nm v)):=by
 refine zc func221<|Br.mk (λa=>?_) (λa=>?_)
 .refine⟨λ_=>?_,λh=>absurd a h⟩;exact ze (by rw[a];rfl)
 refine⟨λc=>ze (by rw[c];rfl),λc=>?_⟩;refine⟨λd=>ze (by rw[d];rfl),λd=>?_⟩;refine⟨λe=>ze (by rw[e];rfl),λe=>?_⟩;refine⟨λg=>ze (by rw[g];rfl),λg=>?_⟩;exact ze (by unfold nm;rw[Xc a,Xc c,Xc d,Xc e,Xc g])
def zvS(s:Sg):CX 220 [.agg (sgE s)] (.agg (ptE s.a++ptE s.b++ptE s.c)):=by
 exact zc func220<|.refl
def zep(l:List Sg)(i:Nat):Int:=if i=0 then 5 else(l[i-1]?.map Sg.v).getD 0
def zxO(l:List Sg)(i:Nat)(x:Sg)(j:l[i]?=some x)(n:l.length<=256):CX 323 [.sl sgE l,i64 i] (pr (zcj (zep l i) x.v)):=by
 refine zc func323 ?_;have hi:i<l.length:=(Xd.1 j).1;refine⟨λm=>?_,λm=>?_⟩
 .have k:i=0:=by omega
  subst k;refine wb5 λy(a:l[0]?=some y)=>?_;rw[j]at a;cases a
  refine zC ⟨λh=>.inl h,λh=>?_⟩
  rcases h with h|⟨h,_⟩
  .exact h
  exact absurd rfl h
 refine wa<|wb5 λy a=>?_;have a:l[i-1]?=some y:=by rw[←a];congr 1;omega
 have hlast:zep l i=y.v:=by unfold zep;rw[Xc oM,a];rfl
 rw[hlast];refine⟨λe=>?_,λe=>?_⟩
 .refine wb5 λz(d:l[i]?=some z)=>?_;rw[j]at d;cases d
  refine zC ⟨λh=>.inl h,λh=>?_⟩
  rcases h with h|⟨h,_⟩
  .exact h
  exact absurd e h
 refine wb5 λz(d:l[i]?=some z)=>?_;rw[j]at d;cases d
 refine⟨λc=>?_,λc=>?_⟩
 .exact zH (.inr ⟨e,.inl c⟩)
 refine wa<|wb5 λu g=>?_;have g:l[i-1]?=some u:=by rw[←g];congr 1;omega
 rw[a]at g;cases g
 refine zC ⟨λh=>.inr ⟨e,.inr h⟩,λh=>?_⟩;have c:x.v=5:=Xa.1 c
 rcases h with h|⟨_,h|h⟩
 .omega
 .exact absurd c h
 exact h
def zDW(l:List Sg)(i:Nat)(x:Sg)(r:l[i]?=some x)(z:l.length<=256):CX 261 [.sl sgE l,i64 i] (i64 (jW (zep l i) x)):=by
 refine zc func261 ?_;have hi:i<l.length:=(Xd.1 r).1;refine wb5 λy(o:l[i]?=some y)=>?_;rw[r]at o;cases o
 refine wg (zrP x.v)<|⟨λn=>ze (by unfold jW;rw[Xe n]),λn=>?_⟩;refine wg (zxO l i x r z)<|⟨λq=>ze (by unfold jW;rw[Xc n,Xe q]),λq=>?_⟩;refine wb5 λy(o:l[i]?=some y)=>?_;rw[r]at o;cases o
 refine wg (zvS x) ?_;have j:¬zdP x->LE (i64 6) (i64 (jW (zep l i) x)):=λh=>ze (by unfold jW;rw[Xc n,Xc q,Xe h])
 have B:0<=nm x.v:=oM;have zOK:zm zp:=dC
 refine⟨Nat,λk=>⟨[(7,i64 k),(5,i64 (nm x.v)),(6,.loc 0 0)],[(0,.box 239 (ptE x.a++ptE x.b++ptE x.c))],1,51,0⟩,
  λk=>k<=3/\(1<=k->pk (nm x.v) 0 x.a)/\(2<=k->pk (nm x.v) 1 x.b)/\(3<=k->pk (nm x.v) 2 x.c),λk=>3-k,0,?_,?_,?_⟩
 .exact⟨oM,λh=>by omega,λh=>by omega,λh=>by omega⟩
 .exact zf [0]
 rintro k ⟨C,p,t,A⟩
 refine⟨λs:(k:Int)<3=>?_,λs=>?_⟩
 .have w:k=0∨k=1∨k=2:=oM
  rcases w with rfl|rfl|rfl
  .refine⟨λm=>?_,λm=>?_⟩
   .refine wg (ki x.a)<|⟨λe=>j (λh=>e h.1.1),λe=>?_⟩;have e:zm x.a:=Xa.1 e;refine⟨λg=>absurd g oM,λg=>?_⟩;exact wa<|⟨1,⟨oM,λ_=>⟨e,λh=>absurd h oM⟩,λh=>by omega,λh=>by omega⟩,zf [0],oN⟩
   refine⟨λg=>?_,λg=>absurd g oM⟩;refine⟨λd=>j (λh=>d (qp.2 (h.1.2 oM))),λd=>?_⟩;have d:x.a=zp:=qp.1 (Xa.1 d);exact wa<|⟨1,⟨oM,λ_=>⟨d ▸ zOK,λ_=>d⟩,λh=>by omega,λh=>by omega⟩,zf [0],oN⟩
  .refine⟨λm=>?_,λm=>?_⟩
   .refine wg (ki x.b)<|⟨λe=>j (λh=>e h.2.1.1),λe=>?_⟩;have e:zm x.b:=Xa.1 e;refine⟨λg=>absurd g oM,λg=>?_⟩;exact wa<|⟨2,⟨oM,λ_=>p oM,λ_=>⟨e,λh=>absurd h oM⟩,λh=>by omega⟩,zf [0],oN⟩
   refine⟨λg=>?_,λg=>absurd g oM⟩;refine⟨λd=>j (λh=>d (qp.2 (h.2.1.2 oM))),λd=>?_⟩;have d:x.b=zp:=qp.1 (Xa.1 d);exact wa<|⟨2,⟨oM,λ_=>p oM,λ_=>⟨d ▸ zOK,λ_=>d⟩,λh=>by omega⟩,zf [0],oN⟩
  refine⟨λm=>?_,λm=>?_⟩
  .refine wg (ki x.c)<|⟨λe=>j (λh=>e h.2.2.1),λe=>?_⟩;have e:zm x.c:=Xa.1 e;refine⟨λg=>absurd g oM,λg=>?_⟩;exact wa<|⟨3,⟨oM,λ_=>p oM,λ_=>t oM,λ_=>⟨e,λh=>absurd h oM⟩⟩,zf [0],oN⟩
  refine⟨λg=>?_,λg=>absurd g oM⟩;refine⟨λd=>j (λh=>d (qp.2 (h.2.2.2 oM))),λd=>?_⟩;have d:x.c=zp:=qp.1 (Xa.1 d);exact wa<|⟨3,⟨oM,λ_=>p oM,λ_=>t oM,λ_=>⟨d ▸ zOK,λ_=>d⟩⟩,zf [0],oN⟩
 have u:k=3:=by have s:¬(k:Int)<3:=s;omega
 subst u;exact ze (by unfold jW;rw[Xc n,Xc q,Xc (λh=>h ⟨p oM,t oM,A oM⟩)])
variable{l:List Sg}{x:Sg}
def zrQ(h:l[i]?=some x):zep l (i+1)=x.v:=by
 unfold zep;rw[Xc oM,QD,h];rfl
def zAz(l:List Sg):CX 190 [.sl sgE l] (twoI (zaC l)):=by
 refine zc func190 ?_;have c:∀{a b:Int},zaC l=(a,b)->LE (.tup [i64 a,i64 b]) (twoI (zaC l)):=λh=>by rw[h];exact .refl
 intro o;refine⟨λh=>c (by unfold zaC;rw[Xe oM]),λh=>?_⟩;have j:zaC l=chk 5 0 l:=by unfold zaC;rw[Xc oM]
 refine⟨Nat,λi=>⟨[(4,i64 i),(0,.sl sgE l)],[],0,22,0⟩,λi=>i<=l.length/\chk 5 0 l=chk (zep l i) i (l.drop i),λi=>l.length-i,0,?_,?_,?_⟩
 .exact⟨Xh _,rfl⟩
 .exact zB []
 rintro i ⟨n,d⟩
 intro m;refine⟨λk=>?_,λk=>?_⟩
 .have e:=Xb (show i<l.length by omega);generalize l[i]'oM=x at e;rw[zhk e]at d;refine wg (zDW l i x e oM)<|⟨λg=>c ?_,λg=>?_⟩
  .rw[j,d];unfold chk;rw[Xe g]
  refine wa<|⟨i+1,⟨oM,?_⟩,zB [],oN⟩;rw[d,zrQ e];conv=>lhs;unfold chk
  rw[Xc g]
 refine c (j.trans (d.trans ?_));rw[KI oM];rfl
def zhl(l:List Sg):CX 131 [.sl sgE l] (pr (qU l)):=by
 exact zc func131<|wg (zAz l)<|zC Qk
def zeq(v:Int): -1<=nm v/\nm v<=3:=by unfold nm;split <;> (try split) <;> (try split) <;> (try split) <;> (try split) <;> omega
def kE(s:Sg):LU:=[s.a,s.b,s.c].take (nm s.v).toNat
def zrR(s:Sg):CX 241 [.agg (sgE s)] (.sl ptE (kE s)):=by
 refine zc func241<|⟨Pt,ptE,[s.a,s.b,s.c],rfl,wb0 ?_⟩;refine wg (c_named s.v) ?_;have d:=zeq s.v;refine Sl.see (Ob.mk ⟨dC,by show 0<=max (nm s.v) 0;omega,by show max (nm s.v) 0<=3;omega,K4 _⟩ ?_);refine z6 ?_;show([s.a,s.b,s.c].drop 0).take (max (nm s.v) 0-0).toNat=_;unfold kE;rw[Qd];congr 1;omega
def qk(l:List Sg):LU:=l.flatMap kE
def mnP(p q:Pt):Pt:=⟨min p.x q.x,min p.y q.y⟩
def mxP(p q:Pt):Pt:=⟨max p.x q.x,max p.y q.y⟩
def bnd(f:Pt->Pt->Pt)(q:LU):Pt:=q.foldl f (q.headD zp)
variable{f:Pt->Pt->Pt}
def zxP(p:Pt):bnd f ([]++[p])=f p p:=rfl
def zAA{q:LU}(h:q≠[])(p:Pt):bnd f (q++[p])=f (bnd f q) p:=by
 cases q with
 |nil=>exact absurd rfl h
 |cons a r=>simp[bnd,KX]
def zjF(h:l[i]?=some x):qk (l.take (i+1))=qk (l.take i)++kE x:=by
 unfold qk;rw[Xn,h];simp[QA]
def ziI(h:qU l):l.length<=256:=by
 unfold qU zaC at h
 by_cases e:256<l.length
 .rw[Xe e]at h;cases h
 omega
def zG0{s:Sg}{k:Nat}(h:(k:Int)<nm s.v):(kE s)[k]?=[s.a,s.b,s.c][k]? :=by
 unfold kE;rw[XM,Xe oM]
def zG1{r m a:Nat}(h:r=2^(m+1)*a)(g:r<4294967296)(c:m<=31):vy .or .u64 (r:Int) (1*2^(m:Int).toNat)=((r+2^m:Nat):Int):=by
 have d:2^m<=2^31:=XJ dC c;have e:(1*2^(m:Int).toNat:Int)=((2^m:Nat):Int):=by rw[Yh];simp
 rw[e,zll oM oM];have:=Qj (i:=m+1) (b:=2^m) (Nat.pow_lt_pow_right dC oM) a;rw[h,←this]
def zAB(n:Int)(B:0<=n/\n<=18446744073709551615):CX 370 [u64 n] (u64 (isq n)):=by
 refine zc func370 ?_
 refine⟨Int×Nat,λz=>⟨[(0,u64 n),(3,u64 (z.2:Int)),(4,i64 z.1)],[],0,21,0⟩,λz=> -1<=z.1/\z.1<=31/\(∃a,z.2=2^(z.1+1).toNat*a)/\z.2+2^(z.1+1).toNat<=4294967296/\sqL n (z.1+1).toNat z.2=isq n,
  λz=>(z.1+1).toNat,(31,0),⟨dC,dC,⟨0,rfl⟩,dC,rfl⟩,zB [],?_⟩
 rintro⟨j,r⟩ ⟨t,u,⟨a,d⟩,q,c⟩
 dsimp only at t u d q c;refine⟨λg:0<=j=>?_,λg:¬0<=j=>?_⟩
 .obtain⟨m,rfl⟩:∃m:Nat,j=m:=⟨j.toNat,oM⟩;have e:((m:Int)+1).toNat=m+1:=oM;rw[e]at d q c;have s:m<=31:=oM;have C:2^m<=2147483648:=XJ (n:=2) dC s;have v:0<2^m:=Qb dC;have o:2^(m+1)=2*2^m:=by rw[X4];omega
  have ee:(1*2^(m:Int).toNat:Int)=((2^m:Nat):Int):=by rw[Yh];simp
  have w:(r+2^m)*(r+2^m)<=18446744065119617025:=XC (QE (show r+2^m<=4294967295 by omega) (show r+2^m<=4294967295 by omega)) dC
  have A:sqL n (m+1) r=sqL n m (if ((r+2^m:Nat):Int)*((r+2^m:Nat):Int)<=n then((r+2^m:Nat):Int) else r):=by
   have:((r+2^m:Nat):Int)=(r:Int)+2^m:=by simp
   rw[this];rfl
  rw[A]at c;have em:((m:Int)-1+1).toNat=m:=oM;refine Ob.mk (by show(0:Int)<=m/\(m:Int)<64;omega)<|Ar.fit (by rw[ee];omega)<|⟨((r+2^m:Nat):Int),(zG1 d oM s).symm,?_⟩;have y:((r+2^m:Nat):Int)*((r+2^m:Nat):Int)<=18446744065119617025:=by have h:=J1.mpr w;rw[Ke]at h;exact h
  have p:0<=((r+2^m:Nat):Int)*((r+2^m:Nat):Int):=XI oM oM;refine Ar.fit ⟨p,oM⟩<|⟨λk=>?_,λk=>?_⟩
  .refine wa ?_;rw[Xe k]at c;refine⟨((m:Int)-1,r+2^m),⟨oN,oN,⟨2*a+1,?_⟩,?_,?_⟩,zB [],oN⟩
   .dsimp only;rw[em,d,o];grind
   .dsimp only;rw[em];omega
   dsimp only;rw[em];exact c
  refine wa ?_;rw[Xc k]at c;refine⟨((m:Int)-1,r),⟨oN,oN,⟨2*a,?_⟩,?_,?_⟩,zB [],oN⟩
  .dsimp only;rw[em,d,o];grind
  .dsimp only;rw[em];omega
  dsimp only;rw[em];exact c
 have e:(j+1).toNat=0:=oM;rw[e]at c;exact ze c
def zvT(n:Int)(y:0<=n/\n<=18446744073709551615):CX 406 [u64 n] (u64 (isq n)):=by
 refine zc func406 ?_
 refine⟨Int×Nat,λz=>⟨[(0,u64 n),(3,u64 (z.2:Int)),(4,i64 z.1)],[],0,22,0⟩,λz=> -1<=z.1/\z.1<=31/\z.2+2^(z.1+1).toNat<=4294967296/\sqL n (z.1+1).toNat z.2=isq n,
  λz=>(z.1+1).toNat,(31,0),⟨dC,dC,dC,rfl⟩,zB [],?_⟩
 rintro⟨j,r⟩ ⟨o,p,d,a⟩
 dsimp only at o p d a;refine⟨λg:0<=j=>?_,λg:¬0<=j=>?_⟩
 .obtain⟨m,rfl⟩:∃m:Nat,j=m:=⟨j.toNat,oM⟩;have e:((m:Int)+1).toNat=m+1:=oM;rw[e]at d a;have q:m<=31:=oM;have A:2^m<=2147483648:=XJ (n:=2) dC q;have s:0<2^m:=Qb dC;have t:2^(m+1)=2*2^m:=by rw[X4];omega
  have ee:(1*2^(m:Int).toNat:Int)=((2^m:Nat):Int):=by rw[Yh];simp
  have u:(r+2^m)*(r+2^m)<=18446744065119617025:=XC (QE (show r+2^m<=4294967295 by omega) (show r+2^m<=4294967295 by omega)) dC
  have w:sqL n (m+1) r=sqL n m (if ((r+2^m:Nat):Int)*((r+2^m:Nat):Int)<=n then((r+2^m:Nat):Int) else r):=by
   have:((r+2^m:Nat):Int)=(r:Int)+2^m:=by simp
   rw[this];rfl
  rw[w]at a;have em:((m:Int)-1+1).toNat=m:=oM;refine wa<|Ob.mk (by show(0:Int)<=m/\(m:Int)<64;omega)<|Ar.fit (by rw[ee];omega) ?_;change Ar _ _ _;rw[ee,show(r:Int)+((2^m:Nat):Int)=((r+2^m:Nat):Int) by omega];refine wa ?_;have v:((r+2^m:Nat):Int)*((r+2^m:Nat):Int)<=18446744065119617025:=by have h:=J1.mpr u;rw[Ke]at h;exact h
  have c:0<=((r+2^m:Nat):Int)*((r+2^m:Nat):Int):=XI oM oM;refine Ar.fit ⟨c,oM⟩<|⟨λk=>?_,λk=>?_⟩
  .refine wa ?_;rw[Xe k]at a;refine⟨((m:Int)-1,r+2^m),⟨oN,oN,?_,?_⟩,zB [],oN⟩
   .dsimp only;rw[em];omega
   dsimp only;rw[em];exact a
  refine wa ?_;rw[Xc k]at a;refine⟨((m:Int)-1,r),⟨oN,oN,?_,?_⟩,zB [],oN⟩
  .dsimp only;rw[em];omega
  dsimp only;rw[em];exact a
 have e:(j+1).toNat=0:=oM;rw[e]at a;exact ze a
def zdf(p:Pt):CX 117 [wk p] (wk (jF p)):=zAx p
def zlD(n lo hi:Int):CX 349 [i64 n,i64 lo,i64 hi] (i64 (kZ n lo hi)):=by
 refine zc func349<|Br.mk (λh=>?_) (λh=>?_)
 .exact ze (by simp[kZ,h])
 refine⟨λa=>?_,λa=>?_⟩
 .exact ze (by simp[kZ,h,a])
 exact ze (by simp[kZ,h,a])
def zdg(p:Pt):CX 348 [wk p] (wk (jF p)):=by
 exact zc func348<|wc<|wg (zlD p.x _ _)<|wg (zlD p.y _ _)<|.refl
def zAC(p q:Pt):CX 172 [wk p,wk q] (wk (zae p q)):=by
 have a:=qq p.x;have c:=qq p.y;have d:=qq q.x;have e:=qq q.y;refine zc func172<|wc<|wg (zdf p)<|wg (zdf q) ?_;unfold jF;exact Ar.fit oN<|Ar.fit oN<|.refl
def znR(p q:Pt):CX 343 [wk p,wk q] (wk (zae p q)):=by
 have a:=qq p.x;have c:=qq p.y;have d:=qq q.x;have e:=qq q.y;refine zc func343<|wc<|wg (zdg p)<|wg (zdg q) ?_;unfold jF;exact Ar.fit oN<|Ar.fit oN<|.refl
def zAD(p q:Pt):CX 463 [wk p,wk q] (wk (addP p q)):=by
 have a:=qq p.x;have c:=qq p.y;have d:=qq q.x;have e:=qq q.y;refine zc func463<|wc<|wg (zdg p)<|wg (zdg q) ?_;unfold jF;exact Ar.fit oN<|Ar.fit oN<|.refl
def zG2(p:Pt):CX 490 [wk p] (wk (perpP p)):=by
 have a:=qq p.y;refine zc func490<|wg (zdf p) ?_;unfold jF;exact Ar.fit oN<|.refl
def zAE(p q:Pt)(a:zm p)(c:zm q):CX 171 [wk p,wk q] (i64 (wdg p q)):=by
 have h:=zcE a c;unfold wdg at h;refine zc func171 ?_;(iterate 3 refine wa ?_);exact .refl
def zDX(p q:Pt)(a:zm p)(c:zm q):CX 342 [wk p,wk q] (i64 (wdg p q)):=by
 have h:=zcE a c;unfold wdg at h;refine zc func342 ?_;(iterate 3 refine wa ?_);exact .refl
def zG3(p q:Pt)(a:zm p)(c:zm q):CX 428 [wk p,wk q] (i64 (dtp p q)):=by
 have h:=zfh a c;unfold dtp at h;refine zc func428 ?_;(iterate 3 refine wa ?_);exact .refl
def zDY(p q:Pt):CX 493 [wk p,wk q] (i64 (zaT p q)):=by
 exact zc func493<|wc<|wg (zdf p)<|wg (zdf q)<|wg (zAE (jF p) (jF q) (jz p) (jz q))<|.refl
def zDZ(p q:Pt):CX 495 [wk p,wk q] (i64 (zaT p q)):=by
 exact zc func495<|wc<|wg (zdg p)<|wg (zdg q)<|wg (zDX (jF p) (jF q) (jz p) (jz q))<|.refl
def p_dot(p q:Pt):CX 371 [wk p,wk q] (i64 (zj1 p q)):=by
 exact zc func371<|wc<|wg (zdf p)<|wg (zdf q)<|wg (zG3 (jF p) (jF q) (jz p) (jz q))<|.refl
def r_dot(p q:Pt):CX 407 [wk p,wk q] (i64 (zj1 p q)):=by
 have h:=zfh (jz p) (jz q);unfold dtp at h;refine zc func407<|wc<|wg (zdg p)<|wg (zdg q) ?_;(iterate 3 refine wa ?_);exact .refl
def zlE(p:Pt):0<=zj1 p p/\zj1 p p<=2199023255552:=by
 have h:=zfh (jz p) (jz p);have a:=jn (jF p).x;have c:=jn (jF p).y;unfold zj1;unfold dtp at*;omega
def ziJ(p:Pt):0<=zrN p/\zrN p<4294967296:=by
 have h:=zlE p;exact⟨(zhj oM oM).1,zAy oM oM⟩
def zAF(p:Pt):CX 312 [wk p] (i64 (zrN p)):=by
 have h:=zlE p;have a:=ziJ p;unfold zrN at a;refine zc func312<|wg (p_dot p p) ?_;(iterate 2 refine wa ?_);exact wg (zAB (65536*zj1 p p) oM)<|wa<|.refl
def zAG(p:Pt):CX 347 [wk p] (i64 (zrN p)):=by
 have h:=zlE p;have a:=ziJ p;unfold zrN at a;refine zc func347<|wg (r_dot p p) ?_;(iterate 2 refine wa ?_);exact wg (zvT (65536*zj1 p p) oM)<|wa<|.refl
def zpJ{a b:Int}{M:Nat}(c:b≠0)(h:a.natAbs<=M*b.natAbs): -(M:Int)<=z8 a b/\z8 a b<=M:=by
 have e:=zeh a b
 have:(2*a.natAbs+b.natAbs)/(2*b.natAbs)<M+1:=by
  rw[X3 oM];have:(M+1)*(2*b.natAbs)=2*(M*b.natAbs)+2*b.natAbs:=by grind
  omega
 omega
variable{b:Int}
def znS:z8 0 b=0:=by
 have e:=zeh 0 b
 have:(2*(0:Int).natAbs+b.natAbs)/(2*b.natAbs)=0:=by
  by_cases h:b.natAbs=0
  .rw[h];rfl
  exact Kr (by show 0+b.natAbs<_;omega)
 omega
def u6{a b:Int}{M:Nat}(h:a.natAbs<=M): -(M:Int)<=z8 a b/\z8 a b<=M:=by
 by_cases c:b=0
 .subst c;have e:=zeh a 0;rw[show(2*(0:Int).natAbs)=0 by rfl,Nat.div_zero]at e;omega
 refine zpJ c (XC h ?_);exact QP _ oM
def uP{a:Int}(h: -4611686018427387904<=a/\a<=4611686018427387904):ub (z8 a b)=z8 a b:=by
 have:=u6 (a:=a) (b:=b) (M:=4611686018427387904) oM;unfold ub;rw[Xe oM]
def zhm{n d:Int}(h:1<=d):0<=kZ n 0 d/\kZ n 0 d<=d:=by unfold kZ;split <;> (try split) <;> omega
def ziK{n d f t:Int}(h:1<=d/\d<=1099511627776)(k:0<=n/\n<=d)(j: -1048576<=f/\f<=1048576)(ht: -1048576<=t/\t<=1048576):
  (-2305843009213693952<=n*(t-f)/\n*(t-f)<=2305843009213693952)/\(-2097152<=z8 (n*(t-f)) d/\z8 (n*(t-f)) d<=2097152)/\ub (z8 (n*(t-f)) d)=z8 (n*(t-f)) d:=by
 have e:=jG (A:=d) (B:=2097152) (a:=n) (b:=t-f) oM oM;have c:(n*(t-f)).natAbs<=2097152*d.natAbs:=oM;have g:=zpJ (M:=2097152) oM c;exact⟨oM,oM,uP oM⟩
def zvU(f t n d:Int)(a:1<=d/\d<=1099511627776)(e:0<=n/\n<=d)(c: -1048576<=f/\f<=1048576)(ht: -1048576<=t/\t<=1048576):
  CX 429 [i64 f,i64 t,.ptr [i64 n],.ptr [i64 d]] (i64 (f+z8 (n*(t-f)) d)):=by
 have h:=ziK a e c ht;refine zc func429 ?_;(iterate 2 refine wa ?_);refine wg (u3 (n*(t-f)) d ⟨oM,oM⟩ ⟨oM,oM⟩) ?_;rw[h.2.2];exact wa<|.refl
def zAH(a b:Pt)(n d:Int):CX 372 [wk a,wk b,i64 n,i64 d] (wk (uO a b n d)):=by
 have j:=qq a.x;have k:=qq a.y;have m:=qq b.x;have o:=qq b.y;refine zc func372<|wc<|wg (zdf a)<|wg (zdf b)<|⟨λg=>?_,λg=>?_⟩
 .unfold uO;rw[Xe (.inl g)];exact .refl
 refine⟨λc=>?_,λc=>?_⟩
 .unfold uO;rw[Xe (.inr c)];exact .refl
 have g:¬(d<1∨1099511627776<d):=λh=>h.elim g c
 have e:=zhm (n:=n) (d:=d) oM;refine wg (zpH n 0 d)<|wc<|wg (zvU (hI a.x) (hI b.x) (kZ n 0 d) d oM e j m)<|wg (zvU (hI a.y) (hI b.y) (kZ n 0 d) d oM e k o) ?_;unfold uO;rw[Xc g];exact .refl
def zAI(a b:Pt)(n d:Int):CX 295 [wk a,wk b,i64 n,i64 d] (wk (uO a b n d)):=by
 have j:=qq a.x;have k:=qq a.y;have m:=qq b.x;have o:=qq b.y;refine zc func295<|wg (zdg a)<|⟨λg=>?_,λg=>?_⟩
 .unfold uO;rw[Xe (.inl g)];exact .refl
 refine⟨λc=>?_,λc=>?_⟩
 .unfold uO;rw[Xe (.inr c)];exact .refl
 have g:¬(d<1∨1099511627776<d):=λh=>h.elim g c
 have e:=zhm (n:=n) (d:=d) oM;have p:=ziK oM e j m;have q:=ziK oM e k o;refine wg (znR b a)<|wg (zlD n 0 d)<|wc<|Ar.fit (by show _<=kZ n 0 d*(hI b.x-hI a.x)/\kZ n 0 d*(hI b.x-hI a.x)<=_;omega)<|wg (ul (kZ n 0 d*(hI b.x-hI a.x)) d ⟨oM,oM⟩ ⟨oM,oM⟩) ?_;rw[p.2.2];refine Ar.fit (by show _<=hI a.x+z8 (kZ n 0 d*(hI b.x-hI a.x)) d/\hI a.x+z8 (kZ n 0 d*(hI b.x-hI a.x)) d<=_;omega)<|Ar.fit (by show _<=kZ n 0 d*(hI b.y-hI a.y)/\kZ n 0 d*(hI b.y-hI a.y)<=_;omega) ?_
 refine wg (ul (kZ n 0 d*(hI b.y-hI a.y)) d ⟨oM,oM⟩ ⟨oM,oM⟩) ?_;rw[q.2.2];refine Ar.fit (by show _<=hI a.y+z8 (kZ n 0 d*(hI b.y-hI a.y)) d/\hI a.y+z8 (kZ n 0 d*(hI b.y-hI a.y)) d<=_;omega) ?_;unfold uO;rw[Xc g];exact .refl
def zaf(w:Int):CX 309 [i64 w] (pr (kq w)):=by
 refine zc func309<|Br.mk (λh=>?_) (λh=>zd (λk=>h k.1));exact zC ⟨λk=>⟨h,k⟩,λk=>k.2⟩
def zFS(n:Int):CX 491 [i64 n] (pr (zbU n)):=by
 refine zc func491<|Br.mk (λh=>zH (.inl h)) (λh=>?_);exact zC ⟨λk=>.inr k,λk=>k.resolve_left h⟩
def zaD(n a b:Int):CX 227 [i64 n,i64 a,i64 b] (pr (a<=n/\n<=b)):=by
 refine zc func227<|Br.mk (λh=>?_) (λh=>zd (λk=>h k.1));exact zC ⟨λk=>⟨h,k⟩,λk=>k.2⟩
def zpK(w:Int):CX 226 [i64 w] (pr (kq w)):=by
 exact zc func226<|wg (zaD w 1 16384)<|zC Qk
def zvV(a b:Pt)(w:Int):CX 456 [wk a,wk b,i64 w] (pr (kq w/\zm a/\zm b)):=by
 refine zc func456<|wg (ki a)<|⟨λc=>?_,λc=>zd (λh=>c h.2.1)⟩;refine wg (ki b)<|⟨λd=>?_,λd=>zd (λh=>d h.2.2)⟩;exact wg (zpK w)<|zC ⟨λh=>⟨h,c,d⟩,λh=>h.1⟩
def zer(out:List (List Sg))(s:Sg):List (List Sg):=if s.v=1 then out++[[s]] else out.dropLast++[out.getLastD []++[s]]
def subs(l:List Sg):List (List Sg):=l.foldl zer []
def zlF(v:Int)(q:LU):Sg:=⟨v,q.getD 0 zp,q.getD 1 zp,q.getD 2 zp⟩
def gid(i:Nat)(x:LR)(a:[[SV.loc 1 1],[.loc 1 3],[.loc 1 5]][i]?=some x):ren.rens [(0,some 0),(1,some 1),(2,some 2)] x=some x:=by
 match i,a with
 |0,a=>cases a;rfl
 |1,a=>cases a;rfl
 |2,a=>cases a;rfl
def zpL(v:Int)(q:LU):CX 243 [i64 v,.sl ptE q] (.agg (sgE (zlF v q))):=by
 refine zc func243 ?_
 refine⟨[[.loc 1 1],[.loc 1 3],[.loc 1 5]],rfl,Ob.mk ⟨rfl,dC,dC,dC,λx a=>by
  simp only[XA,XW,or_false]at a
  rcases a with rfl|rfl|rfl <;> rfl⟩ ?_⟩
 intro _
 refine⟨Nat,λi=>⟨[(15,i64 i),(14,i64 3),(13,.own 2),(5,.loc 1 0),(4,.loc 0 0),(1,.sl ptE q)],
  [(2,.garr 319 1 [[.loc 1 1],[.loc 1 3],[.loc 1 5]]),(1,.box 62 (sgE ⟨v,if 1<=i then q.getD 0 zp else zp,if 2<=i then q.getD 1 zp else zp,if 3<=i then q.getD 2 zp else zp⟩)),(0,.box 62 (sgE ⟨0,zp,zp,zp⟩))],3,32,0⟩,
  λi=>i<=3,λi=>3-i,0,dC,zt [0,1,2] ⟨⟨_,rfl,rfl,λi x a=>?_⟩,rfl,rfl,tV⟩,?_⟩
 .exact⟨x,a,gid i x a⟩
 rintro i hi
 have hi:i<=3:=hi;have e:i=0∨i=1∨i=2∨i=3:=oM
 rcases e with rfl|rfl|rfl|rfl
 .refine we<|Ob.mk ⟨dC,by show(0:Int)<((3:Nat):Int);decide⟩<|Ob.mk ⟨dC,by show(0:Int)<((3:Nat):Int);decide⟩ λy d=>?_;have d:some [SV.loc 1 1]=some y:=d
  cases d
  intro _;refine⟨λg=>?_,λg:¬((0:Nat):Int)<q.length=>?_⟩
  .refine Ob.mk ⟨dC,g⟩ λx(a:q[0]?=some x)=>?_;have c:q.getD 0 zp=x:=by rw[Xs,a];rfl
   exact Ar.fit dC<|⟨1,dC,zt [0,1,2] ⟨⟨_,rfl,rfl,λi x a=>⟨x,a,gid i x a⟩⟩,Xg (λp=>some (Mem.box 62 (sgE ⟨v,p,zp,zp⟩))) c.symm,rfl,tV⟩,dC⟩
  have c:q.getD 0 zp=zp:=by rw[Xs,XH oM];rfl
  exact Ar.fit dC<|⟨1,dC,zt [0,1,2] ⟨⟨_,rfl,rfl,λi x a=>⟨x,a,gid i x a⟩⟩,Xg (λp=>some (Mem.box 62 (sgE ⟨v,p,zp,zp⟩))) c.symm,rfl,tV⟩,dC⟩
 .refine we<|Ob.mk ⟨dC,by show(1:Int)<((3:Nat):Int);decide⟩<|Ob.mk ⟨dC,by show(1:Int)<((3:Nat):Int);decide⟩ λy d=>?_;have d:some [SV.loc 1 3]=some y:=d
  cases d
  intro _;refine⟨λg=>?_,λg:¬((1:Nat):Int)<q.length=>?_⟩
  .refine Ob.mk ⟨dC,g⟩ λx(a:q[1]?=some x)=>?_;have c:q.getD 1 zp=x:=by rw[Xs,a];rfl
   exact Ar.fit dC<|⟨2,dC,zt [0,1,2] ⟨⟨_,rfl,rfl,λi x a=>⟨x,a,gid i x a⟩⟩,Xg (λp=>some (Mem.box 62 (sgE ⟨v,q.getD 0 zp,p,zp⟩))) c.symm,rfl,tV⟩,dC⟩
  have c:q.getD 1 zp=zp:=by rw[Xs,XH oM];rfl
  exact Ar.fit dC<|⟨2,dC,zt [0,1,2] ⟨⟨_,rfl,rfl,λi x a=>⟨x,a,gid i x a⟩⟩,Xg (λp=>some (Mem.box 62 (sgE ⟨v,q.getD 0 zp,p,zp⟩))) c.symm,rfl,tV⟩,dC⟩
 .refine we<|Ob.mk ⟨dC,by show(2:Int)<((3:Nat):Int);decide⟩<|Ob.mk ⟨dC,by show(2:Int)<((3:Nat):Int);decide⟩ λy d=>?_;have d:some [SV.loc 1 5]=some y:=d
  cases d
  intro _;refine⟨λg=>?_,λg:¬((2:Nat):Int)<q.length=>?_⟩
  .refine Ob.mk ⟨dC,g⟩ λx(a:q[2]?=some x)=>?_;have c:q.getD 2 zp=x:=by rw[Xs,a];rfl
   exact Ar.fit dC<|⟨3,dC,zt [0,1,2] ⟨⟨_,rfl,rfl,λi x a=>⟨x,a,gid i x a⟩⟩,Xg (λp=>some (Mem.box 62 (sgE ⟨v,q.getD 0 zp,q.getD 1 zp,p⟩))) c.symm,rfl,tV⟩,dC⟩
  have c:q.getD 2 zp=zp:=by rw[Xs,XH oM];rfl
  exact Ar.fit dC<|⟨3,dC,zt [0,1,2] ⟨⟨_,rfl,rfl,λi x a=>⟨x,a,gid i x a⟩⟩,Xg (λp=>some (Mem.box 62 (sgE ⟨v,q.getD 0 zp,q.getD 1 zp,p⟩))) c.symm,rfl,tV⟩,dC⟩
 refine⟨λh=>absurd h dC,λ_=>?_⟩;exact .refl
def zuk:Sg:=⟨5,zp,zp,zp⟩
def oks:Int->List Sg->Prop
 |_,[]=>True
 |last,s::r=>jW last s=0/\oks s.v r
def zvW:∀{l:List Sg} {last:Int} {i:Nat},(chk last i l).1=0↔oks last l
 |[],_,_=>by simp[chk,oks]
 |s::r,last,i=>by
  unfold chk oks
  by_cases h:jW last s=0
  .rw[Xc (λa=>a h),zvW];exact⟨λk=>⟨h,k⟩,λk=>k.2⟩
  rw[Xe h];exact⟨λk=>absurd k h,λk=>absurd k.1 h⟩
def zbh:qU l↔l.length<=256/\oks 5 l:=by
 unfold qU zaC
 by_cases h:256<l.length
 .rw[Xe h];exact⟨λk=>absurd k dC,λk=>absurd h oM⟩
 rw[Xc h,zvW];exact⟨λk=>⟨oM,k⟩,λk=>k.2⟩
variable{last:Int}
def u7{s:Sg}:jW last s=0↔0<=nm s.v/\zcj last s.v/\zdP s:=by
 unfold jW
 by_cases d:nm s.v<0
 .rw[Xe d];exact⟨λh=>absurd h dC,λh=>by omega⟩
 rw[Xc d]
 by_cases a:zcj last s.v
 .rw[Xc (λh=>h a)]
  by_cases c:zdP s
  .rw[Xc (λh=>h c)];exact⟨λ_=>⟨oM,a,c⟩,λ_=>rfl⟩
  rw[Xe c];exact⟨λh=>absurd h dC,λh=>absurd h.2.2 c⟩
 rw[Xe a];exact⟨λh=>absurd h dC,λh=>absurd h.2.1 a⟩
def znT{v:Int}(h:0<=nm v):v=1∨v=2∨v=3∨v=4∨v=5:=by
 unfold nm at h
 by_cases a:v=1
 .exact .inl a
 rw[Xc a]at h
 by_cases c:v=2
 .exact .inr (.inl c)
 rw[Xc c]at h
 by_cases d:v=3
 .exact .inr (.inr (.inl d))
 rw[Xc d]at h
 by_cases e:v=4
 .exact .inr (.inr (.inr (.inl e)))
 rw[Xc e]at h
 by_cases g:v=5
 .exact .inr (.inr (.inr (.inr g)))
 rw[Xc g]at h;omega
def midV(s:Sg):Prop:=s.v=2∨s.v=3∨s.v=4
def Grp(g:List Sg)(last:Int):Prop:=
 ∃m mid,m.v=1/\(∀s∈mid,midV s)/\(∀s∈g,zdP s)/\
  ((g=m::mid/\last≠5/\(mid=[]->last=1))∨∃c,g=m::mid++[c]/\c.v=5/\last=5/\mid≠[])
def zAJ{g:List Sg}(h:Grp g last)(z:jW last x=0)(p:x.v≠1):Grp (g++[x]) x.v:=by
 obtain⟨u,w,y⟩:=u7.1 z;obtain⟨m,mid,j,k,q,r⟩:=h;have a:last≠5/\(x.v≠5∨last≠1):=w.resolve_left p
 have o:∀s∈g++[x],zdP s:=λs a=>by
  rcases Xu.1 a with a|a
  .exact q s a
  simp at a;subst a;exact y
 obtain⟨rfl,n,t⟩|⟨c,_,_,n,_⟩:=r
 .by_cases d:x.v=5
  .exact⟨m,mid,j,k,o,.inr ⟨x,rfl,d,d,λe=>(a.2.resolve_left (λh=>h d)) (t e)⟩⟩
  refine⟨m,mid++[x],j,λs a=>?_,o,.inl ⟨rfl,d,λe=>by simp at e⟩⟩
  rcases Xu.1 a with a|a
  .exact k s a
  simp at a;subst a
  rcases znT u with h|h|h|h|h
  .exact absurd h p
  .exact .inl h
  .exact .inr (.inl h)
  .exact .inr (.inr h)
  exact absurd h d
 exact absurd n a.1
def znU(d:jW last x=0)(c:x.v=1):Grp [x] x.v:=
 ⟨x,[],c,λs a=>(by cases a),λs a=>by simp at a;subst a;exact(u7.1 d).2.2,.inl ⟨rfl,oM,λ_=>c⟩⟩
def InvS(S:List (List Sg))(last:Int):Prop:=(S=[]/\last=5)∨∃cl g,S=cl++[g]/\Grp g last/\∀h∈cl,∃k,Grp h k
def zAK{S:List (List Sg)}(h:InvS S last)(d:jW last x=0):InvS (zer S x) x.v:=by
 unfold zer
 by_cases c:x.v=1
 .rw[Xe c]
  obtain⟨rfl,rfl⟩|⟨cl,g,rfl,e,j⟩:=h
  .exact .inr ⟨[],[x],rfl,znU d c,λh a=>by cases a⟩
  refine .inr ⟨cl++[g],[x],rfl,znU d c,λh a=>?_⟩
  rcases Xu.1 a with a|a
  .exact j h a
  simp at a;subst a;exact⟨_,e⟩
 rw[Xc c]
 obtain⟨rfl,rfl⟩|⟨cl,g,rfl,e,j⟩:=h
 .exact absurd ((u7.1 d).2.1.resolve_left c).1 (λh=>h rfl)
 exact .inr ⟨cl,g++[x],sI,zAJ e d c,j⟩
def zvX:∀(r:List Sg) {S:List (List Sg)} {last:Int},InvS S last->oks last r->∃k,InvS (r.foldl zer S) k
 |[],_,last,h,_=>⟨last,h⟩
 |_::r,_,_,h,a=>zvX r (zAK h a.1) a.2
def zrS(h:qU l):∀g∈subs l,∃k,Grp g k:=by
 obtain⟨k,j⟩:=zvX l (S:=[]) (last:=5) (.inl ⟨rfl,rfl⟩) (zbh.1 h).2;intro g a;have a:g∈l.foldl zer []:=a
 obtain⟨e,_⟩|⟨cl,m,e,c,d⟩:=j
 .rw[e]at a;cases a
 rw[e]at a
 rcases Xu.1 a with a|a
 .exact d g a
 simp at a;subst a;exact⟨_,c⟩
def zrT(S:List (List Sg))(x:Sg):(zer S x).flatten=S.flatten++[x]:=by
 unfold zer
 by_cases a:x.v=1
 .rw[Xe a];simp
 rw[Xc a]
 rcases YF S with rfl|⟨cl,g,rfl⟩
 .rfl
 simp
def znV:∀(r:List Sg) (S:List (List Sg)),(r.foldl zer S).flatten=S.flatten++r
 |[],S=>by simp
 |x::r,S=>by rw[Qo,znV r,zrT];simp
def znW(l:List Sg):(subs l).flatten=l:=by
 unfold subs;rw[znV];rfl
def zjG(h:qU l):∀x,l[0]?=some x->x.v=1:=λx c=>by
 have d:=(zbh.1 h).2
 cases l with
 |nil=>cases c
 |cons a r=>
  cases c
  exact(u7.1 d.1).2.1.resolve_right (λh=>h.1 rfl)
def zp_ok:zm zp:=dC
def zvY:∀(q:LU) (p:Pt),((q.foldl mnP p).x<=p.x/\(q.foldl mnP p).y<=p.y)/\(∀r∈q,(q.foldl mnP p).x<=r.x/\(q.foldl mnP p).y<=r.y)/\
  ((q.foldl mnP p).x=p.x∨∃r∈q,(q.foldl mnP p).x=r.x)/\((q.foldl mnP p).y=p.y∨∃r∈q,(q.foldl mnP p).y=r.y)
 |[],p=>⟨⟨K4 _,K4 _⟩,λr c=>(by cases c),.inl rfl,.inl rfl⟩
 |a::q,p=>by
  obtain⟨m,g,d,e⟩:=zvY q (mnP p a);rw[Qo];have j:(mnP p a).x=min p.x a.x:=rfl;have k:(mnP p a).y=min p.y a.y:=rfl;refine⟨⟨oM,oM⟩,λr c=>?_,?_,?_⟩
  .rcases XA.1 c with rfl|c
   .exact⟨oM,oM⟩
   exact g r c
  .rcases d with d|⟨r,c,d⟩
   .rcases Ju p.x a.x with h|h
    .exact .inl oM
    exact .inr ⟨a,.head _,oM⟩
   exact .inr ⟨r,.tail _ c,d⟩
  rcases e with e|⟨r,c,e⟩
  .rcases Ju p.y a.y with h|h
   .exact .inl oM
   exact .inr ⟨a,.head _,oM⟩
  exact .inr ⟨r,.tail _ c,e⟩
def zvZ:∀(q:LU) (p:Pt),(p.x<=(q.foldl mxP p).x/\p.y<=(q.foldl mxP p).y)/\(∀r∈q,r.x<=(q.foldl mxP p).x/\r.y<=(q.foldl mxP p).y)/\
  ((q.foldl mxP p).x=p.x∨∃r∈q,(q.foldl mxP p).x=r.x)/\((q.foldl mxP p).y=p.y∨∃r∈q,(q.foldl mxP p).y=r.y)
 |[],p=>⟨⟨K4 _,K4 _⟩,λr c=>(by cases c),.inl rfl,.inl rfl⟩
 |a::q,p=>by
  obtain⟨m,g,d,e⟩:=zvZ q (mxP p a);rw[Qo];have j:(mxP p a).x=max p.x a.x:=rfl;have k:(mxP p a).y=max p.y a.y:=rfl;refine⟨⟨oM,oM⟩,λr c=>?_,?_,?_⟩
  .rcases XA.1 c with rfl|c
   .exact⟨oM,oM⟩
   exact g r c
  .rcases d with d|⟨r,c,d⟩
   .rcases Ju p.x a.x with h|h
    .exact .inr ⟨a,.head _,oM⟩
    exact .inl oM
   exact .inr ⟨r,.tail _ c,d⟩
  rcases e with e|⟨r,c,e⟩
  .rcases Ju p.y a.y with h|h
   .exact .inr ⟨a,.head _,oM⟩
   exact .inl oM
  exact .inr ⟨r,.tail _ c,e⟩
def inR(n:Int):Prop:= -4096<=n/\n<=4096
instance (n:Int):Decidable (inR n):=wi
def rok(a b c d:Int):Prop:=inR a/\inR b/\inR c/\inR d/\a<c/\b<d
instance (a b c d:Int):Decidable (rok a b c d):=wi
def za2(a b c d:Int):List Sg:=if rok a b c d then[⟨1,⟨a*256,b*256⟩,zp,zp⟩,⟨2,⟨c*256,b*256⟩,zp,zp⟩,⟨2,⟨c*256,d*256⟩,zp,zp⟩,⟨2,⟨a*256,d*256⟩,zp,zp⟩,zuk] else[]
def reE(a b c d:Int):LR:=[i64 a,i64 b,i64 c,i64 d]
def zN(n:Int):LR:=[i64 n]
def zG4{enc:α->LR}:LE nS (.sl enc []):=λS Pm Z w v a=>by
 rw[a.val_inv];exact .d _ _ (.nil enc none)
def zD0(a b c d:Int):CX 125 [.agg (reE a b c d)] (pr (¬rok a b c d)):=by
 refine zc func125<|⟨Int,zN,[a,b,c,d],rfl,wb0 ?_⟩;intro _
 refine⟨Nat,λi=>⟨[(15,i64 i),(14,i64 4),(13,.own 1),(1,.loc 0 0)],[(1,.arr 3 zN 1 [a,b,c,d]),(0,.box 30 (reE a b c d))],2,38,0⟩,
  λi=>i<=4/\∀(j:Nat) n,j<i->[a,b,c,d][j]?=some n->inR n,λi=>4-i,0,⟨oM,λj n w=>by omega⟩,zf [0,1],?_⟩
 rintro i ⟨s,g⟩
 refine⟨λo:(i:Int)<4=>?_,λo:¬(i:Int)<4=>?_⟩
 .refine Ob.mk ⟨oM,o⟩<|Ob.mk ⟨oM,o⟩ λn k=>?_;have k:[a,b,c,d][i]?=some n:=k
  have out:¬inR n->¬rok a b c d:=λy ⟨A,B,C,D,_⟩=>y (by
   have:i=0∨i=1∨i=2∨i=3:=oM
   rcases this with rfl|rfl|rfl|rfl <;> (cases k;assumption))
  refine⟨λp=>zH (out λh=>by have:=h.1;omega),λp=>?_⟩;refine⟨λq=>zH (out λh=>by have:=h.2;omega),λq=>?_⟩;refine wa ?_
  exact⟨i+1,⟨oM,λj m w r=>by
   by_cases e:j=i
   .subst e;rw[k]at r;cases r;exact⟨oM,oM⟩
   exact g j m oM r⟩,zf [0,1],oN⟩
 have t:=g 0 a oM rfl;have s:=g 1 b oM rfl;have p:=g 2 c oM rfl;have q:=g 3 d oM rfl;refine⟨λu=>zH λh=>by have:=h.2.2.2.2.1;omega,λu=>?_⟩;refine zC ⟨λz h=>by have:=h.2.2.2.2.2;omega,λh=>?_⟩
 by_cases v:d<=b
 .exact v
 exact absurd ⟨t,s,p,q,oM,oM⟩ h
def c_at(x y:Int)(a:inR x)(c:inR y):CX 126 [i64 x,i64 y] (wk ⟨x*256,y*256⟩):=by
 refine zc func126 ?_;unfold inR at a c;(iterate 2 refine wa ?_);exact .refl
def zul(a b c d:Int):CX 77 [.agg (reE a b c d)] (.sl sgE (za2 a b c d)):=by
 refine zc func77 ?_;have g:∀{L:List Sg} {s:SV},za2 a b c d=L->LE s (.sl sgE L)->LE s (.sl sgE (za2 a b c d)):=λe h=>e ▸ h
 refine wg (zD0 a b c d)<|⟨λh=>g (Xc h) zG4,λh=>?_⟩;have h:=Xa.1 h;have hL:=show za2 a b c d=_ from Xe h;obtain⟨j,k,m,n,_⟩:=h;refine wc<|wg (c_at a b j k)<|wg (c_at c b m k)<|wg (c_at c d m n)<|wg (c_at a d j n)<|⟨Sg,sgE,[⟨1,⟨a*256,b*256⟩,zp,zp⟩,⟨2,⟨c*256,b*256⟩,zp,zp⟩,⟨2,⟨c*256,d*256⟩,zp,zp⟩,⟨2,⟨a*256,d*256⟩,zp,zp⟩,zuk],(by kernel_rfl),wb0 ?_⟩;exact g hL (z6 rfl)
def zpM(n:Int):CX 100 [i64 n] (pr (inR n)):=by
 refine zc func100 ?_;refine⟨λh=>zC ⟨λk=>⟨h,k⟩,λk=>k.2⟩,λh=>zd λk=>h k.1⟩
def zxQ(a b c d:Int):CX 60 [.agg (reE a b c d)] (pr (inR a/\inR b/\inR c/\inR d)):=by
 refine zc func60<|wg (zpM a)<|⟨λe=>?_,λe=>zd λk=>e k.1⟩;refine wg (zpM b)<|⟨λg=>?_,λg=>zd λk=>g k.2.1⟩;refine wg (zpM c)<|⟨λh=>?_,λh=>zd λk=>h k.2.2.1⟩;exact wg (zpM d)<|zC ⟨λj=>⟨e,g,h,j⟩,λk=>k.2.2.2⟩
def zAL(a b c d:Int):CX 30 [.agg (reE a b c d)] (pr (¬rok a b c d)):=by
 refine zc func30<|wg (zxQ a b c d)<|⟨λh=>zH λk=>h ⟨k.1,k.2.1,k.2.2.1,k.2.2.2.1⟩,λh=>?_⟩;obtain⟨e,g,j,m⟩:=Xa.1 h;refine⟨λn=>zH λh=>by have:=h.2.2.2.2.1;omega,λn=>?_⟩;refine zC ⟨λp h=>by have:=h.2.2.2.2.2;omega,λh=>?_⟩
 by_cases o:d<=b
 .exact o
 exact absurd ⟨e,g,j,m,oM,oM⟩ h
def zjH(a b c d:Int):CX 44 [.agg (reE a b c d)] (.sl sgE (za2 a b c d)):=by
 refine zc func44 ?_;have g:∀{L:List Sg} {s:SV},za2 a b c d=L->LE s (.sl sgE L)->LE s (.sl sgE (za2 a b c d)):=λe h=>e ▸ h
 refine wg (zAL a b c d)<|⟨λh=>?_,λh=>?_⟩
 .refine⟨Sg,sgE,[],rfl,wb2 ?_⟩;exact g (Xc h) .refl
 have h:=Xa.1 h;have hL:=show za2 a b c d=_ from Xe h;obtain⟨j,k,m,n,_⟩:=h;unfold inR at j k m n;refine wd ?_;(iterate 4 refine wa ?_);refine wh<|⟨Sg,sgE,[⟨1,⟨a*256,b*256⟩,zp,zp⟩,⟨2,⟨c*256,b*256⟩,zp,zp⟩,⟨2,⟨c*256,d*256⟩,zp,zp⟩,⟨2,⟨a*256,d*256⟩,zp,zp⟩,zuk],(by kernel_rfl),wb0 ?_⟩;exact g hL (z6 rfl)
def jb(p:Pen):LR:=[i64 p.w,i64 p.j,i64 p.c,i64 p.m,.sl zN p.d,i64 p.ph]
def zes(l:LV)(i:Nat):Prop:=l=[]∨∃n∈l.take i,0<n
def zhn{l:LV}{x:Int}(h:l[i]?=some x):l.take (i+1)=l.take i++[x]:=by
 rw[Xn,h];rfl
def zdh{l:LV}{x:Int}(h:l[i]?=some x):zes l (i+1)↔zes l i∨0<x:=by
 unfold zes;rw[zhn h];constructor
 .rintro(h|⟨n,a,c⟩)
  .exact .inl (.inl h)
  rcases Xu.1 a with a|a
  .exact .inl (.inr ⟨n,a,c⟩)
  rw[Xt]at a;exact .inr (a ▸ c)
 rintro((h|⟨n,a,c⟩)|h)
 .exact .inl h
 .exact .inr ⟨n,Kz _ a,c⟩
 exact .inr ⟨x,Kt _ (Xt.2 rfl),h⟩
def zv0{l:LV}{i:Nat}(hi:l.length<=i)(a:∀n∈l.take i,0<=n/\n<=1048576):uG l↔zes l i/\l.length%2=0/\(l.length:Int)<=16:=by
 rw[Xi hi]at a;unfold uG zes;rw[Xi hi];exact⟨λh=>h.2,λh=>⟨a,h⟩⟩
def zho{l:LV}{x:Int}(h:l[i]?=some x)(c:∀n∈l.take i,0<=n/\n<=1048576)(d:0<=x/\x<=1048576):∀n∈l.take (i+1),0<=n/\n<=1048576:=by
 rw[zhn h];intro n a
 rcases Xu.1 a with a|a
 .exact c n a
 rw[Xt]at a;exact a ▸ d
def zlG{l:LV}{x:Int}(h:l[i]?=some x)(a:¬(0<=x/\x<=1048576)):¬uG l:=λk=>a (k.1 x (Xf h))
def vH(l:LV):CX 310 [.sl zN l] (pr (uG l)):=by
 refine zc func310 λq=>?_;intro r;refine⟨Nat×Bool,λz=>⟨[(3,bl z.2),(11,i64 (z.1:Int)),(10,i64 l.length),(9,.sl zN l),(0,.sl zN l)],[],0,39,0⟩,λz=>z.1<=l.length/\(z.2=true↔zes l z.1)/\∀n∈l.take z.1,0<=n/\n<=1048576,λz=>l.length-z.1,(0,decide (l=[])),?_,?_,?_⟩
 .refine⟨Xh _,?_,λn m=>by cases m⟩;show decide (l=[])=true↔_;unfold zes;rw[decide_eq_true_iff];exact⟨.inl,λh=>h.elim id (λ⟨n,m,_⟩=>by cases m)⟩
 .refine Sub.trans (qS (t:=3) (s':=bl (decide (l=[]))) rfl (zvx ?_)) (kM [] rfl rfl rfl ⟨rfl,rfl,rfl,rfl,rfl,tV⟩ trivial);rw[decide_eq_true_iff,←XQ];omega
 rintro⟨i,b⟩ ⟨p,c,e⟩
 dsimp only at p c e;refine⟨λg:(i:Int)<l.length=>?_,λg:¬(i:Int)<l.length=>?_⟩
 .refine wb λx a=>?_;refine⟨λd=>zd (zlG a oM),λd=>?_⟩;refine⟨λo=>zd (zlG a oM),λo=>?_⟩;have a:l[i]?=some x:=a
  cases b with
  |true=>
   refine wa<|⟨(i+1,true),⟨oN,?_,zho a e oM⟩,zB [],oN⟩;exact⟨λ_=>(zdh a).2 (.inl (c.1 rfl)),λ_=>rfl⟩
  |false=>
   refine wa<|⟨(i+1,decide (0<x)),⟨oN,?_,zho a e oM⟩,Sub.trans (qS (t:=3) (s':=bl (decide (0<x))) rfl (zvx ?_)) (kM [] rfl rfl rfl ⟨rfl,rfl,rfl,rfl,rfl,tV⟩ trivial),oN⟩
   .show decide (0<x)=true↔zes l (i+1);rw[decide_eq_true_iff,zdh (show l[i]?=some x from a)];exact⟨.inr,λh=>h.elim (λk=>by have:=c.2 k;cases this) id⟩
   rw[decide_eq_true_iff]
 have j:=zv0 (l:=l) (i:=i) oM e
 cases b with
 |false=>
  exact zd (λk=>by have:=c.2 (j.1 k).1;cases this)
 |true=>
  intro s;refine Dv.pos ⟨oM,oM⟩<|⟨λd=>?_,λd=>zd (λk=>d (by have:=(j.1 k).2.1;omega))⟩;intro u;exact zC ⟨λk=>j.2 ⟨c.1 rfl,oM,k⟩,λk=>(j.1 k).2.2⟩
def zAM(l:LV):CX 228 [.sl zN l] (pr (uG l)):=by
 refine zc func228 λq=>?_;refine⟨Nat×Bool,λz=>⟨[(3,bl z.2),(4,i64 (z.1:Int)),(0,.sl zN l)],[],0,40,0⟩,λz=>z.1<=l.length/\(z.2=true↔zes l z.1)/\∀n∈l.take z.1,0<=n/\n<=1048576,λz=>l.length-z.1,(0,decide (l=[])),?_,?_,?_⟩
 .refine⟨Xh _,?_,λn o=>by cases o⟩;show decide (l=[])=true↔_;unfold zes;rw[decide_eq_true_iff];exact⟨.inl,λh=>h.elim id (λ⟨n,o,_⟩=>by cases o)⟩
 .refine Sub.trans (qS (t:=3) (s':=bl (decide (l=[]))) rfl (zvx ?_)) (kM [] rfl rfl rfl ⟨rfl,rfl,rfl,tV⟩ trivial);rw[decide_eq_true_iff,←XQ];omega
 rintro⟨i,b⟩ ⟨p,d,j⟩
 dsimp only at p d j;intro r;refine⟨λg:(i:Int)<l.length=>?_,λg:¬(i:Int)<l.length=>?_⟩
 .refine wb λx c=>wg (zaD x 0 1048576)<|⟨λa=>zd (zlG c a),λa=>?_⟩;have a:0<=x/\x<=1048576:=Xa.1 a;have c:l[i]?=some x:=c
  cases b with
  |true=>
   refine wa<|⟨(i+1,true),⟨oN,?_,zho c j a⟩,zB [],oN⟩;exact⟨λ_=>(zdh c).2 (.inl (d.1 rfl)),λ_=>rfl⟩
  |false=>
   refine wb λy(v:l[i]?=some y)=>?_;have e:x=y:=Xl ((show l[i]?=some x from c).symm.trans v);subst e;refine wa<|⟨(i+1,decide (0<x)),⟨oN,?_,zho c j a⟩,Sub.trans (qS (t:=3) (s':=bl (decide (0<x))) rfl (zvx ?_)) (kM [] rfl rfl rfl ⟨rfl,rfl,rfl,tV⟩ trivial),oN⟩
   .show decide (0<x)=true↔zes l (i+1);rw[decide_eq_true_iff,zdh (show l[i]?=some x from c)];exact⟨.inr,λh=>h.elim (λk=>by have:=d.2 k;cases this) id⟩
   rw[decide_eq_true_iff]
 have m:=zv0 (l:=l) (i:=i) oM j
 cases b with
 |false=>
  exact zd (λk=>by have:=d.2 (m.1 k).1;cases this)
 |true=>
  intro s;refine⟨λa=>?_,λa=>zd (λk=>a (m.1 k).2.2)⟩;intro u;exact Dv.pos ⟨oM,oM⟩<|zC ⟨λk=>m.2 ⟨d.1 rfl,oM,a⟩,λk=>by have:=(m.1 k).2.1;omega⟩
def zjI(p:Pen):kF p↔((1<=p.w/\p.w<=16384)/\(p.j=1∨p.j=2∨p.j=3)/\(p.c=3∨p.c=4∨p.c=5)/\(256<=p.m/\p.m<=65536)/\(0<=p.ph/\p.ph<=1048576))/\uG p.d:=by
 unfold kF kq;exact⟨λh=>⟨⟨h.1,h.2.1,h.2.2.1,h.2.2.2.1,h.2.2.2.2.2⟩,h.2.2.2.2.1⟩,λh=>⟨h.1.1,h.1.2.1,h.1.2.2.1,h.1.2.2.2.1,h.2,h.1.2.2.2.2⟩⟩
def zdi(p:Pen):CX 157 [.agg (jb p)] (pr (kF p)):=by
 have a:=zjI p;refine zc func157<|wg (zpK p.w)<|⟨λe=>zd (λk=>e (a.1 k).1.1),λe=>?_⟩;refine wg (zaD p.j 1 3)<|⟨λh=>zd (λk=>by have:=(a.1 k).1;omega),λh=>?_⟩;refine wg (zaD p.c 3 5)<|⟨λn=>zd (λk=>by have:=(a.1 k).1;omega),λn=>?_⟩;refine wg (zaD p.m 256 65536)<|⟨λo=>?_,λo=>zd (λk=>by have:=(a.1 k).1;omega)⟩;refine wg (zAM p.d)<|⟨λg=>?_,λg=>zd (λk=>g (a.1 k).2)⟩
 exact wg (zaD p.ph 0 1048576)<|zC ⟨λk=>a.2 ⟨by unfold kq at e;omega,g⟩,λk=>by have:=(a.1 k).1;omega⟩
def zfi(p:Pen):CX 247 [.agg (jb p)] (pr (kF p)):=by
 have a:=zjI p;refine zc func247<|Br.mk (λo=>?_) (λo=>?_)
 ·
  refine⟨λc1=>?_,λc1=>?_⟩
  ·
   refine wg (zaf p.w)<|⟨λe=>?_,λe=>zd (λk=>e (a.1 k).1.1)⟩;refine⟨λg=>?_,λg=>zd (λk=>by have:=(a.1 k).1;omega)⟩;refine⟨λh=>?_,λh=>zd (λk=>by have:=(a.1 k).1;omega)⟩;refine wg (vH p.d)<|⟨λc=>?_,λc=>zd (λk=>c (a.1 k).2)⟩;refine⟨λp1=>?_,λp1=>zd (λk=>by have:=(a.1 k).1;omega)⟩;exact zC ⟨λk=>a.2 ⟨by unfold kq at e;omega,c⟩,λk=>by have:=(a.1 k).1;omega⟩
  refine⟨λj=>?_,λj=>?_⟩
  ·
   refine wg (zaf p.w)<|⟨λe=>?_,λe=>zd (λk=>e (a.1 k).1.1)⟩;refine⟨λg=>?_,λg=>zd (λk=>by have:=(a.1 k).1;omega)⟩;refine⟨λh=>?_,λh=>zd (λk=>by have:=(a.1 k).1;omega)⟩;refine wg (vH p.d)<|⟨λc=>?_,λc=>zd (λk=>c (a.1 k).2)⟩;refine⟨λp1=>?_,λp1=>zd (λk=>by have:=(a.1 k).1;omega)⟩;exact zC ⟨λk=>a.2 ⟨by unfold kq at e;omega,c⟩,λk=>by have:=(a.1 k).1;omega⟩
  refine wg (zaf p.w)<|⟨λe=>?_,λe=>zd (λk=>e (a.1 k).1.1)⟩;refine⟨λm=>?_,λm=>zd (λk=>by have:=(a.1 k).1;omega)⟩;refine⟨λg=>?_,λg=>zd (λk=>by have:=(a.1 k).1;omega)⟩;refine⟨λh=>?_,λh=>zd (λk=>by have:=(a.1 k).1;omega)⟩;refine wg (vH p.d)<|⟨λc=>?_,λc=>zd (λk=>c (a.1 k).2)⟩;refine⟨λp1=>?_,λp1=>zd (λk=>by have:=(a.1 k).1;omega)⟩
  exact zC ⟨λk=>a.2 ⟨by unfold kq at e;omega,c⟩,λk=>by have:=(a.1 k).1;omega⟩
 refine⟨λq=>?_,λq=>?_⟩
 ·
  refine⟨λc1=>?_,λc1=>?_⟩
  ·
   refine wg (zaf p.w)<|⟨λe=>?_,λe=>zd (λk=>e (a.1 k).1.1)⟩;refine⟨λg=>?_,λg=>zd (λk=>by have:=(a.1 k).1;omega)⟩;refine⟨λh=>?_,λh=>zd (λk=>by have:=(a.1 k).1;omega)⟩;refine wg (vH p.d)<|⟨λc=>?_,λc=>zd (λk=>c (a.1 k).2)⟩;refine⟨λp1=>?_,λp1=>zd (λk=>by have:=(a.1 k).1;omega)⟩;exact zC ⟨λk=>a.2 ⟨by unfold kq at e;omega,c⟩,λk=>by have:=(a.1 k).1;omega⟩
  refine⟨λj=>?_,λj=>?_⟩
  ·
   refine wg (zaf p.w)<|⟨λe=>?_,λe=>zd (λk=>e (a.1 k).1.1)⟩;refine⟨λg=>?_,λg=>zd (λk=>by have:=(a.1 k).1;omega)⟩;refine⟨λh=>?_,λh=>zd (λk=>by have:=(a.1 k).1;omega)⟩;refine wg (vH p.d)<|⟨λc=>?_,λc=>zd (λk=>c (a.1 k).2)⟩;refine⟨λp1=>?_,λp1=>zd (λk=>by have:=(a.1 k).1;omega)⟩;exact zC ⟨λk=>a.2 ⟨by unfold kq at e;omega,c⟩,λk=>by have:=(a.1 k).1;omega⟩
  refine wg (zaf p.w)<|⟨λe=>?_,λe=>zd (λk=>e (a.1 k).1.1)⟩;refine⟨λm=>?_,λm=>zd (λk=>by have:=(a.1 k).1;omega)⟩;refine⟨λg=>?_,λg=>zd (λk=>by have:=(a.1 k).1;omega)⟩;refine⟨λh=>?_,λh=>zd (λk=>by have:=(a.1 k).1;omega)⟩;refine wg (vH p.d)<|⟨λc=>?_,λc=>zd (λk=>c (a.1 k).2)⟩;refine⟨λp1=>?_,λp1=>zd (λk=>by have:=(a.1 k).1;omega)⟩
  exact zC ⟨λk=>a.2 ⟨by unfold kq at e;omega,c⟩,λk=>by have:=(a.1 k).1;omega⟩
 refine⟨λc1=>?_,λc1=>?_⟩
 ·
  refine wg (zaf p.w)<|⟨λe=>?_,λe=>zd (λk=>e (a.1 k).1.1)⟩;refine⟨λn=>?_,λn=>zd (λk=>by have:=(a.1 k).1;omega)⟩;refine⟨λg=>?_,λg=>zd (λk=>by have:=(a.1 k).1;omega)⟩;refine⟨λh=>?_,λh=>zd (λk=>by have:=(a.1 k).1;omega)⟩;refine wg (vH p.d)<|⟨λc=>?_,λc=>zd (λk=>c (a.1 k).2)⟩;refine⟨λp1=>?_,λp1=>zd (λk=>by have:=(a.1 k).1;omega)⟩
  exact zC ⟨λk=>a.2 ⟨by unfold kq at e;omega,c⟩,λk=>by have:=(a.1 k).1;omega⟩
 refine⟨λj=>?_,λj=>?_⟩
 ·
  refine wg (zaf p.w)<|⟨λe=>?_,λe=>zd (λk=>e (a.1 k).1.1)⟩;refine⟨λn=>?_,λn=>zd (λk=>by have:=(a.1 k).1;omega)⟩;refine⟨λg=>?_,λg=>zd (λk=>by have:=(a.1 k).1;omega)⟩;refine⟨λh=>?_,λh=>zd (λk=>by have:=(a.1 k).1;omega)⟩;refine wg (vH p.d)<|⟨λc=>?_,λc=>zd (λk=>c (a.1 k).2)⟩;refine⟨λp1=>?_,λp1=>zd (λk=>by have:=(a.1 k).1;omega)⟩
  exact zC ⟨λk=>a.2 ⟨by unfold kq at e;omega,c⟩,λk=>by have:=(a.1 k).1;omega⟩
 refine wg (zaf p.w)<|⟨λe=>?_,λe=>zd (λk=>e (a.1 k).1.1)⟩;refine⟨λn=>?_,λn=>zd (λk=>by have:=(a.1 k).1;omega)⟩;refine⟨λm=>?_,λm=>zd (λk=>by have:=(a.1 k).1;omega)⟩;refine⟨λg=>?_,λg=>zd (λk=>by have:=(a.1 k).1;omega)⟩;refine⟨λh=>?_,λh=>zd (λk=>by have:=(a.1 k).1;omega)⟩;refine wg (vH p.d)<|⟨λc=>?_,λc=>zd (λk=>c (a.1 k).2)⟩
 refine⟨λp1=>?_,λp1=>zd (λk=>by have:=(a.1 k).1;omega)⟩;exact zC ⟨λk=>a.2 ⟨by unfold kq at e;omega,c⟩,λk=>by have:=(a.1 k).1;omega⟩
abbrev ws(x:Pen):SV:=.agg (jb x)
abbrev LX:=List Sg
end Go.Gs
