/- Paths cut to polylines: plain. -/
import Derived.Test.YtakicgnbhdpknaaGreatDoorPAU
set_option maxRecDepth 100000
set_option maxHeartbeats 8000000
set_option linter.all false
namespace Go.Gs
section
variable{α:Type}
def kI{p:Prop}[Decidable p](h:p){a b:α}:(if¬p then a else b)=b:=Xc (λk=>k h)
def qK{n:Int}(h:n=0){a b:α}:(if n≠0 then a else b)=b:=Xc (λk=>k h)
def y4(q:LU)(x:Pt):LU:=if q.getLast?=some x then q else q++[x]
def ky(q more:LU):LU:=more.foldl y4 q
def kL(p:Pt)(s:Sg)(tol:Int):LU×Int:=if s.v=3 then zdz p s.a s.b tol else if s.v=4 then zdA p s.a s.b s.c tol else([s.a],0)
def qS(l:LU):Pt:=l.getLastD zp
def zbE(p:Pl)(s:Sg)(tol:Int):Pl×Int:=
 if s.v=5 then(⟨qk p.pts,true⟩,0)
 else if (kL (qS p.pts) s tol).2≠0 then(p,(kL (qS p.pts) s tol).2)
 else(⟨ky p.pts (kL (qS p.pts) s tol).1,p.cl⟩,0)
def ul(tol:Int)(st:LZ×Int)(s:Sg):LZ×Int:=
 if st.2≠0 then([],st.2)
 else if s.v=1 then(st.1++[⟨[s.a],false⟩],0)
 else if (zbE (st.1.getLastD ⟨[],false⟩) s tol).2≠0 then([],(zbE (st.1.getLastD ⟨[],false⟩) s tol).2)
 else(st.1.dropLast++[(zbE (st.1.getLastD ⟨[],false⟩) s tol).1],0)
variable{tol:Int}{S:LZ}
def zhd{s:Sg}:ul tol (S,0) s=
  if s.v=1 then(S++[⟨[s.a],false⟩],0)
  else if (zbE (S.getLastD ⟨[],false⟩) s tol).2≠0 then([],(zbE (S.getLastD ⟨[],false⟩) s tol).2)
  else(S.dropLast++[(zbE (S.getLastD ⟨[],false⟩) s tol).1],0):=Xc (λk:(0:Int)≠0=>k rfl)
def jk(l:LX)(tol:Int):LZ×Int:=l.foldl (ul tol) ([],0)
def js(l:LZ):Nat:=(l.map λp=>p.pts.length).sum
def zfG(tol:Int):Prop:=1<=tol/\tol<=256
instance (tol:Int):Decidable (zfG tol):=wi
def zY(l:LX)(tol:Int):LZ×Int:=
 if¬valid l then([],10) else if¬zfG tol then([],2) else if (jk l tol).2≠0 then([],(jk l tol).2)
 else if 4096<js (jk l tol).1 then([],5) else((jk l tol).1,0)
def inB(lo hi p:Pt):Prop:=(lo.x<=p.x/\p.x<=hi.x)/\(lo.y<=p.y/\p.y<=hi.y)
def zvx{a b lo hi:Int}(g:0<b)(d:lo*b<=a)(e:a<=hi*b):lo<=zee a b/\zee a b<=hi:=by
 unfold zee;constructor
 .rw[Int.le_ediv_iff_mul_le oM];have:lo*(2*b)=2*(lo*b):=by grind
  omega
 have f:(2*a+b)/(2*b)<hi+1:=by
  rw[Int.ediv_lt_iff_lt_mul oM];have:(hi+1)*(2*b)=2*(hi*b)+2*b:=by grind
  omega
 omega
variable{i:Int}
def zE5{n a b c lo hi:Int}(B:1<=n)(h:0<=i)(j:i<=n)(y:lo<=a/\a<=hi)(z:lo<=b/\b<=hi)(A:lo<=c/\c<=hi):lo<=q1 i n a b c/\q1 i n a b c<=hi:=by
 unfold q1;have d:0<=(n-i)*(n-i):=XI oM oM;have f:0<=2*i*(n-i):=XI oM oM;have g:0<=i*i:=XI oM oM;have e:n*n=(n-i)*(n-i)+2*i*(n-i)+i*i:=by grind
 have k:=XI d (show 0<=a-lo by omega);have o:=XI f (show 0<=b-lo by omega);have s:=XI g (show 0<=c-lo by omega);have t:=XI d (show 0<=hi-a by omega);have u:=XI f (show 0<=hi-b by omega);have v:=XI g (show 0<=hi-c by omega);refine zvx (QZ oM oM) ?_ ?_
 .rw[e];grind
 rw[e];grind
def zE6{n a b c d lo hi:Int}(C:1<=n)(k:0<=i)(o:i<=n)(y:lo<=a/\a<=hi)(z:lo<=b/\b<=hi)(A:lo<=c/\c<=hi)(B:lo<=d/\d<=hi):
  lo<=c1 i n a b c d/\c1 i n a b c d<=hi:=by
 unfold c1;have f:0<=(n-i)*(n-i)*(n-i):=XI (XI oM oM) oM;have g:0<=3*i*(n-i)*(n-i):=XI (XI oM oM) oM;have h:0<=3*i*i*(n-i):=XI (XI oM oM) oM;have j:0<=i*i*i:=XI (XI oM oM) oM;have e:n*n*n=(n-i)*(n-i)*(n-i)+3*i*(n-i)*(n-i)+3*i*i*(n-i)+i*i*i:=by grind
 have s:=XI f (show 0<=a-lo by omega);have t:=XI g (show 0<=b-lo by omega);have u:=XI h (show 0<=c-lo by omega);have v:=XI j (show 0<=d-lo by omega);have D:=XI f (show 0<=hi-a by omega);have E:=XI g (show 0<=hi-b by omega);have F:=XI h (show 0<=hi-c by omega);have G:=XI j (show 0<=hi-d by omega);refine zvx (QZ (QZ oM oM) oM) ?_ ?_
 .rw[e];grind
 rw[e];grind
def zjq(need tol:Int):∀(k n:Nat),1<=n->(yF need tol k n).2=0->1<=(yF need tol k n).1/\(yF need tol k n).1<=(n+k:Nat)-1
 |0,n,_,h=>by cases h
 |k+1,n,d,h=>by
  unfold yF at h ⊢
  split
  .exact⟨oN,oN⟩
  rename_i c;rw[Xc c]at h;have:=zjq need tol k (n+1) oM h;omega
variable{l:LU}
def yS{need:Int}(h:(kZ need tol l).2=0):(1<=(kZ need tol l).1/\(kZ need tol l).1<=64)/\zfG tol/\(∀p∈l,zm p)/\kZ need tol l=yF need tol 64 1:=by
 unfold kZ at h ⊢
 by_cases d:¬(1<=tol/\tol<=256)
 .rw[Xe d]at h;exact absurd h dC
 rw[Xc d]at h ⊢
 by_cases e:¬∀p∈l,zm p
 .rw[Xe e]at h;exact absurd h dC
 rw[Xc e]at h ⊢;have:=zjq need tol 64 1 dC h;exact⟨oM,Xa.1 d,Xa.1 e,rfl⟩
variable{p:Pt}
def zrz{f:Int->Pt}{n:Nat}(h:p∈zcx f n):∃i:Nat,i<n/\p=f ((i:Int)+1):=by
 unfold zcx at h;obtain⟨i,hi,rfl⟩:=XN.1 h;exact⟨i,XU.1 hi,rfl⟩
variable{lo:Pt}{hi:Pt}{a:Pt}{b:Pt}{c:Pt}
def zxk{n:Int}(e:1<=n/\n<=64)(d:0<=i/\i<=n)(o:∀p∈[a,b,c],zm p)(h:∀p∈[a,b,c],inB lo hi p):inB lo hi (yY a b c i n):=by
 unfold yY;rw[Xc (λk=>k ⟨o,e.1,e.2,d.1,d.2⟩)];have f:=h a sI;have g:=h b sI;have j:=h c sI;exact⟨zE5 e.1 d.1 d.2 f.1 g.1 j.1,zE5 e.1 d.1 d.2 f.2 g.2 j.2⟩
def zxl{d:Pt}{n:Int}(f:1<=n/\n<=64)(e:0<=i/\i<=n)(t:∀p∈[a,b,c,d],zm p)(h:∀p∈[a,b,c,d],inB lo hi p):inB lo hi (yZ a b c d i n):=by
 unfold yZ;rw[Xc (λk=>k ⟨t,f.1,f.2,e.1,e.2⟩)];have g:=h a sI;have j:=h b sI;have o:=h c sI;have s:=h d sI;exact⟨zE6 f.1 e.1 e.2 g.1 j.1 o.1 s.1,zE6 f.1 e.1 e.2 g.2 j.2 o.2 s.2⟩
def zAj(f:(zdz a b c tol).2=0)(h:∀p∈[a,b,c],inB lo hi p):∀p∈(zdz a b c tol).1,inB lo hi p:=by
 unfold zdz at f ⊢
 split
 .intro p e;cases e
 rename_i d;have d:=Xa.1 d;have ok:=yS d;intro p e;obtain⟨i,hi,rfl⟩:=zrz (show p∈zcx (λi=>yY a b c i (jY a b c tol).1) (jY a b c tol).1.toNat from e);unfold jY at hi ⊢;exact zxk (by unfold jY at*;omega) (by unfold jY at*;omega) ok.2.2.1 h
def zAk{d:Pt}(g:(zdA a b c d tol).2=0)(h:∀p∈[a,b,c,d],inB lo hi p):∀p∈(zdA a b c d tol).1,inB lo hi p:=by
 unfold zdA at g ⊢
 split
 .intro p f;cases f
 rename_i e;have e:=Xa.1 e;have ok:=yS e;intro p f;obtain⟨i,hi,rfl⟩:=zrz (show p∈zcx (λi=>yZ a b c d i (jZ a b c d tol).1) (jZ a b c d tol).1.toNat from f);unfold jZ at hi ⊢;exact zxl (by unfold jZ at*;omega) (by unfold jZ at*;omega) ok.2.2.1 h
def zf9:∀{l:LU} {x:Pt},jH l->l.getLast?≠some x->jH (l++[x])
 |[],x,_,_=>⟨λ_ h=>(by cases h),tV⟩
 |[p],x,_,h=>⟨λq f e=>h (by cases f;rw[e];rfl),⟨λ_ h=>(by cases h),tV⟩⟩
 |p::q::r,x,h,d=>⟨λz g=>h.1 z g,zf9 (l:=q::r) h.2 (by rwa [Yk]at d)⟩
def zxm(h:jH l)(x:Pt):jH (y4 l x):=by
 unfold y4
 split
 .exact h
 rename_i k;exact zf9 h k
def zga:∀(more:LU) {l:LU},jH l->jH (ky l more)
 |[],_,h=>h
 |x::r,l,h=>zga r (zxm h x)
def zls:∀{l:LU},jH l->jH l.dropLast
 |[],_=>trivial
 |[p],_=>trivial
 |[p,q],h=>⟨λ_ h=>(by cases h),tV⟩
 |p::q::r::s,h=>⟨λz d=>h.1 z d,zls (l:=q::r::s) h.2⟩
def zbF(h:jH l):jH (qk l):=by
 unfold qk;split
 .exact zls h
 exact h
def zDi{x:Pt}(h:p∈y4 l x):p∈l∨p=x:=by
 unfold y4 at h
 split at h
 .exact .inl h
 simpa using h
def zrA:∀(more:LU) {l:LU} {p:Pt},p∈ky l more->p∈l∨p∈more
 |[],_,_,h=>.inl h
 |x::r,l,p,h=>by
  rcases zrA r (l:=y4 l x) h with h|h
  .exact(zDi h).imp id λe=>by rw[e];exact .head _
  exact .inr (.tail _ h)
def zrB(h:p∈qk l):p∈l:=by
 unfold qk at h
 split at h
 .exact List.dropLast_subset l h
 exact h
def zGn(x:Pt):y4 l x≠[]:=by
 unfold y4;split
 .rename_i h;intro e;rw[e]at h;cases h
 simp
def zpr:∀(more:LU) {l:LU},l≠[]->ky l more≠[]
 |[],_,h=>h
 |x::r,l,_=>zpr r (zGn x)
def zDj(h:l≠[]):qk l≠[]:=by
 unfold qk;split
 .rename_i k;intro e;have:l.dropLast.length=0:=by rw[e];rfl
  rw[Q0]at this;omega
 exact h
def zrC(l:LU)(x:Pt):(y4 l x).getLast?=some x:=by
 unfold y4;split
 .assumption
 simp
def znz:∀(more:LU) (l:LU),more≠[]->(ky l more).getLast?=more.getLast?
 |[],_,h=>absurd rfl h
 |[x],l,_=>zrC l x
 |x::y::r,l,_=>by
  show(ky (y4 l x) (y::r)).getLast?=_;rw[znz (y::r) _ sI,Yk]
def znA{l:LU}(h:jH l)(f:1<(qk l).length):(qk l).getLast?≠(qk l).head?:=by
 unfold qk at f ⊢
 split
 .rename_i k;rw[Xe k]at f;rw[Q0]at f;intro e
  -- l=d++[z]
  obtain⟨d,z,rfl⟩:∃d z,l=d++[z]:=⟨l.dropLast,l.getLast (by intro h;rw[h]at k;simp at k),(JR _).symm⟩;rw[JL]at e;simp at f;obtain⟨g,y,rfl⟩:∃g y,d=g++[y]:=⟨d.dropLast,d.getLast (by intro h;rw[h]at f;simp at f),(JR _).symm⟩;have n:(g++[y]++[z]).head?=(g++[y]).head?:=by cases g <;> rfl
  rw[n,←e]at k;have j:=k.2;rw[JN,JN]at j;have o:z=y:=Xl j;clear e n k f j
  induction g with
  |nil=>exact h.1 z rfl o.symm
  |cons w g s=>exact s h.2
 rename_i k;rw[Xc k]at f;intro e;exact k ⟨f,e⟩
def InvP(lo hi:Pt)(S:LZ)(last:Int):Prop:=
 (S=[]/\last=5∨∃cl p,S=cl++[p]/\(p.cl=true↔last=5))/\∀q∈S,q.pts≠[]/\jH q.pts/\∀z∈q.pts,inB lo hi z
def zxn(h:l≠[]):qS l∈l:=by
 unfold qS;rw[Q9,List.getLast?_eq_some_getLast h];exact List.getLast_mem h
def ztU{s:Sg}(h:s.v=1∨s.v=2):kD s=[s.a]:=by
 unfold kD
 rcases h with h|h <;> rw[h] <;> rfl
def zGo{s:Sg}(h:s.v=3):kD s=[s.a,s.b]:=by unfold kD;rw[h];rfl
def zGp{s:Sg}(h:s.v=4):kD s=[s.a,s.b,s.c]:=by unfold kD;rw[h];rfl
def zGq{s:Sg}(k:0<=nm s.v)(j:s.v≠5)(g:inB lo hi p)(e:∀q∈kD s,inB lo hi q)(f:(kL p s tol).2=0):∀q∈(kL p s tol).1,inB lo hi q:=by
 unfold kL at f ⊢
 rcases znt k with h|h|h|h|h
 .rw[Xc oM,Xc oM]at f ⊢;intro q d;rw[ztU (.inl h)]at e;exact e q d
 .rw[Xc oM,Xc oM]at f ⊢;intro q d;rw[ztU (.inr h)]at e;exact e q d
 .rw[Xe h]at f ⊢;rw[zGo h]at e
  exact zAj f λq d=>by
   cases d with
   |head=>exact g
   |tail _ d=>exact e q d
 .rw[Xc oM,Xe h]at f ⊢;rw[zGp h]at e
  exact zAk f λq d=>by
   cases d with
   |head=>exact g
   |tail _ d=>exact e q d
 exact absurd h j
variable{last:Int}{x:Sg}
def zAl(h:InvP lo hi S last)(E:jS last x=0)(y:∀p∈kD x,inB lo hi p)(g:(ul tol (S,0) x).2=0):InvP lo hi (ul tol (S,0) x).1 x.v:=by
 obtain⟨B,C,F⟩:=u4.1 E;rw[zhd]at g ⊢
 by_cases o:x.v=1
 .rw[Xe o]at g ⊢;refine⟨.inr ⟨S,_,rfl,⟨λk=>(by cases k),λk=>by omega⟩⟩,λq d=>?_⟩
  rcases Xt.1 d with d|d
  .exact h.2 q d
  have:=Xu.1 d;subst this;refine⟨sI,⟨λ_ h=>(by cases h),tV⟩,λz f=>?_⟩;have:=Xu.1 f;subst this;exact y _ (by rw[ztU (.inl o)];exact .head _)
 rw[Xc o]at g ⊢;obtain⟨u,G⟩:=C.resolve_left o;obtain⟨cl,p,rfl,D⟩:∃cl p,S=cl++[p]/\(p.cl=true↔last=5):=h.1.resolve_left (λk=>u k.2);have eg:(cl++[p]).getLastD ⟨[],false⟩=p:=by simp
 rw[eg]at g ⊢
 by_cases e:(zbE p x tol).2≠0
 .rw[Xe e]at g;exact absurd g e
 rw[Xc e]at g ⊢;have e:=Xa.1 e;obtain⟨p1,A,s⟩:=h.2 p sI;rw[JL]
 have t:((zbE p x tol).1.cl=true↔x.v=5)/\(zbE p x tol).1.pts≠[]/\jH (zbE p x tol).1.pts/\∀z∈(zbE p x tol).1.pts,inB lo hi z:=by
  unfold zbE at e ⊢
  by_cases n:x.v=5
  .rw[Xe n];exact⟨⟨λ_=>n,λ_=>rfl⟩,zDj p1,zbF A,λz f=>s z (zrB f)⟩
  rw[Xc n]at e ⊢
  by_cases j:(kL (qS p.pts) x tol).2≠0
  .rw[Xe j]at e;exact absurd e j
  rw[Xc j]at e ⊢;have j:=Xa.1 j;refine⟨⟨λk=>absurd (D.1 k) u,λk=>absurd k n⟩,zpr _ p1,zga _ A,λz f=>?_⟩
  rcases zrA _ f with f|f
  .exact s z f
  exact zGq B n (s _ (zxn p1)) y j z f
 refine⟨.inr ⟨cl,_,rfl,t.1⟩,λq d=>?_⟩
 rcases Xt.1 d with d|d
 .exact h.2 q (KZ _ d)
 have:=Xu.1 d;subst this;exact t.2
def zrD(last:Int)(l:LX)(i:Nat):Int:=if i=0 then last else(l[i-1]?.map Sg.v).getD 0
def zlt{l:LX}{i:Nat}(h:l[i]?=some x):zrD last l (i+1)=x.v:=by
 unfold zrD;rw[Xc oM,show i+1-1=i by omega,h];rfl
def ztV:∀{l:LX} {last:Int} {i:Nat} {x:Sg},oks last l->l[i]?=some x->jS (zrD last l i) x=0
 |[],_,i,_,_,h=>by simp at h
 |s::r,last,0,x,h,d=>by cases d;exact h.1
 |s::r,last,i+1,x,h,d=>by
  have d:r[i]?=some x:=d;have:=ztV h.2 d
  cases i with
  |zero=>exact this
  |succ i=>exact this
def zae{l:LX}{tol:Int}{i:Nat}{x:Sg}(h:l[i]?=some x):jk (l.take (i+1)) tol=ul tol (jk (l.take i) tol) x:=by
 unfold jk;rw[Xm,h];simp[KT]
def zrE{tol:Int}:∀(r:LX) {st:LZ×Int},st.2≠0->r.foldl (ul tol) ([],st.2)=([],st.2)
 |[],_,_=>rfl
 |x::r,st,h=>by
  rw[Qm];have:ul tol ([],st.2) x=([],st.2):=by unfold ul;rw[Xe h]
  rw[this];exact zrE r (st:=st) h
def zAm{st:LZ×Int}(h:(ul tol st x).2≠0):ul tol st x=([],(ul tol st x).2):=by
 unfold ul at h ⊢
 split
 .rfl
 rename_i e;rw[Xc e]at h
 split
 .rename_i d;rw[Xe d]at h;exact absurd rfl h
 rename_i d;rw[Xc d]at h
 split
 .rfl
 rename_i f;rw[Xc f]at h;exact absurd rfl h
def znB{l:LX}{i:Nat}(d:l[i]?=some x)(h:(jk (l.take (i+1)) tol).2≠0):jk l tol=([],(jk (l.take (i+1)) tol).2):=by
 have e:jk l tol=(l.drop (i+1)).foldl (ul tol) (jk (l.take (i+1)) tol):=by
  unfold jk;rw[←KT,Kr]
 rw[e];rw[zae d]at h ⊢;rw[zAm h];exact zrE _ (st:=ul tol (jk (l.take i) tol) x) h
def zlu{lo hi:Pt}{l:LX}{tol:Int}(j:oks 5 l)(g:∀p∈qh l,inB lo hi p):∀i,i<=l.length->(jk (l.take i) tol).2=0->InvP lo hi (jk (l.take i) tol).1 (zrD 5 l i)
 |0,_,_=>⟨.inl ⟨rfl,rfl⟩,λq o=>(by cases o)⟩
 |i+1,k,h=>by
  have f:l[i]?=some l[i]:=Xb oM;rw[zae f]at h ⊢
  by_cases d:(jk (l.take i) tol).2=0
  .have s:=zlu j g i oM d;rw[zlt f];have e:jk (l.take i) tol=((jk (l.take i) tol).1,0):=by rw[←d]
   rw[e]at h ⊢;exact zAl s (ztV j f) (λp n=>g p (QL.2 ⟨_,X2 _,n⟩)) h
  unfold ul at h;rw[Xe d]at h;exact absurd h d
def qC(d:LV)(i:Nat):Int:=256*(d.take i).sum
def qF(d:LV):Int:=256*d.sum
def yy:LV->Int->Nat->Nat×Int
 |[],_,_=>(0,0)
 |e::r,k,i=>if k<256*e then(i,256*e-k) else yy r (k-256*e) (i+1)
def phD(pen:Pen)(t:Int):Int:=(t%qF pen.d+(256*pen.ph)%qF pen.d)%qF pen.d
def onD(pen:Pen)(t:Nat):Prop:=(yy pen.d (phD pen t) 0).1%2=0
instance (pen:Pen) (t:Nat):Decidable (onD pen t):=inferInstanceAs (Decidable (_=_))
def yL(d:LV):qC d d.length=qF d:=by unfold qC qF;rw[X9]
def yp{d:LV}{i:Nat}{e:Int}(h:d[i]?=some e):qC d (i+1)=qC d i+256*e:=by
 unfold qC;rw[Xm,h];simp[Jl]
def uu(d:LV):qC d 0=0:=rfl
def zlv:∀{d:LV},(∀n∈d,0<=n)->0<=d.sum
 |[],_=>dC
 |e::r,h=>by
  rw[Jd];have:=h e (.head _);have:=zlv (d:=r) λn f=>h n (.tail _ f)
  omega
def zAn:∀{d:LV},(∀n∈d,n<=1048576)->d.sum<=1048576*(d.length:Int)
 |[],_=>dC
 |e::r,h=>by
  rw[Jd,Xn];have:=h e (.head _);have:=zAn (d:=r) λn f=>h n (.tail _ f)
  omega
def ziw{d:LV}(h:∀n∈d,0<=n){i j:Nat}(f:i<=j):qC d i<=qC d j:=by
 unfold qC
 have e:d.take j=d.take i++(d.take j).drop i:=by
  have:=(Kr i (d.take j)).symm
  rwa [YI,Qn f]at this
 rw[e,QT];have:=zlv (d:=(d.take j).drop i) λn g=>h n (XO (K2 g))
 omega
def zfa:∀{d:LV} {i i0:Nat} {k e:Int},(∀n∈d,0<=n)->d[i]?=some e->qC d i<=k->k<qC d i+256*e->yy d k i0=(i0+i,qC d i+256*e-k)
 |[],i,_,_,_,_,h,_,_=>by simp at h
 |a::r,0,i0,k,e,g,h,j,o=>by
  cases h
  rw[uu] at*;unfold yy;rw[Xe oM];simp
 |a::r,i+1,i0,k,e,g,h,j,o=>by
  have h:r[i]?=some e:=h;have s:qC (a::r) (i+1)=256*a+qC r i:=by unfold qC;rw[Kt,Jd,Jl]
  have t:=ziw (d:=r) (λn f=>g n (.tail _ f)) (Xh i);rw[uu]at t;rw[s]at j o ⊢;unfold yy;rw[Xc oM,zfa (λn f=>g n (.tail _ f)) h oM oM];exact Prod.ext oN oN
def zps:∀{d:LV} {k:Int},(∀n∈d,0<=n)->0<=k->k<qF d->∃i e,d[i]?=some e/\qC d i<=k/\k<qC d i+256*e
 |[],k,_,g,h=>by unfold qF at h;simp at h;omega
 |a::r,k,o,g,h=>by
  by_cases c:k<256*a
  .exact⟨0,a,rfl,g,by rw[uu];omega⟩
  have s:qF (a::r)=256*a+qF r:=by unfold qF;rw[Jd,Jl]
  obtain⟨i,e,j,u,v⟩:=zps (d:=r) (k:=k-256*a) (λn f=>o n (.tail _ f)) oM oM;have t:qC (a::r) (i+1)=256*a+qC r i:=by unfold qC;rw[Kt,Jd,Jl]
  exact⟨i+1,e,j,oM,oM⟩
def z9(on:LI)[DecidablePred on]:Nat->List (Nat×Nat)×Option Nat
 |0=>([],none)
 |t+1=>if on t then((z9 on t).1,some ((z9 on t).2.getD t)) else((z9 on t).1++((z9 on t).2.map λf=>(f,t)).toList,none)
def kM(on:LI)[DecidablePred on](t:Nat):List (Nat×Nat):=(z9 on t).1++((z9 on t).2.map λf=>(f,t)).toList
end
section
variable{on:LI}[DecidablePred on]
def vj(t:Nat):z9 on (t+1)=if on t then((z9 on t).1,some ((z9 on t).2.getD t)) else((z9 on t).1++((z9 on t).2.map λf=>(f,t)).toList,none):=rfl
def zAo{a b:Nat}(e:a<b)(h:∀t,a<=t->t<b->on t):z9 on b=((z9 on a).1,some ((z9 on a).2.getD a)):=by
 obtain⟨k,rfl⟩:∃k,b=a+1+k:=⟨b-a-1,oM⟩
 induction k with
 |zero=>rw[show a+1+0=a+1 from rfl,vj,Xe (h a (Xj _) oM)]
 |succ k f=>
  rw[show a+1+(k+1)=(a+1+k)+1 from rfl,vj,Xe (h _ oM oM),f oM λt d g=>h t d oM];rfl
def zvy{a b:Nat}(e:a<b)(h:∀t,a<=t->t<b->¬on t):z9 on b=(kM on a,none):=by
 obtain⟨k,rfl⟩:∃k,b=a+1+k:=⟨b-a-1,oM⟩
 induction k with
 |zero=>rw[show a+1+0=a+1 from rfl,vj,Xc (h a (Xj _) oM)];rfl
 |succ k f=>
  rw[show a+1+(k+1)=(a+1+k)+1 from rfl,vj,Xc (h _ oM oM),f oM λt d g=>h t d oM];exact Prod.ext (XC _) rfl
def zrF{a:Nat}:∀k,∃r,(z9 on (a+k)).1=(z9 on a).1++r
 |0=>⟨[],sI⟩
 |k+1=>by
  obtain⟨r,d⟩:=zrF (a:=a) k;rw[show a+(k+1)=(a+k)+1 from rfl,vj]
  split
  .exact⟨r,d⟩
  exact⟨r++_,by rw[←XM,←d]⟩
def zAp{a b:Nat}(d:a<=b):∃r,kM on b=(z9 on a).1++r:=by
 obtain⟨k,rfl⟩:∃k,b=a+k:=⟨b-a,oM⟩;obtain⟨r,e⟩:=zrF (on:=on) (a:=a) k;exact⟨r++_,by unfold kM;rw[e,XM]⟩
def zcA:∀t,(∀q∈(z9 on t).1,q.1<q.2/\q.2<t)/\∀f,(z9 on t).2=some f->f<t
 |0=>⟨λq d=>(by cases d),λf h=>(by cases h)⟩
 |t+1=>by
  have j:=zcA t;rw[vj]
  split
  .refine⟨λq d=>⟨(j.1 q d).1,by have:=(j.1 q d).2;omega⟩,λf e=>?_⟩;have e:=Xl e
   cases g:(z9 on t).2 with
   |none=>rw[g]at e;simp at e;omega
   |some k=>rw[g]at e;simp at e;have:=j.2 k g;omega
  refine⟨λq d=>?_,λf e=>by cases e⟩
  rcases Xt.1 d with d|d
  .exact⟨(j.1 q d).1,by have:=(j.1 q d).2;omega⟩
  cases g:(z9 on t).2 with
  |none=>rw[g]at d;cases d
  |some k=>
   rw[g]at d;have:=Xu.1 d;subst this;exact⟨j.2 k g,oN⟩
def zlw{t:Nat}:∀q∈kM on t,q.1<q.2/\q.2<=t:=λq d=>by
 have h:=zcA (on:=on) t
 rcases Xt.1 d with d|d
 .exact⟨(h.1 q d).1,by have:=(h.1 q d).2;omega⟩
 cases e:(z9 on t).2 with
 |none=>rw[e]at d;cases d
 |some f=>
  rw[e]at d;have:=Xu.1 d;subst this;exact⟨h.2 f e,Xj _⟩
def znC:∀t f,(z9 on t).2=some f->∀q∈(z9 on t).1,q.2<f
 |0,f,h=>by cases h
 |t+1,f,h=>by
  rw[vj]at h ⊢
  split at h
  .rename_i c;rw[Xe c];have h:=Xl h;intro q e
   cases d:(z9 on t).2 with
   |none=>rw[d]at h;have:=((zcA (on:=on) t).1 q e).2;simp at h;omega
   |some g=>rw[d]at h;simp at h;subst h;exact znC t g d q e
  cases h
def zDk{t:Nat}{q:Nat×Nat}(n:q∈kM on t)(g:q.1=0)(o:q.2=t):kM on t=[q]:=by
 rcases Xt.1 n with d|d
 .have:=((zcA (on:=on) t).1 q d).2;omega
 unfold kM
 cases h:(z9 on t).2 with
 |none=>rw[h]at d;cases d
 |some f=>
  rw[h]at d;have e:=Xu.1 d
  have j:(z9 on t).1=[]:=by
   cases k:(z9 on t).1 with
   |nil=>rfl
   |cons a r=>
    have s:=znC t f h a (by rw[k];exact .head _);rw[e]at g;have g:f=0:=g;omega
  rw[j,e];rfl
end
def drawn(d:LV):Int:=256*((List.range d.length).map λi=>if i%2=0 then d.getD i 0 else 0).sum
def kS(pen:Pen)(long:Int):List (Nat×Nat):=
 if¬kE pen∨long<1∨(0<qF pen.d/\drawn pen.d=0) then[]
 else if qF pen.d=drawn pen.d then[(0,long.toNat)] else kM (onD pen) long.toNat
def ji(a b:Pt):Int:=zrk (zac b a)
def zi(p:Pl):LU:=if p.cl=true/\2<=(zu p).pts.length then(zu p).pts++[nth (zu p).pts 0] else(zu p).pts
def atS(c:LU):Nat->Int
 |0=>0
 |i+1=>atS c i+ji (nth c i) (nth c (i+1))
def zL(p:Pl):Int:=atS (zi p) ((zi p).length-1)
def zlx(c:LU)(x:Int):Nat->Nat
 |0=>0
 |i+1=>if x<atS c (i+1) then zlx c x i else i+1
def zdJ(c:LU)(x:Int):Pt:=
 let i:=zlx c x (c.length-2)
 uK (nth c i) (nth c (i+1)) (x-atS c i) (atS c (i+1)-atS c i)
def zfH(c:LU)(f t:Int)(n:Nat):LU:=((List.range n).filter λi=>decide (f<atS c i/\atS c i<t)).map (nth c)
def vp(c:LU)(f t:Int):LU:=ky [] ([zdJ c f]++zfH c f t (c.length-1)++[zdJ c t])
def j7(p:Pl)(q:Nat×Nat):Pl:=if p.cl=true/\q.1=0/\(q.2:Int)=zL p then zu p else⟨vp (zi p) q.1 q.2,false⟩
def jC(p:Pl)(pen:Pen):LZ×Int:=
 if¬kE pen then([],13) else if¬∀q∈p.pts,zm q then([],6) else if 4096<p.pts.length then([],5)
 else if pen.d=[] then([zu p],0)
 else if 4096<js ((kS pen (zL p)).map (j7 p)) then([],5) else((kS pen (zL p)).map (j7 p),0)
open Go.Proofs
section
def goP(t:AF)(p:Pt):Pt:=⟨(vU t (p.x:Rat) (p.y:Rat)+Rat.divInt 1 2).floor,(vV t (p.x:Rat) (p.y:Rat)+Rat.divInt 1 2).floor⟩
def ku(t:AF)(p:Pt):Pt×Int:=if¬t.ok then(zp,5) else if¬zm p then(zp,6) else if zm (goP t p) then(goP t p,0) else(zp,6)
def zfb(t:AF)(p:Pt)(ht:t.le 100000):CX 244 [wo t,wk p] (.tup [wk (ku t p).1,i64 (ku t p).2]):=by
 obtain⟨B,C,D,E,F,G⟩:=ht;refine zc Tryz.func244 ?_;have fin:∀(q:Pt) (n:Int),(ku t p)=(q,n)->LE (.tup [wk q,i64 n]) (.tup [wk (ku t p).1,i64 (ku t p).2]):=λq n h=>by rw[h];exact .refl
 refine wg (zg1 t ⟨oM,oM,oM,oM,oM,oM⟩)<|⟨λg=>?_,λg=>?_⟩
 .exact fin zp 5 (by rw[ku,Xe g])
 refine wg (qa p)<|⟨λj=>?_,λj=>?_⟩
 .exact fin zp 6 (by rw[ku,Xc g,Xe j])
 have v:zm p:=XR j;have z:R64 p.x:=by unfold R64;unfold zm at v;omega
 have A:R64 p.y:=by unfold R64;unfold zm at v;omega
 have lx:=zeb p.x;have ly:=zeb p.y;have zx:=jq z;have zy:=jq A;refine wc<|wg (yR p.x z)<|wg (yR p.y A)<|wg (zvf t (ofQ (p.x:Rat)) (ofQ (p.y:Rat)) ⟨oM,oM,oM,oM,oM,oM⟩ (by rw[zF];omega) (by rw[zF];omega)) ?_;rw[kw,kw];have lX:=qU t.a (ofQ (p.x:Rat)) t.c (ofQ (p.y:Rat)) t.e (n:=100000) B (by rw[zF];omega) D (by rw[zF];omega) F;have lY:=qU t.b (ofQ (p.x:Rat)) t.d (ofQ (p.y:Rat)) t.f (n:=100000) C (by rw[zF];omega) E (by rw[zF];omega) G;rw[kw,kw]at lX lY
 have lh:yW (Rat.divInt 1 2)<=1:=by decide +kernel
 have mX:=zbz (vU t p.x p.y) (Rat.divInt 1 2);have mY:=zbz (vV t p.x p.y) (Rat.divInt 1 2);have lX2:yW (vU t p.x p.y)<=500007:=lX.2;have lY2:yW (vV t p.x p.y)<=500007:=lY.2
 have fl:∀q:Rat,jr q.floor<=yW q:=λq=>XB (zco (by
  rw[Yi]
  exact Q7 _ _)) (qB q)
 have fX:=fl (vU t p.x p.y+Rat.divInt 1 2);have fY:=fl (vV t p.x p.y+Rat.divInt 1 2);refine wg (ztG 1 2 dC dC dC)<|wg (zrd (ofQ (vU t p.x p.y)) (ofQ (Rat.divInt 1 2)) (by rw[zF];omega) (by rw[zF];omega)) ?_;rw[kw,kw];refine wg (zve (ofQ (vU t p.x p.y+Rat.divInt 1 2)) (by rw[zF];omega)) ?_;rw[kw];refine wg (zvc (ofZ (vU t p.x p.y+Rat.divInt 1 2).floor) (by rw[zV];omega))<|wg (zrd (ofQ (vV t p.x p.y)) (ofQ (Rat.divInt 1 2)) (by rw[zF];omega) (by rw[zF];omega)) ?_;rw[kw,kw]
 refine wg (zve (ofQ (vV t p.x p.y+Rat.divInt 1 2)) (by rw[zF];omega)) ?_;rw[kw];refine wg (zvc (ofZ (vV t p.x p.y+Rat.divInt 1 2).floor) (by rw[zV];omega)) ?_;rw[z5,z5];obtain⟨X,hX⟩:∃X,(vU t p.x p.y+Rat.divInt 1 2).floor=X:=⟨_,rfl⟩;obtain⟨Va,hY⟩:∃Va,(vV t p.x p.y+Rat.divInt 1 2).floor=Va:=⟨_,rfl⟩;have u:goP t p=⟨X,Va⟩:=by unfold goP;rw[hX,hY]
 rw[hX,hY];have out:¬zm ⟨X,Va⟩->ku t p=(zp,6):=λh=>by rw[ku,Xc g,Xc j,Xc (by rw[u];exact h)]
 have inn:zm ⟨X,Va⟩->ku t p=(⟨X,Va⟩,0):=λh=>by rw[ku,Xc g,Xc j,Xe (by rw[u];exact h),u]
 have big:zm ⟨X,Va⟩->(-9223372036854775808<=X/\X<=9223372036854775807)/\(-9223372036854775808<=Va/\Va<=9223372036854775807):=λh=>by unfold zm at h;dsimp only at h;omega
 refine⟨λk=>?_,λk=>?_⟩
 .refine⟨λo=>?_,λo=>?_⟩
  .refine wg (qa ⟨y7 X,y7 Va⟩) ?_;rw[y7,Xe k,y7,Xe o];refine⟨λs=>?_,λs=>?_⟩
   .exact fin ⟨X,Va⟩ 0 (inn s)
   exact fin zp 6 (out s)
  exact fin zp 6 (out λh=>o (big h).2)
 exact fin zp 6 (out λh=>k (big h).1)
def qX(t:AF):LU->Int
 |[]=>0
 |p::r=>if (ku t p).2≠0 then(ku t p).2 else qX t r
def zaf(t:AF)(s:Sg):Sg:=zlj s.v ((kD s).map λp=>(ku t p).1)
def trans(t:AF)(l:LX):LX×Int:=
 if¬valid l then([],10) else if qX t (qh l)≠0 then([],qX t (qh l)) else(l.map (zaf t),0)
def jI(t:AF):∀q r:LU,qX t (q++r)=if qX t q≠0 then qX t q else qX t r
 |[],r=>by simp[qX]
 |p::q,r=>by
  rw[JG,qX,qX,jI t q r]
  by_cases h:(ku t p).2=0
  .simp[h]
  simp[h]
variable{q:LU}{p:Pt}
def vE{t:AF}{k:Nat}(f:qX t (q.take k)=0)(g:q[k]?=some p):
  ((ku t p).2=0->qX t (q.take (k+1))=0)/\((ku t p).2≠0->qX t q=(ku t p).2):=by
 have e:q.take (k+1)=q.take k++[p]:=by rw[Xm,g];rfl
 have d:qX t (q.take (k+1))=(ku t p).2:=by
  rw[e,jI,f]
  by_cases h:(ku t p).2=0 <;> simp[qX,h]
 refine⟨λh=>by rw[d,h],λh=>?_⟩;have:=jI t (q.take (k+1)) (q.drop (k+1));rw[Kr,d,Xe h]at this;exact this
def zAq(s:Sg):(kD s).length<=3:=by
 unfold kD;have:=zeh s.v;simp only[Xo,Xn,Xs];omega
def zDl(l:LX)(t:AF)(ht:t.le 100000)(P:l.length<=300):CX 172 [.sl sgE l,wo t] (.tup [.sl sgE (trans t l).1,i64 (trans t l).2]):=by
 refine zc Tryz.func172 ?_
 have bad:∀e:Int,trans t l=([],e)->LE (.tup [nS,i64 e]) (.tup [.sl sgE (trans t l).1,i64 (trans t l).2]):=λe h=>by
  rw[h];exact zO zD .refl
 refine wg (zjU l)<|⟨λF=>?_,λF=>?_⟩
 .exact bad 10 (by rw[trans,Xe F])
 intro U
 refine⟨Nat×Option LX,λq=>match q with
   |(i,none)=>⟨[(19,i64 i),(18,i64 l.length),(17,.sl sgE l),(6,.val (.slice none 0 0)),(3,.loc 0 0)],[(0,.box 57 (afE t))],1,53,0⟩
   |(i,some out)=>⟨[(19,i64 i),(18,i64 l.length),(17,.sl sgE l),(6,.own 1),(3,.loc 0 0)],[(1,.arr 108 sgE 7 out),(0,.box 57 (afE t))],2,53,0⟩,
  λq=>match q with
   |(i,none)=>i=0
   |(i,some out)=>i<=l.length/\out=(l.take i).map (zaf t)/\qX t (qh (l.take i))=0,λq=>l.length-q.1,(0,none),rfl,?_,?_⟩
 .exact zf [0]
 have errs:∀(i:Nat) (x:Sg) (p:Pt) (k:Nat),qX t (qh (l.take i))=0->l[i]?=some x->qX t ((kD x).take k)=0->(kD x)[k]?=some p->(ku t p).2≠0->trans t l=([],(ku t p).2):=by
  intro i x p k G o K n I;have Q:=(vE K n).2 I
  have R:qX t (qh l)=(ku t p).2:=by
   have T:=zg3 o
   have:qh l=qh (l.take i)++(kD x++qh (l.drop (i+1))):=by
    conv=>lhs;rw[←Kr i l,T]
    simp[qh]
   rw[this,jI,G];simp only[ne_eq,not_true_eq_false,if_false];rw[jI,Q,Xe I]
  rw[trans,Xc F,R,Xe I]
 have fin0:∀i x,qX t (qh (l.take i))=0->l[i]?=some x->qX t (kD x)=0->qX t (qh (l.take (i+1)))=0:=λi x G o K=>by
  rw[zjl o,jI,G];simpa using K
 rintro⟨i,_|out⟩ hI
 .have hI:i=0:=hI;subst hI;have f:qX t (qh (l.take 0))=0:=rfl;have J:0<=l.length:=Xh _;refine⟨λH=>?_,λH=>?_⟩
  .refine wb λx(o:l[0]?=some x)=>?_;refine wg (zro x) λL=>?_
   refine⟨Nat×Option LU,λq=>match q with
     |(k,none)=>⟨[(26,i64 k),(25,i64 (kD x).length),(24,.sl ptE (kD x)),(9,.val (.slice none 0 0)),(8,.loc 1 0),(19,i64 (0:Nat)),(18,i64 l.length),(17,.sl sgE l),(6,.val (.slice none 0 0)),(3,.loc 0 0)],[(1,.box 108 (sgE x)),(0,.box 57 (afE t))],2,53,0⟩
     |(k,some to)=>⟨[(26,i64 k),(25,i64 (kD x).length),(24,.sl ptE (kD x)),(9,.own 2),(8,.loc 1 0),(19,i64 (0:Nat)),(18,i64 l.length),(17,.sl sgE l),(6,.val (.slice none 0 0)),(3,.loc 0 0)],[(2,.arr 28 ptE 2 to),(1,.box 108 (sgE x)),(0,.box 57 (afE t))],3,53,0⟩,
    λq=>match q with
     |(k,none)=>k=0
     |(k,some to)=>k<=(kD x).length/\to=((kD x).take k).map (λp=>(ku t p).1)/\qX t ((kD x).take k)=0,λq=>(kD x).length-q.1,(0,none),rfl,?_,?_⟩
   .exact zf [0,1]
   have O:=zAq x
   rintro⟨k,_|to⟩ hK
   .have hK:k=0:=hK;subst hK;have d:qX t ((kD x).take 0)=0:=rfl;have D:0<=(kD x).length:=Xh _;refine⟨λA=>?_,λA=>?_⟩
    .refine wb λp(n:(kD x)[0]?=some p)=>?_;refine wg (zfb t p ht)<|⟨λg=>?_,λg=>?_⟩
     .exact bad _ (errs 0 x p 0 f o d n g)
     have g:(ku t p).2=0:=XR g;have u:=(vE d n).1 g;refine⟨Pt,ptE,[(ku t p).1],rfl,wb0 ?_⟩;refine⟨_,_,_,rfl,wb18 ?_⟩;refine Ar.fit dC ?_;refine⟨(1,some [(ku t p).1]),⟨oM,(by rw[Xm,n];rfl),u⟩,zf [0,1,5],oN⟩
    have z:kD x=[]:=XP.1 oM;have s:zlj x.v []=zaf t x:=by rw[zaf,z];rfl
    have hall:=fin0 0 x f o (by rw[z];rfl);refine wg ((zpl x.v []).args (.C (.cons zD .nil))) ?_;rw[s];refine⟨Sg,sgE,[zaf t x],rfl,wb0 ?_⟩;refine⟨_,_,_,rfl,wb19 ?_⟩;refine Ar.fit dC ?_;refine⟨(1,some [zaf t x]),⟨oM,(by rw[Xm,o];rfl),hall⟩,(by first|exact zf [0,2]|exact zf [0,3]|exact zf [0,4]|exact zf [0,5]|exact zf [0,6]|exact zf [0,7]|exact zf [0,8]),oN⟩
   obtain⟨D,j,d⟩:=hK;refine⟨λA=>?_,λA=>?_⟩
   .refine wb λp(n:(kD x)[k]?=some p)=>?_;refine wg (zfb t p ht)<|⟨λg=>?_,λg=>?_⟩
    .exact bad _ (errs 0 x p k f o d n g)
    have g:(ku t p).2=0:=XR g;have u:=(vE d n).1 g;refine⟨Pt,ptE,[(ku t p).1],rfl,wb0 ?_⟩;have N:to.length=k:=by rw[j];simp;omega
    refine⟨_,rfl,wb20 ?_⟩;refine wa ?_;refine⟨(k+1,some (to++[(ku t p).1])),⟨oM,(by rw[Xm,n,j];simp),u⟩,zf [0,1,6],oN⟩
   have B:k=(kD x).length:=by omega
   subst B;rw[X9]at j d;have s:zlj x.v to=zaf t x:=by rw[zaf,j]
   have hall:=fin0 0 x f o d;refine wg (zpl x.v to) ?_;rw[s];refine⟨Sg,sgE,[zaf t x],rfl,wb0 ?_⟩;refine⟨_,_,_,rfl,wb19 ?_⟩;refine Ar.fit dC ?_;refine⟨(1,some [zaf t x]),⟨oM,(by rw[Xm,o];rfl),hall⟩,(by first|exact zf [0,2]|exact zf [0,3]|exact zf [0,4]|exact zf [0,5]|exact zf [0,6]|exact zf [0,7]|exact zf [0,8]),oN⟩
  have y:0=l.length:=by omega
  have E:trans t l=(l.map (zaf t),0):=by
   rw[y,X9]at f;rw[trans,Xc F,f,Xc (λk=>k rfl)]
  exact bad 0 (by rw[E,XP.1 y.symm];rfl)
 obtain⟨J,hout,f⟩:=hI;refine⟨λH=>?_,λH=>?_⟩
 .refine wb λx(o:l[i]?=some x)=>?_;refine wg (zro x) λL=>?_
  refine⟨Nat×Option LU,λq=>match q with
    |(k,none)=>⟨[(26,i64 k),(25,i64 (kD x).length),(24,.sl ptE (kD x)),(9,.val (.slice none 0 0)),(8,.loc 2 0),(19,i64 i),(18,i64 l.length),(17,.sl sgE l),(6,.own 1),(3,.loc 0 0)],[(2,.box 108 (sgE x)),(1,.arr 108 sgE 7 out),(0,.box 57 (afE t))],3,53,0⟩
    |(k,some to)=>⟨[(26,i64 k),(25,i64 (kD x).length),(24,.sl ptE (kD x)),(9,.own 3),(8,.loc 2 0),(19,i64 i),(18,i64 l.length),(17,.sl sgE l),(6,.own 1),(3,.loc 0 0)],[(3,.arr 28 ptE 2 to),(2,.box 108 (sgE x)),(1,.arr 108 sgE 7 out),(0,.box 57 (afE t))],4,53,0⟩,
   λq=>match q with
    |(k,none)=>k=0
    |(k,some to)=>k<=(kD x).length/\to=((kD x).take k).map (λp=>(ku t p).1)/\qX t ((kD x).take k)=0,λq=>(kD x).length-q.1,(0,none),rfl,?_,?_⟩
  .exact zf [0,1,2]
  have O:=zAq x
  rintro⟨k,_|to⟩ hK
  .have hK:k=0:=hK;subst hK;have d:qX t ((kD x).take 0)=0:=rfl;have D:0<=(kD x).length:=Xh _;refine⟨λA=>?_,λA=>?_⟩
   .refine wb λp(n:(kD x)[0]?=some p)=>?_;refine wg (zfb t p ht)<|⟨λg=>?_,λg=>?_⟩
    .exact bad _ (errs i x p 0 f o d n g)
    have g:(ku t p).2=0:=XR g;have u:=(vE d n).1 g;refine⟨Pt,ptE,[(ku t p).1],rfl,wb0 ?_⟩;refine⟨_,_,_,rfl,wb18 ?_⟩;refine Ar.fit dC ?_;refine⟨(1,some [(ku t p).1]),⟨oM,(by rw[Xm,n];rfl),u⟩,zf [0,1,2,6],oN⟩
   have z:kD x=[]:=XP.1 oM;have s:zlj x.v []=zaf t x:=by rw[zaf,z];rfl
   have hall:=fin0 i x f o (by rw[z];rfl);refine wg ((zpl x.v []).args (.C (.cons zD .nil))) ?_;rw[s];refine⟨Sg,sgE,[zaf t x],rfl,wb0 ?_⟩;have M:out.length=i:=by rw[hout];simp;omega
   refine⟨_,rfl,wb21 ?_⟩;refine wa ?_;refine⟨(i+1,some (out++[zaf t x])),⟨oM,(by rw[Xm,o,hout];simp),hall⟩,(by first|exact zf [0,2]|exact zf [0,3]|exact zf [0,4]|exact zf [0,5]|exact zf [0,6]|exact zf [0,7]|exact zf [0,8]),oN⟩
  obtain⟨D,j,d⟩:=hK;refine⟨λA=>?_,λA=>?_⟩
  .refine wb λp(n:(kD x)[k]?=some p)=>?_;refine wg (zfb t p ht)<|⟨λg=>?_,λg=>?_⟩
   .exact bad _ (errs i x p k f o d n g)
   have g:(ku t p).2=0:=XR g;have u:=(vE d n).1 g;refine⟨Pt,ptE,[(ku t p).1],rfl,wb0 ?_⟩;have N:to.length=k:=by rw[j];simp;omega
   refine⟨_,rfl,wb20 ?_⟩;refine wa ?_;refine⟨(k+1,some (to++[(ku t p).1])),⟨oM,(by rw[Xm,n,j];simp),u⟩,zf [0,1,2,7],oN⟩
  have B:k=(kD x).length:=by omega
  subst B;rw[X9]at j d;have s:zlj x.v to=zaf t x:=by rw[zaf,j]
  have hall:=fin0 i x f o d;refine wg (zpl x.v to) ?_;rw[s];refine⟨Sg,sgE,[zaf t x],rfl,wb0 ?_⟩;have M:out.length=i:=by rw[hout];simp;omega
  refine⟨_,rfl,wb21 ?_⟩;refine wa ?_;refine⟨(i+1,some (out++[zaf t x])),⟨oM,(by rw[Xm,o,hout];simp),hall⟩,(by first|exact zf [0,2]|exact zf [0,3]|exact zf [0,4]|exact zf [0,5]|exact zf [0,6]|exact zf [0,7]|exact zf [0,8]),oN⟩
 have y:i=l.length:=by omega
 have E:trans t l=(l.map (zaf t),0):=by
  rw[y,X9]at f;rw[trans,Xc F,f,Xc (λk=>k rfl)]
 rw[y,X9]at hout;rw[E,←hout];exact zO .refl .refl
def part(f:Pt->Pt)(j:Nat)(s:Sg):Sg:=⟨s.v,if 1<=j then f s.a else s.a,if 2<=j then f s.b else s.b,if 3<=j then f s.c else s.c⟩
def zfI(f:Pt->Pt)(s:Sg):Sg:=part f (nm s.v).toNat s
variable{l:LX}
def zAr(h:valid l):∀p∈qh l,zm p:=λp d=>by
 obtain⟨s,n,d⟩:=QL.1 d
 have f:zdI s:=by
  have e:=znw l;rw[←e]at n;obtain⟨g,t,j⟩:=JH.1 n;obtain⟨k,m,mid,_,_,o,_⟩:=zrp h g t;exact o s j
 have d:=XO d;simp only[XH,XV,or_false]at d
 rcases d with rfl|rfl|rfl
 .exact f.1.1
 .exact f.2.1.1
 exact f.2.2.1
def zAs(h:valid l){s:Sg}(f:s∈l):zdI s:=by
 have e:=znw l;rw[←e]at f;obtain⟨g,n,d⟩:=JH.1 f;obtain⟨k,m,mid,_,_,j,_⟩:=zrp h g n;exact j s d
def zvz{f:Pt->Pt->Pt}(e:∀p q,zm p->zm q->zm (f p q)):∀(q:LU) (p:Pt),zm p->(∀r∈q,zm r)->zm (q.foldl f p)
 |[],_,d,_=>d
 |a::q,p,d,h=>zvz e q (f p a) (e p a d (h a (.head _))) λr g=>h r (.tail _ g)
def zAt{f:Pt->Pt->Pt}(d:∀p q,zm p->zm q->zm (f p q))(h:∀r∈q,zm r):zm (bnd f q):=by
 cases q with
 |nil=>exact zp_ok
 |cons a r=>exact zvz d (a::r) a (h a (.head _)) h
def us(v:Int):Int:=max (nm v) 0
def zGr(f:Pt->Pt)(j:Nat)(s:Sg):(part f j s).v=s.v:=rfl
def zxo(f:Pt->Pt)(s:Sg):kD (zfI f s)=(kD s).map f:=by
 have d:=zeh s.v;have e:nm s.v<=0∨nm s.v=1∨nm s.v=2∨nm s.v=3:=oM;unfold kD zfI;rw[zGr]
 rcases e with e|e|e|e
 .rw[show(nm s.v).toNat=0 by omega];rfl
 .rw[show(nm s.v).toNat=1 by omega];rfl
 .rw[show(nm s.v).toNat=2 by omega];rfl
 rw[show(nm s.v).toNat=3 by omega];rfl
def zDm(f:Pt->Pt)(l:LX):qh (l.map (zfI f))=(qh l).map f:=by
 induction l with
 |nil=>rfl
 |cons s r g=>
  have d:qh ((s::r).map (zfI f))=kD (zfI f s)++qh (r.map (zfI f)):=rfl;have e:qh (s::r)=kD s++qh r:=rfl;rw[d,e,g,zxo,XA]
def zpt(h:p∈q):((bnd mnP q).x<=p.x/\(bnd mnP q).y<=p.y)/\p.x<=(bnd mxP q).x/\p.y<=(bnd mxP q).y:=by
 cases q with
 |nil=>cases h
 |cons a r=>
  obtain⟨_,d,_⟩:=zvq (a::r) a;obtain⟨_,e,_⟩:=zvr (a::r) a;exact⟨d p h,e p h⟩
def zly:∀{l:LX} {last:Int},oks last l->∀s∈l,zdI s
 |[],_,_,s,d=>by cases d
 |a::r,last,h,s,d=>by
  rcases XH.1 d with rfl|d
  .exact(u4.1 h.1).2.2
  exact zly h.2 s d
def zjr{lo hi:Pt}{l:LX}{tol:Int}(d:(zY l tol).2=0)(j:∀p∈qh l,inB lo hi p):
  valid l/\zfG tol/\js (zY l tol).1<=4096/\∀q∈(zY l tol).1,q.pts≠[]/\jH q.pts/\∀z∈q.pts,inB lo hi z:=by
 unfold zY at d ⊢
 by_cases e:¬valid l
 .rw[Xe e]at d;exact absurd d dC
 rw[Xc e]at d ⊢
 by_cases g:¬zfG tol
 .rw[Xe g]at d;exact absurd d dC
 rw[Xc g]at d ⊢
 by_cases f:(jk l tol).2≠0
 .rw[Xe f]at d;exact absurd d f
 rw[Xc f]at d ⊢
 by_cases h:4096<js (jk l tol).1
 .rw[Xe h]at d;exact absurd d dC
 rw[Xc h];have:=zlu (tol:=tol) (zbe.1 (Xa.1 e)).2 j l.length (Xj _);rw[X9]at this;exact⟨Xa.1 e,Xa.1 g,oN,(this (Xa.1 f)).2⟩
def uC(l:LZ):LQ:=(l.filter λp=>decide (3<=p.pts.length)).map Pl.pts
def yq(l:LX)(t:AF)(tol:Int):LQ×Int:=
 if (trans t l).2≠0 then([],(trans t l).2) else if (zY (trans t l).1 tol).2≠0 then([],(zY (trans t l).1 tol).2) else(uC (zY (trans t l).1 tol).1,0)
def znD:∀l:LZ,qe (uC l)<=js l
 |[]=>Xj _
 |p::r=>by
  have d:=znD r;have e:js (p::r)=p.pts.length+js r:=by unfold js;simp
  unfold uC at d ⊢;rw[KA]
  split
  .have:qe ((p::r.filter λp=>decide (3<=p.pts.length)).map Pl.pts)=p.pts.length+qe ((r.filter λp=>decide (3<=p.pts.length)).map Pl.pts):=by unfold qe;simp
   omega
  omega
variable{r:LU}
def zxp{l:LZ}(h:r∈uC l):∃p∈l,p.pts=r:=by
 unfold uC at h;obtain⟨p,d,rfl⟩:=XN.1 h;exact⟨p,(QE.1 d).1,rfl⟩
def ztW{lo hi:Pt}{l:LX}{t:AF}{tol:Int}(d:(yq l t tol).2=0)(h:∀p∈qh (trans t l).1,inB lo hi p):qe (yq l t tol).1<=4096/\∀r∈(yq l t tol).1,∀p∈r,inB lo hi p:=by
 unfold yq at d ⊢
 by_cases g:(trans t l).2≠0
 .rw[Xe g]at d;exact absurd d g
 rw[Xc g]at d ⊢
 by_cases e:(zY (trans t l).1 tol).2≠0
 .rw[Xe e]at d;exact absurd d e
 rw[Xc e];have f:=zjr (Xa.1 e) h;refine⟨XB (znD _) f.2.2.1,λr n p j=>?_⟩;obtain⟨q,k,rfl⟩:=zxp n;exact(f.2.2.2 q k).2.2 p j
def znE{a b w:Int}(n:0<=w)(h:2*(a.natAbs:Int)<=w*b.natAbs):((z8 a b).natAbs:Int)<=(w+1)/2:=by
 have e:=zd8 a b;rw[e]
 by_cases g:b.natAbs=0
 .rw[g];simp;omega
 have d:(0:Int)<b.natAbs:=oM;generalize a.natAbs=A at*;generalize b.natAbs=B at*;rw[show(((2*A+B)/(2*B):Nat):Int)=(2*(A:Int)+B)/(2*B) by rw[Yj];simp];have j:(2*(A:Int)+B)/(2*B)<=(w*B+B)/(2*B):=Int.ediv_le_ediv oM oM;have f:(w*B+B:Int)=B*(w+1):=by grind
 have k:(w*B+B:Int)/(2*B)=(w+1)/2:=by
  rw[f,QO 2 (B:Int),Int.mul_ediv_mul_of_pos _ _ d]
 omega
def zhe(w:Int)(p:Pt):Prop:=(p.x.natAbs:Int)<=(w+1)/2/\(p.y.natAbs:Int)<=(w+1)/2
def zDn{x y:Int}(f:¬zbP x)(g:¬zbP y):256*(x.natAbs:Int)<=isq (65536*(x*x+y*y))/\256*(y.natAbs:Int)<=isq (65536*(x*x+y*y)):=by
 unfold zbP at f g;have h:=jB (A:=2097152) (B:=2097152) (a:=x) (b:=x) oM oM;have j:=jB (A:=2097152) (B:=2097152) (a:=y) (b:=y) oM oM;have k:=jf x;have n:=jf y;have d:(x.natAbs:Int)*x.natAbs=x*x:=Int.natAbs_mul_self' x;have e:(y.natAbs:Int)*y.natAbs=y*y:=Int.natAbs_mul_self' y;refine⟨ztM oM oM ?_,ztM oM oM ?_⟩
 .rw[show 256*(x.natAbs:Int)*(256*(x.natAbs:Int))=65536*((x.natAbs:Int)*x.natAbs) by grind,d];omega
 rw[show 256*(y.natAbs:Int)*(256*(y.natAbs:Int))=65536*((y.natAbs:Int)*y.natAbs) by grind,e];omega
def zhf(v:Pt){w:Int}(d:kq w):zhe w (z7 v w):=by
 unfold kq at d;unfold z7
 split
 .exact⟨by show((0:Int).natAbs:Int)<=_;simp;omega,by show((0:Int).natAbs:Int)<=_;simp;omega⟩
 rename_i h;rw[not_or,not_or,not_or]at h;have ab:=zDn h.2.1 h.2.2.1;have hL:0<=isq (65536*(v.x*v.x+v.y*v.y)):=oM;generalize isq (65536*(v.x*v.x+v.y*v.y))=L at*;have eL:(L.natAbs:Int)=L:=JK hL;have wn:(w.natAbs:Int)=w:=JK oM;refine⟨znE oM ?_,znE oM ?_⟩
 .rw[QK,QK,Int.natAbs_neg,eL,Kb,Kb,wn];have:=JJ ab.2 (show 0<=w by omega);rw[show 2*((v.y.natAbs:Int)*w*((128:Int).natAbs:Nat))=w*(256*(v.y.natAbs:Int)) by simp;grind];exact this
 rw[QK,QK,eL,Kb,Kb,wn];have:=JJ ab.1 (show 0<=w by omega);rw[show 2*((v.x.natAbs:Int)*w*((128:Int).natAbs:Nat))=w*(256*(v.x.natAbs:Int)) by simp;grind];exact this
def zxq(h:q∈kO r):q=r:=by
 unfold kO at h;split at h
 .cases h
 exact Xu.1 h
end
section
variable{lo hi:Pt}{w m:Int}
end
def zrG{w:Int}{p:Pt}(h:zhe w p):zhe w (zim p):=by unfold zhe zim at*;dsimp only;omega
def zlz{a v b:Pt}{w:Int}(d:kq w):zhe w (qx a v b w).1/\zhe w (qx a v b w).2.1:=by
 have z:zhe w zp:=by unfold kq at d;exact⟨by show((0:Int).natAbs:Int)<=_;simp;omega,by show((0:Int).natAbs:Int)<=_;simp;omega⟩
 unfold qx
 split
 .exact⟨z,z⟩
 dsimp only
 split
 .exact⟨z,z⟩
 split
 .exact⟨zrG (zhf _ d),zrG (zhf _ d)⟩
 exact⟨zhf _ d,zhf _ d⟩
def zvA{l:LU}{i:Nat}(h:i<l.length):nth l i∈l:=by
 unfold nth;rw[Xr,Xb h];exact X2 h
def zgb{p:Pl}{z:Pt}(h:z∈(zu p).pts):z∈p.pts:=by
 unfold zu at h;dsimp only at h
 split at h
 .exact ze6 (zrB h)
 exact ze6 h
def zAu{a b M:Int}(d:0<b)(g:0<=a)(h:a<=M*b):0<=z8 a b/\z8 a b<=M:=by
 obtain⟨Q,e⟩:∃Q:Nat,z8 a b=(Q:Int):=⟨_,by unfold z8;rw[Xe oM]⟩
 have hM:0<=M:=JF.1 λk=>by
  have:=Int.mul_neg_of_neg_of_pos k d;omega
 have f:=zpj (a:=a) (b:=b) (M:=M.toNat) oM (by
  have:((M.toNat*b.natAbs:Nat):Int)=M*b:=by rw[Kb,Qx hM,JK oM]
  omega)
 omega
def zAv{p:Pl}{z:Pt}(h:z∈zi p):z∈p.pts:=by
 unfold zi at h
 split at h
 .rename_i c
  rcases Xt.1 h with h|h
  .exact zgb h
  rw[Xu.1 h];exact zgb (zvA oM)
 exact zgb h
def zrH{p:Pl}(h:(zi p).length<2):zL p=0:=by
 unfold zL;rw[show(zi p).length-1=0 by omega];rfl
end Go.Gs
