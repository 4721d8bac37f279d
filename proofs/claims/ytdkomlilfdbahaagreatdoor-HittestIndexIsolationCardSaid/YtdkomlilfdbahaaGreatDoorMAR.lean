/- The tip of a joint, both texts. -/
import Derived.Test.YtdkomlilfdbahaaGreatDoorMAQ
set_option maxRecDepth 100000
set_option maxHeartbeats 80000000
set_option linter.all false
namespace Go.Gs
open Proofs.Tryz
open Go.Proofs
section
def zAU(a b:Int)(f:0<=a/\a<18446744073709551616)(g:0<=b/\b<18446744073709551616):
  CX 480 [u64 a,u64 b] (.tup [u64 (a*b/18446744073709551616),u64 (a*b%18446744073709551616)]):=by
 obtain⟨x,rfl⟩:=Qw f.1;obtain⟨y,rfl⟩:=Qw g.1;have c:=zvG x y oM oM;have d:((x*y/18446744073709551616:Nat):Int)=(x:Int)*y/18446744073709551616:=by rw[Yp,Ke];rfl
 have e:((x*y%18446744073709551616:Nat):Int)=(x:Int)*y%18446744073709551616:=by rw[Q5,Ke];rfl
 rw[d,e]at c;exact c
variable{p:Pt}{q:Pt}
def ziP(d:zm p)(e:zm q):zfU (zA p q):=by
 unfold zm at d e;show(-2097152<=p.x+q.x/\p.x+q.x<=2097152)/\(-2097152<=p.y+q.y/\p.y+q.y<=2097152);omega
def zlN(d:zm p)(e:zm q):addP p q=zA p q:=by
 unfold addP;rw[zad d,zad e]
def tipE(o:Pt×Bool):SV:=.tup [wk o.1,pr (o.2=true)]
def uo{o:Pt×Bool}{n:Pt}{b:Bool}(h:o=(n,b)):LE (.tup [wk n,bl b]) (tipE o):=by
 subst h;exact zP .refl zvy
def zcI{x w:Int}(j: -2097152<=x/\x<=2097152)(d:kq w):(-34359738368<=x*w/\x*w<=34359738368)/\(-562949953421312<=x*w*w/\x*w*w<=562949953421312)/\(1<=w*w/\w*w<=268435456):=by
 unfold kq at d;have e:=jG (A:=2097152) (B:=16384) (a:=x) (b:=w) oM oM;have f:=jG (A:=34359738368) (B:=16384) (a:=x*w) (b:=w) oM oM;have g:=jG (A:=16384) (B:=16384) (a:=w) (b:=w) oM oM;have h:=Q3 (show 0<w by omega) (show 0<w by omega);omega
def zpQ(x w q:Int)(e: -2097152<=x/\x<=2097152)(d:kq w)(f:0<=q/\q<=8796093022208):CX 481 [i64 x,.ptr [i64 w],.ptr [i64 q]] (i64 (z8 (x*w*w) (2*q))):=by
 have h:=zcI e d;refine zc func481 ?_;(iterate 3 refine wa ?_);exact wg (u3 (x*w*w) (2*q) ⟨oM,oM⟩ ⟨oM,oM⟩)<|ze (uP oM)
def p_tip(n m:Pt)(w d:Int):CX 440 [wk n,wk m,i64 w,i64 d] (tipE (u5 n m w d)):=by
 refine zc func440 ?_;have f:¬(zm n/\zm m/\kq w/\256<=d/\d<=65536)->u5 n m w d=(zp,false):=λh=>by unfold u5;rw[Xe h]
 refine wg (qe n)<|⟨λC=>uo (f (λh=>C h.1)),λC=>?_⟩;refine wg (qe m)<|⟨λD=>uo (f (λh=>D h.2.1)),λD=>?_⟩;refine wg (zv3 w)<|⟨λE=>uo (f (λh=>E h.2.2.1)),λE=>?_⟩;refine⟨λu=>uo (f (λh=>by have u:d<256:=u;omega)),λu=>?_⟩;refine⟨λv=>uo (f (λh=>by have v:65536<d:=v;omega)),λv=>?_⟩;have G:=Xa.1 C;have F:=Xa.1 D;have o:=Xa.1 E
 have J:256<=d/\d<=65536:=⟨by have u:¬d<256:=u;omega,by have v:¬65536<d:=v;omega⟩;have g:=ziP G F
 have e:u5 n m w d=if (zA n m).x*(zA n m).x+(zA n m).y*(zA n m).y=0∨d*d*((zA n m).x*(zA n m).x+(zA n m).y*(zA n m).y)<256*w*(256*w) then(zp,false)
   else(⟨z8 ((zA n m).x*w*w) (2*((zA n m).x*(zA n m).x+(zA n m).y*(zA n m).y)),z8 ((zA n m).y*w*w) (2*((zA n m).x*(zA n m).x+(zA n m).y*(zA n m).y))⟩,true):=by
  unfold u5;rw[Xc (λk=>k ⟨G,F,o,J⟩)]
 refine wg (zfm n m G.p45.s F.p45.s) ?_;generalize zA n m=s at*;have s1:=jG (A:=2097152) (B:=2097152) (a:=s.x) (b:=s.x) g.1 g.1;have Q:=jG (A:=2097152) (B:=2097152) (a:=s.y) (b:=s.y) g.2 g.2;have p1:=jn s.x;have O:=jn s.y;have M:=jG (A:=65536) (B:=65536) (a:=d) (b:=d) oM oM;have N:=jn d;have t:=zcI g.1 o;have L:=o;unfold kq at L;(iterate 6 refine wa ?_);have z:0<=s.x*s.x+s.y*s.y/\s.x*s.x+s.y*s.y<=8796093022208:=oM
 refine wg (zAU (d*d) (s.x*s.x+s.y*s.y) oM oM)<|⟨λj=>?_,λj=>?_⟩
 .have j:s.x*s.x+s.y*s.y=0:=j;exact uo (e.trans (Xe (.inl j)))
 have j:¬s.x*s.x+s.y*s.y=0:=j;have K:256*w*256*w=256*w*(256*w):=by grind
 have hP:0<=d*d*(s.x*s.x+s.y*s.y):=XI oM oM
 have go:¬d*d*(s.x*s.x+s.y*s.y)<256*w*(256*w)->u5 n m w d=(⟨z8 (s.x*w*w) (2*(s.x*s.x+s.y*s.y)),z8 (s.y*w*w) (2*(s.x*s.x+s.y*s.y))⟩,true):=λh=>
  e.trans (Xc (λk=>k.elim j h))
 have R:256*w*256*w=65536*(w*w):=by grind
 refine⟨λH:d*d*(s.x*s.x+s.y*s.y)/18446744073709551616=0=>?_,λH:¬d*d*(s.x*s.x+s.y*s.y)/18446744073709551616=0=>?_⟩
 ·(iterate 4 refine wa ?_);refine⟨λI:d*d*(s.x*s.x+s.y*s.y)%18446744073709551616<256*w*256*w=>?_,λI:¬d*d*(s.x*s.x+s.y*s.y)%18446744073709551616<256*w*256*w=>?_⟩
  .exact uo (e.trans (Xe (.inr (by generalize d*d*(s.x*s.x+s.y*s.y)=P at*;omega))))
  exact wc<|wg (zpQ s.x w (s.x*s.x+s.y*s.y) g.1 o z)<|wg (zpQ s.y w (s.x*s.x+s.y*s.y) g.2 o z)<|uo (go (by generalize d*d*(s.x*s.x+s.y*s.y)=P at*;omega))
 exact wc<|wg (zpQ s.x w (s.x*s.x+s.y*s.y) g.1 o z)<|wg (zpQ s.y w (s.x*s.x+s.y*s.y) g.2 o z)<|uo (go (by generalize d*d*(s.x*s.x+s.y*s.y)=P at*;omega))
def r_tip(n m:Pt)(w d:Int):CX 462 [wk n,wk m,i64 w,i64 d] (tipE (u5 n m w d)):=by
 refine zc func462 ?_;have f:¬(zm n/\zm m/\kq w/\256<=d/\d<=65536)->u5 n m w d=(zp,false):=λh=>by unfold u5;rw[Xe h]
 refine wg (ki n)<|⟨λz=>uo (f (λh=>z h.1)),λz=>?_⟩;refine wg (ki m)<|⟨λC=>uo (f (λh=>C h.2.1)),λC=>?_⟩;refine wg (zv4 w)<|⟨λD=>uo (f (λh=>D h.2.2.1)),λD=>?_⟩;refine⟨λj=>uo (f (λh=>by have j:d<256:=j;omega)),λj=>?_⟩;refine⟨λo=>uo (f (λh=>by have o:65536<d:=o;omega)),λo=>?_⟩;have H:=Xa.1 z;have G:=Xa.1 C;have v:=Xa.1 D
 have J:256<=d/\d<=65536:=⟨by have j:¬d<256:=j;omega,by have o:¬65536<d:=o;omega⟩;have g:=ziP H G
 have e:u5 n m w d=if (zA n m).x*(zA n m).x+(zA n m).y*(zA n m).y=0∨d*d*((zA n m).x*(zA n m).x+(zA n m).y*(zA n m).y)<256*w*(256*w) then(zp,false)
   else(⟨z8 ((zA n m).x*w*w) (2*((zA n m).x*(zA n m).x+(zA n m).y*(zA n m).y)),z8 ((zA n m).y*w*w) (2*((zA n m).x*(zA n m).x+(zA n m).y*(zA n m).y))⟩,true):=by
  unfold u5;rw[Xc (λk=>k ⟨H,G,v,J⟩)]
 have ca:=zAD n m;rw[zlN H G]at ca;refine wg ca ?_;generalize zA n m=s at*;have s1:=jG (A:=2097152) (B:=2097152) (a:=s.x) (b:=s.x) g.1 g.1;have T:=jG (A:=2097152) (B:=2097152) (a:=s.y) (b:=s.y) g.2 g.2;have p1:=jn s.x;have R:=jn s.y;have P:=jG (A:=65536) (B:=65536) (a:=d) (b:=d) oM oM;have Q:=jn d;have t:=zcI g.1 v;have U:=zcI g.2 v;have K:=v;unfold kq at K;(iterate 3 refine wa ?_);have O:0<=s.x*s.x+s.y*s.y/\s.x*s.x+s.y*s.y<=8796093022208:=oM;refine wa ?_
 refine⟨λE:s.x*s.x+s.y*s.y=0=>?_,λE:¬s.x*s.x+s.y*s.y=0=>?_⟩
 .exact uo (e.trans (Xe (.inl E)))
 have V:256*w*(256*w)=65536*(w*w):=by grind
 have I:=g;unfold zfU at I;have L:=jw (n:=256*w*(256*w)) ⟨oM,oM⟩;have M:=jw (n:=d*d) ⟨oM,oM⟩;have N:=jw (n:=s.x*s.x+s.y*s.y) ⟨oM,oM⟩;have z4:=qc (d*d) (s.x*s.x+s.y*s.y);unfold jx at L M N z4;refine wa<|wg (jV (256*w*(256*w)) ⟨oM,oM⟩)<|wa<|wg (jV (d*d) ⟨oM,oM⟩)<|wg (jV (s.x*s.x+s.y*s.y) ⟨oM,oM⟩)<|wg (zde (ofZ (d*d)) (ofZ (s.x*s.x+s.y*s.y)) (by rw[jZ];omega) (by rw[jZ];omega)) ?_;rw[z5,z5]
 refine wg (zAs (ofZ (256*w*(256*w))) (ofZ (d*d*(s.x*s.x+s.y*s.y))) (by rw[jZ];omega) (by rw[jZ];omega)) ?_;rw[z5,z5]
 have u:0<(256*w*(256*w)-d*d*(s.x*s.x+s.y*s.y)).sign↔d*d*(s.x*s.x+s.y*s.y)<256*w*(256*w):=by
  rw[Int.sign_pos_iff];omega
 refine⟨λF=>?_,λF=>?_⟩
 .exact uo (e.trans (Xe (.inr (u.1 F))))
 have go:u5 n m w d=(⟨ub (z8 (s.x*(w*w)) (2*(s.x*s.x+s.y*s.y))),ub (z8 (s.y*(w*w)) (2*(s.x*s.x+s.y*s.y)))⟩,true):=by
  rw[←Yj,←Yj,uP oM,uP oM];exact e.trans (Xc (λk=>k.elim E (λh=>F (u.2 h))))
 (iterate 2 refine wa ?_);refine wg (ziB s.x (w*w) (2*(s.x*s.x+s.y*s.y)) ⟨oM,oM⟩ ⟨oM,oM⟩ ⟨oM,oM⟩) ?_;(iterate 2 refine wa ?_);exact wg (ziB s.y (w*w) (2*(s.x*s.x+s.y*s.y)) ⟨oM,oM⟩ ⟨oM,oM⟩ ⟨oM,oM⟩)<|uo go
variable{α:Type}
def kI{p:Prop}[Decidable p](h:p){a b:α}:(if¬p then a else b)=b:=Xc (λk=>k h)
def qP{n:Int}(h:n=0){a b:α}:(if n≠0 then a else b)=b:=Xc (λk=>k h)
def y8(q:LU)(x:Pt):LU:=if q.getLast?=some x then q else q++[x]
def kz(q more:LU):LU:=more.foldl y8 q
def kN(p:Pt)(s:Sg)(tol:Int):LU×Int:=if s.v=3 then zdJ p s.a s.b tol else if s.v=4 then zdK p s.a s.b s.c tol else([s.a],0)
def qV(l:LU):Pt:=l.getLastD zp
def zbH(p:Pl)(s:Sg)(tol:Int):Pl×Int:=
 if s.v=5 then(⟨qo p.pts,true⟩,0)
 else if (kN (qV p.pts) s tol).2≠0 then(p,(kN (qV p.pts) s tol).2)
 else(⟨kz p.pts (kN (qV p.pts) s tol).1,p.cl⟩,0)
def uq(tol:Int)(st:LZ×Int)(s:Sg):LZ×Int:=
 if st.2≠0 then([],st.2)
 else if s.v=1 then(st.1++[⟨[s.a],false⟩],0)
 else if (zbH (st.1.getLastD ⟨[],false⟩) s tol).2≠0 then([],(zbH (st.1.getLastD ⟨[],false⟩) s tol).2)
 else(st.1.dropLast++[(zbH (st.1.getLastD ⟨[],false⟩) s tol).1],0)
variable{tol:Int}{S:LZ}
def zhu{s:Sg}:uq tol (S,0) s=
  if s.v=1 then(S++[⟨[s.a],false⟩],0)
  else if (zbH (S.getLastD ⟨[],false⟩) s tol).2≠0 then([],(zbH (S.getLastD ⟨[],false⟩) s tol).2)
  else(S.dropLast++[(zbH (S.getLastD ⟨[],false⟩) s tol).1],0):=Xc (λk:(0:Int)≠0=>k rfl)
def jr(l:LX)(tol:Int):LZ×Int:=l.foldl (uq tol) ([],0)
def jy(l:LZ):Nat:=(l.map λp=>p.pts.length).sum
def zfV(tol:Int):Prop:=1<=tol/\tol<=256
instance (tol:Int):Decidable (zfV tol):=wi
def zY(l:LX)(tol:Int):LZ×Int:=
 if¬qU l then([],10) else if¬zfV tol then([],2) else if (jr l tol).2≠0 then([],(jr l tol).2)
 else if 4096<jy (jr l tol).1 then([],5) else((jr l tol).1,0)
def inB(lo hi p:Pt):Prop:=(lo.x<=p.x/\p.x<=hi.x)/\(lo.y<=p.y/\p.y<=hi.y)
def zv5{a b lo hi:Int}(g:0<b)(d:lo*b<=a)(e:a<=hi*b):lo<=zen a b/\zen a b<=hi:=by
 unfold zen;constructor
 .rw[Int.le_ediv_iff_mul_le oM];have:lo*(2*b)=2*(lo*b):=by grind
  omega
 have f:(2*a+b)/(2*b)<hi+1:=by
  rw[Int.ediv_lt_iff_lt_mul oM];have:(hi+1)*(2*b)=2*(hi*b)+2*b:=by grind
  omega
 omega
variable{i:Int}
def zFU{n a b c lo hi:Int}(B:1<=n)(h:0<=i)(j:i<=n)(y:lo<=a/\a<=hi)(z:lo<=b/\b<=hi)(A:lo<=c/\c<=hi):lo<=q1 i n a b c/\q1 i n a b c<=hi:=by
 unfold q1;have d:0<=(n-i)*(n-i):=XI oM oM;have f:0<=2*i*(n-i):=XI oM oM;have g:0<=i*i:=XI oM oM;have e:n*n=(n-i)*(n-i)+2*i*(n-i)+i*i:=by grind
 have k:=XI d (show 0<=a-lo by omega);have o:=XI f (show 0<=b-lo by omega);have s:=XI g (show 0<=c-lo by omega);have t:=XI d (show 0<=hi-a by omega);have u:=XI f (show 0<=hi-b by omega);have v:=XI g (show 0<=hi-c by omega);refine zv5 (Q3 oM oM) ?_ ?_
 .rw[e];grind
 rw[e];grind
def zFV{n a b c d lo hi:Int}(C:1<=n)(k:0<=i)(o:i<=n)(y:lo<=a/\a<=hi)(z:lo<=b/\b<=hi)(A:lo<=c/\c<=hi)(B:lo<=d/\d<=hi):
  lo<=c1 i n a b c d/\c1 i n a b c d<=hi:=by
 unfold c1;have f:0<=(n-i)*(n-i)*(n-i):=XI (XI oM oM) oM;have g:0<=3*i*(n-i)*(n-i):=XI (XI oM oM) oM;have h:0<=3*i*i*(n-i):=XI (XI oM oM) oM;have j:0<=i*i*i:=XI (XI oM oM) oM;have e:n*n*n=(n-i)*(n-i)*(n-i)+3*i*(n-i)*(n-i)+3*i*i*(n-i)+i*i*i:=by grind
 have s:=XI f (show 0<=a-lo by omega);have t:=XI g (show 0<=b-lo by omega);have u:=XI h (show 0<=c-lo by omega);have v:=XI j (show 0<=d-lo by omega);have D:=XI f (show 0<=hi-a by omega);have E:=XI g (show 0<=hi-b by omega);have F:=XI h (show 0<=hi-c by omega);have G:=XI j (show 0<=hi-d by omega);refine zv5 (Q3 (Q3 oM oM) oM) ?_ ?_
 .rw[e];grind
 rw[e];grind
def zjK(need tol:Int):∀(k n:Nat),1<=n->(yI need tol k n).2=0->1<=(yI need tol k n).1/\(yI need tol k n).1<=(n+k:Nat)-1
 |0,n,_,h=>by cases h
 |k+1,n,d,h=>by
  unfold yI at h ⊢
  split
  .exact⟨oN,oN⟩
  rename_i c;rw[Xc c]at h;have:=zjK need tol k (n+1) oM h;omega
variable{l:LU}
def yX{need:Int}(h:(k8 need tol l).2=0):(1<=(k8 need tol l).1/\(k8 need tol l).1<=64)/\zfV tol/\(∀p∈l,zm p)/\k8 need tol l=yI need tol 64 1:=by
 unfold k8 at h ⊢
 by_cases d:¬(1<=tol/\tol<=256)
 .rw[Xe d]at h;exact absurd h dC
 rw[Xc d]at h ⊢
 by_cases e:¬∀p∈l,zm p
 .rw[Xe e]at h;exact absurd h dC
 rw[Xc e]at h ⊢;have:=zjK need tol 64 1 dC h;exact⟨oM,Xa.1 d,Xa.1 e,rfl⟩
def zr2{f:Int->Pt}{n:Nat}(h:p∈zcG f n):∃i:Nat,i<n/\p=f ((i:Int)+1):=by
 unfold zcG at h;obtain⟨i,hi,rfl⟩:=XK.1 h;exact⟨i,XV.1 hi,rfl⟩
variable{lo:Pt}{hi:Pt}{a:Pt}{b:Pt}{c:Pt}
def zxW{n:Int}(e:1<=n/\n<=64)(d:0<=i/\i<=n)(o:∀p∈[a,b,c],zm p)(h:∀p∈[a,b,c],inB lo hi p):inB lo hi (y6 a b c i n):=by
 unfold y6;rw[Xc (λk=>k ⟨o,e.1,e.2,d.1,d.2⟩)];have f:=h a sI;have g:=h b sI;have j:=h c sI;exact⟨zFU e.1 d.1 d.2 f.1 g.1 j.1,zFU e.1 d.1 d.2 f.2 g.2 j.2⟩
def zxX{d:Pt}{n:Int}(f:1<=n/\n<=64)(e:0<=i/\i<=n)(t:∀p∈[a,b,c,d],zm p)(h:∀p∈[a,b,c,d],inB lo hi p):inB lo hi (y7 a b c d i n):=by
 unfold y7;rw[Xc (λk=>k ⟨t,f.1,f.2,e.1,e.2⟩)];have g:=h a sI;have j:=h b sI;have o:=h c sI;have s:=h d sI;exact⟨zFV f.1 e.1 e.2 g.1 j.1 o.1 s.1,zFV f.1 e.1 e.2 g.2 j.2 o.2 s.2⟩
def zAV(f:(zdJ a b c tol).2=0)(h:∀p∈[a,b,c],inB lo hi p):∀p∈(zdJ a b c tol).1,inB lo hi p:=by
 unfold zdJ at f ⊢
 split
 .intro p e;cases e
 rename_i d;have d:=Xa.1 d;have ok:=yX d;intro p e;obtain⟨i,hi,rfl⟩:=zr2 (show p∈zcG (λi=>y6 a b c i (j9 a b c tol).1) (j9 a b c tol).1.toNat from e);unfold j9 at hi ⊢;exact zxW (by unfold j9 at*;omega) (by unfold j9 at*;omega) ok.2.2.1 h
def zAW{d:Pt}(g:(zdK a b c d tol).2=0)(h:∀p∈[a,b,c,d],inB lo hi p):∀p∈(zdK a b c d tol).1,inB lo hi p:=by
 unfold zdK at g ⊢
 split
 .intro p f;cases f
 rename_i e;have e:=Xa.1 e;have ok:=yX e;intro p f;obtain⟨i,hi,rfl⟩:=zr2 (show p∈zcG (λi=>y7 a b c d i (ya a b c d tol).1) (ya a b c d tol).1.toNat from f);unfold ya at hi ⊢;exact zxX (by unfold ya at*;omega) (by unfold ya at*;omega) ok.2.2.1 h
def zgo:∀{l:LU} {x:Pt},jN l->l.getLast?≠some x->jN (l++[x])
 |[],x,_,_=>⟨λ_ h=>(by cases h),tV⟩
 |[p],x,_,h=>⟨λq f e=>h (by cases f;rw[e];rfl),⟨λ_ h=>(by cases h),tV⟩⟩
 |p::q::r,x,h,d=>⟨λz g=>h.1 z g,zgo (l:=q::r) h.2 (by rwa [Yq]at d)⟩
def zxY(h:jN l)(x:Pt):jN (y8 l x):=by
 unfold y8
 split
 .exact h
 rename_i k;exact zgo h k
def zgp:∀(more:LU) {l:LU},jN l->jN (kz l more)
 |[],_,h=>h
 |x::r,l,h=>zgp r (zxY h x)
def zlO:∀{l:LU},jN l->jN l.dropLast
 |[],_=>trivial
 |[p],_=>trivial
 |[p,q],h=>⟨λ_ h=>(by cases h),tV⟩
 |p::q::r::s,h=>⟨λz d=>h.1 z d,zlO (l:=q::r::s) h.2⟩
def zbI(h:jN l):jN (qo l):=by
 unfold qo;split
 .exact zlO h
 exact h
def zD4{x:Pt}(h:p∈y8 l x):p∈l∨p=x:=by
 unfold y8 at h
 split at h
 .exact .inl h
 simpa using h
def zr3:∀(more:LU) {l:LU} {p:Pt},p∈kz l more->p∈l∨p∈more
 |[],_,_,h=>.inl h
 |x::r,l,p,h=>by
  rcases zr3 r (l:=y8 l x) h with h|h
  .exact(zD4 h).imp id λe=>by rw[e];exact .head _
  exact .inr (.tail _ h)
def zr4(h:p∈qo l):p∈l:=by
 unfold qo at h
 split at h
 .exact List.dropLast_subset l h
 exact h
def zHe(x:Pt):y8 l x≠[]:=by
 unfold y8;split
 .rename_i h;intro e;rw[e]at h;cases h
 simp
def zpR:∀(more:LU) {l:LU},l≠[]->kz l more≠[]
 |[],_,h=>h
 |x::r,l,_=>zpR r (zHe x)
def zD5(h:l≠[]):qo l≠[]:=by
 unfold qo;split
 .rename_i k;intro e;have:l.dropLast.length=0:=by rw[e];rfl
  rw[Q4]at this;omega
 exact h
def zr5(l:LU)(x:Pt):(y8 l x).getLast?=some x:=by
 unfold y8;split
 .assumption
 simp
def znZ:∀(more:LU) (l:LU),more≠[]->(kz l more).getLast?=more.getLast?
 |[],_,h=>absurd rfl h
 |[x],l,_=>zr5 l x
 |x::y::r,l,_=>by
  show(kz (y8 l x) (y::r)).getLast?=_;rw[znZ (y::r) _ sI,Yq]
def zn0{l:LU}(h:jN l)(f:1<(qo l).length):(qo l).getLast?≠(qo l).head?:=by
 unfold qo at f ⊢
 split
 .rename_i k;rw[Xe k]at f;rw[Q4]at f;intro e
  -- l=d++[z]
  obtain⟨d,z,rfl⟩:∃d z,l=d++[z]:=⟨l.dropLast,l.getLast (by intro h;rw[h]at k;simp at k),(JV _).symm⟩;rw[JP]at e;simp at f;obtain⟨g,y,rfl⟩:∃g y,d=g++[y]:=⟨d.dropLast,d.getLast (by intro h;rw[h]at f;simp at f),(JV _).symm⟩;have n:(g++[y]++[z]).head?=(g++[y]).head?:=by cases g <;> rfl
  rw[n,←e]at k;have j:=k.2;rw[JR,JR]at j;have o:z=y:=Xl j;clear e n k f j
  induction g with
  |nil=>exact h.1 z rfl o.symm
  |cons w g s=>exact s h.2
 rename_i k;rw[Xc k]at f;intro e;exact k ⟨f,e⟩
def InvP(lo hi:Pt)(S:LZ)(last:Int):Prop:=
 (S=[]/\last=5∨∃cl p,S=cl++[p]/\(p.cl=true↔last=5))/\∀q∈S,q.pts≠[]/\jN q.pts/\∀z∈q.pts,inB lo hi z
def zxZ(h:l≠[]):qV l∈l:=by
 unfold qV;rw[Je,List.getLast?_eq_some_getLast h];exact List.getLast_mem h
def zup{s:Sg}(h:s.v=1∨s.v=2):kE s=[s.a]:=by
 unfold kE
 rcases h with h|h <;> rw[h] <;> rfl
def zHf{s:Sg}(h:s.v=3):kE s=[s.a,s.b]:=by unfold kE;rw[h];rfl
def zHg{s:Sg}(h:s.v=4):kE s=[s.a,s.b,s.c]:=by unfold kE;rw[h];rfl
def zHh{s:Sg}(k:0<=nm s.v)(j:s.v≠5)(g:inB lo hi p)(e:∀q∈kE s,inB lo hi q)(f:(kN p s tol).2=0):∀q∈(kN p s tol).1,inB lo hi q:=by
 unfold kN at f ⊢
 rcases znT k with h|h|h|h|h
 .rw[Xc oM,Xc oM]at f ⊢;intro q d;rw[zup (.inl h)]at e;exact e q d
 .rw[Xc oM,Xc oM]at f ⊢;intro q d;rw[zup (.inr h)]at e;exact e q d
 .rw[Xe h]at f ⊢;rw[zHf h]at e
  exact zAV f λq d=>by
   cases d with
   |head=>exact g
   |tail _ d=>exact e q d
 .rw[Xc oM,Xe h]at f ⊢;rw[zHg h]at e
  exact zAW f λq d=>by
   cases d with
   |head=>exact g
   |tail _ d=>exact e q d
 exact absurd h j
variable{last:Int}{x:Sg}
def zAX(h:InvP lo hi S last)(E:jW last x=0)(y:∀p∈kE x,inB lo hi p)(g:(uq tol (S,0) x).2=0):InvP lo hi (uq tol (S,0) x).1 x.v:=by
 obtain⟨B,C,F⟩:=u7.1 E;rw[zhu]at g ⊢
 by_cases o:x.v=1
 .rw[Xe o]at g ⊢;refine⟨.inr ⟨S,_,rfl,⟨λk=>(by cases k),λk=>by omega⟩⟩,λq d=>?_⟩
  rcases Xu.1 d with d|d
  .exact h.2 q d
  have:=Xt.1 d;subst this;refine⟨sI,⟨λ_ h=>(by cases h),tV⟩,λz f=>?_⟩;have:=Xt.1 f;subst this;exact y _ (by rw[zup (.inl o)];exact .head _)
 rw[Xc o]at g ⊢;obtain⟨u,G⟩:=C.resolve_left o;obtain⟨cl,p,rfl,D⟩:∃cl p,S=cl++[p]/\(p.cl=true↔last=5):=h.1.resolve_left (λk=>u k.2);have eg:(cl++[p]).getLastD ⟨[],false⟩=p:=by simp
 rw[eg]at g ⊢
 by_cases e:(zbH p x tol).2≠0
 .rw[Xe e]at g;exact absurd g e
 rw[Xc e]at g ⊢;have e:=Xa.1 e;obtain⟨p1,A,s⟩:=h.2 p sI;rw[JP]
 have t:((zbH p x tol).1.cl=true↔x.v=5)/\(zbH p x tol).1.pts≠[]/\jN (zbH p x tol).1.pts/\∀z∈(zbH p x tol).1.pts,inB lo hi z:=by
  unfold zbH at e ⊢
  by_cases n:x.v=5
  .rw[Xe n];exact⟨⟨λ_=>n,λ_=>rfl⟩,zD5 p1,zbI A,λz f=>s z (zr4 f)⟩
  rw[Xc n]at e ⊢
  by_cases j:(kN (qV p.pts) x tol).2≠0
  .rw[Xe j]at e;exact absurd e j
  rw[Xc j]at e ⊢;have j:=Xa.1 j;refine⟨⟨λk=>absurd (D.1 k) u,λk=>absurd k n⟩,zpR _ p1,zgp _ A,λz f=>?_⟩
  rcases zr3 _ f with f|f
  .exact s z f
  exact zHh B n (s _ (zxZ p1)) y j z f
 refine⟨.inr ⟨cl,_,rfl,t.1⟩,λq d=>?_⟩
 rcases Xu.1 d with d|d
 .exact h.2 q (Kz _ d)
 have:=Xt.1 d;subst this;exact t.2
def zr6(last:Int)(l:LX)(i:Nat):Int:=if i=0 then last else(l[i-1]?.map Sg.v).getD 0
def zlP{l:LX}{i:Nat}(h:l[i]?=some x):zr6 last l (i+1)=x.v:=by
 unfold zr6;rw[Xc oM,show i+1-1=i by omega,h];rfl
def zuq:∀{l:LX} {last:Int} {i:Nat} {x:Sg},oks last l->l[i]?=some x->jW (zr6 last l i) x=0
 |[],_,i,_,_,h=>by simp at h
 |s::r,last,0,x,h,d=>by cases d;exact h.1
 |s::r,last,i+1,x,h,d=>by
  have d:r[i]?=some x:=d;have:=zuq h.2 d
  cases i with
  |zero=>exact this
  |succ i=>exact this
def zag{l:LX}{tol:Int}{i:Nat}{x:Sg}(h:l[i]?=some x):jr (l.take (i+1)) tol=uq tol (jr (l.take i) tol) x:=by
 unfold jr;rw[Xn,h];simp[KX]
def zr7{tol:Int}:∀(r:LX) {st:LZ×Int},st.2≠0->r.foldl (uq tol) ([],st.2)=([],st.2)
 |[],_,_=>rfl
 |x::r,st,h=>by
  rw[Qo];have:uq tol ([],st.2) x=([],st.2):=by unfold uq;rw[Xe h]
  rw[this];exact zr7 r (st:=st) h
def zAY{st:LZ×Int}(h:(uq tol st x).2≠0):uq tol st x=([],(uq tol st x).2):=by
 unfold uq at h ⊢
 split
 .rfl
 rename_i e;rw[Xc e]at h
 split
 .rename_i d;rw[Xe d]at h;exact absurd rfl h
 rename_i d;rw[Xc d]at h
 split
 .rfl
 rename_i f;rw[Xc f]at h;exact absurd rfl h
def zn1{l:LX}{i:Nat}(d:l[i]?=some x)(h:(jr (l.take (i+1)) tol).2≠0):jr l tol=([],(jr (l.take (i+1)) tol).2):=by
 have e:jr l tol=(l.drop (i+1)).foldl (uq tol) (jr (l.take (i+1)) tol):=by
  unfold jr;rw[←KX,Ku]
 rw[e];rw[zag d]at h ⊢;rw[zAY h];exact zr7 _ (st:=uq tol (jr (l.take i) tol) x) h
def zlQ{lo hi:Pt}{l:LX}{tol:Int}(j:oks 5 l)(g:∀p∈qk l,inB lo hi p):∀i,i<=l.length->(jr (l.take i) tol).2=0->InvP lo hi (jr (l.take i) tol).1 (zr6 5 l i)
 |0,_,_=>⟨.inl ⟨rfl,rfl⟩,λq o=>(by cases o)⟩
 |i+1,k,h=>by
  have f:l[i]?=some l[i]:=Xb oM;rw[zag f]at h ⊢
  by_cases d:(jr (l.take i) tol).2=0
  .have s:=zlQ j g i oM d;rw[zlP f];have e:jr (l.take i) tol=((jr (l.take i) tol).1,0):=by rw[←d]
   rw[e]at h ⊢;exact zAX s (zuq j f) (λp n=>g p (QO.2 ⟨_,X5 _,n⟩)) h
  unfold uq at h;rw[Xe d]at h;exact absurd h d
def qF(d:LV)(i:Nat):Int:=256*(d.take i).sum
def qK(d:LV):Int:=256*d.sum
def yC:LV->Int->Nat->Nat×Int
 |[],_,_=>(0,0)
 |e::r,k,i=>if k<256*e then(i,256*e-k) else yC r (k-256*e) (i+1)
def phD(pen:Pen)(t:Int):Int:=(t%qK pen.d+(256*pen.ph)%qK pen.d)%qK pen.d
def onD(pen:Pen)(t:Nat):Prop:=(yC pen.d (phD pen t) 0).1%2=0
instance (pen:Pen) (t:Nat):Decidable (onD pen t):=inferInstanceAs (Decidable (_=_))
def yO(d:LV):qF d d.length=qK d:=by unfold qF qK;rw[Kc]
def yw{d:LV}{i:Nat}{e:Int}(h:d[i]?=some e):qF d (i+1)=qF d i+256*e:=by
 unfold qF;rw[Xn,h];simp[Jp]
def uy(d:LV):qF d 0=0:=rfl
def zlR:∀{d:LV},(∀n∈d,0<=n)->0<=d.sum
 |[],_=>dC
 |e::r,h=>by
  rw[Ji];have:=h e (.head _);have:=zlR (d:=r) λn f=>h n (.tail _ f)
  omega
def zAZ:∀{d:LV},(∀n∈d,n<=1048576)->d.sum<=1048576*(d.length:Int)
 |[],_=>dC
 |e::r,h=>by
  rw[Ji,Xm];have:=h e (.head _);have:=zAZ (d:=r) λn f=>h n (.tail _ f)
  omega
def ziQ{d:LV}(h:∀n∈d,0<=n){i j:Nat}(f:i<=j):qF d i<=qF d j:=by
 unfold qF
 have e:d.take j=d.take i++(d.take j).drop i:=by
  have:=(Ku i (d.take j)).symm
  rwa [YN,Qp f]at this
 rw[e,QW];have:=zlR (d:=(d.take j).drop i) λn g=>h n (XP (K5 g))
 omega
def zfn:∀{d:LV} {i i0:Nat} {k e:Int},(∀n∈d,0<=n)->d[i]?=some e->qF d i<=k->k<qF d i+256*e->yC d k i0=(i0+i,qF d i+256*e-k)
 |[],i,_,_,_,_,h,_,_=>by simp at h
 |a::r,0,i0,k,e,g,h,j,o=>by
  cases h
  rw[uy] at*;unfold yC;rw[Xe oM];simp
 |a::r,i+1,i0,k,e,g,h,j,o=>by
  have h:r[i]?=some e:=h;have s:qF (a::r) (i+1)=256*a+qF r i:=by unfold qF;rw[X8,Ji,Jp]
  have t:=ziQ (d:=r) (λn f=>g n (.tail _ f)) (Xh i);rw[uy]at t;rw[s]at j o ⊢;unfold yC;rw[Xc oM,zfn (λn f=>g n (.tail _ f)) h oM oM];exact Prod.ext oN oN
def zpS:∀{d:LV} {k:Int},(∀n∈d,0<=n)->0<=k->k<qK d->∃i e,d[i]?=some e/\qF d i<=k/\k<qF d i+256*e
 |[],k,_,g,h=>by unfold qK at h;simp at h;omega
 |a::r,k,o,g,h=>by
  by_cases c:k<256*a
  .exact⟨0,a,rfl,g,by rw[uy];omega⟩
  have s:qK (a::r)=256*a+qK r:=by unfold qK;rw[Ji,Jp]
  obtain⟨i,e,j,u,v⟩:=zpS (d:=r) (k:=k-256*a) (λn f=>o n (.tail _ f)) oM oM;have t:qF (a::r) (i+1)=256*a+qF r i:=by unfold qF;rw[X8,Ji,Jp]
  exact⟨i+1,e,j,oM,oM⟩
def z9(on:LI)[DecidablePred on]:Nat->List (Nat×Nat)×Option Nat
 |0=>([],none)
 |t+1=>if on t then((z9 on t).1,some ((z9 on t).2.getD t)) else((z9 on t).1++((z9 on t).2.map λf=>(f,t)).toList,none)
def kO(on:LI)[DecidablePred on](t:Nat):List (Nat×Nat):=(z9 on t).1++((z9 on t).2.map λf=>(f,t)).toList
end
section
variable{on:LI}[DecidablePred on]
def vm(t:Nat):z9 on (t+1)=if on t then((z9 on t).1,some ((z9 on t).2.getD t)) else((z9 on t).1++((z9 on t).2.map λf=>(f,t)).toList,none):=rfl
def zA0{a b:Nat}(e:a<b)(h:∀t,a<=t->t<b->on t):z9 on b=((z9 on a).1,some ((z9 on a).2.getD a)):=by
 obtain⟨k,rfl⟩:∃k,b=a+1+k:=⟨b-a-1,oM⟩
 induction k with
 |zero=>rw[show a+1+0=a+1 from rfl,vm,Xe (h a (Xj _) oM)]
 |succ k f=>
  rw[show a+1+(k+1)=(a+1+k)+1 from rfl,vm,Xe (h _ oM oM),f oM λt d g=>h t d oM];rfl
def zv6{a b:Nat}(e:a<b)(h:∀t,a<=t->t<b->¬on t):z9 on b=(kO on a,none):=by
 obtain⟨k,rfl⟩:∃k,b=a+1+k:=⟨b-a-1,oM⟩
 induction k with
 |zero=>rw[show a+1+0=a+1 from rfl,vm,Xc (h a (Xj _) oM)];rfl
 |succ k f=>
  rw[show a+1+(k+1)=(a+1+k)+1 from rfl,vm,Xc (h _ oM oM),f oM λt d g=>h t d oM];exact Prod.ext (XE _) rfl
def zr8{a:Nat}:∀k,∃r,(z9 on (a+k)).1=(z9 on a).1++r
 |0=>⟨[],sI⟩
 |k+1=>by
  obtain⟨r,d⟩:=zr8 (a:=a) k;rw[show a+(k+1)=(a+k)+1 from rfl,vm]
  split
  .exact⟨r,d⟩
  exact⟨r++_,by rw[←XL,←d]⟩
def zA1{a b:Nat}(d:a<=b):∃r,kO on b=(z9 on a).1++r:=by
 obtain⟨k,rfl⟩:∃k,b=a+k:=⟨b-a,oM⟩;obtain⟨r,e⟩:=zr8 (on:=on) (a:=a) k;exact⟨r++_,by unfold kO;rw[e,XL]⟩
def zcJ:∀t,(∀q∈(z9 on t).1,q.1<q.2/\q.2<t)/\∀f,(z9 on t).2=some f->f<t
 |0=>⟨λq d=>(by cases d),λf h=>(by cases h)⟩
 |t+1=>by
  have j:=zcJ t;rw[vm]
  split
  .refine⟨λq d=>⟨(j.1 q d).1,by have:=(j.1 q d).2;omega⟩,λf e=>?_⟩;have e:=Xl e
   cases g:(z9 on t).2 with
   |none=>rw[g]at e;simp at e;omega
   |some k=>rw[g]at e;simp at e;have:=j.2 k g;omega
  refine⟨λq d=>?_,λf e=>by cases e⟩
  rcases Xu.1 d with d|d
  .exact⟨(j.1 q d).1,by have:=(j.1 q d).2;omega⟩
  cases g:(z9 on t).2 with
  |none=>rw[g]at d;cases d
  |some k=>
   rw[g]at d;have:=Xt.1 d;subst this;exact⟨j.2 k g,oN⟩
def zlS{t:Nat}:∀q∈kO on t,q.1<q.2/\q.2<=t:=λq d=>by
 have h:=zcJ (on:=on) t
 rcases Xu.1 d with d|d
 .exact⟨(h.1 q d).1,by have:=(h.1 q d).2;omega⟩
 cases e:(z9 on t).2 with
 |none=>rw[e]at d;cases d
 |some f=>
  rw[e]at d;have:=Xt.1 d;subst this;exact⟨h.2 f e,Xj _⟩
def zn2:∀t f,(z9 on t).2=some f->∀q∈(z9 on t).1,q.2<f
 |0,f,h=>by cases h
 |t+1,f,h=>by
  rw[vm]at h ⊢
  split at h
  .rename_i c;rw[Xe c];have h:=Xl h;intro q e
   cases d:(z9 on t).2 with
   |none=>rw[d]at h;have:=((zcJ (on:=on) t).1 q e).2;simp at h;omega
   |some g=>rw[d]at h;simp at h;subst h;exact zn2 t g d q e
  cases h
def zD6{t:Nat}{q:Nat×Nat}(n:q∈kO on t)(g:q.1=0)(o:q.2=t):kO on t=[q]:=by
 rcases Xu.1 n with d|d
 .have:=((zcJ (on:=on) t).1 q d).2;omega
 unfold kO
 cases h:(z9 on t).2 with
 |none=>rw[h]at d;cases d
 |some f=>
  rw[h]at d;have e:=Xt.1 d
  have j:(z9 on t).1=[]:=by
   cases k:(z9 on t).1 with
   |nil=>rfl
   |cons a r=>
    have s:=zn2 t f h a (by rw[k];exact .head _);rw[e]at g;have g:f=0:=g;omega
  rw[j,e];rfl
end
section
def drawn(d:LV):Int:=256*((List.range d.length).map λi=>if i%2=0 then d.getD i 0 else 0).sum
def kV(pen:Pen)(long:Int):List (Nat×Nat):=
 if¬kF pen∨long<1∨(0<qK pen.d/\drawn pen.d=0) then[]
 else if qK pen.d=drawn pen.d then[(0,long.toNat)] else kO (onD pen) long.toNat
def jp(a b:Pt):Int:=zrN (zae b a)
def zi(p:Pl):LU:=if p.cl=true/\2<=(zw p).pts.length then(zw p).pts++[nth (zw p).pts 0] else(zw p).pts
def atS(c:LU):Nat->Int
 |0=>0
 |i+1=>atS c i+jp (nth c i) (nth c (i+1))
def zM(p:Pl):Int:=atS (zi p) ((zi p).length-1)
def zlT(c:LU)(x:Int):Nat->Nat
 |0=>0
 |i+1=>if x<atS c (i+1) then zlT c x i else i+1
def zdQ(c:LU)(x:Int):Pt:=
 let i:=zlT c x (c.length-2)
 uO (nth c i) (nth c (i+1)) (x-atS c i) (atS c (i+1)-atS c i)
def zfW(c:LU)(f t:Int)(n:Nat):LU:=((List.range n).filter λi=>decide (f<atS c i/\atS c i<t)).map (nth c)
def vt(c:LU)(f t:Int):LU:=kz [] ([zdQ c f]++zfW c f t (c.length-1)++[zdQ c t])
def yb(p:Pl)(q:Nat×Nat):Pl:=if p.cl=true/\q.1=0/\(q.2:Int)=zM p then zw p else⟨vt (zi p) q.1 q.2,false⟩
def jH(p:Pl)(pen:Pen):LZ×Int:=
 if¬kF pen then([],13) else if¬∀q∈p.pts,zm q then([],6) else if 4096<p.pts.length then([],5)
 else if pen.d=[] then([zw p],0)
 else if 4096<jy ((kV pen (zM p)).map (yb p)) then([],5) else((kV pen (zM p)).map (yb p),0)
def goP(t:AF)(p:Pt):Pt:=⟨(vX t (p.x:Rat) (p.y:Rat)+Rat.divInt 1 2).floor,(vY t (p.x:Rat) (p.y:Rat)+Rat.divInt 1 2).floor⟩
def ku(t:AF)(p:Pt):Pt×Int:=if¬t.ok then(zp,5) else if¬zm p then(zp,6) else if zm (goP t p) then(goP t p,0) else(zp,6)
def zfo(t:AF)(p:Pt)(ht:t.le 100000):CX 242 [wo t,wk p] (.tup [wk (ku t p).1,i64 (ku t p).2]):=by
 obtain⟨C,D,E,F,G,H⟩:=ht;refine zc func242 ?_;have g:∀(q:Pt) (n:Int),(ku t p)=(q,n)->LE (.tup [wk q,i64 n]) (.tup [wk (ku t p).1,i64 (ku t p).2]):=λq n h=>by rw[h];exact .refl
 refine wg (zhi t ⟨oM,oM,oM,oM,oM,oM⟩)<|⟨λj=>?_,λj=>?_⟩
 .exact g zp 5 (by rw[ku,Xe j])
 refine wg (qe p)<|⟨λk=>?_,λk=>?_⟩
 .exact g zp 6 (by rw[ku,Xc j,Xe k])
 have z:zm p:=XS k;have A:R64 p.x:=by unfold R64;unfold zm at z;omega
 have B:R64 p.y:=by unfold R64;unfold zm at z;omega
 have lx:=zek p.x;have ly:=zek p.y;have zx:=jw A;have zy:=jw B;refine wc<|wg (yW p.x A)<|wg (yW p.y B)<|wg (zvN t (ofQ (p.x:Rat)) (ofQ (p.y:Rat)) ⟨oM,oM,oM,oM,oM,oM⟩ (by rw[zF];omega) (by rw[zF];omega)) ?_;rw[ky,ky];have lX:=qX t.a (ofQ (p.x:Rat)) t.c (ofQ (p.y:Rat)) t.e (n:=100000) C (by rw[zF];omega) E (by rw[zF];omega) G;have lY:=qX t.b (ofQ (p.x:Rat)) t.d (ofQ (p.y:Rat)) t.f (n:=100000) D (by rw[zF];omega) F (by rw[zF];omega) H;rw[ky,ky]at lX lY
 have lh:y4 (Rat.divInt 1 2)<=1:=by decide +kernel
 have mX:=zbC (vX t p.x p.y) (Rat.divInt 1 2);have mY:=zbC (vY t p.x p.y) (Rat.divInt 1 2);have lX2:y4 (vX t p.x p.y)<=500007:=lX.2;have lY2:y4 (vY t p.x p.y)<=500007:=lY.2
 have fl:∀q:Rat,jx q.floor<=y4 q:=λq=>XC (zcx (by
  rw[Yo]
  exact Jb _ _)) (qE q)
 have fX:=fl (vX t p.x p.y+Rat.divInt 1 2);have fY:=fl (vY t p.x p.y+Rat.divInt 1 2);refine wg (zub 1 2 dC dC dC)<|wg (zrG (ofQ (vX t p.x p.y)) (ofQ (Rat.divInt 1 2)) (by rw[zF];omega) (by rw[zF];omega)) ?_;rw[ky,ky];refine wg (zvM (ofQ (vX t p.x p.y+Rat.divInt 1 2)) (by rw[zF];omega)) ?_;rw[ky];refine wg (zvK (ofZ (vX t p.x p.y+Rat.divInt 1 2).floor) (by rw[zW];omega))<|wg (zrG (ofQ (vY t p.x p.y)) (ofQ (Rat.divInt 1 2)) (by rw[zF];omega) (by rw[zF];omega)) ?_;rw[ky,ky]
 refine wg (zvM (ofQ (vY t p.x p.y+Rat.divInt 1 2)) (by rw[zF];omega)) ?_;rw[ky];refine wg (zvK (ofZ (vY t p.x p.y+Rat.divInt 1 2).floor) (by rw[zW];omega)) ?_;rw[z5,z5];obtain⟨X,hX⟩:∃X,(vX t p.x p.y+Rat.divInt 1 2).floor=X:=⟨_,rfl⟩;obtain⟨Vc,hY⟩:∃Vc,(vY t p.x p.y+Rat.divInt 1 2).floor=Vc:=⟨_,rfl⟩;have v:goP t p=⟨X,Vc⟩:=by unfold goP;rw[hX,hY]
 rw[hX,hY];have out:¬zm ⟨X,Vc⟩->ku t p=(zp,6):=λh=>by rw[ku,Xc j,Xc k,Xc (by rw[v];exact h)]
 have inn:zm ⟨X,Vc⟩->ku t p=(⟨X,Vc⟩,0):=λh=>by rw[ku,Xc j,Xc k,Xe (by rw[v];exact h),v]
 have big:zm ⟨X,Vc⟩->(-9223372036854775808<=X/\X<=9223372036854775807)/\(-9223372036854775808<=Vc/\Vc<=9223372036854775807):=λh=>by unfold zm at h;dsimp only at h;omega
 refine⟨λo=>?_,λo=>?_⟩
 .refine⟨λs=>?_,λs=>?_⟩
  .refine wg (qe ⟨ub X,ub Vc⟩) ?_;rw[ub,Xe o,ub,Xe s];refine⟨λu=>?_,λu=>?_⟩
   .exact g ⟨X,Vc⟩ 0 (inn u)
   exact g zp 6 (out u)
  exact g zp 6 (out λh=>s (big h).2)
 exact g zp 6 (out λh=>o (big h).1)
def ja(t:AF):LU->Int
 |[]=>0
 |p::r=>if (ku t p).2≠0 then(ku t p).2 else ja t r
def zah(t:AF)(s:Sg):Sg:=zlF s.v ((kE s).map λp=>(ku t p).1)
def trans(t:AF)(l:LX):LX×Int:=
 if¬qU l then([],10) else if ja t (qk l)≠0 then([],ja t (qk l)) else(l.map (zah t),0)
def jO(t:AF):∀q r:LU,ja t (q++r)=if ja t q≠0 then ja t q else ja t r
 |[],r=>by simp[ja]
 |p::q,r=>by
  rw[JK,ja,ja,jO t q r]
  by_cases h:(ku t p).2=0
  .simp[h]
  simp[h]
variable{q:LU}{p:Pt}
def vJ{t:AF}{k:Nat}(f:ja t (q.take k)=0)(g:q[k]?=some p):
  ((ku t p).2=0->ja t (q.take (k+1))=0)/\((ku t p).2≠0->ja t q=(ku t p).2):=by
 have e:q.take (k+1)=q.take k++[p]:=by rw[Xn,g];rfl
 have d:ja t (q.take (k+1))=(ku t p).2:=by
  rw[e,jO,f]
  by_cases h:(ku t p).2=0 <;> simp[ja,h]
 refine⟨λh=>by rw[d,h],λh=>?_⟩;have:=jO t (q.take (k+1)) (q.drop (k+1));rw[Ku,d,Xe h]at this;exact this
def zA2(s:Sg):(kE s).length<=3:=by
 unfold kE;have:=zeq s.v;simp only[Xp,Xm,Xo];omega
def zD7(l:LX)(t:AF)(ht:t.le 100000)(Q:l.length<=300):CX 176 [.sl sgE l,wo t] (.tup [.sl sgE (trans t l).1,i64 (trans t l).2]):=by
 refine zc func176 ?_
 have y:∀e:Int,trans t l=([],e)->LE (.tup [nS,i64 e]) (.tup [.sl sgE (trans t l).1,i64 (trans t l).2]):=λe h=>by
  rw[h];exact zP zD .refl
 refine wg (zkf l)<|⟨λG=>?_,λG=>?_⟩
 .exact y 10 (by rw[trans,Xe G])
 intro V
 refine⟨Nat×Option LX,λq=>match q with
   |(i,none)=>⟨[(19,i64 i),(18,i64 l.length),(17,.sl sgE l),(6,.val (.slice none 0 0)),(3,.loc 0 0)],[(0,.box 51 (afE t))],1,53,0⟩
   |(i,some out)=>⟨[(19,i64 i),(18,i64 l.length),(17,.sl sgE l),(6,.own 1),(3,.loc 0 0)],[(1,.arr 62 sgE 7 out),(0,.box 51 (afE t))],2,53,0⟩,
  λq=>match q with
   |(i,none)=>i=0
   |(i,some out)=>i<=l.length/\out=(l.take i).map (zah t)/\ja t (qk (l.take i))=0,λq=>l.length-q.1,(0,none),rfl,?_,?_⟩
 .exact zf [0]
 have errs:∀(i:Nat) (x:Sg) (p:Pt) (k:Nat),ja t (qk (l.take i))=0->l[i]?=some x->ja t ((kE x).take k)=0->(kE x)[k]?=some p->(ku t p).2≠0->trans t l=([],(ku t p).2):=by
  intro i x p k H o L n J;have R:=(vJ L n).2 J
  have T:ja t (qk l)=(ku t p).2:=by
   have U:=zhk o
   have:qk l=qk (l.take i)++(kE x++qk (l.drop (i+1))):=by
    conv=>lhs;rw[←Ku i l,U]
    simp[qk]
   rw[this,jO,H];simp only[ne_eq,not_true_eq_false,if_false];rw[jO,R,Xe J]
  rw[trans,Xc G,T,Xe J]
 have fin0:∀i x,ja t (qk (l.take i))=0->l[i]?=some x->ja t (kE x)=0->ja t (qk (l.take (i+1)))=0:=λi x H o L=>by
  rw[zjF o,jO,H];simpa using L
 rintro⟨i,_|out⟩ hI
 .have hI:i=0:=hI;subst hI;have f:ja t (qk (l.take 0))=0:=rfl;have K:0<=l.length:=Xh _;refine⟨λI=>?_,λI=>?_⟩
  .refine wb λx(o:l[0]?=some x)=>?_;refine wg (zrR x) λM=>?_
   refine⟨Nat×Option LU,λq=>match q with
     |(k,none)=>⟨[(26,i64 k),(25,i64 (kE x).length),(24,.sl ptE (kE x)),(9,.val (.slice none 0 0)),(8,.loc 1 0),(19,i64 (0:Nat)),(18,i64 l.length),(17,.sl sgE l),(6,.val (.slice none 0 0)),(3,.loc 0 0)],[(1,.box 62 (sgE x)),(0,.box 51 (afE t))],2,53,0⟩
     |(k,some to)=>⟨[(26,i64 k),(25,i64 (kE x).length),(24,.sl ptE (kE x)),(9,.own 2),(8,.loc 1 0),(19,i64 (0:Nat)),(18,i64 l.length),(17,.sl sgE l),(6,.val (.slice none 0 0)),(3,.loc 0 0)],[(2,.arr 28 ptE 2 to),(1,.box 62 (sgE x)),(0,.box 51 (afE t))],3,53,0⟩,
    λq=>match q with
     |(k,none)=>k=0
     |(k,some to)=>k<=(kE x).length/\to=((kE x).take k).map (λp=>(ku t p).1)/\ja t ((kE x).take k)=0,λq=>(kE x).length-q.1,(0,none),rfl,?_,?_⟩
   .exact zf [0,1]
   have P:=zA2 x
   rintro⟨k,_|to⟩ hK
   .have hK:k=0:=hK;subst hK;have d:ja t ((kE x).take 0)=0:=rfl;have E:0<=(kE x).length:=Xh _;refine⟨λB=>?_,λB=>?_⟩
    .refine wb λp(n:(kE x)[0]?=some p)=>?_;refine wg (zfo t p ht)<|⟨λg=>?_,λg=>?_⟩
     .exact y _ (errs 0 x p 0 f o d n g)
     have g:(ku t p).2=0:=XS g;have u:=(vJ d n).1 g;refine⟨Pt,ptE,[(ku t p).1],rfl,wb0 ?_⟩;refine⟨_,_,_,rfl,wb18 ?_⟩;refine Ar.fit dC ?_;refine⟨(1,some [(ku t p).1]),⟨oM,(by rw[Xn,n];rfl),u⟩,zf [0,1,5],oN⟩
    have A:kE x=[]:=XQ.1 oM;have s:zlF x.v []=zah t x:=by rw[zah,A];rfl
    have hall:=fin0 0 x f o (by rw[A];rfl);refine wg ((zpL x.v []).args (.C (.cons zD .nil))) ?_;rw[s];refine⟨Sg,sgE,[zah t x],rfl,wb0 ?_⟩;refine⟨_,_,_,rfl,wb19 ?_⟩;refine Ar.fit dC ?_;refine⟨(1,some [zah t x]),⟨oM,(by rw[Xn,o];rfl),hall⟩,(by first|exact zf [0,2]|exact zf [0,3]|exact zf [0,4]|exact zf [0,5]|exact zf [0,6]|exact zf [0,7]|exact zf [0,8]),oN⟩
   obtain⟨E,j,d⟩:=hK;refine⟨λB=>?_,λB=>?_⟩
   .refine wb λp(n:(kE x)[k]?=some p)=>?_;refine wg (zfo t p ht)<|⟨λg=>?_,λg=>?_⟩
    .exact y _ (errs 0 x p k f o d n g)
    have g:(ku t p).2=0:=XS g;have u:=(vJ d n).1 g;refine⟨Pt,ptE,[(ku t p).1],rfl,wb0 ?_⟩;have O:to.length=k:=by rw[j];simp;omega
    refine⟨_,rfl,wb20 ?_⟩;refine wa ?_;refine⟨(k+1,some (to++[(ku t p).1])),⟨oM,(by rw[Xn,n,j];simp),u⟩,zf [0,1,6],oN⟩
   have D:k=(kE x).length:=by omega
   subst D;rw[Kc]at j d;have s:zlF x.v to=zah t x:=by rw[zah,j]
   have hall:=fin0 0 x f o d;refine wg (zpL x.v to) ?_;rw[s];refine⟨Sg,sgE,[zah t x],rfl,wb0 ?_⟩;refine⟨_,_,_,rfl,wb19 ?_⟩;refine Ar.fit dC ?_;refine⟨(1,some [zah t x]),⟨oM,(by rw[Xn,o];rfl),hall⟩,(by first|exact zf [0,2]|exact zf [0,3]|exact zf [0,4]|exact zf [0,5]|exact zf [0,6]|exact zf [0,7]|exact zf [0,8]),oN⟩
  have z:0=l.length:=by omega
  have F:trans t l=(l.map (zah t),0):=by
   rw[z,Kc]at f;rw[trans,Xc G,f,Xc (λk=>k rfl)]
  exact y 0 (by rw[F,XQ.1 z.symm];rfl)
 obtain⟨K,hout,f⟩:=hI;refine⟨λI=>?_,λI=>?_⟩
 .refine wb λx(o:l[i]?=some x)=>?_;refine wg (zrR x) λM=>?_
  refine⟨Nat×Option LU,λq=>match q with
    |(k,none)=>⟨[(26,i64 k),(25,i64 (kE x).length),(24,.sl ptE (kE x)),(9,.val (.slice none 0 0)),(8,.loc 2 0),(19,i64 i),(18,i64 l.length),(17,.sl sgE l),(6,.own 1),(3,.loc 0 0)],[(2,.box 62 (sgE x)),(1,.arr 62 sgE 7 out),(0,.box 51 (afE t))],3,53,0⟩
    |(k,some to)=>⟨[(26,i64 k),(25,i64 (kE x).length),(24,.sl ptE (kE x)),(9,.own 3),(8,.loc 2 0),(19,i64 i),(18,i64 l.length),(17,.sl sgE l),(6,.own 1),(3,.loc 0 0)],[(3,.arr 28 ptE 2 to),(2,.box 62 (sgE x)),(1,.arr 62 sgE 7 out),(0,.box 51 (afE t))],4,53,0⟩,
   λq=>match q with
    |(k,none)=>k=0
    |(k,some to)=>k<=(kE x).length/\to=((kE x).take k).map (λp=>(ku t p).1)/\ja t ((kE x).take k)=0,λq=>(kE x).length-q.1,(0,none),rfl,?_,?_⟩
  .exact zf [0,1,2]
  have P:=zA2 x
  rintro⟨k,_|to⟩ hK
  .have hK:k=0:=hK;subst hK;have d:ja t ((kE x).take 0)=0:=rfl;have E:0<=(kE x).length:=Xh _;refine⟨λB=>?_,λB=>?_⟩
   .refine wb λp(n:(kE x)[0]?=some p)=>?_;refine wg (zfo t p ht)<|⟨λg=>?_,λg=>?_⟩
    .exact y _ (errs i x p 0 f o d n g)
    have g:(ku t p).2=0:=XS g;have u:=(vJ d n).1 g;refine⟨Pt,ptE,[(ku t p).1],rfl,wb0 ?_⟩;refine⟨_,_,_,rfl,wb18 ?_⟩;refine Ar.fit dC ?_;refine⟨(1,some [(ku t p).1]),⟨oM,(by rw[Xn,n];rfl),u⟩,zf [0,1,2,6],oN⟩
   have A:kE x=[]:=XQ.1 oM;have s:zlF x.v []=zah t x:=by rw[zah,A];rfl
   have hall:=fin0 i x f o (by rw[A];rfl);refine wg ((zpL x.v []).args (.C (.cons zD .nil))) ?_;rw[s];refine⟨Sg,sgE,[zah t x],rfl,wb0 ?_⟩;have N:out.length=i:=by rw[hout];simp;omega
   refine⟨_,rfl,wb21 ?_⟩;refine wa ?_;refine⟨(i+1,some (out++[zah t x])),⟨oM,(by rw[Xn,o,hout];simp),hall⟩,(by first|exact zf [0,2]|exact zf [0,3]|exact zf [0,4]|exact zf [0,5]|exact zf [0,6]|exact zf [0,7]|exact zf [0,8]),oN⟩
  obtain⟨E,j,d⟩:=hK;refine⟨λB=>?_,λB=>?_⟩
  .refine wb λp(n:(kE x)[k]?=some p)=>?_;refine wg (zfo t p ht)<|⟨λg=>?_,λg=>?_⟩
   .exact y _ (errs i x p k f o d n g)
   have g:(ku t p).2=0:=XS g;have u:=(vJ d n).1 g;refine⟨Pt,ptE,[(ku t p).1],rfl,wb0 ?_⟩;have O:to.length=k:=by rw[j];simp;omega
   refine⟨_,rfl,wb20 ?_⟩;refine wa ?_;refine⟨(k+1,some (to++[(ku t p).1])),⟨oM,(by rw[Xn,n,j];simp),u⟩,zf [0,1,2,7],oN⟩
  have D:k=(kE x).length:=by omega
  subst D;rw[Kc]at j d;have s:zlF x.v to=zah t x:=by rw[zah,j]
  have hall:=fin0 i x f o d;refine wg (zpL x.v to) ?_;rw[s];refine⟨Sg,sgE,[zah t x],rfl,wb0 ?_⟩;have N:out.length=i:=by rw[hout];simp;omega
  refine⟨_,rfl,wb21 ?_⟩;refine wa ?_;refine⟨(i+1,some (out++[zah t x])),⟨oM,(by rw[Xn,o,hout];simp),hall⟩,(by first|exact zf [0,2]|exact zf [0,3]|exact zf [0,4]|exact zf [0,5]|exact zf [0,6]|exact zf [0,7]|exact zf [0,8]),oN⟩
 have z:i=l.length:=by omega
 have F:trans t l=(l.map (zah t),0):=by
  rw[z,Kc]at f;rw[trans,Xc G,f,Xc (λk=>k rfl)]
 rw[z,Kc]at hout;rw[F,←hout];exact zP .refl .refl
def part(f:Pt->Pt)(j:Nat)(s:Sg):Sg:=⟨s.v,if 1<=j then f s.a else s.a,if 2<=j then f s.b else s.b,if 3<=j then f s.c else s.c⟩
def zfX(f:Pt->Pt)(s:Sg):Sg:=part f (nm s.v).toNat s
variable{l:LX}
def zA3(h:qU l):∀p∈qk l,zm p:=λp d=>by
 obtain⟨s,n,d⟩:=QO.1 d
 have f:zdP s:=by
  have e:=znW l;rw[←e]at n;obtain⟨g,t,j⟩:=JL.1 n;obtain⟨k,m,mid,_,_,o,_⟩:=zrS h g t;exact o s j
 have d:=XP d;simp only[XA,XW,or_false]at d
 rcases d with rfl|rfl|rfl
 .exact f.1.1
 .exact f.2.1.1
 exact f.2.2.1
def zA4(h:qU l){s:Sg}(f:s∈l):zdP s:=by
 have e:=znW l;rw[←e]at f;obtain⟨g,n,d⟩:=JL.1 f;obtain⟨k,m,mid,_,_,j,_⟩:=zrS h g n;exact j s d
def zv7{f:Pt->Pt->Pt}(e:∀p q,zm p->zm q->zm (f p q)):∀(q:LU) (p:Pt),zm p->(∀r∈q,zm r)->zm (q.foldl f p)
 |[],_,d,_=>d
 |a::q,p,d,h=>zv7 e q (f p a) (e p a d (h a (.head _))) λr g=>h r (.tail _ g)
def zA5{f:Pt->Pt->Pt}(d:∀p q,zm p->zm q->zm (f p q))(h:∀r∈q,zm r):zm (bnd f q):=by
 cases q with
 |nil=>exact zp_ok
 |cons a r=>exact zv7 d (a::r) a (h a (.head _)) h
def us(v:Int):Int:=max (nm v) 0
def zHi(f:Pt->Pt)(j:Nat)(s:Sg):(part f j s).v=s.v:=rfl
def zx0(f:Pt->Pt)(s:Sg):kE (zfX f s)=(kE s).map f:=by
 have d:=zeq s.v;have e:nm s.v<=0∨nm s.v=1∨nm s.v=2∨nm s.v=3:=oM;unfold kE zfX;rw[zHi]
 rcases e with e|e|e|e
 .rw[show(nm s.v).toNat=0 by omega];rfl
 .rw[show(nm s.v).toNat=1 by omega];rfl
 .rw[show(nm s.v).toNat=2 by omega];rfl
 rw[show(nm s.v).toNat=3 by omega];rfl
def zD8(f:Pt->Pt)(l:LX):qk (l.map (zfX f))=(qk l).map f:=by
 induction l with
 |nil=>rfl
 |cons s r g=>
  have d:qk ((s::r).map (zfX f))=kE (zfX f s)++qk (r.map (zfX f)):=rfl;have e:qk (s::r)=kE s++qk r:=rfl;rw[d,e,g,zx0,Xz]
def zpT(h:p∈q):((bnd mnP q).x<=p.x/\(bnd mnP q).y<=p.y)/\p.x<=(bnd mxP q).x/\p.y<=(bnd mxP q).y:=by
 cases q with
 |nil=>cases h
 |cons a r=>
  obtain⟨_,d,_⟩:=zvY (a::r) a;obtain⟨_,e,_⟩:=zvZ (a::r) a;exact⟨d p h,e p h⟩
def zlU:∀{l:LX} {last:Int},oks last l->∀s∈l,zdP s
 |[],_,_,s,d=>by cases d
 |a::r,last,h,s,d=>by
  rcases XA.1 d with rfl|d
  .exact(u7.1 h.1).2.2
  exact zlU h.2 s d
def zjL{lo hi:Pt}{l:LX}{tol:Int}(d:(zY l tol).2=0)(j:∀p∈qk l,inB lo hi p):
  qU l/\zfV tol/\jy (zY l tol).1<=4096/\∀q∈(zY l tol).1,q.pts≠[]/\jN q.pts/\∀z∈q.pts,inB lo hi z:=by
 unfold zY at d ⊢
 by_cases e:¬qU l
 .rw[Xe e]at d;exact absurd d dC
 rw[Xc e]at d ⊢
 by_cases g:¬zfV tol
 .rw[Xe g]at d;exact absurd d dC
 rw[Xc g]at d ⊢
 by_cases f:(jr l tol).2≠0
 .rw[Xe f]at d;exact absurd d f
 rw[Xc f]at d ⊢
 by_cases h:4096<jy (jr l tol).1
 .rw[Xe h]at d;exact absurd d dC
 rw[Xc h];have:=zlQ (tol:=tol) (zbh.1 (Xa.1 e)).2 j l.length (Xj _);rw[Kc]at this;exact⟨Xa.1 e,Xa.1 g,oN,(this (Xa.1 f)).2⟩
def uH(l:LZ):LQ:=(l.filter λp=>decide (3<=p.pts.length)).map Pl.pts
def yx(l:LX)(t:AF)(tol:Int):LQ×Int:=
 if (trans t l).2≠0 then([],(trans t l).2) else if (zY (trans t l).1 tol).2≠0 then([],(zY (trans t l).1 tol).2) else(uH (zY (trans t l).1 tol).1,0)
def zn3:∀l:LZ,qh (uH l)<=jy l
 |[]=>Xj _
 |p::r=>by
  have d:=zn3 r;have e:jy (p::r)=p.pts.length+jy r:=by unfold jy;simp
  unfold uH at d ⊢;rw[KF]
  split
  .have:qh ((p::r.filter λp=>decide (3<=p.pts.length)).map Pl.pts)=p.pts.length+qh ((r.filter λp=>decide (3<=p.pts.length)).map Pl.pts):=by unfold qh;simp
   omega
  omega
variable{r:LU}
def zx1{l:LZ}(h:r∈uH l):∃p∈l,p.pts=r:=by
 unfold uH at h;obtain⟨p,d,rfl⟩:=XK.1 h;exact⟨p,(QH.1 d).1,rfl⟩
def zur{lo hi:Pt}{l:LX}{t:AF}{tol:Int}(d:(yx l t tol).2=0)(h:∀p∈qk (trans t l).1,inB lo hi p):qh (yx l t tol).1<=4096/\∀r∈(yx l t tol).1,∀p∈r,inB lo hi p:=by
 unfold yx at d ⊢
 by_cases g:(trans t l).2≠0
 .rw[Xe g]at d;exact absurd d g
 rw[Xc g]at d ⊢
 by_cases e:(zY (trans t l).1 tol).2≠0
 .rw[Xe e]at d;exact absurd d e
 rw[Xc e];have f:=zjL (Xa.1 e) h;refine⟨XC (zn3 _) f.2.2.1,λr n p j=>?_⟩;obtain⟨q,k,rfl⟩:=zx1 n;exact(f.2.2.2 q k).2.2 p j
def zn4{a b w:Int}(n:0<=w)(h:2*(a.natAbs:Int)<=w*b.natAbs):((z8 a b).natAbs:Int)<=(w+1)/2:=by
 have e:=zeh a b;rw[e]
 by_cases g:b.natAbs=0
 .rw[g];simp;omega
 have d:(0:Int)<b.natAbs:=oM;generalize a.natAbs=A at*;generalize b.natAbs=B at*;rw[show(((2*A+B)/(2*B):Nat):Int)=(2*(A:Int)+B)/(2*B) by rw[Yp];simp];have j:(2*(A:Int)+B)/(2*B)<=(w*B+B)/(2*B):=Int.ediv_le_ediv oM oM;have f:(w*B+B:Int)=B*(w+1):=by grind
 have k:(w*B+B:Int)/(2*B)=(w+1)/2:=by
  rw[f,QR 2 (B:Int),Int.mul_ediv_mul_of_pos _ _ d]
 omega
def zhv(w:Int)(p:Pt):Prop:=(p.x.natAbs:Int)<=(w+1)/2/\(p.y.natAbs:Int)<=(w+1)/2
def zD9{x y:Int}(f:¬zbU x)(g:¬zbU y):256*(x.natAbs:Int)<=isq (65536*(x*x+y*y))/\256*(y.natAbs:Int)<=isq (65536*(x*x+y*y)):=by
 unfold zbU at f g;have h:=jG (A:=2097152) (B:=2097152) (a:=x) (b:=x) oM oM;have j:=jG (A:=2097152) (B:=2097152) (a:=y) (b:=y) oM oM;have k:=jn x;have n:=jn y;have d:(x.natAbs:Int)*x.natAbs=x*x:=Int.natAbs_mul_self' x;have e:(y.natAbs:Int)*y.natAbs=y*y:=Int.natAbs_mul_self' y;refine⟨zuh oM oM ?_,zuh oM oM ?_⟩
 .rw[show 256*(x.natAbs:Int)*(256*(x.natAbs:Int))=65536*((x.natAbs:Int)*x.natAbs) by grind,d];omega
 rw[show 256*(y.natAbs:Int)*(256*(y.natAbs:Int))=65536*((y.natAbs:Int)*y.natAbs) by grind,e];omega
def zhw(v:Pt){w:Int}(d:kq w):zhv w (z7 v w):=by
 unfold kq at d;unfold z7
 split
 .exact⟨by show((0:Int).natAbs:Int)<=_;simp;omega,by show((0:Int).natAbs:Int)<=_;simp;omega⟩
 rename_i h;rw[not_or,not_or,not_or]at h;have ab:=zD9 h.2.1 h.2.2.1;have hL:0<=isq (65536*(v.x*v.x+v.y*v.y)):=oM;generalize isq (65536*(v.x*v.x+v.y*v.y))=L at*;have eL:(L.natAbs:Int)=L:=JO hL;have wn:(w.natAbs:Int)=w:=JO oM;refine⟨zn4 oM ?_,zn4 oM ?_⟩
 .rw[QN,QN,Int.natAbs_neg,eL,Ke,Ke,wn];have:=JN ab.2 (show 0<=w by omega);rw[show 2*((v.y.natAbs:Int)*w*((128:Int).natAbs:Nat))=w*(256*(v.y.natAbs:Int)) by simp;grind];exact this
 rw[QN,QN,eL,Ke,Ke,wn];have:=JN ab.1 (show 0<=w by omega);rw[show 2*((v.x.natAbs:Int)*w*((128:Int).natAbs:Nat))=w*(256*(v.x.natAbs:Int)) by simp;grind];exact this
def zx2(h:q∈kS r):q=r:=by
 unfold kS at h;split at h
 .cases h
 exact Xt.1 h
end
section
variable{lo hi:Pt}{w m:Int}
end
def zr9{w:Int}{p:Pt}(h:zhv w p):zhv w (ziH p):=by unfold zhv ziH at*;dsimp only;omega
def zlV{a v b:Pt}{w:Int}(d:kq w):zhv w (qA a v b w).1/\zhv w (qA a v b w).2.1:=by
 have z:zhv w zp:=by unfold kq at d;exact⟨by show((0:Int).natAbs:Int)<=_;simp;omega,by show((0:Int).natAbs:Int)<=_;simp;omega⟩
 unfold qA
 split
 .exact⟨z,z⟩
 dsimp only
 split
 .exact⟨z,z⟩
 split
 .exact⟨zr9 (zhw _ d),zr9 (zhw _ d)⟩
 exact⟨zhw _ d,zhw _ d⟩
def zv8{l:LU}{i:Nat}(h:i<l.length):nth l i∈l:=by
 unfold nth;rw[Xs,Xb h];exact X5 h
def zgq{p:Pl}{z:Pt}(h:z∈(zw p).pts):z∈p.pts:=by
 unfold zw at h;dsimp only at h
 split at h
 .exact zfj (zr4 h)
 exact zfj h
def zA6{a b M:Int}(d:0<b)(g:0<=a)(h:a<=M*b):0<=z8 a b/\z8 a b<=M:=by
 obtain⟨Q,e⟩:∃Q:Nat,z8 a b=(Q:Int):=⟨_,by unfold z8;rw[Xe oM]⟩
 have hM:0<=M:=JJ.1 λk=>by
  have:=Int.mul_neg_of_neg_of_pos k d;omega
 have f:=zpJ (a:=a) (b:=b) (M:=M.toNat) oM (by
  have:((M.toNat*b.natAbs:Nat):Int)=M*b:=by rw[Ke,Qz hM,JO oM]
  omega)
 omega
def zA7{p:Pl}{z:Pt}(h:z∈zi p):z∈p.pts:=by
 unfold zi at h
 split at h
 .rename_i c
  rcases Xu.1 h with h|h
  .exact zgq h
  rw[Xt.1 h];exact zgq (zv8 oM)
 exact zgq h
def zsa{p:Pl}(h:(zi p).length<2):zM p=0:=by
 unfold zM;rw[show(zi p).length-1=0 by omega];rfl
end Go.Gs
