/- Points za vectors, square roots: plain. -/
import Derived.Test.YtakicgnbhdpknaaGreatDoorPAS
set_option maxRecDepth 100000
set_option maxHeartbeats 8000000
set_option linter.all false
namespace Go.Gs
open Proofs.Tryz
def hI(n:Int):Int:=kX n (-1048576) 1048576
def jA(p:Pt):Pt:=⟨hI p.x,hI p.y⟩
def qn(n:Int): -1048576<=hI n/\hI n<=1048576:=by unfold hI kX;split <;> (try split) <;> omega
def zbZ{n:Int}(h: -1048576<=n/\n<=1048576):hI n=n:=(zed dC).2 h
def ju(p:Pt):zm (jA p):=⟨qn _,qn _⟩
def zab{p:Pt}(h:zm p):jA p=p:=by
 cases p;unfold jA;rw[zbZ h.1,zbZ h.2]
def zw(p q:Pt):Pt:=⟨p.x+q.x,p.y+q.y⟩
def zo(p q:Pt):Pt:=⟨p.x-q.x,p.y-q.y⟩
def addP(p q:Pt):Pt:=zw (jA p) (jA q)
def zac(p q:Pt):Pt:=zo (jA p) (jA q)
def perpP(p:Pt):Pt:=⟨-hI p.y,hI p.x⟩
def wdg(p q:Pt):Int:=p.x*q.y-p.y*q.x
def dtp(p q:Pt):Int:=p.x*q.x+p.y*q.y
def zaS(p q:Pt):Int:=wdg (jA p) (jA q)
def zjF(p q:Pt):Int:=dtp (jA p) (jA q)
def sgn(n:Int):Int:=if n<0 then-1 else if 0<n then 1 else 0
def zxb(n:Int):kX n (-1) 1=sgn n:=by unfold kX sgn;split <;> (try split) <;> (try split) <;> omega
def jB{a b A B:Int}(n: -A<=a/\a<=A)(o: -B<=b/\b<=B): -(A*B)<=a*b/\a*b<=A*B:=by
 have h:=XI (show 0<=A-a by omega) (show 0<=B-b by omega);have j:=XI (show 0<=A-a by omega) (show 0<=B+b by omega);have k:=XI (show 0<=A+a by omega) (show 0<=B-b by omega);have m:=XI (show 0<=A+a by omega) (show 0<=B+b by omega);have c:(A-a)*(B-b)=A*B-A*b-a*B+a*b:=by grind
 have d:(A-a)*(B+b)=A*B+A*b-a*B-a*b:=by grind
 have e:(A+a)*(B-b)=A*B-A*b+a*B-a*b:=by grind
 have g:(A+a)*(B+b)=A*B+A*b+a*B+a*b:=by grind
 omega
def ze4{p q:Pt}(a:zm p)(c:zm q): -2199023255552<=dtp p q/\dtp p q<=2199023255552/\(-1099511627776<=p.x*q.x/\p.x*q.x<=1099511627776)/\(-1099511627776<=p.y*q.y/\p.y*q.y<=1099511627776):=by
 have d:=jB a.1 c.1;have e:=jB a.2 c.2;unfold dtp;omega
def zcv{p q:Pt}(a:zm p)(c:zm q): -2199023255552<=wdg p q/\wdg p q<=2199023255552/\(-1099511627776<=p.x*q.y/\p.x*q.y<=1099511627776)/\(-1099511627776<=p.y*q.x/\p.y*q.x<=1099511627776):=by
 have d:=jB a.1 c.2;have e:=jB a.2 c.1;unfold wdg;omega
def jf(x:Int):0<=x*x:=by
 rcases Jp 0 x with h|h
 .exact XI h h
 have:=XI (show 0<= -x by omega) (show 0<= -x by omega)
 rwa [Int.neg_mul_neg]at this
def sqL(n:Int):Nat->Int->Int
 |0,s=>s
 |k+1,s=>sqL n k (if (s+2^k)*(s+2^k)<=n then s+2^k else s)
def isq(n:Int):Int:=sqL n 32 0
def zlf(n:Int):∀(k:Nat) (s:Int),0<=s->s*s<=n->n<(s+2^k)*(s+2^k)->0<=sqL n k s/\sqL n k s*sqL n k s<=n/\n<(sqL n k s+1)*(sqL n k s+1)
 |0,s,a,c,d=>by simp only[sqL];exact⟨a,c,by simpa using d⟩
 |k+1,s,a,c,d=>by
  have g:(0:Int)<2^k:=Int.pow_pos dC;have e:(2:Int)^(k+1)=2^k+2^k:=by rw[Int.pow_succ];omega
  simp only[sqL]
  split
  .rename_i h;refine zlf n k _ oM h ?_;rw[e]at d
   rwa [YM]
  rename_i h;exact zlf n k _ a c oM
def zg2{n:Int}(a:0<=n)(h:n<18446744073709551616):0<=isq n/\isq n*isq n<=n/\n<(isq n+1)*(isq n+1):=
 zlf n 32 0 dC (by simpa using a) (by simpa using h)
def zzW{n:Int}(c:0<=n)(h:n<18446744073709551616):isq n<4294967296:=by
 have d:=zg2 c h;refine Int.not_le.1 λa=>?_
 have:=JZ a a dC d.1;omega
def sq_le{a b:Int}(d:0<=b)(h:a*a<=b*b):a<=b:=by
 refine JF.1 λg=>?_
 have c:=JZ (show b+1<=a by omega) (show b+1<=a by omega) oM oM;have e:(b+1)*(b+1)=b*b+2*b+1:=by grind
 omega
def ztM{n a:Int}(c:0<=n)(h:n<18446744073709551616)(d:a*a<=n):a<=isq n:=by
 have g:=zg2 c h;have:a<=isq n+1:=sq_le oM oM
 by_cases e:a=isq n+1
 .subst e;omega
 omega
def zrk(p:Pt):Int:=isq (65536*zjF p p)
def zee(a b:Int):Int:=(2*a+b)/(2*b)
def uK(a b:Pt)(n d:Int):Pt:=
 if d<1∨1099511627776<d then jA a
 else⟨hI a.x+z8 (kX n 0 d*(hI b.x-hI a.x)) d,hI a.y+z8 (kX n 0 d*(hI b.y-hI a.y)) d⟩
def zpi(r:LU):Prop:=(r.length:Int)<=4096/\∀p∈r,zm p
instance (r:LU):Decidable (zpi r):=wi
def vh(r:LU)(n:Nat):Int:=((List.range n).map λi=>zaS (r.getD i zp) (r.getD ((i+1)%r.length) zp)).sum
def zcw(r:LU):Int:=if zpi r then vh r r.length else 0
def zvj(r:LU):LU:=match r with
 |[]=>[]
 |p::q=>p::q.reverse
def kH(r:LU):LU:=if zcw r=0 then[] else if zcw r<0 then zvj r else r
def zf4(r:LU)(n:Nat):vh r (n+1)=vh r n+zaS (r.getD n zp) (r.getD ((n+1)%r.length) zp):=by
 unfold vh;rw[KC,XA,QT];simp
def zjk(r:LU)(n:Nat): -(2199023255552*(n:Int))<=vh r n/\vh r n<=2199023255552*(n:Int):=by
 induction n with
 |zero=>exact⟨by show _<=(0:Int);decide,by show(0:Int)<=_;decide⟩
 |succ n a=>
  rw[zf4];have:=zcv (ju (r.getD n zp)) (ju (r.getD ((n+1)%r.length) zp));unfold zaS;omega
def ztN(r:LU):(kH r).length=0∨(kH r).length=r.length:=by
 unfold kH
 split
 .exact .inl rfl
 split
 .right;unfold zvj;split <;> simp
 exact .inr rfl
def kq(w:Int):Prop:=1<=w/\w<=16384
instance (w:Int):Decidable (kq w):=wi
def zbP(n:Int):Prop:=n < -2097152∨2097152<n
instance (n:Int):Decidable (zbP n):=wj
def z7(v:Pt)(w:Int):Pt:=
 if¬kq w∨zbP v.x∨zbP v.y∨v=zp then zp
 else⟨z8 (-v.y*w*128) (isq (65536*(v.x*v.x+v.y*v.y))),z8 (v.x*w*128) (isq (65536*(v.x*v.x+v.y*v.y)))⟩
def jX(a b:Pt)(w:Int):LU:=
 if¬(kq w/\zm a/\zm b) then[]
 else kH [zo a (z7 (zo b a) w),zo b (z7 (zo b a) w),zw b (z7 (zo b a) w),zw a (z7 (zo b a) w)]
def yg:LU:=[⟨16384,0⟩,⟨15137,6270⟩,⟨11585,11585⟩,⟨6270,15137⟩,⟨0,16384⟩,⟨-6270,15137⟩,⟨-11585,11585⟩,⟨-15137,6270⟩,
 ⟨-16384,0⟩,⟨-15137,-6270⟩,⟨-11585,-11585⟩,⟨-6270,-15137⟩,⟨0,-16384⟩,⟨6270,-15137⟩,⟨11585,-11585⟩,⟨15137,-6270⟩]
def vX(p:Pt)(w:Int):LU:=
 if¬(kq w/\zm p) then[] else kH (yg.map λq=>zw p ⟨z8 (q.x*w) 32768,z8 (q.y*w) 32768⟩)
def zlg(a b:Pt)(w:Int):LU:=
 if¬(kq w/\zm a/\zm b) then[]
 else
  let n:=z7 (zo b a) w
  let e:Pt:=⟨n.y,-n.x⟩
  kH [zo b n,zw (zo b n) e,zw (zw b n) e,zw b n]
def zef(p:Pt)(w:Int):LU:=
 if¬(kq w/\zm p) then[]
 else kH [⟨p.x-z8 w 2,p.y-z8 w 2⟩,⟨p.x+z8 w 2,p.y-z8 w 2⟩,⟨p.x+z8 w 2,p.y+z8 w 2⟩,⟨p.x-z8 w 2,p.y+z8 w 2⟩]
structure Pen where
 w:Int
 j:Int
 c:Int
 m:Int
 d:LV
 ph:Int
def uB(l:LV):Prop:=(∀n∈l,0<=n/\n<=1048576)/\(l=[]∨∃n∈l,0<n)/\l.length%2=0/\(l.length:Int)<=16
instance (l:LV):Decidable (uB l):=wi
def kE(p:Pen):Prop:=kq p.w/\(p.j=1∨p.j=2∨p.j=3)/\(p.c=3∨p.c=4∨p.c=5)/\(256<=p.m/\p.m<=65536)/\uB p.d/\(0<=p.ph/\p.ph<=1048576)
instance (p:Pen):Decidable (kE p):=wi
def u1(n m:Pt)(w lim:Int):Pt×Bool:=
 if¬(zm n/\zm m/\kq w/\256<=lim/\lim<=65536) then(zp,false)
 else
  let s:=zw n m
  let q:=s.x*s.x+s.y*s.y
  if q=0∨lim*lim*q<256*w*(256*w) then(zp,false) else(⟨z8 (s.x*w*w) (2*q),z8 (s.y*w*w) (2*q)⟩,true)
def zim(p:Pt):Pt:=⟨-p.x,-p.y⟩
def qx(a v b:Pt)(w:Int):Pt×Pt×Bool:=
 if¬(zm a/\zm v/\zm b/\kq w) then(zp,zp,false)
 else
  let x:=zo v a
  let y:=zo b v
  if wdg x y=0 then(zp,zp,false) else if 0<wdg x y then(zim (z7 x w),zim (z7 y w),true) else(z7 x w,z7 y w,true)
def kO(r:LU):LQ:=if r=[] then[] else[r]
def jc(a v b:Pt)(p:Pen):LQ:=
 if¬(kE p/\zm a/\zm v/\zm b/\¬v=a/\¬v=b) then[]
 else if p.j=3 then kO (vX v p.w)
 else if (qx a v b p.w).2.2=false then[]
 else
  let n:=(qx a v b p.w).1
  let m:=(qx a v b p.w).2.1
  kO (kH (if p.j=1/\(u1 n m p.w p.m).2=true then[v,zw v n,zw v (u1 n m p.w p.m).1,zw v m] else[v,zw v n,zw v m]))
open Go.Proofs
section
structure Sg where
 v:Int
 a:Pt
 b:Pt
 c:Pt
 deriving DecidableEq
def sgE(s:Sg):LR:=[i64 s.v,i64 s.a.x,i64 s.a.y,i64 s.b.x,i64 s.b.y,i64 s.c.x,i64 s.c.y]
def nm(v:Int):Int:=if v=1 then 1 else if v=2 then 1 else if v=3 then 2 else if v=4 then 3 else if v=5 then 0 else-1
def c_named(v:Int):CX 304 [i64 v] (i64 (nm v)):=by
 refine zc func304<|Br.mk (λe=>?_) (λe=>?_)
 .exact Ar.fit dC<|Ar.fit dC<|Ar.fit dC<|ze (by rw[e];rfl)
 refine⟨λd=>?_,λd=>?_⟩
 .exact Ar.fit dC<|Ar.fit dC<|ze (by rw[d];rfl)
 refine⟨λa=>?_,λa=>?_⟩
 .refine⟨λ_=>?_,λh=>absurd a h⟩;exact Ar.fit dC<|ze (by rw[a];rfl)
 refine⟨λc=>?_,λc=>?_⟩
 .exact Ar.fit dC<|ze (by rw[c];rfl)
 refine⟨λg=>?_,λg=>?_⟩
 .exact ze (by rw[g];rfl)
 exact ze (by unfold nm;rw[Xc a,Xc c,Xc d,Xc e,Xc g])
def pk(n i:Int)(p:Pt):Prop:=zm p/\(n<=i->p=zp)
instance (n i:Int) (p:Pt):Decidable (pk n i p):=wi
def zdI(s:Sg):Prop:=pk (nm s.v) 0 s.a/\pk (nm s.v) 1 s.b/\pk (nm s.v) 2 s.c
instance (s:Sg):Decidable (zdI s):=wi
def zrl{s:Sg}:zdI s↔∀(j:Nat) x,[s.a,s.b,s.c][j]?=some x->pk (nm s.v) j x:=by
 constructor
 .rintro⟨e,g,k⟩ j x d
  match j,d with
  |0,d=>cases d;exact e
  |1,d=>cases d;exact g
  |2,d=>cases d;exact k
 exact λh=>⟨h 0 _ rfl,h 1 _ rfl,h 2 _ rfl⟩
def ztO(s:Sg):CX 332 [.agg (sgE s)] (pr (zdI s)):=by
 refine zc func332<|⟨Pt,ptE,[s.a,s.b,s.c],rfl,wb0 ?_⟩;intro _
 refine⟨Nat,λi=>⟨[(13,i64 i),(12,i64 3),(11,.own 1),(1,.loc 0 0)],[(1,.arr 28 ptE 2 [s.a,s.b,s.c]),(0,.box 108 (sgE s))],2,34,0⟩,
  λi=>i<=3/\∀(j:Nat) x,j<i->[s.a,s.b,s.c][j]?=some x->pk (nm s.v) j x,λi=>3-i,0,?_,?_,?_⟩
 .exact⟨oM,λj x r=>by omega⟩
 .exact zf [0,1]
 rintro i ⟨t,p⟩
 refine⟨λm=>?_,λm=>?_⟩
 .have m:i<3:=by omega
  refine Ob.mk ⟨oM,by show(i:Int)<3;omega⟩<|Ob.mk ⟨oM,by show(i:Int)<3;omega⟩ λx(k:[s.a,s.b,s.c][i]?=some x)=>?_;refine wg (qa x) ?_;have out:¬pk (nm s.v) i x->¬zdI s:=λh q=>h (zrl.1 q i x k)
  refine⟨λd=>zd (out λh=>d h.1),λd=>?_⟩;have d:=Xa.1 d;refine wg (c_named s.v) ?_
  have next:pk (nm s.v) i x->(i+1<=3/\∀(j:Nat) x,j<i+1->[s.a,s.b,s.c][j]?=some x->pk (nm s.v) j x):=λh=>⟨oM,λj y r o=>by
   by_cases e:j=i
   .subst e;rw[k]at o;cases o;exact h
   exact p j y oM o⟩
  refine⟨λn=>?_,λn=>?_⟩
  .refine⟨λg=>zd (out λh=>g (qm.2 (h.2 n))),λg=>?_⟩;have g:x=zp:=qm.1 (Xa.1 g);exact wa<|⟨i+1,next ⟨d,λ_=>g⟩,zf [0,1],oN⟩
  exact wa<|⟨i+1,next ⟨d,λh=>absurd h n⟩,zf [0,1],oN⟩
 refine zH (zrl.2 λj x k=>p j x ?_ k);have:=(Xd.1 k).1;have m:¬((i:Int)<3):=m;simp at this;omega
def zcc(last v:Int):Prop:=v=1∨(last≠5/\(v≠5∨last≠1))
instance (last v:Int):Decidable (zcc last v):=wj
def jS(last:Int)(s:Sg):Int:=if nm s.v<0 then 2 else if¬zcc last s.v then 10 else if¬zdI s then 6 else 0
def chk(last:Int)(i:Nat):List Sg->Int×Int
 |[]=>(0,0)
 |s::r=>if jS last s≠0 then(jS last s,i) else chk s.v (i+1) r
def zaz(l:List Sg):Int×Int:=if 256<l.length then(5,256) else chk 5 0 l
def valid(l:List Sg):Prop:=(zaz l).1=0
instance (l:List Sg):Decidable (valid l):=inferInstanceAs (Decidable (_=_))
variable{i:Nat}
def zg3{α:Type}{l:List α}{x:α}(h:l[i]?=some x):l.drop i=x::l.drop (i+1):=by
 obtain⟨c,a⟩:=Xd.1 h;rw[K6 c,a]
def twoI(c:Int×Int):SV:=.tup [i64 c.1,i64 c.2]
def zC9(l:List Sg):CX 263 [.sl sgE l] (twoI (zaz l)):=by
 refine zc func263 ?_;have fin:∀{a b:Int},zaz l=(a,b)->LE (.tup [i64 a,i64 b]) (twoI (zaz l)):=λh=>by rw[h];exact .refl
 intro y;refine⟨λh=>fin (by unfold zaz;rw[Xe oM]),λh=>?_⟩;have t:zaz l=chk 5 0 l:=by unfold zaz;rw[Xc oM]
 intro u;refine⟨Nat×Int,λq=>⟨[(13,i64 q.1),(12,i64 l.length),(11,.sl sgE l),(4,i64 q.2)],[],0,52,0⟩,λq=>q.1<=l.length/\chk 5 0 l=chk q.2 q.1 (l.drop q.1),λq=>l.length-q.1,(0,5),?_,?_,?_⟩
 .exact⟨Xh _,rfl⟩
 .exact zC []
 rintro⟨i,last⟩ ⟨s,g⟩
 have s:i<=l.length:=s;have g:chk 5 0 l=chk last i (l.drop i):=g;refine⟨λm:(i:Int)<l.length=>?_,λm=>?_⟩
 .refine Ob.mk ⟨oN,m⟩ λx(w:l[i]?=some x)=>?_;rw[zg3 w]at g
  have bad:∀{e:Int},jS last x=e->e≠0->zaz l=(e,(i:Int)):=λh p=>by
   rw[t,g];unfold chk;rw[Xe (by rw[h];exact p),h]
  have good:jS last x=0->(i+1,x.v).1<=l.length/\chk 5 0 l=chk (i+1,x.v).2 (i+1,x.v).1 (l.drop (i+1,x.v).1):=λh=>⟨by show i+1<=_;omega,by
   show _=chk x.v (i+1) _;rw[g];conv=>lhs;unfold chk
   rw[Xc (λp=>p h)]⟩
  refine⟨λn=>?_,λn=>?_⟩
  .have st:zcc last x.v:=.inl n;refine wg (c_named x.v)<|⟨λc=>fin (bad (by unfold jS;rw[Xe c]) dC),λc=>?_⟩;refine wg (ztO x)<|⟨λd=>fin (bad (by unfold jS;rw[Xc c,Xc (λh=>h st),Xe d]) dC),λd=>?_⟩;exact Ar.fit oN<|⟨(i+1,x.v),good (by unfold jS;rw[Xc c,Xc (λh=>h st),Xc d]),zC [],by show l.length-(i+1)<l.length-i;omega⟩
  refine⟨λo=>?_,λo=>?_⟩
  .refine⟨λj=>?_,λj=>?_⟩
   .have st:zcc last x.v:=.inr ⟨o,.inl j⟩;refine wg (c_named x.v)<|⟨λc=>fin (bad (by unfold jS;rw[Xe c]) dC),λc=>?_⟩;refine wg (ztO x)<|⟨λd=>fin (bad (by unfold jS;rw[Xc c,Xc (λh=>h st),Xe d]) dC),λd=>?_⟩;exact Ar.fit oN<|⟨(i+1,x.v),good (by unfold jS;rw[Xc c,Xc (λh=>h st),Xc d]),zC [],by show l.length-(i+1)<l.length-i;omega⟩
   refine wg (c_named x.v)<|⟨λc=>fin (bad (by unfold jS;rw[Xe c]) dC),λc=>?_⟩;have j:=Xa.1 j
   have r:¬last≠1->¬zcc last x.v:=λk st=>by
    rcases st with st|⟨_,st|st⟩
    .exact n st
    .exact st j
    exact k st
   refine⟨λk=>fin (bad (by unfold jS;rw[Xc c,Xe (r k)]) dC),λk=>?_⟩;have st:zcc last x.v:=.inr ⟨o,.inr (Xa.1 k)⟩;refine wg (ztO x)<|⟨λd=>fin (bad (by unfold jS;rw[Xc c,Xc (λh=>h st),Xe d]) dC),λd=>?_⟩;exact Ar.fit oN<|⟨(i+1,x.v),good (by unfold jS;rw[Xc c,Xc (λh=>h st),Xc d]),zC [],by show l.length-(i+1)<l.length-i;omega⟩
  refine wg (c_named x.v)<|⟨λc=>fin (bad (by unfold jS;rw[Xe c]) dC),λc=>?_⟩
  have r:¬zcc last x.v:=λst=>by
   rcases st with st|⟨st,_⟩
   .exact n st
   exact o st
  exact fin (bad (by unfold jS;rw[Xc c,Xe r]) dC)
 refine fin (t.trans (g.trans ?_));rw[KD (by have m:¬(i:Int)<l.length:=m;omega)];rfl
def zjU(l:List Sg):CX 186 [.sl sgE l] (pr (valid l)):=by
 exact zc func186<|wg (zC9 l)<|zB Qj
def zrm(v:Int):CX 220 [i64 v] (i64 (nm v)):=by
 refine zc func220<|Br.mk (λa=>?_) (λa=>?_)
 .refine⟨λ_=>?_,λh=>absurd a h⟩;exact ze (by rw[a];rfl)
 refine⟨λc=>ze (by rw[c];rfl),λc=>?_⟩;refine⟨λd=>ze (by rw[d];rfl),λd=>?_⟩;refine⟨λe=>ze (by rw[e];rfl),λe=>?_⟩;refine⟨λg=>ze (by rw[g];rfl),λg=>?_⟩;exact ze (by unfold nm;rw[Xc a,Xc c,Xc d,Xc e,Xc g])
def zvk(s:Sg):CX 219 [.agg (sgE s)] (.agg (ptE s.a++ptE s.b++ptE s.c)):=by
 exact zc func219<|.refl
def zeg(l:List Sg)(i:Nat):Int:=if i=0 then 5 else(l[i-1]?.map Sg.v).getD 0
def zxc(l:List Sg)(i:Nat)(x:Sg)(j:l[i]?=some x)(n:l.length<=256):CX 341 [.sl sgE l,i64 i] (pr (zcc (zeg l i) x.v)):=by
 refine zc func341 ?_;have hi:i<l.length:=(Xd.1 j).1;refine⟨λm=>?_,λm=>?_⟩
 .have k:i=0:=by omega
  subst k;refine wb5 λy(a:l[0]?=some y)=>?_;rw[j]at a;cases a
  refine zB ⟨λh=>.inl h,λh=>?_⟩
  rcases h with h|⟨h,_⟩
  .exact h
  exact absurd rfl h
 refine wa<|wb5 λy a=>?_;have a:l[i-1]?=some y:=by rw[←a];congr 1;omega
 have hlast:zeg l i=y.v:=by unfold zeg;rw[Xc oM,a];rfl
 rw[hlast];refine⟨λe=>?_,λe=>?_⟩
 .refine wb5 λz(d:l[i]?=some z)=>?_;rw[j]at d;cases d
  refine zB ⟨λh=>.inl h,λh=>?_⟩
  rcases h with h|⟨h,_⟩
  .exact h
  exact absurd e h
 refine wb5 λz(d:l[i]?=some z)=>?_;rw[j]at d;cases d
 refine⟨λc=>?_,λc=>?_⟩
 .exact zH (.inr ⟨e,.inl c⟩)
 refine wa<|wb5 λu g=>?_;have g:l[i-1]?=some u:=by rw[←g];congr 1;omega
 rw[a]at g;cases g
 refine zB ⟨λh=>.inr ⟨e,.inr h⟩,λh=>?_⟩;have c:x.v=5:=Xa.1 c
 rcases h with h|⟨_,h|h⟩
 .omega
 .exact absurd c h
 exact h
def zDa(l:List Sg)(i:Nat)(x:Sg)(q:l[i]?=some x)(w:l.length<=256):CX 279 [.sl sgE l,i64 i] (i64 (jS (zeg l i) x)):=by
 refine zc func279 ?_;have hi:i<l.length:=(Xd.1 q).1;refine wb5 λy(n:l[i]?=some y)=>?_;rw[q]at n;cases n
 refine wg (zrm x.v)<|⟨λm=>ze (by unfold jS;rw[Xe m]),λm=>?_⟩;refine wg (zxc l i x q w)<|⟨λp=>ze (by unfold jS;rw[Xc m,Xe p]),λp=>?_⟩;refine wb5 λy(n:l[i]?=some y)=>?_;rw[q]at n;cases n
 refine wg (zvk x) ?_;have bad:¬zdI x->LE (i64 6) (i64 (jS (zeg l i) x)):=λh=>ze (by unfold jS;rw[Xc m,Xc p,Xe h])
 have A:0<=nm x.v:=oM;have zOK:zm zp:=dC
 refine⟨Nat,λk=>⟨[(7,i64 k),(5,i64 (nm x.v)),(6,.loc 0 0)],[(0,.box 241 (ptE x.a++ptE x.b++ptE x.c))],1,51,0⟩,
  λk=>k<=3/\(1<=k->pk (nm x.v) 0 x.a)/\(2<=k->pk (nm x.v) 1 x.b)/\(3<=k->pk (nm x.v) 2 x.c),λk=>3-k,0,?_,?_,?_⟩
 .exact⟨oM,λh=>by omega,λh=>by omega,λh=>by omega⟩
 .exact zf [0]
 rintro k ⟨B,o,s,z⟩
 refine⟨λr:(k:Int)<3=>?_,λr=>?_⟩
 .have u:k=0∨k=1∨k=2:=oM
  rcases u with rfl|rfl|rfl
  .refine⟨λj=>?_,λj=>?_⟩
   .refine wg (ki x.a)<|⟨λe=>bad (λh=>e h.1.1),λe=>?_⟩;have e:zm x.a:=Xa.1 e;refine⟨λg=>absurd g oM,λg=>?_⟩;exact wa<|⟨1,⟨oM,λ_=>⟨e,λh=>absurd h oM⟩,λh=>by omega,λh=>by omega⟩,zf [0],oN⟩
   refine⟨λg=>?_,λg=>absurd g oM⟩;refine⟨λd=>bad (λh=>d (qm.2 (h.1.2 oM))),λd=>?_⟩;have d:x.a=zp:=qm.1 (Xa.1 d);exact wa<|⟨1,⟨oM,λ_=>⟨d ▸ zOK,λ_=>d⟩,λh=>by omega,λh=>by omega⟩,zf [0],oN⟩
  .refine⟨λj=>?_,λj=>?_⟩
   .refine wg (ki x.b)<|⟨λe=>bad (λh=>e h.2.1.1),λe=>?_⟩;have e:zm x.b:=Xa.1 e;refine⟨λg=>absurd g oM,λg=>?_⟩;exact wa<|⟨2,⟨oM,λ_=>o oM,λ_=>⟨e,λh=>absurd h oM⟩,λh=>by omega⟩,zf [0],oN⟩
   refine⟨λg=>?_,λg=>absurd g oM⟩;refine⟨λd=>bad (λh=>d (qm.2 (h.2.1.2 oM))),λd=>?_⟩;have d:x.b=zp:=qm.1 (Xa.1 d);exact wa<|⟨2,⟨oM,λ_=>o oM,λ_=>⟨d ▸ zOK,λ_=>d⟩,λh=>by omega⟩,zf [0],oN⟩
  refine⟨λj=>?_,λj=>?_⟩
  .refine wg (ki x.c)<|⟨λe=>bad (λh=>e h.2.2.1),λe=>?_⟩;have e:zm x.c:=Xa.1 e;refine⟨λg=>absurd g oM,λg=>?_⟩;exact wa<|⟨3,⟨oM,λ_=>o oM,λ_=>s oM,λ_=>⟨e,λh=>absurd h oM⟩⟩,zf [0],oN⟩
  refine⟨λg=>?_,λg=>absurd g oM⟩;refine⟨λd=>bad (λh=>d (qm.2 (h.2.2.2 oM))),λd=>?_⟩;have d:x.c=zp:=qm.1 (Xa.1 d);exact wa<|⟨3,⟨oM,λ_=>o oM,λ_=>s oM,λ_=>⟨d ▸ zOK,λ_=>d⟩⟩,zf [0],oN⟩
 have t:k=3:=by have r:¬(k:Int)<3:=r;omega
 subst t;exact ze (by unfold jS;rw[Xc m,Xc p,Xc (λh=>h ⟨o oM,s oM,z oM⟩)])
variable{l:List Sg}{x:Sg}
def zrn(h:l[i]?=some x):zeg l (i+1)=x.v:=by
 unfold zeg;rw[Xc oM,QA,h];rfl
def zzX(l:List Sg):CX 203 [.sl sgE l] (twoI (zaz l)):=by
 refine zc func203 ?_;have fin:∀{a b:Int},zaz l=(a,b)->LE (.tup [i64 a,i64 b]) (twoI (zaz l)):=λh=>by rw[h];exact .refl
 intro n;refine⟨λh=>fin (by unfold zaz;rw[Xe oM]),λh=>?_⟩;have g:zaz l=chk 5 0 l:=by unfold zaz;rw[Xc oM]
 refine⟨Nat,λi=>⟨[(4,i64 i),(0,.sl sgE l)],[],0,22,0⟩,λi=>i<=l.length/\chk 5 0 l=chk (zeg l i) i (l.drop i),λi=>l.length-i,0,?_,?_,?_⟩
 .exact⟨Xh _,rfl⟩
 .exact zC []
 rintro i ⟨m,c⟩
 intro k;refine⟨λj=>?_,λj=>?_⟩
 .have d:=Xb (show i<l.length by omega);generalize l[i]'oM=x at d;rw[zg3 d]at c;refine wg (zDa l i x d oM)<|⟨λe=>fin ?_,λe=>?_⟩
  .rw[g,c];unfold chk;rw[Xe e]
  refine wa<|⟨i+1,⟨oM,?_⟩,zC [],oN⟩;rw[c,zrn d];conv=>lhs;unfold chk
  rw[Xc e]
 refine fin (g.trans (c.trans ?_));rw[KD oM];rfl
def zg4(l:List Sg):CX 135 [.sl sgE l] (pr (valid l)):=by
 exact zc func135<|wg (zzX l)<|zB Qj
def zeh(v:Int): -1<=nm v/\nm v<=3:=by unfold nm;split <;> (try split) <;> (try split) <;> (try split) <;> (try split) <;> omega
def kD(s:Sg):LU:=[s.a,s.b,s.c].take (nm s.v).toNat
def zro(s:Sg):CX 243 [.agg (sgE s)] (.sl ptE (kD s)):=by
 refine zc func243<|⟨Pt,ptE,[s.a,s.b,s.c],rfl,wb0 ?_⟩;refine wg (c_named s.v) ?_;have d:=zeh s.v;refine Sl.see (Ob.mk ⟨dC,by show 0<=max (nm s.v) 0;omega,by show max (nm s.v) 0<=3;omega,K9 _⟩ ?_);refine z6 ?_;show([s.a,s.b,s.c].drop 0).take (max (nm s.v) 0-0).toNat=_;unfold kD;rw[Qc];congr 1;omega
def qh(l:List Sg):LU:=l.flatMap kD
def mnP(p q:Pt):Pt:=⟨min p.x q.x,min p.y q.y⟩
def mxP(p q:Pt):Pt:=⟨max p.x q.x,max p.y q.y⟩
def bnd(f:Pt->Pt->Pt)(q:LU):Pt:=q.foldl f (q.headD zp)
variable{f:Pt->Pt->Pt}
def zxd(p:Pt):bnd f ([]++[p])=f p p:=rfl
def zzY{q:LU}(h:q≠[])(p:Pt):bnd f (q++[p])=f (bnd f q) p:=by
 cases q with
 |nil=>exact absurd rfl h
 |cons a r=>simp[bnd,KT]
def zjl(h:l[i]?=some x):qh (l.take (i+1))=qh (l.take i)++kD x:=by
 unfold qh;rw[Xm,h];simp[Qy]
def zin(h:valid l):l.length<=256:=by
 unfold valid zaz at h
 by_cases e:256<l.length
 .rw[Xe e]at h;cases h
 omega
def zF9{s:Sg}{k:Nat}(h:(k:Int)<nm s.v):(kD s)[k]?=[s.a,s.b,s.c][k]? :=by
 unfold kD;rw[XK,Xe oM]
def zGa{r m a:Nat}(h:r=2^(m+1)*a)(g:r<4294967296)(c:m<=31):vr .or .u64 (r:Int) (1*2^(m:Int).toNat)=((r+2^m:Nat):Int):=by
 have d:2^m<=2^31:=XJ dC c;have e:(1*2^(m:Int).toNat:Int)=((2^m:Nat):Int):=by rw[Yb];simp
 rw[e,zkZ oM oM];have:=Qi (i:=m+1) (b:=2^m) (Nat.pow_lt_pow_right dC oM) a;rw[h,←this]
def zzZ(n:Int)(B:0<=n/\n<=18446744073709551615):CX 373 [u64 n] (u64 (isq n)):=by
 refine zc func373 ?_
 refine⟨Int×Nat,λz=>⟨[(0,u64 n),(3,u64 (z.2:Int)),(4,i64 z.1)],[],0,21,0⟩,λz=> -1<=z.1/\z.1<=31/\(∃a,z.2=2^(z.1+1).toNat*a)/\z.2+2^(z.1+1).toNat<=4294967296/\sqL n (z.1+1).toNat z.2=isq n,
  λz=>(z.1+1).toNat,(31,0),⟨dC,dC,⟨0,rfl⟩,dC,rfl⟩,zC [],?_⟩
 rintro⟨j,r⟩ ⟨t,u,⟨a,d⟩,q,c⟩
 dsimp only at t u d q c;refine⟨λg:0<=j=>?_,λg:¬0<=j=>?_⟩
 .obtain⟨m,rfl⟩:∃m:Nat,j=m:=⟨j.toNat,oM⟩;have e:((m:Int)+1).toNat=m+1:=oM;rw[e]at d q c;have s:m<=31:=oM;have C:2^m<=2147483648:=XJ (n:=2) dC s;have v:0<2^m:=Qa dC;have o:2^(m+1)=2*2^m:=by rw[X1];omega
  have ee:(1*2^(m:Int).toNat:Int)=((2^m:Nat):Int):=by rw[Yb];simp
  have w:(r+2^m)*(r+2^m)<=18446744065119617025:=XB (QB (show r+2^m<=4294967295 by omega) (show r+2^m<=4294967295 by omega)) dC
  have A:sqL n (m+1) r=sqL n m (if ((r+2^m:Nat):Int)*((r+2^m:Nat):Int)<=n then((r+2^m:Nat):Int) else r):=by
   have:((r+2^m:Nat):Int)=(r:Int)+2^m:=by simp
   rw[this];rfl
  rw[A]at c;have em:((m:Int)-1+1).toNat=m:=oM;refine Ob.mk (by show(0:Int)<=m/\(m:Int)<64;omega)<|Ar.fit (by rw[ee];omega)<|⟨((r+2^m:Nat):Int),(zGa d oM s).symm,?_⟩;have y:((r+2^m:Nat):Int)*((r+2^m:Nat):Int)<=18446744065119617025:=by have h:=JW.mpr w;rw[Kb]at h;exact h
  have p:0<=((r+2^m:Nat):Int)*((r+2^m:Nat):Int):=XI oM oM;refine Ar.fit ⟨p,oM⟩<|⟨λk=>?_,λk=>?_⟩
  .refine wa ?_;rw[Xe k]at c;refine⟨((m:Int)-1,r+2^m),⟨oN,oN,⟨2*a+1,?_⟩,?_,?_⟩,zC [],oN⟩
   .dsimp only;rw[em,d,o];grind
   .dsimp only;rw[em];omega
   dsimp only;rw[em];exact c
  refine wa ?_;rw[Xc k]at c;refine⟨((m:Int)-1,r),⟨oN,oN,⟨2*a,?_⟩,?_,?_⟩,zC [],oN⟩
  .dsimp only;rw[em,d,o];grind
  .dsimp only;rw[em];omega
  dsimp only;rw[em];exact c
 have e:(j+1).toNat=0:=oM;rw[e]at c;exact ze c
def zvl(n:Int)(y:0<=n/\n<=18446744073709551615):CX 405 [u64 n] (u64 (isq n)):=by
 refine zc func405 ?_
 refine⟨Int×Nat,λz=>⟨[(0,u64 n),(3,u64 (z.2:Int)),(4,i64 z.1)],[],0,22,0⟩,λz=> -1<=z.1/\z.1<=31/\z.2+2^(z.1+1).toNat<=4294967296/\sqL n (z.1+1).toNat z.2=isq n,
  λz=>(z.1+1).toNat,(31,0),⟨dC,dC,dC,rfl⟩,zC [],?_⟩
 rintro⟨j,r⟩ ⟨o,p,d,a⟩
 dsimp only at o p d a;refine⟨λg:0<=j=>?_,λg:¬0<=j=>?_⟩
 .obtain⟨m,rfl⟩:∃m:Nat,j=m:=⟨j.toNat,oM⟩;have e:((m:Int)+1).toNat=m+1:=oM;rw[e]at d a;have q:m<=31:=oM;have A:2^m<=2147483648:=XJ (n:=2) dC q;have s:0<2^m:=Qa dC;have t:2^(m+1)=2*2^m:=by rw[X1];omega
  have ee:(1*2^(m:Int).toNat:Int)=((2^m:Nat):Int):=by rw[Yb];simp
  have u:(r+2^m)*(r+2^m)<=18446744065119617025:=XB (QB (show r+2^m<=4294967295 by omega) (show r+2^m<=4294967295 by omega)) dC
  have w:sqL n (m+1) r=sqL n m (if ((r+2^m:Nat):Int)*((r+2^m:Nat):Int)<=n then((r+2^m:Nat):Int) else r):=by
   have:((r+2^m:Nat):Int)=(r:Int)+2^m:=by simp
   rw[this];rfl
  rw[w]at a;have em:((m:Int)-1+1).toNat=m:=oM;refine wa<|Ob.mk (by show(0:Int)<=m/\(m:Int)<64;omega)<|Ar.fit (by rw[ee];omega) ?_;change Ar _ _ _;rw[ee,show(r:Int)+((2^m:Nat):Int)=((r+2^m:Nat):Int) by omega];refine wa ?_;have v:((r+2^m:Nat):Int)*((r+2^m:Nat):Int)<=18446744065119617025:=by have h:=JW.mpr u;rw[Kb]at h;exact h
  have c:0<=((r+2^m:Nat):Int)*((r+2^m:Nat):Int):=XI oM oM;refine Ar.fit ⟨c,oM⟩<|⟨λk=>?_,λk=>?_⟩
  .refine wa ?_;rw[Xe k]at a;refine⟨((m:Int)-1,r+2^m),⟨oN,oN,?_,?_⟩,zC [],oN⟩
   .dsimp only;rw[em];omega
   dsimp only;rw[em];exact a
  refine wa ?_;rw[Xc k]at a;refine⟨((m:Int)-1,r),⟨oN,oN,?_,?_⟩,zC [],oN⟩
  .dsimp only;rw[em];omega
  dsimp only;rw[em];exact a
 have e:(j+1).toNat=0:=oM;rw[e]at a;exact ze a
def zc6(p:Pt):CX 111 [wk p] (wk (jA p)):=zzV p
def zlh(n lo hi:Int):CX 348 [i64 n,i64 lo,i64 hi] (i64 (kX n lo hi)):=by
 refine zc func348<|Br.mk (λh=>?_) (λh=>?_)
 .exact ze (by simp[kX,h])
 refine⟨λa=>?_,λa=>?_⟩
 .exact ze (by simp[kX,h,a])
 exact ze (by simp[kX,h,a])
def zc7(p:Pt):CX 347 [wk p] (wk (jA p)):=by
 exact zc func347<|wc<|wg (zlh p.x _ _)<|wg (zlh p.y _ _)<|.refl
def zz0(p q:Pt):CX 168 [wk p,wk q] (wk (zac p q)):=by
 have a:=qn p.x;have c:=qn p.y;have d:=qn q.x;have e:=qn q.y;refine zc func168<|wc<|wg (zc6 p)<|wg (zc6 q) ?_;unfold jA;exact Ar.fit oN<|Ar.fit oN<|.refl
def znr(p q:Pt):CX 324 [wk p,wk q] (wk (zac p q)):=by
 have a:=qn p.x;have c:=qn p.y;have d:=qn q.x;have e:=qn q.y;refine zc func324<|wc<|wg (zc7 p)<|wg (zc7 q) ?_;unfold jA;exact Ar.fit oN<|Ar.fit oN<|.refl
def zz1(p q:Pt):CX 462 [wk p,wk q] (wk (addP p q)):=by
 have a:=qn p.x;have c:=qn p.y;have d:=qn q.x;have e:=qn q.y;refine zc func462<|wc<|wg (zc7 p)<|wg (zc7 q) ?_;unfold jA;exact Ar.fit oN<|Ar.fit oN<|.refl
def zGb(p:Pt):CX 489 [wk p] (wk (perpP p)):=by
 have a:=qn p.y;refine zc func489<|wg (zc6 p) ?_;unfold jA;exact Ar.fit oN<|.refl
def zz2(p q:Pt)(a:zm p)(c:zm q):CX 167 [wk p,wk q] (i64 (wdg p q)):=by
 have h:=zcv a c;unfold wdg at h;refine zc func167 ?_;(iterate 3 refine wa ?_);exact .refl
def zDb(p q:Pt)(a:zm p)(c:zm q):CX 323 [wk p,wk q] (i64 (wdg p q)):=by
 have h:=zcv a c;unfold wdg at h;refine zc func323 ?_;(iterate 3 refine wa ?_);exact .refl
def zGc(p q:Pt)(a:zm p)(c:zm q):CX 431 [wk p,wk q] (i64 (dtp p q)):=by
 have h:=ze4 a c;unfold dtp at h;refine zc func431 ?_;(iterate 3 refine wa ?_);exact .refl
def zDc(p q:Pt):CX 492 [wk p,wk q] (i64 (zaS p q)):=by
 exact zc func492<|wc<|wg (zc6 p)<|wg (zc6 q)<|wg (zz2 (jA p) (jA q) (ju p) (ju q))<|.refl
def zDd(p q:Pt):CX 494 [wk p,wk q] (i64 (zaS p q)):=by
 exact zc func494<|wc<|wg (zc7 p)<|wg (zc7 q)<|wg (zDb (jA p) (jA q) (ju p) (ju q))<|.refl
def p_dot(p q:Pt):CX 374 [wk p,wk q] (i64 (zjF p q)):=by
 exact zc func374<|wc<|wg (zc6 p)<|wg (zc6 q)<|wg (zGc (jA p) (jA q) (ju p) (ju q))<|.refl
def r_dot(p q:Pt):CX 406 [wk p,wk q] (i64 (zjF p q)):=by
 have h:=ze4 (ju p) (ju q);unfold dtp at h;refine zc func406<|wc<|wg (zc7 p)<|wg (zc7 q) ?_;(iterate 3 refine wa ?_);exact .refl
def zli(p:Pt):0<=zjF p p/\zjF p p<=2199023255552:=by
 have h:=ze4 (ju p) (ju p);have a:=jf (jA p).x;have c:=jf (jA p).y;unfold zjF;unfold dtp at*;omega
def zio(p:Pt):0<=zrk p/\zrk p<4294967296:=by
 have h:=zli p;exact⟨(zg2 oM oM).1,zzW oM oM⟩
def zz3(p:Pt):CX 314 [wk p] (i64 (zrk p)):=by
 have h:=zli p;have a:=zio p;unfold zrk at a;refine zc func314<|wg (p_dot p p) ?_;(iterate 2 refine wa ?_);exact wg (zzZ (65536*zjF p p) oM)<|wa<|.refl
def zz4(p:Pt):CX 346 [wk p] (i64 (zrk p)):=by
 have h:=zli p;have a:=zio p;unfold zrk at a;refine zc func346<|wg (r_dot p p) ?_;(iterate 2 refine wa ?_);exact wg (zvl (65536*zjF p p) oM)<|wa<|.refl
def zpj{a b:Int}{M:Nat}(c:b≠0)(h:a.natAbs<=M*b.natAbs): -(M:Int)<=z8 a b/\z8 a b<=M:=by
 have e:=zd8 a b
 have:(2*a.natAbs+b.natAbs)/(2*b.natAbs)<M+1:=by
  rw[X0 oM];have:(M+1)*(2*b.natAbs)=2*(M*b.natAbs)+2*b.natAbs:=by grind
  omega
 omega
variable{b:Int}
def zns:z8 0 b=0:=by
 have e:=zd8 0 b
 have:(2*(0:Int).natAbs+b.natAbs)/(2*b.natAbs)=0:=by
  by_cases h:b.natAbs=0
  .rw[h];rfl
  exact Ko (by show 0+b.natAbs<_;omega)
 omega
def u3{a b:Int}{M:Nat}(h:a.natAbs<=M): -(M:Int)<=z8 a b/\z8 a b<=M:=by
 by_cases c:b=0
 .subst c;have e:=zd8 a 0;rw[show(2*(0:Int).natAbs)=0 by rfl,Nat.div_zero]at e;omega
 refine zpj c (XB h ?_);exact QM _ oM
def uL{a:Int}(h: -4611686018427387904<=a/\a<=4611686018427387904):y7 (z8 a b)=z8 a b:=by
 have:=u3 (a:=a) (b:=b) (M:=4611686018427387904) oM;unfold y7;rw[Xe oM]
def zg5{n d:Int}(h:1<=d):0<=kX n 0 d/\kX n 0 d<=d:=by unfold kX;split <;> (try split) <;> omega
def ziq{n d f t:Int}(h:1<=d/\d<=1099511627776)(k:0<=n/\n<=d)(j: -1048576<=f/\f<=1048576)(ht: -1048576<=t/\t<=1048576):
  (-2305843009213693952<=n*(t-f)/\n*(t-f)<=2305843009213693952)/\(-2097152<=z8 (n*(t-f)) d/\z8 (n*(t-f)) d<=2097152)/\y7 (z8 (n*(t-f)) d)=z8 (n*(t-f)) d:=by
 have e:=jB (A:=d) (B:=2097152) (a:=n) (b:=t-f) oM oM;have c:(n*(t-f)).natAbs<=2097152*d.natAbs:=oM;have g:=zpj (M:=2097152) oM c;exact⟨oM,oM,uL oM⟩
def zvm(f t n d:Int)(a:1<=d/\d<=1099511627776)(e:0<=n/\n<=d)(c: -1048576<=f/\f<=1048576)(ht: -1048576<=t/\t<=1048576):
  CX 432 [i64 f,i64 t,.ptr [i64 n],.ptr [i64 d]] (i64 (f+z8 (n*(t-f)) d)):=by
 have h:=ziq a e c ht;refine zc func432 ?_;(iterate 2 refine wa ?_);refine wg (uZ (n*(t-f)) d ⟨oM,oM⟩ ⟨oM,oM⟩) ?_;rw[h.2.2];exact wa<|.refl
def zz5(a b:Pt)(n d:Int):CX 375 [wk a,wk b,i64 n,i64 d] (wk (uK a b n d)):=by
 have j:=qn a.x;have k:=qn a.y;have m:=qn b.x;have o:=qn b.y;refine zc func375<|wc<|wg (zc6 a)<|wg (zc6 b)<|⟨λg=>?_,λg=>?_⟩
 .unfold uK;rw[Xe (.inl g)];exact .refl
 refine⟨λc=>?_,λc=>?_⟩
 .unfold uK;rw[Xe (.inr c)];exact .refl
 have g:¬(d<1∨1099511627776<d):=λh=>h.elim g c
 have e:=zg5 (n:=n) (d:=d) oM;refine wg (zph n 0 d)<|wc<|wg (zvm (hI a.x) (hI b.x) (kX n 0 d) d oM e j m)<|wg (zvm (hI a.y) (hI b.y) (kX n 0 d) d oM e k o) ?_;unfold uK;rw[Xc g];exact .refl
def zz6(a b:Pt)(n d:Int):CX 294 [wk a,wk b,i64 n,i64 d] (wk (uK a b n d)):=by
 have j:=qn a.x;have k:=qn a.y;have m:=qn b.x;have o:=qn b.y;refine zc func294<|wg (zc7 a)<|⟨λg=>?_,λg=>?_⟩
 .unfold uK;rw[Xe (.inl g)];exact .refl
 refine⟨λc=>?_,λc=>?_⟩
 .unfold uK;rw[Xe (.inr c)];exact .refl
 have g:¬(d<1∨1099511627776<d):=λh=>h.elim g c
 have e:=zg5 (n:=n) (d:=d) oM;have p:=ziq oM e j m;have q:=ziq oM e k o;refine wg (znr b a)<|wg (zlh n 0 d)<|wc<|Ar.fit (by show _<=kX n 0 d*(hI b.x-hI a.x)/\kX n 0 d*(hI b.x-hI a.x)<=_;omega)<|wg (ug (kX n 0 d*(hI b.x-hI a.x)) d ⟨oM,oM⟩ ⟨oM,oM⟩) ?_;rw[p.2.2];refine Ar.fit (by show _<=hI a.x+z8 (kX n 0 d*(hI b.x-hI a.x)) d/\hI a.x+z8 (kX n 0 d*(hI b.x-hI a.x)) d<=_;omega)<|Ar.fit (by show _<=kX n 0 d*(hI b.y-hI a.y)/\kX n 0 d*(hI b.y-hI a.y)<=_;omega) ?_
 refine wg (ug (kX n 0 d*(hI b.y-hI a.y)) d ⟨oM,oM⟩ ⟨oM,oM⟩) ?_;rw[q.2.2];refine Ar.fit (by show _<=hI a.y+z8 (kX n 0 d*(hI b.y-hI a.y)) d/\hI a.y+z8 (kX n 0 d*(hI b.y-hI a.y)) d<=_;omega) ?_;unfold uK;rw[Xc g];exact .refl
def zad(w:Int):CX 311 [i64 w] (pr (kq w)):=by
 refine zc func311<|Br.mk (λh=>?_) (λh=>zd (λk=>h k.1));exact zB ⟨λk=>⟨h,k⟩,λk=>k.2⟩
def zE3(n:Int):CX 490 [i64 n] (pr (zbP n)):=by
 refine zc func490<|Br.mk (λh=>zH (.inl h)) (λh=>?_);exact zB ⟨λk=>.inr k,λk=>k.resolve_left h⟩
def zaA(n a b:Int):CX 226 [i64 n,i64 a,i64 b] (pr (a<=n/\n<=b)):=by
 refine zc func226<|Br.mk (λh=>?_) (λh=>zd (λk=>h k.1));exact zB ⟨λk=>⟨h,k⟩,λk=>k.2⟩
def zpk(w:Int):CX 225 [i64 w] (pr (kq w)):=by
 exact zc func225<|wg (zaA w 1 16384)<|zB Qj
def zvn(a b:Pt)(w:Int):CX 455 [wk a,wk b,i64 w] (pr (kq w/\zm a/\zm b)):=by
 refine zc func455<|wg (ki a)<|⟨λc=>?_,λc=>zd (λh=>c h.2.1)⟩;refine wg (ki b)<|⟨λd=>?_,λd=>zd (λh=>d h.2.2)⟩;exact wg (zpk w)<|zB ⟨λh=>⟨h,c,d⟩,λh=>h.1⟩
def zei(out:List (List Sg))(s:Sg):List (List Sg):=if s.v=1 then out++[[s]] else out.dropLast++[out.getLastD []++[s]]
def subs(l:List Sg):List (List Sg):=l.foldl zei []
def zlj(v:Int)(q:LU):Sg:=⟨v,q.getD 0 zp,q.getD 1 zp,q.getD 2 zp⟩
def gid(i:Nat)(x:LR)(a:[[SV.loc 1 1],[.loc 1 3],[.loc 1 5]][i]?=some x):ren.rens [(0,some 0),(1,some 1),(2,some 2)] x=some x:=by
 match i,a with
 |0,a=>cases a;rfl
 |1,a=>cases a;rfl
 |2,a=>cases a;rfl
def zpl(v:Int)(q:LU):CX 245 [i64 v,.sl ptE q] (.agg (sgE (zlj v q))):=by
 refine zc func245 ?_
 refine⟨[[.loc 1 1],[.loc 1 3],[.loc 1 5]],rfl,Ob.mk ⟨rfl,dC,dC,dC,λx a=>by
  simp only[XH,XV,or_false]at a
  rcases a with rfl|rfl|rfl <;> rfl⟩ ?_⟩
 intro _
 refine⟨Nat,λi=>⟨[(15,i64 i),(14,i64 3),(13,.own 2),(5,.loc 1 0),(4,.loc 0 0),(1,.sl ptE q)],
  [(2,.garr 323 1 [[.loc 1 1],[.loc 1 3],[.loc 1 5]]),(1,.box 108 (sgE ⟨v,if 1<=i then q.getD 0 zp else zp,if 2<=i then q.getD 1 zp else zp,if 3<=i then q.getD 2 zp else zp⟩)),(0,.box 108 (sgE ⟨0,zp,zp,zp⟩))],3,32,0⟩,
  λi=>i<=3,λi=>3-i,0,dC,zt [0,1,2] ⟨⟨_,rfl,rfl,λi x a=>?_⟩,rfl,rfl,tV⟩,?_⟩
 .exact⟨x,a,gid i x a⟩
 rintro i hi
 have hi:i<=3:=hi;have e:i=0∨i=1∨i=2∨i=3:=oM
 rcases e with rfl|rfl|rfl|rfl
 .refine we<|Ob.mk ⟨dC,by show(0:Int)<((3:Nat):Int);decide⟩<|Ob.mk ⟨dC,by show(0:Int)<((3:Nat):Int);decide⟩ λy d=>?_;have d:some [SV.loc 1 1]=some y:=d
  cases d
  intro _;refine⟨λg=>?_,λg:¬((0:Nat):Int)<q.length=>?_⟩
  .refine Ob.mk ⟨dC,g⟩ λx(a:q[0]?=some x)=>?_;have c:q.getD 0 zp=x:=by rw[Xr,a];rfl
   exact Ar.fit dC<|⟨1,dC,zt [0,1,2] ⟨⟨_,rfl,rfl,λi x a=>⟨x,a,gid i x a⟩⟩,Xg (λp=>some (Mem.box 108 (sgE ⟨v,p,zp,zp⟩))) c.symm,rfl,tV⟩,dC⟩
  have c:q.getD 0 zp=zp:=by rw[Xr,XG oM];rfl
  exact Ar.fit dC<|⟨1,dC,zt [0,1,2] ⟨⟨_,rfl,rfl,λi x a=>⟨x,a,gid i x a⟩⟩,Xg (λp=>some (Mem.box 108 (sgE ⟨v,p,zp,zp⟩))) c.symm,rfl,tV⟩,dC⟩
 .refine we<|Ob.mk ⟨dC,by show(1:Int)<((3:Nat):Int);decide⟩<|Ob.mk ⟨dC,by show(1:Int)<((3:Nat):Int);decide⟩ λy d=>?_;have d:some [SV.loc 1 3]=some y:=d
  cases d
  intro _;refine⟨λg=>?_,λg:¬((1:Nat):Int)<q.length=>?_⟩
  .refine Ob.mk ⟨dC,g⟩ λx(a:q[1]?=some x)=>?_;have c:q.getD 1 zp=x:=by rw[Xr,a];rfl
   exact Ar.fit dC<|⟨2,dC,zt [0,1,2] ⟨⟨_,rfl,rfl,λi x a=>⟨x,a,gid i x a⟩⟩,Xg (λp=>some (Mem.box 108 (sgE ⟨v,q.getD 0 zp,p,zp⟩))) c.symm,rfl,tV⟩,dC⟩
  have c:q.getD 1 zp=zp:=by rw[Xr,XG oM];rfl
  exact Ar.fit dC<|⟨2,dC,zt [0,1,2] ⟨⟨_,rfl,rfl,λi x a=>⟨x,a,gid i x a⟩⟩,Xg (λp=>some (Mem.box 108 (sgE ⟨v,q.getD 0 zp,p,zp⟩))) c.symm,rfl,tV⟩,dC⟩
 .refine we<|Ob.mk ⟨dC,by show(2:Int)<((3:Nat):Int);decide⟩<|Ob.mk ⟨dC,by show(2:Int)<((3:Nat):Int);decide⟩ λy d=>?_;have d:some [SV.loc 1 5]=some y:=d
  cases d
  intro _;refine⟨λg=>?_,λg:¬((2:Nat):Int)<q.length=>?_⟩
  .refine Ob.mk ⟨dC,g⟩ λx(a:q[2]?=some x)=>?_;have c:q.getD 2 zp=x:=by rw[Xr,a];rfl
   exact Ar.fit dC<|⟨3,dC,zt [0,1,2] ⟨⟨_,rfl,rfl,λi x a=>⟨x,a,gid i x a⟩⟩,Xg (λp=>some (Mem.box 108 (sgE ⟨v,q.getD 0 zp,q.getD 1 zp,p⟩))) c.symm,rfl,tV⟩,dC⟩
  have c:q.getD 2 zp=zp:=by rw[Xr,XG oM];rfl
  exact Ar.fit dC<|⟨3,dC,zt [0,1,2] ⟨⟨_,rfl,rfl,λi x a=>⟨x,a,gid i x a⟩⟩,Xg (λp=>some (Mem.box 108 (sgE ⟨v,q.getD 0 zp,q.getD 1 zp,p⟩))) c.symm,rfl,tV⟩,dC⟩
 refine⟨λh=>absurd h dC,λ_=>?_⟩;exact .refl
def ztP:Sg:=⟨5,zp,zp,zp⟩
def oks:Int->List Sg->Prop
 |_,[]=>True
 |last,s::r=>jS last s=0/\oks s.v r
def zvo:∀{l:List Sg} {last:Int} {i:Nat},(chk last i l).1=0↔oks last l
 |[],_,_=>by simp[chk,oks]
 |s::r,last,i=>by
  unfold chk oks
  by_cases h:jS last s=0
  .rw[Xc (λa=>a h),zvo];exact⟨λk=>⟨h,k⟩,λk=>k.2⟩
  rw[Xe h];exact⟨λk=>absurd k h,λk=>absurd k.1 h⟩
def zbe:valid l↔l.length<=256/\oks 5 l:=by
 unfold valid zaz
 by_cases h:256<l.length
 .rw[Xe h];exact⟨λk=>absurd k dC,λk=>absurd h oM⟩
 rw[Xc h,zvo];exact⟨λk=>⟨oM,k⟩,λk=>k.2⟩
variable{last:Int}
def u4{s:Sg}:jS last s=0↔0<=nm s.v/\zcc last s.v/\zdI s:=by
 unfold jS
 by_cases d:nm s.v<0
 .rw[Xe d];exact⟨λh=>absurd h dC,λh=>by omega⟩
 rw[Xc d]
 by_cases a:zcc last s.v
 .rw[Xc (λh=>h a)]
  by_cases c:zdI s
  .rw[Xc (λh=>h c)];exact⟨λ_=>⟨oM,a,c⟩,λ_=>rfl⟩
  rw[Xe c];exact⟨λh=>absurd h dC,λh=>absurd h.2.2 c⟩
 rw[Xe a];exact⟨λh=>absurd h dC,λh=>absurd h.2.1 a⟩
def znt{v:Int}(h:0<=nm v):v=1∨v=2∨v=3∨v=4∨v=5:=by
 unfold nm at h
 by_cases a:v=1
 .exact .inl a
 rw[Xc a]at h
 by_cases c:v=2
 .exact .inr (.inl c)
 rw[Xc c]at h
 by_cases d:v=3
 .exact .inr (.inr (.inl d))
 rw[Xc d]at h
 by_cases e:v=4
 .exact .inr (.inr (.inr (.inl e)))
 rw[Xc e]at h
 by_cases g:v=5
 .exact .inr (.inr (.inr (.inr g)))
 rw[Xc g]at h;omega
def midV(s:Sg):Prop:=s.v=2∨s.v=3∨s.v=4
def Grp(g:List Sg)(last:Int):Prop:=
 ∃m mid,m.v=1/\(∀s∈mid,midV s)/\(∀s∈g,zdI s)/\
  ((g=m::mid/\last≠5/\(mid=[]->last=1))∨∃c,g=m::mid++[c]/\c.v=5/\last=5/\mid≠[])
def zz7{g:List Sg}(h:Grp g last)(z:jS last x=0)(p:x.v≠1):Grp (g++[x]) x.v:=by
 obtain⟨u,w,y⟩:=u4.1 z;obtain⟨m,mid,j,k,q,r⟩:=h;have a:last≠5/\(x.v≠5∨last≠1):=w.resolve_left p
 have o:∀s∈g++[x],zdI s:=λs a=>by
  rcases Xt.1 a with a|a
  .exact q s a
  simp at a;subst a;exact y
 obtain⟨rfl,n,t⟩|⟨c,_,_,n,_⟩:=r
 .by_cases d:x.v=5
  .exact⟨m,mid,j,k,o,.inr ⟨x,rfl,d,d,λe=>(a.2.resolve_left (λh=>h d)) (t e)⟩⟩
  refine⟨m,mid++[x],j,λs a=>?_,o,.inl ⟨rfl,d,λe=>by simp at e⟩⟩
  rcases Xt.1 a with a|a
  .exact k s a
  simp at a;subst a
  rcases znt u with h|h|h|h|h
  .exact absurd h p
  .exact .inl h
  .exact .inr (.inl h)
  .exact .inr (.inr h)
  exact absurd h d
 exact absurd n a.1
def znu(d:jS last x=0)(c:x.v=1):Grp [x] x.v:=
 ⟨x,[],c,λs a=>(by cases a),λs a=>by simp at a;subst a;exact(u4.1 d).2.2,.inl ⟨rfl,oM,λ_=>c⟩⟩
def InvS(S:List (List Sg))(last:Int):Prop:=(S=[]/\last=5)∨∃cl g,S=cl++[g]/\Grp g last/\∀h∈cl,∃k,Grp h k
def zz8{S:List (List Sg)}(h:InvS S last)(d:jS last x=0):InvS (zei S x) x.v:=by
 unfold zei
 by_cases c:x.v=1
 .rw[Xe c]
  obtain⟨rfl,rfl⟩|⟨cl,g,rfl,e,j⟩:=h
  .exact .inr ⟨[],[x],rfl,znu d c,λh a=>by cases a⟩
  refine .inr ⟨cl++[g],[x],rfl,znu d c,λh a=>?_⟩
  rcases Xt.1 a with a|a
  .exact j h a
  simp at a;subst a;exact⟨_,e⟩
 rw[Xc c]
 obtain⟨rfl,rfl⟩|⟨cl,g,rfl,e,j⟩:=h
 .exact absurd ((u4.1 d).2.1.resolve_left c).1 (λh=>h rfl)
 exact .inr ⟨cl,g++[x],sI,zz7 e d c,j⟩
def zvp:∀(r:List Sg) {S:List (List Sg)} {last:Int},InvS S last->oks last r->∃k,InvS (r.foldl zei S) k
 |[],_,last,h,_=>⟨last,h⟩
 |_::r,_,_,h,a=>zvp r (zz8 h a.1) a.2
def zrp(h:valid l):∀g∈subs l,∃k,Grp g k:=by
 obtain⟨k,j⟩:=zvp l (S:=[]) (last:=5) (.inl ⟨rfl,rfl⟩) (zbe.1 h).2;intro g a;have a:g∈l.foldl zei []:=a
 obtain⟨e,_⟩|⟨cl,m,e,c,d⟩:=j
 .rw[e]at a;cases a
 rw[e]at a
 rcases Xt.1 a with a|a
 .exact d g a
 simp at a;subst a;exact⟨_,c⟩
def zrq(S:List (List Sg))(x:Sg):(zei S x).flatten=S.flatten++[x]:=by
 unfold zei
 by_cases a:x.v=1
 .rw[Xe a];simp
 rw[Xc a]
 rcases Yz S with rfl|⟨cl,g,rfl⟩
 .rfl
 simp
def znv:∀(r:List Sg) (S:List (List Sg)),(r.foldl zei S).flatten=S.flatten++r
 |[],S=>by simp
 |x::r,S=>by rw[Qm,znv r,zrq];simp
def znw(l:List Sg):(subs l).flatten=l:=by
 unfold subs;rw[znv];rfl
def zjm(h:valid l):∀x,l[0]?=some x->x.v=1:=λx c=>by
 have d:=(zbe.1 h).2
 cases l with
 |nil=>cases c
 |cons a r=>
  cases c
  exact(u4.1 d.1).2.1.resolve_right (λh=>h.1 rfl)
end
abbrev LX:=List Sg
end Go.Gs
