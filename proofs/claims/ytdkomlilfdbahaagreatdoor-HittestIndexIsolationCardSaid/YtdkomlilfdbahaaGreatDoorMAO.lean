/- Rationals, the program's: arithmetic. -/
import Derived.Test.YtdkomlilfdbahaaGreatDoorMAN
set_option maxRecDepth 100000
set_option maxHeartbeats 80000000
set_option linter.all false
namespace Go.Gs
open Proofs.Tryz
open Go.Proofs
def zFR(n d:BI)(c:n.mag.length<=400000000)(b:d.mag.length<=400000000)(a:d.v≠0):
  CX 356 [wl n,wl d] (.tup [wm (ofQ (Rat.divInt n.v d.v)),i64 0]):=by
 refine zc func356<|wg (zls d oM)<|⟨λh=>absurd (K7.1 h) a,λ_=>?_⟩;exact wg (zhh n d c b a)<|zP .refl .refl
def zGS(n d:BI)(b:d.mag.length<=400000000)(a:d.v=0):
  CX 356 [wl n,wl d] (.tup [.agg [bl false,.sl dgE [],bl false,.sl dgE []],i64 9]):=by
 refine zc func356<|wg (zls d oM) ?_;rw[a];refine⟨λ_=>?_,λh=>absurd rfl h⟩;exact zP (jk (.C (.cons zD (.C (.cons zD .nil))))) .refl
def yW(n:Int)(a:R64 n):CX 270 [i64 n] (wm (ofQ (n:Rat))):=by
 refine zc func270<|wg (zfd n a)<|wg (zfd 1 dC) ?_;have e:ofQ (n:Rat)=⟨ofZ n,ofZ 1⟩:=by unfold ofQ;rw[YB,Yz];rfl
 rw[e];exact .refl
def zub(n d:Int)(b:R64 n)(a:R64 d)(c:d≠0):CX 303 [i64 n,i64 d] (.tup [wm (ofQ (Rat.divInt n d)),i64 0]):=by
 refine zc func303 ?_;have e:=jw b;have f:=jw a;refine wg (zfd n b)<|wg (zfd d a)<|wg (zFR (ofZ n) (ofZ d) (by rw[zW];omega) (by rw[zW];omega) (by rw[z5];exact c)) ?_;rw[z5,z5];exact zP .refl .refl
def q9(a:BR)(d:a.len<=400000000):CX 326 [wm a] (wm (ofQ a.v)):=by
 have b:a.num.mag.length<=a.len:=Jm _ _;have c:a.den.mag.length<=a.len:=Q9 _ _;refine zc func326 ?_
 by_cases h:a.den.v=0
 .refine wg (zGS a.num a.den oM h)<|we<|wg (yW 0 dC) ?_;have e:a.v=((0:Int):Rat):=by unfold BR.v;rw[h,YA];rfl
  rw[e];exact .refl
 refine wg (zFR a.num a.den oM oM h)<|⟨λh=>absurd rfl h,λ_=>?_⟩;exact .refl
def zbD(q:Rat):(ofQ q).num.mag.length<=y4 q/\(ofQ q).den.mag.length<=y4 q:=⟨qE q,qT q⟩
def yG(q:Rat):(ofQ q).num.v=q.num:=z5 _
def j7(q:Rat):(ofQ q).den.v=q.den:=z5 _
def zpB(a b:BR)(g:a.len<=100000000)(h:b.len<=100000000):CG0 328 [wm a,wm b] []
  (.tup [wl (ofZ (a.v.num*b.v.den)),wl (ofZ (b.v.num*a.v.den)),wl (ofZ (a.v.den*b.v.den))]) []:=by
 have c:=zR a;have d:=zR b;have e:=zbD a.v;have f:=zbD b.v;refine zc func328<|wc<|wg (q9 a oM)<|wg (q9 b oM)<|wc<|wg (zjC (ofQ a.v).num (ofQ b.v).den oM oM) ?_;refine wg (zjC (ofQ b.v).num (ofQ a.v).den oM oM)<|wg (zjC (ofQ a.v).den (ofQ b.v).den oM oM) ?_;rw[yG,yG,j7,j7];exact .refl
def zrG(a b:BR)(g:a.len<=50000000)(h:b.len<=50000000):CX 306 [wm a,wm b] (wm (ofQ (a.v+b.v))):=by
 have e:=zR a;have f:=zR b;have m:=qE a.v;have n:=qE b.v;have c:=qT a.v;have d:=qT b.v;have i:=qc a.v.num b.v.den;have j:=qc b.v.num a.v.den;have k:=qc a.v.den b.v.den;have l:=zhf (a.v.num*b.v.den) (b.v.num*a.v.den);refine zc func306<|wg (zpB a b oM oM)<|wc<|wg (zFQ (ofZ (a.v.num*b.v.den)) (ofZ (b.v.num*a.v.den)) (by rw[zW];omega) (by rw[zW];omega)) ?_;rw[z5,z5]
 refine wg (zhh (ofZ (a.v.num*b.v.den+b.v.num*a.v.den)) (ofZ (a.v.den*b.v.den)) (by rw[zW];omega) (by rw[zW];omega) (by rw[z5];exact u4 _ _)) ?_;rw[z5,z5,zlw];exact .refl
def zvL(a b:BR)(i:a.len<=50000000)(j:b.len<=50000000):CX 331 [wm a,wm b] (wm (ofQ (a.v*b.v))):=by
 have e:=zR a;have f:=zR b;have g:=zbD a.v;have h:=zbD b.v;have m:=qE a.v;have n:=qE b.v;have c:=qT a.v;have d:=qT b.v;have k:=qc a.v.num b.v.num;have l:=qc a.v.den b.v.den;refine zc func331<|wc<|wg (q9 a oM)<|wg (q9 b oM)<|wc<|wg (zjC (ofQ a.v).num (ofQ b.v).num oM oM) ?_;refine wg (zjC (ofQ a.v).den (ofQ b.v).den oM oM) ?_;rw[yG,yG,j7,j7];refine wg (zhh (ofZ (a.v.num*b.v.num)) (ofZ (a.v.den*b.v.den)) (by rw[zW];omega) (by rw[zW];omega) (by rw[z5];exact u4 _ _)) ?_
 rw[z5,z5,zlx];exact .refl
def zvM(a:BR)(e:a.len<=100000000):CX 305 [wm a] (wl (ofZ a.v.floor)):=by
 have c:=zR a;have d:=zbD a.v;have b:=a.v.den_nz;refine zc func305<|wg (q9 a oM)<|wg (zAi (ofQ a.v).num (ofQ a.v).den oM oM (by rw[j7];omega)) ?_;rw[yG,j7,←Yo];exact .refl
def zcz(q:Rat):Nat:=max (kD q.num.natAbs) (kD q.den)
def zcA(a:BR)(d:a.len<=100000000):CX 267 [wm a] (i64 (zcz a.v)):=by
 have b:=zR a;have c:=zbD a.v;refine zc func267<|wg (q9 a oM)<|wc<|wg (zrF (ofQ a.v).num oM)<|wg (zrF (ofQ a.v).den oM) ?_;rw[yG,j7,QS];refine ze ?_;unfold zcz;simp only[zdN];omega
structure AF where
 a:BR
 b:BR
 c:BR
 d:BR
 e:BR
 f:BR
def afE(t:AF):LR:=brE t.a++(brE t.b++(brE t.c++(brE t.d++(brE t.e++brE t.f))))
def AF.le(t:AF)(n:Nat):Prop:=t.a.len<=n/\t.b.len<=n/\t.c.len<=n/\t.d.len<=n/\t.e.len<=n/\t.f.len<=n
def AF.nth(t:AF):Nat->BR
 |0=>t.a
 |1=>t.b
 |2=>t.c
 |3=>t.d
 |4=>t.e
 |_=>t.f
def stage(t:AF):Nat->AF
 |0=>t
 |1=>{ t with a:=ofQ t.a.v }
 |2=>{ t with a:=ofQ t.a.v,b:=ofQ t.b.v }
 |3=>{ t with a:=ofQ t.a.v,b:=ofQ t.b.v,c:=ofQ t.c.v }
 |4=>{ t with a:=ofQ t.a.v,b:=ofQ t.b.v,c:=ofQ t.c.v,d:=ofQ t.d.v }
 |5=>{ t with a:=ofQ t.a.v,b:=ofQ t.b.v,c:=ofQ t.c.v,d:=ofQ t.d.v,e:=ofQ t.e.v }
 |_=>⟨ofQ t.a.v,ofQ t.b.v,ofQ t.c.v,ofQ t.d.v,ofQ t.e.v,ofQ t.f.v⟩
def AF.nrm(t:AF):AF:=⟨ofQ t.a.v,ofQ t.b.v,ofQ t.c.v,ofQ t.d.v,ofQ t.e.v,ofQ t.f.v⟩
def um:LR:=(List.replicate 12 [bl false,nS]).flatten
def zfe(t:AF)(ht:t.le 400000000):CX 266 [.agg (afE t)] (.agg (afE t.nrm)):=by
 obtain⟨g,j,k,l,m,n⟩:=ht;refine zc func266 ?_
 refine⟨Nat,λi=>⟨[(20,i64 i),(19,.agg (afE t)),(3,.loc 2 0),(2,.loc 1 0)],[(2,.box 284 (afE (stage t i))),(1,.box 284 um),(0,.box 51 (afE t))],3,30,0⟩,
  λi=>i<=6,λi=>6-i,0,Xh _,zf [0,1,2],?_⟩
 intro i hi;have hi:i=0∨i=1∨i=2∨i=3∨i=4∨i=5∨i=6:=by have hi:i<=6:=hi;omega
 rcases hi with rfl|rfl|rfl|rfl|rfl|rfl|rfl
 .exact we<|wg (q9 t.a g)<|Ar.fit dC<|⟨1,(by show 1<=6;decide),zf [0,1,2],dC⟩
 .exact we<|wg (q9 t.b j)<|Ar.fit dC<|⟨2,(by show 2<=6;decide),zf [0,1,2],dC⟩
 .exact we<|wg (q9 t.c k)<|Ar.fit dC<|⟨3,(by show 3<=6;decide),zf [0,1,2],dC⟩
 .exact we<|wg (q9 t.d l)<|Ar.fit dC<|⟨4,(by show 4<=6;decide),zf [0,1,2],dC⟩
 .exact we<|wg (q9 t.e m)<|Ar.fit dC<|⟨5,(by show 5<=6;decide),zf [0,1,2],dC⟩
 .exact we<|wg (q9 t.f n)<|Ar.fit dC<|⟨6,(by show 6<=6;decide),zf [0,1,2],dC⟩
 refine⟨λh=>absurd h dC,λ_=>?_⟩;exact .refl
def zuc(t:AF):CX 300 [.agg (afE t)] (.agg (afE t)):=by
 exact zc func300<|zgQ.own<|.refl
def okI(t:AF):LI
 |0=>True
 |k+1=>okI t k/\zcz (t.nth k).v<=256
def AF.ok(t:AF):Prop:=okI t 6
instance (t:AF):∀n,Decidable (okI t n):=λn=>by
 induction n with
 |zero=>exact isTrue trivial
 |succ k a=>unfold okI;exact instDecidableAnd
instance (t:AF):Decidable t.ok:=inferInstanceAs (Decidable (okI t 6))
def zhi(t:AF)(ht:t.le 100000000):CX 204 [.agg (afE t)] (pr t.ok):=by
 have k:=ht;obtain⟨l,m,n,o,p,q⟩:=ht;refine zc func204<|wg (zfe t ⟨oM,oM,oM,oM,oM,oM⟩)<|⟨Nat,λi=>⟨[(6,.agg (afE t.nrm)),(7,i64 i)],[],1,14,0⟩,λi=>i<=6/\okI t i,λi=>6-i,0,⟨Xh _,tV⟩,?_,?_⟩
 .exact zB []
 rintro i ⟨hi,ok⟩
 have hi:i=0∨i=1∨i=2∨i=3∨i=4∨i=5∨i=6:=oM
 rcases hi with rfl|rfl|rfl|rfl|rfl|rfl|rfl
 .refine we ?_;have j:=zR t.a;refine wg (zcA (ofQ t.a.v) (by rw[zF];omega)) ?_;rw[ky];refine⟨λh=>zd (λg=>?_),λh=>?_⟩
  .simp only[AF.ok,okI,AF.nth]at g;omega
  exact Ar.fit dC<|⟨1,⟨(by show 1<=6;decide),ok,(by show zcz t.a.v<=256;omega)⟩,zB [],dC⟩
 .refine we ?_;have j:=zR t.b;refine wg (zcA (ofQ t.b.v) (by rw[zF];omega)) ?_;rw[ky];refine⟨λh=>zd (λg=>?_),λh=>?_⟩
  .simp only[AF.ok,okI,AF.nth]at g;omega
  exact Ar.fit dC<|⟨2,⟨(by show 2<=6;decide),ok,(by show zcz t.b.v<=256;omega)⟩,zB [],dC⟩
 .refine we ?_;have j:=zR t.c;refine wg (zcA (ofQ t.c.v) (by rw[zF];omega)) ?_;rw[ky];refine⟨λh=>zd (λg=>?_),λh=>?_⟩
  .simp only[AF.ok,okI,AF.nth]at g;omega
  exact Ar.fit dC<|⟨3,⟨(by show 3<=6;decide),ok,(by show zcz t.c.v<=256;omega)⟩,zB [],dC⟩
 .refine we ?_;have j:=zR t.d;refine wg (zcA (ofQ t.d.v) (by rw[zF];omega)) ?_;rw[ky];refine⟨λh=>zd (λg=>?_),λh=>?_⟩
  .simp only[AF.ok,okI,AF.nth]at g;omega
  exact Ar.fit dC<|⟨4,⟨(by show 4<=6;decide),ok,(by show zcz t.d.v<=256;omega)⟩,zB [],dC⟩
 .refine we ?_;have j:=zR t.e;refine wg (zcA (ofQ t.e.v) (by rw[zF];omega)) ?_;rw[ky];refine⟨λh=>zd (λg=>?_),λh=>?_⟩
  .simp only[AF.ok,okI,AF.nth]at g;omega
  exact Ar.fit dC<|⟨5,⟨(by show 5<=6;decide),ok,(by show zcz t.e.v<=256;omega)⟩,zB [],dC⟩
 .refine we ?_;have j:=zR t.f;refine wg (zcA (ofQ t.f.v) (by rw[zF];omega)) ?_;rw[ky];refine⟨λh=>zd (λg=>?_),λh=>?_⟩
  .simp only[AF.ok,okI,AF.nth]at g;omega
  exact Ar.fit dC<|⟨6,⟨(by show 6<=6;decide),ok,(by show zcz t.f.v<=256;omega)⟩,zB [],dC⟩
 refine⟨λh=>absurd h dC,λ_=>?_⟩;exact zH ok
def ziF(a b c d:BR)(e:a.len<=10000000)(f:b.len<=10000000)(g:c.len<=10000000)(h:d.len<=10000000):
  CX 301 [wm a,wm b,wm c,wm d] (wm (ofQ (a.v*b.v+c.v*d.v))):=by
 have i:=zR a;have j:=zR b;have k:=zR c;have l:=zR d;have m:=yN a.v b.v;have n:=yN c.v d.v;refine zc func301<|wc<|wg (zvL a b oM oM)<|wg (zvL c d oM oM)<|wg (zrG (ofQ (a.v*b.v)) (ofQ (c.v*d.v)) (by rw[zF];omega) (by rw[zF];omega)) ?_;rw[ky,ky];exact .refl
def vX(t:AF)(x y:Rat):Rat:=t.a.v*x+t.c.v*y+t.e.v
def vY(t:AF)(x y:Rat):Rat:=t.b.v*x+t.d.v*y+t.f.v
def qX(a b c d e:BR){n:Nat}(f:a.len<=n)(g:b.len<=n)(h:c.len<=n)(i:d.len<=n)(j:e.len<=n):y4 (a.v*b.v+c.v*d.v)<=4*n+5/\y4 (a.v*b.v+c.v*d.v+e.v)<=5*n+7:=by
 have k:=zR a;have l:=zR b;have m:=zR c;have o:=zR d;have p:=zR e;have q:=yN a.v b.v;have r:=yN c.v d.v;have s:=zbC (a.v*b.v) (c.v*d.v);have t:=zbC (a.v*b.v+c.v*d.v) e.v;omega
def zvN(t:AF)(x y:BR)(ht:t.le 5000000)(g:x.len<=5000000)(h:y.len<=5000000):
  CX 299 [.agg (afE t),wm x,wm y] (.tup [wm (ofQ (vX t x.v y.v)),wm (ofQ (vY t x.v y.v))]):=by
 obtain⟨i,j,k,l,m,n⟩:=ht;have o:=qX t.a x t.c y t.e i g k h m;have p:=qX t.b x t.d y t.f j g l h n;refine zc func299<|wc<|wg (ziF t.a x t.c y oM oM oM oM)<|wg (zrG (ofQ (t.a.v*x.v+t.c.v*y.v)) t.e (by rw[zF];omega) oM)<|wg (ziF t.b x t.d y oM oM oM oM)<|wg (zrG (ofQ (t.b.v*x.v+t.d.v*y.v)) t.f (by rw[zF];omega) oM) ?_;rw[ky,ky];exact .refl
def afQ(a b c d e f:Rat):AF:=⟨ofQ a,ofQ b,ofQ c,ofQ d,ofQ e,ofQ f⟩
def zGT(a b c d:Int)(e:R64 a)(f:R64 b)(g:R64 c)(h:R64 d):CX 298 [i64 a,i64 b,i64 c,i64 d] (.agg (afE (afQ a b c d ((0:Int):Rat) ((0:Int):Rat)))):=by
 refine zc func298<|wg (yW a e)<|wg (yW b f)<|wg (yW c g)<|wg (yW d h)<|wg (yW 0 dC) ?_;exact wg (yW 0 dC)<|wg (zuc (afQ a b c d ((0:Int):Rat) ((0:Int):Rat)))<|.refl
def zud:CX 238 [] (.agg (afE (afQ ((1:Int):Rat) ((0:Int):Rat) ((0:Int):Rat) ((1:Int):Rat) ((0:Int):Rat) ((0:Int):Rat)))):=by
 exact zc func238<|wg (zGT 1 0 0 1 dC dC dC dC)<|.refl
def z_cmp(a b:BI)(c:a.mag.length<=800000000)(d:b.mag.length<=800000000):CX 329 [wl a,wl b] (i64 (a.v-b.v).sign):=by
 refine zc func329<|wg (zrE a b c d) ?_;have e:=zlk a.v b.v;have f:=zaR a;have g:=zaR b;refine wg (zls (ofZ (a.v-b.v)) (by rw[zW];omega)) ?_;rw[z5];exact .refl
def zly(x y:Rat):Int:=(x.num*y.den-y.num*x.den).sign
def zrH{z:Int}:0<=z.sign↔0<=z:=by
 rcases Ql z 0 with h|h|h
 .rw[Ko h];omega
 .subst h;decide
 rw[Kx h];omega
def zpC{x y:Rat}:0<=zly x y↔y<=x:=by
 rw[Rat.le_iff];unfold zly;rw[zrH];omega
def zAk(x y:Rat):zly y x= - zly x y:=by
 unfold zly;rw[show y.num*x.den-x.num*y.den= -(x.num*y.den-y.num*x.den) by omega,Int.sign_neg]
def zvO{x y:Rat}:zly x y<=0↔x<=y:=by
 have:=zpC (x:=y) (y:=x);rw[zAk]at this;rw[←this];omega
def zjD(a b:BR)(g:a.len<=100000000)(h:b.len<=100000000):CX 268 [wm a,wm b] (i64 (zly a.v b.v)):=by
 have e:=zR a;have f:=zR b;have k:=qE a.v;have l:=qE b.v;have c:=qT a.v;have d:=qT b.v;have i:=qc a.v.num b.v.den;have j:=qc b.v.num a.v.den;refine zc func268<|wg (zpB a b oM oM)<|wg (z_cmp (ofZ (a.v.num*b.v.den)) (ofZ (b.v.num*a.v.den)) (by rw[zW];omega) (by rw[zW];omega)) ?_;rw[z5,z5];exact .refl
def q_sub(a b:BR)(g:a.len<=50000000)(h:b.len<=50000000):CX 330 [wm a,wm b] (wm (ofQ (a.v-b.v))):=by
 have e:=zR a;have f:=zR b;have m:=qE a.v;have n:=qE b.v;have c:=qT a.v;have d:=qT b.v;have i:=qc a.v.num b.v.den;have j:=qc b.v.num a.v.den;have k:=qc a.v.den b.v.den;have l:=zlk (a.v.num*b.v.den) (b.v.num*a.v.den);refine zc func330<|wg (zpB a b oM oM)<|wc<|wg (zrE (ofZ (a.v.num*b.v.den)) (ofZ (b.v.num*a.v.den)) (by rw[zW];omega) (by rw[zW];omega)) ?_;rw[z5,z5]
 refine wg (zhh (ofZ (a.v.num*b.v.den-b.v.num*a.v.den)) (ofZ (a.v.den*b.v.den)) (by rw[zW];omega) (by rw[zW];omega) (by rw[z5];exact u4 _ _)) ?_;rw[z5,z5,zAj];exact .refl
def zrI(x:Rat):y4 (-x)=y4 x:=by
 unfold y4;rw[Rat.neg_num,Rat.neg_den,zaA]
def zAl(x y:Rat):y4 (x-y)<=y4 x+y4 y+1:=by
 have:=zbC x (-y);rw[zrI,←Yc]at this;exact this
def AF.same(t u:AF):Prop:=t.a.v=u.a.v/\t.b.v=u.b.v/\t.c.v=u.c.v/\t.d.v=u.d.v/\t.e.v=u.e.v/\t.f.v=u.f.v
instance (t u:AF):Decidable (t.same u):=wi
def ye{x y:Rat}:zly x y=0↔x=y:=by
 constructor
 .intro h;exact Rat.le_antisymm (zvO.1 oM) (zpC.1 oM)
 rintro rfl
 unfold zly;rw[Int.sub_self];rfl
def AF.le_len{t:AF}{n:Nat}(h:t.le n):t.nrm.le (max n 1):=by
 obtain⟨g,i,j,k,l,m⟩:=h;have o:=zR t.a;have p:=zR t.b;have q:=zR t.c;have r:=zR t.d;have s:=zR t.e;have u:=zR t.f;refine⟨?_,?_,?_,?_,?_,?_⟩ <;> (show(ofQ _).len<=_;rw[zF];omega)
def zAm(t u:AF):LI
 |0=>True
 |k+1=>zAm t u k/\(t.nth k).v=(u.nth k).v
def zvP(t u:AF)(ht:t.le 10000000)(j:u.le 10000000):CX 397 [.agg (afE t),.agg (afE u)] (pr (t.same u)):=by
 refine zc func397<|wc ?_;obtain⟨q,r,s,w,x,y⟩:=ht;obtain⟨ka,kb,kc,kd,ke,kf⟩:=j;refine wg (zfe t ⟨oM,oM,oM,oM,oM,oM⟩)<|wg (zfe u ⟨oM,oM,oM,oM,oM,oM⟩)<|⟨Nat,λi=>⟨[(14,i64 i),(13,.agg (afE t.nrm)),(6,.loc 3 0)],[(3,.box 284 (afE u.nrm))],4,25,0⟩,λi=>i<=6/\zAm t u i,λi=>6-i,0,⟨Xh _,tV⟩,?_,?_⟩
 .exact zB [(3,some 3)]
 rintro i ⟨hi,ok⟩
 have hi:i=0∨i=1∨i=2∨i=3∨i=4∨i=5∨i=6:=oM;have F:=zR t.a;have G:=zR t.b;have H:=zR t.c;have I:=zR t.d;have J:=zR t.e;have K:=zR t.f;have z:=zR u.a;have A:=zR u.b;have B:=zR u.c;have C:=zR u.d;have D:=zR u.e;have E:=zR u.f
 rcases hi with rfl|rfl|rfl|rfl|rfl|rfl|rfl
 .refine we<|wc<|wg (zjD (ofQ t.a.v) (ofQ u.a.v) (by rw[zF];omega) (by rw[zF];omega)) ?_;rw[ky,ky];refine⟨λh=>zd (λg=>h (ye.2 g.1)),λh=>?_⟩;have h:=ye.1 (Xa.1 h);exact Ar.fit dC<|⟨1,⟨(by show 1<=6;decide),ok,h⟩,zB [(3,some 3)],dC⟩
 .refine we<|wc<|wg (zjD (ofQ t.b.v) (ofQ u.b.v) (by rw[zF];omega) (by rw[zF];omega)) ?_;rw[ky,ky];refine⟨λh=>zd (λg=>h (ye.2 g.2.1)),λh=>?_⟩;have h:=ye.1 (Xa.1 h);exact Ar.fit dC<|⟨2,⟨(by show 2<=6;decide),ok,h⟩,zB [(3,some 3)],dC⟩
 .refine we<|wc<|wg (zjD (ofQ t.c.v) (ofQ u.c.v) (by rw[zF];omega) (by rw[zF];omega)) ?_;rw[ky,ky];refine⟨λh=>zd (λg=>h (ye.2 g.2.2.1)),λh=>?_⟩;have h:=ye.1 (Xa.1 h);exact Ar.fit dC<|⟨3,⟨(by show 3<=6;decide),ok,h⟩,zB [(3,some 3)],dC⟩
 .refine we<|wc<|wg (zjD (ofQ t.d.v) (ofQ u.d.v) (by rw[zF];omega) (by rw[zF];omega)) ?_;rw[ky,ky];refine⟨λh=>zd (λg=>h (ye.2 g.2.2.2.1)),λh=>?_⟩;have h:=ye.1 (Xa.1 h);exact Ar.fit dC<|⟨4,⟨(by show 4<=6;decide),ok,h⟩,zB [(3,some 3)],dC⟩
 .refine we<|wc<|wg (zjD (ofQ t.e.v) (ofQ u.e.v) (by rw[zF];omega) (by rw[zF];omega)) ?_;rw[ky,ky];refine⟨λh=>zd (λg=>h (ye.2 g.2.2.2.2.1)),λh=>?_⟩;have h:=ye.1 (Xa.1 h);exact Ar.fit dC<|⟨5,⟨(by show 5<=6;decide),ok,h⟩,zB [(3,some 3)],dC⟩
 .refine we<|wc<|wg (zjD (ofQ t.f.v) (ofQ u.f.v) (by rw[zF];omega) (by rw[zF];omega)) ?_;rw[ky,ky];refine⟨λh=>zd (λg=>h (ye.2 g.2.2.2.2.2)),λh=>?_⟩;have h:=ye.1 (Xa.1 h);exact Ar.fit dC<|⟨6,⟨(by show 6<=6;decide),ok,h⟩,zB [(3,some 3)],dC⟩
 refine⟨λh=>absurd h dC,λ_=>?_⟩;obtain⟨⟨⟨⟨⟨⟨_,k⟩,l⟩,m⟩,n⟩,o⟩,p⟩:=ok;exact zH ⟨k,l,m,n,o,p⟩
def zbg{q:Rat}(h:zcz q<=256):y4 q<=8:=by
 have key:∀n:Nat,kD n<=256->(zn n).length<=8:=λn c=>jU (by
  have:=zef n;have a:2^kD n<=2^256:=XJ dC c;have b:(4294967296:Nat)^8=2^256:=dC
  rw[b];omega)
 unfold zcz at h;unfold y4 jx;have d:=key q.num.natAbs oM;have a:=key q.den oM;rw[QS];omega
def ok_le{t:AF}(h:t.nrm.ok):t.nrm.le 8:=by
 obtain⟨⟨⟨⟨⟨⟨_,a⟩,b⟩,c⟩,d⟩,e⟩,f⟩:=h;simp only[AF.nth,AF.nrm,ky]at a b c d e f
 exact⟨by show(ofQ _).len<=_;rw[zF];exact zbg a,by show(ofQ _).len<=_;rw[zF];exact zbg b,by show(ofQ _).len<=_;rw[zF];exact zbg c,
  by show(ofQ _).len<=_;rw[zF];exact zbg d,by show(ofQ _).len<=_;rw[zF];exact zbg e,by show(ofQ _).len<=_;rw[zF];exact zbg f⟩
def zbT(t:AF):Rat:=t.a.v*t.d.v-t.b.v*t.c.v
def zlz(t:AF)(ht:t.le 10000000):CX 269 [.agg (afE t)] (wm (ofQ (zbT t))):=by
 obtain⟨e,f,g,h,i,j⟩:=ht;have k:=zR t.a;have l:=zR t.b;have m:=zR t.c;have n:=zR t.d;have o:=yN t.a.v t.d.v;have p:=yN t.b.v t.c.v;refine zc func269<|wc<|wg (zvL t.a t.d oM oM)<|wg (zvL t.b t.c oM oM)<|wg (q_sub (ofQ (t.a.v*t.d.v)) (ofQ (t.b.v*t.c.v)) (by rw[zF];omega) (by rw[zF];omega)) ?_;rw[ky,ky];exact .refl
def zrJ(t:AF)(ht:t.le 100000000):CX 240 [.agg (afE t)] (.agg (afE t.nrm)):=by
 obtain⟨a,b,c,d,e,f⟩:=ht;exact zc func240<|wg (zfe t ⟨oM,oM,oM,oM,oM,oM⟩)<|wg (zuc t.nrm)<|.refl
def beh(t u:AF):AF:=afQ (u.a.v*t.a.v+u.c.v*t.b.v) (u.b.v*t.a.v+u.d.v*t.b.v) (u.a.v*t.c.v+u.c.v*t.d.v) (u.b.v*t.c.v+u.d.v*t.d.v) (vX u t.e.v t.f.v) (vY u t.e.v t.f.v)
def zAn(t u:AF)(ht:t.le 1000000)(g:u.le 1000000):CX 239 [.agg (afE t),.agg (afE u)] (.agg (afE (beh t u))):=by
 have h:=ht;have i:=g;obtain⟨j,k,l,m,n,o⟩:=ht;obtain⟨ka,kb,kc,kd,ke,kf⟩:=g;refine zc func239<|wg (zvN u t.e t.f ⟨oM,oM,oM,oM,oM,oM⟩ oM oM)<|wc<|wg (ziF u.a t.a u.c t.b oM oM oM oM)<|wg (ziF u.b t.a u.d t.b oM oM oM oM)<|wg (ziF u.a t.c u.c t.d oM oM oM oM) ?_;exact wg (ziF u.b t.c u.d t.d oM oM oM oM)<|wg (zuc (beh t u))<|.refl
def zAo{t u:AF}{n:Nat}(ht:t.le n)(m:u.le n):(beh t u).le (5*n+7):=by
 obtain⟨g,h,i,j,k,l⟩:=ht;obtain⟨ka,kb,kc,kd,ke,kf⟩:=m;have q:=qX u.a t.a u.c t.b u.e ka g kc h ke;have r:=qX u.b t.a u.d t.b u.e kb g kd h ke;have s:=qX u.a t.c u.c t.d u.e ka i kc j ke;have v:=qX u.b t.c u.d t.d u.e kb i kd j ke;have o:=qX u.a t.e u.c t.f u.e ka k kc l ke;have p:=qX u.b t.e u.d t.f u.f kb k kd l kf;refine⟨?_,?_,?_,?_,?_,?_⟩ <;> (show(ofQ _).len<=_;rw[zF])
 .omega
 .omega
 .omega
 .omega
 .exact o.2
 exact p.2
def zGU(a b:LB)(i:a.length<=400000000)(j:b.length<=400000000):
  CX 263 [.sl dgE a,.sl dgE b] (.sl dgE (zn (Nat.gcd (val a) (val b)))):=by
 refine zc func263<|wg (uM _ oM)<|wg (uM _ oM) ?_;have g:=zL a;have h:=zL b
 refine⟨Nat×Nat,λ⟨A,B⟩=>⟨[(5,.sl dgE (zn A)),(6,.sl dgE (zn B))],[],0,27,0⟩,
  λx=>(zn x.1).length<=400000000/\(zn x.2).length<=400000000/\Nat.gcd x.1 x.2=Nat.gcd (val a) (val b),λx=>x.2,(val a,val b),?_,?_,?_⟩
 .exact⟨oN,oN,rfl⟩
 .exact zB []
 rintro⟨A,B⟩ ⟨f,d,c⟩
 dsimp only at f d c;intro l;refine⟨λk=>?_,λk=>?_⟩
 .have hB:B≠0:=jL.1 oM;refine wg (ziA (zn A) (zn B) oM oM (by rw[zr];exact hB)) ?_;rw[zr,zr];have e:=Kq A (Ki hB);refine⟨(B,A%B),⟨d,XC (qw (YW e)) d,?_⟩,zB [],e⟩;dsimp only;rw[←c,Q7 B,Q7 A B,Nat.gcd_rec B A]
 have hB:B=0:=yL.1 (XQ.1 oM);subst hB;rw[Nat.gcd_zero_right]at c;exact z6 (by rw[c])
def zDS(m:LB)(a:m.length<=1000000000):CX 257 [bl false,.sl dgE m] (wl (ofZ (val m))):=by
 have:=(zaS False m a).args (.cons (zd id) (.C .nil))
 rwa [Xc id]at this
def zpD(a:BI)(d:a.mag.length<=1000000000):CX 264 [wl a] (wl (ofZ (-a.v))):=by
 refine zc func264<|wg (zaS (¬a.neg=true) a.mag d) ?_
 have:(if¬a.neg=true then-(val a.mag:Int) else(val a.mag:Int))= -a.v:=by
  obtain⟨b,c⟩|⟨b,c⟩:=a.v_eq <;> simp[b,c]
 rw[this];exact .refl
def zue(a b:BI)(j:a.mag.length<=800000000)(k:b.mag.length<=800000000):CX 321 [wl a,wl b] (wl (ofZ (a.v+b.v))):=by
 refine zc func321<|Br.mk (λh=>?_) (λh=>?_)
 .refine wc<|wg (zkc a.mag b.mag oM oM) ?_;have i:=zcy j k;refine wg (zaS (a.neg=true) _ oM) ?_
  have:(if a.neg=true then-(val (zn (val a.mag+val b.mag)):Int) else(val (zn (val a.mag+val b.mag)):Int))=a.v+b.v:=by
   rw[zr]
   obtain⟨c,d⟩|⟨c,d⟩:=a.v_eq <;> obtain⟨e,f⟩|⟨e,f⟩:=b.v_eq <;> simp[c,e]at h <;> simp[c,d,f] <;> omega
  rw[this];exact .refl
 refine wg (zpv a.mag b.mag oM oM) ?_;have i:(zn (val a.mag-val b.mag)).length<=1000000000:=XC (qw (YU _ _)) (XC (zL _) oM);have g:(zn (val b.mag-val a.mag)).length<=1000000000:=XC (qw (YU _ _)) (XC (zL _) oM);refine⟨λd=>?_,λd=>?_⟩
 .refine wg (zaS (a.neg=true) _ i) ?_
  have:(if a.neg=true then-(val (zn (val a.mag-val b.mag)):Int) else(val (zn (val a.mag-val b.mag)):Int))=a.v+b.v:=by
   rw[zr]
   obtain⟨c,d⟩|⟨c,d⟩:=a.v_eq <;> obtain⟨e,f⟩|⟨e,f⟩:=b.v_eq <;> simp[c,e]at h <;> simp[c,d,f] <;> omega
  rw[this];exact .refl
 refine wg (zpv b.mag a.mag oM oM)<|wg (zaS (b.neg=true) _ g) ?_
 have:(if b.neg=true then-(val (zn (val b.mag-val a.mag)):Int) else(val (zn (val b.mag-val a.mag)):Int))=a.v+b.v:=by
  rw[zr]
  obtain⟨c,d⟩|⟨c,d⟩:=a.v_eq <;> obtain⟨e,f⟩|⟨e,f⟩:=b.v_eq <;> simp[c,e]at h <;> simp[e,d,f] <;> omega
 rw[this];exact .refl
def zAp(a b:BI)(d:a.mag.length<=800000000)(e:b.mag.length<=800000000):CX 256 [wl a,wl b] (wl (ofZ (a.v-b.v))):=by
 refine zc func256<|wc<|wg (zpD b oM) ?_;have c:=zaR b;refine wg (zue a (ofZ (-b.v)) oM (by rw[zW,zaA];omega)) ?_;rw[z5,←Jn];exact .refl
def znQ(a:BI)(b:a.mag.length<=900000000):CX 255 [wl a] (i64 (kD a.v.natAbs)):=by
 refine zc func255<|wg (znN a.mag b) ?_;rw[BI.v_abs];exact .refl
def zGV{A B:Nat}(hB:0<B):(A%B=0-> -(A:Int)/B= -((A/B:Nat):Int)/\ -(A:Int)%B= -((A%B:Nat):Int))/\(A%B≠0-> -(A:Int)/B= -((A/B:Nat):Int)-1/\ -(A:Int)%B= -((A%B:Nat):Int)+B):=by
 have a:=Kh A B;have b:=Kq A hB;generalize A/B=q at*;generalize A%B=r at*;have e:(B:Int)*(q:Int)=((B*q:Nat):Int):=(Ke _ _).symm;have hB':(0:Int)<B:=oM;refine⟨λh=>(Qv hB').2 ⟨?_,oM,oM⟩,λh=>(Qv hB').2 ⟨?_,oM,oM⟩⟩
 .rw[QQ,e];omega
 rw[YM,QQ,e,Int.mul_one];omega
def zcB(a b:BI)(j:a.mag.length<=200000000)(m:b.mag.length<=200000000)(l:0<b.v):
  CX 265 [wl a,wl b] (.tup [wl (ofZ (a.v/b.v)),wl (ofZ (a.v%b.v)),i64 0]):=by
 have c:b.neg=false/\b.v=(val b.mag:Int):=by
  obtain⟨d,g⟩|h:=b.v_eq
  .omega
  exact h
 have hB:0<val b.mag:=oM;have q1:(zn (val a.mag/val b.mag)).length<=200000000:=XC (qw (Qg _ _)) (XC (zL _) j);have k:(zn (val a.mag%val b.mag)).length<=200000000:=XC (qw (Nat.mod_le _ _)) (XC (zL _) j);have nb:¬b.neg=true:=by rw[c.1];decide
 refine zc func265<|wg (zdd b oM)<|⟨λh=>absurd (K7.1 h) oM,λ_=>?_⟩;refine wg (ziA a.mag b.mag oM oM oM)<|wg (zaS (¬(a.neg=true↔b.neg=true)) _ oM)<|wg (zaS (a.neg=true) _ oM) ?_;rw[zr,zr]
 obtain⟨d,g⟩|⟨d,g⟩:=a.v_eq
 .have pa:¬(a.neg=true↔b.neg=true):=by rw[d,c.1];decide
  rw[Xe pa,Xe d];refine⟨λe=>?_,λe=>absurd pa e⟩;have nd:=zGV (A:=val a.mag) hB;rw[←g,←c.2]at nd;have n:jx (-((val a.mag/val b.mag:Nat):Int))<=200000000:=by rw[zaA];exact q1
  have o:jx (-((val a.mag%val b.mag:Nat):Int))<=200000000:=by rw[zaA];exact k
  refine wg (zdd (ofZ (-((val a.mag%val b.mag:Nat):Int))) (by rw[zW];omega)) ?_;rw[z5];refine⟨λi=>?_,λi=>?_⟩
  .have f:val a.mag%val b.mag≠0:=λh=>i (by rw[h];rfl)
   refine wc<|wg (jV 1 dC)<|wg (zAp (ofZ (-((val a.mag/val b.mag:Nat):Int))) (ofZ 1) (by rw[zW];omega) (by decide +kernel))<|wg (zue (ofZ (-((val a.mag%val b.mag:Nat):Int))) b (by rw[zW];omega) oM) ?_;rw[z5,z5,z5,(nd.2 f).1,(nd.2 f).2];exact .refl
  have f:val a.mag%val b.mag=0:=by
   have:(-((val a.mag%val b.mag:Nat):Int))=0:=K7.1 (Xa.1 i);omega
  refine wd<|wh ?_;rw[←(nd.1 f).1,←(nd.1 f).2];exact .refl
 have pa:¬¬(a.neg=true↔b.neg=true):=by rw[d,c.1];decide
 have na:¬a.neg=true:=by rw[d];decide
 rw[Xc pa,Xc na];refine⟨λe=>absurd e pa,λe=>?_⟩;refine wd<|wh ?_;rw[g,c.2,←Yp,←Q5];exact .refl
def yH(n:Int)(a:R64 n):CX 130 [i64 n] (wm (ofQ (n:Rat))):=by
 refine zc func130<|wg (jV n a)<|wg (jV 1 dC) ?_;have e:ofQ (n:Rat)=⟨ofZ n,ofZ 1⟩:=by unfold ofQ;rw[YB,Yz];rfl
 rw[e];exact .refl
def zff(n d:BI)(l:n.mag.length<=200000000)(e:d.mag.length<=200000000)(b:d.v≠0):
  CX 200 [wl n,wl d] (wm (ofQ (Rat.divInt n.v d.v))):=by
 refine zc func200<|wg (zGU n.mag d.mag oM oM) ?_;have f:val d.mag≠0:=by rw[←d.v_abs];omega
 have j:0<Nat.gcd (val n.mag) (val d.mag):=Jj _ oM
 have c:(zn (Nat.gcd (val n.mag) (val d.mag))).length<=200000000:=
  XC (qw (Nat.gcd_le_right _ oM)) (XC (zL _) e)
 have hnum:=Rat.num_divInt n.v d.v;have hden:=Rat.den_divInt n.v d.v
 have i:d.v.gcd n.v=Nat.gcd (val n.mag) (val d.mag):=by
  rw[←n.v_abs,←d.v_abs];exact Q7 _ _
 rw[i]at hnum hden;rw[Xc b]at hden;have ln:=zaR n;have ld:=zaR d;generalize Nat.gcd (val n.mag) (val d.mag)=g at*;refine wg (zDS (zn g) oM) ?_;rw[zr];have zg:jx (g:Int)<=200000000:=c
 have a:∀N D:Int,N=d.v.sign*n.v->D=(d.v.natAbs:Int)->ofQ (Rat.divInt n.v d.v)=⟨ofZ (N/(g:Int)),ofZ (D/(g:Int))⟩:=λN D hN hD=>by
  unfold ofQ;rw[hnum,hden,hN,hD];rfl
 refine wg (zdd d oM)<|⟨λh=>?_,λh=>?_⟩
 .have hneg:d.v<0:=by
   rcases Ql d.v 0 with k|k|k
   .exact k
   .exact absurd k b
   rw[Kx k]at h;omega
  refine wg (zpD n oM)<|wg (zpD d oM)<|wg (zcB (ofZ (-n.v)) (ofZ (g:Int)) (by rw[zW,zaA];omega) (by rw[zW];omega) (by rw[z5];omega))<|wg (zcB (ofZ (-d.v)) (ofZ (g:Int)) (by rw[zW,zaA];omega) (by rw[zW];omega) (by rw[z5];omega)) ?_;rw[z5,z5,z5,a (-n.v) (-d.v) (by rw[Ko hneg];omega) oM];exact .refl
 have hpos:0<d.v:=by
  rcases Ql d.v 0 with k|k|k
  .rw[Ko k]at h;omega
  .exact absurd k b
  exact k
 refine wg (zcB n (ofZ (g:Int)) oM (by rw[zW];omega) (by rw[z5];omega))<|wg (zcB d (ofZ (g:Int)) oM (by rw[zW];omega) (by rw[z5];omega)) ?_;rw[z5,a n.v d.v (by rw[Kx hpos];omega) oM];exact .refl
def zGW(n d:BI)(c:n.mag.length<=200000000)(b:d.mag.length<=200000000)(a:d.v≠0):
  CX 344 [wl n,wl d] (.tup [wm (ofQ (Rat.divInt n.v d.v)),i64 0]):=by
 refine zc func344<|wg (zdd d oM)<|⟨λh=>absurd (K7.1 h) a,λ_=>?_⟩;exact wg (zff n d c b a)<|zP .refl .refl
def zrK(n d:Int)(b:R64 n)(a:R64 d)(c:d≠0):CX 285 [i64 n,i64 d] (.tup [wm (ofQ (Rat.divInt n d)),i64 0]):=by
 refine zc func285 ?_;have e:=jw b;have f:=jw a;refine wg (jV n b)<|wg (jV d a)<|wg (zGW (ofZ n) (ofZ d) (by rw[zW];omega) (by rw[zW];omega) (by rw[z5];exact c)) ?_;rw[z5,z5];exact zP .refl .refl
def kK(a:BR)(d:a.len<=200000000):CX 136 [wm a] (wm (ofQ a.v)):=by
 have b:a.num.mag.length<=a.len:=Jm _ _;have c:a.den.mag.length<=a.len:=Q9 _ _;refine zc func136<|wg (zdd a.den oM)<|⟨λh=>?_,λh=>?_⟩
 .refine wg (yH 0 dC) ?_;have e:a.v=((0:Int):Rat):=by unfold BR.v;rw[K7.1 h,YA];rfl
  rw[e];exact .refl
 exact wg (zff a.num a.den oM oM (λk=>h (by rw[k];rfl)))<|.refl
def zel(a b:BR)(i:a.len<=50000000)(j:b.len<=50000000):CX 259 [wm a,wm b] (wm (ofQ (a.v+b.v))):=by
 have e:=zR a;have f:=zR b;have g:=zbD a.v;have h:=zbD b.v;have o:=qE a.v;have p:=qE b.v;have c:=qT a.v;have d:=qT b.v;have k:=qc a.v.num b.v.den;have l:=qc b.v.num a.v.den;have m:=qc a.v.den b.v.den;have n:=zhf (a.v.num*b.v.den) (b.v.num*a.v.den);refine zc func259<|wc<|wg (kK a oM)<|wg (kK b oM)<|wc<|wg (zde (ofQ a.v).num (ofQ b.v).den oM oM) ?_;refine wg (zde (ofQ b.v).num (ofQ a.v).den oM oM) ?_;rw[yG,yG,j7,j7]
 refine wg (zue (ofZ (a.v.num*b.v.den)) (ofZ (b.v.num*a.v.den)) (by rw[zW];omega) (by rw[zW];omega)) ?_;rw[z5,z5];refine wg (zde (ofQ a.v).den (ofQ b.v).den oM oM) ?_;rw[j7,j7];refine wg (zff (ofZ (a.v.num*b.v.den+b.v.num*a.v.den)) (ofZ (a.v.den*b.v.den)) (by rw[zW];omega) (by rw[zW];omega) (by rw[z5];exact u4 _ _)) ?_;rw[z5,z5,zlw];exact .refl
def zpE(a b:BR)(i:a.len<=50000000)(j:b.len<=50000000):CX 188 [wm a,wm b] (wm (ofQ (a.v*b.v))):=by
 have e:=zR a;have f:=zR b;have g:=zbD a.v;have h:=zbD b.v;have m:=qE a.v;have n:=qE b.v;have c:=qT a.v;have d:=qT b.v;have k:=qc a.v.num b.v.num;have l:=qc a.v.den b.v.den;refine zc func188<|wc<|wg (kK a oM)<|wg (kK b oM)<|wc<|wg (zde (ofQ a.v).num (ofQ b.v).num oM oM) ?_;refine wg (zde (ofQ a.v).den (ofQ b.v).den oM oM) ?_;rw[yG,yG,j7,j7];refine wg (zff (ofZ (a.v.num*b.v.num)) (ofZ (a.v.den*b.v.den)) (by rw[zW];omega) (by rw[zW];omega) (by rw[z5];exact u4 _ _)) ?_
 rw[z5,z5,zlx];exact .refl
def zrL(a:BR)(e:a.len<=100000000):CX 287 [wm a] (wl (ofZ a.v.floor)):=by
 have c:=zR a;have d:=zbD a.v;have b:=a.v.den_nz;refine zc func287<|wg (kK a oM)<|wg (zcB (ofQ a.v).num (ofQ a.v).den oM oM (by rw[j7];omega)) ?_;rw[yG,j7,←Yo];exact .refl
def zxI(a:BR)(d:a.len<=100000000):CX 184 [wm a] (i64 (zcz a.v)):=by
 have b:=zR a;have c:=zbD a.v;refine zc func184<|wg (kK a oM)<|wc<|wg (znQ (ofQ a.v).num oM)<|wg (znQ (ofQ a.v).den oM) ?_;rw[yG,j7,QS];refine ze ?_;unfold zcz;simp only[zdN];omega
def za1(t:AF):List BR:=[t.a,t.b,t.c,t.d,t.e,t.f]
def zAq{t:AF}{i:Nat}{x:BR}(h:(za1 t)[i]?=some x):x=t.nth i:=by
 have:i<6:=(Xd.1 h).1;have e:i=0∨i=1∨i=2∨i=3∨i=4∨i=5:=oM
 rcases e with rfl|rfl|rfl|rfl|rfl|rfl <;> (cases h;rfl)
def zAr{t:AF}{n:Nat}(h:t.le n):∀i,(t.nth i).len<=n:=λi=>by
 obtain⟨a,b,c,d,e,f⟩:=h;unfold AF.nth;split <;> assumption
def ziG(t:AF):CX 183 [.agg (afE t)] (.sl brE (za1 t)):=by
 refine zc func183<|⟨BR,brE,za1 t,rfl,wb0 ?_⟩;exact .refl
def zcC(t:AF)(ht:t.le 100000000):CX 127 [.agg (afE t)] (pr t.ok):=by
 refine zc func127<|wg (ziG t)<|⟨Nat,λi=>⟨[(4,i64 i),(3,.sl brE (za1 t))],[],1,19,0⟩,λi=>i<=6/\okI t i,λi=>6-i,0,⟨Xh _,tV⟩,?_,?_⟩
 .exact zB []
 rintro i ⟨g,b⟩
 intro j;have f:(za1 t).length=6:=rfl;refine⟨λc=>?_,λc=>?_⟩
 .refine wb5 λx(a:(za1 t)[i]?=some x)=>?_;have a:=zAq a;subst a;refine wg (zxI (t.nth i) (zAr ht i))<|⟨λd=>?_,λd=>?_⟩
  .refine zd λh=>?_
   have e:i=0∨i=1∨i=2∨i=3∨i=4∨i=5:=oM;simp only[AF.ok,okI]at h
   rcases e with rfl|rfl|rfl|rfl|rfl|rfl <;> omega
  exact wa<|⟨i+1,⟨oM,b,oM⟩,zB [],oN⟩
 have:i=6:=by omega
 subst this;exact zH b
def zb4(a b c d:BR)(e:a.len<=10000000)(f:b.len<=10000000)(g:c.len<=10000000)(h:d.len<=10000000):
  CX 283 [wm a,wm b,wm c,wm d] (wm (ofQ (a.v*b.v+c.v*d.v))):=by
 have i:=zR a;have j:=zR b;have k:=zR c;have l:=zR d;have m:=yN a.v b.v;have n:=yN c.v d.v;refine zc func283<|wc<|wg (zpE a b oM oM)<|wg (zpE c d oM oM)<|wg (zel (ofQ (a.v*b.v)) (ofQ (c.v*d.v)) (by rw[zF];omega) (by rw[zF];omega)) ?_;rw[ky,ky];exact .refl
def zxJ(t:AF)(x y:BR)(ht:t.le 5000000)(g:x.len<=5000000)(h:y.len<=5000000):
  CX 284 [.agg (afE t),wm x,wm y] (.tup [wm (ofQ (vX t x.v y.v)),wm (ofQ (vY t x.v y.v))]):=by
 obtain⟨i,j,k,l,m,n⟩:=ht;have o:=qX t.a x t.c y t.e i g k h m;have p:=qX t.b x t.d y t.f j g l h n;refine zc func284<|wc<|wg (zb4 t.a x t.c y oM oM oM oM)<|wg (zel (ofQ (t.a.v*x.v+t.c.v*y.v)) t.e (by rw[zF];omega) oM)<|wg (zb4 t.b x t.d y oM oM oM oM)<|wg (zel (ofQ (t.b.v*x.v+t.d.v*y.v)) t.f (by rw[zF];omega) oM) ?_;rw[ky,ky];exact .refl
def zAs(a b:BI)(c:a.mag.length<=800000000)(d:b.mag.length<=800000000):CX 185 [wl a,wl b] (i64 (a.v-b.v).sign):=by
 refine zc func185<|wg (zAp a b c d) ?_;have e:=zlk a.v b.v;have f:=zaR a;have g:=zaR b;refine wg (zdd (ofZ (a.v-b.v)) (by rw[zW];omega)) ?_;rw[z5];exact .refl
def zAt(a b:BR)(i:a.len<=100000000)(j:b.len<=100000000):CX 128 [wm a,wm b] (i64 (zly a.v b.v)):=by
 have e:=zR a;have f:=zR b;have g:=zbD a.v;have h:=zbD b.v;have m:=qE a.v;have n:=qE b.v;have c:=qT a.v;have d:=qT b.v;have k:=qc a.v.num b.v.den;have l:=qc b.v.num a.v.den;refine zc func128<|wc<|wg (kK a oM)<|wg (kK b oM)<|wc<|wg (zde (ofQ a.v).num (ofQ b.v).den oM oM) ?_;refine wg (zde (ofQ b.v).num (ofQ a.v).den oM oM) ?_;rw[yG,yG,j7,j7];refine wg (zAs (ofZ (a.v.num*b.v.den)) (ofZ (b.v.num*a.v.den)) (by rw[zW];omega) (by rw[zW];omega)) ?_;rw[z5,z5];exact .refl
def zDT(x:Rat):ofQ (-x)=⟨ofZ (-x.num),ofZ x.den⟩:=by unfold ofQ;rw[Rat.neg_num,Rat.neg_den]
def zGX(a:BR)(d:a.len<=100000000):CX 260 [wm a] (wm (ofQ (-a.v))):=by
 have b:=zR a;have c:=zbD a.v;refine zc func260<|wg (kK a oM)<|wc<|wg (zpD (ofQ a.v).num oM) ?_;rw[yG,zDT];exact .refl
def zGY(a b:BR)(d:a.len<=40000000)(e:b.len<=40000000):CX 187 [wm a,wm b] (wm (ofQ (a.v-b.v))):=by
 have c:=zR b;refine zc func187<|wc<|wg (zGX b oM)<|wg (zel a (ofQ (-b.v)) oM (by rw[zF,zrI];omega)) ?_;rw[ky,←Yc];exact .refl
def bi_eq{a b:BI}{i:Nat}(e:a.neg=true↔b.neg=true)(g:a.mag.length=b.mag.length)(hi:¬i<a.mag.length)(h:∀j,j<i->a.mag[j]?=b.mag[j]?):a=b:=by
 obtain⟨n,m⟩:=a;obtain⟨l,k⟩:=b;have c:n=l:=QG.2 e
 have d:m=k:=KA λj=>by
  by_cases f:j<i
  .exact h j f
  dsimp only at g hi;rw[XH oM,XH oM]
 subst c d;rfl
def zlA(a b:BI)(q:a.mag.length<=100000000):CX 499 [wl a,wl b] (pr (a=b)):=by
 refine zc func499<|Br.mk (λc=>zd λe=>c (by rw[e])) (λc=>?_);have c:=Xa.1 c;intro n o;refine⟨λd=>zd λe=>d (by rw[e]),λd=>?_⟩;have d:=Xa.1 d;refine⟨Nat,λi=>⟨[(5,i64 i),(3,.loc 1 0),(2,.loc 0 0)],[(1,.box 47 (biE b)),(0,.box 47 (biE a))],2,38,0⟩,λi=>i<=a.mag.length/\∀j,j<i->a.mag[j]?=b.mag[j]?,λi=>a.mag.length-i,0,⟨Xh _,λj h=>by omega⟩,zf [0,1],?_⟩
 rintro i ⟨hi,k⟩
 intro p;refine⟨λm=>?_,λm=>zH (bi_eq c oM oM k)⟩;refine wc<|wb λx(l:a.mag[i]?=some x)=>?_;refine wb λy(g:b.mag[i]?=some y)=>?_;refine⟨λf=>zd λe=>?_,λf=>?_⟩
 .subst e;rw[l]at g;cases g;exact f rfl
 have f:=Xa.1 f;have exy:x=y:=Fin.ext oM;refine wa<|⟨i+1,⟨oM,λj r=>?_⟩,zf [0,1],oN⟩
 by_cases e:j=i
 .subst e;rw[l,g,exy]
 exact k j oM
def zDU(a b:BR)(h:a.len<=100000000):CX 497 [wm a,wm b] (pr (a=b)):=by
 have f:a.num.mag.length<=a.len:=Jm _ _;have g:a.den.mag.length<=a.len:=Q9 _ _;refine zc func497<|wg (zlA a.num b.num oM)<|⟨λc=>?_,λc=>zd λe=>c (by rw[e])⟩;refine wg (zlA a.den b.den oM)<|zC ⟨λd=>?_,λe=>by rw[e]⟩
 cases a;cases b;simp_all
def zuf(xs ys:List BR)(o:∀x∈xs,x.len<=100000000):CX 494 [.sl brE xs,.sl brE ys] (pr (xs=ys)):=by
 refine zc func494 λl m=>?_;refine⟨λb=>zd λe=>b (by rw[e]),λb=>?_⟩;have b:=Xa.1 b;refine⟨Nat,λi=>⟨[(5,i64 i),(0,.sl brE xs),(1,.sl brE ys)],[],0,27,0⟩,λi=>i<=xs.length/\∀j,j<i->xs[j]?=ys[j]?,λi=>xs.length-i,0,⟨Xh _,λj h=>by omega⟩,zB [],?_⟩
 rintro i ⟨hi,g⟩
 intro n;refine⟨λk=>?_,λk=>?_⟩
 .refine wc<|wb λx(a:xs[i]?=some x)=>?_;refine wb λy(d:ys[i]?=some y)=>?_;refine wg (zDU x y (o x (Xf a)))<|⟨λc=>zd λe=>?_,λc=>?_⟩
  .subst e;rw[a]at d;cases d;exact c rfl
  have exy:=Xa.1 c;refine wa<|⟨i+1,⟨oM,λj f=>?_⟩,zB [],oN⟩
  by_cases e:j=i
  .subst e;rw[a,d,exy]
  exact g j oM
 refine zH (KA λj=>?_)
 by_cases f:j<i
 .exact g j f
 rw[XH oM,XH oM]
def zfg{x y:Rat}(h:ofQ x=ofQ y):x=y:=by rw[←ky x,←ky y,h]
def zxK{t:AF}{n:Nat}(h:t.le n):∀x∈za1 t,x.len<=n:=λx a=>by
 obtain⟨b,c,d,e,f,g⟩:=h;simp only[za1,XA,XW,or_false]at a
 rcases a with rfl|rfl|rfl|rfl|rfl|rfl <;> assumption
def zug(t u:AF)(ht:t.le 100000000):CX 482 [.agg (afE t),.agg (afE u)] (pr (za1 t=za1 u)):=by
 exact zc func482<|wc<|wg (ziG t)<|wg (ziG u)<|wg (zuf (za1 t) (za1 u) (zxK ht))<|zC Qk
def zfT(t:AF)(ht:t.le 100000000):CX 483 [.agg (afE t)] (.agg (afE t.nrm)):=by
 obtain⟨g,h,i,j,k,l⟩:=ht;refine zc func483<|wc<|wg (kK t.a oM)<|wg (kK t.b oM)<|wg (kK t.c oM)<|wg (kK t.d oM) ?_;exact wg (kK t.e oM)<|wg (kK t.f oM)<|.refl
def zAu{t u:AF}:za1 t.nrm=za1 u.nrm↔t.same u:=by
 constructor
 .intro h;simp only[za1,AF.nrm,List.cons.injEq,and_true]at h;exact⟨zfg h.1,zfg h.2.1,zfg h.2.2.1,zfg h.2.2.2.1,zfg h.2.2.2.2.1,zfg h.2.2.2.2.2⟩
 rintro⟨a,b,c,d,e,f⟩
 simp only[za1,AF.nrm,a,b,c,d,e,f]
def zxL(t u:AF)(ht:t.le 10000000)(b:u.le 10000000):CX 444 [.agg (afE t),.agg (afE u)] (pr (t.same u)):=by
 have a:=AF.le_len ht;obtain⟨c,d,e,f,g,h⟩:=ht;obtain⟨ka,kb,kc,kd,ke,kf⟩:=b;obtain⟨na,nb,nc,nd,ne,nf⟩:=a;exact zc func444<|wc<|wg (zfT t ⟨oM,oM,oM,oM,oM,oM⟩)<|wg (zfT u ⟨oM,oM,oM,oM,oM,oM⟩)<|wg (zug t.nrm u.nrm ⟨oM,oM,oM,oM,oM,oM⟩)<|zC zAu
def zvQ(t:AF)(ht:t.le 10000000):CX 129 [.agg (afE t)] (wm (ofQ (zbT t))):=by
 obtain⟨e,f,g,h,i,j⟩:=ht;have k:=zR t.a;have l:=zR t.b;have m:=zR t.c;have n:=zR t.d;have o:=yN t.a.v t.d.v;have p:=yN t.b.v t.c.v;refine zc func129<|wc<|wg (zpE t.a t.d oM oM)<|wg (zpE t.b t.c oM oM)<|wg (zGY (ofQ (t.a.v*t.d.v)) (ofQ (t.b.v*t.c.v)) (by rw[zF];omega) (by rw[zF];omega)) ?_;rw[ky,ky];exact .refl
def zrM(t u:AF)(ht:t.le 1000000)(i:u.le 1000000):CX 219 [.agg (afE t),.agg (afE u)] (.agg (afE (beh t u))):=by
 obtain⟨j,k,l,m,g,h⟩:=ht;obtain⟨ka,kb,kc,kd,ke,kf⟩:=i;have n:=qX u.a t.e u.c t.f u.e ka g kc h ke;have o:=qX u.b t.e u.d t.f u.f kb g kd h kf;refine zc func219<|wc<|wg (zb4 u.a t.a u.c t.b oM oM oM oM)<|wg (zb4 u.b t.a u.d t.b oM oM oM oM)<|wg (zb4 u.a t.c u.c t.d oM oM oM oM)<|wg (zb4 u.b t.c u.d t.d oM oM oM oM) ?_;refine wg (zb4 u.a t.e u.c t.f oM oM oM oM)<|wg (zel (ofQ (u.a.v*t.e.v+u.c.v*t.f.v)) u.e (by rw[zF];omega) oM) ?_
 refine wg (zb4 u.b t.e u.d t.f oM oM oM oM)<|wg (zel (ofQ (u.b.v*t.e.v+u.d.v*t.f.v)) u.f (by rw[zF];omega) oM) ?_;rw[ky,ky];exact .refl
def zBR:BR:=⟨⟨false,[]⟩,⟨false,[]⟩⟩
def qJ:AF:=⟨zBR,zBR,zBR,zBR,zBR,zBR⟩
def zBR_v:zBR.v=0:=by decide +kernel
def y5:LEs [bl false,nS,bl false,nS] (brE zBR):=
 .cons (zd dC) (.cons zD (.cons (zd dC) (.cons zD .nil)))
def LEs.append:∀{xs bs a b:LR},LEs xs bs->LEs a b->LEs (xs++a) (bs++b)
 |[],[],_,_,_,h=>h
 |_::_,_::_,_,_,.cons h c,k=>.cons h (LEs.append c k)
def z4:LR:=[bl false,nS,bl false,nS]
def zcD:LE (.agg um) (.agg (afE qJ)):=by
 have y5:LEs z4 (brE zBR):=y5;have h:LE (.agg (z4++(z4++(z4++(z4++(z4++z4)))))) (.agg (afE qJ)):=jk (LEs.append y5 (LEs.append y5 (LEs.append y5 (LEs.append y5 (LEs.append y5 y5)))));exact h
def idA:AF:=afQ ((1:Int):Rat) ((0:Int):Rat) ((0:Int):Rat) ((1:Int):Rat) ((0:Int):Rat) ((0:Int):Rat)
def zAv:idA.le 2:=⟨by decide +kernel,by decide +kernel,by decide +kernel,by decide +kernel,by decide +kernel,by decide +kernel⟩
def zpF(t u:AF):(beh t u).nrm=beh t u:=by
 unfold beh AF.nrm afQ;simp only[ky]
def zxM{t u:AF}(h:(beh t u).ok):(beh t u).le 8:=by
 have:=ok_le (t:=beh t u) (by rw[zpF];exact h)
 rwa [zpF]at this
def AF.le.up{t:AF}{n m:Nat}(h:t.le n)(k:n<=m):t.le m:=by
 obtain⟨a,b,c,d,e,f⟩:=h;exact⟨oM,oM,oM,oM,oM,oM⟩
def zpG(a b c d:Int)(e f:BR)(g:R64 a)(h:R64 b)(i:R64 c)(j:R64 d)(k:e.len<=100000000)(l:f.len<=100000000):
  CX 83 [i64 a,i64 b,i64 c,i64 d,wm e,wm f] (.agg (afE (afQ a b c d e.v f.v))):=by
 refine zc func83<|wc<|wg (yH a g)<|wg (yH b h)<|wg (yH c i)<|wg (yH d j) ?_;exact wg (kK e oM)<|wg (kK f oM)<|.refl
def zGZ:zBR.v=((0:Int):Rat):=by decide +kernel
def za9:CX 45 [] (.agg (afE idA)):=by
 refine zc func45 ?_
 refine zb.to _ ((zpG 1 0 0 1 zBR zBR dC dC dC dC dC dC).args
  (.C (.C (.C (.C (.cons (jk y5) (.cons (jk y5) .nil))))))) rfl ?_
 rw[zGZ];exact .refl
def kZ(n lo hi:Int):Int:=if n<lo then lo else if hi<n then hi else n
def zpH(n lo hi:Int):CX 170 [i64 n,i64 lo,i64 hi] (i64 (kZ n lo hi)):=by
 refine zc func170<|Br.mk (λh=>?_) (λh=>?_)
 .exact ze (by simp[kZ,h])
 refine⟨λa=>?_,λa=>?_⟩
 .exact ze (by simp[kZ,h,a])
 exact ze (by simp[kZ,h,a])
def zem{n lo hi:Int}(_:lo<=hi):kZ n lo hi=n↔lo<=n/\n<=hi:=by
 unfold kZ;split <;> (try split) <;> omega
structure Pt where
 x:Int
 y:Int
 deriving DecidableEq
def ptE(p:Pt):LR:=[i64 p.x,i64 p.y]
def zp:Pt:=⟨0,0⟩
def zm(p:Pt):Prop:=(-1048576<=p.x/\p.x<=1048576)/\(-1048576<=p.y/\p.y<=1048576)
instance (p:Pt):Decidable (zm p):=wi
def qp{p q:Pt}:(p.x=q.x/\p.y=q.y/\True)↔p=q:=by
 cases p;cases q;simp
def zAw(n:Int):CX 167 [i64 n] (i64 (kZ n (-1048576) 1048576)):=by
 exact zc func167<|wg (zpH n _ _)<|.refl
def zAx(p:Pt):CX 117 [.agg (ptE p)] (.agg [i64 (kZ p.x (-1048576) 1048576),i64 (kZ p.y (-1048576) 1048576)]):=by
 exact zc func117<|wc<|wg (zAw p.x)<|wg (zAw p.y)<|.refl
def qe(p:Pt):CX 70 [.agg (ptE p)] (pr (zm p)):=by
 refine zc func70<|wc<|wg (zAx p)<|zC (p:=kZ p.x (-1048576) 1048576=p.x/\kZ p.y (-1048576) 1048576=p.y/\True) ?_;rw[zem dC,zem dC];exact⟨λh=>⟨h.1,h.2.1⟩,λh=>⟨h.1,h.2,tV⟩⟩
def ki(p:Pt):CX 96 [.agg (ptE p)] (pr (zm p)):=by
 refine zc func96<|Br.mk (λa=>?_) (λa=>zd (λh=>a h.1.1));refine⟨λb=>?_,λb=>zd (λh=>b h.1.2)⟩;refine⟨λc=>?_,λc=>zd (λh=>c h.2.1)⟩;exact zC ⟨λd=>⟨⟨a,b⟩,⟨c,d⟩⟩,λh=>h.2.2⟩
def hI(n:Int):Int:=kZ n (-1048576) 1048576
def jF(p:Pt):Pt:=⟨hI p.x,hI p.y⟩
def qq(n:Int): -1048576<=hI n/\hI n<=1048576:=by unfold hI kZ;split <;> (try split) <;> omega
def zb5{n:Int}(h: -1048576<=n/\n<=1048576):hI n=n:=(zem dC).2 h
def jz(p:Pt):zm (jF p):=⟨qq _,qq _⟩
def zad{p:Pt}(h:zm p):jF p=p:=by
 cases p;unfold jF;rw[zb5 h.1,zb5 h.2]
def zA(p q:Pt):Pt:=⟨p.x+q.x,p.y+q.y⟩
def zo(p q:Pt):Pt:=⟨p.x-q.x,p.y-q.y⟩
def addP(p q:Pt):Pt:=zA (jF p) (jF q)
def zae(p q:Pt):Pt:=zo (jF p) (jF q)
def perpP(p:Pt):Pt:=⟨-hI p.y,hI p.x⟩
def wdg(p q:Pt):Int:=p.x*q.y-p.y*q.x
def dtp(p q:Pt):Int:=p.x*q.x+p.y*q.y
def zaT(p q:Pt):Int:=wdg (jF p) (jF q)
def zj1(p q:Pt):Int:=dtp (jF p) (jF q)
def sgn(n:Int):Int:=if n<0 then-1 else if 0<n then 1 else 0
def zxN(n:Int):kZ n (-1) 1=sgn n:=by unfold kZ sgn;split <;> (try split) <;> (try split) <;> omega
def jG{a b A B:Int}(k: -A<=a/\a<=A)(l: -B<=b/\b<=B): -(A*B)<=a*b/\a*b<=A*B:=by
 have g:=XI (show 0<=A-a by omega) (show 0<=B-b by omega);have h:=XI (show 0<=A-a by omega) (show 0<=B+b by omega);have i:=XI (show 0<=A+a by omega) (show 0<=B-b by omega);have j:=XI (show 0<=A+a by omega) (show 0<=B+b by omega);have c:(A-a)*(B-b)=A*B-A*b-a*B+a*b:=by grind
 have d:(A-a)*(B+b)=A*B+A*b-a*B-a*b:=by grind
 have e:(A+a)*(B-b)=A*B-A*b+a*B-a*b:=by grind
 have f:(A+a)*(B+b)=A*B+A*b+a*B+a*b:=by grind
 omega
def zfh{p q:Pt}(a:zm p)(b:zm q): -2199023255552<=dtp p q/\dtp p q<=2199023255552/\(-1099511627776<=p.x*q.x/\p.x*q.x<=1099511627776)/\(-1099511627776<=p.y*q.y/\p.y*q.y<=1099511627776):=by
 have c:=jG a.1 b.1;have d:=jG a.2 b.2;unfold dtp;omega
def zcE{p q:Pt}(a:zm p)(b:zm q): -2199023255552<=wdg p q/\wdg p q<=2199023255552/\(-1099511627776<=p.x*q.y/\p.x*q.y<=1099511627776)/\(-1099511627776<=p.y*q.x/\p.y*q.x<=1099511627776):=by
 have c:=jG a.1 b.2;have d:=jG a.2 b.1;unfold wdg;omega
def jn(x:Int):0<=x*x:=by
 rcases Ju 0 x with h|h
 .exact XI h h
 have:=XI (show 0<= -x by omega) (show 0<= -x by omega)
 rwa [Int.neg_mul_neg]at this
def sqL(n:Int):Nat->Int->Int
 |0,s=>s
 |k+1,s=>sqL n k (if (s+2^k)*(s+2^k)<=n then s+2^k else s)
def isq(n:Int):Int:=sqL n 32 0
def zlB(n:Int):∀(k:Nat) (s:Int),0<=s->s*s<=n->n<(s+2^k)*(s+2^k)->0<=sqL n k s/\sqL n k s*sqL n k s<=n/\n<(sqL n k s+1)*(sqL n k s+1)
 |0,s,a,b,c=>by simp only[sqL];exact⟨a,b,by simpa using c⟩
 |k+1,s,a,b,c=>by
  have d:(0:Int)<2^k:=Int.pow_pos dC;have e:(2:Int)^(k+1)=2^k+2^k:=by rw[Int.pow_succ];omega
  simp only[sqL]
  split
  .rename_i h;refine zlB n k _ oM h ?_;rw[e]at c
   rwa [YR]
  rename_i h;exact zlB n k _ a b oM
def zhj{n:Int}(a:0<=n)(h:n<18446744073709551616):0<=isq n/\isq n*isq n<=n/\n<(isq n+1)*(isq n+1):=
 zlB n 32 0 dC (by simpa using a) (by simpa using h)
def zAy{n:Int}(b:0<=n)(h:n<18446744073709551616):isq n<4294967296:=by
 have c:=zhj b h;refine Int.not_le.1 λa=>?_
 have:=J5 a a dC c.1;omega
def sq_le{a b:Int}(d:0<=b)(h:a*a<=b*b):a<=b:=by
 refine JJ.1 λf=>?_
 have c:=J5 (show b+1<=a by omega) (show b+1<=a by omega) oM oM;have e:(b+1)*(b+1)=b*b+2*b+1:=by grind
 omega
def zuh{n a:Int}(b:0<=n)(h:n<18446744073709551616)(c:a*a<=n):a<=isq n:=by
 have d:=zhj b h;have:a<=isq n+1:=sq_le oM oM
 by_cases e:a=isq n+1
 .subst e;omega
 omega
def zrN(p:Pt):Int:=isq (65536*zj1 p p)
def zen(a b:Int):Int:=(2*a+b)/(2*b)
def uO(a b:Pt)(n d:Int):Pt:=
 if d<1∨1099511627776<d then jF a
 else⟨hI a.x+z8 (kZ n 0 d*(hI b.x-hI a.x)) d,hI a.y+z8 (kZ n 0 d*(hI b.y-hI a.y)) d⟩
def zpI(r:List Pt):Prop:=(r.length:Int)<=4096/\∀p∈r,zm p
instance (r:List Pt):Decidable (zpI r):=wi
def vk(r:List Pt)(n:Nat):Int:=((List.range n).map λi=>zaT (r.getD i zp) (r.getD ((i+1)%r.length) zp)).sum
def zcF(r:List Pt):Int:=if zpI r then vk r r.length else 0
def zvR(r:List Pt):List Pt:=match r with
 |[]=>[]
 |p::q=>p::q.reverse
def kH(r:List Pt):List Pt:=if zcF r=0 then[] else if zcF r<0 then zvR r else r
def zgj(r:List Pt)(n:Nat):vk r (n+1)=vk r n+zaT (r.getD n zp) (r.getD ((n+1)%r.length) zp):=by
 unfold vk;rw[KH,Xz,QW];simp
def zjE(r:List Pt)(n:Nat): -(2199023255552*(n:Int))<=vk r n/\vk r n<=2199023255552*(n:Int):=by
 induction n with
 |zero=>exact⟨by show _<=(0:Int);decide,by show(0:Int)<=_;decide⟩
 |succ n a=>
  rw[zgj];have:=zcE (jz (r.getD n zp)) (jz (r.getD ((n+1)%r.length) zp));unfold zaT;omega
def zui(r:List Pt):(kH r).length=0∨(kH r).length=r.length:=by
 unfold kH
 split
 .exact .inl rfl
 split
 .right;unfold zvR;split <;> simp
 exact .inr rfl
def kq(w:Int):Prop:=1<=w/\w<=16384
instance (w:Int):Decidable (kq w):=wi
def zbU(n:Int):Prop:=n < -2097152∨2097152<n
instance (n:Int):Decidable (zbU n):=wj
def z7(v:Pt)(w:Int):Pt:=
 if¬kq w∨zbU v.x∨zbU v.y∨v=zp then zp
 else⟨z8 (-v.y*w*128) (isq (65536*(v.x*v.x+v.y*v.y))),z8 (v.x*w*128) (isq (65536*(v.x*v.x+v.y*v.y)))⟩
def j8(a b:Pt)(w:Int):List Pt:=
 if¬(kq w/\zm a/\zm b) then[]
 else kH [zo a (z7 (zo b a) w),zo b (z7 (zo b a) w),zA b (z7 (zo b a) w),zA a (z7 (zo b a) w)]
def yi:List Pt:=[⟨16384,0⟩,⟨15137,6270⟩,⟨11585,11585⟩,⟨6270,15137⟩,⟨0,16384⟩,⟨-6270,15137⟩,⟨-11585,11585⟩,⟨-15137,6270⟩,
 ⟨-16384,0⟩,⟨-15137,-6270⟩,⟨-11585,-11585⟩,⟨-6270,-15137⟩,⟨0,-16384⟩,⟨6270,-15137⟩,⟨11585,-11585⟩,⟨15137,-6270⟩]
def vZ(p:Pt)(w:Int):List Pt:=
 if¬(kq w/\zm p) then[] else kH (yi.map λq=>zA p ⟨z8 (q.x*w) 32768,z8 (q.y*w) 32768⟩)
def zlC(a b:Pt)(w:Int):List Pt:=
 if¬(kq w/\zm a/\zm b) then[]
 else
  let n:=z7 (zo b a) w
  let e:Pt:=⟨n.y,-n.x⟩
  kH [zo b n,zA (zo b n) e,zA (zA b n) e,zA b n]
def zeo(p:Pt)(w:Int):List Pt:=
 if¬(kq w/\zm p) then[]
 else kH [⟨p.x-z8 w 2,p.y-z8 w 2⟩,⟨p.x+z8 w 2,p.y-z8 w 2⟩,⟨p.x+z8 w 2,p.y+z8 w 2⟩,⟨p.x-z8 w 2,p.y+z8 w 2⟩]
structure Pen where
 w:Int
 j:Int
 c:Int
 m:Int
 d:LV
 ph:Int
def uG(l:LV):Prop:=(∀n∈l,0<=n/\n<=1048576)/\(l=[]∨∃n∈l,0<n)/\l.length%2=0/\(l.length:Int)<=16
instance (l:LV):Decidable (uG l):=wi
def kF(p:Pen):Prop:=kq p.w/\(p.j=1∨p.j=2∨p.j=3)/\(p.c=3∨p.c=4∨p.c=5)/\(256<=p.m/\p.m<=65536)/\uG p.d/\(0<=p.ph/\p.ph<=1048576)
instance (p:Pen):Decidable (kF p):=wi
def u5(n m:Pt)(w a:Int):Pt×Bool:=
 if¬(zm n/\zm m/\kq w/\256<=a/\a<=65536) then(zp,false)
 else
  let s:=zA n m
  let q:=s.x*s.x+s.y*s.y
  if q=0∨a*a*q<256*w*(256*w) then(zp,false) else(⟨z8 (s.x*w*w) (2*q),z8 (s.y*w*w) (2*q)⟩,true)
def ziH(p:Pt):Pt:=⟨-p.x,-p.y⟩
def qA(a v b:Pt)(w:Int):Pt×Pt×Bool:=
 if¬(zm a/\zm v/\zm b/\kq w) then(zp,zp,false)
 else
  let x:=zo v a
  let y:=zo b v
  if wdg x y=0 then(zp,zp,false) else if 0<wdg x y then(ziH (z7 x w),ziH (z7 y w),true) else(z7 x w,z7 y w,true)
def kS(r:List Pt):List (List Pt):=if r=[] then[] else[r]
def jh(a v b:Pt)(p:Pen):List (List Pt):=
 if¬(kF p/\zm a/\zm v/\zm b/\¬v=a/\¬v=b) then[]
 else if p.j=3 then kS (vZ v p.w)
 else if (qA a v b p.w).2.2=false then[]
 else
  let n:=(qA a v b p.w).1
  let m:=(qA a v b p.w).2.1
  kS (kH (if p.j=1/\(u5 n m p.w p.m).2=true then[v,zA v n,zA v (u5 n m p.w p.m).1,zA v m] else[v,zA v n,zA v m]))
abbrev wk(x:Pt):SV:=.agg (ptE x)
abbrev wo(x:AF):SV:=.agg (afE x)
abbrev LQ:=List (List Pt)
abbrev LU:=List Pt
end Go.Gs
