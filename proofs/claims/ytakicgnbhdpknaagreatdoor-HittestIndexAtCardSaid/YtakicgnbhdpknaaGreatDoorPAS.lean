/- Transforms, the program's. -/
import Derived.Test.YtakicgnbhdpknaaGreatDoorPAR
set_option maxRecDepth 100000
set_option maxHeartbeats 8000000
set_option linter.all false
namespace Go.Gs
open Proofs.Tryz
open Go.Proofs
structure AF where
 a:BR
 b:BR
 c:BR
 d:BR
 e:BR
 f:BR
def afE(t:AF):LR:=brE t.a++(brE t.b++(brE t.c++(brE t.d++(brE t.e++brE t.f))))
def AF.le(t:AF)(n:Nat):Prop:=t.a.len<=n/\t.b.len<=n/\t.c.len<=n/\t.d.len<=n/\t.e.len<=n/\t.f.len<=n
def AF.nth(t:AF):Nat->BR
 |0=>t.a
 |1=>t.b
 |2=>t.c
 |3=>t.d
 |4=>t.e
 |_=>t.f
def stage(t:AF):Nat->AF
 |0=>t
 |1=>{ t with a:=ofQ t.a.v }
 |2=>{ t with a:=ofQ t.a.v,b:=ofQ t.b.v }
 |3=>{ t with a:=ofQ t.a.v,b:=ofQ t.b.v,c:=ofQ t.c.v }
 |4=>{ t with a:=ofQ t.a.v,b:=ofQ t.b.v,c:=ofQ t.c.v,d:=ofQ t.d.v }
 |5=>{ t with a:=ofQ t.a.v,b:=ofQ t.b.v,c:=ofQ t.c.v,d:=ofQ t.d.v,e:=ofQ t.e.v }
 |_=>⟨ofQ t.a.v,ofQ t.b.v,ofQ t.c.v,ofQ t.d.v,ofQ t.e.v,ofQ t.f.v⟩
def AF.nrm(t:AF):AF:=⟨ofQ t.a.v,ofQ t.b.v,ofQ t.c.v,ofQ t.d.v,ofQ t.e.v,ofQ t.f.v⟩
def uh:LR:=(List.replicate 12 [bl false,nS]).flatten
def ze1(t:AF)(ht:t.le 400000000):CX 258 [.agg (afE t)] (.agg (afE t.nrm)):=by
 obtain⟨g,j,k,l,m,n⟩:=ht;refine zc func258 ?_
 refine⟨Nat,λi=>⟨[(20,i64 i),(19,.agg (afE t)),(3,.loc 2 0),(2,.loc 1 0)],[(2,.box 281 (afE (stage t i))),(1,.box 281 uh),(0,.box 57 (afE t))],3,30,0⟩,
  λi=>i<=6,λi=>6-i,0,Xh _,zf [0,1,2],?_⟩
 intro i hi;have hi:i=0∨i=1∨i=2∨i=3∨i=4∨i=5∨i=6:=by have hi:i<=6:=hi;omega
 rcases hi with rfl|rfl|rfl|rfl|rfl|rfl|rfl
 .exact we<|wg (qW t.a g)<|Ar.fit dC<|⟨1,(by show 1<=6;decide),zf [0,1,2],dC⟩
 .exact we<|wg (qW t.b j)<|Ar.fit dC<|⟨2,(by show 2<=6;decide),zf [0,1,2],dC⟩
 .exact we<|wg (qW t.c k)<|Ar.fit dC<|⟨3,(by show 3<=6;decide),zf [0,1,2],dC⟩
 .exact we<|wg (qW t.d l)<|Ar.fit dC<|⟨4,(by show 4<=6;decide),zf [0,1,2],dC⟩
 .exact we<|wg (qW t.e m)<|Ar.fit dC<|⟨5,(by show 5<=6;decide),zf [0,1,2],dC⟩
 .exact we<|wg (qW t.f n)<|Ar.fit dC<|⟨6,(by show 6<=6;decide),zf [0,1,2],dC⟩
 refine⟨λh=>absurd h dC,λ_=>?_⟩;exact .refl
def ztH(t:AF):CX 302 [.agg (afE t)] (.agg (afE t)):=by
 exact zc func302<|zgz.own<|.refl
def okI(t:AF):LI
 |0=>True
 |k+1=>okI t k/\zcq (t.nth k).v<=256
def AF.ok(t:AF):Prop:=okI t 6
instance (t:AF):∀n,Decidable (okI t n):=λn=>by
 induction n with
 |zero=>exact isTrue trivial
 |succ k a=>unfold okI;exact instDecidableAnd
instance (t:AF):Decidable t.ok:=inferInstanceAs (Decidable (okI t 6))
def zg1(t:AF)(ht:t.le 100000000):CX 184 [.agg (afE t)] (pr t.ok):=by
 have k:=ht;obtain⟨l,m,n,o,p,q⟩:=ht;refine zc func184<|wg (ze1 t ⟨oM,oM,oM,oM,oM,oM⟩)<|⟨Nat,λi=>⟨[(6,.agg (afE t.nrm)),(7,i64 i)],[],1,14,0⟩,λi=>i<=6/\okI t i,λi=>6-i,0,⟨Xh _,tV⟩,?_,?_⟩
 .exact zC []
 rintro i ⟨hi,ok⟩
 have hi:i=0∨i=1∨i=2∨i=3∨i=4∨i=5∨i=6:=oM
 rcases hi with rfl|rfl|rfl|rfl|rfl|rfl|rfl
 .refine we ?_;have j:=zQ t.a;refine wg (zcr (ofQ t.a.v) (by rw[zF];omega)) ?_;rw[kw];refine⟨λh=>zd (λg=>?_),λh=>?_⟩
  .simp only[AF.ok,okI,AF.nth]at g;omega
  exact Ar.fit dC<|⟨1,⟨(by show 1<=6;decide),ok,(by show zcq t.a.v<=256;omega)⟩,zC [],dC⟩
 .refine we ?_;have j:=zQ t.b;refine wg (zcr (ofQ t.b.v) (by rw[zF];omega)) ?_;rw[kw];refine⟨λh=>zd (λg=>?_),λh=>?_⟩
  .simp only[AF.ok,okI,AF.nth]at g;omega
  exact Ar.fit dC<|⟨2,⟨(by show 2<=6;decide),ok,(by show zcq t.b.v<=256;omega)⟩,zC [],dC⟩
 .refine we ?_;have j:=zQ t.c;refine wg (zcr (ofQ t.c.v) (by rw[zF];omega)) ?_;rw[kw];refine⟨λh=>zd (λg=>?_),λh=>?_⟩
  .simp only[AF.ok,okI,AF.nth]at g;omega
  exact Ar.fit dC<|⟨3,⟨(by show 3<=6;decide),ok,(by show zcq t.c.v<=256;omega)⟩,zC [],dC⟩
 .refine we ?_;have j:=zQ t.d;refine wg (zcr (ofQ t.d.v) (by rw[zF];omega)) ?_;rw[kw];refine⟨λh=>zd (λg=>?_),λh=>?_⟩
  .simp only[AF.ok,okI,AF.nth]at g;omega
  exact Ar.fit dC<|⟨4,⟨(by show 4<=6;decide),ok,(by show zcq t.d.v<=256;omega)⟩,zC [],dC⟩
 .refine we ?_;have j:=zQ t.e;refine wg (zcr (ofQ t.e.v) (by rw[zF];omega)) ?_;rw[kw];refine⟨λh=>zd (λg=>?_),λh=>?_⟩
  .simp only[AF.ok,okI,AF.nth]at g;omega
  exact Ar.fit dC<|⟨5,⟨(by show 5<=6;decide),ok,(by show zcq t.e.v<=256;omega)⟩,zC [],dC⟩
 .refine we ?_;have j:=zQ t.f;refine wg (zcr (ofQ t.f.v) (by rw[zF];omega)) ?_;rw[kw];refine⟨λh=>zd (λg=>?_),λh=>?_⟩
  .simp only[AF.ok,okI,AF.nth]at g;omega
  exact Ar.fit dC<|⟨6,⟨(by show 6<=6;decide),ok,(by show zcq t.f.v<=256;omega)⟩,zC [],dC⟩
 refine⟨λh=>absurd h dC,λ_=>?_⟩;exact zH ok
def zik(a b c d:BR)(e:a.len<=10000000)(f:b.len<=10000000)(g:c.len<=10000000)(h:d.len<=10000000):
  CX 303 [wm a,wm b,wm c,wm d] (wm (ofQ (a.v*b.v+c.v*d.v))):=by
 have i:=zQ a;have j:=zQ b;have k:=zQ c;have l:=zQ d;have m:=yK a.v b.v;have n:=yK c.v d.v;refine zc func303<|wc<|wg (zvd a b oM oM)<|wg (zvd c d oM oM)<|wg (zrd (ofQ (a.v*b.v)) (ofQ (c.v*d.v)) (by rw[zF];omega) (by rw[zF];omega)) ?_;rw[kw,kw];exact .refl
def vU(t:AF)(x y:Rat):Rat:=t.a.v*x+t.c.v*y+t.e.v
def vV(t:AF)(x y:Rat):Rat:=t.b.v*x+t.d.v*y+t.f.v
def qU(a b c d e:BR){n:Nat}(f:a.len<=n)(g:b.len<=n)(h:c.len<=n)(i:d.len<=n)(j:e.len<=n):yW (a.v*b.v+c.v*d.v)<=4*n+5/\yW (a.v*b.v+c.v*d.v+e.v)<=5*n+7:=by
 have k:=zQ a;have l:=zQ b;have m:=zQ c;have o:=zQ d;have p:=zQ e;have q:=yK a.v b.v;have r:=yK c.v d.v;have s:=zbz (a.v*b.v) (c.v*d.v);have t:=zbz (a.v*b.v+c.v*d.v) e.v;omega
def zvf(t:AF)(x y:BR)(ht:t.le 5000000)(g:x.len<=5000000)(h:y.len<=5000000):
  CX 301 [.agg (afE t),wm x,wm y] (.tup [wm (ofQ (vU t x.v y.v)),wm (ofQ (vV t x.v y.v))]):=by
 obtain⟨i,j,k,l,m,n⟩:=ht;have o:=qU t.a x t.c y t.e i g k h m;have p:=qU t.b x t.d y t.f j g l h n;refine zc func301<|wc<|wg (zik t.a x t.c y oM oM oM oM)<|wg (zrd (ofQ (t.a.v*x.v+t.c.v*y.v)) t.e (by rw[zF];omega) oM)<|wg (zik t.b x t.d y oM oM oM oM)<|wg (zrd (ofQ (t.b.v*x.v+t.d.v*y.v)) t.f (by rw[zF];omega) oM) ?_;rw[kw,kw];exact .refl
def afQ(a b c d e f:Rat):AF:=⟨ofQ a,ofQ b,ofQ c,ofQ d,ofQ e,ofQ f⟩
def zF2(a b c d:Int)(e:R64 a)(f:R64 b)(g:R64 c)(h:R64 d):CX 300 [i64 a,i64 b,i64 c,i64 d] (.agg (afE (afQ a b c d ((0:Int):Rat) ((0:Int):Rat)))):=by
 refine zc func300<|wg (yR a e)<|wg (yR b f)<|wg (yR c g)<|wg (yR d h)<|wg (yR 0 dC) ?_;exact wg (yR 0 dC)<|wg (ztH (afQ a b c d ((0:Int):Rat) ((0:Int):Rat)))<|.refl
def ztI:CX 240 [] (.agg (afE (afQ ((1:Int):Rat) ((0:Int):Rat) ((0:Int):Rat) ((1:Int):Rat) ((0:Int):Rat) ((0:Int):Rat)))):=by
 exact zc func240<|wg (zF2 1 0 0 1 dC dC dC dC)<|.refl
def z_cmp(a b:BI)(c:a.mag.length<=800000000)(d:b.mag.length<=800000000):CX 328 [wl a,wl b] (i64 (a.v-b.v).sign):=by
 refine zc func328<|wg (zrb a b c d) ?_;have e:=zkY a.v b.v;have f:=zaQ a;have g:=zaQ b;refine wg (zk6 (ofZ (a.v-b.v)) (by rw[zV];omega)) ?_;rw[z5];exact .refl
def zlc(x y:Rat):Int:=(x.num*y.den-y.num*x.den).sign
def zre{z:Int}:0<=z.sign↔0<=z:=by
 rcases Qk z 0 with h|h|h
 .rw[Km h];omega
 .subst h;decide
 rw[Ku h];omega
def zpc{x y:Rat}:0<=zlc x y↔y<=x:=by
 rw[Rat.le_iff];unfold zlc;rw[zre];omega
def zzI(x y:Rat):zlc y x= - zlc x y:=by
 unfold zlc;rw[show y.num*x.den-x.num*y.den= -(x.num*y.den-y.num*x.den) by omega,Int.sign_neg]
def zvg{x y:Rat}:zlc x y<=0↔x<=y:=by
 have:=zpc (x:=y) (y:=x);rw[zzI]at this;rw[←this];omega
def zjj(a b:BR)(g:a.len<=100000000)(h:b.len<=100000000):CX 260 [wm a,wm b] (i64 (zlc a.v b.v)):=by
 have e:=zQ a;have f:=zQ b;have k:=qB a.v;have l:=qB b.v;have c:=qR a.v;have d:=qR b.v;have i:=k9 a.v.num b.v.den;have j:=k9 b.v.num a.v.den;refine zc func260<|wg (zpb a b oM oM)<|wg (z_cmp (ofZ (a.v.num*b.v.den)) (ofZ (b.v.num*a.v.den)) (by rw[zV];omega) (by rw[zV];omega)) ?_;rw[z5,z5];exact .refl
def q_sub(a b:BR)(g:a.len<=50000000)(h:b.len<=50000000):CX 329 [wm a,wm b] (wm (ofQ (a.v-b.v))):=by
 have e:=zQ a;have f:=zQ b;have m:=qB a.v;have n:=qB b.v;have c:=qR a.v;have d:=qR b.v;have i:=k9 a.v.num b.v.den;have j:=k9 b.v.num a.v.den;have k:=k9 a.v.den b.v.den;have l:=zkY (a.v.num*b.v.den) (b.v.num*a.v.den);refine zc func329<|wg (zpb a b oM oM)<|wc<|wg (zrb (ofZ (a.v.num*b.v.den)) (ofZ (b.v.num*a.v.den)) (by rw[zV];omega) (by rw[zV];omega)) ?_;rw[z5,z5]
 refine wg (zg0 (ofZ (a.v.num*b.v.den-b.v.num*a.v.den)) (ofZ (a.v.den*b.v.den)) (by rw[zV];omega) (by rw[zV];omega) (by rw[z5];exact u0 _ _)) ?_;rw[z5,z5,zzH];exact .refl
def zrf(x:Rat):yW (-x)=yW x:=by
 unfold yW;rw[Rat.neg_num,Rat.neg_den,zax]
def zzJ(x y:Rat):yW (x-y)<=yW x+yW y+1:=by
 have:=zbz x (-y);rw[zrf,←J6]at this;exact this
def AF.same(t u:AF):Prop:=t.a.v=u.a.v/\t.b.v=u.b.v/\t.c.v=u.c.v/\t.d.v=u.d.v/\t.e.v=u.e.v/\t.f.v=u.f.v
instance (t u:AF):Decidable (t.same u):=wi
def ya{x y:Rat}:zlc x y=0↔x=y:=by
 constructor
 .intro h;exact Rat.le_antisymm (zvg.1 oM) (zpc.1 oM)
 rintro rfl
 unfold zlc;rw[Int.sub_self];rfl
def AF.le_len{t:AF}{n:Nat}(h:t.le n):t.nrm.le (max n 1):=by
 obtain⟨g,i,j,k,l,m⟩:=h;have o:=zQ t.a;have p:=zQ t.b;have q:=zQ t.c;have r:=zQ t.d;have s:=zQ t.e;have u:=zQ t.f;refine⟨?_,?_,?_,?_,?_,?_⟩ <;> (show(ofQ _).len<=_;rw[zF];omega)
def zzK(t u:AF):LI
 |0=>True
 |k+1=>zzK t u k/\(t.nth k).v=(u.nth k).v
def zvh(t u:AF)(ht:t.le 10000000)(j:u.le 10000000):CX 391 [.agg (afE t),.agg (afE u)] (pr (t.same u)):=by
 refine zc func391<|wc ?_;obtain⟨q,r,s,w,x,y⟩:=ht;obtain⟨ka,kb,kc,kd,ke,kf⟩:=j;refine wg (ze1 t ⟨oM,oM,oM,oM,oM,oM⟩)<|wg (ze1 u ⟨oM,oM,oM,oM,oM,oM⟩)<|⟨Nat,λi=>⟨[(14,i64 i),(13,.agg (afE t.nrm)),(6,.loc 3 0)],[(3,.box 281 (afE u.nrm))],4,25,0⟩,λi=>i<=6/\zzK t u i,λi=>6-i,0,⟨Xh _,tV⟩,?_,?_⟩
 .exact zC [(3,some 3)]
 rintro i ⟨hi,ok⟩
 have hi:i=0∨i=1∨i=2∨i=3∨i=4∨i=5∨i=6:=oM;have F:=zQ t.a;have G:=zQ t.b;have H:=zQ t.c;have I:=zQ t.d;have J:=zQ t.e;have K:=zQ t.f;have z:=zQ u.a;have A:=zQ u.b;have B:=zQ u.c;have C:=zQ u.d;have D:=zQ u.e;have E:=zQ u.f
 rcases hi with rfl|rfl|rfl|rfl|rfl|rfl|rfl
 .refine we<|wc<|wg (zjj (ofQ t.a.v) (ofQ u.a.v) (by rw[zF];omega) (by rw[zF];omega)) ?_;rw[kw,kw];refine⟨λh=>zd (λg=>h (ya.2 g.1)),λh=>?_⟩;have h:=ya.1 (Xa.1 h);exact Ar.fit dC<|⟨1,⟨(by show 1<=6;decide),ok,h⟩,zC [(3,some 3)],dC⟩
 .refine we<|wc<|wg (zjj (ofQ t.b.v) (ofQ u.b.v) (by rw[zF];omega) (by rw[zF];omega)) ?_;rw[kw,kw];refine⟨λh=>zd (λg=>h (ya.2 g.2.1)),λh=>?_⟩;have h:=ya.1 (Xa.1 h);exact Ar.fit dC<|⟨2,⟨(by show 2<=6;decide),ok,h⟩,zC [(3,some 3)],dC⟩
 .refine we<|wc<|wg (zjj (ofQ t.c.v) (ofQ u.c.v) (by rw[zF];omega) (by rw[zF];omega)) ?_;rw[kw,kw];refine⟨λh=>zd (λg=>h (ya.2 g.2.2.1)),λh=>?_⟩;have h:=ya.1 (Xa.1 h);exact Ar.fit dC<|⟨3,⟨(by show 3<=6;decide),ok,h⟩,zC [(3,some 3)],dC⟩
 .refine we<|wc<|wg (zjj (ofQ t.d.v) (ofQ u.d.v) (by rw[zF];omega) (by rw[zF];omega)) ?_;rw[kw,kw];refine⟨λh=>zd (λg=>h (ya.2 g.2.2.2.1)),λh=>?_⟩;have h:=ya.1 (Xa.1 h);exact Ar.fit dC<|⟨4,⟨(by show 4<=6;decide),ok,h⟩,zC [(3,some 3)],dC⟩
 .refine we<|wc<|wg (zjj (ofQ t.e.v) (ofQ u.e.v) (by rw[zF];omega) (by rw[zF];omega)) ?_;rw[kw,kw];refine⟨λh=>zd (λg=>h (ya.2 g.2.2.2.2.1)),λh=>?_⟩;have h:=ya.1 (Xa.1 h);exact Ar.fit dC<|⟨5,⟨(by show 5<=6;decide),ok,h⟩,zC [(3,some 3)],dC⟩
 .refine we<|wc<|wg (zjj (ofQ t.f.v) (ofQ u.f.v) (by rw[zF];omega) (by rw[zF];omega)) ?_;rw[kw,kw];refine⟨λh=>zd (λg=>h (ya.2 g.2.2.2.2.2)),λh=>?_⟩;have h:=ya.1 (Xa.1 h);exact Ar.fit dC<|⟨6,⟨(by show 6<=6;decide),ok,h⟩,zC [(3,some 3)],dC⟩
 refine⟨λh=>absurd h dC,λ_=>?_⟩;obtain⟨⟨⟨⟨⟨⟨_,k⟩,l⟩,m⟩,n⟩,o⟩,p⟩:=ok;exact zH ⟨k,l,m,n,o,p⟩
def zbd{q:Rat}(h:zcq q<=256):yW q<=8:=by
 have key:∀n:Nat,kC n<=256->(zn n).length<=8:=λn c=>jQ (by
  have:=zd6 n;have a:2^kC n<=2^256:=XJ dC c;have b:(4294967296:Nat)^8=2^256:=dC
  rw[b];omega)
 unfold zcq at h;unfold yW jr;have d:=key q.num.natAbs oM;have a:=key q.den oM;rw[QP];omega
def ok_le{t:AF}(h:t.nrm.ok):t.nrm.le 8:=by
 obtain⟨⟨⟨⟨⟨⟨_,a⟩,b⟩,c⟩,d⟩,e⟩,f⟩:=h;simp only[AF.nth,AF.nrm,kw]at a b c d e f
 exact⟨by show(ofQ _).len<=_;rw[zF];exact zbd a,by show(ofQ _).len<=_;rw[zF];exact zbd b,by show(ofQ _).len<=_;rw[zF];exact zbd c,
  by show(ofQ _).len<=_;rw[zF];exact zbd d,by show(ofQ _).len<=_;rw[zF];exact zbd e,by show(ofQ _).len<=_;rw[zF];exact zbd f⟩
def zbO(t:AF):Rat:=t.a.v*t.d.v-t.b.v*t.c.v
def zld(t:AF)(ht:t.le 10000000):CX 261 [.agg (afE t)] (wm (ofQ (zbO t))):=by
 obtain⟨e,f,g,h,i,j⟩:=ht;have k:=zQ t.a;have l:=zQ t.b;have m:=zQ t.c;have n:=zQ t.d;have o:=yK t.a.v t.d.v;have p:=yK t.b.v t.c.v;refine zc func261<|wc<|wg (zvd t.a t.d oM oM)<|wg (zvd t.b t.c oM oM)<|wg (q_sub (ofQ (t.a.v*t.d.v)) (ofQ (t.b.v*t.c.v)) (by rw[zF];omega) (by rw[zF];omega)) ?_;rw[kw,kw];exact .refl
def zrg(t:AF)(ht:t.le 100000000):CX 242 [.agg (afE t)] (.agg (afE t.nrm)):=by
 obtain⟨a,b,c,d,e,f⟩:=ht;exact zc func242<|wg (ze1 t ⟨oM,oM,oM,oM,oM,oM⟩)<|wg (ztH t.nrm)<|.refl
def beh(t u:AF):AF:=afQ (u.a.v*t.a.v+u.c.v*t.b.v) (u.b.v*t.a.v+u.d.v*t.b.v) (u.a.v*t.c.v+u.c.v*t.d.v) (u.b.v*t.c.v+u.d.v*t.d.v) (vU u t.e.v t.f.v) (vV u t.e.v t.f.v)
def zzL(t u:AF)(ht:t.le 1000000)(g:u.le 1000000):CX 241 [.agg (afE t),.agg (afE u)] (.agg (afE (beh t u))):=by
 have h:=ht;have i:=g;obtain⟨j,k,l,m,n,o⟩:=ht;obtain⟨ka,kb,kc,kd,ke,kf⟩:=g;refine zc func241<|wg (zvf u t.e t.f ⟨oM,oM,oM,oM,oM,oM⟩ oM oM)<|wc<|wg (zik u.a t.a u.c t.b oM oM oM oM)<|wg (zik u.b t.a u.d t.b oM oM oM oM)<|wg (zik u.a t.c u.c t.d oM oM oM oM) ?_;exact wg (zik u.b t.c u.d t.d oM oM oM oM)<|wg (ztH (beh t u))<|.refl
def zzM{t u:AF}{n:Nat}(ht:t.le n)(m:u.le n):(beh t u).le (5*n+7):=by
 obtain⟨g,h,i,j,k,l⟩:=ht;obtain⟨ka,kb,kc,kd,ke,kf⟩:=m;have q:=qU u.a t.a u.c t.b u.e ka g kc h ke;have r:=qU u.b t.a u.d t.b u.e kb g kd h ke;have s:=qU u.a t.c u.c t.d u.e ka i kc j ke;have v:=qU u.b t.c u.d t.d u.e kb i kd j ke;have o:=qU u.a t.e u.c t.f u.e ka k kc l ke;have p:=qU u.b t.e u.d t.f u.f kb k kd l kf;refine⟨?_,?_,?_,?_,?_,?_⟩ <;> (show(ofQ _).len<=_;rw[zF])
 .omega
 .omega
 .omega
 .omega
 .exact o.2
 exact p.2
def zF3(a b:LB)(i:a.length<=400000000)(j:b.length<=400000000):
  CX 236 [.sl dgE a,.sl dgE b] (.sl dgE (zn (Nat.gcd (val a) (val b)))):=by
 refine zc func236<|wg (uI _ oM)<|wg (uI _ oM) ?_;have g:=zK a;have h:=zK b
 refine⟨Nat×Nat,λ⟨A,B⟩=>⟨[(5,.sl dgE (zn A)),(6,.sl dgE (zn B))],[],0,27,0⟩,
  λx=>(zn x.1).length<=400000000/\(zn x.2).length<=400000000/\Nat.gcd x.1 x.2=Nat.gcd (val a) (val b),λx=>x.2,(val a,val b),?_,?_,?_⟩
 .exact⟨oN,oN,rfl⟩
 .exact zC []
 rintro⟨A,B⟩ ⟨f,d,c⟩
 dsimp only at f d c;intro l;refine⟨λk=>?_,λk=>?_⟩
 .have hB:B≠0:=jF.1 oM;refine wg (zif (zn A) (zn B) oM oM (by rw[zr];exact hB)) ?_;rw[zr,zr];have e:=Kn A (Kg hB);refine⟨(B,A%B),⟨d,XB (qt (YR e)) d,?_⟩,zC [],e⟩;dsimp only;rw[←c,Q3 B,Q3 A B,Nat.gcd_rec B A]
 have hB:B=0:=yI.1 (XP.1 oM);subst hB;rw[Nat.gcd_zero_right]at c;exact z6 (by rw[c])
def zC6(m:LB)(a:m.length<=1000000000):CX 235 [bl false,.sl dgE m] (wl (ofZ (val m))):=by
 have:=(zaR False m a).args (.cons (zd id) (.C .nil))
 rwa [Xc id]at this
def zpd(a:BI)(d:a.mag.length<=1000000000):CX 237 [wl a] (wl (ofZ (-a.v))):=by
 refine zc func237<|wg (zaR (¬a.neg=true) a.mag d) ?_
 have:(if¬a.neg=true then-(val a.mag:Int) else(val a.mag:Int))= -a.v:=by
  obtain⟨b,c⟩|⟨b,c⟩:=a.v_eq <;> simp[b,c]
 rw[this];exact .refl
def ztJ(a b:BI)(j:a.mag.length<=800000000)(k:b.mag.length<=800000000):CX 299 [wl a,wl b] (wl (ofZ (a.v+b.v))):=by
 refine zc func299<|Br.mk (λh=>?_) (λh=>?_)
 .refine wc<|wg (zjR a.mag b.mag oM oM) ?_;have i:=zcp j k;refine wg (zaR (a.neg=true) _ oM) ?_
  have:(if a.neg=true then-(val (zn (val a.mag+val b.mag)):Int) else(val (zn (val a.mag+val b.mag)):Int))=a.v+b.v:=by
   rw[zr]
   obtain⟨c,d⟩|⟨c,d⟩:=a.v_eq <;> obtain⟨e,f⟩|⟨e,f⟩:=b.v_eq <;> simp[c,e]at h <;> simp[c,d,f] <;> omega
  rw[this];exact .refl
 refine wg (zo5 a.mag b.mag oM oM) ?_;have i:(zn (val a.mag-val b.mag)).length<=1000000000:=XB (qt (YP _ _)) (XB (zK _) oM);have g:(zn (val b.mag-val a.mag)).length<=1000000000:=XB (qt (YP _ _)) (XB (zK _) oM);refine⟨λd=>?_,λd=>?_⟩
 .refine wg (zaR (a.neg=true) _ i) ?_
  have:(if a.neg=true then-(val (zn (val a.mag-val b.mag)):Int) else(val (zn (val a.mag-val b.mag)):Int))=a.v+b.v:=by
   rw[zr]
   obtain⟨c,d⟩|⟨c,d⟩:=a.v_eq <;> obtain⟨e,f⟩|⟨e,f⟩:=b.v_eq <;> simp[c,e]at h <;> simp[c,d,f] <;> omega
  rw[this];exact .refl
 refine wg (zo5 b.mag a.mag oM oM)<|wg (zaR (b.neg=true) _ g) ?_
 have:(if b.neg=true then-(val (zn (val b.mag-val a.mag)):Int) else(val (zn (val b.mag-val a.mag)):Int))=a.v+b.v:=by
  rw[zr]
  obtain⟨c,d⟩|⟨c,d⟩:=a.v_eq <;> obtain⟨e,f⟩|⟨e,f⟩:=b.v_eq <;> simp[c,e]at h <;> simp[e,d,f] <;> omega
 rw[this];exact .refl
def zzN(a b:BI)(d:a.mag.length<=800000000)(e:b.mag.length<=800000000):CX 275 [wl a,wl b] (wl (ofZ (a.v-b.v))):=by
 refine zc func275<|wc<|wg (zpd b oM) ?_;have c:=zaQ b;refine wg (ztJ a (ofZ (-b.v)) oM (by rw[zV,zax];omega)) ?_;rw[z5,←Jj];exact .refl
def znq(a:BI)(b:a.mag.length<=900000000):CX 274 [wl a] (i64 (kC a.v.natAbs)):=by
 refine zc func274<|wg (znn a.mag b) ?_;rw[BI.v_abs];exact .refl
def zF4{A B:Nat}(hB:0<B):(A%B=0-> -(A:Int)/B= -((A/B:Nat):Int)/\ -(A:Int)%B= -((A%B:Nat):Int))/\(A%B≠0-> -(A:Int)/B= -((A/B:Nat):Int)-1/\ -(A:Int)%B= -((A%B:Nat):Int)+B):=by
 have a:=Kf A B;have b:=Kn A hB;generalize A/B=q at*;generalize A%B=r at*;have e:(B:Int)*(q:Int)=((B*q:Nat):Int):=(Kb _ _).symm;have hB':(0:Int)<B:=oM;refine⟨λh=>(Qs hB').2 ⟨?_,oM,oM⟩,λh=>(Qs hB').2 ⟨?_,oM,oM⟩⟩
 .rw[QN,e];omega
 rw[YH,QN,e,Int.mul_one];omega
def zcs(a b:BI)(j:a.mag.length<=200000000)(m:b.mag.length<=200000000)(l:0<b.v):
  CX 238 [wl a,wl b] (.tup [wl (ofZ (a.v/b.v)),wl (ofZ (a.v%b.v)),i64 0]):=by
 have c:b.neg=false/\b.v=(val b.mag:Int):=by
  obtain⟨d,g⟩|h:=b.v_eq
  .omega
  exact h
 have hB:0<val b.mag:=oM;have q1:(zn (val a.mag/val b.mag)).length<=200000000:=XB (qt (Qf _ _)) (XB (zK _) j);have k:(zn (val a.mag%val b.mag)).length<=200000000:=XB (qt (Nat.mod_le _ _)) (XB (zK _) j);have nb:¬b.neg=true:=by rw[c.1];decide
 refine zc func238<|wg (zc4 b oM)<|⟨λh=>absurd (K5.1 h) oM,λ_=>?_⟩;refine wg (zif a.mag b.mag oM oM oM)<|wg (zaR (¬(a.neg=true↔b.neg=true)) _ oM)<|wg (zaR (a.neg=true) _ oM) ?_;rw[zr,zr]
 obtain⟨d,g⟩|⟨d,g⟩:=a.v_eq
 .have pa:¬(a.neg=true↔b.neg=true):=by rw[d,c.1];decide
  rw[Xe pa,Xe d];refine⟨λe=>?_,λe=>absurd pa e⟩;have nd:=zF4 (A:=val a.mag) hB;rw[←g,←c.2]at nd;have n:jr (-((val a.mag/val b.mag:Nat):Int))<=200000000:=by rw[zax];exact q1
  have o:jr (-((val a.mag%val b.mag:Nat):Int))<=200000000:=by rw[zax];exact k
  refine wg (zc4 (ofZ (-((val a.mag%val b.mag:Nat):Int))) (by rw[zV];omega)) ?_;rw[z5];refine⟨λi=>?_,λi=>?_⟩
  .have f:val a.mag%val b.mag≠0:=λh=>i (by rw[h];rfl)
   refine wc<|wg (jR 1 dC)<|wg (zzN (ofZ (-((val a.mag/val b.mag:Nat):Int))) (ofZ 1) (by rw[zV];omega) (by decide +kernel))<|wg (ztJ (ofZ (-((val a.mag%val b.mag:Nat):Int))) b (by rw[zV];omega) oM) ?_;rw[z5,z5,z5,(nd.2 f).1,(nd.2 f).2];exact .refl
  have f:val a.mag%val b.mag=0:=by
   have:(-((val a.mag%val b.mag:Nat):Int))=0:=K5.1 (Xa.1 i);omega
  refine wd<|wh ?_;rw[←(nd.1 f).1,←(nd.1 f).2];exact .refl
 have pa:¬¬(a.neg=true↔b.neg=true):=by rw[d,c.1];decide
 have na:¬a.neg=true:=by rw[d];decide
 rw[Xc pa,Xc na];refine⟨λe=>absurd e pa,λe=>?_⟩;refine wd<|wh ?_;rw[g,c.2,←Yj,←Q1];exact .refl
def yE(n:Int)(a:R64 n):CX 109 [i64 n] (wm (ofQ (n:Rat))):=by
 refine zc func109<|wg (jR n a)<|wg (jR 1 dC) ?_;have e:ofQ (n:Rat)=⟨ofZ n,ofZ 1⟩:=by unfold ofQ;rw[Yv,Yt];rfl
 rw[e];exact .refl
def ze2(n d:BI)(j:n.mag.length<=200000000)(c:d.mag.length<=200000000)(a:d.v≠0):
  CX 162 [wl n,wl d] (wm (ofQ (Rat.divInt n.v d.v))):=by
 refine zc func162<|wg (zF3 n.mag d.mag oM oM) ?_;have e:val d.mag≠0:=by rw[←d.v_abs];omega
 have i:0<Nat.gcd (val n.mag) (val d.mag):=Je _ oM
 have b:(zn (Nat.gcd (val n.mag) (val d.mag))).length<=200000000:=
  XB (qt (Nat.gcd_le_right _ oM)) (XB (zK _) c)
 have hnum:=Rat.num_divInt n.v d.v;have hden:=Rat.den_divInt n.v d.v
 have f:d.v.gcd n.v=Nat.gcd (val n.mag) (val d.mag):=by
  rw[←n.v_abs,←d.v_abs];exact Q3 _ _
 rw[f]at hnum hden;rw[Xc a]at hden;have ln:=zaQ n;have ld:=zaQ d;generalize Nat.gcd (val n.mag) (val d.mag)=g at*;refine wg (zC6 (zn g) oM) ?_;rw[zr];have zg:jr (g:Int)<=200000000:=b
 have fin:∀N D:Int,N=d.v.sign*n.v->D=(d.v.natAbs:Int)->ofQ (Rat.divInt n.v d.v)=⟨ofZ (N/(g:Int)),ofZ (D/(g:Int))⟩:=λN D hN hD=>by
  unfold ofQ;rw[hnum,hden,hN,hD];rfl
 refine wg (zc4 d oM)<|⟨λh=>?_,λh=>?_⟩
 .have hneg:d.v<0:=by
   rcases Qk d.v 0 with k|k|k
   .exact k
   .exact absurd k a
   rw[Ku k]at h;omega
  refine wg (zpd n oM)<|wg (zpd d oM)<|wg (zcs (ofZ (-n.v)) (ofZ (g:Int)) (by rw[zV,zax];omega) (by rw[zV];omega) (by rw[z5];omega))<|wg (zcs (ofZ (-d.v)) (ofZ (g:Int)) (by rw[zV,zax];omega) (by rw[zV];omega) (by rw[z5];omega)) ?_;rw[z5,z5,z5,fin (-n.v) (-d.v) (by rw[Km hneg];omega) oM];exact .refl
 have hpos:0<d.v:=by
  rcases Qk d.v 0 with k|k|k
  .rw[Km k]at h;omega
  .exact absurd k a
  exact k
 refine wg (zcs n (ofZ (g:Int)) oM (by rw[zV];omega) (by rw[z5];omega))<|wg (zcs d (ofZ (g:Int)) oM (by rw[zV];omega) (by rw[z5];omega)) ?_;rw[z5,fin n.v d.v (by rw[Ku hpos];omega) oM];exact .refl
def zF5(n d:BI)(c:n.mag.length<=200000000)(b:d.mag.length<=200000000)(a:d.v≠0):
  CX 343 [wl n,wl d] (.tup [wm (ofQ (Rat.divInt n.v d.v)),i64 0]):=by
 refine zc func343<|wg (zc4 d oM)<|⟨λh=>absurd (K5.1 h) a,λ_=>?_⟩;exact wg (ze2 n d c b a)<|zO .refl .refl
def zrh(n d:Int)(b:R64 n)(a:R64 d)(c:d≠0):CX 284 [i64 n,i64 d] (.tup [wm (ofQ (Rat.divInt n d)),i64 0]):=by
 refine zc func284 ?_;have e:=jq b;have f:=jq a;refine wg (jR n b)<|wg (jR d a)<|wg (zF5 (ofZ n) (ofZ d) (by rw[zV];omega) (by rw[zV];omega) (by rw[z5];exact c)) ?_;rw[z5,z5];exact zO .refl .refl
def kK(a:BR)(d:a.len<=200000000):CX 110 [wm a] (wm (ofQ a.v)):=by
 have b:a.num.mag.length<=a.len:=Ji _ _;have c:a.den.mag.length<=a.len:=Q5 _ _;refine zc func110<|wg (zc4 a.den oM)<|⟨λh=>?_,λh=>?_⟩
 .refine wg (yE 0 dC) ?_;have e:a.v=((0:Int):Rat):=by unfold BR.v;rw[K5.1 h,Yu];rfl
  rw[e];exact .refl
 exact wg (ze2 a.num a.den oM oM (λk=>h (by rw[k];rfl)))<|.refl
def zec(a b:BR)(i:a.len<=50000000)(j:b.len<=50000000):CX 277 [wm a,wm b] (wm (ofQ (a.v+b.v))):=by
 have e:=zQ a;have f:=zQ b;have g:=zbA a.v;have h:=zbA b.v;have o:=qB a.v;have p:=qB b.v;have c:=qR a.v;have d:=qR b.v;have k:=k9 a.v.num b.v.den;have l:=k9 b.v.num a.v.den;have m:=k9 a.v.den b.v.den;have n:=zgY (a.v.num*b.v.den) (b.v.num*a.v.den);refine zc func277<|wc<|wg (kK a oM)<|wg (kK b oM)<|wc<|wg (zc5 (ofQ a.v).num (ofQ b.v).den oM oM) ?_;refine wg (zc5 (ofQ b.v).num (ofQ a.v).den oM oM) ?_;rw[yD,yD,jW,jW]
 refine wg (ztJ (ofZ (a.v.num*b.v.den)) (ofZ (b.v.num*a.v.den)) (by rw[zV];omega) (by rw[zV];omega)) ?_;rw[z5,z5];refine wg (zc5 (ofQ a.v).den (ofQ b.v).den oM oM) ?_;rw[jW,jW];refine wg (ze2 (ofZ (a.v.num*b.v.den+b.v.num*a.v.den)) (ofZ (a.v.den*b.v.den)) (by rw[zV];omega) (by rw[zV];omega) (by rw[z5];exact u0 _ _)) ?_;rw[z5,z5,zla];exact .refl
def zpe(a b:BR)(i:a.len<=50000000)(j:b.len<=50000000):CX 202 [wm a,wm b] (wm (ofQ (a.v*b.v))):=by
 have e:=zQ a;have f:=zQ b;have g:=zbA a.v;have h:=zbA b.v;have m:=qB a.v;have n:=qB b.v;have c:=qR a.v;have d:=qR b.v;have k:=k9 a.v.num b.v.num;have l:=k9 a.v.den b.v.den;refine zc func202<|wc<|wg (kK a oM)<|wg (kK b oM)<|wc<|wg (zc5 (ofQ a.v).num (ofQ b.v).num oM oM) ?_;refine wg (zc5 (ofQ a.v).den (ofQ b.v).den oM oM) ?_;rw[yD,yD,jW,jW];refine wg (ze2 (ofZ (a.v.num*b.v.num)) (ofZ (a.v.den*b.v.den)) (by rw[zV];omega) (by rw[zV];omega) (by rw[z5];exact u0 _ _)) ?_
 rw[z5,z5,zlb];exact .refl
def zri(a:BR)(e:a.len<=100000000):CX 286 [wm a] (wl (ofZ a.v.floor)):=by
 have c:=zQ a;have d:=zbA a.v;have b:=a.v.den_nz;refine zc func286<|wg (kK a oM)<|wg (zcs (ofQ a.v).num (ofQ a.v).den oM oM (by rw[jW];omega)) ?_;rw[yD,jW,←Yi];exact .refl
def zw6(a:BR)(d:a.len<=100000000):CX 198 [wm a] (i64 (zcq a.v)):=by
 have b:=zQ a;have c:=zbA a.v;refine zc func198<|wg (kK a oM)<|wc<|wg (znq (ofQ a.v).num oM)<|wg (znq (ofQ a.v).den oM) ?_;rw[yD,jW,QP];refine ze ?_;unfold zcq;simp only[zdF];omega
def za0(t:AF):List BR:=[t.a,t.b,t.c,t.d,t.e,t.f]
def zzO{t:AF}{i:Nat}{x:BR}(h:(za0 t)[i]?=some x):x=t.nth i:=by
 have:i<6:=(Xd.1 h).1;have e:i=0∨i=1∨i=2∨i=3∨i=4∨i=5:=oM
 rcases e with rfl|rfl|rfl|rfl|rfl|rfl <;> (cases h;rfl)
def zzP{t:AF}{n:Nat}(h:t.le n):∀i,(t.nth i).len<=n:=λi=>by
 obtain⟨a,b,c,d,e,f⟩:=h;unfold AF.nth;split <;> assumption
def zil(t:AF):CX 197 [.agg (afE t)] (.sl brE (za0 t)):=by
 refine zc func197<|⟨BR,brE,za0 t,rfl,wb0 ?_⟩;exact .refl
def zct(t:AF)(ht:t.le 100000000):CX 132 [.agg (afE t)] (pr t.ok):=by
 refine zc func132<|wg (zil t)<|⟨Nat,λi=>⟨[(4,i64 i),(3,.sl brE (za0 t))],[],1,19,0⟩,λi=>i<=6/\okI t i,λi=>6-i,0,⟨Xh _,tV⟩,?_,?_⟩
 .exact zC []
 rintro i ⟨g,b⟩
 intro j;have f:(za0 t).length=6:=rfl;refine⟨λc=>?_,λc=>?_⟩
 .refine wb5 λx(a:(za0 t)[i]?=some x)=>?_;have a:=zzO a;subst a;refine wg (zw6 (t.nth i) (zzP ht i))<|⟨λd=>?_,λd=>?_⟩
  .refine zd λh=>?_
   have e:i=0∨i=1∨i=2∨i=3∨i=4∨i=5:=oM;simp only[AF.ok,okI]at h
   rcases e with rfl|rfl|rfl|rfl|rfl|rfl <;> omega
  exact wa<|⟨i+1,⟨oM,b,oM⟩,zC [],oN⟩
 have:i=6:=by omega
 subst this;exact zH b
def zbY(a b c d:BR)(e:a.len<=10000000)(f:b.len<=10000000)(g:c.len<=10000000)(h:d.len<=10000000):
  CX 282 [wm a,wm b,wm c,wm d] (wm (ofQ (a.v*b.v+c.v*d.v))):=by
 have i:=zQ a;have j:=zQ b;have k:=zQ c;have l:=zQ d;have m:=yK a.v b.v;have n:=yK c.v d.v;refine zc func282<|wc<|wg (zpe a b oM oM)<|wg (zpe c d oM oM)<|wg (zec (ofQ (a.v*b.v)) (ofQ (c.v*d.v)) (by rw[zF];omega) (by rw[zF];omega)) ?_;rw[kw,kw];exact .refl
def zw7(t:AF)(x y:BR)(ht:t.le 5000000)(g:x.len<=5000000)(h:y.len<=5000000):
  CX 283 [.agg (afE t),wm x,wm y] (.tup [wm (ofQ (vU t x.v y.v)),wm (ofQ (vV t x.v y.v))]):=by
 obtain⟨i,j,k,l,m,n⟩:=ht;have o:=qU t.a x t.c y t.e i g k h m;have p:=qU t.b x t.d y t.f j g l h n;refine zc func283<|wc<|wg (zbY t.a x t.c y oM oM oM oM)<|wg (zec (ofQ (t.a.v*x.v+t.c.v*y.v)) t.e (by rw[zF];omega) oM)<|wg (zbY t.b x t.d y oM oM oM oM)<|wg (zec (ofQ (t.b.v*x.v+t.d.v*y.v)) t.f (by rw[zF];omega) oM) ?_;rw[kw,kw];exact .refl
def zzQ(a b:BI)(c:a.mag.length<=800000000)(d:b.mag.length<=800000000):CX 199 [wl a,wl b] (i64 (a.v-b.v).sign):=by
 refine zc func199<|wg (zzN a b c d) ?_;have e:=zkY a.v b.v;have f:=zaQ a;have g:=zaQ b;refine wg (zc4 (ofZ (a.v-b.v)) (by rw[zV];omega)) ?_;rw[z5];exact .refl
def zzR(a b:BR)(i:a.len<=100000000)(j:b.len<=100000000):CX 133 [wm a,wm b] (i64 (zlc a.v b.v)):=by
 have e:=zQ a;have f:=zQ b;have g:=zbA a.v;have h:=zbA b.v;have m:=qB a.v;have n:=qB b.v;have c:=qR a.v;have d:=qR b.v;have k:=k9 a.v.num b.v.den;have l:=k9 b.v.num a.v.den;refine zc func133<|wc<|wg (kK a oM)<|wg (kK b oM)<|wc<|wg (zc5 (ofQ a.v).num (ofQ b.v).den oM oM) ?_;refine wg (zc5 (ofQ b.v).num (ofQ a.v).den oM oM) ?_;rw[yD,yD,jW,jW];refine wg (zzQ (ofZ (a.v.num*b.v.den)) (ofZ (b.v.num*a.v.den)) (by rw[zV];omega) (by rw[zV];omega)) ?_;rw[z5,z5];exact .refl
def zC7(x:Rat):ofQ (-x)=⟨ofZ (-x.num),ofZ x.den⟩:=by unfold ofQ;rw[Rat.neg_num,Rat.neg_den]
def zF6(a:BR)(d:a.len<=100000000):CX 278 [wm a] (wm (ofQ (-a.v))):=by
 have b:=zQ a;have c:=zbA a.v;refine zc func278<|wg (kK a oM)<|wc<|wg (zpd (ofQ a.v).num oM) ?_;rw[yD,zC7];exact .refl
def zF7(a b:BR)(d:a.len<=40000000)(e:b.len<=40000000):CX 201 [wm a,wm b] (wm (ofQ (a.v-b.v))):=by
 have c:=zQ b;refine zc func201<|wc<|wg (zF6 b oM)<|wg (zec a (ofQ (-b.v)) oM (by rw[zF,zrf];omega)) ?_;rw[kw,←J6];exact .refl
def bi_eq{a b:BI}{i:Nat}(e:a.neg=true↔b.neg=true)(g:a.mag.length=b.mag.length)(hi:¬i<a.mag.length)(h:∀j,j<i->a.mag[j]?=b.mag[j]?):a=b:=by
 obtain⟨n,m⟩:=a;obtain⟨l,k⟩:=b;have c:n=l:=QD.2 e
 have d:m=k:=Kw λj=>by
  by_cases f:j<i
  .exact h j f
  dsimp only at g hi;rw[XG oM,XG oM]
 subst c d;rfl
def zle(a b:BI)(q:a.mag.length<=100000000):CX 498 [wl a,wl b] (pr (a=b)):=by
 refine zc func498<|Br.mk (λc=>zd λe=>c (by rw[e])) (λc=>?_);have c:=Xa.1 c;intro n o;refine⟨λd=>zd λe=>d (by rw[e]),λd=>?_⟩;have d:=Xa.1 d;refine⟨Nat,λi=>⟨[(5,i64 i),(3,.loc 1 0),(2,.loc 0 0)],[(1,.box 53 (biE b)),(0,.box 53 (biE a))],2,38,0⟩,λi=>i<=a.mag.length/\∀j,j<i->a.mag[j]?=b.mag[j]?,λi=>a.mag.length-i,0,⟨Xh _,λj h=>by omega⟩,zf [0,1],?_⟩
 rintro i ⟨hi,k⟩
 intro p;refine⟨λm=>?_,λm=>zH (bi_eq c oM oM k)⟩;refine wc<|wb λx(l:a.mag[i]?=some x)=>?_;refine wb λy(g:b.mag[i]?=some y)=>?_;refine⟨λf=>zd λe=>?_,λf=>?_⟩
 .subst e;rw[l]at g;cases g;exact f rfl
 have f:=Xa.1 f;have exy:x=y:=Fin.ext oM;refine wa<|⟨i+1,⟨oM,λj r=>?_⟩,zf [0,1],oN⟩
 by_cases e:j=i
 .subst e;rw[l,g,exy]
 exact k j oM
def zC8(a b:BR)(h:a.len<=100000000):CX 496 [wm a,wm b] (pr (a=b)):=by
 have f:a.num.mag.length<=a.len:=Ji _ _;have g:a.den.mag.length<=a.len:=Q5 _ _;refine zc func496<|wg (zle a.num b.num oM)<|⟨λc=>?_,λc=>zd λe=>c (by rw[e])⟩;refine wg (zle a.den b.den oM)<|zB ⟨λd=>?_,λe=>by rw[e]⟩
 cases a;cases b;simp_all
def ztK(xs ys:List BR)(o:∀x∈xs,x.len<=100000000):CX 493 [.sl brE xs,.sl brE ys] (pr (xs=ys)):=by
 refine zc func493 λl m=>?_;refine⟨λb=>zd λe=>b (by rw[e]),λb=>?_⟩;have b:=Xa.1 b;refine⟨Nat,λi=>⟨[(5,i64 i),(0,.sl brE xs),(1,.sl brE ys)],[],0,27,0⟩,λi=>i<=xs.length/\∀j,j<i->xs[j]?=ys[j]?,λi=>xs.length-i,0,⟨Xh _,λj h=>by omega⟩,zC [],?_⟩
 rintro i ⟨hi,g⟩
 intro n;refine⟨λk=>?_,λk=>?_⟩
 .refine wc<|wb λx(a:xs[i]?=some x)=>?_;refine wb λy(d:ys[i]?=some y)=>?_;refine wg (zC8 x y (o x (Xf a)))<|⟨λc=>zd λe=>?_,λc=>?_⟩
  .subst e;rw[a]at d;cases d;exact c rfl
  have exy:=Xa.1 c;refine wa<|⟨i+1,⟨oM,λj f=>?_⟩,zC [],oN⟩
  by_cases e:j=i
  .subst e;rw[a,d,exy]
  exact g j oM
 refine zH (Kw λj=>?_)
 by_cases f:j<i
 .exact g j f
 rw[XG oM,XG oM]
def ze3{x y:Rat}(h:ofQ x=ofQ y):x=y:=by rw[←kw x,←kw y,h]
def zw8{t:AF}{n:Nat}(h:t.le n):∀x∈za0 t,x.len<=n:=λx a=>by
 obtain⟨b,c,d,e,f,g⟩:=h;simp only[za0,XH,XV,or_false]at a
 rcases a with rfl|rfl|rfl|rfl|rfl|rfl <;> assumption
def ztL(t u:AF)(ht:t.le 100000000):CX 481 [.agg (afE t),.agg (afE u)] (pr (za0 t=za0 u)):=by
 exact zc func481<|wc<|wg (zil t)<|wg (zil u)<|wg (ztK (za0 t) (za0 u) (zw8 ht))<|zB Qj
def zfE(t:AF)(ht:t.le 100000000):CX 482 [.agg (afE t)] (.agg (afE t.nrm)):=by
 obtain⟨g,h,i,j,k,l⟩:=ht;refine zc func482<|wc<|wg (kK t.a oM)<|wg (kK t.b oM)<|wg (kK t.c oM)<|wg (kK t.d oM) ?_;exact wg (kK t.e oM)<|wg (kK t.f oM)<|.refl
def zzS{t u:AF}:za0 t.nrm=za0 u.nrm↔t.same u:=by
 constructor
 .intro h;simp only[za0,AF.nrm,List.cons.injEq,and_true]at h;exact⟨ze3 h.1,ze3 h.2.1,ze3 h.2.2.1,ze3 h.2.2.2.1,ze3 h.2.2.2.2.1,ze3 h.2.2.2.2.2⟩
 rintro⟨a,b,c,d,e,f⟩
 simp only[za0,AF.nrm,a,b,c,d,e,f]
def zw9(t u:AF)(ht:t.le 10000000)(b:u.le 10000000):CX 449 [.agg (afE t),.agg (afE u)] (pr (t.same u)):=by
 have a:=AF.le_len ht;obtain⟨c,d,e,f,g,h⟩:=ht;obtain⟨ka,kb,kc,kd,ke,kf⟩:=b;obtain⟨na,nb,nc,nd,ne,nf⟩:=a;exact zc func449<|wc<|wg (zfE t ⟨oM,oM,oM,oM,oM,oM⟩)<|wg (zfE u ⟨oM,oM,oM,oM,oM,oM⟩)<|wg (ztL t.nrm u.nrm ⟨oM,oM,oM,oM,oM,oM⟩)<|zB zzS
def zvi(t:AF)(ht:t.le 10000000):CX 134 [.agg (afE t)] (wm (ofQ (zbO t))):=by
 obtain⟨e,f,g,h,i,j⟩:=ht;have k:=zQ t.a;have l:=zQ t.b;have m:=zQ t.c;have n:=zQ t.d;have o:=yK t.a.v t.d.v;have p:=yK t.b.v t.c.v;refine zc func134<|wc<|wg (zpe t.a t.d oM oM)<|wg (zpe t.b t.c oM oM)<|wg (zF7 (ofQ (t.a.v*t.d.v)) (ofQ (t.b.v*t.c.v)) (by rw[zF];omega) (by rw[zF];omega)) ?_;rw[kw,kw];exact .refl
def zrj(t u:AF)(ht:t.le 1000000)(i:u.le 1000000):CX 218 [.agg (afE t),.agg (afE u)] (.agg (afE (beh t u))):=by
 obtain⟨j,k,l,m,g,h⟩:=ht;obtain⟨ka,kb,kc,kd,ke,kf⟩:=i;have n:=qU u.a t.e u.c t.f u.e ka g kc h ke;have o:=qU u.b t.e u.d t.f u.f kb g kd h kf;refine zc func218<|wc<|wg (zbY u.a t.a u.c t.b oM oM oM oM)<|wg (zbY u.b t.a u.d t.b oM oM oM oM)<|wg (zbY u.a t.c u.c t.d oM oM oM oM)<|wg (zbY u.b t.c u.d t.d oM oM oM oM) ?_;refine wg (zbY u.a t.e u.c t.f oM oM oM oM)<|wg (zec (ofQ (u.a.v*t.e.v+u.c.v*t.f.v)) u.e (by rw[zF];omega) oM) ?_
 refine wg (zbY u.b t.e u.d t.f oM oM oM oM)<|wg (zec (ofQ (u.b.v*t.e.v+u.d.v*t.f.v)) u.f (by rw[zF];omega) oM) ?_;rw[kw,kw];exact .refl
def zBR:BR:=⟨⟨false,[]⟩,⟨false,[]⟩⟩
def qE:AF:=⟨zBR,zBR,zBR,zBR,zBR,zBR⟩
def zBR_v:zBR.v=0:=by decide +kernel
def yX:LEs [bl false,nS,bl false,nS] (brE zBR):=
 .cons (zd dC) (.cons zD (.cons (zd dC) (.cons zD .nil)))
def LEs.append:∀{xs bs a b:LR},LEs xs bs->LEs a b->LEs (xs++a) (bs++b)
 |[],[],_,_,_,h=>h
 |_::_,_::_,_,_,.cons h c,k=>.cons h (LEs.append c k)
def z4:LR:=[bl false,nS,bl false,nS]
def zcu:LE (.agg uh) (.agg (afE qE)):=by
 have yX:LEs z4 (brE zBR):=yX;have h:LE (.agg (z4++(z4++(z4++(z4++(z4++z4)))))) (.agg (afE qE)):=jp (LEs.append yX (LEs.append yX (LEs.append yX (LEs.append yX (LEs.append yX yX)))));exact h
def idA:AF:=afQ ((1:Int):Rat) ((0:Int):Rat) ((0:Int):Rat) ((1:Int):Rat) ((0:Int):Rat) ((0:Int):Rat)
def zzT:idA.le 2:=⟨by decide +kernel,by decide +kernel,by decide +kernel,by decide +kernel,by decide +kernel,by decide +kernel⟩
def zpf(t u:AF):(beh t u).nrm=beh t u:=by
 unfold beh AF.nrm afQ;simp only[kw]
def zxa{t u:AF}(h:(beh t u).ok):(beh t u).le 8:=by
 have:=ok_le (t:=beh t u) (by rw[zpf];exact h)
 rwa [zpf]at this
def AF.le.up{t:AF}{n m:Nat}(h:t.le n)(k:n<=m):t.le m:=by
 obtain⟨a,b,c,d,e,f⟩:=h;exact⟨oM,oM,oM,oM,oM,oM⟩
def zpg(a b c d:Int)(e f:BR)(g:R64 a)(h:R64 b)(i:R64 c)(j:R64 d)(k:e.len<=100000000)(l:f.len<=100000000):
  CX 75 [i64 a,i64 b,i64 c,i64 d,wm e,wm f] (.agg (afE (afQ a b c d e.v f.v))):=by
 refine zc func75<|wc<|wg (yE a g)<|wg (yE b h)<|wg (yE c i)<|wg (yE d j) ?_;exact wg (kK e oM)<|wg (kK f oM)<|.refl
def zF8:zBR.v=((0:Int):Rat):=by decide +kernel
def za6:CX 42 [] (.agg (afE idA)):=by
 refine zc func42 ?_
 refine zb.to _ ((zpg 1 0 0 1 zBR zBR dC dC dC dC dC dC).args
  (.C (.C (.C (.C (.cons (jp yX) (.cons (jp yX) .nil))))))) rfl ?_
 rw[zF8];exact .refl
def kX(n lo hi:Int):Int:=if n<lo then lo else if hi<n then hi else n
def zph(n lo hi:Int):CX 166 [i64 n,i64 lo,i64 hi] (i64 (kX n lo hi)):=by
 refine zc func166<|Br.mk (λh=>?_) (λh=>?_)
 .exact ze (by simp[kX,h])
 refine⟨λa=>?_,λa=>?_⟩
 .exact ze (by simp[kX,h,a])
 exact ze (by simp[kX,h,a])
def zed{n lo hi:Int}(_:lo<=hi):kX n lo hi=n↔lo<=n/\n<=hi:=by
 unfold kX;split <;> (try split) <;> omega
structure Pt where
 x:Int
 y:Int
 deriving DecidableEq
def ptE(p:Pt):LR:=[i64 p.x,i64 p.y]
def zp:Pt:=⟨0,0⟩
def zm(p:Pt):Prop:=(-1048576<=p.x/\p.x<=1048576)/\(-1048576<=p.y/\p.y<=1048576)
instance (p:Pt):Decidable (zm p):=wi
def qm{p q:Pt}:(p.x=q.x/\p.y=q.y/\True)↔p=q:=by
 cases p;cases q;simp
def zzU(n:Int):CX 163 [i64 n] (i64 (kX n (-1048576) 1048576)):=by
 exact zc func163<|wg (zph n _ _)<|.refl
def zzV(p:Pt):CX 111 [.agg (ptE p)] (.agg [i64 (kX p.x (-1048576) 1048576),i64 (kX p.y (-1048576) 1048576)]):=by
 exact zc func111<|wc<|wg (zzU p.x)<|wg (zzU p.y)<|.refl
def qa(p:Pt):CX 76 [.agg (ptE p)] (pr (zm p)):=by
 refine zc func76<|wc<|wg (zzV p)<|zB (p:=kX p.x (-1048576) 1048576=p.x/\kX p.y (-1048576) 1048576=p.y/\True) ?_;rw[zed dC,zed dC];exact⟨λh=>⟨h.1,h.2.1⟩,λh=>⟨h.1,h.2,tV⟩⟩
def ki(p:Pt):CX 85 [.agg (ptE p)] (pr (zm p)):=by
 refine zc func85<|Br.mk (λa=>?_) (λa=>zd (λh=>a h.1.1));refine⟨λb=>?_,λb=>zd (λh=>b h.1.2)⟩;refine⟨λc=>?_,λc=>zd (λh=>c h.2.1)⟩;exact zB ⟨λd=>⟨⟨a,b⟩,⟨c,d⟩⟩,λh=>h.2.2⟩
abbrev wk(x:Pt):SV:=.agg (ptE x)
abbrev wo(x:AF):SV:=.agg (afE x)
abbrev LQ:=List (List Pt)
abbrev LU:=List Pt
end Go.Gs
