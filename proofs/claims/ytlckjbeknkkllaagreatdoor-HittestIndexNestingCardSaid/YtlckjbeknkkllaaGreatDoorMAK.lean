/- Transforms, the program's. -/
import Derived.Test.YtlckjbeknkkllaaGreatDoorMAJ
set_option maxRecDepth 100000
set_option maxHeartbeats 8000000
set_option linter.all false
namespace Go.Gs
open Proofs.Tryz
open Go.Proofs
structure AF where
 a:BR
 b:BR
 c:BR
 d:BR
 e:BR
 f:BR
def afE(t:AF):LQ:=brE t.a++(brE t.b++(brE t.c++(brE t.d++(brE t.e++brE t.f))))
def AF.le(t:AF)(n:Nat):Prop:=t.a.len<=n/\t.b.len<=n/\t.c.len<=n/\t.d.len<=n/\t.e.len<=n/\t.f.len<=n
def AF.nth(t:AF):Nat->BR
 |0=>t.a
 |1=>t.b
 |2=>t.c
 |3=>t.d
 |4=>t.e
 |_=>t.f
def stage(t:AF):Nat->AF
 |0=>t
 |1=>{ t with a:=ofQ t.a.v }
 |2=>{ t with a:=ofQ t.a.v,b:=ofQ t.b.v }
 |3=>{ t with a:=ofQ t.a.v,b:=ofQ t.b.v,c:=ofQ t.c.v }
 |4=>{ t with a:=ofQ t.a.v,b:=ofQ t.b.v,c:=ofQ t.c.v,d:=ofQ t.d.v }
 |5=>{ t with a:=ofQ t.a.v,b:=ofQ t.b.v,c:=ofQ t.c.v,d:=ofQ t.d.v,e:=ofQ t.e.v }
 |_=>⟨ofQ t.a.v,ofQ t.b.v,ofQ t.c.v,ofQ t.d.v,ofQ t.e.v,ofQ t.f.v⟩
def AF.nrm(t:AF):AF:=⟨ofQ t.a.v,ofQ t.b.v,ofQ t.c.v,ofQ t.d.v,ofQ t.e.v,ofQ t.f.v⟩
def uM:LQ:=(List.replicate 12 [bl false,nS]).flatten
def zdR(t:AF)(ht:t.le 400000000):CX 284 [.agg (afE t)] (.agg (afE t.nrm)):=by
 obtain⟨ha,hb,hc,hd,he,hf⟩:=ht;refine zd func284 ?_
 refine⟨Nat,λi=>⟨[(20,i64 i),(19,.agg (afE t)),(3,.loc 2 0),(2,.loc 1 0)],[(2,.box 294 (afE (stage t i))),(1,.box 294 uM),(0,.box 49 (afE t))],3,30,0⟩,
  λi=>i<=6,λi=>6-i,0,Xg _,zi [0,1,2],?_⟩
 intro i hi;have hi:i=0∨i=1∨i=2∨i=3∨i=4∨i=5∨i=6:=by have hi:i<=6:=hi;omega
 rcases hi with rfl|rfl|rfl|rfl|rfl|rfl|rfl
 ·exact we<|wg (qz t.a ha)<|Ar.fit dC<|⟨1,(by show 1<=6;decide),zi [0,1,2],dC⟩
 ·exact we<|wg (qz t.b hb)<|Ar.fit dC<|⟨2,(by show 2<=6;decide),zi [0,1,2],dC⟩
 ·exact we<|wg (qz t.c hc)<|Ar.fit dC<|⟨3,(by show 3<=6;decide),zi [0,1,2],dC⟩
 ·exact we<|wg (qz t.d hd)<|Ar.fit dC<|⟨4,(by show 4<=6;decide),zi [0,1,2],dC⟩
 ·exact we<|wg (qz t.e he)<|Ar.fit dC<|⟨5,(by show 5<=6;decide),zi [0,1,2],dC⟩
 ·exact we<|wg (qz t.f hf)<|Ar.fit dC<|⟨6,(by show 6<=6;decide),zi [0,1,2],dC⟩
 refine⟨λh=>absurd h dC,λ_=>?_⟩;exact .refl
def zry(t:AF):CX 318 [.agg (afE t)] (.agg (afE t)):=by
 exact zd func318<|zmS.own<|.refl
def okI(t:AF):LG
 |0=>True
 |k+1=>okI t k/\zaB (t.nth k).v<=256
def AF.ok(t:AF):Prop:=okI t 6
instance (t:AF):∀n,Decidable (okI t n):=λn=>by
 induction n with
 |zero=>exact isTrue trivial
 |succ k ih=>unfold okI;exact instDecidableAnd
instance (t:AF):Decidable t.ok:=inferInstanceAs (Decidable (okI t 6))
def zfK(t:AF)(ht:t.le 100000000):CX 218 [.agg (afE t)] (pr t.ok):=by
 have ht':=ht;obtain⟨ha,hb,hc,hd,he,hf⟩:=ht;refine zd func218<|wg (zdR t ⟨oM,oM,oM,oM,oM,oM⟩)<|⟨Nat,λi=>⟨[(6,.agg (afE t.nrm)),(7,i64 i)],[],1,14,0⟩,λi=>i<=6/\okI t i,λi=>6-i,0,⟨Xg _,tV⟩,?_,?_⟩
 ·exact zA []
 rintro i ⟨hi,ok⟩
 have hi:i=0∨i=1∨i=2∨i=3∨i=4∨i=5∨i=6:=oM
 rcases hi with rfl|rfl|rfl|rfl|rfl|rfl|rfl
 ·refine we ?_;have l1:=zM t.a;refine wg (zbs (ofQ t.a.v) (by rw[zO];omega)) ?_;rw[kA];refine⟨λh=>zc (λh'=>?_),λh=>?_⟩
  ·simp only[AF.ok,okI,AF.nth]at h';omega
  exact Ar.fit dC<|⟨1,⟨(by show 1<=6;decide),ok,(by show zaB t.a.v<=256;omega)⟩,zA [],dC⟩
 ·refine we ?_;have l1:=zM t.b;refine wg (zbs (ofQ t.b.v) (by rw[zO];omega)) ?_;rw[kA];refine⟨λh=>zc (λh'=>?_),λh=>?_⟩
  ·simp only[AF.ok,okI,AF.nth]at h';omega
  exact Ar.fit dC<|⟨2,⟨(by show 2<=6;decide),ok,(by show zaB t.b.v<=256;omega)⟩,zA [],dC⟩
 ·refine we ?_;have l1:=zM t.c;refine wg (zbs (ofQ t.c.v) (by rw[zO];omega)) ?_;rw[kA];refine⟨λh=>zc (λh'=>?_),λh=>?_⟩
  ·simp only[AF.ok,okI,AF.nth]at h';omega
  exact Ar.fit dC<|⟨3,⟨(by show 3<=6;decide),ok,(by show zaB t.c.v<=256;omega)⟩,zA [],dC⟩
 ·refine we ?_;have l1:=zM t.d;refine wg (zbs (ofQ t.d.v) (by rw[zO];omega)) ?_;rw[kA];refine⟨λh=>zc (λh'=>?_),λh=>?_⟩
  ·simp only[AF.ok,okI,AF.nth]at h';omega
  exact Ar.fit dC<|⟨4,⟨(by show 4<=6;decide),ok,(by show zaB t.d.v<=256;omega)⟩,zA [],dC⟩
 ·refine we ?_;have l1:=zM t.e;refine wg (zbs (ofQ t.e.v) (by rw[zO];omega)) ?_;rw[kA];refine⟨λh=>zc (λh'=>?_),λh=>?_⟩
  ·simp only[AF.ok,okI,AF.nth]at h';omega
  exact Ar.fit dC<|⟨5,⟨(by show 5<=6;decide),ok,(by show zaB t.e.v<=256;omega)⟩,zA [],dC⟩
 ·refine we ?_;have l1:=zM t.f;refine wg (zbs (ofQ t.f.v) (by rw[zO];omega)) ?_;rw[kA];refine⟨λh=>zc (λh'=>?_),λh=>?_⟩
  ·simp only[AF.ok,okI,AF.nth]at h';omega
  exact Ar.fit dC<|⟨6,⟨(by show 6<=6;decide),ok,(by show zaB t.f.v<=256;omega)⟩,zA [],dC⟩
 refine⟨λh=>absurd h dC,λ_=>?_⟩;exact zI ok
def zgP(a b c d:BR)(ha:a.len<=10000000)(hb:b.len<=10000000)(hc:c.len<=10000000)(hd:d.len<=10000000):
  CX 319 [wm a,wm b,wm c,wm d] (wm (ofQ (a.v*b.v+c.v*d.v))):=by
 have l1:=zM a;have l2:=zM b;have l3:=zM c;have l4:=zM d;have m1:=yT a.v b.v;have m2:=yT c.v d.v;refine zd func319<|wc<|wg (ztd a b oM oM)<|wg (ztd c d oM oM)<|wg (zo6 (ofQ (a.v*b.v)) (ofQ (c.v*d.v)) (by rw[zO];omega) (by rw[zO];omega)) ?_;rw[kA,kA];exact .refl
def zcu(t:AF)(x y:Rat):Rat:=t.a.v*x+t.c.v*y+t.e.v
def zcv(t:AF)(x y:Rat):Rat:=t.b.v*x+t.d.v*y+t.f.v
def j8(a b c d e:BR){n:Nat}(h1:a.len<=n)(h2:b.len<=n)(h3:c.len<=n)(h4:d.len<=n)(h5:e.len<=n):yJ (a.v*b.v+c.v*d.v)<=4*n+5/\yJ (a.v*b.v+c.v*d.v+e.v)<=5*n+7:=by
 have l1:=zM a;have l2:=zM b;have l3:=zM c;have l4:=zM d;have l5:=zM e;have m1:=yT a.v b.v;have m2:=yT c.v d.v;have m3:=zc3 (a.v*b.v) (c.v*d.v);have m4:=zc3 (a.v*b.v+c.v*d.v) e.v;omega
def ztf(t:AF)(x y:BR)(ht:t.le 5000000)(hx:x.len<=5000000)(hy:y.len<=5000000):
  CX 317 [.agg (afE t),wm x,wm y] (.tup [wm (ofQ (zcu t x.v y.v)),wm (ofQ (zcv t x.v y.v))]):=by
 obtain⟨ha,hb,hc,hd,he,hf⟩:=ht;have m1:=j8 t.a x t.c y t.e ha hx hc hy he;have m2:=j8 t.b x t.d y t.f hb hx hd hy hf;refine zd func317<|wc<|wg (zgP t.a x t.c y oM oM oM oM)<|wg (zo6 (ofQ (t.a.v*x.v+t.c.v*y.v)) t.e (by rw[zO];omega) oM)<|wg (zgP t.b x t.d y oM oM oM oM)<|wg (zo6 (ofQ (t.b.v*x.v+t.d.v*y.v)) t.f (by rw[zO];omega) oM) ?_;rw[kA,kA];exact .refl
def afQ(a b c d e f:Rat):AF:=⟨ofQ a,ofQ b,ofQ c,ofQ d,ofQ e,ofQ f⟩
def zEc(a b c d:Int)(ha:R64 a)(hb:R64 b)(hc:R64 c)(hd:R64 d):CX 316 [i64 a,i64 b,i64 c,i64 d] (.agg (afE (afQ a b c d ((0:Int):Rat) ((0:Int):Rat)))):=by
 refine zd func316<|wg (j7 a ha)<|wg (j7 b hb)<|wg (j7 c hc)<|wg (j7 d hd)<|wg (j7 0 dC) ?_;exact wg (j7 0 dC)<|wg (zry (afQ a b c d ((0:Int):Rat) ((0:Int):Rat)))<|.refl
def zrz:CX 255 [] (.agg (afE (afQ ((1:Int):Rat) ((0:Int):Rat) ((0:Int):Rat) ((1:Int):Rat) ((0:Int):Rat) ((0:Int):Rat)))):=by
 exact zd func255<|wg (zEc 1 0 0 1 dC dC dC dC)<|.refl
def z_cmp(a b:BI)(ha:a.mag.length<=800000000)(hb:b.mag.length<=800000000):CX 350 [wl a,wl b] (i64 (a.v-b.v).sign):=by
 refine zd func350<|wg (zo4 a b ha hb) ?_;have h1:=zjb a.v b.v;have h2:=vO a;have h3:=vO b;refine wg (zjj (ofZ (a.v-b.v)) (by rw[zT];omega)) ?_;rw[zY];exact .refl
def zjq(x y:Rat):Int:=(x.num*y.den-y.num*x.den).sign
def zo7{z:Int}:0<=z.sign↔0<=z:=by
 rcases Qe z 0 with h|h|h
 ·rw[Ki h];omega
 ·subst h;decide
 rw[Kq h];omega
def znm{x y:Rat}:0<=zjq x y↔y<=x:=by
 rw[Rat.le_iff];unfold zjq;rw[zo7];omega
def zxD(x y:Rat):zjq y x= - zjq x y:=by
 unfold zjq;rw[show y.num*x.den-x.num*y.den= -(x.num*y.den-y.num*x.den) by omega,Int.sign_neg]
def ztg{x y:Rat}:zjq x y<=0↔x<=y:=by
 have:=znm (x:=y) (y:=x);rw[zxD]at this;rw[←this];omega
def zhB(a b:BR)(ha:a.len<=100000000)(hb:b.len<=100000000):CX 286 [wm a,wm b] (i64 (zjq a.v b.v)):=by
 have h1:=zM a;have h2:=zM b;have n1:=qe a.v;have n2:=qe b.v;have d1:=qo a.v;have d2:=qo b.v;have m1:=kN a.v.num b.v.den;have m2:=kN b.v.num a.v.den;refine zd func286<|wg (znl a b oM oM)<|wg (z_cmp (ofZ (a.v.num*b.v.den)) (ofZ (b.v.num*a.v.den)) (by rw[zT];omega) (by rw[zT];omega)) ?_;rw[zY,zY];exact .refl
def q_sub(a b:BR)(ha:a.len<=50000000)(hb:b.len<=50000000):CX 351 [wm a,wm b] (wm (ofQ (a.v-b.v))):=by
 have h1:=zM a;have h2:=zM b;have n1:=qe a.v;have n2:=qe b.v;have d1:=qo a.v;have d2:=qo b.v;have m1:=kN a.v.num b.v.den;have m2:=kN b.v.num a.v.den;have m3:=kN a.v.den b.v.den;have m4:=zjb (a.v.num*b.v.den) (b.v.num*a.v.den);refine zd func351<|wg (znl a b oM oM)<|wc<|wg (zo4 (ofZ (a.v.num*b.v.den)) (ofZ (b.v.num*a.v.den)) (by rw[zT];omega) (by rw[zT];omega)) ?_;rw[zY,zY]
 refine wg (zfJ (ofZ (a.v.num*b.v.den-b.v.num*a.v.den)) (ofZ (a.v.den*b.v.den)) (by rw[zT];omega) (by rw[zT];omega) (by rw[zY];exact ue _ _)) ?_;rw[zY,zY,zxC];exact .refl
def zo8(x:Rat):yJ (-x)=yJ x:=by
 unfold yJ;rw[Rat.neg_num,Rat.neg_den,vz]
def zxE(x y:Rat):yJ (x-y)<=yJ x+yJ y+1:=by
 have:=zc3 x (-y);rw[zo8,←J2]at this;exact this
def AF.same(t u:AF):Prop:=t.a.v=u.a.v/\t.b.v=u.b.v/\t.c.v=u.c.v/\t.d.v=u.d.v/\t.e.v=u.e.v/\t.f.v=u.f.v
instance (t u:AF):Decidable (t.same u):=wi
def js{x y:Rat}:zjq x y=0↔x=y:=by
 constructor
 ·intro h;exact Rat.le_antisymm (ztg.1 oM) (znm.1 oM)
 rintro rfl
 unfold zjq;rw[Int.sub_self];rfl
def AF.le_len{t:AF}{n:Nat}(h:t.le n):t.nrm.le (max n 1):=by
 obtain⟨h1,h2,h3,h4,h5,h6⟩:=h;have l1:=zM t.a;have l2:=zM t.b;have l3:=zM t.c;have l4:=zM t.d;have l5:=zM t.e;have l6:=zM t.f;refine⟨?_,?_,?_,?_,?_,?_⟩ <;> (show(ofQ _).len<=_;rw[zO];omega)
def zxF(t u:AF):LG
 |0=>True
 |k+1=>zxF t u k/\(t.nth k).v=(u.nth k).v
def zth(t u:AF)(ht:t.le 10000000)(hu:u.le 10000000):CX 411 [.agg (afE t),.agg (afE u)] (pr (t.same u)):=by
 refine zd func411<|wc ?_;obtain⟨ha,hb,hc,hd,he,hf⟩:=ht;obtain⟨ka,kb,kc,kd,ke,kf⟩:=hu;refine wg (zdR t ⟨oM,oM,oM,oM,oM,oM⟩)<|wg (zdR u ⟨oM,oM,oM,oM,oM,oM⟩)<|⟨Nat,λi=>⟨[(14,i64 i),(13,.agg (afE t.nrm)),(6,.loc 3 0)],[(3,.box 294 (afE u.nrm))],4,25,0⟩,λi=>i<=6/\zxF t u i,λi=>6-i,0,⟨Xg _,tV⟩,?_,?_⟩
 ·exact zA [(3,some 3)]
 rintro i ⟨hi,ok⟩
 have hi:i=0∨i=1∨i=2∨i=3∨i=4∨i=5∨i=6:=oM;have l1:=zM t.a;have l2:=zM t.b;have l3:=zM t.c;have l4:=zM t.d;have l5:=zM t.e;have l6:=zM t.f;have j1:=zM u.a;have j2:=zM u.b;have j3:=zM u.c;have j4:=zM u.d;have j5:=zM u.e;have j6:=zM u.f
 rcases hi with rfl|rfl|rfl|rfl|rfl|rfl|rfl
 ·refine we<|wc<|wg (zhB (ofQ t.a.v) (ofQ u.a.v) (by rw[zO];omega) (by rw[zO];omega)) ?_;rw[kA,kA];refine⟨λh=>zc (λh1=>h (js.2 h1.1)),λh=>?_⟩;have h:=js.1 (Xc.1 h);exact Ar.fit dC<|⟨1,⟨(by show 1<=6;decide),ok,h⟩,zA [(3,some 3)],dC⟩
 ·refine we<|wc<|wg (zhB (ofQ t.b.v) (ofQ u.b.v) (by rw[zO];omega) (by rw[zO];omega)) ?_;rw[kA,kA];refine⟨λh=>zc (λh1=>h (js.2 h1.2.1)),λh=>?_⟩;have h:=js.1 (Xc.1 h);exact Ar.fit dC<|⟨2,⟨(by show 2<=6;decide),ok,h⟩,zA [(3,some 3)],dC⟩
 ·refine we<|wc<|wg (zhB (ofQ t.c.v) (ofQ u.c.v) (by rw[zO];omega) (by rw[zO];omega)) ?_;rw[kA,kA];refine⟨λh=>zc (λh1=>h (js.2 h1.2.2.1)),λh=>?_⟩;have h:=js.1 (Xc.1 h);exact Ar.fit dC<|⟨3,⟨(by show 3<=6;decide),ok,h⟩,zA [(3,some 3)],dC⟩
 ·refine we<|wc<|wg (zhB (ofQ t.d.v) (ofQ u.d.v) (by rw[zO];omega) (by rw[zO];omega)) ?_;rw[kA,kA];refine⟨λh=>zc (λh1=>h (js.2 h1.2.2.2.1)),λh=>?_⟩;have h:=js.1 (Xc.1 h);exact Ar.fit dC<|⟨4,⟨(by show 4<=6;decide),ok,h⟩,zA [(3,some 3)],dC⟩
 ·refine we<|wc<|wg (zhB (ofQ t.e.v) (ofQ u.e.v) (by rw[zO];omega) (by rw[zO];omega)) ?_;rw[kA,kA];refine⟨λh=>zc (λh1=>h (js.2 h1.2.2.2.2.1)),λh=>?_⟩;have h:=js.1 (Xc.1 h);exact Ar.fit dC<|⟨5,⟨(by show 5<=6;decide),ok,h⟩,zA [(3,some 3)],dC⟩
 ·refine we<|wc<|wg (zhB (ofQ t.f.v) (ofQ u.f.v) (by rw[zO];omega) (by rw[zO];omega)) ?_;rw[kA,kA];refine⟨λh=>zc (λh1=>h (js.2 h1.2.2.2.2.2)),λh=>?_⟩;have h:=js.1 (Xc.1 h);exact Ar.fit dC<|⟨6,⟨(by show 6<=6;decide),ok,h⟩,zA [(3,some 3)],dC⟩
 refine⟨λh=>absurd h dC,λ_=>?_⟩;obtain⟨⟨⟨⟨⟨⟨_,o1⟩,o2⟩,o3⟩,o4⟩,o5⟩,o6⟩:=ok;exact zI ⟨o1,o2,o3,o4,o5,o6⟩
def zad{q:Rat}(h:zaB q<=256):yJ q<=8:=by
 have key:∀n:Nat,z1 n<=256->(zj n).length<=8:=λn hn=>jI (by
  have:=zcZ n;have h2:2^z1 n<=2^256:=XJ dC hn;have h3:(4294967296:Nat)^8=2^256:=dC
  rw[h3];omega)
 unfold zaB at h;unfold yJ jc;have h1:=key q.num.natAbs oM;have h2:=key q.den oM;rw[Je];omega
def ok_le{t:AF}(h:t.nrm.ok):t.nrm.le 8:=by
 obtain⟨⟨⟨⟨⟨⟨_,o1⟩,o2⟩,o3⟩,o4⟩,o5⟩,o6⟩:=h;simp only[AF.nth,AF.nrm,kA]at o1 o2 o3 o4 o5 o6
 exact⟨by show(ofQ _).len<=_;rw[zO];exact zad o1,by show(ofQ _).len<=_;rw[zO];exact zad o2,by show(ofQ _).len<=_;rw[zO];exact zad o3,
  by show(ofQ _).len<=_;rw[zO];exact zad o4,by show(ofQ _).len<=_;rw[zO];exact zad o5,by show(ofQ _).len<=_;rw[zO];exact zad o6⟩
def v7(t:AF):Rat:=t.a.v*t.d.v-t.b.v*t.c.v
def zjr(t:AF)(ht:t.le 10000000):CX 287 [.agg (afE t)] (wm (ofQ (v7 t))):=by
 obtain⟨ha,hb,hc,hd,he,hf⟩:=ht;have l1:=zM t.a;have l2:=zM t.b;have l3:=zM t.c;have l4:=zM t.d;have m1:=yT t.a.v t.d.v;have m2:=yT t.b.v t.c.v;refine zd func287<|wc<|wg (ztd t.a t.d oM oM)<|wg (ztd t.b t.c oM oM)<|wg (q_sub (ofQ (t.a.v*t.d.v)) (ofQ (t.b.v*t.c.v)) (by rw[zO];omega) (by rw[zO];omega)) ?_;rw[kA,kA];exact .refl
def zo9(t:AF)(ht:t.le 100000000):CX 257 [.agg (afE t)] (.agg (afE t.nrm)):=by
 obtain⟨ha,hb,hc,hd,he,hf⟩:=ht;exact zd func257<|wg (zdR t ⟨oM,oM,oM,oM,oM,oM⟩)<|wg (zry t.nrm)<|.refl
def beh(t u:AF):AF:=afQ (u.a.v*t.a.v+u.c.v*t.b.v) (u.b.v*t.a.v+u.d.v*t.b.v) (u.a.v*t.c.v+u.c.v*t.d.v) (u.b.v*t.c.v+u.d.v*t.d.v) (zcu u t.e.v t.f.v) (zcv u t.e.v t.f.v)
def zxG(t u:AF)(ht:t.le 1000000)(hu:u.le 1000000):CX 256 [.agg (afE t),.agg (afE u)] (.agg (afE (beh t u))):=by
 have ht':=ht;have hu':=hu;obtain⟨ha,hb,hc,hd,he,hf⟩:=ht;obtain⟨ka,kb,kc,kd,ke,kf⟩:=hu;refine zd func256<|wg (ztf u t.e t.f ⟨oM,oM,oM,oM,oM,oM⟩ oM oM)<|wc<|wg (zgP u.a t.a u.c t.b oM oM oM oM)<|wg (zgP u.b t.a u.d t.b oM oM oM oM)<|wg (zgP u.a t.c u.c t.d oM oM oM oM) ?_;exact wg (zgP u.b t.c u.d t.d oM oM oM oM)<|wg (zry (beh t u))<|.refl
def zEd{t u:AF}{n:Nat}(ht:t.le n)(hu:u.le n):(beh t u).le (5*n+7):=by
 obtain⟨ha,hb,hc,hd,he,hf⟩:=ht;obtain⟨ka,kb,kc,kd,ke,kf⟩:=hu;have m1:=j8 u.a t.a u.c t.b u.e ka ha kc hb ke;have m2:=j8 u.b t.a u.d t.b u.e kb ha kd hb ke;have m3:=j8 u.a t.c u.c t.d u.e ka hc kc hd ke;have m4:=j8 u.b t.c u.d t.d u.e kb hc kd hd ke;have m5:=j8 u.a t.e u.c t.f u.e ka he kc hf ke;have m6:=j8 u.b t.e u.d t.f u.f kb he kd hf kf;refine⟨?_,?_,?_,?_,?_,?_⟩ <;> (show(ofQ _).len<=_;rw[zO])
 ·omega
 ·omega
 ·omega
 ·omega
 ·exact m5.2
 exact m6.2
def zEe(a b:LA)(ha:a.length<=400000000)(hb:b.length<=400000000):
  CX 148 [.sl dgE a,.sl dgE b] (.sl dgE (zj (Nat.gcd (val a) (val b)))):=by
 refine zd func148<|wg (yR _ oM)<|wg (yR _ oM) ?_;have hla:=zD a;have hlb:=zD b
 refine⟨Nat×Nat,λ⟨A,B⟩=>⟨[(5,.sl dgE (zj A)),(6,.sl dgE (zj B))],[],0,27,0⟩,
  λx=>(zj x.1).length<=400000000/\(zj x.2).length<=400000000/\Nat.gcd x.1 x.2=Nat.gcd (val a) (val b),λx=>x.2,(val a,val b),?_,?_,?_⟩
 ·exact⟨oN,oN,rfl⟩
 ·exact zA []
 rintro⟨A,B⟩ ⟨h1,h2,h3⟩
 dsimp only at h1 h2 h3;intro hl;refine⟨λk=>?_,λk=>?_⟩
 ·have hB:B≠0:=qY.1 oM;refine wg (zlx (zj A) (zj B) oM oM (by rw[zk];exact hB)) ?_;rw[zk,zk];have hm:=Kr A (Kl hB);refine⟨(B,A%B),⟨h2,XE (kZ (YK hm)) h2,?_⟩,zA [],hm⟩;dsimp only;rw[←h3,Q1 B,Q1 A B,Nat.gcd_rec B A]
 have hB:B=0:=jT.1 (XN.1 oM);subst hB;rw[Nat.gcd_zero_right]at h3;exact kM (by rw[h3])
def zA3(m:LA)(hm:m.length<=1000000000):CX 147 [bl false,.sl dgE m] (wl (ofZ (val m))):=by
 have:=(zaA False m hm).args (.cons (zc id) (.C .nil))
 rwa [Xb id]at this
def znn(a:BI)(hm:a.mag.length<=1000000000):CX 149 [wl a] (wl (ofZ (-a.v))):=by
 refine zd func149<|wg (zaA (¬a.neg=true) a.mag hm) ?_
 have:(if¬a.neg=true then-(val a.mag:Int) else(val a.mag:Int))= -a.v:=by
  obtain⟨h1,h2⟩|⟨h1,h2⟩:=a.v_eq <;> simp[h1,h2]
 rw[this];exact .refl
def zrA(a b:BI)(ha:a.mag.length<=800000000)(hb:b.mag.length<=800000000):CX 214 [wl a,wl b] (wl (ofZ (a.v+b.v))):=by
 refine zd func214<|Br.mk (λh=>?_) (λh=>?_)
 ·refine wc<|wg (zAU a.mag b.mag oM oM) ?_;have hl:=zjd ha hb;refine wg (zaA (a.neg=true) _ oM) ?_
  have:(if a.neg=true then-(val (zj (val a.mag+val b.mag)):Int) else(val (zj (val a.mag+val b.mag)):Int))=a.v+b.v:=by
   rw[zk]
   obtain⟨h1,h2⟩|⟨h1,h2⟩:=a.v_eq <;> obtain⟨h3,h4⟩|⟨h3,h4⟩:=b.v_eq <;> simp[h1,h3]at h <;> simp[h1,h2,h4] <;> omega
  rw[this];exact .refl
 refine wg (znf a.mag b.mag oM oM) ?_;have hl:(zj (val a.mag-val b.mag)).length<=1000000000:=XE (kZ (YI _ _)) (XE (zD _) oM);have hl2:(zj (val b.mag-val a.mag)).length<=1000000000:=XE (kZ (YI _ _)) (XE (zD _) oM);refine⟨λh2=>?_,λh2=>?_⟩
 ·refine wg (zaA (a.neg=true) _ hl) ?_
  have:(if a.neg=true then-(val (zj (val a.mag-val b.mag)):Int) else(val (zj (val a.mag-val b.mag)):Int))=a.v+b.v:=by
   rw[zk]
   obtain⟨h1,h2⟩|⟨h1,h2⟩:=a.v_eq <;> obtain⟨h3,h4⟩|⟨h3,h4⟩:=b.v_eq <;> simp[h1,h3]at h <;> simp[h1,h2,h4] <;> omega
  rw[this];exact .refl
 refine wg (znf b.mag a.mag oM oM)<|wg (zaA (b.neg=true) _ hl2) ?_
 have:(if b.neg=true then-(val (zj (val b.mag-val a.mag)):Int) else(val (zj (val b.mag-val a.mag)):Int))=a.v+b.v:=by
  rw[zk]
  obtain⟨h1,h2⟩|⟨h1,h2⟩:=a.v_eq <;> obtain⟨h3,h4⟩|⟨h3,h4⟩:=b.v_eq <;> simp[h1,h3]at h <;> simp[h3,h2,h4] <;> omega
 rw[this];exact .refl
def zxH(a b:BI)(ha:a.mag.length<=800000000)(hb:b.mag.length<=800000000):CX 213 [wl a,wl b] (wl (ofZ (a.v-b.v))):=by
 refine zd func213<|wc<|wg (znn b oM) ?_;have h1:=vO b;refine wg (zrA a (ofZ (-b.v)) oM (by rw[zT,vz];omega)) ?_;rw[zY,←Jf];exact .refl
def zlA(a:BI)(ha:a.mag.length<=900000000):CX 273 [wl a] (i64 (z1 a.v.natAbs)):=by
 refine zd func273<|wg (zlw a.mag ha) ?_;rw[BI.v_abs];exact .refl
def zEf{A B:Nat}(hB:0<B):(A%B=0-> -(A:Int)/B= -((A/B:Nat):Int)/\ -(A:Int)%B= -((A%B:Nat):Int))/\(A%B≠0-> -(A:Int)/B= -((A/B:Nat):Int)-1/\ -(A:Int)%B= -((A%B:Nat):Int)+B):=by
 have hdm:=Ka A B;have hm:=Kr A hB;generalize A/B=q at*;generalize A%B=r at*;have e:(B:Int)*(q:Int)=((B*q:Nat):Int):=(Kb _ _).symm;have hB':(0:Int)<B:=oM;refine⟨λh=>(Qq hB').2 ⟨?_,oM,oM⟩,λh=>(Qq hB').2 ⟨?_,oM,oM⟩⟩
 ·rw[QV,e];omega
 rw[YA,QV,e,Int.mul_one];omega
def zdS(a b:BI)(ha:a.mag.length<=200000000)(hb:b.mag.length<=200000000)(h0:0<b.v):
  CX 150 [wl a,wl b] (.tup [wl (ofZ (a.v/b.v)),wl (ofZ (a.v%b.v)),i64 0]):=by
 have hbv:b.neg=false/\b.v=(val b.mag:Int):=by
  obtain⟨h1,h2⟩|h:=b.v_eq
  ·omega
  exact h
 have hB:0<val b.mag:=oM;have q1:(zj (val a.mag/val b.mag)).length<=200000000:=XE (kZ (Qu _ _)) (XE (zD _) ha);have r1:(zj (val a.mag%val b.mag)).length<=200000000:=XE (kZ (Nat.mod_le _ _)) (XE (zD _) ha);have nb:¬b.neg=true:=by rw[hbv.1];decide
 refine zd func150<|wg (zfH b oM)<|⟨λh=>absurd (Qz.1 h) oM,λ_=>?_⟩;refine wg (zlx a.mag b.mag oM oM oM)<|wg (zaA (¬(a.neg=true↔b.neg=true)) _ oM)<|wg (zaA (a.neg=true) _ oM) ?_;rw[zk,zk]
 obtain⟨h1,h2⟩|⟨h1,h2⟩:=a.v_eq
 ·have pa:¬(a.neg=true↔b.neg=true):=by rw[h1,hbv.1];decide
  rw[Xe pa,Xe h1];refine⟨λh3=>?_,λh3=>absurd pa h3⟩;have nd:=zEf (A:=val a.mag) hB;rw[←h2,←hbv.2]at nd;have k1:jc (-((val a.mag/val b.mag:Nat):Int))<=200000000:=by rw[vz];exact q1
  have k2:jc (-((val a.mag%val b.mag:Nat):Int))<=200000000:=by rw[vz];exact r1
  refine wg (zfH (ofZ (-((val a.mag%val b.mag:Nat):Int))) (by rw[zT];omega)) ?_;rw[zY];refine⟨λh4=>?_,λh4=>?_⟩
  ·have hr:val a.mag%val b.mag≠0:=λh=>h4 (by rw[h];rfl)
   refine wc<|wg (zeR 1 dC)<|wg (zxH (ofZ (-((val a.mag/val b.mag:Nat):Int))) (ofZ 1) (by rw[zT];omega) (by decide +kernel))<|wg (zrA (ofZ (-((val a.mag%val b.mag:Nat):Int))) b (by rw[zT];omega) oM) ?_;rw[zY,zY,zY,(nd.2 hr).1,(nd.2 hr).2];exact .refl
  have hr:val a.mag%val b.mag=0:=by
   have:(-((val a.mag%val b.mag:Nat):Int))=0:=Qz.1 (Xc.1 h4);omega
  refine wd<|wh ?_;rw[←(nd.1 hr).1,←(nd.1 hr).2];exact .refl
 have pa:¬¬(a.neg=true↔b.neg=true):=by rw[h1,hbv.1];decide
 have na:¬a.neg=true:=by rw[h1];decide
 rw[Xb pa,Xb na];refine⟨λh3=>absurd h3 pa,λh3=>?_⟩;refine wd<|wh ?_;rw[h2,hbv.2,←Ye,←QZ];exact .refl
def uf(n:Int)(hn:R64 n):CX 68 [i64 n] (wm (ofQ (n:Rat))):=by
 refine zd func68<|wg (zeR n hn)<|wg (zeR 1 dC) ?_;have e:ofQ (n:Rat)=⟨ofZ n,ofZ 1⟩:=by unfold ofQ;rw[JM,JL];rfl
 rw[e];exact .refl
def zgQ(n d:BI)(hn:n.mag.length<=200000000)(hd:d.mag.length<=200000000)(h0:d.v≠0):
  CX 106 [wl n,wl d] (wm (ofQ (Rat.divInt n.v d.v))):=by
 refine zd func106<|wg (zEe n.mag d.mag oM oM) ?_;have hdz:val d.mag≠0:=by rw[←d.v_abs];omega
 have hg0:0<Nat.gcd (val n.mag) (val d.mag):=Q9 _ oM
 have hgl:(zj (Nat.gcd (val n.mag) (val d.mag))).length<=200000000:=
  XE (kZ (Nat.gcd_le_right _ oM)) (XE (zD _) hd)
 have hnum:=Rat.num_divInt n.v d.v;have hden:=Rat.den_divInt n.v d.v
 have hg:d.v.gcd n.v=Nat.gcd (val n.mag) (val d.mag):=by
  rw[←n.v_abs,←d.v_abs];exact Q1 _ _
 rw[hg]at hnum hden;rw[Xb h0]at hden;have ln:=vO n;have ld:=vO d;generalize Nat.gcd (val n.mag) (val d.mag)=g at*;refine wg (zA3 (zj g) oM) ?_;rw[zk];have zg:jc (g:Int)<=200000000:=hgl
 have fin:∀N D:Int,N=d.v.sign*n.v->D=(d.v.natAbs:Int)->ofQ (Rat.divInt n.v d.v)=⟨ofZ (N/(g:Int)),ofZ (D/(g:Int))⟩:=λN D hN hD=>by
  unfold ofQ;rw[hnum,hden,hN,hD];rfl
 refine wg (zfH d oM)<|⟨λh=>?_,λh=>?_⟩
 ·have hneg:d.v<0:=by
   rcases Qe d.v 0 with k|k|k
   ·exact k
   ·exact absurd k h0
   rw[Kq k]at h;omega
  refine wg (znn n oM)<|wg (znn d oM)<|wg (zdS (ofZ (-n.v)) (ofZ (g:Int)) (by rw[zT,vz];omega) (by rw[zT];omega) (by rw[zY];omega))<|wg (zdS (ofZ (-d.v)) (ofZ (g:Int)) (by rw[zT,vz];omega) (by rw[zT];omega) (by rw[zY];omega)) ?_;rw[zY,zY,zY,fin (-n.v) (-d.v) (by rw[Ki hneg];omega) oM];exact .refl
 have hpos:0<d.v:=by
  rcases Qe d.v 0 with k|k|k
  ·rw[Ki k]at h;omega
  ·exact absurd k h0
  exact k
 refine wg (zdS n (ofZ (g:Int)) oM (by rw[zT];omega) (by rw[zY];omega))<|wg (zdS d (ofZ (g:Int)) oM (by rw[zT];omega) (by rw[zY];omega)) ?_;rw[zY,fin n.v d.v (by rw[Kq hpos];omega) oM];exact .refl
def ki(a:BR)(ha:a.len<=200000000):CX 69 [wm a] (wm (ofQ a.v)):=by
 have h1:a.num.mag.length<=a.len:=Jd _ _;have h2:a.den.mag.length<=a.len:=Q2 _ _;refine zd func69<|wg (zfH a.den oM)<|⟨λh=>?_,λh=>?_⟩
 ·refine wg (uf 0 dC) ?_;have e:a.v=((0:Int):Rat):=by unfold BR.v;rw[Qz.1 h,Yo];rfl
  rw[e];exact .refl
 exact wg (zgQ a.num a.den oM oM (λk=>h (by rw[k];rfl)))<|.refl
def zEg(a b:BR)(ha:a.len<=50000000)(hb:b.len<=50000000):CX 275 [wm a,wm b] (wm (ofQ (a.v+b.v))):=by
 have h1:=zM a;have h2:=zM b;have h3:=za1 a.v;have h4:=za1 b.v;have n1:=qe a.v;have n2:=qe b.v;have d1:=qo a.v;have d2:=qo b.v;have m1:=kN a.v.num b.v.den;have m2:=kN b.v.num a.v.den;have m3:=kN a.v.den b.v.den;have m4:=zfG (a.v.num*b.v.den) (b.v.num*a.v.den);refine zd func275<|wc<|wg (ki a oM)<|wg (ki b oM)<|wc<|wg (zeS (ofQ a.v).num (ofQ b.v).den oM oM) ?_;refine wg (zeS (ofQ b.v).num (ofQ a.v).den oM oM) ?_;rw[yg,yg,jF,jF]
 refine wg (zrA (ofZ (a.v.num*b.v.den)) (ofZ (b.v.num*a.v.den)) (by rw[zT];omega) (by rw[zT];omega)) ?_;rw[zY,zY];refine wg (zeS (ofQ a.v).den (ofQ b.v).den oM oM) ?_;rw[jF,jF];refine wg (zgQ (ofZ (a.v.num*b.v.den+b.v.num*a.v.den)) (ofZ (a.v.den*b.v.den)) (by rw[zT];omega) (by rw[zT];omega) (by rw[zY];exact ue _ _)) ?_;rw[zY,zY,zjn];exact .refl
def zxI(a b:BR)(ha:a.len<=50000000)(hb:b.len<=50000000):CX 201 [wm a,wm b] (wm (ofQ (a.v*b.v))):=by
 have h1:=zM a;have h2:=zM b;have h3:=za1 a.v;have h4:=za1 b.v;have n1:=qe a.v;have n2:=qe b.v;have d1:=qo a.v;have d2:=qo b.v;have m1:=kN a.v.num b.v.num;have m3:=kN a.v.den b.v.den;refine zd func201<|wc<|wg (ki a oM)<|wg (ki b oM)<|wc<|wg (zeS (ofQ a.v).num (ofQ b.v).num oM oM) ?_;refine wg (zeS (ofQ a.v).den (ofQ b.v).den oM oM) ?_;rw[yg,yg,jF,jF];refine wg (zgQ (ofZ (a.v.num*b.v.num)) (ofZ (a.v.den*b.v.den)) (by rw[zT];omega) (by rw[zT];omega) (by rw[zY];exact ue _ _)) ?_
 rw[zY,zY,zjo];exact .refl
def zu3(a:BR)(ha:a.len<=100000000):CX 197 [wm a] (i64 (zaB a.v)):=by
 have h1:=zM a;have h3:=za1 a.v;refine zd func197<|wg (ki a oM)<|wc<|wg (zlA (ofQ a.v).num oM)<|wg (zlA (ofQ a.v).den oM) ?_;rw[yg,jF,Je];refine zh ?_;unfold zaB;simp only[zfk];omega
def vU(t:AF):List BR:=[t.a,t.b,t.c,t.d,t.e,t.f]
variable{i:Nat}
def zxJ{t:AF}{x:BR}(h:(vU t)[i]?=some x):x=t.nth i:=by
 have:i<6:=(Xd.1 h).1;have e:i=0∨i=1∨i=2∨i=3∨i=4∨i=5:=oM
 rcases e with rfl|rfl|rfl|rfl|rfl|rfl <;> (cases h;rfl)
def zxK{t:AF}{n:Nat}(h:t.le n):∀i,(t.nth i).len<=n:=λi=>by
 obtain⟨h1,h2,h3,h4,h5,h6⟩:=h;unfold AF.nth;split <;> assumption
def zgR(t:AF):CX 196 [.agg (afE t)] (.sl brE (vU t)):=by
 refine zd func196<|⟨BR,brE,vU t,rfl,wb0 ?_⟩;exact .refl
def zlB(t:AF)(ht:t.le 100000000):CX 138 [.agg (afE t)] (pr t.ok):=by
 refine zd func138<|wg (zgR t)<|⟨Nat,λi=>⟨[(4,i64 i),(3,.sl brE (vU t))],[],1,19,0⟩,λi=>i<=6/\okI t i,λi=>6-i,0,⟨Xg _,tV⟩,?_,?_⟩
 ·exact zA []
 rintro i ⟨h1,h2⟩
 intro hl;have hl6:(vU t).length=6:=rfl;refine⟨λh3=>?_,λh3=>?_⟩
 ·refine wb6 λx(hx:(vU t)[i]?=some x)=>?_;have hx:=zxJ hx;subst hx;refine wg (zu3 (t.nth i) (zxK ht i))<|⟨λh4=>?_,λh4=>?_⟩
  ·refine zc λh=>?_
   have e:i=0∨i=1∨i=2∨i=3∨i=4∨i=5:=oM;simp only[AF.ok,okI]at h
   rcases e with rfl|rfl|rfl|rfl|rfl|rfl <;> omega
  exact wa<|⟨i+1,⟨oM,h2,oM⟩,zA [],oN⟩
 have:i=6:=by omega
 subst this;exact zI h2
def zEh(a b:BI)(ha:a.mag.length<=800000000)(hb:b.mag.length<=800000000):CX 198 [wl a,wl b] (i64 (a.v-b.v).sign):=by
 refine zd func198<|wg (zxH a b ha hb) ?_;have h1:=zjb a.v b.v;have h2:=vO a;have h3:=vO b;refine wg (zfH (ofZ (a.v-b.v)) (by rw[zT];omega)) ?_;rw[zY];exact .refl
def zxL(a b:BR)(ha:a.len<=100000000)(hb:b.len<=100000000):CX 139 [wm a,wm b] (i64 (zjq a.v b.v)):=by
 have h1:=zM a;have h2:=zM b;have h3:=za1 a.v;have h4:=za1 b.v;have n1:=qe a.v;have n2:=qe b.v;have d1:=qo a.v;have d2:=qo b.v;have m1:=kN a.v.num b.v.den;have m2:=kN b.v.num a.v.den;refine zd func139<|wc<|wg (ki a oM)<|wg (ki b oM)<|wc<|wg (zeS (ofQ a.v).num (ofQ b.v).den oM oM) ?_;refine wg (zeS (ofQ b.v).num (ofQ a.v).den oM oM) ?_;rw[yg,yg,jF,jF];refine wg (zEh (ofZ (a.v.num*b.v.den)) (ofZ (b.v.num*a.v.den)) (by rw[zT];omega) (by rw[zT];omega)) ?_;rw[zY,zY];exact .refl
def zA4(x:Rat):ofQ (-x)=⟨ofZ (-x.num),ofZ x.den⟩:=by unfold ofQ;rw[Rat.neg_num,Rat.neg_den]
def zEi(a:BR)(ha:a.len<=100000000):CX 276 [wm a] (wm (ofQ (-a.v))):=by
 have h1:=zM a;have h3:=za1 a.v;refine zd func276<|wg (ki a oM)<|wc<|wg (znn (ofQ a.v).num oM) ?_;rw[yg,zA4];exact .refl
def zEj(a b:BR)(ha:a.len<=40000000)(hb:b.len<=40000000):CX 200 [wm a,wm b] (wm (ofQ (a.v-b.v))):=by
 have h2:=zM b;refine zd func200<|wc<|wg (zEi b oM)<|wg (zEg a (ofQ (-b.v)) oM (by rw[zO,zo8];omega)) ?_;rw[kA,←J2];exact .refl
def bi_eq{a b:BI}(h1:a.neg=true↔b.neg=true)(hl:a.mag.length=b.mag.length)(hi:¬i<a.mag.length)(h:∀j,j<i->a.mag[j]?=b.mag[j]?):a=b:=by
 obtain⟨n,m⟩:=a;obtain⟨n',m'⟩:=b;have e1:n=n':=QA.2 h1
 have e2:m=m':=Kv λj=>by
  by_cases hj:j<i
  ·exact h j hj
  dsimp only at hl hi;rw[XF oM,XF oM]
 subst e1 e2;rfl
def zjs(a b:BI)(ha:a.mag.length<=100000000):CX 509 [wl a,wl b] (pr (a=b)):=by
 refine zd func509<|Br.mk (λh1=>zc λe=>h1 (by rw[e])) (λh1=>?_);have h1:=Xc.1 h1;intro hl1 hl2;refine⟨λh2=>zc λe=>h2 (by rw[e]),λh2=>?_⟩;have h2:=Xc.1 h2;refine⟨Nat,λi=>⟨[(5,i64 i),(3,.loc 1 0),(2,.loc 0 0)],[(1,.box 45 (biE b)),(0,.box 45 (biE a))],2,38,0⟩,λi=>i<=a.mag.length/\∀j,j<i->a.mag[j]?=b.mag[j]?,λi=>a.mag.length-i,0,⟨Xg _,λj h=>by omega⟩,zi [0,1],?_⟩
 rintro i ⟨hi,hs⟩
 intro hl3;refine⟨λh3=>?_,λh3=>zI (bi_eq h1 oM oM hs)⟩;refine wc<|wb λx(hx:a.mag[i]?=some x)=>?_;refine wb λy(hy:b.mag[i]?=some y)=>?_;refine⟨λh4=>zc λe=>?_,λh4=>?_⟩
 ·subst e;rw[hx]at hy;cases hy;exact h4 rfl
 have h4:=Xc.1 h4;have exy:x=y:=Fin.ext oM;refine wa<|⟨i+1,⟨oM,λj hj=>?_⟩,zi [0,1],oN⟩
 by_cases e:j=i
 ·subst e;rw[hx,hy,exy]
 exact hs j oM
def zA5(a b:BR)(ha:a.len<=100000000):CX 507 [wm a,wm b] (pr (a=b)):=by
 have h1:a.num.mag.length<=a.len:=Jd _ _;have h2:a.den.mag.length<=a.len:=Q2 _ _;refine zd func507<|wg (zjs a.num b.num oM)<|⟨λe1=>?_,λe1=>zc λe=>e1 (by rw[e])⟩;refine wg (zjs a.den b.den oM)<|zr ⟨λe2=>?_,λe=>by rw[e]⟩
 cases a;cases b;simp_all
def zrB(xs ys:List BR)(hx:∀x∈xs,x.len<=100000000):CX 504 [.sl brE xs,.sl brE ys] (pr (xs=ys)):=by
 refine zd func504 λhl1 hl2=>?_;refine⟨λh1=>zc λe=>h1 (by rw[e]),λh1=>?_⟩;have h1:=Xc.1 h1;refine⟨Nat,λi=>⟨[(5,i64 i),(0,.sl brE xs),(1,.sl brE ys)],[],0,27,0⟩,λi=>i<=xs.length/\∀j,j<i->xs[j]?=ys[j]?,λi=>xs.length-i,0,⟨Xg _,λj h=>by omega⟩,zA [],?_⟩
 rintro i ⟨hi,hs⟩
 intro hl3;refine⟨λh3=>?_,λh3=>?_⟩
 ·refine wc<|wb λx(hx1:xs[i]?=some x)=>?_;refine wb λy(hy:ys[i]?=some y)=>?_;refine wg (zA5 x y (hx x (Xf hx1)))<|⟨λh4=>zc λe=>?_,λh4=>?_⟩
  ·subst e;rw[hx1]at hy;cases hy;exact h4 rfl
  have exy:=Xc.1 h4;refine wa<|⟨i+1,⟨oM,λj hj=>?_⟩,zA [],oN⟩
  by_cases e:j=i
  ·subst e;rw[hx1,hy,exy]
  exact hs j oM
 refine zI (Kv λj=>?_)
 by_cases hj:j<i
 ·exact hs j hj
 rw[XF oM,XF oM]
def zdT{x y:Rat}(h:ofQ x=ofQ y):x=y:=by rw[←kA x,←kA y,h]
def zu4{t:AF}{n:Nat}(h:t.le n):∀x∈vU t,x.len<=n:=λx hx=>by
 obtain⟨h1,h2,h3,h4,h5,h6⟩:=h;simp only[vU,XD,XR,or_false]at hx
 rcases hx with rfl|rfl|rfl|rfl|rfl|rfl <;> assumption
def zrC(t u:AF)(ht:t.le 100000000):CX 492 [.agg (afE t),.agg (afE u)] (pr (vU t=vU u)):=by
 exact zd func492<|wc<|wg (zgR t)<|wg (zgR u)<|wg (zrB (vU t) (vU u) (zu4 ht))<|zr Qd
def zet(t:AF)(ht:t.le 100000000):CX 493 [.agg (afE t)] (.agg (afE t.nrm)):=by
 obtain⟨ha,hb,hc,hd,he,hf⟩:=ht;refine zd func493<|wc<|wg (ki t.a oM)<|wg (ki t.b oM)<|wg (ki t.c oM)<|wg (ki t.d oM) ?_;exact wg (ki t.e oM)<|wg (ki t.f oM)<|.refl
variable{u:AF}
def zxM{t:AF}:vU t.nrm=vU u.nrm↔t.same u:=by
 constructor
 ·intro h;simp only[vU,AF.nrm,List.cons.injEq,and_true]at h;exact⟨zdT h.1,zdT h.2.1,zdT h.2.2.1,zdT h.2.2.2.1,zdT h.2.2.2.2.1,zdT h.2.2.2.2.2⟩
 rintro⟨h1,h2,h3,h4,h5,h6⟩
 simp only[vU,AF.nrm,h1,h2,h3,h4,h5,h6]
def zu5(t u:AF)(ht:t.le 10000000)(hu:u.le 10000000):CX 456 [.agg (afE t),.agg (afE u)] (pr (t.same u)):=by
 have hn:=AF.le_len ht;obtain⟨ha,hb,hc,hd,he,hf⟩:=ht;obtain⟨ka,kb,kc,kd,ke,kf⟩:=hu;obtain⟨na,nb,nc,nd,ne,nf⟩:=hn;exact zd func456<|wc<|wg (zet t ⟨oM,oM,oM,oM,oM,oM⟩)<|wg (zet u ⟨oM,oM,oM,oM,oM,oM⟩)<|wg (zrC t.nrm u.nrm ⟨oM,oM,oM,oM,oM,oM⟩)<|zr zxM
def zti(t:AF)(ht:t.le 10000000):CX 140 [.agg (afE t)] (wm (ofQ (v7 t))):=by
 obtain⟨ha,hb,hc,hd,he,hf⟩:=ht;have l1:=zM t.a;have l2:=zM t.b;have l3:=zM t.c;have l4:=zM t.d;have m1:=yT t.a.v t.d.v;have m2:=yT t.b.v t.c.v;refine zd func140<|wc<|wg (zxI t.a t.d oM oM)<|wg (zxI t.b t.c oM oM)<|wg (zEj (ofQ (t.a.v*t.d.v)) (ofQ (t.b.v*t.c.v)) (by rw[zO];omega) (by rw[zO];omega)) ?_;rw[kA,kA];exact .refl
def zBR:BR:=⟨⟨false,[]⟩,⟨false,[]⟩⟩
def qh:AF:=⟨zBR,zBR,zBR,zBR,zBR,zBR⟩
def zBR_v:zBR.v=0:=by decide +kernel
def yc:LEs [bl false,nS,bl false,nS] (brE zBR):=
 .cons (zc dC) (.cons zw (.cons (zc dC) (.cons zw .nil)))
def LEs.append:∀{xs bs cs ds:LQ},LEs xs bs->LEs cs ds->LEs (xs++cs) (bs++ds)
 |[],[],_,_,_,h=>h
 |_::_,_::_,_,_,.cons h hs,k=>.cons h (LEs.append hs k)
def z4:LQ:=[bl false,nS,bl false,nS]
def zdU:LE (.agg uM) (.agg (afE qh)):=by
 have yc:LEs z4 (brE zBR):=yc;have h:LE (.agg (z4++(z4++(z4++(z4++(z4++z4)))))) (.agg (afE qh)):=jg (LEs.append yc (LEs.append yc (LEs.append yc (LEs.append yc (LEs.append yc yc)))));exact h
def idA:AF:=afQ ((1:Int):Rat) ((0:Int):Rat) ((0:Int):Rat) ((1:Int):Rat) ((0:Int):Rat) ((0:Int):Rat)
def zno:idA.le 2:=⟨by decide +kernel,by decide +kernel,by decide +kernel,by decide +kernel,by decide +kernel,by decide +kernel⟩
def znp(t u:AF):(beh t u).nrm=beh t u:=by
 unfold beh AF.nrm afQ;simp only[kA]
def zu6{t:AF}(h:(beh t u).ok):(beh t u).le 8:=by
 have:=ok_le (t:=beh t u) (by rw[znp];exact h)
 rwa [znp]at this
variable{m:Nat}
def AF.le.up{t:AF}{n:Nat}(h:t.le n)(k:n<=m):t.le m:=by
 obtain⟨h1,h2,h3,h4,h5,h6⟩:=h;exact⟨oM,oM,oM,oM,oM,oM⟩
def znq(a b c d:Int)(e f:BR)(ha:R64 a)(hb:R64 b)(hc:R64 c)(hd:R64 d)(he:e.len<=100000000)(hf:f.len<=100000000):
  CX 42 [i64 a,i64 b,i64 c,i64 d,wm e,wm f] (.agg (afE (afQ a b c d e.v f.v))):=by
 refine zd func42<|wc<|wg (uf a ha)<|wg (uf b hb)<|wg (uf c hc)<|wg (uf d hd) ?_;exact wg (ki e oM)<|wg (ki f oM)<|.refl
def zEk:zBR.v=((0:Int):Rat):=by decide +kernel
def v8:CX 23 [] (.agg (afE idA)):=by
 refine zd func23 ?_
 refine zb.to _ ((znq 1 0 0 1 zBR zBR dC dC dC dC dC dC).args
  (.C (.C (.C (.C (.cons (jg yc) (.cons (jg yc) .nil))))))) rfl ?_
 rw[zEk];exact .refl
def jo(n lo hi:Int):Int:=if n<lo then lo else if hi<n then hi else n
def znr(n lo hi:Int):CX 181 [i64 n,i64 lo,i64 hi] (i64 (jo n lo hi)):=by
 refine zd func181<|Br.mk (λh=>?_) (λh=>?_)
 ·exact zh (by simp[jo,h])
 refine⟨λh2=>?_,λh2=>?_⟩
 ·exact zh (by simp[jo,h,h2])
 exact zh (by simp[jo,h,h2])
def zjt{n lo hi:Int}(_:lo<=hi):jo n lo hi=n↔lo<=n/\n<=hi:=by
 unfold jo;split <;> (try split) <;> omega
structure Pt where
 x:Int
 y:Int
 deriving DecidableEq
def ptE(p:Pt):LQ:=[i64 p.x,i64 p.y]
def zp:Pt:=⟨0,0⟩
def zm(p:Pt):Prop:=(-1048576<=p.x/\p.x<=1048576)/\(-1048576<=p.y/\p.y<=1048576)
instance (p:Pt):Decidable (zm p):=wi
def qU{p q:Pt}:(p.x=q.x/\p.y=q.y/\True)↔p=q:=by
 cases p;cases q;simp
def zxN(n:Int):CX 178 [i64 n] (i64 (jo n (-1048576) 1048576)):=by
 exact zd func178<|wg (znr n _ _)<|.refl
def zxO(p:Pt):CX 124 [.agg (ptE p)] (.agg [i64 (jo p.x (-1048576) 1048576),i64 (jo p.y (-1048576) 1048576)]):=by
 exact zd func124<|wc<|wg (zxN p.x)<|wg (zxN p.y)<|.refl
def kC(p:Pt):CX 88 [.agg (ptE p)] (pr (zm p)):=by
 refine zd func88<|wc<|wg (zxO p)<|zr (p:=jo p.x (-1048576) 1048576=p.x/\jo p.y (-1048576) 1048576=p.y/\True) ?_;rw[zjt dC,zjt dC];exact⟨λh=>⟨h.1,h.2.1⟩,λh=>⟨h.1,h.2,tV⟩⟩
def vd(p:Pt):CX 97 [.agg (ptE p)] (pr (zm p)):=by
 refine zd func97<|Br.mk (λh1=>?_) (λh1=>zc (λh=>h1 h.1.1));refine⟨λh2=>?_,λh2=>zc (λh=>h2 h.1.2)⟩;refine⟨λh3=>?_,λh3=>zc (λh=>h3 h.2.1)⟩;exact zr ⟨λh4=>⟨⟨h1,h2⟩,⟨h3,h4⟩⟩,λh=>h.2.2⟩
def hI(n:Int):Int:=jo n (-1048576) 1048576
def ux(p:Pt):Pt:=⟨hI p.x,hI p.y⟩
def yn(n:Int): -1048576<=hI n/\hI n<=1048576:=by unfold hI jo;split <;> (try split) <;> omega
def ztj{n:Int}(h: -1048576<=n/\n<=1048576):hI n=n:=(zjt dC).2 h
def y5(p:Pt):zm (ux p):=⟨yn _,yn _⟩
variable{p:Pt}
def zgS(h:zm p):ux p=p:=by
 cases p;unfold ux;rw[ztj h.1,ztj h.2]
def zS(p q:Pt):Pt:=⟨p.x+q.x,p.y+q.y⟩
def zC(p q:Pt):Pt:=⟨p.x-q.x,p.y-q.y⟩
def zns(p q:Pt):Pt:=zC (ux p) (ux q)
def perpP(p:Pt):Pt:=⟨-hI p.y,hI p.x⟩
def wdg(p q:Pt):Int:=p.x*q.y-p.y*q.x
def dtp(p q:Pt):Int:=p.x*q.x+p.y*q.y
def zb1(p q:Pt):Int:=wdg (ux p) (ux q)
def zu7(p q:Pt):Int:=dtp (ux p) (ux q)
def sgn(n:Int):Int:=if n<0 then-1 else if 0<n then 1 else 0
def zu8(n:Int):jo n (-1) 1=sgn n:=by unfold jo sgn;split <;> (try split) <;> (try split) <;> omega
def jh{a b A B:Int}(ha: -A<=a/\a<=A)(hb: -B<=b/\b<=B): -(A*B)<=a*b/\a*b<=A*B:=by
 have h1:=XI (show 0<=A-a by omega) (show 0<=B-b by omega);have h2:=XI (show 0<=A-a by omega) (show 0<=B+b by omega);have h3:=XI (show 0<=A+a by omega) (show 0<=B-b by omega);have h4:=XI (show 0<=A+a by omega) (show 0<=B+b by omega);have e1:(A-a)*(B-b)=A*B-A*b-a*B+a*b:=by grind
 have e2:(A-a)*(B+b)=A*B+A*b-a*B-a*b:=by grind
 have e3:(A+a)*(B-b)=A*B-A*b+a*B-a*b:=by grind
 have e4:(A+a)*(B+b)=A*B+A*b+a*B+a*b:=by grind
 omega
variable{q:Pt}
def zlC(hp:zm p)(hq:zm q): -2199023255552<=dtp p q/\dtp p q<=2199023255552/\(-1099511627776<=p.x*q.x/\p.x*q.x<=1099511627776)/\(-1099511627776<=p.y*q.y/\p.y*q.y<=1099511627776):=by
 have h1:=jh hp.1 hq.1;have h2:=jh hp.2 hq.2;unfold dtp;omega
def zgT(hp:zm p)(hq:zm q): -2199023255552<=wdg p q/\wdg p q<=2199023255552/\(-1099511627776<=p.x*q.y/\p.x*q.y<=1099511627776)/\(-1099511627776<=p.y*q.x/\p.y*q.x<=1099511627776):=by
 have h1:=jh hp.1 hq.2;have h2:=jh hp.2 hq.1;unfold wdg;omega
def j9(x:Int):0<=x*x:=by
 rcases Jm 0 x with h|h
 ·exact XI h h
 have:=XI (show 0<= -x by omega) (show 0<= -x by omega)
 rwa [Int.neg_mul_neg]at this
def sqL(n:Int):Nat->Int->Int
 |0,s=>s
 |k+1,s=>sqL n k (if (s+2^k)*(s+2^k)<=n then s+2^k else s)
def isq(n:Int):Int:=sqL n 32 0
def zju(n:Int):∀(k:Nat) (s:Int),0<=s->s*s<=n->n<(s+2^k)*(s+2^k)->0<=sqL n k s/\sqL n k s*sqL n k s<=n/\n<(sqL n k s+1)*(sqL n k s+1)
 |0,s,h0,h1,h2=>by simp only[sqL];exact⟨h0,h1,by simpa using h2⟩
 |k+1,s,h0,h1,h2=>by
  have hp:(0:Int)<2^k:=Int.pow_pos dC;have e:(2:Int)^(k+1)=2^k+2^k:=by rw[Int.pow_succ];omega
  simp only[sqL]
  split
  ·rename_i h;refine zju n k _ oM h ?_;rw[e]at h2
   rwa [Int.add_assoc]
  rename_i h;exact zju n k _ h0 h1 oM
def zfL{n:Int}(h0:0<=n)(h:n<18446744073709551616):0<=isq n/\isq n*isq n<=n/\n<(isq n+1)*(isq n+1):=
 zju n 32 0 dC (by simpa using h0) (by simpa using h)
def zxP{n:Int}(h0:0<=n)(h:n<18446744073709551616):isq n<4294967296:=by
 have hs:=zfL h0 h;refine Int.not_le.1 λhk=>?_
 have:=JW hk hk dC hs.1;omega
variable{a:Int}{b:Int}
def sq_le(ha:0<=b)(h:a*a<=b*b):a<=b:=by
 refine YH.1 λhk=>?_
 have h1:=JW (show b+1<=a by omega) (show b+1<=a by omega) oM oM;have e:(b+1)*(b+1)=b*b+2*b+1:=by grind
 omega
def zxQ{n:Int}(h0:0<=n)(h:n<18446744073709551616)(h1:a*a<=n):a<=isq n:=by
 have hs:=zfL h0 h;have:a<=isq n+1:=sq_le oM oM
 by_cases e:a=isq n+1
 ·subst e;omega
 omega
def zxR(p:Pt):Int:=isq (65536*zu7 p p)
def zfM(a b:Int):Int:=(2*a+b)/(2*b)
def zlD(a b:Pt)(n d:Int):Pt:=
 if d<1∨1099511627776<d then ux a
 else⟨hI a.x+kQ (jo n 0 d*(hI b.x-hI a.x)) d,hI a.y+kQ (jo n 0 d*(hI b.y-hI a.y)) d⟩
def znt(r:List Pt):Prop:=(r.length:Int)<=4096/\∀p∈r,zm p
instance (r:List Pt):Decidable (znt r):=wi
def vB(r:List Pt)(n:Nat):Int:=((List.range n).map λi=>zb1 (r.getD i zp) (r.getD ((i+1)%r.length) zp)).sum
def zeu(r:List Pt):Int:=if znt r then vB r r.length else 0
def zxS(r:List Pt):List Pt:=match r with
 |[]=>[]
 |p::q=>p::q.reverse
def qD(r:List Pt):List Pt:=if zeu r=0 then[] else if zeu r<0 then zxS r else r
def zeT(r:List Pt)(n:Nat):vB r (n+1)=vB r n+zb1 (r.getD n zp) (r.getD ((n+1)%r.length) zp):=by
 unfold vB;rw[KI,XG,QP];simp
def zpa(r:List Pt)(n:Nat): -(2199023255552*(n:Int))<=vB r n/\vB r n<=2199023255552*(n:Int):=by
 induction n with
 |zero=>exact⟨by show _<=(0:Int);decide,by show(0:Int)<=_;decide⟩
 |succ n ih=>
  rw[zeT];have:=zgT (y5 (r.getD n zp)) (y5 (r.getD ((n+1)%r.length) zp));unfold zb1;omega
def zrD(r:List Pt):(qD r).length=0∨(qD r).length=r.length:=by
 unfold qD
 split
 ·exact .inl rfl
 split
 ·right;unfold zxS;split <;> simp
 exact .inr rfl
def kg(w:Int):Prop:=1<=w/\w<=16384
instance (w:Int):Decidable (kg w):=wi
def zfN(n:Int):Prop:=n < -2097152∨2097152<n
instance (n:Int):Decidable (zfN n):=wj
def kT(v:Pt)(w:Int):Pt:=
 if¬kg w∨zfN v.x∨zfN v.y∨v=zp then zp
 else⟨kQ (-v.y*w*128) (isq (65536*(v.x*v.x+v.y*v.y))),kQ (v.x*w*128) (isq (65536*(v.x*v.x+v.y*v.y)))⟩
def uy(a b:Pt)(w:Int):List Pt:=
 if¬(kg w/\zm a/\zm b) then[]
 else qD [zC a (kT (zC b a) w),zC b (kT (zC b a) w),zS b (kT (zC b a) w),zS a (kT (zC b a) w)]
def zbf:List Pt:=[⟨16384,0⟩,⟨15137,6270⟩,⟨11585,11585⟩,⟨6270,15137⟩,⟨0,16384⟩,⟨-6270,15137⟩,⟨-11585,11585⟩,⟨-15137,6270⟩,
 ⟨-16384,0⟩,⟨-15137,-6270⟩,⟨-11585,-11585⟩,⟨-6270,-15137⟩,⟨0,-16384⟩,⟨6270,-15137⟩,⟨11585,-11585⟩,⟨15137,-6270⟩]
def zcw(p:Pt)(w:Int):List Pt:=
 if¬(kg w/\zm p) then[] else qD (zbf.map λq=>zS p ⟨kQ (q.x*w) 32768,kQ (q.y*w) 32768⟩)
def zrE(a b:Pt)(w:Int):List Pt:=
 if¬(kg w/\zm a/\zm b) then[]
 else
  let n:=kT (zC b a) w
  let e:Pt:=⟨n.y,-n.x⟩
  qD [zC b n,zS (zC b n) e,zS (zS b n) e,zS b n]
def zjv(p:Pt)(w:Int):List Pt:=
 if¬(kg w/\zm p) then[]
 else qD [⟨p.x-kQ w 2,p.y-kQ w 2⟩,⟨p.x+kQ w 2,p.y-kQ w 2⟩,⟨p.x+kQ w 2,p.y+kQ w 2⟩,⟨p.x-kQ w 2,p.y+kQ w 2⟩]
structure Pen where
 w:Int
 j:Int
 c:Int
 m:Int
 d:LU
 ph:Int
def vP(l:LU):Prop:=(∀n∈l,0<=n/\n<=1048576)/\(l=[]∨∃n∈l,0<n)/\l.length%2=0/\(l.length:Int)<=16
instance (l:LU):Decidable (vP l):=wi
def kV(p:Pen):Prop:=kg p.w/\(p.j=1∨p.j=2∨p.j=3)/\(p.c=3∨p.c=4∨p.c=5)/\(256<=p.m/\p.m<=65536)/\vP p.d/\(0<=p.ph/\p.ph<=1048576)
instance (p:Pen):Decidable (kV p):=wi
def zb2(n m:Pt)(w lim:Int):Pt×Bool:=
 if¬(zm n/\zm m/\kg w/\256<=lim/\lim<=65536) then(zp,false)
 else
  let s:=zS n m
  let q:=s.x*s.x+s.y*s.y
  if q=0∨lim*lim*q<256*w*(256*w) then(zp,false) else(⟨kQ (s.x*w*w) (2*q),kQ (s.y*w*w) (2*q)⟩,true)
def znu(p:Pt):Pt:=⟨-p.x,-p.y⟩
def q9(a v b:Pt)(w:Int):Pt×Pt×Bool:=
 if¬(zm a/\zm v/\zm b/\kg w) then(zp,zp,false)
 else
  let x:=zC v a
  let y:=zC b v
  if wdg x y=0 then(zp,zp,false) else if 0<wdg x y then(znu (kT x w),znu (kT y w),true) else(kT x w,kT y w,true)
def qH(r:List Pt):List (List Pt):=if r=[] then[] else[r]
def uY(a v b:Pt)(p:Pen):List (List Pt):=
 if¬(kV p/\zm a/\zm v/\zm b/\¬v=a/\¬v=b) then[]
 else if p.j=3 then qH (zcw v p.w)
 else if (q9 a v b p.w).2.2=false then[]
 else
  let n:=(q9 a v b p.w).1
  let m:=(q9 a v b p.w).2.1
  qH (qD (if p.j=1/\(zb2 n m p.w p.m).2=true then[v,zS v n,zS v (zb2 n m p.w p.m).1,zS v m] else[v,zS v n,zS v m]))
structure Sg where
 v:Int
 a:Pt
 b:Pt
 c:Pt
 deriving DecidableEq
def sgE(s:Sg):LQ:=[i64 s.v,i64 s.a.x,i64 s.a.y,i64 s.b.x,i64 s.b.y,i64 s.c.x,i64 s.c.y]
def nm(v:Int):Int:=if v=1 then 1 else if v=2 then 1 else if v=3 then 2 else if v=4 then 3 else if v=5 then 0 else-1
def c_named(v:Int):CX 320 [i64 v] (i64 (nm v)):=by
 refine zd func320<|Br.mk (λh4=>?_) (λh4=>?_)
 ·exact Ar.fit dC<|Ar.fit dC<|Ar.fit dC<|zh (by rw[h4];rfl)
 refine⟨λh3=>?_,λh3=>?_⟩
 ·exact Ar.fit dC<|Ar.fit dC<|zh (by rw[h3];rfl)
 refine⟨λh1=>?_,λh1=>?_⟩
 ·refine⟨λ_=>?_,λh=>absurd h1 h⟩;exact Ar.fit dC<|zh (by rw[h1];rfl)
 refine⟨λh2=>?_,λh2=>?_⟩
 ·exact Ar.fit dC<|zh (by rw[h2];rfl)
 refine⟨λh5=>?_,λh5=>?_⟩
 ·exact zh (by rw[h5];rfl)
 exact zh (by unfold nm;rw[Xb h1,Xb h2,Xb h3,Xb h4,Xb h5])
def pk(n i:Int)(p:Pt):Prop:=zm p/\(n<=i->p=zp)
instance (n i:Int) (p:Pt):Decidable (pk n i p):=wi
def zb3(s:Sg):Prop:=pk (nm s.v) 0 s.a/\pk (nm s.v) 1 s.b/\pk (nm s.v) 2 s.c
instance (s:Sg):Decidable (zb3 s):=wi
def zpb{s:Sg}:zb3 s↔∀(j:Nat) x,[s.a,s.b,s.c][j]?=some x->pk (nm s.v) j x:=by
 constructor
 ·rintro⟨h1,h2,h3⟩ j x hx
  match j,hx with
  |0,hx=>cases hx;exact h1
  |1,hx=>cases hx;exact h2
  |2,hx=>cases hx;exact h3
 exact λh=>⟨h 0 _ rfl,h 1 _ rfl,h 2 _ rfl⟩
def zrF(s:Sg):CX 354 [.agg (sgE s)] (pr (zb3 s)):=by
 refine zd func354<|⟨Pt,ptE,[s.a,s.b,s.c],rfl,wb0 ?_⟩;intro _
 refine⟨Nat,λi=>⟨[(13,i64 i),(12,i64 3),(11,.own 1),(1,.loc 0 0)],[(1,.arr 28 ptE 2 [s.a,s.b,s.c]),(0,.box 83 (sgE s))],2,34,0⟩,
  λi=>i<=3/\∀(j:Nat) x,j<i->[s.a,s.b,s.c][j]?=some x->pk (nm s.v) j x,λi=>3-i,0,?_,?_,?_⟩
 ·exact⟨oM,λj x hj=>by omega⟩
 ·exact zi [0,1]
 rintro i ⟨h1,h2⟩
 refine⟨λh3=>?_,λh3=>?_⟩
 ·have h3:i<3:=by omega
  refine Ob.mk ⟨oM,by show(i:Int)<3;omega⟩<|Ob.mk ⟨oM,by show(i:Int)<3;omega⟩ λx(hx:[s.a,s.b,s.c][i]?=some x)=>?_;refine wg (kC x) ?_;have out:¬pk (nm s.v) i x->¬zb3 s:=λh hf=>h (zpb.1 hf i x hx)
  refine⟨λh4=>zc (out λh=>h4 h.1),λh4=>?_⟩;have h4:=Xc.1 h4;refine wg (c_named s.v) ?_
  have next:pk (nm s.v) i x->(i+1<=3/\∀(j:Nat) x,j<i+1->[s.a,s.b,s.c][j]?=some x->pk (nm s.v) j x):=λh=>⟨oM,λj y hj hy=>by
   by_cases e:j=i
   ·subst e;rw[hx]at hy;cases hy;exact h
   exact h2 j y oM hy⟩
  refine⟨λh5=>?_,λh5=>?_⟩
  ·refine⟨λh6=>zc (out λh=>h6 (qU.2 (h.2 h5))),λh6=>?_⟩;have h6:x=zp:=qU.1 (Xc.1 h6);exact wa<|⟨i+1,next ⟨h4,λ_=>h6⟩,zi [0,1],oN⟩
  exact wa<|⟨i+1,next ⟨h4,λh=>absurd h h5⟩,zi [0,1],oN⟩
 refine zI (zpb.2 λj x hx=>h2 j x ?_ hx);have:=(Xd.1 hx).1;have h3:¬((i:Int)<3):=h3;simp at this;omega
def zaC(last v:Int):Prop:=v=1∨(last≠5/\(v≠5∨last≠1))
instance (last v:Int):Decidable (zaC last v):=wj
def qO(last:Int)(s:Sg):Int:=if nm s.v<0 then 2 else if¬zaC last s.v then 10 else if¬zb3 s then 6 else 0
def chk(last:Int)(i:Nat):List Sg->Int×Int
 |[]=>(0,0)
 |s::r=>if qO last s≠0 then(qO last s,i) else chk s.v (i+1) r
def vC(l:List Sg):Int×Int:=if 256<l.length then(5,256) else chk 5 0 l
def kX(l:List Sg):Prop:=(vC l).1=0
instance (l:List Sg):Decidable (kX l):=inferInstanceAs (Decidable (_=_))
def zb4{α:Type}{l:List α}{x:α}(h:l[i]?=some x):l.drop i=x::l.drop (i+1):=by
 obtain⟨hl,he⟩:=Xd.1 h;rw[K5 hl,he]
def twoI(c:Int×Int):SV:=.tup [i64 c.1,i64 c.2]
def zA6(l:List Sg):CX 289 [.sl sgE l] (twoI (vC l)):=by
 refine zd func289 ?_;have fin:∀{a b:Int},vC l=(a,b)->LE (.tup [i64 a,i64 b]) (twoI (vC l)):=λh=>by rw[h];exact .refl
 intro hl;refine⟨λh=>fin (by unfold vC;rw[Xe oM]),λh=>?_⟩;have hc:vC l=chk 5 0 l:=by unfold vC;rw[Xb oM]
 intro hl1;refine⟨Nat×Int,λq=>⟨[(13,i64 q.1),(12,i64 l.length),(11,.sl sgE l),(4,i64 q.2)],[],0,52,0⟩,λq=>q.1<=l.length/\chk 5 0 l=chk q.2 q.1 (l.drop q.1),λq=>l.length-q.1,(0,5),?_,?_,?_⟩
 ·exact⟨Xg _,rfl⟩
 ·exact zA []
 rintro⟨i,last⟩ ⟨h1,h2⟩
 have h1:i<=l.length:=h1;have h2:chk 5 0 l=chk last i (l.drop i):=h2;refine⟨λh3:(i:Int)<l.length=>?_,λh3=>?_⟩
 ·refine Ob.mk ⟨oN,h3⟩ λx(hx:l[i]?=some x)=>?_;rw[zb4 hx]at h2
  have bad:∀{e:Int},qO last x=e->e≠0->vC l=(e,(i:Int)):=λh hn=>by
   rw[hc,h2];unfold chk;rw[Xe (by rw[h];exact hn),h]
  have good:qO last x=0->(i+1,x.v).1<=l.length/\chk 5 0 l=chk (i+1,x.v).2 (i+1,x.v).1 (l.drop (i+1,x.v).1):=λh=>⟨by show i+1<=_;omega,by
   show _=chk x.v (i+1) _;rw[h2];conv=>lhs;unfold chk
   rw[Xb (λhn=>hn h)]⟩
  refine⟨λj1=>?_,λj1=>?_⟩
  ·have st:zaC last x.v:=.inl j1;refine wg (c_named x.v)<|⟨λk1=>fin (bad (by unfold qO;rw[Xe k1]) dC),λk1=>?_⟩;refine wg (zrF x)<|⟨λk2=>fin (bad (by unfold qO;rw[Xb k1,Xb (λh=>h st),Xe k2]) dC),λk2=>?_⟩;exact Ar.fit oN<|⟨(i+1,x.v),good (by unfold qO;rw[Xb k1,Xb (λh=>h st),Xb k2]),zA [],by show l.length-(i+1)<l.length-i;omega⟩
  refine⟨λj2=>?_,λj2=>?_⟩
  ·refine⟨λj3=>?_,λj3=>?_⟩
   ·have st:zaC last x.v:=.inr ⟨j2,.inl j3⟩;refine wg (c_named x.v)<|⟨λk1=>fin (bad (by unfold qO;rw[Xe k1]) dC),λk1=>?_⟩;refine wg (zrF x)<|⟨λk2=>fin (bad (by unfold qO;rw[Xb k1,Xb (λh=>h st),Xe k2]) dC),λk2=>?_⟩;exact Ar.fit oN<|⟨(i+1,x.v),good (by unfold qO;rw[Xb k1,Xb (λh=>h st),Xb k2]),zA [],by show l.length-(i+1)<l.length-i;omega⟩
   refine wg (c_named x.v)<|⟨λk1=>fin (bad (by unfold qO;rw[Xe k1]) dC),λk1=>?_⟩;have j3:=Xc.1 j3
   have ns:¬last≠1->¬zaC last x.v:=λk0 st=>by
    rcases st with st|⟨_,st|st⟩
    ·exact j1 st
    ·exact st j3
    exact k0 st
   refine⟨λk0=>fin (bad (by unfold qO;rw[Xb k1,Xe (ns k0)]) dC),λk0=>?_⟩;have st:zaC last x.v:=.inr ⟨j2,.inr (Xc.1 k0)⟩;refine wg (zrF x)<|⟨λk2=>fin (bad (by unfold qO;rw[Xb k1,Xb (λh=>h st),Xe k2]) dC),λk2=>?_⟩;exact Ar.fit oN<|⟨(i+1,x.v),good (by unfold qO;rw[Xb k1,Xb (λh=>h st),Xb k2]),zA [],by show l.length-(i+1)<l.length-i;omega⟩
  refine wg (c_named x.v)<|⟨λk1=>fin (bad (by unfold qO;rw[Xe k1]) dC),λk1=>?_⟩
  have ns:¬zaC last x.v:=λst=>by
   rcases st with st|⟨st,_⟩
   ·exact j1 st
   exact j2 st
  exact fin (bad (by unfold qO;rw[Xb k1,Xe ns]) dC)
 refine fin (hc.trans (h2.trans ?_));rw[KB (by have h3:¬(i:Int)<l.length:=h3;omega)];rfl
def zif(l:List Sg):CX 220 [.sl sgE l] (pr (kX l)):=by
 exact zd func220<|wg (zA6 l)<|zr Qd
def zxT(v:Int):CX 239 [i64 v] (i64 (nm v)):=by
 refine zd func239<|Br.mk (λh1=>?_) (λh1=>?_)
 ·refine⟨λ_=>?_,λh=>absurd h1 h⟩;exact zh (by rw[h1];rfl)
 refine⟨λh2=>zh (by rw[h2];rfl),λh2=>?_⟩;refine⟨λh3=>zh (by rw[h3];rfl),λh3=>?_⟩;refine⟨λh4=>zh (by rw[h4];rfl),λh4=>?_⟩;refine⟨λh5=>zh (by rw[h5];rfl),λh5=>?_⟩;exact zh (by unfold nm;rw[Xb h1,Xb h2,Xb h3,Xb h4,Xb h5])
def zA7(s:Sg):CX 238 [.agg (sgE s)] (.agg (ptE s.a++ptE s.b++ptE s.c)):=by
 exact zd func238<|.refl
def zc4(l:List Sg)(i:Nat):Int:=if i=0 then 5 else(l[i-1]?.map Sg.v).getD 0
def zu9(l:List Sg)(i:Nat)(x:Sg)(hx:l[i]?=some x)(hl:l.length<=256):CX 341 [.sl sgE l,i64 i] (pr (zaC (zc4 l i) x.v)):=by
 refine zd func341 ?_;have hi:i<l.length:=(Xd.1 hx).1;refine⟨λh1=>?_,λh1=>?_⟩
 ·have h0:i=0:=by omega
  subst h0;refine wb6 λy(hy:l[0]?=some y)=>?_;rw[hx]at hy;cases hy
  refine zr ⟨λh=>.inl h,λh=>?_⟩
  rcases h with h|⟨h,_⟩
  ·exact h
  exact absurd rfl h
 refine wa<|wb6 λy hy=>?_;have hy:l[i-1]?=some y:=by rw[←hy];congr 1;omega
 have hlast:zc4 l i=y.v:=by unfold zc4;rw[Xb oM,hy];rfl
 rw[hlast];refine⟨λh2=>?_,λh2=>?_⟩
 ·refine wb6 λz(hz:l[i]?=some z)=>?_;rw[hx]at hz;cases hz
  refine zr ⟨λh=>.inl h,λh=>?_⟩
  rcases h with h|⟨h,_⟩
  ·exact h
  exact absurd h2 h
 refine wb6 λz(hz:l[i]?=some z)=>?_;rw[hx]at hz;cases hz
 refine⟨λh3=>?_,λh3=>?_⟩
 ·exact zI (.inr ⟨h2,.inl h3⟩)
 refine wa<|wb6 λu hu=>?_;have hu:l[i-1]?=some u:=by rw[←hu];congr 1;omega
 rw[hy]at hu;cases hu
 refine zr ⟨λh=>.inr ⟨h2,.inr h⟩,λh=>?_⟩;have h3:x.v=5:=Xc.1 h3
 rcases h with h|⟨_,h|h⟩
 ·omega
 ·exact absurd h3 h
 exact h
def zA8(l:List Sg)(i:Nat)(x:Sg)(hx:l[i]?=some x)(hl:l.length<=256):CX 277 [.sl sgE l,i64 i] (i64 (qO (zc4 l i) x)):=by
 refine zd func277 ?_;have hi:i<l.length:=(Xd.1 hx).1;refine wb6 λy(hy:l[i]?=some y)=>?_;rw[hx]at hy;cases hy
 refine wg (zxT x.v)<|⟨λh1=>zh (by unfold qO;rw[Xe h1]),λh1=>?_⟩;refine wg (zu9 l i x hx hl)<|⟨λh2=>zh (by unfold qO;rw[Xb h1,Xe h2]),λh2=>?_⟩;refine wb6 λy(hy:l[i]?=some y)=>?_;rw[hx]at hy;cases hy
 refine wg (zA7 x) ?_;have bad:¬zb3 x->LE (i64 6) (i64 (qO (zc4 l i) x)):=λh=>zh (by unfold qO;rw[Xb h1,Xb h2,Xe h])
 have hn:0<=nm x.v:=oM;have zOK:zm zp:=dC
 refine⟨Nat,λk=>⟨[(7,i64 k),(5,i64 (nm x.v)),(6,.loc 0 0)],[(0,.box 250 (ptE x.a++ptE x.b++ptE x.c))],1,51,0⟩,
  λk=>k<=3/\(1<=k->pk (nm x.v) 0 x.a)/\(2<=k->pk (nm x.v) 1 x.b)/\(3<=k->pk (nm x.v) 2 x.c),λk=>3-k,0,?_,?_,?_⟩
 ·exact⟨oM,λh=>by omega,λh=>by omega,λh=>by omega⟩
 ·exact zi [0]
 rintro k ⟨k1,k2,k3,k4⟩
 refine⟨λg1:(k:Int)<3=>?_,λg1=>?_⟩
 ·have hk:k=0∨k=1∨k=2:=oM
  rcases hk with rfl|rfl|rfl
  ·refine⟨λa1=>?_,λa1=>?_⟩
   ·refine wg (vd x.a)<|⟨λa2=>bad (λh=>a2 h.1.1),λa2=>?_⟩;have a2:zm x.a:=Xc.1 a2;refine⟨λa3=>absurd a3 oM,λa3=>?_⟩;exact wa<|⟨1,⟨oM,λ_=>⟨a2,λh=>absurd h oM⟩,λh=>by omega,λh=>by omega⟩,zi [0],oN⟩
   refine⟨λa3=>?_,λa3=>absurd a3 oM⟩;refine⟨λa4=>bad (λh=>a4 (qU.2 (h.1.2 oM))),λa4=>?_⟩;have a4:x.a=zp:=qU.1 (Xc.1 a4);exact wa<|⟨1,⟨oM,λ_=>⟨a4 ▸ zOK,λ_=>a4⟩,λh=>by omega,λh=>by omega⟩,zi [0],oN⟩
  ·refine⟨λa1=>?_,λa1=>?_⟩
   ·refine wg (vd x.b)<|⟨λa2=>bad (λh=>a2 h.2.1.1),λa2=>?_⟩;have a2:zm x.b:=Xc.1 a2;refine⟨λa3=>absurd a3 oM,λa3=>?_⟩;exact wa<|⟨2,⟨oM,λ_=>k2 oM,λ_=>⟨a2,λh=>absurd h oM⟩,λh=>by omega⟩,zi [0],oN⟩
   refine⟨λa3=>?_,λa3=>absurd a3 oM⟩;refine⟨λa4=>bad (λh=>a4 (qU.2 (h.2.1.2 oM))),λa4=>?_⟩;have a4:x.b=zp:=qU.1 (Xc.1 a4);exact wa<|⟨2,⟨oM,λ_=>k2 oM,λ_=>⟨a4 ▸ zOK,λ_=>a4⟩,λh=>by omega⟩,zi [0],oN⟩
  refine⟨λa1=>?_,λa1=>?_⟩
  ·refine wg (vd x.c)<|⟨λa2=>bad (λh=>a2 h.2.2.1),λa2=>?_⟩;have a2:zm x.c:=Xc.1 a2;refine⟨λa3=>absurd a3 oM,λa3=>?_⟩;exact wa<|⟨3,⟨oM,λ_=>k2 oM,λ_=>k3 oM,λ_=>⟨a2,λh=>absurd h oM⟩⟩,zi [0],oN⟩
  refine⟨λa3=>?_,λa3=>absurd a3 oM⟩;refine⟨λa4=>bad (λh=>a4 (qU.2 (h.2.2.2 oM))),λa4=>?_⟩;have a4:x.c=zp:=qU.1 (Xc.1 a4);exact wa<|⟨3,⟨oM,λ_=>k2 oM,λ_=>k3 oM,λ_=>⟨a4 ▸ zOK,λ_=>a4⟩⟩,zi [0],oN⟩
 have h3:k=3:=by have g1:¬(k:Int)<3:=g1;omega
 subst h3;exact zh (by unfold qO;rw[Xb h1,Xb h2,Xb (λh=>h ⟨k2 oM,k3 oM,k4 oM⟩)])
variable{l:List Sg}{x:Sg}
def zpc(h:l[i]?=some x):zc4 l (i+1)=x.v:=by
 unfold zc4;rw[Xb oM,Qy,h];rfl
def zxU(l:List Sg):CX 202 [.sl sgE l] (twoI (vC l)):=by
 refine zd func202 ?_;have fin:∀{a b:Int},vC l=(a,b)->LE (.tup [i64 a,i64 b]) (twoI (vC l)):=λh=>by rw[h];exact .refl
 intro hl;refine⟨λh=>fin (by unfold vC;rw[Xe oM]),λh=>?_⟩;have hc:vC l=chk 5 0 l:=by unfold vC;rw[Xb oM]
 refine⟨Nat,λi=>⟨[(4,i64 i),(0,.sl sgE l)],[],0,22,0⟩,λi=>i<=l.length/\chk 5 0 l=chk (zc4 l i) i (l.drop i),λi=>l.length-i,0,?_,?_,?_⟩
 ·exact⟨Xg _,rfl⟩
 ·exact zA []
 rintro i ⟨h1,h2⟩
 intro hl1;refine⟨λh3=>?_,λh3=>?_⟩
 ·have hx:=Xa (show i<l.length by omega);generalize l[i]'oM=x at hx;rw[zb4 hx]at h2;refine wg (zA8 l i x hx oM)<|⟨λh4=>fin ?_,λh4=>?_⟩
  ·rw[hc,h2];unfold chk;rw[Xe h4]
  refine wa<|⟨i+1,⟨oM,?_⟩,zA [],oN⟩;rw[h2,zpc hx];conv=>lhs;unfold chk
  rw[Xb h4]
 refine fin (hc.trans (h2.trans ?_));rw[KB oM];rfl
def zpd(l:List Sg):CX 141 [.sl sgE l] (pr (kX l)):=by
 exact zd func141<|wg (zxU l)<|zr Qd
def zc5(v:Int): -1<=nm v/\nm v<=3:=by unfold nm;split <;> (try split) <;> (try split) <;> (try split) <;> (try split) <;> omega
def z9(s:Sg):List Pt:=[s.a,s.b,s.c].take (nm s.v).toNat
def zpe(s:Sg):CX 258 [.agg (sgE s)] (.sl ptE (z9 s)):=by
 refine zd func258<|⟨Pt,ptE,[s.a,s.b,s.c],rfl,wb0 ?_⟩;refine wg (c_named s.v) ?_;have hr:=zc5 s.v;refine Sl.see (Ob.mk ⟨dC,by show 0<=max (nm s.v) 0;omega,by show max (nm s.v) 0<=3;omega,Qi _⟩ ?_);refine kM ?_;show([s.a,s.b,s.c].drop 0).take (max (nm s.v) 0-0).toNat=_;unfold z9;rw[K7];congr 1;omega
def qp(l:List Sg):List Pt:=l.flatMap z9
def mnP(p q:Pt):Pt:=⟨min p.x q.x,min p.y q.y⟩
def mxP(p q:Pt):Pt:=⟨max p.x q.x,max p.y q.y⟩
def bnd(f:Pt->Pt->Pt)(q:List Pt):Pt:=q.foldl f (q.headD zp)
def zpf(h:l[i]?=some x):qp (l.take (i+1))=qp (l.take i)++z9 x:=by
 unfold qp;rw[Xm,h];simp[Qw]
def zva(h:kX l):l.length<=256:=by
 unfold kX vC at h
 by_cases e:256<l.length
 ·rw[Xe e]at h;cases h
 omega
def zEl{r a:Nat}(h:r=2^(m+1)*a)(hr:r<4294967296)(hm:m<=31):uX .or .u64 (r:Int) (1*2^(m:Int).toNat)=((r+2^m:Nat):Int):=by
 have hp:2^m<=2^31:=XJ dC hm;have e:(1*2^(m:Int).toNat:Int)=((2^m:Nat):Int):=by rw[Int.one_mul];simp
 rw[e,zrv oM oM];have:=Qx (i:=m+1) (b:=2^m) (Nat.pow_lt_pow_right dC oM) a;rw[h,←this]
def zxV(n:Int)(h0:0<=n/\n<=18446744073709551615):CX 388 [u64 n] (u64 (isq n)):=by
 refine zd func388 ?_
 refine⟨Int×Nat,λz=>⟨[(0,u64 n),(3,u64 (z.2:Int)),(4,i64 z.1)],[],0,21,0⟩,λz=> -1<=z.1/\z.1<=31/\(∃a,z.2=2^(z.1+1).toNat*a)/\z.2+2^(z.1+1).toNat<=4294967296/\sqL n (z.1+1).toNat z.2=isq n,
  λz=>(z.1+1).toNat,(31,0),⟨dC,dC,⟨0,rfl⟩,dC,rfl⟩,zA [],?_⟩
 rintro⟨j,r⟩ ⟨h1,h2,⟨a,h3⟩,h4,h5⟩
 dsimp only at h1 h2 h3 h4 h5;refine⟨λg:0<=j=>?_,λg:¬0<=j=>?_⟩
 ·obtain⟨m,rfl⟩:∃m:Nat,j=m:=⟨j.toNat,oM⟩;have e:((m:Int)+1).toNat=m+1:=oM;rw[e]at h3 h4 h5;have hm:m<=31:=oM;have hp:2^m<=2147483648:=XJ (n:=2) dC hm;have hp1:0<2^m:=Qc dC;have hp2:2^(m+1)=2*2^m:=by rw[X0];omega
  have ee:(1*2^(m:Int).toNat:Int)=((2^m:Nat):Int):=by rw[Int.one_mul];simp
  have hq:(r+2^m)*(r+2^m)<=18446744065119617025:=XE (QK (show r+2^m<=4294967295 by omega) (show r+2^m<=4294967295 by omega)) dC
  have hs:sqL n (m+1) r=sqL n m (if ((r+2^m:Nat):Int)*((r+2^m:Nat):Int)<=n then((r+2^m:Nat):Int) else r):=by
   have:((r+2^m:Nat):Int)=(r:Int)+2^m:=by simp
   rw[this];rfl
  rw[hs]at h5;have em:((m:Int)-1+1).toNat=m:=oM;refine Ob.mk (by show(0:Int)<=m/\(m:Int)<64;omega)<|Ar.fit (by rw[ee];omega)<|⟨((r+2^m:Nat):Int),(zEl h3 oM hm).symm,?_⟩;have hq':((r+2^m:Nat):Int)*((r+2^m:Nat):Int)<=18446744065119617025:=by have h:=JT.mpr hq;rw[Kb]at h;exact h
  have hq0:0<=((r+2^m:Nat):Int)*((r+2^m:Nat):Int):=XI oM oM;refine Ar.fit ⟨hq0,oM⟩<|⟨λk=>?_,λk=>?_⟩
  ·refine wa ?_;rw[Xe k]at h5;refine⟨((m:Int)-1,r+2^m),⟨oN,oN,⟨2*a+1,?_⟩,?_,?_⟩,zA [],oN⟩
   ·dsimp only;rw[em,h3,hp2];grind
   ·dsimp only;rw[em];omega
   dsimp only;rw[em];exact h5
  refine wa ?_;rw[Xb k]at h5;refine⟨((m:Int)-1,r),⟨oN,oN,⟨2*a,?_⟩,?_,?_⟩,zA [],oN⟩
  ·dsimp only;rw[em,h3,hp2];grind
  ·dsimp only;rw[em];omega
  dsimp only;rw[em];exact h5
 have e:(j+1).toNat=0:=oM;rw[e]at h5;exact zh h5
def zb5(p:Pt):CX 124 [.agg (ptE p)] (.agg (ptE (ux p))):=zxO p
def zxW(p q:Pt):CX 183 [.agg (ptE p),.agg (ptE q)] (.agg (ptE (zns p q))):=by
 have h1:=yn p.x;have h2:=yn p.y;have h3:=yn q.x;have h4:=yn q.y;refine zd func183<|wc<|wg (zb5 p)<|wg (zb5 q) ?_;unfold ux;exact Ar.fit oN<|Ar.fit oN<|.refl
def zEm(p:Pt):CX 500 [.agg (ptE p)] (.agg (ptE (perpP p))):=by
 have h2:=yn p.y;refine zd func500<|wg (zb5 p) ?_;unfold ux;exact Ar.fit oN<|.refl
def zxX(p q:Pt)(hp:zm p)(hq:zm q):CX 182 [.agg (ptE p),.agg (ptE q)] (i64 (wdg p q)):=by
 have h:=zgT hp hq;unfold wdg at h;refine zd func182 ?_;(iterate 3 refine wa ?_);exact .refl
def zEn(p q:Pt)(hp:zm p)(hq:zm q):CX 442 [.agg (ptE p),.agg (ptE q)] (i64 (dtp p q)):=by
 have h:=zlC hp hq;unfold dtp at h;refine zd func442 ?_;(iterate 3 refine wa ?_);exact .refl
def zA9(p q:Pt):CX 503 [.agg (ptE p),.agg (ptE q)] (i64 (zb1 p q)):=by
 exact zd func503<|wc<|wg (zb5 p)<|wg (zb5 q)<|wg (zxX (ux p) (ux q) (y5 p) (y5 q))<|.refl
def p_dot(p q:Pt):CX 389 [.agg (ptE p),.agg (ptE q)] (i64 (zu7 p q)):=by
 exact zd func389<|wc<|wg (zb5 p)<|wg (zb5 q)<|wg (zEn (ux p) (ux q) (y5 p) (y5 q))<|.refl
def zpg(p:Pt):0<=zu7 p p/\zu7 p p<=2199023255552:=by
 have h:=zlC (y5 p) (y5 p);have h1:=j9 (ux p).x;have h2:=j9 (ux p).y;unfold zu7;unfold dtp at*;omega
def zlE(p:Pt):0<=zxR p/\zxR p<4294967296:=by
 have h:=zpg p;exact⟨(zfL oM oM).1,zxP oM oM⟩
def zxY(p:Pt):CX 330 [.agg (ptE p)] (i64 (zxR p)):=by
 have h:=zpg p;have hl:=zlE p;unfold zxR at hl;refine zd func330<|wg (p_dot p p) ?_;(iterate 2 refine wa ?_);exact wg (zxV (65536*zu7 p p) oM)<|wa<|.refl
def ztk{a b:Int}{M:Nat}(hb:b≠0)(h:a.natAbs<=M*b.natAbs): -(M:Int)<=kQ a b/\kQ a b<=M:=by
 have e:=zjc a b
 have:(2*a.natAbs+b.natAbs)/(2*b.natAbs)<M+1:=by
  rw[XZ oM];have:(M+1)*(2*b.natAbs)=2*(M*b.natAbs)+2*b.natAbs:=by grind
  omega
 omega
def ug{a b:Int}{M:Nat}(h:a.natAbs<=M): -(M:Int)<=kQ a b/\kQ a b<=M:=by
 by_cases hb:b=0
 ·subst hb;have e:=zjc a 0;rw[show(2*(0:Int).natAbs)=0 by rfl,Nat.div_zero]at e;omega
 refine ztk hb (XE h ?_);exact QI _ oM
def zbt(h: -4611686018427387904<=a/\a<=4611686018427387904):zaT (kQ a b)=kQ a b:=by
 have:=ug (a:=a) (b:=b) (M:=4611686018427387904) oM;unfold zaT;rw[Xe oM]
def znv{n d:Int}(h:1<=d):0<=jo n 0 d/\jo n 0 d<=d:=by unfold jo;split <;> (try split) <;> omega
def zvb{n d f t:Int}(hd:1<=d/\d<=1099511627776)(hn:0<=n/\n<=d)(hf: -1048576<=f/\f<=1048576)(ht: -1048576<=t/\t<=1048576):
  (-2305843009213693952<=n*(t-f)/\n*(t-f)<=2305843009213693952)/\(-2097152<=kQ (n*(t-f)) d/\kQ (n*(t-f)) d<=2097152)/\zaT (kQ (n*(t-f)) d)=kQ (n*(t-f)) d:=by
 have h1:=jh (A:=d) (B:=2097152) (a:=n) (b:=t-f) oM oM;have h2:(n*(t-f)).natAbs<=2097152*d.natAbs:=oM;have h3:=ztk (M:=2097152) oM h2;exact⟨oM,oM,zbt oM⟩
def ztl(f t n d:Int)(hd:1<=d/\d<=1099511627776)(hn:0<=n/\n<=d)(hf: -1048576<=f/\f<=1048576)(ht: -1048576<=t/\t<=1048576):
  CX 443 [i64 f,i64 t,.ptr [i64 n],.ptr [i64 d]] (i64 (f+kQ (n*(t-f)) d)):=by
 have h:=zvb hd hn hf ht;refine zd func443 ?_;(iterate 2 refine wa ?_);refine wg (ud (n*(t-f)) d ⟨oM,oM⟩ ⟨oM,oM⟩) ?_;rw[h.2.2];exact wa<|.refl
def zxZ(a b:Pt)(n d:Int):CX 390 [.agg (ptE a),.agg (ptE b),i64 n,i64 d] (.agg (ptE (zlD a b n d))):=by
 have h1:=yn a.x;have h2:=yn a.y;have h3:=yn b.x;have h4:=yn b.y;refine zd func390<|wc<|wg (zb5 a)<|wg (zb5 b)<|⟨λg=>?_,λg=>?_⟩
 ·unfold zlD;rw[Xe (.inl g)];exact .refl
 refine⟨λg2=>?_,λg2=>?_⟩
 ·unfold zlD;rw[Xe (.inr g2)];exact .refl
 have g:¬(d<1∨1099511627776<d):=λh=>h.elim g g2
 have hn:=znv (n:=n) (d:=d) oM;refine wg (znr n 0 d)<|wc<|wg (ztl (hI a.x) (hI b.x) (jo n 0 d) d oM hn h1 h3)<|wg (ztl (hI a.y) (hI b.y) (jo n 0 d) d oM hn h2 h4) ?_;unfold zlD;rw[Xb g];exact .refl
def ve(w:Int):CX 327 [i64 w] (pr (kg w)):=by
 refine zd func327<|Br.mk (λh=>?_) (λh=>zc (λk=>h k.1));exact zr ⟨λk=>⟨h,k⟩,λk=>k.2⟩
def zDh(n:Int):CX 501 [i64 n] (pr (zfN n)):=by
 refine zd func501<|Br.mk (λh=>zI (.inl h)) (λh=>?_);exact zr ⟨λk=>.inr k,λk=>k.resolve_left h⟩
def zbu(n a b:Int):CX 245 [i64 n,i64 a,i64 b] (pr (a<=n/\n<=b)):=by
 refine zd func245<|Br.mk (λh=>?_) (λh=>zc (λk=>h k.1));exact zr ⟨λk=>⟨h,k⟩,λk=>k.2⟩
def zBa(w:Int):CX 244 [i64 w] (pr (kg w)):=by
 exact zd func244<|wg (zbu w 1 16384)<|zr Qd
def zc6(out:List (List Sg))(s:Sg):List (List Sg):=if s.v=1 then out++[[s]] else out.dropLast++[out.getLastD []++[s]]
def subs(l:List Sg):List (List Sg):=l.foldl zc6 []
def zhC(v:Int)(q:List Pt):Sg:=⟨v,q.getD 0 zp,q.getD 1 zp,q.getD 2 zp⟩
def gid(i:Nat)(x:LQ)(hx:[[SV.loc 1 1],[.loc 1 3],[.loc 1 5]][i]?=some x):ren.rens [(0,some 0),(1,some 1),(2,some 2)] x=some x:=by
 match i,hx with
 |0,hx=>cases hx;rfl
 |1,hx=>cases hx;rfl
 |2,hx=>cases hx;rfl
def znw(v:Int)(q:List Pt):CX 260 [i64 v,.sl ptE q] (.agg (sgE (zhC v q))):=by
 refine zd func260 ?_
 refine⟨[[.loc 1 1],[.loc 1 3],[.loc 1 5]],rfl,Ob.mk ⟨rfl,dC,dC,dC,λx hx=>by
  simp only[XD,XR,or_false]at hx
  rcases hx with rfl|rfl|rfl <;> rfl⟩ ?_⟩
 intro _
 refine⟨Nat,λi=>⟨[(15,i64 i),(14,i64 3),(13,.own 2),(5,.loc 1 0),(4,.loc 0 0),(1,.sl ptE q)],
  [(2,.garr 332 1 [[.loc 1 1],[.loc 1 3],[.loc 1 5]]),(1,.box 83 (sgE ⟨v,if 1<=i then q.getD 0 zp else zp,if 2<=i then q.getD 1 zp else zp,if 3<=i then q.getD 2 zp else zp⟩)),(0,.box 83 (sgE ⟨0,zp,zp,zp⟩))],3,32,0⟩,
  λi=>i<=3,λi=>3-i,0,dC,zt [0,1,2] ⟨⟨_,rfl,rfl,λi x hx=>?_⟩,rfl,rfl,tV⟩,?_⟩
 ·exact⟨x,hx,gid i x hx⟩
 rintro i hi
 have hi:i<=3:=hi;have e:i=0∨i=1∨i=2∨i=3:=oM
 rcases e with rfl|rfl|rfl|rfl
 ·refine we<|Ob.mk ⟨dC,by show(0:Int)<((3:Nat):Int);decide⟩<|Ob.mk ⟨dC,by show(0:Int)<((3:Nat):Int);decide⟩ λy hy=>?_;have hy:some [SV.loc 1 1]=some y:=hy
  cases hy
  intro _;refine⟨λh1=>?_,λh1:¬((0:Nat):Int)<q.length=>?_⟩
  ·refine Ob.mk ⟨dC,h1⟩ λx(hx:q[0]?=some x)=>?_;have hg:q.getD 0 zp=x:=by rw[Xn,hx];rfl
   exact Ar.fit dC<|⟨1,dC,zt [0,1,2] ⟨⟨_,rfl,rfl,λi x hx=>⟨x,hx,gid i x hx⟩⟩,Xj (λp=>some (Mem.box 83 (sgE ⟨v,p,zp,zp⟩))) hg.symm,rfl,tV⟩,dC⟩
  have hg:q.getD 0 zp=zp:=by rw[Xn,XF oM];rfl
  exact Ar.fit dC<|⟨1,dC,zt [0,1,2] ⟨⟨_,rfl,rfl,λi x hx=>⟨x,hx,gid i x hx⟩⟩,Xj (λp=>some (Mem.box 83 (sgE ⟨v,p,zp,zp⟩))) hg.symm,rfl,tV⟩,dC⟩
 ·refine we<|Ob.mk ⟨dC,by show(1:Int)<((3:Nat):Int);decide⟩<|Ob.mk ⟨dC,by show(1:Int)<((3:Nat):Int);decide⟩ λy hy=>?_;have hy:some [SV.loc 1 3]=some y:=hy
  cases hy
  intro _;refine⟨λh1=>?_,λh1:¬((1:Nat):Int)<q.length=>?_⟩
  ·refine Ob.mk ⟨dC,h1⟩ λx(hx:q[1]?=some x)=>?_;have hg:q.getD 1 zp=x:=by rw[Xn,hx];rfl
   exact Ar.fit dC<|⟨2,dC,zt [0,1,2] ⟨⟨_,rfl,rfl,λi x hx=>⟨x,hx,gid i x hx⟩⟩,Xj (λp=>some (Mem.box 83 (sgE ⟨v,q.getD 0 zp,p,zp⟩))) hg.symm,rfl,tV⟩,dC⟩
  have hg:q.getD 1 zp=zp:=by rw[Xn,XF oM];rfl
  exact Ar.fit dC<|⟨2,dC,zt [0,1,2] ⟨⟨_,rfl,rfl,λi x hx=>⟨x,hx,gid i x hx⟩⟩,Xj (λp=>some (Mem.box 83 (sgE ⟨v,q.getD 0 zp,p,zp⟩))) hg.symm,rfl,tV⟩,dC⟩
 ·refine we<|Ob.mk ⟨dC,by show(2:Int)<((3:Nat):Int);decide⟩<|Ob.mk ⟨dC,by show(2:Int)<((3:Nat):Int);decide⟩ λy hy=>?_;have hy:some [SV.loc 1 5]=some y:=hy
  cases hy
  intro _;refine⟨λh1=>?_,λh1:¬((2:Nat):Int)<q.length=>?_⟩
  ·refine Ob.mk ⟨dC,h1⟩ λx(hx:q[2]?=some x)=>?_;have hg:q.getD 2 zp=x:=by rw[Xn,hx];rfl
   exact Ar.fit dC<|⟨3,dC,zt [0,1,2] ⟨⟨_,rfl,rfl,λi x hx=>⟨x,hx,gid i x hx⟩⟩,Xj (λp=>some (Mem.box 83 (sgE ⟨v,q.getD 0 zp,q.getD 1 zp,p⟩))) hg.symm,rfl,tV⟩,dC⟩
  have hg:q.getD 2 zp=zp:=by rw[Xn,XF oM];rfl
  exact Ar.fit dC<|⟨3,dC,zt [0,1,2] ⟨⟨_,rfl,rfl,λi x hx=>⟨x,hx,gid i x hx⟩⟩,Xj (λp=>some (Mem.box 83 (sgE ⟨v,q.getD 0 zp,q.getD 1 zp,p⟩))) hg.symm,rfl,tV⟩,dC⟩
 refine⟨λh=>absurd h dC,λ_=>?_⟩;exact .refl
def zjw:Sg:=⟨5,zp,zp,zp⟩
def oks:Int->List Sg->Prop
 |_,[]=>True
 |last,s::r=>qO last s=0/\oks s.v r
def ztm:∀{l:List Sg} {last:Int} {i:Nat},(chk last i l).1=0↔oks last l
 |[],_,_=>by simp[chk,oks]
 |s::r,last,i=>by
  unfold chk oks
  by_cases h:qO last s=0
  ·rw[Xb (λhn=>hn h),ztm];exact⟨λk=>⟨h,k⟩,λk=>k.2⟩
  rw[Xe h];exact⟨λk=>absurd k h,λk=>absurd k.1 h⟩
def vf:kX l↔l.length<=256/\oks 5 l:=by
 unfold kX vC
 by_cases h:256<l.length
 ·rw[Xe h];exact⟨λk=>absurd k dC,λk=>absurd h oM⟩
 rw[Xb h,ztm];exact⟨λk=>⟨oM,k⟩,λk=>k.2⟩
variable{last:Int}
def vg{s:Sg}:qO last s=0↔0<=nm s.v/\zaC last s.v/\zb3 s:=by
 unfold qO
 by_cases h1:nm s.v<0
 ·rw[Xe h1];exact⟨λh=>absurd h dC,λh=>by omega⟩
 rw[Xb h1]
 by_cases h2:zaC last s.v
 ·rw[Xb (λh=>h h2)]
  by_cases h3:zb3 s
  ·rw[Xb (λh=>h h3)];exact⟨λ_=>⟨oM,h2,h3⟩,λ_=>rfl⟩
  rw[Xe h3];exact⟨λh=>absurd h dC,λh=>absurd h.2.2 h3⟩
 rw[Xe h2];exact⟨λh=>absurd h dC,λh=>absurd h.2.1 h2⟩
def zlF{v:Int}(h:0<=nm v):v=1∨v=2∨v=3∨v=4∨v=5:=by
 unfold nm at h
 by_cases h1:v=1
 ·exact .inl h1
 rw[Xb h1]at h
 by_cases h2:v=2
 ·exact .inr (.inl h2)
 rw[Xb h2]at h
 by_cases h3:v=3
 ·exact .inr (.inr (.inl h3))
 rw[Xb h3]at h
 by_cases h4:v=4
 ·exact .inr (.inr (.inr (.inl h4)))
 rw[Xb h4]at h
 by_cases h5:v=5
 ·exact .inr (.inr (.inr (.inr h5)))
 rw[Xb h5]at h;omega
def midV(s:Sg):Prop:=s.v=2∨s.v=3∨s.v=4
def Grp(g:List Sg)(last:Int):Prop:=
 ∃m mid,m.v=1/\(∀s∈mid,midV s)/\(∀s∈g,zb3 s)/\
  ((g=m::mid/\last≠5/\(mid=[]->last=1))∨∃c,g=m::mid++[c]/\c.v=5/\last=5/\mid≠[])
def zx0{g:List Sg}(h:Grp g last)(he:qO last x=0)(hv:x.v≠1):Grp (g++[x]) x.v:=by
 obtain⟨h0,h1,h2⟩:=vg.1 he;obtain⟨m,mid,g1,g2,g3,g4⟩:=h;have hs:last≠5/\(x.v≠5∨last≠1):=h1.resolve_left hv
 have hf:∀s∈g++[x],zb3 s:=λs hs=>by
  rcases Xr.1 hs with hs|hs
  ·exact g3 s hs
  simp at hs;subst hs;exact h2
 obtain⟨rfl,g5,g6⟩|⟨c,_,_,g5,_⟩:=g4
 ·by_cases h5:x.v=5
  ·exact⟨m,mid,g1,g2,hf,.inr ⟨x,rfl,h5,h5,λe=>(hs.2.resolve_left (λh=>h h5)) (g6 e)⟩⟩
  refine⟨m,mid++[x],g1,λs hs=>?_,hf,.inl ⟨rfl,h5,λe=>by simp at e⟩⟩
  rcases Xr.1 hs with hs|hs
  ·exact g2 s hs
  simp at hs;subst hs
  rcases zlF h0 with h|h|h|h|h
  ·exact absurd h hv
  ·exact .inl h
  ·exact .inr (.inl h)
  ·exact .inr (.inr h)
  exact absurd h h5
 exact absurd g5 hs.1
def zlG(he:qO last x=0)(hv:x.v=1):Grp [x] x.v:=
 ⟨x,[],hv,λs hs=>(by cases hs),λs hs=>by simp at hs;subst hs;exact(vg.1 he).2.2,.inl ⟨rfl,oM,λ_=>hv⟩⟩
def InvS(S:List (List Sg))(last:Int):Prop:=(S=[]/\last=5)∨∃cl g,S=cl++[g]/\Grp g last/\∀h∈cl,∃k,Grp h k
def zx1{S:List (List Sg)}(h:InvS S last)(he:qO last x=0):InvS (zc6 S x) x.v:=by
 unfold zc6
 by_cases hv:x.v=1
 ·rw[Xe hv]
  obtain⟨rfl,rfl⟩|⟨cl,g,rfl,h1,h2⟩:=h
  ·exact .inr ⟨[],[x],rfl,zlG he hv,λh hh=>by cases hh⟩
  refine .inr ⟨cl++[g],[x],rfl,zlG he hv,λh hh=>?_⟩
  rcases Xr.1 hh with hh|hh
  ·exact h2 h hh
  simp at hh;subst hh;exact⟨_,h1⟩
 rw[Xb hv]
 obtain⟨rfl,rfl⟩|⟨cl,g,rfl,h1,h2⟩:=h
 ·exact absurd ((vg.1 he).2.1.resolve_left hv).1 (λh=>h rfl)
 exact .inr ⟨cl,g++[x],sI,zx0 h1 he hv,h2⟩
def ztn:∀(r:List Sg) {S:List (List Sg)} {last:Int},InvS S last->oks last r->∃k,InvS (r.foldl zc6 S) k
 |[],_,last,h,_=>⟨last,h⟩
 |_::r,_,_,h,ho=>ztn r (zx1 h ho.1) ho.2
def zx2(h:kX l):∀g∈subs l,∃k,Grp g k:=by
 obtain⟨k,hk⟩:=ztn l (S:=[]) (last:=5) (.inl ⟨rfl,rfl⟩) (vf.1 h).2;intro g hg;have hg:g∈l.foldl zc6 []:=hg
 obtain⟨e,_⟩|⟨cl,g',e,h1,h2⟩:=hk
 ·rw[e]at hg;cases hg
 rw[e]at hg
 rcases Xr.1 hg with hg|hg
 ·exact h2 g hg
 simp at hg;subst hg;exact⟨_,h1⟩
def zph(S:List (List Sg))(x:Sg):(zc6 S x).flatten=S.flatten++[x]:=by
 unfold zc6
 by_cases hv:x.v=1
 ·rw[Xe hv];simp
 rw[Xb hv]
 rcases Yr S with rfl|⟨cl,g,rfl⟩
 ·rfl
 simp
def zlH:∀(r:List Sg) (S:List (List Sg)),(r.foldl zc6 S).flatten=S.flatten++r
 |[],S=>by simp
 |x::r,S=>by rw[KH,zlH r,zph];simp
def zvc(l:List Sg):(subs l).flatten=l:=by
 unfold subs;rw[zlH];rfl
def zpi(h:kX l):∀x,l[0]?=some x->x.v=1:=λx hx=>by
 have ho:=(vf.1 h).2
 cases l with
 |nil=>cases hx
 |cons a r=>
  cases hx
  exact(vg.1 ho.1).2.1.resolve_right (λh=>h.1 rfl)
def zp_ok:zm zp:=dC
def zto:∀(q:List Pt) (p:Pt),((q.foldl mnP p).x<=p.x/\(q.foldl mnP p).y<=p.y)/\(∀r∈q,(q.foldl mnP p).x<=r.x/\(q.foldl mnP p).y<=r.y)/\
  ((q.foldl mnP p).x=p.x∨∃r∈q,(q.foldl mnP p).x=r.x)/\((q.foldl mnP p).y=p.y∨∃r∈q,(q.foldl mnP p).y=r.y)
 |[],p=>⟨⟨Qi _,Qi _⟩,λr hr=>(by cases hr),.inl rfl,.inl rfl⟩
 |a::q,p=>by
  obtain⟨h1,h2,h3,h4⟩:=zto q (mnP p a);rw[KH];have e1:(mnP p a).x=min p.x a.x:=rfl;have e2:(mnP p a).y=min p.y a.y:=rfl;refine⟨⟨oM,oM⟩,λr hr=>?_,?_,?_⟩
  ·rcases XD.1 hr with rfl|hr
   ·exact⟨oM,oM⟩
   exact h2 r hr
  ·rcases h3 with h3|⟨r,hr,h3⟩
   ·rcases Jm p.x a.x with h|h
    ·exact .inl oM
    exact .inr ⟨a,.head _,oM⟩
   exact .inr ⟨r,.tail _ hr,h3⟩
  rcases h4 with h4|⟨r,hr,h4⟩
  ·rcases Jm p.y a.y with h|h
   ·exact .inl oM
   exact .inr ⟨a,.head _,oM⟩
  exact .inr ⟨r,.tail _ hr,h4⟩
def ztp:∀(q:List Pt) (p:Pt),(p.x<=(q.foldl mxP p).x/\p.y<=(q.foldl mxP p).y)/\(∀r∈q,r.x<=(q.foldl mxP p).x/\r.y<=(q.foldl mxP p).y)/\
  ((q.foldl mxP p).x=p.x∨∃r∈q,(q.foldl mxP p).x=r.x)/\((q.foldl mxP p).y=p.y∨∃r∈q,(q.foldl mxP p).y=r.y)
 |[],p=>⟨⟨Qi _,Qi _⟩,λr hr=>(by cases hr),.inl rfl,.inl rfl⟩
 |a::q,p=>by
  obtain⟨h1,h2,h3,h4⟩:=ztp q (mxP p a);rw[KH];have e1:(mxP p a).x=max p.x a.x:=rfl;have e2:(mxP p a).y=max p.y a.y:=rfl;refine⟨⟨oM,oM⟩,λr hr=>?_,?_,?_⟩
  ·rcases XD.1 hr with rfl|hr
   ·exact⟨oM,oM⟩
   exact h2 r hr
  ·rcases h3 with h3|⟨r,hr,h3⟩
   ·rcases Jm p.x a.x with h|h
    ·exact .inr ⟨a,.head _,oM⟩
    exact .inl oM
   exact .inr ⟨r,.tail _ hr,h3⟩
  rcases h4 with h4|⟨r,hr,h4⟩
  ·rcases Jm p.y a.y with h|h
   ·exact .inr ⟨a,.head _,oM⟩
   exact .inl oM
  exact .inr ⟨r,.tail _ hr,h4⟩
def zEo(h1:p.x=q.x)(h2:p.y=q.y):p=q:=by cases p;cases q;simp_all
abbrev wk(x:Pt):SV:=.agg (ptE x)
abbrev wo(x:AF):SV:=.agg (afE x)
abbrev LN:=List (List Pt)
abbrev LR:=List Pt
abbrev LW:=List Sg
end Go.Gs
