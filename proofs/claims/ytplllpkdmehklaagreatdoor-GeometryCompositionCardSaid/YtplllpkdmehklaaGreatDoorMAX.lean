/- Transforms, the program's. -/
import Derived.Test.YtplllpkdmehklaaGreatDoorMA
import Derived.Test.YtplllpkdmehklaaGreatDoorMAW
set_option maxRecDepth 100000
set_option maxHeartbeats 8000000
set_option linter.all false
namespace Go.Gs
open Go.Proofs
structure AF where
 a:BR
 b:BR
 c:BR
 d:BR
 e:BR
 f:BR
def afE(t:AF):List SV:=brE t.a++(brE t.b++(brE t.c++(brE t.d++(brE t.e++brE t.f))))
def AF.le(t:AF)(n:Nat):Prop:=t.a.len<=n/\t.b.len<=n/\t.c.len<=n/\t.d.len<=n/\t.e.len<=n/\t.f.len<=n
def AF.nth(t:AF):Nat->BR
 | 0=>t.a
 | 1=>t.b
 | 2=>t.c
 | 3=>t.d
 | 4=>t.e
 | _=>t.f
def stage(t:AF):Nat->AF
 | 0=>t
 | 1=>{ t with a:=ofQ t.a.v }
 | 2=>{ t with a:=ofQ t.a.v,b:=ofQ t.b.v }
 | 3=>{ t with a:=ofQ t.a.v,b:=ofQ t.b.v,c:=ofQ t.c.v }
 | 4=>{ t with a:=ofQ t.a.v,b:=ofQ t.b.v,c:=ofQ t.c.v,d:=ofQ t.d.v }
 | 5=>{ t with a:=ofQ t.a.v,b:=ofQ t.b.v,c:=ofQ t.c.v,d:=ofQ t.d.v,e:=ofQ t.e.v }
 | _=>⟨ofQ t.a.v,ofQ t.b.v,ofQ t.c.v,ofQ t.d.v,ofQ t.e.v,ofQ t.f.v⟩
def AF.nrm(t:AF):AF:=⟨ofQ t.a.v,ofQ t.b.v,ofQ t.c.v,ofQ t.d.v,ofQ t.e.v,ofQ t.f.v⟩
def yL:List SV:=(List.replicate 12 [bl false,SV.val (.slice none 0 0)]).flatten
theorem zdW(t:AF)(ht:t.le 400000000):zd Tryz.prog 119 [.agg (afE t)] [] (.agg (afE t.nrm)) []:=by
 obtain ⟨ha,hb,hc,hd,he,hf⟩:=ht;refine zc tok mix Tryz.func119 rfl rfl rfl ?_
 refine ⟨Nat,fun i=>⟨[(20,i64 i),(19,.agg (afE t)),(3,.loc 2 0),(2,.loc 1 0)],[(2,.box 158 (afE (stage t i))),(1,.box 158 yL),(0,.box 39 (afE t))],3,30,0⟩,
  fun i=>i<=6,fun i=>6 - i,0,Nat.zero_le _,?_,?_⟩
 ·exact zf [(0,some 0),(1,some 1),(2,some 2)]
 intro i hi;have hi:i=0∨i=1∨i=2∨i=3∨i=4∨i=5∨i=6:=by have hi:i<=6:=hi;omega
 rcases hi with rfl | rfl | rfl | rfl | rfl | rfl | rfl
 ·refine Br.y ?_;refine zb.t (kZ t.a ha) ?_;refine Ar.fit dC ?_;exact ⟨1,(by show 1<=6;decide),zf [(0,some 0),(1,some 1),(2,some 2)],dC⟩
 ·refine Br.y ?_;refine zb.t (kZ t.b hb) ?_;refine Ar.fit dC ?_;exact ⟨2,(by show 2<=6;decide),zf [(0,some 0),(1,some 1),(2,some 2)],dC⟩
 ·refine Br.y ?_;refine zb.t (kZ t.c hc) ?_;refine Ar.fit dC ?_;exact ⟨3,(by show 3<=6;decide),zf [(0,some 0),(1,some 1),(2,some 2)],dC⟩
 ·refine Br.y ?_;refine zb.t (kZ t.d hd) ?_;refine Ar.fit dC ?_;exact ⟨4,(by show 4<=6;decide),zf [(0,some 0),(1,some 1),(2,some 2)],dC⟩
 ·refine Br.y ?_;refine zb.t (kZ t.e he) ?_;refine Ar.fit dC ?_;exact ⟨5,(by show 5<=6;decide),zf [(0,some 0),(1,some 1),(2,some 2)],dC⟩
 ·refine Br.y ?_;refine zb.t (kZ t.f hf) ?_;refine Ar.fit dC ?_;exact ⟨6,(by show 6<=6;decide),zf [(0,some 0),(1,some 1),(2,some 2)],dC⟩
 ·refine Br.mk (fun h=>absurd h dC) (fun _=>?_);exact .refl
theorem zqg(t:AF):zd Tryz.prog 121 [.agg (afE t)] [] (.agg (afE t)) []:=by
 refine zc tok mix Tryz.func121 rfl rfl rfl ?_;refine zkb.own ?_;exact .refl
def okI(t:AF):Nat->Prop
 | 0=>True
 | k+1=>okI t k/\zbw (t.nth k).v<=256
def AF.ok(t:AF):Prop:=okI t 6
instance (t:AF):∀n,Decidable (okI t n):=fun n=>by
 induction n with
 | zero=>exact isTrue trivial
 | succ k ih=>unfold okI;exact instDecidableAnd
instance (t:AF):Decidable t.ok:=inferInstanceAs (Decidable (okI t 6))
theorem zb7(t:AF)(ht:t.le 100000000):zd Tryz.prog 78 [.agg (afE t)] [] (pr t.ok) []:=by
 have ht':=ht;obtain ⟨ha,hb,hc,hd,he,hf⟩:=ht;refine zc tok mix Tryz.func78 rfl rfl rfl ?_;refine zb.t (zdW t ⟨oM,oM,oM,oM,oM,oM⟩) ?_;refine ⟨Nat,fun i=>⟨[(6,.agg (afE t.nrm)),(7,i64 i)],[],1,14,0⟩,fun i=>i<=6/\okI t i,fun i=>6 - i,0,⟨Nat.zero_le _,trivial⟩,?_,?_⟩
 ·exact zf []
 rintro i ⟨hi,ok⟩
 have hi:i=0∨i=1∨i=2∨i=3∨i=4∨i=5∨i=6:=oM
 rcases hi with rfl | rfl | rfl | rfl | rfl | rfl | rfl
 ·refine Br.y ?_;have l1:=zD t.a;refine zb.t (zbx (ofQ t.a.v) (by rw [zz];omega)) ?_;rw [zV];refine Br.mk (fun h=>ze (fun h'=>?_)) (fun h=>?_)
  ·simp only [AF.ok,okI,AF.nth] at h';omega
  refine Ar.fit dC ?_;exact ⟨1,⟨(by show 1<=6;decide),ok,(by show zbw t.a.v<=256;omega)⟩,zf [],dC⟩
 ·refine Br.y ?_;have l1:=zD t.b;refine zb.t (zbx (ofQ t.b.v) (by rw [zz];omega)) ?_;rw [zV];refine Br.mk (fun h=>ze (fun h'=>?_)) (fun h=>?_)
  ·simp only [AF.ok,okI,AF.nth] at h';omega
  refine Ar.fit dC ?_;exact ⟨2,⟨(by show 2<=6;decide),ok,(by show zbw t.b.v<=256;omega)⟩,zf [],dC⟩
 ·refine Br.y ?_;have l1:=zD t.c;refine zb.t (zbx (ofQ t.c.v) (by rw [zz];omega)) ?_;rw [zV];refine Br.mk (fun h=>ze (fun h'=>?_)) (fun h=>?_)
  ·simp only [AF.ok,okI,AF.nth] at h';omega
  refine Ar.fit dC ?_;exact ⟨3,⟨(by show 3<=6;decide),ok,(by show zbw t.c.v<=256;omega)⟩,zf [],dC⟩
 ·refine Br.y ?_;have l1:=zD t.d;refine zb.t (zbx (ofQ t.d.v) (by rw [zz];omega)) ?_;rw [zV];refine Br.mk (fun h=>ze (fun h'=>?_)) (fun h=>?_)
  ·simp only [AF.ok,okI,AF.nth] at h';omega
  refine Ar.fit dC ?_;exact ⟨4,⟨(by show 4<=6;decide),ok,(by show zbw t.d.v<=256;omega)⟩,zf [],dC⟩
 ·refine Br.y ?_;have l1:=zD t.e;refine zb.t (zbx (ofQ t.e.v) (by rw [zz];omega)) ?_;rw [zV];refine Br.mk (fun h=>ze (fun h'=>?_)) (fun h=>?_)
  ·simp only [AF.ok,okI,AF.nth] at h';omega
  refine Ar.fit dC ?_;exact ⟨5,⟨(by show 5<=6;decide),ok,(by show zbw t.e.v<=256;omega)⟩,zf [],dC⟩
 ·refine Br.y ?_;have l1:=zD t.f;refine zb.t (zbx (ofQ t.f.v) (by rw [zz];omega)) ?_;rw [zV];refine Br.mk (fun h=>ze (fun h'=>?_)) (fun h=>?_)
  ·simp only [AF.ok,okI,AF.nth] at h';omega
  refine Ar.fit dC ?_;exact ⟨6,⟨(by show 6<=6;decide),ok,(by show zbw t.f.v<=256;omega)⟩,zf [],dC⟩
 ·refine Br.mk (fun h=>absurd h dC) (fun _=>?_);exact zP ok
theorem zgs(a b c d:BR)(ha:a.len<=10000000)(hb:b.len<=10000000)(hc:c.len<=10000000)(hd:d.len<=10000000):
  zd Tryz.prog 100 [.agg (brE a),.agg (brE b),.agg (brE c),.agg (brE d)] [] (.agg (brE (ofQ (a.v*b.v+c.v*d.v)))) []:=by
 have l1:=zD a;have l2:=zD b;have l3:=zD c;have l4:=zD d;have m1:=jO a.v b.v;have m2:=jO c.v d.v;refine zc tok mix Tryz.func100 rfl rfl rfl ?_;refine Dr.k ?_;refine zb.t (zrK a b oM oM) ?_;refine zb.t (zrK c d oM oM) ?_;refine zb.t (zoa (ofQ (a.v*b.v)) (ofQ (c.v*d.v)) (by rw [zz];omega) (by rw [zz];omega)) ?_;rw [zV,zV];exact .refl
def y6(t:AF)(x y:Rat):Rat:=t.a.v*x+t.c.v*y+t.e.v
def y7(t:AF)(x y:Rat):Rat:=t.b.v*x+t.d.v*y+t.f.v
theorem qF(a b c d e:BR){n:Nat}(h1:a.len<=n)(h2:b.len<=n)(h3:c.len<=n)(h4:d.len<=n)(h5:e.len<=n):jX (a.v*b.v+c.v*d.v)<=4*n+5/\jX (a.v*b.v+c.v*d.v+e.v)<=5*n+7:=by
 have l1:=zD a;have l2:=zD b;have l3:=zD c;have l4:=zD d;have l5:=zD e;have m1:=jO a.v b.v;have m2:=jO c.v d.v;have m3:=zc6 (a.v*b.v) (c.v*d.v);have m4:=zc6 (a.v*b.v+c.v*d.v) e.v;omega
theorem zhN(t:AF)(x y:BR)(ht:t.le 5000000)(hx:x.len<=5000000)(hy:y.len<=5000000):
  zd Tryz.prog 57 [.agg (afE t),.agg (brE x),.agg (brE y)] [] (.tup [.agg (brE (ofQ (y6 t x.v y.v))),.agg (brE (ofQ (y7 t x.v y.v)))]) []:=by
 obtain ⟨ha,hb,hc,hd,he,hf⟩:=ht;have m1:=qF t.a x t.c y t.e ha hx hc hy he;have m2:=qF t.b x t.d y t.f hb hx hd hy hf;refine zc tok mix Tryz.func57 rfl rfl rfl ?_;refine Dr.k ?_;refine zb.t (zgs t.a x t.c y oM oM oM oM) ?_;refine zb.t (zoa (ofQ (t.a.v*x.v+t.c.v*y.v)) t.e (by rw [zz];omega) oM) ?_;refine zb.t (zgs t.b x t.d y oM oM oM oM) ?_;refine zb.t (zoa (ofQ (t.b.v*x.v+t.d.v*y.v)) t.f (by rw [zz];omega) oM) ?_;rw [zV,zV];exact .refl
def afQ(a b c d e f:Rat):AF:=⟨ofQ a,ofQ b,ofQ c,ofQ d,ofQ e,ofQ f⟩
theorem zBl(a b c d:Int)(ha:R64 a)(hb:R64 b)(hc:R64 c)(hd:R64 d):zd Tryz.prog 118 [i64 a,i64 b,i64 c,i64 d] [] (.agg (afE (afQ a b c d ((0:Int):Rat) ((0:Int):Rat)))) []:=by
 refine zc tok mix Tryz.func118 rfl rfl rfl ?_;refine zb.t (ye a ha) ?_;refine zb.t (ye b hb) ?_;refine zb.t (ye c hc) ?_;refine zb.t (ye d hd) ?_;refine zb.t (ye 0 dC) ?_;refine zb.t (ye 0 dC) ?_;refine zb.t (zqg (afQ a b c d ((0:Int):Rat) ((0:Int):Rat))) ?_;exact .refl
theorem zqh:zd Tryz.prog 77 [] [] (.agg (afE (afQ ((1:Int):Rat) ((0:Int):Rat) ((0:Int):Rat) ((1:Int):Rat) ((0:Int):Rat) ((0:Int):Rat)))) []:=by
 refine zc tok mix Tryz.func77 rfl rfl rfl ?_;refine zb.t (zBl 1 0 0 1 dC dC dC dC) ?_;exact .refl
theorem z_cmp(a b:BI)(ha:a.mag.length<=800000000)(hb:b.mag.length<=800000000):zd Tryz.prog 145 [.agg (biE a),.agg (biE b)] [] (i64 (a.v - b.v).sign) []:=by
 refine zc tok mix Tryz.func145 rfl rfl rfl ?_;refine zb.t (zn8 a b ha hb) ?_;have h1:=ziM a.v b.v;have h2:=vZ a;have h3:=vZ b;refine zb.t (ziS (ofZ (a.v - b.v)) (by rw [zM];omega)) ?_;rw [zZ];exact .refl
def zgt(x y:Rat):Int:=(x.num*y.den - y.num*x.den).sign
theorem zob{z:Int}:0<=z.sign↔0<=z:=by
 rcases Int.lt_trichotomy z 0 with h | h | h
 ·rw [Int.sign_eq_neg_one_of_neg h];omega
 ·subst h;decide
 ·rw [Int.sign_eq_one_of_pos h];omega
theorem zmp{x y:Rat}:0<=zgt x y↔y<=x:=by
 rw [Rat.le_iff];unfold zgt;rw [zob];omega
theorem zvS(x y:Rat):zgt y x= - zgt x y:=by
 unfold zgt;rw [show y.num*x.den - x.num*y.den= -(x.num*y.den - y.num*x.den) by omega,Int.sign_neg]
theorem zrM{x y:Rat}:zgt x y<=0↔x<=y:=by
 have:=zmp (x:=y) (y:=x);rw [zvS] at this;rw [← this];omega
theorem zfv(a b:BR)(ha:a.len<=100000000)(hb:b.len<=100000000):zd Tryz.prog 96 [.agg (brE a),.agg (brE b)] [] (i64 (zgt a.v b.v)) []:=by
 have h1:=zD a;have h2:=zD b;have n1:=kR a.v;have n2:=kR b.v;have d1:=kY a.v;have d2:=kY b.v;have m1:=kC a.v.num b.v.den;have m2:=kC b.v.num a.v.den;refine zc tok mix Tryz.func96 rfl rfl rfl ?_;refine zb.t (zmo a b oM oM) ?_;refine zb.t (z_cmp (ofZ (a.v.num*b.v.den)) (ofZ (b.v.num*a.v.den)) (by rw [zM];omega) (by rw [zM];omega)) ?_;rw [zZ,zZ];exact .refl
theorem q_sub(a b:BR)(ha:a.len<=50000000)(hb:b.len<=50000000):zd Tryz.prog 139 [.agg (brE a),.agg (brE b)] [] (.agg (brE (ofQ (a.v - b.v)))) []:=by
 have h1:=zD a;have h2:=zD b;have n1:=kR a.v;have n2:=kR b.v;have d1:=kY a.v;have d2:=kY b.v;have m1:=kC a.v.num b.v.den;have m2:=kC b.v.num a.v.den;have m3:=kC a.v.den b.v.den;have m4:=ziM (a.v.num*b.v.den) (b.v.num*a.v.den);refine zc tok mix Tryz.func139 rfl rfl rfl ?_;refine zb.t (zmo a b oM oM) ?_;refine Dr.k ?_;refine zb.t (zn8 (ofZ (a.v.num*b.v.den)) (ofZ (b.v.num*a.v.den)) (by rw [zM];omega) (by rw [zM];omega)) ?_;rw [zZ,zZ]
 refine zb.t (zfu (ofZ (a.v.num*b.v.den - b.v.num*a.v.den)) (ofZ (a.v.den*b.v.den)) (by rw [zM];omega) (by rw [zM];omega) (by rw [zZ];exact uA _ _)) ?_;rw [zZ,zZ,zvQ];exact .refl
theorem vK(x:Rat):jX (-x)=jX x:=by
 unfold jX;rw [Rat.neg_num,Rat.neg_den,vH]
theorem zoc(x y:Rat):jX (x - y)<=jX x+jX y+1:=by
 have:=zc6 x (-y);rw [vK,← Rat.sub_eq_add_neg] at this;exact this
theorem zod(x y:Rat):Rat.divInt (x.num*y.den) (x.den*y.num)=x / y:=by
 have:=Rat.divInt_mul_divInt x.num (y.den:Int) (d₁:=x.den) (d₂:=y.num);rw [Rat.num_divInt_den,← Rat.inv_def] at this;exact this.symm
theorem q_quo(a b:BR)(ha:a.len<=50000000)(hb:b.len<=50000000)(h0:b.v≠0):zd Tryz.prog 95 [.agg (brE a),.agg (brE b)] [] (.tup [.agg (brE (ofQ (a.v / b.v))),i64 0]) []:=by
 have h1:=zD a;have h2:=zD b;have h3:=vJ a.v;have h4:=vJ b.v;have n1:=kR a.v;have n2:=kR b.v;have d1:=kY a.v;have d2:=kY b.v;have m1:=kC a.v.num b.v.den;have m3:=kC a.v.den b.v.num;refine zc tok mix Tryz.func95 rfl rfl rfl ?_;refine Dr.k ?_;refine zb.t (kZ a oM) ?_;refine zb.t (kZ b oM) ?_;refine Dr.k ?_;refine zb.t (zeq (ofQ a.v).num (ofQ b.v).den oM oM) ?_;refine zb.t (zeq (ofQ a.v).den (ofQ b.v).num oM oM) ?_;rw [jP,jP,jB,jB]
 refine zb.to _ (zvR (ofZ (a.v.num*b.v.den)) (ofZ (a.v.den*b.v.num)) (by rw [zM];omega) (by rw [zM];omega) (by
  rw [zZ];exact Int.mul_ne_zero (zc5 _) (fun h=>h0 (Rat.num_eq_zero.1 h)))) rfl ?_
 rw [zZ,zZ,zod];exact .refl
theorem zrN(a:BR)(ha:a.len<=100000000):zd Tryz.prog 98 [.agg (brE a)] [] (.agg (brE (ofQ (-a.v)))) []:=by
 have h1:=zD a;have h3:=vJ a.v;refine zc tok mix Tryz.func98 rfl rfl rfl ?_;refine zb.t (kZ a oM) ?_;refine Dr.k ?_;refine zb.t (zAv (ofQ a.v).num oM) ?_;rw [jP,show ofQ (-a.v)=⟨ofZ (-a.v.num),ofZ a.v.den⟩ by unfold ofQ;rw [Rat.neg_num,Rat.neg_den]];exact .refl
def AF.same(t u:AF):Prop:=t.a.v=u.a.v/\t.b.v=u.b.v/\t.c.v=u.c.v/\t.d.v=u.d.v/\t.e.v=u.e.v/\t.f.v=u.f.v
instance (t u:AF):Decidable (t.same u):=inferInstanceAs (Decidable (_/\_))
theorem qG{x y:Rat}:zgt x y=0↔x=y:=by
 constructor
 ·intro h;exact Rat.le_antisymm (zrM.1 oM) (zmp.1 oM)
 ·rintro rfl
  unfold zgt;rw [Int.sub_self];rfl
theorem AF.le_len{t:AF}{n:Nat}(h:t.le n):t.nrm.le (max n 1):=by
 obtain ⟨h1,h2,h3,h4,h5,h6⟩:=h;have l1:=zD t.a;have l2:=zD t.b;have l3:=zD t.c;have l4:=zD t.d;have l5:=zD t.e;have l6:=zD t.f;refine ⟨?_,?_,?_,?_,?_,?_⟩ <;> (show (ofQ _).len<=_;rw [zz];omega)
def zvT(t u:AF):Nat->Prop
 | 0=>True
 | k+1=>zvT t u k/\(t.nth k).v=(u.nth k).v
theorem zrO(t u:AF)(ht:t.le 10000000)(hu:u.le 10000000):zd Tryz.prog 332 [.agg (afE t),.agg (afE u)] [] (pr (t.same u)) []:=by
 refine zc tok mix Tryz.func332 rfl rfl rfl ?_;refine Dr.k ?_;obtain ⟨ha,hb,hc,hd,he,hf⟩:=ht;obtain ⟨ka,kb,kc,kd,ke,kf⟩:=hu;refine zb.t (zdW t ⟨oM,oM,oM,oM,oM,oM⟩) ?_;refine zb.t (zdW u ⟨oM,oM,oM,oM,oM,oM⟩) ?_;refine ⟨Nat,fun i=>⟨[(14,i64 i),(13,.agg (afE t.nrm)),(6,.loc 3 0)],[(3,.box 158 (afE u.nrm))],4,25,0⟩,fun i=>i<=6/\zvT t u i,fun i=>6 - i,0,⟨Nat.zero_le _,trivial⟩,?_,?_⟩
 ·exact zf [(3,some 3)]
 rintro i ⟨hi,ok⟩
 have hi:i=0∨i=1∨i=2∨i=3∨i=4∨i=5∨i=6:=oM;have l1:=zD t.a;have l2:=zD t.b;have l3:=zD t.c;have l4:=zD t.d;have l5:=zD t.e;have l6:=zD t.f;have j1:=zD u.a;have j2:=zD u.b;have j3:=zD u.c;have j4:=zD u.d;have j5:=zD u.e;have j6:=zD u.f
 rcases hi with rfl | rfl | rfl | rfl | rfl | rfl | rfl
 ·refine Br.y ?_;refine Dr.k ?_;refine zb.t (zfv (ofQ t.a.v) (ofQ u.a.v) (by rw [zz];omega) (by rw [zz];omega)) ?_;rw [zV,zV];refine Br.mk (fun h=>ze (fun h1=>h (qG.2 h1.1))) (fun h=>?_);have h:=qG.1 (Decidable.not_not.1 h);refine Ar.fit dC ?_;exact ⟨1,⟨(by show 1<=6;decide),ok,h⟩,zf [(3,some 3)],dC⟩
 ·refine Br.y ?_;refine Dr.k ?_;refine zb.t (zfv (ofQ t.b.v) (ofQ u.b.v) (by rw [zz];omega) (by rw [zz];omega)) ?_;rw [zV,zV];refine Br.mk (fun h=>ze (fun h1=>h (qG.2 h1.2.1))) (fun h=>?_);have h:=qG.1 (Decidable.not_not.1 h);refine Ar.fit dC ?_;exact ⟨2,⟨(by show 2<=6;decide),ok,h⟩,zf [(3,some 3)],dC⟩
 ·refine Br.y ?_;refine Dr.k ?_;refine zb.t (zfv (ofQ t.c.v) (ofQ u.c.v) (by rw [zz];omega) (by rw [zz];omega)) ?_;rw [zV,zV];refine Br.mk (fun h=>ze (fun h1=>h (qG.2 h1.2.2.1))) (fun h=>?_);have h:=qG.1 (Decidable.not_not.1 h);refine Ar.fit dC ?_;exact ⟨3,⟨(by show 3<=6;decide),ok,h⟩,zf [(3,some 3)],dC⟩
 ·refine Br.y ?_;refine Dr.k ?_;refine zb.t (zfv (ofQ t.d.v) (ofQ u.d.v) (by rw [zz];omega) (by rw [zz];omega)) ?_;rw [zV,zV];refine Br.mk (fun h=>ze (fun h1=>h (qG.2 h1.2.2.2.1))) (fun h=>?_);have h:=qG.1 (Decidable.not_not.1 h);refine Ar.fit dC ?_;exact ⟨4,⟨(by show 4<=6;decide),ok,h⟩,zf [(3,some 3)],dC⟩
 ·refine Br.y ?_;refine Dr.k ?_;refine zb.t (zfv (ofQ t.e.v) (ofQ u.e.v) (by rw [zz];omega) (by rw [zz];omega)) ?_;rw [zV,zV];refine Br.mk (fun h=>ze (fun h1=>h (qG.2 h1.2.2.2.2.1))) (fun h=>?_);have h:=qG.1 (Decidable.not_not.1 h);refine Ar.fit dC ?_;exact ⟨5,⟨(by show 5<=6;decide),ok,h⟩,zf [(3,some 3)],dC⟩
 ·refine Br.y ?_;refine Dr.k ?_;refine zb.t (zfv (ofQ t.f.v) (ofQ u.f.v) (by rw [zz];omega) (by rw [zz];omega)) ?_;rw [zV,zV];refine Br.mk (fun h=>ze (fun h1=>h (qG.2 h1.2.2.2.2.2))) (fun h=>?_);have h:=qG.1 (Decidable.not_not.1 h);refine Ar.fit dC ?_;exact ⟨6,⟨(by show 6<=6;decide),ok,h⟩,zf [(3,some 3)],dC⟩
 ·refine Br.mk (fun h=>absurd h dC) (fun _=>?_);obtain ⟨⟨⟨⟨⟨⟨_,o1⟩,o2⟩,o3⟩,o4⟩,o5⟩,o6⟩:=ok;exact zP ⟨o1,o2,o3,o4,o5,o6⟩
theorem zak{q:Rat}(h:zbw q<=256):jX q<=8:=by
 have key:∀n:Nat,kA n<=256->(zk n).length<=8:=fun n hn=>yd (by
  have:=zc2 n;have h2:2 ^ kA n<=2 ^ 256:=Nat.pow_le_pow_right dC hn;have h3:(4294967296:Nat) ^ 8=2 ^ 256:=dC
  rw [h3];omega)
 unfold zbw at h;unfold jX jt;have h1:=key q.num.natAbs oM;have h2:=key q.den oM;rw [Int.natAbs_natCast];omega
theorem ok_le{t:AF}(h:t.nrm.ok):t.nrm.le 8:=by
 obtain ⟨⟨⟨⟨⟨⟨_,o1⟩,o2⟩,o3⟩,o4⟩,o5⟩,o6⟩:=h;simp only [AF.nth,AF.nrm,zV] at o1 o2 o3 o4 o5 o6
 exact ⟨by show (ofQ _).len<=_;rw [zz];exact zak o1,by show (ofQ _).len<=_;rw [zz];exact zak o2,by show (ofQ _).len<=_;rw [zz];exact zak o3,
  by show (ofQ _).len<=_;rw [zz];exact zak o4,by show (ofQ _).len<=_;rw [zz];exact zak o5,by show (ofQ _).len<=_;rw [zz];exact zak o6⟩
def yf(t:AF):Rat:=t.a.v*t.d.v - t.b.v*t.c.v
theorem zha(t:AF)(ht:t.le 10000000):zd Tryz.prog 93 [.agg (afE t)] [] (.agg (brE (ofQ (yf t)))) []:=by
 obtain ⟨ha,hb,hc,hd,he,hf⟩:=ht;have l1:=zD t.a;have l2:=zD t.b;have l3:=zD t.c;have l4:=zD t.d;have m1:=jO t.a.v t.d.v;have m2:=jO t.b.v t.c.v;refine zc tok mix Tryz.func93 rfl rfl rfl ?_;refine Dr.k ?_;refine zb.t (zrK t.a t.d oM oM) ?_;refine zb.t (zrK t.b t.c oM oM) ?_;refine zb.t (q_sub (ofQ (t.a.v*t.d.v)) (ofQ (t.b.v*t.c.v)) (by rw [zz];omega) (by rw [zz];omega)) ?_;rw [zV,zV];exact .refl
theorem zhb(t:AF)(ht:t.le 100000000):zd Tryz.prog 80 [.agg (afE t)] [] (.agg (afE t.nrm)) []:=by
 obtain ⟨ha,hb,hc,hd,he,hf⟩:=ht;refine zc tok mix Tryz.func80 rfl rfl rfl ?_;refine zb.t (zdW t ⟨oM,oM,oM,oM,oM,oM⟩) ?_;refine zb.t (zqg t.nrm) ?_;exact .refl
def beh(t u:AF):AF:=afQ (u.a.v*t.a.v+u.c.v*t.b.v) (u.b.v*t.a.v+u.d.v*t.b.v) (u.a.v*t.c.v+u.c.v*t.d.v) (u.b.v*t.c.v+u.d.v*t.d.v) (y6 u t.e.v t.f.v) (y7 u t.e.v t.f.v)
theorem zvU(t u:AF)(ht:t.le 1000000)(hu:u.le 1000000):zd Tryz.prog 79 [.agg (afE t),.agg (afE u)] [] (.agg (afE (beh t u))) []:=by
 have ht':=ht;have hu':=hu;obtain ⟨ha,hb,hc,hd,he,hf⟩:=ht;obtain ⟨ka,kb,kc,kd,ke,kf⟩:=hu;refine zc tok mix Tryz.func79 rfl rfl rfl ?_;refine zb.t (zhN u t.e t.f ⟨oM,oM,oM,oM,oM,oM⟩ oM oM) ?_;refine Dr.k ?_;refine zb.t (zgs u.a t.a u.c t.b oM oM oM oM) ?_;refine zb.t (zgs u.b t.a u.d t.b oM oM oM oM) ?_;refine zb.t (zgs u.a t.c u.c t.d oM oM oM oM) ?_;refine zb.t (zgs u.b t.c u.d t.d oM oM oM oM) ?_;refine zb.t (zqg (beh t u)) ?_;exact .refl
theorem zvV{t u:AF}{n:Nat}(ht:t.le n)(hu:u.le n):(beh t u).le (5*n+7):=by
 obtain ⟨ha,hb,hc,hd,he,hf⟩:=ht;obtain ⟨ka,kb,kc,kd,ke,kf⟩:=hu;have m1:=qF u.a t.a u.c t.b u.e ka ha kc hb ke;have m2:=qF u.b t.a u.d t.b u.e kb ha kd hb ke;have m3:=qF u.a t.c u.c t.d u.e ka hc kc hd ke;have m4:=qF u.b t.c u.d t.d u.e kb hc kd hd ke;have m5:=qF u.a t.e u.c t.f u.e ka he kc hf ke;have m6:=qF u.b t.e u.d t.f u.f kb he kd hf kf;refine ⟨?_,?_,?_,?_,?_,?_⟩ <;> (show (ofQ _).len<=_;rw [zz])
 ·omega
 ·omega
 ·omega
 ·omega
 ·exact m5.2
 ·exact m6.2
theorem zBm(a b:List Dig)(ha:a.length<=400000000)(hb:b.length<=400000000):
  zd Tryz.prog 152 [.sl dgE a,.sl dgE b] [] (.sl dgE (zk (Nat.gcd (val a) (val b)))) []:=by
 refine zc tok mix Tryz.func152 rfl rfl rfl ?_;refine zb.t (um _ oM) ?_;refine zb.t (um _ oM) ?_;have hla:=zG a;have hlb:=zG b
 refine ⟨Nat×Nat,fun ⟨A,B⟩=>⟨[(5,.sl dgE (zk A)),(6,.sl dgE (zk B))],[],0,27,0⟩,
  fun x=>(zk x.1).length<=400000000/\(zk x.2).length<=400000000/\Nat.gcd x.1 x.2=Nat.gcd (val a) (val b),fun x=>x.2,(val a,val b),?_,?_,?_⟩
 ·exact ⟨by dsimp only;omega,by dsimp only;omega,rfl⟩
 ·exact zf []
 rintro ⟨A,B⟩ ⟨h1,h2,h3⟩
 dsimp only at h1 h2 h3;intro hl;refine Br.mk (fun k=>?_) (fun k=>?_)
 ·have hB:B≠0:=jm.1 oM;refine zb.t (zkO (zk A) (zk B) oM oM (by rw [zm];exact hB)) ?_;rw [zm,zm];have hm:=Nat.mod_lt A (Nat.pos_of_ne_zero hB);refine ⟨(B,A % B),⟨h2,Nat.le_trans (qf (Nat.le_of_lt hm)) h2,?_⟩,zf [],hm⟩;dsimp only;rw [← h3,Nat.gcd_comm B,Nat.gcd_comm A B,Nat.gcd_rec B A]
 ·have hB:B=0:=yr.1 (List.length_eq_zero_iff.1 oM);subst hB;rw [Nat.gcd_zero_right] at h3;exact qy (by rw [h3])
theorem zyW(m:List Dig)(hm:m.length<=1000000000):zd Tryz.prog 69 [bl false,.sl dgE m] [] (.agg (biE (ofZ (val m)))) []:=by
 have:=(zaI False m hm).args (.cons (ze id) (.cons .refl .nil))
 rwa [if_neg id] at this
theorem zmq(a:BI)(hm:a.mag.length<=1000000000):zd Tryz.prog 153 [.agg (biE a)] [] (.agg (biE (ofZ (-a.v)))) []:=by
 refine zc tok mix Tryz.func153 rfl rfl rfl ?_;refine zb.t (zaI (¬a.neg=true) a.mag hm) ?_
 have:(if ¬a.neg=true then -(val a.mag:Int) else (val a.mag:Int))= -a.v:=by
  rcases a.v_eq with ⟨h1,h2⟩ | ⟨h1,h2⟩ <;> simp [h1,h2]
 rw [this];exact .refl
theorem zqi(a b:BI)(ha:a.mag.length<=800000000)(hb:b.mag.length<=800000000):zd Tryz.prog 113 [.agg (biE a),.agg (biE b)] [] (.agg (biE (ofZ (a.v+b.v)))) []:=by
 refine zc tok mix Tryz.func113 rfl rfl rfl ?_;refine Br.mk (fun h=>?_) (fun h=>?_)
 ·refine Dr.k ?_;refine zb.t (zyN a.mag b.mag oM oM) ?_;have hl:=ziN ha hb;refine zb.t (zaI (a.neg=true) _ oM) ?_
  have:(if a.neg=true then -(val (zk (val a.mag+val b.mag)):Int) else (val (zk (val a.mag+val b.mag)):Int))=a.v+b.v:=by
   rw [zm]
   rcases a.v_eq with ⟨h1,h2⟩ | ⟨h1,h2⟩ <;> rcases b.v_eq with ⟨h3,h4⟩ | ⟨h3,h4⟩ <;> simp [h1,h3] at h <;> simp [h1,h2,h4] <;> omega
  rw [this];exact .refl
 ·refine zb.t (zmi a.mag b.mag oM oM) ?_;have hl:(zk (val a.mag - val b.mag)).length<=1000000000:=Nat.le_trans (qf (Nat.sub_le _ _)) (Nat.le_trans (zG _) oM);have hl2:(zk (val b.mag - val a.mag)).length<=1000000000:=Nat.le_trans (qf (Nat.sub_le _ _)) (Nat.le_trans (zG _) oM);refine Br.mk (fun h2=>?_) (fun h2=>?_)
  ·refine zb.t (zaI (a.neg=true) _ hl) ?_
   have:(if a.neg=true then -(val (zk (val a.mag - val b.mag)):Int) else (val (zk (val a.mag - val b.mag)):Int))=a.v+b.v:=by
    rw [zm]
    rcases a.v_eq with ⟨h1,h2⟩ | ⟨h1,h2⟩ <;> rcases b.v_eq with ⟨h3,h4⟩ | ⟨h3,h4⟩ <;> simp [h1,h3] at h <;> simp [h1,h2,h4] <;> omega
   rw [this];exact .refl
  ·refine zb.t (zmi b.mag a.mag oM oM) ?_;refine zb.t (zaI (b.neg=true) _ hl2) ?_
   have:(if b.neg=true then -(val (zk (val b.mag - val a.mag)):Int) else (val (zk (val b.mag - val a.mag)):Int))=a.v+b.v:=by
    rw [zm]
    rcases a.v_eq with ⟨h1,h2⟩ | ⟨h1,h2⟩ <;> rcases b.v_eq with ⟨h3,h4⟩ | ⟨h3,h4⟩ <;> simp [h1,h3] at h <;> simp [h3,h2,h4] <;> omega
   rw [this];exact .refl
theorem zvW(a b:BI)(ha:a.mag.length<=800000000)(hb:b.mag.length<=800000000):zd Tryz.prog 106 [.agg (biE a),.agg (biE b)] [] (.agg (biE (ofZ (a.v - b.v)))) []:=by
 refine zc tok mix Tryz.func106 rfl rfl rfl ?_;refine Dr.k ?_;refine zb.t (zmq b oM) ?_;have h1:=vZ b;refine zb.t (zqi a (ofZ (-b.v)) oM (by rw [zM,vH];omega)) ?_;rw [zZ,← Int.sub_eq_add_neg];exact .refl
theorem zkR(a:BI)(ha:a.mag.length<=900000000):zd Tryz.prog 111 [.agg (biE a)] [] (i64 (kA a.v.natAbs)) []:=by
 refine zc tok mix Tryz.func111 rfl rfl rfl ?_;refine zb.t (zkN a.mag ha) ?_;rw [BI.v_abs];exact .refl
theorem zBn{A B:Nat}(hB:0 < B):(A % B=0-> -(A:Int) / B= -((A / B:Nat):Int)/\ -(A:Int) % B= -((A % B:Nat):Int))/\(A % B≠0-> -(A:Int) / B= -((A / B:Nat):Int) - 1/\ -(A:Int) % B= -((A % B:Nat):Int)+B):=by
 have hdm:=Nat.div_add_mod A B;have hm:=Nat.mod_lt A hB;generalize A / B=q at*;generalize A % B=r at*;have e:(B:Int)*(q:Int)=((B*q:Nat):Int):=(Int.natCast_mul _ _).symm;have hB':(0:Int) < B:=oM;refine ⟨fun h=>(Int.ediv_emod_unique hB').2 ⟨?_,oM,oM⟩,fun h=>(Int.ediv_emod_unique hB').2 ⟨?_,oM,oM⟩⟩
 ·rw [Int.mul_neg,e];omega
 ·rw [Int.mul_sub,Int.mul_neg,e,Int.mul_one];omega
theorem zdX(a b:BI)(ha:a.mag.length<=200000000)(hb:b.mag.length<=200000000)(h0:0 < b.v):
  zd Tryz.prog 154 [.agg (biE a),.agg (biE b)] [] (.tup [.agg (biE (ofZ (a.v / b.v))),.agg (biE (ofZ (a.v % b.v))),i64 0]) []:=by
 have hbv:b.neg=false/\b.v=(val b.mag:Int):=by
  rcases b.v_eq with ⟨h1,h2⟩ | h
  ·omega
  ·exact h
 have hB:0 < val b.mag:=oM;have q1:(zk (val a.mag / val b.mag)).length<=200000000:=Nat.le_trans (qf (Nat.div_le_self _ _)) (Nat.le_trans (zG _) ha);have r1:(zk (val a.mag % val b.mag)).length<=200000000:=Nat.le_trans (qf (Nat.mod_le _ _)) (Nat.le_trans (zG _) ha);have nb:¬b.neg=true:=by rw [hbv.1];decide
 refine zc tok mix Tryz.func154 rfl rfl rfl ?_;refine zb.t (zfs b oM) ?_;refine Br.mk (fun h=>absurd (Int.sign_eq_zero_iff_zero.1 h) oM) (fun _=>?_);refine zb.t (zkO a.mag b.mag oM oM oM) ?_;refine zb.t (zaI (¬(a.neg=true↔b.neg=true)) _ oM) ?_;refine zb.t (zaI (a.neg=true) _ oM) ?_;rw [zm,zm]
 rcases a.v_eq with ⟨h1,h2⟩ | ⟨h1,h2⟩
 ·have pa:¬(a.neg=true↔b.neg=true):=by rw [h1,hbv.1];decide
  rw [if_pos pa,if_pos h1];refine Br.mk (fun h3=>?_) (fun h3=>absurd pa h3);have nd:=zBn (A:=val a.mag) hB;rw [← h2,← hbv.2] at nd;have k1:jt (-((val a.mag / val b.mag:Nat):Int))<=200000000:=by rw [vH];exact q1
  have k2:jt (-((val a.mag % val b.mag:Nat):Int))<=200000000:=by rw [vH];exact r1
  refine zb.t (zfs (ofZ (-((val a.mag % val b.mag:Nat):Int))) (by rw [zM];omega)) ?_;rw [zZ];refine Br.mk (fun h4=>?_) (fun h4=>?_)
  ·have hr:val a.mag % val b.mag≠0:=fun h=>h4 (by rw [h];rfl)
   refine Dr.k ?_;refine zb.t (zeG 1 dC) ?_;refine zb.t (zvW (ofZ (-((val a.mag / val b.mag:Nat):Int))) (ofZ 1) (by rw [zM];omega) (by decide +kernel)) ?_;refine zb.t (zqi (ofZ (-((val a.mag % val b.mag:Nat):Int))) b (by rw [zM];omega) oM) ?_;rw [zZ,zZ,zZ,(nd.2 hr).1,(nd.2 hr).2];exact .refl
  ·have hr:val a.mag % val b.mag=0:=by
    have:(-((val a.mag % val b.mag:Nat):Int))=0:=Int.sign_eq_zero_iff_zero.1 (Decidable.not_not.1 h4);omega
   refine Dr.d ?_;refine Ob.mk (by kernel_rfl) ?_;rw [← (nd.1 hr).1,← (nd.1 hr).2];exact .refl
 ·have pa:¬¬(a.neg=true↔b.neg=true):=by rw [h1,hbv.1];decide
  have na:¬a.neg=true:=by rw [h1];decide
  rw [if_neg pa,if_neg na];refine Br.mk (fun h3=>absurd h3 pa) (fun h3=>?_);refine Dr.d ?_;refine Ob.mk (by kernel_rfl) ?_;rw [h2,hbv.2,← Int.natCast_ediv,← Int.natCast_emod];exact .refl
theorem qn(n:Int)(hn:R64 n):zd Tryz.prog 12 [i64 n] [] (.agg (brE (ofQ (n:Rat)))) []:=by
 refine zc tok mix Tryz.func12 rfl rfl rfl ?_;refine zb.t (zeG n hn) ?_;refine zb.t (zeG 1 dC) ?_;have e:ofQ (n:Rat)=⟨ofZ n,ofZ 1⟩:=by unfold ofQ;rw [Rat.num_intCast,Rat.den_intCast];rfl
 rw [e];exact .refl
theorem zgu(n d:BI)(hn:n.mag.length<=200000000)(hd:d.mag.length<=200000000)(h0:d.v≠0):
  zd Tryz.prog 105 [.agg (biE n),.agg (biE d)] [] (.agg (brE (ofQ (Rat.divInt n.v d.v)))) []:=by
 refine zc tok mix Tryz.func105 rfl rfl rfl ?_;refine zb.t (zBm n.mag d.mag oM oM) ?_;have hdz:val d.mag≠0:=by rw [← d.v_abs];omega
 have hg0:0 < Nat.gcd (val n.mag) (val d.mag):=Nat.gcd_pos_of_pos_right _ oM
 have hgl:(zk (Nat.gcd (val n.mag) (val d.mag))).length<=200000000:=
  Nat.le_trans (qf (Nat.gcd_le_right _ oM)) (Nat.le_trans (zG _) hd)
 have hnum:=Rat.num_divInt n.v d.v;have hden:=Rat.den_divInt n.v d.v
 have hg:d.v.gcd n.v=Nat.gcd (val n.mag) (val d.mag):=by
  rw [← n.v_abs,← d.v_abs];exact Nat.gcd_comm _ _
 rw [hg] at hnum hden;rw [if_neg h0] at hden;have ln:=vZ n;have ld:=vZ d;generalize Nat.gcd (val n.mag) (val d.mag)=g at*;refine zb.t (zyW (zk g) oM) ?_;rw [zm];have zg:jt (g:Int)<=200000000:=hgl
 have fin:∀N D:Int,N=d.v.sign*n.v->D=(d.v.natAbs:Int)->ofQ (Rat.divInt n.v d.v)=⟨ofZ (N / (g:Int)),ofZ (D / (g:Int))⟩:=fun N D hN hD=>by
  unfold ofQ;rw [hnum,hden,hN,hD];rfl
 refine zb.t (zfs d oM) ?_;refine Br.mk (fun h=>?_) (fun h=>?_)
 ·have hneg:d.v < 0:=by
   rcases Int.lt_trichotomy d.v 0 with k | k | k
   ·exact k
   ·exact absurd k h0
   ·rw [Int.sign_eq_one_of_pos k] at h;omega
  refine zb.t (zmq n oM) ?_;refine zb.t (zmq d oM) ?_;refine zb.t (zdX (ofZ (-n.v)) (ofZ (g:Int)) (by rw [zM,vH];omega) (by rw [zM];omega) (by rw [zZ];omega)) ?_;refine zb.t (zdX (ofZ (-d.v)) (ofZ (g:Int)) (by rw [zM,vH];omega) (by rw [zM];omega) (by rw [zZ];omega)) ?_;rw [zZ,zZ,zZ,fin (-n.v) (-d.v) (by rw [Int.sign_eq_neg_one_of_neg hneg];omega) oM];exact .refl
 ·have hpos:0 < d.v:=by
   rcases Int.lt_trichotomy d.v 0 with k | k | k
   ·rw [Int.sign_eq_neg_one_of_neg k] at h;omega
   ·exact absurd k h0
   ·exact k
  refine zb.t (zdX n (ofZ (g:Int)) oM (by rw [zM];omega) (by rw [zZ];omega)) ?_;refine zb.t (zdX d (ofZ (g:Int)) oM (by rw [zM];omega) (by rw [zZ];omega)) ?_;rw [zZ,fin n.v d.v (by rw [Int.sign_eq_one_of_pos hpos];omega) oM];exact .refl
theorem ku(a:BR)(ha:a.len<=200000000):zd Tryz.prog 60 [.agg (brE a)] [] (.agg (brE (ofQ a.v))) []:=by
 have h1:a.num.mag.length<=a.len:=Nat.le_max_left _ _;have h2:a.den.mag.length<=a.len:=Nat.le_max_right _ _;refine zc tok mix Tryz.func60 rfl rfl rfl ?_;refine zb.t (zfs a.den oM) ?_;refine Br.mk (fun h=>?_) (fun h=>?_)
 ·refine zb.t (qn 0 dC) ?_;have e:a.v=((0:Int):Rat):=by unfold BR.v;rw [Int.sign_eq_zero_iff_zero.1 h,Rat.divInt_zero];rfl
  rw [e];exact .refl
 ·refine zb.t (zgu a.num a.den oM oM (fun k=>h (by rw [k];rfl))) ?_;exact .refl
theorem zmr(a b:BR)(ha:a.len<=50000000)(hb:b.len<=50000000):zd Tryz.prog 68 [.agg (brE a),.agg (brE b)] [] (.agg (brE (ofQ (a.v+b.v)))) []:=by
 have h1:=zD a;have h2:=zD b;have h3:=vJ a.v;have h4:=vJ b.v;have n1:=kR a.v;have n2:=kR b.v;have d1:=kY a.v;have d2:=kY b.v;have m1:=kC a.v.num b.v.den;have m2:=kC b.v.num a.v.den;have m3:=kC a.v.den b.v.den;have m4:=zfq (a.v.num*b.v.den) (b.v.num*a.v.den);refine zc tok mix Tryz.func68 rfl rfl rfl ?_;refine Dr.k ?_;refine zb.t (ku a oM) ?_;refine zb.t (ku b oM) ?_;refine Dr.k ?_;refine zb.t (zeH (ofQ a.v).num (ofQ b.v).den oM oM) ?_;refine zb.t (zeH (ofQ b.v).num (ofQ a.v).den oM oM) ?_;rw [jP,jP,jB,jB]
 refine zb.t (zqi (ofZ (a.v.num*b.v.den)) (ofZ (b.v.num*a.v.den)) (by rw [zM];omega) (by rw [zM];omega)) ?_;rw [zZ,zZ];refine zb.t (zeH (ofQ a.v).den (ofQ b.v).den oM oM) ?_;rw [jB,jB];refine zb.t (zgu (ofZ (a.v.num*b.v.den+b.v.num*a.v.den)) (ofZ (a.v.den*b.v.den)) (by rw [zM];omega) (by rw [zM];omega) (by rw [zZ];exact uA _ _)) ?_;rw [zZ,zZ,ziW];exact .refl
theorem zms(a b:BR)(ha:a.len<=50000000)(hb:b.len<=50000000):zd Tryz.prog 112 [.agg (brE a),.agg (brE b)] [] (.agg (brE (ofQ (a.v*b.v)))) []:=by
 have h1:=zD a;have h2:=zD b;have h3:=vJ a.v;have h4:=vJ b.v;have n1:=kR a.v;have n2:=kR b.v;have d1:=kY a.v;have d2:=kY b.v;have m1:=kC a.v.num b.v.num;have m3:=kC a.v.den b.v.den;refine zc tok mix Tryz.func112 rfl rfl rfl ?_;refine Dr.k ?_;refine zb.t (ku a oM) ?_;refine zb.t (ku b oM) ?_;refine Dr.k ?_;refine zb.t (zeH (ofQ a.v).num (ofQ b.v).num oM oM) ?_;refine zb.t (zeH (ofQ a.v).den (ofQ b.v).den oM oM) ?_;rw [jP,jP,jB,jB]
 refine zb.t (zgu (ofZ (a.v.num*b.v.num)) (ofZ (a.v.den*b.v.den)) (by rw [zM];omega) (by rw [zM];omega) (by rw [zZ];exact uA _ _)) ?_;rw [zZ,zZ,ziX];exact .refl
theorem ztp(a:BR)(ha:a.len<=100000000):zd Tryz.prog 66 [.agg (brE a)] [] (i64 (zbw a.v)) []:=by
 have h1:=zD a;have h3:=vJ a.v;refine zc tok mix Tryz.func66 rfl rfl rfl ?_;refine zb.t (ku a oM) ?_;refine Dr.k ?_;refine zb.t (zkR (ofQ a.v).num oM) ?_;refine zb.t (zkR (ofQ a.v).den oM) ?_;rw [jP,jB,Int.natAbs_natCast];refine zj ?_;unfold zbw;simp only [ze4];omega
end Go.Gs
