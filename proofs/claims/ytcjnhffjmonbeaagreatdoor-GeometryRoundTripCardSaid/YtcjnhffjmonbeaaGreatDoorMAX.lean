/- Transforms, the program's. -/
import Derived.Test.YtcjnhffjmonbeaaGreatDoorMA
import Derived.Test.YtcjnhffjmonbeaaGreatDoorMAW
set_option maxRecDepth 100000
set_option maxHeartbeats 8000000
set_option linter.all false
namespace Go.Gs
open Go.Proofs
structure AF where
 a:BR
 b:BR
 c:BR
 d:BR
 e:BR
 f:BR
def afE(t:AF):List SV:=brE t.a++(brE t.b++(brE t.c++(brE t.d++(brE t.e++brE t.f))))
def AF.le(t:AF)(n:Nat):Prop:=t.a.len<=n/\t.b.len<=n/\t.c.len<=n/\t.d.len<=n/\t.e.len<=n/\t.f.len<=n
def AF.nth(t:AF):Nat->BR
 | 0=>t.a
 | 1=>t.b
 | 2=>t.c
 | 3=>t.d
 | 4=>t.e
 | _=>t.f
def stage(t:AF):Nat->AF
 | 0=>t
 | 1=>{ t with a:=ofQ t.a.v }
 | 2=>{ t with a:=ofQ t.a.v,b:=ofQ t.b.v }
 | 3=>{ t with a:=ofQ t.a.v,b:=ofQ t.b.v,c:=ofQ t.c.v }
 | 4=>{ t with a:=ofQ t.a.v,b:=ofQ t.b.v,c:=ofQ t.c.v,d:=ofQ t.d.v }
 | 5=>{ t with a:=ofQ t.a.v,b:=ofQ t.b.v,c:=ofQ t.c.v,d:=ofQ t.d.v,e:=ofQ t.e.v }
 | _=>⟨ofQ t.a.v,ofQ t.b.v,ofQ t.c.v,ofQ t.d.v,ofQ t.e.v,ofQ t.f.v⟩
def AF.nrm(t:AF):AF:=⟨ofQ t.a.v,ofQ t.b.v,ofQ t.c.v,ofQ t.d.v,ofQ t.e.v,ofQ t.f.v⟩
def jb:List SV:=(List.replicate 12 [bl false,SV.val (.slice none 0 0)]).flatten
theorem zbo(t:AF)(ht:t.le 400000000):ze Tryz.prog 117 [.agg (afE t)] [] (.agg (afE t.nrm)) []:=by
 obtain ⟨ha,hb,hc,hd,he,hf⟩:=ht;refine zd tok mix Tryz.func117 rfl rfl rfl ?_
 refine ⟨Nat,fun i=>⟨[(20,i64 i),(19,.agg (afE t)),(3,.loc 2 0),(2,.loc 1 0)],[(2,.box 152 (afE (stage t i))),(1,.box 152 jb),(0,.box 35 (afE t))],3,30,0⟩,
  fun i=>i<=6,fun i=>6 - i,0,Nat.zero_le _,?_,?_⟩
 ·exact zi [(0,some 0),(1,some 1),(2,some 2)]
 intro i hi;have hi:i=0∨i=1∨i=2∨i=3∨i=4∨i=5∨i=6:=by have hi:i<=6:=hi;omega
 rcases hi with rfl | rfl | rfl | rfl | rfl | rfl | rfl
 ·refine Br.y ?_;refine zb.t (kv t.a ha) ?_;refine Ar.fit dC ?_;exact ⟨1,(by show 1<=6;decide),zi [(0,some 0),(1,some 1),(2,some 2)],dC⟩
 ·refine Br.y ?_;refine zb.t (kv t.b hb) ?_;refine Ar.fit dC ?_;exact ⟨2,(by show 2<=6;decide),zi [(0,some 0),(1,some 1),(2,some 2)],dC⟩
 ·refine Br.y ?_;refine zb.t (kv t.c hc) ?_;refine Ar.fit dC ?_;exact ⟨3,(by show 3<=6;decide),zi [(0,some 0),(1,some 1),(2,some 2)],dC⟩
 ·refine Br.y ?_;refine zb.t (kv t.d hd) ?_;refine Ar.fit dC ?_;exact ⟨4,(by show 4<=6;decide),zi [(0,some 0),(1,some 1),(2,some 2)],dC⟩
 ·refine Br.y ?_;refine zb.t (kv t.e he) ?_;refine Ar.fit dC ?_;exact ⟨5,(by show 5<=6;decide),zi [(0,some 0),(1,some 1),(2,some 2)],dC⟩
 ·refine Br.y ?_;refine zb.t (kv t.f hf) ?_;refine Ar.fit dC ?_;exact ⟨6,(by show 6<=6;decide),zi [(0,some 0),(1,some 1),(2,some 2)],dC⟩
 ·refine Br.mk (fun h=>absurd h dC) (fun _=>?_);exact .refl
theorem zkB(t:AF):ze Tryz.prog 119 [.agg (afE t)] [] (.agg (afE t)) []:=by
 refine zd tok mix Tryz.func119 rfl rfl rfl ?_;refine zim.own ?_;exact .refl
def okI(t:AF):Nat->Prop
 | 0=>True
 | k+1=>okI t k/\vn (t.nth k).v<=256
def AF.ok(t:AF):Prop:=okI t 6
instance (t:AF):∀n,Decidable (okI t n):=fun n=>by
 induction n with
 | zero=>exact isTrue trivial
 | succ k ih=>unfold okI;exact instDecidableAnd
instance (t:AF):Decidable t.ok:=inferInstanceAs (Decidable (okI t 6))
theorem vP(t:AF)(ht:t.le 100000000):ze Tryz.prog 66 [.agg (afE t)] [] (pr t.ok) []:=by
 have ht':=ht;obtain ⟨ha,hb,hc,hd,he,hf⟩:=ht;refine zd tok mix Tryz.func66 rfl rfl rfl ?_;refine zb.t (zbo t ⟨oM,oM,oM,oM,oM,oM⟩) ?_;refine ⟨Nat,fun i=>⟨[(6,.agg (afE t.nrm)),(7,i64 i)],[],1,14,0⟩,fun i=>i<=6/\okI t i,fun i=>6 - i,0,⟨Nat.zero_le _,trivial⟩,?_,?_⟩
 ·exact zi []
 rintro i ⟨hi,ok⟩
 have hi:i=0∨i=1∨i=2∨i=3∨i=4∨i=5∨i=6:=oM
 rcases hi with rfl | rfl | rfl | rfl | rfl | rfl | rfl
 ·refine Br.y ?_;have l1:=zt t.a;refine zb.t (vo (ofQ t.a.v) (by rw [zo];omega)) ?_;rw [zN];refine Br.mk (fun h=>zc (fun h'=>?_)) (fun h=>?_)
  ·simp only [AF.ok,okI,AF.nth] at h';omega
  refine Ar.fit dC ?_;exact ⟨1,⟨(by show 1<=6;decide),ok,(by show vn t.a.v<=256;omega)⟩,zi [],dC⟩
 ·refine Br.y ?_;have l1:=zt t.b;refine zb.t (vo (ofQ t.b.v) (by rw [zo];omega)) ?_;rw [zN];refine Br.mk (fun h=>zc (fun h'=>?_)) (fun h=>?_)
  ·simp only [AF.ok,okI,AF.nth] at h';omega
  refine Ar.fit dC ?_;exact ⟨2,⟨(by show 2<=6;decide),ok,(by show vn t.b.v<=256;omega)⟩,zi [],dC⟩
 ·refine Br.y ?_;have l1:=zt t.c;refine zb.t (vo (ofQ t.c.v) (by rw [zo];omega)) ?_;rw [zN];refine Br.mk (fun h=>zc (fun h'=>?_)) (fun h=>?_)
  ·simp only [AF.ok,okI,AF.nth] at h';omega
  refine Ar.fit dC ?_;exact ⟨3,⟨(by show 3<=6;decide),ok,(by show vn t.c.v<=256;omega)⟩,zi [],dC⟩
 ·refine Br.y ?_;have l1:=zt t.d;refine zb.t (vo (ofQ t.d.v) (by rw [zo];omega)) ?_;rw [zN];refine Br.mk (fun h=>zc (fun h'=>?_)) (fun h=>?_)
  ·simp only [AF.ok,okI,AF.nth] at h';omega
  refine Ar.fit dC ?_;exact ⟨4,⟨(by show 4<=6;decide),ok,(by show vn t.d.v<=256;omega)⟩,zi [],dC⟩
 ·refine Br.y ?_;have l1:=zt t.e;refine zb.t (vo (ofQ t.e.v) (by rw [zo];omega)) ?_;rw [zN];refine Br.mk (fun h=>zc (fun h'=>?_)) (fun h=>?_)
  ·simp only [AF.ok,okI,AF.nth] at h';omega
  refine Ar.fit dC ?_;exact ⟨5,⟨(by show 5<=6;decide),ok,(by show vn t.e.v<=256;omega)⟩,zi [],dC⟩
 ·refine Br.y ?_;have l1:=zt t.f;refine zb.t (vo (ofQ t.f.v) (by rw [zo];omega)) ?_;rw [zN];refine Br.mk (fun h=>zc (fun h'=>?_)) (fun h=>?_)
  ·simp only [AF.ok,okI,AF.nth] at h';omega
  refine Ar.fit dC ?_;exact ⟨6,⟨(by show 6<=6;decide),ok,(by show vn t.f.v<=256;omega)⟩,zi [],dC⟩
 ·refine Br.mk (fun h=>absurd h dC) (fun _=>?_);exact zH ok
theorem zdj(a b c d:BR)(ha:a.len<=10000000)(hb:b.len<=10000000)(hc:c.len<=10000000)(hd:d.len<=10000000):
  ze Tryz.prog 94 [.agg (brE a),.agg (brE b),.agg (brE c),.agg (brE d)] [] (.agg (brE (ofQ (a.v*b.v+c.v*d.v)))) []:=by
 have l1:=zt a;have l2:=zt b;have l3:=zt c;have l4:=zt d;have m1:=qr a.v b.v;have m2:=qr c.v d.v;refine zd tok mix Tryz.func94 rfl rfl rfl ?_;refine Dr.k ?_;refine zb.t (zlE a b oM oM) ?_;refine zb.t (zlE c d oM oM) ?_;refine zb.t (zjb (ofQ (a.v*b.v)) (ofQ (c.v*d.v)) (by rw [zo];omega) (by rw [zo];omega)) ?_;rw [zN,zN];exact .refl
def yY(t:AF)(x y:Rat):Rat:=t.a.v*x+t.c.v*y+t.e.v
def yZ(t:AF)(x y:Rat):Rat:=t.b.v*x+t.d.v*y+t.f.v
theorem kK(a b c d e:BR){n:Nat}(h1:a.len<=n)(h2:b.len<=n)(h3:c.len<=n)(h4:d.len<=n)(h5:e.len<=n):qA (a.v*b.v+c.v*d.v)<=4*n+5/\qA (a.v*b.v+c.v*d.v+e.v)<=5*n+7:=by
 have l1:=zt a;have l2:=zt b;have l3:=zt c;have l4:=zt d;have l5:=zt e;have m1:=qr a.v b.v;have m2:=qr c.v d.v;have m3:=zaK (a.v*b.v) (c.v*d.v);have m4:=zaK (a.v*b.v+c.v*d.v) e.v;omega
theorem zd9(t:AF)(x y:BR)(ht:t.le 5000000)(hx:x.len<=5000000)(hy:y.len<=5000000):
  ze Tryz.prog 44 [.agg (afE t),.agg (brE x),.agg (brE y)] [] (.tup [.agg (brE (ofQ (yY t x.v y.v))),.agg (brE (ofQ (yZ t x.v y.v)))]) []:=by
 obtain ⟨ha,hb,hc,hd,he,hf⟩:=ht;have m1:=kK t.a x t.c y t.e ha hx hc hy he;have m2:=kK t.b x t.d y t.f hb hx hd hy hf;refine zd tok mix Tryz.func44 rfl rfl rfl ?_;refine Dr.k ?_;refine zb.t (zdj t.a x t.c y oM oM oM oM) ?_;refine zb.t (zjb (ofQ (t.a.v*x.v+t.c.v*y.v)) t.e (by rw [zo];omega) oM) ?_;refine zb.t (zdj t.b x t.d y oM oM oM oM) ?_;refine zb.t (zjb (ofQ (t.b.v*x.v+t.d.v*y.v)) t.f (by rw [zo];omega) oM) ?_;rw [zN,zN];exact .refl
def afQ(a b c d e f:Rat):AF:=⟨ofQ a,ofQ b,ofQ c,ofQ d,ofQ e,ofQ f⟩
theorem zsH(a b c d:Int)(ha:R64 a)(hb:R64 b)(hc:R64 c)(hd:R64 d):ze Tryz.prog 116 [i64 a,i64 b,i64 c,i64 d] [] (.agg (afE (afQ a b c d ((0:Int):Rat) ((0:Int):Rat)))) []:=by
 refine zd tok mix Tryz.func116 rfl rfl rfl ?_;refine zb.t (qG a ha) ?_;refine zb.t (qG b hb) ?_;refine zb.t (qG c hc) ?_;refine zb.t (qG d hd) ?_;refine zb.t (qG 0 dC) ?_;refine zb.t (qG 0 dC) ?_;refine zb.t (zkB (afQ a b c d ((0:Int):Rat) ((0:Int):Rat))) ?_;exact .refl
theorem zkC:ze Tryz.prog 65 [] [] (.agg (afE (afQ ((1:Int):Rat) ((0:Int):Rat) ((0:Int):Rat) ((1:Int):Rat) ((0:Int):Rat) ((0:Int):Rat)))) []:=by
 refine zd tok mix Tryz.func65 rfl rfl rfl ?_;refine zb.t (zsH 1 0 0 1 dC dC dC dC) ?_;exact .refl
theorem z_cmp(a b:BI)(ha:a.mag.length<=800000000)(hb:b.mag.length<=800000000):ze Tryz.prog 147 [.agg (biE a),.agg (biE b)] [] (i64 (a.v - b.v).sign) []:=by
 refine zd tok mix Tryz.func147 rfl rfl rfl ?_;refine zb.t (zi9 a b ha hb) ?_;have h1:=ze4 a.v b.v;have h2:=yV a;have h3:=yV b;refine zb.t (zfa (ofZ (a.v - b.v)) (by rw [zB];omega)) ?_;rw [zJ];exact .refl
def zdk(x y:Rat):Int:=(x.num*y.den - y.num*x.den).sign
theorem zjc{z:Int}:0<=z.sign↔0<=z:=by
 rcases Int.lt_trichotomy z 0 with h | h | h
 ·rw [Int.sign_eq_neg_one_of_neg h];omega
 ·subst h;decide
 ·rw [Int.sign_eq_one_of_pos h];omega
theorem zhK{x y:Rat}:0<=zdk x y↔y<=x:=by
 rw [Rat.le_iff];unfold zdk;rw [zjc];omega
theorem zoB(x y:Rat):zdk y x= - zdk x y:=by
 unfold zdk;rw [show y.num*x.den - x.num*y.den= -(x.num*y.den - y.num*x.den) by omega,Int.sign_neg]
theorem zlG{x y:Rat}:zdk x y<=0↔x<=y:=by
 have:=zhK (x:=y) (y:=x);rw [zoB] at this;rw [← this];omega
theorem zcz(a b:BR)(ha:a.len<=100000000)(hb:b.len<=100000000):ze Tryz.prog 92 [.agg (brE a),.agg (brE b)] [] (i64 (zdk a.v b.v)) []:=by
 have h1:=zt a;have h2:=zt b;have n1:=kj a.v;have n2:=kj b.v;have d1:=ku a.v;have d2:=ku b.v;have m1:=zZ a.v.num b.v.den;have m2:=zZ b.v.num a.v.den;refine zd tok mix Tryz.func92 rfl rfl rfl ?_;refine zb.t (zhJ a b oM oM) ?_;refine zb.t (z_cmp (ofZ (a.v.num*b.v.den)) (ofZ (b.v.num*a.v.den)) (by rw [zB];omega) (by rw [zB];omega)) ?_;rw [zJ,zJ];exact .refl
theorem q_sub(a b:BR)(ha:a.len<=50000000)(hb:b.len<=50000000):ze Tryz.prog 144 [.agg (brE a),.agg (brE b)] [] (.agg (brE (ofQ (a.v - b.v)))) []:=by
 have h1:=zt a;have h2:=zt b;have n1:=kj a.v;have n2:=kj b.v;have d1:=ku a.v;have d2:=ku b.v;have m1:=zZ a.v.num b.v.den;have m2:=zZ b.v.num a.v.den;have m3:=zZ a.v.den b.v.den;have m4:=ze4 (a.v.num*b.v.den) (b.v.num*a.v.den);refine zd tok mix Tryz.func144 rfl rfl rfl ?_;refine zb.t (zhJ a b oM oM) ?_;refine Dr.k ?_;refine zb.t (zi9 (ofZ (a.v.num*b.v.den)) (ofZ (b.v.num*a.v.den)) (by rw [zB];omega) (by rw [zB];omega)) ?_;rw [zJ,zJ]
 refine zb.t (zcy (ofZ (a.v.num*b.v.den - b.v.num*a.v.den)) (ofZ (a.v.den*b.v.den)) (by rw [zB];omega) (by rw [zB];omega) (by rw [zJ];exact jU _ _)) ?_;rw [zJ,zJ,zoz];exact .refl
theorem yM(x:Rat):qA (-x)=qA x:=by
 unfold qA;rw [Rat.neg_num,Rat.neg_den,yJ]
theorem zjd(x y:Rat):qA (x - y)<=qA x+qA y+1:=by
 have:=zaK x (-y);rw [yM,← Rat.sub_eq_add_neg] at this;exact this
theorem zje(x y:Rat):Rat.divInt (x.num*y.den) (x.den*y.num)=x / y:=by
 have:=Rat.divInt_mul_divInt x.num (y.den:Int) (d₁:=x.den) (d₂:=y.num);rw [Rat.num_divInt_den,← Rat.inv_def] at this;exact this.symm
theorem q_quo(a b:BR)(ha:a.len<=50000000)(hb:b.len<=50000000)(h0:b.v≠0):ze Tryz.prog 91 [.agg (brE a),.agg (brE b)] [] (.tup [.agg (brE (ofQ (a.v / b.v))),i64 0]) []:=by
 have h1:=zt a;have h2:=zt b;have h3:=yL a.v;have h4:=yL b.v;have n1:=kj a.v;have n2:=kj b.v;have d1:=ku a.v;have d2:=ku b.v;have m1:=zZ a.v.num b.v.den;have m3:=zZ a.v.den b.v.num;refine zd tok mix Tryz.func91 rfl rfl rfl ?_;refine Dr.k ?_;refine zb.t (kv a oM) ?_;refine zb.t (kv b oM) ?_;refine Dr.k ?_;refine zb.t (zbI (ofQ a.v).num (ofQ b.v).den oM oM) ?_;refine zb.t (zbI (ofQ a.v).den (ofQ b.v).num oM oM) ?_;rw [qt,qt,qm,qm]
 refine zb.to _ (zoA (ofZ (a.v.num*b.v.den)) (ofZ (a.v.den*b.v.num)) (by rw [zB];omega) (by rw [zB];omega) (by
  rw [zJ];exact Int.mul_ne_zero (zaJ _) (fun h=>h0 (Rat.num_eq_zero.1 h)))) rfl ?_
 rw [zJ,zJ,zje];exact .refl
theorem zlH(a:BR)(ha:a.len<=100000000):ze Tryz.prog 93 [.agg (brE a)] [] (.agg (brE (ofQ (-a.v)))) []:=by
 have h1:=zt a;have h3:=yL a.v;refine zd tok mix Tryz.func93 rfl rfl rfl ?_;refine zb.t (kv a oM) ?_;refine Dr.k ?_;refine zb.t (zrV (ofQ a.v).num oM) ?_;rw [qt,show ofQ (-a.v)=⟨ofZ (-a.v.num),ofZ a.v.den⟩ by unfold ofQ;rw [Rat.neg_num,Rat.neg_den]];exact .refl
def AF.same(t u:AF):Prop:=t.a.v=u.a.v/\t.b.v=u.b.v/\t.c.v=u.c.v/\t.d.v=u.d.v/\t.e.v=u.e.v/\t.f.v=u.f.v
instance (t u:AF):Decidable (t.same u):=inferInstanceAs (Decidable (_/\_))
theorem kL{x y:Rat}:zdk x y=0↔x=y:=by
 constructor
 ·intro h;exact Rat.le_antisymm (zlG.1 oM) (zhK.1 oM)
 ·rintro rfl
  unfold zdk;rw [Int.sub_self];rfl
theorem AF.le_len{t:AF}{n:Nat}(h:t.le n):t.nrm.le (max n 1):=by
 obtain ⟨h1,h2,h3,h4,h5,h6⟩:=h;have l1:=zt t.a;have l2:=zt t.b;have l3:=zt t.c;have l4:=zt t.d;have l5:=zt t.e;have l6:=zt t.f;refine ⟨?_,?_,?_,?_,?_,?_⟩ <;> (show (ofQ _).len<=_;rw [zo];omega)
def zoC(t u:AF):Nat->Prop
 | 0=>True
 | k+1=>zoC t u k/\(t.nth k).v=(u.nth k).v
theorem zlI(t u:AF)(ht:t.le 10000000)(hu:u.le 10000000):ze Tryz.prog 345 [.agg (afE t),.agg (afE u)] [] (pr (t.same u)) []:=by
 refine zd tok mix Tryz.func345 rfl rfl rfl ?_;refine Dr.k ?_;obtain ⟨ha,hb,hc,hd,he,hf⟩:=ht;obtain ⟨ka,kb,kc,kd,ke,kf⟩:=hu;refine zb.t (zbo t ⟨oM,oM,oM,oM,oM,oM⟩) ?_;refine zb.t (zbo u ⟨oM,oM,oM,oM,oM,oM⟩) ?_;refine ⟨Nat,fun i=>⟨[(14,i64 i),(13,.agg (afE t.nrm)),(6,.loc 3 0)],[(3,.box 152 (afE u.nrm))],4,25,0⟩,fun i=>i<=6/\zoC t u i,fun i=>6 - i,0,⟨Nat.zero_le _,trivial⟩,?_,?_⟩
 ·exact zi [(3,some 3)]
 rintro i ⟨hi,ok⟩
 have hi:i=0∨i=1∨i=2∨i=3∨i=4∨i=5∨i=6:=oM;have l1:=zt t.a;have l2:=zt t.b;have l3:=zt t.c;have l4:=zt t.d;have l5:=zt t.e;have l6:=zt t.f;have j1:=zt u.a;have j2:=zt u.b;have j3:=zt u.c;have j4:=zt u.d;have j5:=zt u.e;have j6:=zt u.f
 rcases hi with rfl | rfl | rfl | rfl | rfl | rfl | rfl
 ·refine Br.y ?_;refine Dr.k ?_;refine zb.t (zcz (ofQ t.a.v) (ofQ u.a.v) (by rw [zo];omega) (by rw [zo];omega)) ?_;rw [zN,zN];refine Br.mk (fun h=>zc (fun h1=>h (kL.2 h1.1))) (fun h=>?_);have h:=kL.1 (Decidable.not_not.1 h);refine Ar.fit dC ?_;exact ⟨1,⟨(by show 1<=6;decide),ok,h⟩,zi [(3,some 3)],dC⟩
 ·refine Br.y ?_;refine Dr.k ?_;refine zb.t (zcz (ofQ t.b.v) (ofQ u.b.v) (by rw [zo];omega) (by rw [zo];omega)) ?_;rw [zN,zN];refine Br.mk (fun h=>zc (fun h1=>h (kL.2 h1.2.1))) (fun h=>?_);have h:=kL.1 (Decidable.not_not.1 h);refine Ar.fit dC ?_;exact ⟨2,⟨(by show 2<=6;decide),ok,h⟩,zi [(3,some 3)],dC⟩
 ·refine Br.y ?_;refine Dr.k ?_;refine zb.t (zcz (ofQ t.c.v) (ofQ u.c.v) (by rw [zo];omega) (by rw [zo];omega)) ?_;rw [zN,zN];refine Br.mk (fun h=>zc (fun h1=>h (kL.2 h1.2.2.1))) (fun h=>?_);have h:=kL.1 (Decidable.not_not.1 h);refine Ar.fit dC ?_;exact ⟨3,⟨(by show 3<=6;decide),ok,h⟩,zi [(3,some 3)],dC⟩
 ·refine Br.y ?_;refine Dr.k ?_;refine zb.t (zcz (ofQ t.d.v) (ofQ u.d.v) (by rw [zo];omega) (by rw [zo];omega)) ?_;rw [zN,zN];refine Br.mk (fun h=>zc (fun h1=>h (kL.2 h1.2.2.2.1))) (fun h=>?_);have h:=kL.1 (Decidable.not_not.1 h);refine Ar.fit dC ?_;exact ⟨4,⟨(by show 4<=6;decide),ok,h⟩,zi [(3,some 3)],dC⟩
 ·refine Br.y ?_;refine Dr.k ?_;refine zb.t (zcz (ofQ t.e.v) (ofQ u.e.v) (by rw [zo];omega) (by rw [zo];omega)) ?_;rw [zN,zN];refine Br.mk (fun h=>zc (fun h1=>h (kL.2 h1.2.2.2.2.1))) (fun h=>?_);have h:=kL.1 (Decidable.not_not.1 h);refine Ar.fit dC ?_;exact ⟨5,⟨(by show 5<=6;decide),ok,h⟩,zi [(3,some 3)],dC⟩
 ·refine Br.y ?_;refine Dr.k ?_;refine zb.t (zcz (ofQ t.f.v) (ofQ u.f.v) (by rw [zo];omega) (by rw [zo];omega)) ?_;rw [zN,zN];refine Br.mk (fun h=>zc (fun h1=>h (kL.2 h1.2.2.2.2.2))) (fun h=>?_);have h:=kL.1 (Decidable.not_not.1 h);refine Ar.fit dC ?_;exact ⟨6,⟨(by show 6<=6;decide),ok,h⟩,zi [(3,some 3)],dC⟩
 ·refine Br.mk (fun h=>absurd h dC) (fun _=>?_);obtain ⟨⟨⟨⟨⟨⟨_,o1⟩,o2⟩,o3⟩,o4⟩,o5⟩,o6⟩:=ok;exact zH ⟨o1,o2,o3,o4,o5,o6⟩
theorem ue{q:Rat}(h:vn q<=256):qA q<=8:=by
 have key:∀n:Nat,zX n<=256->(zj n).length<=8:=fun n hn=>qF (by
  have:=zaG n;have h2:2 ^ zX n<=2 ^ 256:=Nat.pow_le_pow_right dC hn;have h3:(4294967296:Nat) ^ 8=2 ^ 256:=dC
  rw [h3];omega)
 unfold vn at h;unfold qA ztz;have h1:=key q.num.natAbs oM;have h2:=key q.den oM;rw [Int.natAbs_natCast];omega
theorem ok_le{t:AF}(h:t.nrm.ok):t.nrm.le 8:=by
 obtain ⟨⟨⟨⟨⟨⟨_,o1⟩,o2⟩,o3⟩,o4⟩,o5⟩,o6⟩:=h;simp only [AF.nth,AF.nrm,zN] at o1 o2 o3 o4 o5 o6
 exact ⟨by show (ofQ _).len<=_;rw [zo];exact ue o1,by show (ofQ _).len<=_;rw [zo];exact ue o2,by show (ofQ _).len<=_;rw [zo];exact ue o3,
  by show (ofQ _).len<=_;rw [zo];exact ue o4,by show (ofQ _).len<=_;rw [zo];exact ue o5,by show (ofQ _).len<=_;rw [zo];exact ue o6⟩
def qH(t:AF):Rat:=t.a.v*t.d.v - t.b.v*t.c.v
theorem zdG(t:AF)(ht:t.le 10000000):ze Tryz.prog 89 [.agg (afE t)] [] (.agg (brE (ofQ (qH t)))) []:=by
 obtain ⟨ha,hb,hc,hd,he,hf⟩:=ht;have l1:=zt t.a;have l2:=zt t.b;have l3:=zt t.c;have l4:=zt t.d;have m1:=qr t.a.v t.d.v;have m2:=qr t.b.v t.c.v;refine zd tok mix Tryz.func89 rfl rfl rfl ?_;refine Dr.k ?_;refine zb.t (zlE t.a t.d oM oM) ?_;refine zb.t (zlE t.b t.c oM oM) ?_;refine zb.t (q_sub (ofQ (t.a.v*t.d.v)) (ofQ (t.b.v*t.c.v)) (by rw [zo];omega) (by rw [zo];omega)) ?_;rw [zN,zN];exact .refl
theorem zdH(t:AF)(ht:t.le 100000000):ze Tryz.prog 68 [.agg (afE t)] [] (.agg (afE t.nrm)) []:=by
 obtain ⟨ha,hb,hc,hd,he,hf⟩:=ht;refine zd tok mix Tryz.func68 rfl rfl rfl ?_;refine zb.t (zbo t ⟨oM,oM,oM,oM,oM,oM⟩) ?_;refine zb.t (zkB t.nrm) ?_;exact .refl
def beh(t u:AF):AF:=afQ (u.a.v*t.a.v+u.c.v*t.b.v) (u.b.v*t.a.v+u.d.v*t.b.v) (u.a.v*t.c.v+u.c.v*t.d.v) (u.b.v*t.c.v+u.d.v*t.d.v) (yY u t.e.v t.f.v) (yZ u t.e.v t.f.v)
theorem zoD(t u:AF)(ht:t.le 1000000)(hu:u.le 1000000):ze Tryz.prog 67 [.agg (afE t),.agg (afE u)] [] (.agg (afE (beh t u))) []:=by
 have ht':=ht;have hu':=hu;obtain ⟨ha,hb,hc,hd,he,hf⟩:=ht;obtain ⟨ka,kb,kc,kd,ke,kf⟩:=hu;refine zd tok mix Tryz.func67 rfl rfl rfl ?_;refine zb.t (zd9 u t.e t.f ⟨oM,oM,oM,oM,oM,oM⟩ oM oM) ?_;refine Dr.k ?_;refine zb.t (zdj u.a t.a u.c t.b oM oM oM oM) ?_;refine zb.t (zdj u.b t.a u.d t.b oM oM oM oM) ?_;refine zb.t (zdj u.a t.c u.c t.d oM oM oM oM) ?_;refine zb.t (zdj u.b t.c u.d t.d oM oM oM oM) ?_;refine zb.t (zkB (beh t u)) ?_;exact .refl
theorem zoE{t u:AF}{n:Nat}(ht:t.le n)(hu:u.le n):(beh t u).le (5*n+7):=by
 obtain ⟨ha,hb,hc,hd,he,hf⟩:=ht;obtain ⟨ka,kb,kc,kd,ke,kf⟩:=hu;have m1:=kK u.a t.a u.c t.b u.e ka ha kc hb ke;have m2:=kK u.b t.a u.d t.b u.e kb ha kd hb ke;have m3:=kK u.a t.c u.c t.d u.e ka hc kc hd ke;have m4:=kK u.b t.c u.d t.d u.e kb hc kd hd ke;have m5:=kK u.a t.e u.c t.f u.e ka he kc hf ke;have m6:=kK u.b t.e u.d t.f u.f kb he kd hf kf;refine ⟨?_,?_,?_,?_,?_,?_⟩ <;> (show (ofQ _).len<=_;rw [zo])
 ·omega
 ·omega
 ·omega
 ·omega
 ·exact m5.2
 ·exact m6.2
theorem zsI(a b:List Dig)(ha:a.length<=400000000)(hb:b.length<=400000000):
  ze Tryz.prog 152 [.sl dgE a,.sl dgE b] [] (.sl dgE (zj (Nat.gcd (val a) (val b)))) []:=by
 refine zd tok mix Tryz.func152 rfl rfl rfl ?_;refine zb.t (jE _ oM) ?_;refine zb.t (jE _ oM) ?_;have hla:=zw a;have hlb:=zw b
 refine ⟨Nat×Nat,fun ⟨A,B⟩=>⟨[(5,.sl dgE (zj A)),(6,.sl dgE (zj B))],[],0,27,0⟩,
  fun x=>(zj x.1).length<=400000000/\(zj x.2).length<=400000000/\Nat.gcd x.1 x.2=Nat.gcd (val a) (val b),fun x=>x.2,(val a,val b),?_,?_,?_⟩
 ·exact ⟨by dsimp only;omega,by dsimp only;omega,rfl⟩
 ·exact zi []
 rintro ⟨A,B⟩ ⟨h1,h2,h3⟩
 dsimp only at h1 h2 h3;intro hl;refine Br.mk (fun k=>?_) (fun k=>?_)
 ·have hB:B≠0:=k6.1 oM;refine zb.t (zgD (zj A) (zj B) oM oM (by rw [zk];exact hB)) ?_;rw [zk,zk];have hm:=Nat.mod_lt A (Nat.pos_of_ne_zero hB);refine ⟨(B,A % B),⟨h2,Nat.le_trans (kC (Nat.le_of_lt hm)) h2,?_⟩,zi [],hm⟩;dsimp only;rw [← h3,Nat.gcd_comm B,Nat.gcd_comm A B,Nat.gcd_rec B A]
 ·have hB:B=0:=qV.1 (List.length_eq_zero_iff.1 oM);subst hB;rw [Nat.gcd_zero_right] at h3;exact yb (by rw [h3])
theorem zqJ(m:List Dig)(hm:m.length<=1000000000):ze Tryz.prog 103 [bl false,.sl dgE m] [] (.agg (biE (ofZ (val m)))) []:=by
 have:=(uz False m hm).args (.cons (zc id) (.cons .refl .nil))
 rwa [if_neg id] at this
theorem zhL(a:BI)(hm:a.mag.length<=1000000000):ze Tryz.prog 151 [.agg (biE a)] [] (.agg (biE (ofZ (-a.v)))) []:=by
 refine zd tok mix Tryz.func151 rfl rfl rfl ?_;refine zb.t (uz (¬a.neg=true) a.mag hm) ?_
 have:(if ¬a.neg=true then -(val a.mag:Int) else (val a.mag:Int))= -a.v:=by
  rcases a.v_eq with ⟨h1,h2⟩ | ⟨h1,h2⟩ <;> simp [h1,h2]
 rw [this];exact .refl
theorem zkD(a b:BI)(ha:a.mag.length<=800000000)(hb:b.mag.length<=800000000):ze Tryz.prog 99 [.agg (biE a),.agg (biE b)] [] (.agg (biE (ofZ (a.v+b.v)))) []:=by
 refine zd tok mix Tryz.func99 rfl rfl rfl ?_;refine Br.mk (fun h=>?_) (fun h=>?_)
 ·refine Dr.k ?_;refine zb.t (zqz a.mag b.mag oM oM) ?_;have hl:=ze5 ha hb;refine zb.t (uz (a.neg=true) _ oM) ?_
  have:(if a.neg=true then -(val (zj (val a.mag+val b.mag)):Int) else (val (zj (val a.mag+val b.mag)):Int))=a.v+b.v:=by
   rw [zk]
   rcases a.v_eq with ⟨h1,h2⟩ | ⟨h1,h2⟩ <;> rcases b.v_eq with ⟨h3,h4⟩ | ⟨h3,h4⟩ <;> simp [h1,h3] at h <;> simp [h1,h2,h4] <;> omega
  rw [this];exact .refl
 ·refine zb.t (zhD a.mag b.mag oM oM) ?_;have hl:(zj (val a.mag - val b.mag)).length<=1000000000:=Nat.le_trans (kC (Nat.sub_le _ _)) (Nat.le_trans (zw _) oM);have hl2:(zj (val b.mag - val a.mag)).length<=1000000000:=Nat.le_trans (kC (Nat.sub_le _ _)) (Nat.le_trans (zw _) oM);refine Br.mk (fun h2=>?_) (fun h2=>?_)
  ·refine zb.t (uz (a.neg=true) _ hl) ?_
   have:(if a.neg=true then -(val (zj (val a.mag - val b.mag)):Int) else (val (zj (val a.mag - val b.mag)):Int))=a.v+b.v:=by
    rw [zk]
    rcases a.v_eq with ⟨h1,h2⟩ | ⟨h1,h2⟩ <;> rcases b.v_eq with ⟨h3,h4⟩ | ⟨h3,h4⟩ <;> simp [h1,h3] at h <;> simp [h1,h2,h4] <;> omega
   rw [this];exact .refl
  ·refine zb.t (zhD b.mag a.mag oM oM) ?_;refine zb.t (uz (b.neg=true) _ hl2) ?_
   have:(if b.neg=true then -(val (zj (val b.mag - val a.mag)):Int) else (val (zj (val b.mag - val a.mag)):Int))=a.v+b.v:=by
    rw [zk]
    rcases a.v_eq with ⟨h1,h2⟩ | ⟨h1,h2⟩ <;> rcases b.v_eq with ⟨h3,h4⟩ | ⟨h3,h4⟩ <;> simp [h1,h3] at h <;> simp [h3,h2,h4] <;> omega
   rw [this];exact .refl
theorem zoF(a b:BI)(ha:a.mag.length<=800000000)(hb:b.mag.length<=800000000):ze Tryz.prog 102 [.agg (biE a),.agg (biE b)] [] (.agg (biE (ofZ (a.v - b.v)))) []:=by
 refine zd tok mix Tryz.func102 rfl rfl rfl ?_;refine Dr.k ?_;refine zb.t (zhL b oM) ?_;have h1:=yV b;refine zb.t (zkD a (ofZ (-b.v)) oM (by rw [zB,yJ];omega)) ?_;rw [zJ,← Int.sub_eq_add_neg];exact .refl
theorem zgG(a:BI)(ha:a.mag.length<=900000000):ze Tryz.prog 172 [.agg (biE a)] [] (i64 (zX a.v.natAbs)) []:=by
 refine zd tok mix Tryz.func172 rfl rfl rfl ?_;refine zb.t (zgC a.mag ha) ?_;rw [BI.v_abs];exact .refl
theorem zsJ{A B:Nat}(hB:0 < B):(A % B=0-> -(A:Int) / B= -((A / B:Nat):Int)/\ -(A:Int) % B= -((A % B:Nat):Int))/\(A % B≠0-> -(A:Int) / B= -((A / B:Nat):Int) - 1/\ -(A:Int) % B= -((A % B:Nat):Int)+B):=by
 have hdm:=Nat.div_add_mod A B;have hm:=Nat.mod_lt A hB;generalize A / B=q at*;generalize A % B=r at*;have e:(B:Int)*(q:Int)=((B*q:Nat):Int):=(Int.natCast_mul _ _).symm;have hB':(0:Int) < B:=oM;refine ⟨fun h=>(Int.ediv_emod_unique hB').2 ⟨?_,oM,oM⟩,fun h=>(Int.ediv_emod_unique hB').2 ⟨?_,oM,oM⟩⟩
 ·rw [Int.mul_neg,e];omega
 ·rw [Int.mul_sub,Int.mul_neg,e,Int.mul_one];omega
theorem zbp(a b:BI)(ha:a.mag.length<=200000000)(hb:b.mag.length<=200000000)(h0:0 < b.v):
  ze Tryz.prog 142 [.agg (biE a),.agg (biE b)] [] (.tup [.agg (biE (ofZ (a.v / b.v))),.agg (biE (ofZ (a.v % b.v))),i64 0]) []:=by
 have hbv:b.neg=false/\b.v=(val b.mag:Int):=by
  rcases b.v_eq with ⟨h1,h2⟩ | h
  ·omega
  ·exact h
 have hB:0 < val b.mag:=oM;have q1:(zj (val a.mag / val b.mag)).length<=200000000:=Nat.le_trans (kC (Nat.div_le_self _ _)) (Nat.le_trans (zw _) ha);have r1:(zj (val a.mag % val b.mag)).length<=200000000:=Nat.le_trans (kC (Nat.mod_le _ _)) (Nat.le_trans (zw _) ha);have nb:¬b.neg=true:=by rw [hbv.1];decide
 refine zd tok mix Tryz.func142 rfl rfl rfl ?_;refine zb.t (zcw b oM) ?_;refine Br.mk (fun h=>absurd (Int.sign_eq_zero_iff_zero.1 h) oM) (fun _=>?_);refine zb.t (zgD a.mag b.mag oM oM oM) ?_;refine zb.t (uz (¬(a.neg=true↔b.neg=true)) _ oM) ?_;refine zb.t (uz (a.neg=true) _ oM) ?_;rw [zk,zk]
 rcases a.v_eq with ⟨h1,h2⟩ | ⟨h1,h2⟩
 ·have pa:¬(a.neg=true↔b.neg=true):=by rw [h1,hbv.1];decide
  rw [if_pos pa,if_pos h1];refine Br.mk (fun h3=>?_) (fun h3=>absurd pa h3);have nd:=zsJ (A:=val a.mag) hB;rw [← h2,← hbv.2] at nd;have k1:ztz (-((val a.mag / val b.mag:Nat):Int))<=200000000:=by rw [yJ];exact q1
  have k2:ztz (-((val a.mag % val b.mag:Nat):Int))<=200000000:=by rw [yJ];exact r1
  refine zb.t (zcw (ofZ (-((val a.mag % val b.mag:Nat):Int))) (by rw [zB];omega)) ?_;rw [zJ];refine Br.mk (fun h4=>?_) (fun h4=>?_)
  ·have hr:val a.mag % val b.mag≠0:=fun h=>h4 (by rw [h];rfl)
   refine Dr.k ?_;refine zb.t (zbX 1 dC) ?_;refine zb.t (zoF (ofZ (-((val a.mag / val b.mag:Nat):Int))) (ofZ 1) (by rw [zB];omega) (by decide +kernel)) ?_;refine zb.t (zkD (ofZ (-((val a.mag % val b.mag:Nat):Int))) b (by rw [zB];omega) oM) ?_;rw [zJ,zJ,zJ,(nd.2 hr).1,(nd.2 hr).2];exact .refl
  ·have hr:val a.mag % val b.mag=0:=by
    have:(-((val a.mag % val b.mag:Nat):Int))=0:=Int.sign_eq_zero_iff_zero.1 (Decidable.not_not.1 h4);omega
   refine Dr.d ?_;refine Ob.mk (by kernel_rfl) ?_;rw [← (nd.1 hr).1,← (nd.1 hr).2];exact .refl
 ·have pa:¬¬(a.neg=true↔b.neg=true):=by rw [h1,hbv.1];decide
  have na:¬a.neg=true:=by rw [h1];decide
  rw [if_neg pa,if_neg na];refine Br.mk (fun h3=>absurd h3 pa) (fun h3=>?_);refine Dr.d ?_;refine Ob.mk (by kernel_rfl) ?_;rw [h2,hbv.2,← Int.natCast_ediv,← Int.natCast_emod];exact .refl
theorem qg(n:Int)(hn:R64 n):ze Tryz.prog 22 [i64 n] [] (.agg (brE (ofQ (n:Rat)))) []:=by
 refine zd tok mix Tryz.func22 rfl rfl rfl ?_;refine zb.t (zbX n hn) ?_;refine zb.t (zbX 1 dC) ?_;have e:ofQ (n:Rat)=⟨ofZ n,ofZ 1⟩:=by unfold ofQ;rw [Rat.num_intCast,Rat.den_intCast];rfl
 rw [e];exact .refl
theorem zdl(n d:BI)(hn:n.mag.length<=200000000)(hd:d.mag.length<=200000000)(h0:d.v≠0):
  ze Tryz.prog 98 [.agg (biE n),.agg (biE d)] [] (.agg (brE (ofQ (Rat.divInt n.v d.v)))) []:=by
 refine zd tok mix Tryz.func98 rfl rfl rfl ?_;refine zb.t (zsI n.mag d.mag oM oM) ?_;have hdz:val d.mag≠0:=by rw [← d.v_abs];omega
 have hg0:0 < Nat.gcd (val n.mag) (val d.mag):=Nat.gcd_pos_of_pos_right _ oM
 have hgl:(zj (Nat.gcd (val n.mag) (val d.mag))).length<=200000000:=
  Nat.le_trans (kC (Nat.gcd_le_right _ oM)) (Nat.le_trans (zw _) hd)
 have hnum:=Rat.num_divInt n.v d.v;have hden:=Rat.den_divInt n.v d.v
 have hg:d.v.gcd n.v=Nat.gcd (val n.mag) (val d.mag):=by
  rw [← n.v_abs,← d.v_abs];exact Nat.gcd_comm _ _
 rw [hg] at hnum hden;rw [if_neg h0] at hden;have ln:=yV n;have ld:=yV d;generalize Nat.gcd (val n.mag) (val d.mag)=g at*;refine zb.t (zqJ (zj g) oM) ?_;rw [zk];have zg:ztz (g:Int)<=200000000:=hgl
 have fin:∀N D:Int,N=d.v.sign*n.v->D=(d.v.natAbs:Int)->ofQ (Rat.divInt n.v d.v)=⟨ofZ (N / (g:Int)),ofZ (D / (g:Int))⟩:=fun N D hN hD=>by
  unfold ofQ;rw [hnum,hden,hN,hD];rfl
 refine zb.t (zcw d oM) ?_;refine Br.mk (fun h=>?_) (fun h=>?_)
 ·have hneg:d.v < 0:=by
   rcases Int.lt_trichotomy d.v 0 with k | k | k
   ·exact k
   ·exact absurd k h0
   ·rw [Int.sign_eq_one_of_pos k] at h;omega
  refine zb.t (zhL n oM) ?_;refine zb.t (zhL d oM) ?_;refine zb.t (zbp (ofZ (-n.v)) (ofZ (g:Int)) (by rw [zB,yJ];omega) (by rw [zB];omega) (by rw [zJ];omega)) ?_;refine zb.t (zbp (ofZ (-d.v)) (ofZ (g:Int)) (by rw [zB,yJ];omega) (by rw [zB];omega) (by rw [zJ];omega)) ?_;rw [zJ,zJ,zJ,fin (-n.v) (-d.v) (by rw [Int.sign_eq_neg_one_of_neg hneg];omega) oM];exact .refl
 ·have hpos:0 < d.v:=by
   rcases Int.lt_trichotomy d.v 0 with k | k | k
   ·rw [Int.sign_eq_neg_one_of_neg k] at h;omega
   ·exact absurd k h0
   ·exact k
  refine zb.t (zbp n (ofZ (g:Int)) oM (by rw [zB];omega) (by rw [zJ];omega)) ?_;refine zb.t (zbp d (ofZ (g:Int)) oM (by rw [zB];omega) (by rw [zJ];omega)) ?_;rw [zJ,fin n.v d.v (by rw [Int.sign_eq_one_of_pos hpos];omega) oM];exact .refl
theorem zue(n d:BI)(hn:n.mag.length<=200000000)(hd:d.mag.length<=200000000)(h0:d.v≠0):
  ze Tryz.prog 141 [.agg (biE n),.agg (biE d)] [] (.tup [.agg (brE (ofQ (Rat.divInt n.v d.v))),i64 0]) []:=by
 refine zd tok mix Tryz.func141 rfl rfl rfl ?_;refine zb.t (zcw d oM) ?_;refine Br.mk (fun h=>absurd (Int.sign_eq_zero_iff_zero.1 h) h0) (fun _=>?_);refine zb.t (zdl n d hn hd h0) ?_;exact zS .refl .refl
theorem ztV(n d:Int)(hn:R64 n)(hd:R64 d)(h0:d≠0):ze Tryz.prog 85 [i64 n,i64 d] [] (.tup [.agg (brE (ofQ (Rat.divInt n d))),i64 0]) []:=by
 refine zd tok mix Tryz.func85 rfl rfl rfl ?_;have l1:=ye hn;have l2:=ye hd;refine zb.t (zbX n hn) ?_;refine zb.t (zbX d hd) ?_;refine zb.t (zue (ofZ n) (ofZ d) (by rw [zB];omega) (by rw [zB];omega) (by rw [zJ];exact h0)) ?_;rw [zJ,zJ];exact zS .refl .refl
theorem zU(a:BR)(ha:a.len<=200000000):ze Tryz.prog 51 [.agg (brE a)] [] (.agg (brE (ofQ a.v))) []:=by
 have h1:a.num.mag.length<=a.len:=Nat.le_max_left _ _;have h2:a.den.mag.length<=a.len:=Nat.le_max_right _ _;refine zd tok mix Tryz.func51 rfl rfl rfl ?_;refine zb.t (zcw a.den oM) ?_;refine Br.mk (fun h=>?_) (fun h=>?_)
 ·refine zb.t (qg 0 dC) ?_;have e:a.v=((0:Int):Rat):=by unfold BR.v;rw [Int.sign_eq_zero_iff_zero.1 h,Rat.divInt_zero];rfl
  rw [e];exact .refl
 ·refine zb.t (zdl a.num a.den oM oM (fun k=>h (by rw [k];rfl))) ?_;exact .refl
theorem zhM(a b:BR)(ha:a.len<=50000000)(hb:b.len<=50000000):ze Tryz.prog 49 [.agg (brE a),.agg (brE b)] [] (.agg (brE (ofQ (a.v+b.v)))) []:=by
 have h1:=zt a;have h2:=zt b;have h3:=yL a.v;have h4:=yL b.v;have n1:=kj a.v;have n2:=kj b.v;have d1:=ku a.v;have d2:=ku b.v;have m1:=zZ a.v.num b.v.den;have m2:=zZ b.v.num a.v.den;have m3:=zZ a.v.den b.v.den;have m4:=zcv (a.v.num*b.v.den) (b.v.num*a.v.den);refine zd tok mix Tryz.func49 rfl rfl rfl ?_;refine Dr.k ?_;refine zb.t (zU a oM) ?_;refine zb.t (zU b oM) ?_;refine Dr.k ?_;refine zb.t (zbY (ofQ a.v).num (ofQ b.v).den oM oM) ?_;refine zb.t (zbY (ofQ b.v).num (ofQ a.v).den oM oM) ?_;rw [qt,qt,qm,qm]
 refine zb.t (zkD (ofZ (a.v.num*b.v.den)) (ofZ (b.v.num*a.v.den)) (by rw [zB];omega) (by rw [zB];omega)) ?_;rw [zJ,zJ];refine zb.t (zbY (ofQ a.v).den (ofQ b.v).den oM oM) ?_;rw [qm,qm];refine zb.t (zdl (ofZ (a.v.num*b.v.den+b.v.num*a.v.den)) (ofZ (a.v.den*b.v.den)) (by rw [zB];omega) (by rw [zB];omega) (by rw [zJ];exact jU _ _)) ?_;rw [zJ,zJ,zfe];exact .refl
theorem zhN(a b:BR)(ha:a.len<=50000000)(hb:b.len<=50000000):ze Tryz.prog 100 [.agg (brE a),.agg (brE b)] [] (.agg (brE (ofQ (a.v*b.v)))) []:=by
 have h1:=zt a;have h2:=zt b;have h3:=yL a.v;have h4:=yL b.v;have n1:=kj a.v;have n2:=kj b.v;have d1:=ku a.v;have d2:=ku b.v;have m1:=zZ a.v.num b.v.num;have m3:=zZ a.v.den b.v.den;refine zd tok mix Tryz.func100 rfl rfl rfl ?_;refine Dr.k ?_;refine zb.t (zU a oM) ?_;refine zb.t (zU b oM) ?_;refine Dr.k ?_;refine zb.t (zbY (ofQ a.v).num (ofQ b.v).num oM oM) ?_;refine zb.t (zbY (ofQ a.v).den (ofQ b.v).den oM oM) ?_;rw [qt,qt,qm,qm]
 refine zb.t (zdl (ofZ (a.v.num*b.v.num)) (ofZ (a.v.den*b.v.den)) (by rw [zB];omega) (by rw [zB];omega) (by rw [zJ];exact jU _ _)) ?_;rw [zJ,zJ,zff];exact .refl
theorem ztW(a:BR)(ha:a.len<=100000000):ze Tryz.prog 87 [.agg (brE a)] [] (.agg (biE (ofZ a.v.floor))) []:=by
 have h1:=zt a;have h3:=yL a.v;have h0:=a.v.den_nz;refine zd tok mix Tryz.func87 rfl rfl rfl ?_;refine zb.t (zU a oM) ?_;refine zb.t (zbp (ofQ a.v).num (ofQ a.v).den oM oM (by rw [qm];omega)) ?_;rw [qt,qm,← Rat.floor_def];exact .refl
theorem zmM(a:BR)(ha:a.len<=100000000):ze Tryz.prog 121 [.agg (brE a)] [] (i64 (vn a.v)) []:=by
 have h1:=zt a;have h3:=yL a.v;refine zd tok mix Tryz.func121 rfl rfl rfl ?_;refine zb.t (zU a oM) ?_;refine Dr.k ?_;refine zb.t (zgG (ofQ a.v).num oM) ?_;refine zb.t (zgG (ofQ a.v).den oM) ?_;rw [qt,qm,Int.natAbs_natCast];refine zm ?_;unfold vn;simp only [zb9];omega
end Go.Gs
