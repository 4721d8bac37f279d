/- Rationals, the program's: arithmetic. -/
import Derived.Test.YtjgadnaphffpkaaGreatDoorNA
import Derived.Test.YtjgadnaphffpkaaGreatDoorNAJ
import Derived.Test.YtjgadnaphffpkaaGreatDoorNAH
import Derived.Test.YtjgadnaphffpkaaGreatDoorNAI
set_option maxRecDepth 100000
set_option maxHeartbeats 8000000
set_option linter.all false
namespace Go.Gs
open Go.Proofs
theorem zwZ(n d:BI)(hn:n.mag.length<=400000000)(hd:d.mag.length<=400000000)(h0:d.v≠0):
  CG0 151 [.agg (biE n),.agg (biE d)] [] (.tup [.agg (brE (ofQ (Rat.divInt n.v d.v))),i64 0]) []:=by
 refine zc Tryz.func151 ?_;refine zb.t (zjR d oM)<|⟨λh=>absurd (KP.1 h) h0,λ_=>?_⟩;exact zb.t (zgb n d hn hd h0)<|zI .refl .refl
theorem zB3(n d:BI)(hd:d.mag.length<=400000000)(h0:d.v=0):
  CG0 151 [.agg (biE n),.agg (biE d)] [] (.tup [.agg [bl false,.sl dgE [],bl false,.sl dgE []],i64 9]) []:=by
 refine zc Tryz.func151 ?_;refine zb.t (zjR d oM) ?_;rw[h0];refine⟨λ_=>?_,λh=>absurd rfl h⟩;exact zI (qF (.cons .refl (.cons zD (.cons .refl (.cons zD .nil))))) .refl
theorem yy(n:Int)(hn:R64 n):CG0 91 [i64 n] [] (.agg (brE (ofQ (n:Rat)))) []:=by
 refine zc Tryz.func91 ?_;refine zb.t (zep n hn)<|zb.t (zep 1 dC) ?_;have e:ofQ (n:Rat)=⟨ofZ n,ofZ 1⟩:=by unfold ofQ;rw[JC,JB];rfl
 rw[e];exact .refl
theorem zrF(n d:Int)(hn:R64 n)(hd:R64 d)(h0:d≠0):CG0 95 [i64 n,i64 d] [] (.tup [.agg (brE (ofQ (Rat.divInt n d))),i64 0]) []:=by
 refine zc Tryz.func95 ?_;have l1:=qT hn;have l2:=qT hd;refine zb.t (zep n hn)<|zb.t (zep d hd)<|zb.t (zwZ (ofZ n) (ofZ d) (by rw[zT];omega) (by rw[zT];omega) (by rw[zW];exact h0)) ?_;rw[zW,zW];exact zI .refl .refl
theorem qq(a:BR)(ha:a.len<=400000000):CG0 150 [.agg (brE a)] [] (.agg (brE (ofQ a.v))) []:=by
 have h1:a.num.mag.length<=a.len:=Q4 _ _;have h2:a.den.mag.length<=a.len:=QQ _ _;refine zc Tryz.func150 ?_
 by_cases h:a.den.v=0
 ·refine zb.t (zB3 a.num a.den oM h)<|Br.y<|zb.t (yy 0 dC) ?_;have e:a.v=((0:Int):Rat):=by unfold BR.v;rw[h,Yd];rfl
  rw[e];exact .refl
 ·refine zb.t (zwZ a.num a.den oM oM h)<|⟨λh=>absurd rfl h,λ_=>?_⟩;exact .refl
theorem vH(q:Rat):(ofQ q).num.mag.length<=ya q/\(ofQ q).den.mag.length<=ya q:=⟨qb q,qp q⟩
theorem jY(q:Rat):(ofQ q).num.v=q.num:=zW _
theorem jv(q:Rat):(ofQ q).den.v=q.den:=zW _
theorem zny(a b:BR)(ha:a.len<=100000000)(hb:b.len<=100000000):CG0 153 [.agg (brE a),.agg (brE b)] []
  (.tup [.agg (biE (ofZ (a.v.num*b.v.den))),.agg (biE (ofZ (b.v.num*a.v.den))),.agg (biE (ofZ (a.v.den*b.v.den)))]) []:=by
 have h1:=zH a;have h2:=zH b;have h3:=vH a.v;have h4:=vH b.v;refine zc Tryz.func153 ?_;refine Dr.k<|zb.t (qq a oM)<|zb.t (qq b oM)<|Dr.k<|zb.t (zeX (ofQ a.v).num (ofQ b.v).den oM oM)<|zb.t (zeX (ofQ b.v).num (ofQ a.v).den oM oM) ?_;refine zb.t (zeX (ofQ a.v).den (ofQ b.v).den oM oM) ?_;rw[jY,jY,jv,jv];exact .refl
theorem zpq(a b:BR)(ha:a.len<=50000000)(hb:b.len<=50000000):CG0 93 [.agg (brE a),.agg (brE b)] [] (.agg (brE (ofQ (a.v+b.v)))) []:=by
 have h1:=zH a;have h2:=zH b;have n1:=qb a.v;have n2:=qb b.v;have d1:=qp a.v;have d2:=qp b.v;have m1:=kO a.v.num b.v.den;have m2:=kO b.v.num a.v.den;have m3:=kO a.v.den b.v.den;have m4:=zf9 (a.v.num*b.v.den) (b.v.num*a.v.den);refine zc Tryz.func93 ?_;refine zb.t (zny a b oM oM)<|Dr.k<|zb.t (zBf (ofZ (a.v.num*b.v.den)) (ofZ (b.v.num*a.v.den)) (by rw[zT];omega) (by rw[zT];omega)) ?_;rw[zW,zW]
 refine zb.t (zgb (ofZ (a.v.num*b.v.den+b.v.num*a.v.den)) (ofZ (a.v.den*b.v.den)) (by rw[zT];omega) (by rw[zT];omega) (by rw[zW];exact u5 _ _)) ?_;rw[zW,zW,zjV];exact .refl
theorem zs1(a b:BR)(ha:a.len<=50000000)(hb:b.len<=50000000):CG0 149 [.agg (brE a),.agg (brE b)] [] (.agg (brE (ofQ (a.v*b.v)))) []:=by
 have h1:=zH a;have h2:=zH b;have h3:=vH a.v;have h4:=vH b.v;have n1:=qb a.v;have n2:=qb b.v;have d1:=qp a.v;have d2:=qp b.v;have m1:=kO a.v.num b.v.num;have m3:=kO a.v.den b.v.den;refine zc Tryz.func149 ?_;refine Dr.k<|zb.t (qq a oM)<|zb.t (qq b oM)<|Dr.k<|zb.t (zeX (ofQ a.v).num (ofQ b.v).num oM oM)<|zb.t (zeX (ofQ a.v).den (ofQ b.v).den oM oM) ?_;rw[jY,jY,jv,jv];refine zb.t (zgb (ofZ (a.v.num*b.v.num)) (ofZ (a.v.den*b.v.den)) (by rw[zT];omega) (by rw[zT];omega) (by rw[zW];exact u5 _ _)) ?_
 rw[zW,zW,zjW];exact .refl
theorem zs2(a:BR)(ha:a.len<=100000000):CG0 97 [.agg (brE a)] [] (.agg (biE (ofZ a.v.floor))) []:=by
 have h1:=zH a;have h3:=vH a.v;have h0:=a.v.den_nz;refine zc Tryz.func97 ?_;refine zb.t (qq a oM)<|zb.t (zwX (ofQ a.v).num (ofQ a.v).den oM oM (by rw[jv];omega)) ?_;rw[jY,jv,← JZ];exact .refl
def zb0(q:Rat):Nat:=max (kN q.num.natAbs) (kN q.den)
theorem zb1(a:BR)(ha:a.len<=100000000):CG0 146 [.agg (brE a)] [] (i64 (zb0 a.v)) []:=by
 have h1:=zH a;have h3:=vH a.v;refine zc Tryz.func146 ?_;refine zb.t (qq a oM)<|Dr.k<|zb.t (zpp (ofQ a.v).num oM)<|zb.t (zpp (ofQ a.v).den oM) ?_;rw[jY,jv,QC];refine zj ?_;unfold zb0;simp only[zc7];omega
structure AF where
 a:BR
 b:BR
 c:BR
 d:BR
 e:BR
 f:BR
def afE(t:AF):List SV:=brE t.a++(brE t.b++(brE t.c++(brE t.d++(brE t.e++brE t.f))))
def AF.le(t:AF)(n:Nat):Prop:=t.a.len<=n/\t.b.len<=n/\t.c.len<=n/\t.d.len<=n/\t.e.len<=n/\t.f.len<=n
def AF.nth(t:AF):Nat->BR
 | 0=>t.a
 | 1=>t.b
 | 2=>t.c
 | 3=>t.d
 | 4=>t.e
 | _=>t.f
def stage(t:AF):Nat->AF
 | 0=>t
 | 1=>{ t with a:=ofQ t.a.v }
 | 2=>{ t with a:=ofQ t.a.v,b:=ofQ t.b.v }
 | 3=>{ t with a:=ofQ t.a.v,b:=ofQ t.b.v,c:=ofQ t.c.v }
 | 4=>{ t with a:=ofQ t.a.v,b:=ofQ t.b.v,c:=ofQ t.c.v,d:=ofQ t.d.v }
 | 5=>{ t with a:=ofQ t.a.v,b:=ofQ t.b.v,c:=ofQ t.c.v,d:=ofQ t.d.v,e:=ofQ t.e.v }
 | _=>⟨ofQ t.a.v,ofQ t.b.v,ofQ t.c.v,ofQ t.d.v,ofQ t.e.v,ofQ t.f.v⟩
def AF.nrm(t:AF):AF:=⟨ofQ t.a.v,ofQ t.b.v,ofQ t.c.v,ofQ t.d.v,ofQ t.e.v,ofQ t.f.v⟩
def yX:List SV:=(List.replicate 12 [bl false,SV.val (.slice none 0 0)]).flatten
theorem zeq(t:AF)(ht:t.le 400000000):CG0 145 [.agg (afE t)] [] (.agg (afE t.nrm)) []:=by
 obtain⟨ha,hb,hc,hd,he,hf⟩:=ht;refine zc Tryz.func145 ?_
 refine⟨Nat,λi=>⟨[(20,i64 i),(19,.agg (afE t)),(3,.loc 2 0),(2,.loc 1 0)],[(2,.box 183 (afE (stage t i))),(1,.box 183 yX),(0,.box 45 (afE t))],3,30,0⟩,
  λi=>i<=6,λi=>6 - i,0,Xe _,?_,?_⟩
 ·exact zf [0,1,2]
 intro i hi;have hi:i=0∨i=1∨i=2∨i=3∨i=4∨i=5∨i=6:=by have hi:i<=6:=hi;omega
 rcases hi with rfl | rfl | rfl | rfl | rfl | rfl | rfl
 ·exact Br.y<|zb.t (qq t.a ha)<|Ar.fit dC<|⟨1,(by show 1<=6;decide),zf [0,1,2],dC⟩
 ·exact Br.y<|zb.t (qq t.b hb)<|Ar.fit dC<|⟨2,(by show 2<=6;decide),zf [0,1,2],dC⟩
 ·exact Br.y<|zb.t (qq t.c hc)<|Ar.fit dC<|⟨3,(by show 3<=6;decide),zf [0,1,2],dC⟩
 ·exact Br.y<|zb.t (qq t.d hd)<|Ar.fit dC<|⟨4,(by show 4<=6;decide),zf [0,1,2],dC⟩
 ·exact Br.y<|zb.t (qq t.e he)<|Ar.fit dC<|⟨5,(by show 5<=6;decide),zf [0,1,2],dC⟩
 ·exact Br.y<|zb.t (qq t.f hf)<|Ar.fit dC<|⟨6,(by show 6<=6;decide),zf [0,1,2],dC⟩
 ·refine⟨λh=>absurd h dC,λ_=>?_⟩;exact .refl
theorem zrG(t:AF):CG0 147 [.agg (afE t)] [] (.agg (afE t)) []:=by
 refine zc Tryz.func147 ?_;exact zfa.own<|.refl
def okI(t:AF):Nat->Prop
 | 0=>True
 | k+1=>okI t k/\zb0 (t.nth k).v<=256
def AF.ok(t:AF):Prop:=okI t 6
instance (t:AF):∀n,Decidable (okI t n):=λn=>by
 induction n with
 | zero=>exact isTrue trivial
 | succ k ih=>unfold okI;exact instDecidableAnd
instance (t:AF):Decidable t.ok:=inferInstanceAs (Decidable (okI t 6))
theorem zcD(t:AF)(ht:t.le 100000000):CG0 84 [.agg (afE t)] [] (pr t.ok) []:=by
 have ht':=ht;obtain⟨ha,hb,hc,hd,he,hf⟩:=ht;refine zc Tryz.func84 ?_;refine zb.t (zeq t ⟨oM,oM,oM,oM,oM,oM⟩)<|⟨Nat,λi=>⟨[(6,.agg (afE t.nrm)),(7,i64 i)],[],1,14,0⟩,λi=>i<=6/\okI t i,λi=>6 - i,0,⟨Xe _,trivial⟩,?_,?_⟩
 ·exact zE []
 rintro i ⟨hi,ok⟩
 have hi:i=0∨i=1∨i=2∨i=3∨i=4∨i=5∨i=6:=oM
 rcases hi with rfl | rfl | rfl | rfl | rfl | rfl | rfl
 ·refine Br.y ?_;have l1:=zH t.a;refine zb.t (zb1 (ofQ t.a.v) (by rw[zB];omega)) ?_;rw[z6];refine⟨λh=>zd (λh'=>?_),λh=>?_⟩
  ·simp only[AF.ok,okI,AF.nth]at h';omega
  exact Ar.fit dC<|⟨1,⟨(by show 1<=6;decide),ok,(by show zb0 t.a.v<=256;omega)⟩,zE [],dC⟩
 ·refine Br.y ?_;have l1:=zH t.b;refine zb.t (zb1 (ofQ t.b.v) (by rw[zB];omega)) ?_;rw[z6];refine⟨λh=>zd (λh'=>?_),λh=>?_⟩
  ·simp only[AF.ok,okI,AF.nth]at h';omega
  exact Ar.fit dC<|⟨2,⟨(by show 2<=6;decide),ok,(by show zb0 t.b.v<=256;omega)⟩,zE [],dC⟩
 ·refine Br.y ?_;have l1:=zH t.c;refine zb.t (zb1 (ofQ t.c.v) (by rw[zB];omega)) ?_;rw[z6];refine⟨λh=>zd (λh'=>?_),λh=>?_⟩
  ·simp only[AF.ok,okI,AF.nth]at h';omega
  exact Ar.fit dC<|⟨3,⟨(by show 3<=6;decide),ok,(by show zb0 t.c.v<=256;omega)⟩,zE [],dC⟩
 ·refine Br.y ?_;have l1:=zH t.d;refine zb.t (zb1 (ofQ t.d.v) (by rw[zB];omega)) ?_;rw[z6];refine⟨λh=>zd (λh'=>?_),λh=>?_⟩
  ·simp only[AF.ok,okI,AF.nth]at h';omega
  exact Ar.fit dC<|⟨4,⟨(by show 4<=6;decide),ok,(by show zb0 t.d.v<=256;omega)⟩,zE [],dC⟩
 ·refine Br.y ?_;have l1:=zH t.e;refine zb.t (zb1 (ofQ t.e.v) (by rw[zB];omega)) ?_;rw[z6];refine⟨λh=>zd (λh'=>?_),λh=>?_⟩
  ·simp only[AF.ok,okI,AF.nth]at h';omega
  exact Ar.fit dC<|⟨5,⟨(by show 5<=6;decide),ok,(by show zb0 t.e.v<=256;omega)⟩,zE [],dC⟩
 ·refine Br.y ?_;have l1:=zH t.f;refine zb.t (zb1 (ofQ t.f.v) (by rw[zB];omega)) ?_;rw[z6];refine⟨λh=>zd (λh'=>?_),λh=>?_⟩
  ·simp only[AF.ok,okI,AF.nth]at h';omega
  exact Ar.fit dC<|⟨6,⟨(by show 6<=6;decide),ok,(by show zb0 t.f.v<=256;omega)⟩,zE [],dC⟩
 ·refine⟨λh=>absurd h dC,λ_=>?_⟩;exact zR ok
theorem zhh(a b c d:BR)(ha:a.len<=10000000)(hb:b.len<=10000000)(hc:c.len<=10000000)(hd:d.len<=10000000):
  CG0 94 [.agg (brE a),.agg (brE b),.agg (brE c),.agg (brE d)] [] (.agg (brE (ofQ (a.v*b.v+c.v*d.v)))) []:=by
 have l1:=zH a;have l2:=zH b;have l3:=zH c;have l4:=zH d;have m1:=yj a.v b.v;have m2:=yj c.v d.v;refine zc Tryz.func94 ?_;refine Dr.k<|zb.t (zs1 a b oM oM)<|zb.t (zs1 c d oM oM)<|zb.t (zpq (ofQ (a.v*b.v)) (ofQ (c.v*d.v)) (by rw[zB];omega) (by rw[zB];omega)) ?_;rw[z6,z6];exact .refl
def y5(t:AF)(x y:Rat):Rat:=t.a.v*x+t.c.v*y+t.e.v
def y6(t:AF)(x y:Rat):Rat:=t.b.v*x+t.d.v*y+t.f.v
theorem qk(a b c d e:BR){n:Nat}(h1:a.len<=n)(h2:b.len<=n)(h3:c.len<=n)(h4:d.len<=n)(h5:e.len<=n):ya (a.v*b.v+c.v*d.v)<=4*n+5/\ya (a.v*b.v+c.v*d.v+e.v)<=5*n+7:=by
 have l1:=zH a;have l2:=zH b;have l3:=zH c;have l4:=zH d;have l5:=zH e;have m1:=yj a.v b.v;have m2:=yj c.v d.v;have m3:=za9 (a.v*b.v) (c.v*d.v);have m4:=za9 (a.v*b.v+c.v*d.v) e.v;omega
theorem ziI(t:AF)(x y:BR)(ht:t.le 5000000)(hx:x.len<=5000000)(hy:y.len<=5000000):
  CG0 44 [.agg (afE t),.agg (brE x),.agg (brE y)] [] (.tup [.agg (brE (ofQ (y5 t x.v y.v))),.agg (brE (ofQ (y6 t x.v y.v)))]) []:=by
 obtain⟨ha,hb,hc,hd,he,hf⟩:=ht;have m1:=qk t.a x t.c y t.e ha hx hc hy he;have m2:=qk t.b x t.d y t.f hb hx hd hy hf;refine zc Tryz.func44 ?_;refine Dr.k<|zb.t (zhh t.a x t.c y oM oM oM oM)<|zb.t (zpq (ofQ (t.a.v*x.v+t.c.v*y.v)) t.e (by rw[zB];omega) oM)<|zb.t (zhh t.b x t.d y oM oM oM oM)<|zb.t (zpq (ofQ (t.b.v*x.v+t.d.v*y.v)) t.f (by rw[zB];omega) oM) ?_;rw[z6,z6];exact .refl
def afQ(a b c d e f:Rat):AF:=⟨ofQ a,ofQ b,ofQ c,ofQ d,ofQ e,ofQ f⟩
theorem zB4(a b c d:Int)(ha:R64 a)(hb:R64 b)(hc:R64 c)(hd:R64 d):CG0 144 [i64 a,i64 b,i64 c,i64 d] [] (.agg (afE (afQ a b c d ((0:Int):Rat) ((0:Int):Rat)))) []:=by
 refine zc Tryz.func144 ?_;refine zb.t (yy a ha)<|zb.t (yy b hb)<|zb.t (yy c hc)<|zb.t (yy d hd)<|zb.t (yy 0 dC)<|zb.t (yy 0 dC) ?_;exact zb.t (zrG (afQ a b c d ((0:Int):Rat) ((0:Int):Rat)))<|.refl
theorem zrH:CG0 83 [] [] (.agg (afE (afQ ((1:Int):Rat) ((0:Int):Rat) ((0:Int):Rat) ((1:Int):Rat) ((0:Int):Rat) ((0:Int):Rat)))) []:=by
 refine zc Tryz.func83 ?_;exact zb.t (zB4 1 0 0 1 dC dC dC dC)<|.refl
theorem z_cmp(a b:BI)(ha:a.mag.length<=800000000)(hb:b.mag.length<=800000000):CG0 154 [.agg (biE a),.agg (biE b)] [] (i64 (a.v - b.v).sign) []:=by
 refine zc Tryz.func154 ?_;refine zb.t (zpo a b ha hb) ?_;have h1:=zjK a.v b.v;have h2:=zau a;have h3:=zau b;refine zb.t (zjR (ofZ (a.v - b.v)) (by rw[zT];omega)) ?_;rw[zW];exact .refl
def zhi(x y:Rat):Int:=(x.num*y.den - y.num*x.den).sign
theorem zpr{z:Int}:0<=z.sign↔0<=z:=by
 rcases K2 z 0 with h | h | h
 ·rw[Kd h];omega
 ·subst h;decide
 ·rw[Km h];omega
theorem znz{x y:Rat}:0<=zhi x y↔y<=x:=by
 rw[Rat.le_iff];unfold zhi;rw[zpr];omega
theorem zw0(x y:Rat):zhi y x= - zhi x y:=by
 unfold zhi;rw[show y.num*x.den - x.num*y.den= -(x.num*y.den - y.num*x.den) by omega,Int.sign_neg]
theorem zs3{x y:Rat}:zhi x y<=0↔x<=y:=by
 have:=znz (x:=y) (y:=x);rw[zw0]at this;rw[← this];omega
theorem zgc(a b:BR)(ha:a.len<=100000000)(hb:b.len<=100000000):CG0 90 [.agg (brE a),.agg (brE b)] [] (i64 (zhi a.v b.v)) []:=by
 have h1:=zH a;have h2:=zH b;have n1:=qb a.v;have n2:=qb b.v;have d1:=qp a.v;have d2:=qp b.v;have m1:=kO a.v.num b.v.den;have m2:=kO b.v.num a.v.den;refine zc Tryz.func90 ?_;refine zb.t (zny a b oM oM)<|zb.t (z_cmp (ofZ (a.v.num*b.v.den)) (ofZ (b.v.num*a.v.den)) (by rw[zT];omega) (by rw[zT];omega)) ?_;rw[zW,zW];exact .refl
theorem q_sub(a b:BR)(ha:a.len<=50000000)(hb:b.len<=50000000):CG0 148 [.agg (brE a),.agg (brE b)] [] (.agg (brE (ofQ (a.v - b.v)))) []:=by
 have h1:=zH a;have h2:=zH b;have n1:=qb a.v;have n2:=qb b.v;have d1:=qp a.v;have d2:=qp b.v;have m1:=kO a.v.num b.v.den;have m2:=kO b.v.num a.v.den;have m3:=kO a.v.den b.v.den;have m4:=zjK (a.v.num*b.v.den) (b.v.num*a.v.den);refine zc Tryz.func148 ?_;refine zb.t (zny a b oM oM)<|Dr.k<|zb.t (zpo (ofZ (a.v.num*b.v.den)) (ofZ (b.v.num*a.v.den)) (by rw[zT];omega) (by rw[zT];omega)) ?_;rw[zW,zW]
 refine zb.t (zgb (ofZ (a.v.num*b.v.den - b.v.num*a.v.den)) (ofZ (a.v.den*b.v.den)) (by rw[zT];omega) (by rw[zT];omega) (by rw[zW];exact u5 _ _)) ?_;rw[zW,zW,zwY];exact .refl
theorem zah(x:Rat):ya (-x)=ya x:=by
 unfold ya;rw[Rat.neg_num,Rat.neg_den,zaf]
theorem zps(x y:Rat):ya (x - y)<=ya x+ya y+1:=by
 have:=za9 x (-y);rw[zah,← JP]at this;exact this
theorem zpt(x y:Rat):Rat.divInt (x.num*y.den) (x.den*y.num)=x / y:=by
 have:=Yp x.num (y.den:Int) (d₁:=x.den) (d₂:=y.num);rw[KY,← Rat.inv_def]at this;exact this.symm
theorem q_quo(a b:BR)(ha:a.len<=50000000)(hb:b.len<=50000000)(h0:b.v≠0):CG0 89 [.agg (brE a),.agg (brE b)] [] (.tup [.agg (brE (ofQ (a.v / b.v))),i64 0]) []:=by
 have h1:=zH a;have h2:=zH b;have h3:=vH a.v;have h4:=vH b.v;have n1:=qb a.v;have n2:=qb b.v;have d1:=qp a.v;have d2:=qp b.v;have m1:=kO a.v.num b.v.den;have m3:=kO a.v.den b.v.num;refine zc Tryz.func89 ?_;refine Dr.k<|zb.t (qq a oM)<|zb.t (qq b oM)<|Dr.k<|zb.t (zeX (ofQ a.v).num (ofQ b.v).den oM oM)<|zb.t (zeX (ofQ a.v).den (ofQ b.v).num oM oM) ?_;rw[jY,jY,jv,jv]
 refine zb.to _ (zwZ (ofZ (a.v.num*b.v.den)) (ofZ (a.v.den*b.v.num)) (by rw[zT];omega) (by rw[zT];omega) (by
  rw[zW];exact Ya (zdF _) (λh=>h0 (Rat.num_eq_zero.1 h)))) rfl ?_
 rw[zW,zW,zpt];exact .refl
theorem zs4(a:BR)(ha:a.len<=100000000):CG0 92 [.agg (brE a)] [] (.agg (brE (ofQ (-a.v)))) []:=by
 have h1:=zH a;have h3:=vH a.v;refine zc Tryz.func92 ?_;refine zb.t (qq a oM)<|Dr.k<|zb.t (zBe (ofQ a.v).num oM) ?_;rw[jY,show ofQ (-a.v)=⟨ofZ (-a.v.num),ofZ a.v.den⟩ by unfold ofQ;rw[Rat.neg_num,Rat.neg_den]];exact .refl
def AF.same(t u:AF):Prop:=t.a.v=u.a.v/\t.b.v=u.b.v/\t.c.v=u.c.v/\t.d.v=u.d.v/\t.e.v=u.e.v/\t.f.v=u.f.v
instance (t u:AF):Decidable (t.same u):=inferInstanceAs (Decidable (_/\_))
theorem q9{x y:Rat}:zhi x y=0↔x=y:=by
 constructor
 ·intro h;exact Rat.le_antisymm (zs3.1 oM) (znz.1 oM)
 ·rintro rfl
  unfold zhi;rw[Int.sub_self];rfl
theorem AF.le_len{t:AF}{n:Nat}(h:t.le n):t.nrm.le (max n 1):=by
 obtain⟨h1,h2,h3,h4,h5,h6⟩:=h;have l1:=zH t.a;have l2:=zH t.b;have l3:=zH t.c;have l4:=zH t.d;have l5:=zH t.e;have l6:=zH t.f;refine⟨?_,?_,?_,?_,?_,?_⟩ <;> (show(ofQ _).len<=_;rw[zB];omega)
def zw1(t u:AF):Nat->Prop
 | 0=>True
 | k+1=>zw1 t u k/\(t.nth k).v=(u.nth k).v
theorem zs5(t u:AF)(ht:t.le 10000000)(hu:u.le 10000000):CG0 399 [.agg (afE t),.agg (afE u)] [] (pr (t.same u)) []:=by
 refine zc Tryz.func399 ?_;refine Dr.k ?_;obtain⟨ha,hb,hc,hd,he,hf⟩:=ht;obtain⟨ka,kb,kc,kd,ke,kf⟩:=hu;refine zb.t (zeq t ⟨oM,oM,oM,oM,oM,oM⟩)<|zb.t (zeq u ⟨oM,oM,oM,oM,oM,oM⟩)<|⟨Nat,λi=>⟨[(14,i64 i),(13,.agg (afE t.nrm)),(6,.loc 3 0)],[(3,.box 183 (afE u.nrm))],4,25,0⟩,λi=>i<=6/\zw1 t u i,λi=>6 - i,0,⟨Xe _,trivial⟩,?_,?_⟩
 ·exact zE [(3,some 3)]
 rintro i ⟨hi,ok⟩
 have hi:i=0∨i=1∨i=2∨i=3∨i=4∨i=5∨i=6:=oM;have l1:=zH t.a;have l2:=zH t.b;have l3:=zH t.c;have l4:=zH t.d;have l5:=zH t.e;have l6:=zH t.f;have j1:=zH u.a;have j2:=zH u.b;have j3:=zH u.c;have j4:=zH u.d;have j5:=zH u.e;have j6:=zH u.f
 rcases hi with rfl | rfl | rfl | rfl | rfl | rfl | rfl
 ·refine Br.y<|Dr.k<|zb.t (zgc (ofQ t.a.v) (ofQ u.a.v) (by rw[zB];omega) (by rw[zB];omega)) ?_;rw[z6,z6];refine⟨λh=>zd (λh1=>h (q9.2 h1.1)),λh=>?_⟩;have h:=q9.1 (Xa.1 h);exact Ar.fit dC<|⟨1,⟨(by show 1<=6;decide),ok,h⟩,zE [(3,some 3)],dC⟩
 ·refine Br.y<|Dr.k<|zb.t (zgc (ofQ t.b.v) (ofQ u.b.v) (by rw[zB];omega) (by rw[zB];omega)) ?_;rw[z6,z6];refine⟨λh=>zd (λh1=>h (q9.2 h1.2.1)),λh=>?_⟩;have h:=q9.1 (Xa.1 h);exact Ar.fit dC<|⟨2,⟨(by show 2<=6;decide),ok,h⟩,zE [(3,some 3)],dC⟩
 ·refine Br.y<|Dr.k<|zb.t (zgc (ofQ t.c.v) (ofQ u.c.v) (by rw[zB];omega) (by rw[zB];omega)) ?_;rw[z6,z6];refine⟨λh=>zd (λh1=>h (q9.2 h1.2.2.1)),λh=>?_⟩;have h:=q9.1 (Xa.1 h);exact Ar.fit dC<|⟨3,⟨(by show 3<=6;decide),ok,h⟩,zE [(3,some 3)],dC⟩
 ·refine Br.y<|Dr.k<|zb.t (zgc (ofQ t.d.v) (ofQ u.d.v) (by rw[zB];omega) (by rw[zB];omega)) ?_;rw[z6,z6];refine⟨λh=>zd (λh1=>h (q9.2 h1.2.2.2.1)),λh=>?_⟩;have h:=q9.1 (Xa.1 h);exact Ar.fit dC<|⟨4,⟨(by show 4<=6;decide),ok,h⟩,zE [(3,some 3)],dC⟩
 ·refine Br.y<|Dr.k<|zb.t (zgc (ofQ t.e.v) (ofQ u.e.v) (by rw[zB];omega) (by rw[zB];omega)) ?_;rw[z6,z6];refine⟨λh=>zd (λh1=>h (q9.2 h1.2.2.2.2.1)),λh=>?_⟩;have h:=q9.1 (Xa.1 h);exact Ar.fit dC<|⟨5,⟨(by show 5<=6;decide),ok,h⟩,zE [(3,some 3)],dC⟩
 ·refine Br.y<|Dr.k<|zb.t (zgc (ofQ t.f.v) (ofQ u.f.v) (by rw[zB];omega) (by rw[zB];omega)) ?_;rw[z6,z6];refine⟨λh=>zd (λh1=>h (q9.2 h1.2.2.2.2.2)),λh=>?_⟩;have h:=q9.1 (Xa.1 h);exact Ar.fit dC<|⟨6,⟨(by show 6<=6;decide),ok,h⟩,zE [(3,some 3)],dC⟩
 ·refine⟨λh=>absurd h dC,λ_=>?_⟩;obtain⟨⟨⟨⟨⟨⟨_,o1⟩,o2⟩,o3⟩,o4⟩,o5⟩,o6⟩:=ok;exact zR ⟨o1,o2,o3,o4,o5,o6⟩
theorem zaO{q:Rat}(h:zb0 q<=256):ya q<=8:=by
 have key:∀n:Nat,kN n<=256->(zm n).length<=8:=λn hn=>jS (by
  have:=zdB n;have h2:2 ^ kN n<=2 ^ 256:=XI dC hn;have h3:(4294967296:Nat) ^ 8=2 ^ 256:=dC
  rw[h3];omega)
 unfold zb0 at h;unfold ya js;have h1:=key q.num.natAbs oM;have h2:=key q.den oM;rw[QC];omega
theorem ok_le{t:AF}(h:t.nrm.ok):t.nrm.le 8:=by
 obtain⟨⟨⟨⟨⟨⟨_,o1⟩,o2⟩,o3⟩,o4⟩,o5⟩,o6⟩:=h;simp only[AF.nth,AF.nrm,z6]at o1 o2 o3 o4 o5 o6
 exact⟨by show(ofQ _).len<=_;rw[zB];exact zaO o1,by show(ofQ _).len<=_;rw[zB];exact zaO o2,by show(ofQ _).len<=_;rw[zB];exact zaO o3,
  by show(ofQ _).len<=_;rw[zB];exact zaO o4,by show(ofQ _).len<=_;rw[zB];exact zaO o5,by show(ofQ _).len<=_;rw[zB];exact zaO o6⟩
def yz(t:AF):Rat:=t.a.v*t.d.v - t.b.v*t.c.v
theorem zh4(t:AF)(ht:t.le 10000000):CG0 87 [.agg (afE t)] [] (.agg (brE (ofQ (yz t)))) []:=by
 obtain⟨ha,hb,hc,hd,he,hf⟩:=ht;have l1:=zH t.a;have l2:=zH t.b;have l3:=zH t.c;have l4:=zH t.d;have m1:=yj t.a.v t.d.v;have m2:=yj t.b.v t.c.v;refine zc Tryz.func87 ?_;refine Dr.k<|zb.t (zs1 t.a t.d oM oM)<|zb.t (zs1 t.b t.c oM oM)<|zb.t (q_sub (ofQ (t.a.v*t.d.v)) (ofQ (t.b.v*t.c.v)) (by rw[zB];omega) (by rw[zB];omega)) ?_;rw[z6,z6];exact .refl
theorem zh5(t:AF)(ht:t.le 100000000):CG0 86 [.agg (afE t)] [] (.agg (afE t.nrm)) []:=by
 obtain⟨ha,hb,hc,hd,he,hf⟩:=ht;refine zc Tryz.func86 ?_;exact zb.t (zeq t ⟨oM,oM,oM,oM,oM,oM⟩)<|zb.t (zrG t.nrm)<|.refl
def beh(t u:AF):AF:=afQ (u.a.v*t.a.v+u.c.v*t.b.v) (u.b.v*t.a.v+u.d.v*t.b.v) (u.a.v*t.c.v+u.c.v*t.d.v) (u.b.v*t.c.v+u.d.v*t.d.v) (y5 u t.e.v t.f.v) (y6 u t.e.v t.f.v)
theorem zw2(t u:AF)(ht:t.le 1000000)(hu:u.le 1000000):CG0 85 [.agg (afE t),.agg (afE u)] [] (.agg (afE (beh t u))) []:=by
 have ht':=ht;have hu':=hu;obtain⟨ha,hb,hc,hd,he,hf⟩:=ht;obtain⟨ka,kb,kc,kd,ke,kf⟩:=hu;refine zc Tryz.func85 ?_;refine zb.t (ziI u t.e t.f ⟨oM,oM,oM,oM,oM,oM⟩ oM oM)<|Dr.k<|zb.t (zhh u.a t.a u.c t.b oM oM oM oM)<|zb.t (zhh u.b t.a u.d t.b oM oM oM oM)<|zb.t (zhh u.a t.c u.c t.d oM oM oM oM)<|zb.t (zhh u.b t.c u.d t.d oM oM oM oM) ?_;exact zb.t (zrG (beh t u))<|.refl
theorem zw3{t u:AF}{n:Nat}(ht:t.le n)(hu:u.le n):(beh t u).le (5*n+7):=by
 obtain⟨ha,hb,hc,hd,he,hf⟩:=ht;obtain⟨ka,kb,kc,kd,ke,kf⟩:=hu;have m1:=qk u.a t.a u.c t.b u.e ka ha kc hb ke;have m2:=qk u.b t.a u.d t.b u.e kb ha kd hb ke;have m3:=qk u.a t.c u.c t.d u.e ka hc kc hd ke;have m4:=qk u.b t.c u.d t.d u.e kb hc kd hd ke;have m5:=qk u.a t.e u.c t.f u.e ka he kc hf ke;have m6:=qk u.b t.e u.d t.f u.f kb he kd hf kf;refine⟨?_,?_,?_,?_,?_,?_⟩ <;> (show(ofQ _).len<=_;rw[zB])
 ·omega
 ·omega
 ·omega
 ·omega
 ·exact m5.2
 ·exact m6.2
theorem zB5(a b:List Dig)(ha:a.length<=400000000)(hb:b.length<=400000000):
  CG0 161 [.sl dgE a,.sl dgE b] [] (.sl dgE (zm (Nat.gcd (val a) (val b)))) []:=by
 refine zc Tryz.func161 ?_;refine zb.t (uP _ oM)<|zb.t (uP _ oM) ?_;have hla:=zJ a;have hlb:=zJ b
 refine⟨Nat×Nat,λ⟨A,B⟩=>⟨[(5,.sl dgE (zm A)),(6,.sl dgE (zm B))],[],0,27,0⟩,
  λx=>(zm x.1).length<=400000000/\(zm x.2).length<=400000000/\Nat.gcd x.1 x.2=Nat.gcd (val a) (val b),λx=>x.2,(val a,val b),?_,?_,?_⟩
 ·exact⟨by dsimp only;omega,by dsimp only;omega,rfl⟩
 ·exact zE []
 rintro⟨A,B⟩ ⟨h1,h2,h3⟩
 dsimp only at h1 h2 h3;intro hl;refine⟨λk=>?_,λk=>?_⟩
 ·have hB:B≠0:=jG.1 oM;refine zb.t (zhd (zm A) (zm B) oM oM (by rw[zr];exact hB)) ?_;rw[zr,zr];have hm:=Kn A (X5 hB);refine⟨(B,A % B),⟨h2,XB (qx (Yy hm)) h2,?_⟩,zE [],hm⟩;dsimp only;rw[← h3,QP B,QP A B,Nat.gcd_rec B A]
 ·have hB:B=0:=yM.1 (XJ.1 oM);subst hB;rw[Nat.gcd_zero_right]at h3;exact z9 (by rw[h3])
theorem zzF(m:List Dig)(hm:m.length<=1000000000):CG0 101 [bl false,.sl dgE m] [] (.agg (biE (ofZ (val m)))) []:=by
 have:=(zav False m hm).args (.cons (zd id) (.cons .refl .nil))
 rwa [if_neg id]at this
theorem znA(a:BI)(hm:a.mag.length<=1000000000):CG0 162 [.agg (biE a)] [] (.agg (biE (ofZ (-a.v)))) []:=by
 refine zc Tryz.func162 ?_;refine zb.t (zav (¬a.neg=true) a.mag hm) ?_
 have:(if ¬a.neg=true then -(val a.mag:Int) else(val a.mag:Int))= -a.v:=by
  rcases a.v_eq with⟨h1,h2⟩ | ⟨h1,h2⟩ <;> simp[h1,h2]
 rw[this];exact .refl
theorem zrI(a b:BI)(ha:a.mag.length<=800000000)(hb:b.mag.length<=800000000):CG0 164 [.agg (biE a),.agg (biE b)] [] (.agg (biE (ofZ (a.v+b.v)))) []:=by
 refine zc Tryz.func164 ?_;refine⟨λh=>?_,λh=>?_⟩
 ·refine Dr.k<|zb.t (ziF a.mag b.mag oM oM) ?_;have hl:=zbZ ha hb;refine zb.t (zav (a.neg=true) _ oM) ?_
  have:(if a.neg=true then -(val (zm (val a.mag+val b.mag)):Int) else(val (zm (val a.mag+val b.mag)):Int))=a.v+b.v:=by
   rw[zr]
   rcases a.v_eq with⟨h1,h2⟩ | ⟨h1,h2⟩ <;> rcases b.v_eq with⟨h3,h4⟩ | ⟨h3,h4⟩ <;> simp[h1,h3]at h <;> simp[h1,h2,h4] <;> omega
  rw[this];exact .refl
 ·refine zb.t (zns a.mag b.mag oM oM) ?_;have hl:(zm (val a.mag - val b.mag)).length<=1000000000:=XB (qx (Yw _ _)) (XB (zJ _) oM);have hl2:(zm (val b.mag - val a.mag)).length<=1000000000:=XB (qx (Yw _ _)) (XB (zJ _) oM);refine⟨λh2=>?_,λh2=>?_⟩
  ·refine zb.t (zav (a.neg=true) _ hl) ?_
   have:(if a.neg=true then -(val (zm (val a.mag - val b.mag)):Int) else(val (zm (val a.mag - val b.mag)):Int))=a.v+b.v:=by
    rw[zr]
    rcases a.v_eq with⟨h1,h2⟩ | ⟨h1,h2⟩ <;> rcases b.v_eq with⟨h3,h4⟩ | ⟨h3,h4⟩ <;> simp[h1,h3]at h <;> simp[h1,h2,h4] <;> omega
   rw[this];exact .refl
  ·refine zb.t (zns b.mag a.mag oM oM)<|zb.t (zav (b.neg=true) _ hl2) ?_
   have:(if b.neg=true then -(val (zm (val b.mag - val a.mag)):Int) else(val (zm (val b.mag - val a.mag)):Int))=a.v+b.v:=by
    rw[zr]
    rcases a.v_eq with⟨h1,h2⟩ | ⟨h1,h2⟩ <;> rcases b.v_eq with⟨h3,h4⟩ | ⟨h3,h4⟩ <;> simp[h1,h3]at h <;> simp[h3,h2,h4] <;> omega
   rw[this];exact .refl
theorem zw4(a b:BI)(ha:a.mag.length<=800000000)(hb:b.mag.length<=800000000):CG0 100 [.agg (biE a),.agg (biE b)] [] (.agg (biE (ofZ (a.v - b.v)))) []:=by
 refine zc Tryz.func100 ?_;refine Dr.k<|zb.t (znA b oM) ?_;have h1:=zau b;refine zb.t (zrI a (ofZ (-b.v)) oM (by rw[zT,zaf];omega)) ?_;rw[zW,← Q6];exact .refl
theorem zlY(a:BI)(ha:a.mag.length<=900000000):CG0 234 [.agg (biE a)] [] (i64 (kN a.v.natAbs)) []:=by
 refine zc Tryz.func234 ?_;refine zb.t (zlV a.mag ha) ?_;rw[BI.v_abs];exact .refl
theorem zB6{A B:Nat}(hB:0 < B):(A % B=0-> -(A:Int) / B= -((A / B:Nat):Int)/\ -(A:Int) % B= -((A % B:Nat):Int))/\(A % B≠0-> -(A:Int) / B= -((A / B:Nat):Int) - 1/\ -(A:Int) % B= -((A % B:Nat):Int)+B):=by
 have hdm:=X3 A B;have hm:=Kn A hB;generalize A / B=q at*;generalize A % B=r at*;have e:(B:Int)*(q:Int)=((B*q:Nat):Int):=(XZ _ _).symm;have hB':(0:Int) < B:=oM;refine⟨λh=>(Qa hB').2 ⟨?_,oM,oM⟩,λh=>(Qa hB').2 ⟨?_,oM,oM⟩⟩
 ·rw[QJ,e];omega
 ·rw[Int.mul_sub,QJ,e,Int.mul_one];omega
theorem zb2(a b:BI)(ha:a.mag.length<=200000000)(hb:b.mag.length<=200000000)(h0:0 < b.v):
  CG0 163 [.agg (biE a),.agg (biE b)] [] (.tup [.agg (biE (ofZ (a.v / b.v))),.agg (biE (ofZ (a.v % b.v))),i64 0]) []:=by
 have hbv:b.neg=false/\b.v=(val b.mag:Int):=by
  rcases b.v_eq with⟨h1,h2⟩ | h
  ·omega
  ·exact h
 have hB:0 < val b.mag:=oM;have q1:(zm (val a.mag / val b.mag)).length<=200000000:=XB (qx (KV _ _)) (XB (zJ _) ha);have r1:(zm (val a.mag % val b.mag)).length<=200000000:=XB (qx (Nat.mod_le _ _)) (XB (zJ _) ha);have nb:¬b.neg=true:=by rw[hbv.1];decide
 refine zc Tryz.func163 ?_;refine zb.t (zcB b oM)<|⟨λh=>absurd (KP.1 h) oM,λ_=>?_⟩;refine zb.t (zhd a.mag b.mag oM oM oM)<|zb.t (zav (¬(a.neg=true↔b.neg=true)) _ oM)<|zb.t (zav (a.neg=true) _ oM) ?_;rw[zr,zr]
 rcases a.v_eq with⟨h1,h2⟩ | ⟨h1,h2⟩
 ·have pa:¬(a.neg=true↔b.neg=true):=by rw[h1,hbv.1];decide
  rw[if_pos pa,if_pos h1];refine⟨λh3=>?_,λh3=>absurd pa h3⟩;have nd:=zB6 (A:=val a.mag) hB;rw[← h2,← hbv.2]at nd;have k1:js (-((val a.mag / val b.mag:Nat):Int))<=200000000:=by rw[zaf];exact q1
  have k2:js (-((val a.mag % val b.mag:Nat):Int))<=200000000:=by rw[zaf];exact r1
  refine zb.t (zcB (ofZ (-((val a.mag % val b.mag:Nat):Int))) (by rw[zT];omega)) ?_;rw[zW];refine⟨λh4=>?_,λh4=>?_⟩
  ·have hr:val a.mag % val b.mag≠0:=λh=>h4 (by rw[h];rfl)
   refine Dr.k<|zb.t (jT 1 dC)<|zb.t (zw4 (ofZ (-((val a.mag / val b.mag:Nat):Int))) (ofZ 1) (by rw[zT];omega) (by decide +kernel))<|zb.t (zrI (ofZ (-((val a.mag % val b.mag:Nat):Int))) b (by rw[zT];omega) oM) ?_;rw[zW,zW,zW,(nd.2 hr).1,(nd.2 hr).2];exact .refl
  ·have hr:val a.mag % val b.mag=0:=by
    have:(-((val a.mag % val b.mag:Nat):Int))=0:=KP.1 (Xa.1 h4);omega
   refine Dr.d<|Ob.mk (by kernel_rfl) ?_;rw[← (nd.1 hr).1,← (nd.1 hr).2];exact .refl
 ·have pa:¬¬(a.neg=true↔b.neg=true):=by rw[h1,hbv.1];decide
  have na:¬a.neg=true:=by rw[h1];decide
  rw[if_neg pa,if_neg na];refine⟨λh3=>absurd h3 pa,λh3=>?_⟩;refine Dr.d<|Ob.mk (by kernel_rfl) ?_;rw[h2,hbv.2,← J0,← Jo];exact .refl
theorem jm(n:Int)(hn:R64 n):CG0 23 [i64 n] [] (.agg (brE (ofQ (n:Rat)))) []:=by
 refine zc Tryz.func23 ?_;refine zb.t (jT n hn)<|zb.t (jT 1 dC) ?_;have e:ofQ (n:Rat)=⟨ofZ n,ofZ 1⟩:=by unfold ofQ;rw[JC,JB];rfl
 rw[e];exact .refl
theorem zer(n d:BI)(hn:n.mag.length<=200000000)(hd:d.mag.length<=200000000)(h0:d.v≠0):
  CG0 99 [.agg (biE n),.agg (biE d)] [] (.agg (brE (ofQ (Rat.divInt n.v d.v)))) []:=by
 refine zc Tryz.func99 ?_;refine zb.t (zB5 n.mag d.mag oM oM) ?_;have hdz:val d.mag≠0:=by rw[← d.v_abs];omega
 have hg0:0 < Nat.gcd (val n.mag) (val d.mag):=Q3 _ oM
 have hgl:(zm (Nat.gcd (val n.mag) (val d.mag))).length<=200000000:=
  XB (qx (Nat.gcd_le_right _ oM)) (XB (zJ _) hd)
 have hnum:=Rat.num_divInt n.v d.v;have hden:=Rat.den_divInt n.v d.v
 have hg:d.v.gcd n.v=Nat.gcd (val n.mag) (val d.mag):=by
  rw[← n.v_abs,← d.v_abs];exact QP _ _
 rw[hg]at hnum hden;rw[if_neg h0]at hden;have ln:=zau n;have ld:=zau d;generalize Nat.gcd (val n.mag) (val d.mag)=g at*;refine zb.t (zzF (zm g) oM) ?_;rw[zr];have zg:js (g:Int)<=200000000:=hgl
 have fin:∀N D:Int,N=d.v.sign*n.v->D=(d.v.natAbs:Int)->ofQ (Rat.divInt n.v d.v)=⟨ofZ (N / (g:Int)),ofZ (D / (g:Int))⟩:=λN D hN hD=>by
  unfold ofQ;rw[hnum,hden,hN,hD];rfl
 refine zb.t (zcB d oM)<|⟨λh=>?_,λh=>?_⟩
 ·have hneg:d.v < 0:=by
   rcases K2 d.v 0 with k | k | k
   ·exact k
   ·exact absurd k h0
   ·rw[Km k]at h;omega
  refine zb.t (znA n oM)<|zb.t (znA d oM)<|zb.t (zb2 (ofZ (-n.v)) (ofZ (g:Int)) (by rw[zT,zaf];omega) (by rw[zT];omega) (by rw[zW];omega))<|zb.t (zb2 (ofZ (-d.v)) (ofZ (g:Int)) (by rw[zT,zaf];omega) (by rw[zT];omega) (by rw[zW];omega)) ?_;rw[zW,zW,zW,fin (-n.v) (-d.v) (by rw[Kd hneg];omega) oM];exact .refl
 ·have hpos:0 < d.v:=by
   rcases K2 d.v 0 with k | k | k
   ·rw[Kd k]at h;omega
   ·exact absurd k h0
   ·exact k
  refine zb.t (zb2 n (ofZ (g:Int)) oM (by rw[zT];omega) (by rw[zW];omega))<|zb.t (zb2 d (ofZ (g:Int)) oM (by rw[zT];omega) (by rw[zW];omega)) ?_;rw[zW,fin n.v d.v (by rw[Km hpos];omega) oM];exact .refl
theorem zB7(n d:BI)(hn:n.mag.length<=200000000)(hd:d.mag.length<=200000000)(h0:d.v≠0):
  CG0 237 [.agg (biE n),.agg (biE d)] [] (.tup [.agg (brE (ofQ (Rat.divInt n.v d.v))),i64 0]) []:=by
 refine zc Tryz.func237 ?_;refine zb.t (zcB d oM)<|⟨λh=>absurd (KP.1 h) h0,λ_=>?_⟩;exact zb.t (zer n d hn hd h0)<|zI .refl .refl
theorem zpu(n d:Int)(hn:R64 n)(hd:R64 d)(h0:d≠0):CG0 179 [i64 n,i64 d] [] (.tup [.agg (brE (ofQ (Rat.divInt n d))),i64 0]) []:=by
 refine zc Tryz.func179 ?_;have l1:=qT hn;have l2:=qT hd;refine zb.t (jT n hn)<|zb.t (jT d hd)<|zb.t (zB7 (ofZ n) (ofZ d) (by rw[zT];omega) (by rw[zT];omega) (by rw[zW];exact h0)) ?_;rw[zW,zW];exact zI .refl .refl
theorem kz(a:BR)(ha:a.len<=200000000):CG0 47 [.agg (brE a)] [] (.agg (brE (ofQ a.v))) []:=by
 have h1:a.num.mag.length<=a.len:=Q4 _ _;have h2:a.den.mag.length<=a.len:=QQ _ _;refine zc Tryz.func47 ?_;refine zb.t (zcB a.den oM)<|⟨λh=>?_,λh=>?_⟩
 ·refine zb.t (jm 0 dC) ?_;have e:a.v=((0:Int):Rat):=by unfold BR.v;rw[KP.1 h,Yd];rfl
  rw[e];exact .refl
 ·exact zb.t (zer a.num a.den oM oM (λk=>h (by rw[k];rfl)))<|.refl
theorem zdH(a b:BR)(ha:a.len<=50000000)(hb:b.len<=50000000):CG0 176 [.agg (brE a),.agg (brE b)] [] (.agg (brE (ofQ (a.v+b.v)))) []:=by
 have h1:=zH a;have h2:=zH b;have h3:=vH a.v;have h4:=vH b.v;have n1:=qb a.v;have n2:=qb b.v;have d1:=qp a.v;have d2:=qp b.v;have m1:=kO a.v.num b.v.den;have m2:=kO b.v.num a.v.den;have m3:=kO a.v.den b.v.den;have m4:=zf9 (a.v.num*b.v.den) (b.v.num*a.v.den);refine zc Tryz.func176 ?_;refine Dr.k<|zb.t (kz a oM)<|zb.t (kz b oM)<|Dr.k<|zb.t (zcC (ofQ a.v).num (ofQ b.v).den oM oM)<|zb.t (zcC (ofQ b.v).num (ofQ a.v).den oM oM) ?_;rw[jY,jY,jv,jv]
 refine zb.t (zrI (ofZ (a.v.num*b.v.den)) (ofZ (b.v.num*a.v.den)) (by rw[zT];omega) (by rw[zT];omega)) ?_;rw[zW,zW];refine zb.t (zcC (ofQ a.v).den (ofQ b.v).den oM oM) ?_;rw[jv,jv];refine zb.t (zer (ofZ (a.v.num*b.v.den+b.v.num*a.v.den)) (ofZ (a.v.den*b.v.den)) (by rw[zT];omega) (by rw[zT];omega) (by rw[zW];exact u5 _ _)) ?_;rw[zW,zW,zjV];exact .refl
theorem znB(a b:BR)(ha:a.len<=50000000)(hb:b.len<=50000000):CG0 235 [.agg (brE a),.agg (brE b)] [] (.agg (brE (ofQ (a.v*b.v)))) []:=by
 have h1:=zH a;have h2:=zH b;have h3:=vH a.v;have h4:=vH b.v;have n1:=qb a.v;have n2:=qb b.v;have d1:=qp a.v;have d2:=qp b.v;have m1:=kO a.v.num b.v.num;have m3:=kO a.v.den b.v.den;refine zc Tryz.func235 ?_;refine Dr.k<|zb.t (kz a oM)<|zb.t (kz b oM)<|Dr.k<|zb.t (zcC (ofQ a.v).num (ofQ b.v).num oM oM)<|zb.t (zcC (ofQ a.v).den (ofQ b.v).den oM oM) ?_;rw[jY,jY,jv,jv];refine zb.t (zer (ofZ (a.v.num*b.v.num)) (ofZ (a.v.den*b.v.den)) (by rw[zT];omega) (by rw[zT];omega) (by rw[zW];exact u5 _ _)) ?_
 rw[zW,zW,zjW];exact .refl
theorem zpv(a:BR)(ha:a.len<=100000000):CG0 181 [.agg (brE a)] [] (.agg (biE (ofZ a.v.floor))) []:=by
 have h1:=zH a;have h3:=vH a.v;have h0:=a.v.den_nz;refine zc Tryz.func181 ?_;refine zb.t (kz a oM)<|zb.t (zb2 (ofQ a.v).num (ofQ a.v).den oM oM (by rw[jv];omega)) ?_;rw[jY,jv,← JZ];exact .refl
theorem zuG(a:BR)(ha:a.len<=100000000):CG0 174 [.agg (brE a)] [] (i64 (zb0 a.v)) []:=by
 have h1:=zH a;have h3:=vH a.v;refine zc Tryz.func174 ?_;refine zb.t (kz a oM)<|Dr.k<|zb.t (zlY (ofQ a.v).num oM)<|zb.t (zlY (ofQ a.v).den oM) ?_;rw[jY,jv,QC];refine zj ?_;unfold zb0;simp only[zc7];omega
def zaB(t:AF):List BR:=[t.a,t.b,t.c,t.d,t.e,t.f]
theorem zw5{t:AF}{i:Nat}{x:BR}(h:(zaB t)[i]? =some x):x=t.nth i:=by
 have:i < 6:=(Xc.1 h).1;have e:i=0∨i=1∨i=2∨i=3∨i=4∨i=5:=oM
 rcases e with rfl | rfl | rfl | rfl | rfl | rfl <;> (cases h;rfl)
theorem zw6{t:AF}{n:Nat}(h:t.le n):∀i,(t.nth i).len<=n:=λi=>by
 obtain⟨h1,h2,h3,h4,h5,h6⟩:=h;unfold AF.nth;split <;> assumption
theorem zhj(t:AF):CG0 104 [.agg (afE t)] [] (.sl brE (zaB t)) []:=by
 refine zc Tryz.func104 ?_;refine⟨BR,brE,zaB t,rfl,Ob.o0 ?_⟩;exact .refl
theorem zb3(t:AF)(ht:t.le 100000000):CG0 112 [.agg (afE t)] [] (pr t.ok) []:=by
 refine zc Tryz.func112 ?_;refine zb.t (zhj t)<|⟨Nat,λi=>⟨[(4,i64 i),(3,.sl brE (zaB t))],[],1,19,0⟩,λi=>i<=6/\okI t i,λi=>6 - i,0,⟨Xe _,trivial⟩,?_,?_⟩
 ·exact zE []
 rintro i ⟨h1,h2⟩
 intro hl;have hl6:(zaB t).length=6:=rfl;refine⟨λh3=>?_,λh3=>?_⟩
 ·refine Ob.o4 ?_;intro x hx;have hx:(zaB t)[i]? =some x:=hx;have hx:=zw5 hx;subst hx;refine zb.t (zuG (t.nth i) (zw6 ht i))<|⟨λh4=>?_,λh4=>?_⟩
  ·refine zd λh=>?_
   have e:i=0∨i=1∨i=2∨i=3∨i=4∨i=5:=oM;simp only[AF.ok,okI]at h
   rcases e with rfl | rfl | rfl | rfl | rfl | rfl <;> omega
  ·exact Ar.o<|⟨i+1,⟨oM,h2,oM⟩,zE [],by dsimp only;omega⟩
 ·have:i=6:=by omega
  subst this;exact zR h2
theorem zbA(a b c d:BR)(ha:a.len<=10000000)(hb:b.len<=10000000)(hc:c.len<=10000000)(hd:d.len<=10000000):
  CG0 175 [.agg (brE a),.agg (brE b),.agg (brE c),.agg (brE d)] [] (.agg (brE (ofQ (a.v*b.v+c.v*d.v)))) []:=by
 have l1:=zH a;have l2:=zH b;have l3:=zH c;have l4:=zH d;have m1:=yj a.v b.v;have m2:=yj c.v d.v;refine zc Tryz.func175 ?_;refine Dr.k<|zb.t (znB a b oM oM)<|zb.t (znB c d oM oM)<|zb.t (zdH (ofQ (a.v*b.v)) (ofQ (c.v*d.v)) (by rw[zB];omega) (by rw[zB];omega)) ?_;rw[z6,z6];exact .refl
theorem zuH(t:AF)(x y:BR)(ht:t.le 5000000)(hx:x.len<=5000000)(hy:y.len<=5000000):
  CG0 178 [.agg (afE t),.agg (brE x),.agg (brE y)] [] (.tup [.agg (brE (ofQ (y5 t x.v y.v))),.agg (brE (ofQ (y6 t x.v y.v)))]) []:=by
 obtain⟨ha,hb,hc,hd,he,hf⟩:=ht;have m1:=qk t.a x t.c y t.e ha hx hc hy he;have m2:=qk t.b x t.d y t.f hb hx hd hy hf;refine zc Tryz.func178 ?_;refine Dr.k<|zb.t (zbA t.a x t.c y oM oM oM oM)<|zb.t (zdH (ofQ (t.a.v*x.v+t.c.v*y.v)) t.e (by rw[zB];omega) oM)<|zb.t (zbA t.b x t.d y oM oM oM oM)<|zb.t (zdH (ofQ (t.b.v*x.v+t.d.v*y.v)) t.f (by rw[zB];omega) oM) ?_;rw[z6,z6];exact .refl
theorem zw7(a b:BI)(ha:a.mag.length<=800000000)(hb:b.mag.length<=800000000):CG0 48 [.agg (biE a),.agg (biE b)] [] (i64 (a.v - b.v).sign) []:=by
 refine zc Tryz.func48 ?_;refine zb.t (zw4 a b ha hb) ?_;have h1:=zjK a.v b.v;have h2:=zau a;have h3:=zau b;refine zb.t (zcB (ofZ (a.v - b.v)) (by rw[zT];omega)) ?_;rw[zW];exact .refl
theorem znC(a b:BR)(ha:a.len<=100000000)(hb:b.len<=100000000):CG0 22 [.agg (brE a),.agg (brE b)] [] (i64 (zhi a.v b.v)) []:=by
 have h1:=zH a;have h2:=zH b;have h3:=vH a.v;have h4:=vH b.v;have n1:=qb a.v;have n2:=qb b.v;have d1:=qp a.v;have d2:=qp b.v;have m1:=kO a.v.num b.v.den;have m2:=kO b.v.num a.v.den;refine zc Tryz.func22 ?_;refine Dr.k<|zb.t (kz a oM)<|zb.t (kz b oM)<|Dr.k<|zb.t (zcC (ofQ a.v).num (ofQ b.v).den oM oM)<|zb.t (zcC (ofQ b.v).num (ofQ a.v).den oM oM) ?_;rw[jY,jY,jv,jv];refine zb.t (zw7 (ofZ (a.v.num*b.v.den)) (ofZ (b.v.num*a.v.den)) (by rw[zT];omega) (by rw[zT];omega)) ?_;rw[zW,zW];exact .refl
theorem zzG(x:Rat):ofQ (-x)=⟨ofZ (-x.num),ofZ x.den⟩:=by unfold ofQ;rw[Rat.neg_num,Rat.neg_den]
theorem zB8(a:BR)(ha:a.len<=100000000):CG0 383 [.agg (brE a)] [] (.agg (brE (ofQ (-a.v)))) []:=by
 have h1:=zH a;have h3:=vH a.v;refine zc Tryz.func383 ?_;refine zb.t (kz a oM)<|Dr.k<|zb.t (znA (ofQ a.v).num oM) ?_;rw[jY,zzG];exact .refl
theorem zB9(a b:BR)(ha:a.len<=40000000)(hb:b.len<=40000000):CG0 341 [.agg (brE a),.agg (brE b)] [] (.agg (brE (ofQ (a.v - b.v)))) []:=by
 have h2:=zH b;refine zc Tryz.func341 ?_;refine Dr.k<|zb.t (zB8 b oM)<|zb.t (zdH a (ofQ (-b.v)) oM (by rw[zB,zah];omega)) ?_;rw[z6,← JP];exact .refl
theorem bi_eq{a b:BI}{i:Nat}(h1:a.neg=true↔b.neg=true)(hl:a.mag.length=b.mag.length)(hi:¬i < a.mag.length)(h:∀j,j < i->a.mag[j]? =b.mag[j]?):a=b:=by
 obtain⟨n,m⟩:=a;obtain⟨n',m'⟩:=b;have e1:n=n':=Qj.2 h1
 have e2:m=m':=Ke λj=>by
  by_cases hj:j < i
  ·exact h j hj
  ·dsimp only at hl hi;rw[XD oM,XD oM]
 subst e1 e2;rfl
theorem zjX(a b:BI)(ha:a.mag.length<=100000000):CG0 226 [.agg (biE a),.agg (biE b)] [] (pr (a=b)) []:=by
 refine zc Tryz.func226 ?_;refine⟨λh1=>zd λe=>h1 (by rw[e]),λh1=>?_⟩;have h1:=Xa.1 h1;intro hl1 hl2;refine⟨λh2=>zd λe=>h2 (by rw[e]),λh2=>?_⟩;have h2:=Xa.1 h2;refine⟨Nat,λi=>⟨[(5,i64 i),(3,.loc 1 0),(2,.loc 0 0)],[(1,.box 41 (biE b)),(0,.box 41 (biE a))],2,38,0⟩,λi=>i<=a.mag.length/\∀j,j < i->a.mag[j]? =b.mag[j]?,λi=>a.mag.length - i,0,⟨Xe _,λj h=>by omega⟩,?_,?_⟩
 ·exact zf [0,1]
 rintro i ⟨hi,hs⟩
 intro hl3;refine⟨λh3=>?_,λh3=>zR (bi_eq h1 oM oM hs)⟩;refine Dr.k<|Ob.o ?_;intro x hx;have hx:a.mag[i]? =some x:=hx;refine Ob.o ?_;intro y hy;have hy:b.mag[i]? =some y:=hy;refine⟨λh4=>zd λe=>?_,λh4=>?_⟩
 ·subst e;rw[hx]at hy;cases hy;exact h4 rfl
 ·have h4:=Xa.1 h4;have exy:x=y:=Fin.ext oM;refine Ar.o<|⟨i+1,⟨oM,λj hj=>?_⟩,zf [0,1],by dsimp only;omega⟩
  by_cases e:j=i
  ·subst e;rw[hx,hy,exy]
  ·exact hs j oM
theorem zzH(a b:BR)(ha:a.len<=100000000):CG0 166 [.agg (brE a),.agg (brE b)] [] (pr (a=b)) []:=by
 have h1:a.num.mag.length<=a.len:=Q4 _ _;have h2:a.den.mag.length<=a.len:=QQ _ _;refine zc Tryz.func166 ?_;refine zb.t (zjX a.num b.num oM)<|⟨λe1=>?_,λe1=>zd λe=>e1 (by rw[e])⟩;refine zb.t (zjX a.den b.den oM)<|zF ⟨λe2=>?_,λe=>by rw[e]⟩
 cases a;cases b;simp_all
theorem zrJ(xs ys:List BR)(hx:∀x∈xs,x.len<=100000000):CG0 103 [.sl brE xs,.sl brE ys] [] (pr (xs=ys)) []:=by
 refine zc Tryz.func103 ?_;intro hl1 hl2;refine⟨λh1=>zd λe=>h1 (by rw[e]),λh1=>?_⟩;have h1:=Xa.1 h1;refine⟨Nat,λi=>⟨[(5,i64 i),(0,.sl brE xs),(1,.sl brE ys)],[],0,27,0⟩,λi=>i<=xs.length/\∀j,j < i->xs[j]? =ys[j]?,λi=>xs.length - i,0,⟨Xe _,λj h=>by omega⟩,?_,?_⟩
 ·exact zE []
 rintro i ⟨hi,hs⟩
 intro hl3;refine⟨λh3=>?_,λh3=>?_⟩
 ·refine Dr.k<|Ob.o ?_;intro x hx1;have hx1:xs[i]? =some x:=hx1;refine Ob.o ?_;intro y hy;have hy:ys[i]? =some y:=hy;refine zb.t (zzH x y (hx x (Xd hx1)))<|⟨λh4=>zd λe=>?_,λh4=>?_⟩
  ·subst e;rw[hx1]at hy;cases hy;exact h4 rfl
  ·have exy:=Xa.1 h4;refine Ar.o<|⟨i+1,⟨oM,λj hj=>?_⟩,zE [],by dsimp only;omega⟩
   by_cases e:j=i
   ·subst e;rw[hx1,hy,exy]
   ·exact hs j oM
 ·refine zR (Ke λj=>?_)
  by_cases hj:j < i
  ·exact hs j hj
  ·rw[XD oM,XD oM]
theorem zes{x y:Rat}(h:ofQ x=ofQ y):x=y:=by rw[← z6 x,← z6 y,h]
theorem zuI{t:AF}{n:Nat}(h:t.le n):∀x∈zaB t,x.len<=n:=λx hx=>by
 obtain⟨h1,h2,h3,h4,h5,h6⟩:=h;simp only[zaB,Kc,Kx,or_false]at hx
 rcases hx with rfl | rfl | rfl | rfl | rfl | rfl <;> assumption
theorem zrK(t u:AF)(ht:t.le 100000000):CG0 51 [.agg (afE t),.agg (afE u)] [] (pr (zaB t=zaB u)) []:=by
 refine zc Tryz.func51 ?_;exact Dr.k<|zb.t (zhj t)<|zb.t (zhj u)<|zb.t (zrJ (zaB t) (zaB u) (zuI ht))<|zF K7
theorem zeY(t:AF)(ht:t.le 100000000):CG0 52 [.agg (afE t)] [] (.agg (afE t.nrm)) []:=by
 obtain⟨ha,hb,hc,hd,he,hf⟩:=ht;refine zc Tryz.func52 ?_;refine Dr.k<|zb.t (kz t.a oM)<|zb.t (kz t.b oM)<|zb.t (kz t.c oM)<|zb.t (kz t.d oM)<|zb.t (kz t.e oM) ?_;exact zb.t (kz t.f oM)<|.refl
theorem zw8{t u:AF}:zaB t.nrm=zaB u.nrm↔t.same u:=by
 constructor
 ·intro h;simp only[zaB,AF.nrm,List.cons.injEq,and_true]at h;exact⟨zes h.1,zes h.2.1,zes h.2.2.1,zes h.2.2.2.1,zes h.2.2.2.2.1,zes h.2.2.2.2.2⟩
 ·rintro⟨h1,h2,h3,h4,h5,h6⟩
  simp only[zaB,AF.nrm,h1,h2,h3,h4,h5,h6]
theorem zlZ(t u:AF)(ht:t.le 10000000)(hu:u.le 10000000):CG0 24 [.agg (afE t),.agg (afE u)] [] (pr (t.same u)) []:=by
 have hn:=AF.le_len ht;obtain⟨ha,hb,hc,hd,he,hf⟩:=ht;obtain⟨ka,kb,kc,kd,ke,kf⟩:=hu;obtain⟨na,nb,nc,nd,ne,nf⟩:=hn;refine zc Tryz.func24 ?_;exact Dr.k<|zb.t (zeY t ⟨oM,oM,oM,oM,oM,oM⟩)<|zb.t (zeY u ⟨oM,oM,oM,oM,oM,oM⟩)<|zb.t (zrK t.nrm u.nrm ⟨oM,oM,oM,oM,oM,oM⟩)<|zF zw8
theorem zs6(t:AF)(ht:t.le 10000000):CG0 294 [.agg (afE t)] [] (.agg (brE (ofQ (yz t)))) []:=by
 obtain⟨ha,hb,hc,hd,he,hf⟩:=ht;have l1:=zH t.a;have l2:=zH t.b;have l3:=zH t.c;have l4:=zH t.d;have m1:=yj t.a.v t.d.v;have m2:=yj t.b.v t.c.v;refine zc Tryz.func294 ?_;refine Dr.k<|zb.t (znB t.a t.d oM oM)<|zb.t (znB t.b t.c oM oM)<|zb.t (zB9 (ofQ (t.a.v*t.d.v)) (ofQ (t.b.v*t.c.v)) (by rw[zB];omega) (by rw[zB];omega)) ?_;rw[z6,z6];exact .refl
theorem zpw(t u:AF)(ht:t.le 1000000)(hu:u.le 1000000):CG0 113 [.agg (afE t),.agg (afE u)] [] (.agg (afE (beh t u))) []:=by
 obtain⟨ha,hb,hc,hd,he,hf⟩:=ht;obtain⟨ka,kb,kc,kd,ke,kf⟩:=hu;have m5:=qk u.a t.e u.c t.f u.e ka he kc hf ke;have m6:=qk u.b t.e u.d t.f u.f kb he kd hf kf;refine zc Tryz.func113 ?_;refine Dr.k<|zb.t (zbA u.a t.a u.c t.b oM oM oM oM)<|zb.t (zbA u.b t.a u.d t.b oM oM oM oM)<|zb.t (zbA u.a t.c u.c t.d oM oM oM oM)<|zb.t (zbA u.b t.c u.d t.d oM oM oM oM)<|zb.t (zbA u.a t.e u.c t.f oM oM oM oM) ?_;refine zb.t (zdH (ofQ (u.a.v*t.e.v+u.c.v*t.f.v)) u.e (by rw[zB];omega) oM) ?_
 refine zb.t (zbA u.b t.e u.d t.f oM oM oM oM)<|zb.t (zdH (ofQ (u.b.v*t.e.v+u.d.v*t.f.v)) u.f (by rw[zB];omega) oM) ?_;rw[z6,z6];exact .refl
def zBR:BR:=⟨⟨false,[]⟩,⟨false,[]⟩⟩
def qr:AF:=⟨zBR,zBR,zBR,zBR,zBR,zBR⟩
theorem zBR_v:zBR.v=0:=by decide +kernel
theorem jU:LEs [bl false,.val (.slice none 0 0),bl false,.val (.slice none 0 0)] (brE zBR):=
 .cons (zd dC) (.cons zD (.cons (zd dC) (.cons zD .nil)))
theorem LEs.append:∀{xs bs cs ds:List SV},LEs xs bs->LEs cs ds->LEs (xs++cs) (bs++ds)
 | [],[],_,_,_,h=>h
 | _::_,_::_,_,_,.cons h hs,k=>.cons h (LEs.append hs k)
def z4:List SV:=[bl false,.val (.slice none 0 0),bl false,.val (.slice none 0 0)]
theorem zaP:LE (.agg yX) (.agg (afE qr)):=by
 have jU:LEs z4 (brE zBR):=jU;have h:LE (.agg (z4++(z4++(z4++(z4++(z4++z4)))))) (.agg (afE qr)):=qF (LEs.append jU (LEs.append jU (LEs.append jU (LEs.append jU (LEs.append jU jU)))));exact h
def idA:AF:=afQ ((1:Int):Rat) ((0:Int):Rat) ((0:Int):Rat) ((1:Int):Rat) ((0:Int):Rat) ((0:Int):Rat)
theorem znD:idA.le 2:=⟨by decide +kernel,by decide +kernel,by decide +kernel,by decide +kernel,by decide +kernel,by decide +kernel⟩
theorem znE(t u:AF):(beh t u).nrm=beh t u:=by
 unfold beh AF.nrm afQ;simp only[z6]
theorem zuJ{t u:AF}(h:(beh t u).ok):(beh t u).le 8:=by
 have:=ok_le (t:=beh t u) (by rw[znE];exact h)
 rwa [znE]at this
theorem AF.le.up{t:AF}{n m:Nat}(h:t.le n)(k:n<=m):t.le m:=by
 obtain⟨h1,h2,h3,h4,h5,h6⟩:=h;exact⟨oM,oM,oM,oM,oM,oM⟩
theorem zgd(a b c d:Int)(e f:BR)(ha:R64 a)(hb:R64 b)(hc:R64 c)(hd:R64 d)(he:e.len<=100000000)(hf:f.len<=100000000):
  CG0 79 [i64 a,i64 b,i64 c,i64 d,.agg (brE e),.agg (brE f)] [] (.agg (afE (afQ a b c d e.v f.v))) []:=by
 refine zc Tryz.func79 ?_;refine Dr.k<|zb.t (jm a ha)<|zb.t (jm b hb)<|zb.t (jm c hc)<|zb.t (jm d hd)<|zb.t (kz e oM) ?_;exact zb.t (kz f oM)<|.refl
theorem zw9:zBR.v=((0:Int):Rat):=by decide +kernel
theorem zge:CG0 38 [] [] (.agg (afE idA)) []:=by
 refine zc Tryz.func38 ?_
 refine zb.to _ ((zgd 1 0 0 1 zBR zBR dC dC dC dC dC dC).args
  (.cons .refl (.cons .refl (.cons .refl (.cons .refl (.cons (qF jU) (.cons (qF jU) .nil))))))) rfl ?_
 rw[zw9];exact .refl
def qg(n lo hi:Int):Int:=if n < lo then lo else if hi < n then hi else n
theorem zs7(n lo hi:Int):CG0 71 [i64 n,i64 lo,i64 hi] [] (i64 (qg n lo hi)) []:=by
 refine zc Tryz.func71 ?_;refine⟨λh=>?_,λh=>?_⟩
 ·exact zj (by simp[qg,h])
 refine⟨λh2=>?_,λh2=>?_⟩
 ·exact zj (by simp[qg,h,h2])
 ·exact zj (by simp[qg,h,h2])
theorem zdI{n lo hi:Int}(_:lo<=hi):qg n lo hi=n↔lo<=n/\n<=hi:=by
 unfold qg;split <;> (try split) <;> omega
structure Pt where
 x:Int
 y:Int
 deriving DecidableEq
def ptE(p:Pt):List SV:=[i64 p.x,i64 p.y]
def zp:Pt:=⟨0,0⟩
def zn(p:Pt):Prop:=(-1048576<=p.x/\p.x<=1048576)/\(-1048576<=p.y/\p.y<=1048576)
instance (p:Pt):Decidable (zn p):=inferInstanceAs (Decidable (_/\_))
theorem k9{p q:Pt}:(p.x=q.x/\p.y=q.y/\True)↔p=q:=by
 cases p;cases q;simp
theorem zxa(n:Int):CG0 139 [i64 n] [] (i64 (qg n (-1048576) 1048576)) []:=by
 refine zc Tryz.func139 ?_;exact zb.t (zs7 n _ _)<|.refl
theorem zxb(p:Pt):CG0 70 [.agg (ptE p)] [] (.agg [i64 (qg p.x (-1048576) 1048576),i64 (qg p.y (-1048576) 1048576)]) []:=by
 refine zc Tryz.func70 ?_;exact Dr.k<|zb.t (zxa p.x)<|zb.t (zxa p.y)<|.refl
theorem qh(p:Pt):CG0 42 [.agg (ptE p)] [] (pr (zn p)) []:=by
 refine zc Tryz.func42 ?_;refine Dr.k<|zb.t (zxb p)<|zF (p:=qg p.x (-1048576) 1048576=p.x/\qg p.y (-1048576) 1048576=p.y/\True) ?_;rw[zdI dC,zdI dC];exact⟨λh=>⟨h.1,h.2.1⟩,λh=>⟨h.1,h.2,trivial⟩⟩
theorem kK(p:Pt):CG0 141 [.agg (ptE p)] [] (pr (zn p)) []:=by
 refine zc Tryz.func141 ?_;refine⟨λh1=>?_,λh1=>zd (λh=>h1 h.1.1)⟩;refine⟨λh2=>?_,λh2=>zd (λh=>h2 h.1.2)⟩;refine⟨λh3=>?_,λh3=>zd (λh=>h3 h.2.1)⟩;exact zF ⟨λh4=>⟨⟨h1,h2⟩,⟨h3,h4⟩⟩,λh=>h.2.2⟩
def hI(n:Int):Int:=qg n (-1048576) 1048576
def jz(p:Pt):Pt:=⟨hI p.x,hI p.y⟩
theorem qt(n:Int): -1048576<=hI n/\hI n<=1048576:=by unfold hI qg;split <;> (try split) <;> omega
theorem uY{n:Int}(h: -1048576<=n/\n<=1048576):hI n=n:=(zdI dC).2 h
theorem jZ(p:Pt):zn (jz p):=⟨qt _,qt _⟩
theorem zb4{p:Pt}(h:zn p):jz p=p:=by
 cases p;unfold jz;rw[uY h.1,uY h.2]
def zz(p q:Pt):Pt:=⟨p.x+q.x,p.y+q.y⟩
def zo(p q:Pt):Pt:=⟨p.x - q.x,p.y - q.y⟩
def addP(p q:Pt):Pt:=zz (jz p) (jz q)
def zcE(p q:Pt):Pt:=zo (jz p) (jz q)
def perpP(p:Pt):Pt:=⟨-hI p.y,hI p.x⟩
def wdg(p q:Pt):Int:=p.x*q.y - p.y*q.x
def dtp(p q:Pt):Int:=p.x*q.x+p.y*q.y
def zaw(p q:Pt):Int:=wdg (jz p) (jz q)
def zit(p q:Pt):Int:=dtp (jz p) (jz q)
theorem jA{a b A B:Int}(ha: -A<=a/\a<=A)(hb: -B<=b/\b<=B): -(A*B)<=a*b/\a*b<=A*B:=by
 have h1:=XH (show 0<=A - a by omega) (show 0<=B - b by omega);have h2:=XH (show 0<=A - a by omega) (show 0<=B+b by omega);have h3:=XH (show 0<=A+a by omega) (show 0<=B - b by omega);have h4:=XH (show 0<=A+a by omega) (show 0<=B+b by omega);have e1:(A - a)*(B - b)=A*B - A*b - a*B+a*b:=by grind
 have e2:(A - a)*(B+b)=A*B+A*b - a*B - a*b:=by grind
 have e3:(A+a)*(B - b)=A*B - A*b+a*B - a*b:=by grind
 have e4:(A+a)*(B+b)=A*B+A*b+a*B+a*b:=by grind
 omega
theorem zet{p q:Pt}(hp:zn p)(hq:zn q): -2199023255552<=dtp p q/\dtp p q<=2199023255552/\(-1099511627776<=p.x*q.x/\p.x*q.x<=1099511627776)/\(-1099511627776<=p.y*q.y/\p.y*q.y<=1099511627776):=by
 have h1:=jA hp.1 hq.1;have h2:=jA hp.2 hq.2;unfold dtp;omega
theorem zb5{p q:Pt}(hp:zn p)(hq:zn q): -2199023255552<=wdg p q/\wdg p q<=2199023255552/\(-1099511627776<=p.x*q.y/\p.x*q.y<=1099511627776)/\(-1099511627776<=p.y*q.x/\p.y*q.x<=1099511627776):=by
 have h1:=jA hp.1 hq.2;have h2:=jA hp.2 hq.1;unfold wdg;omega
theorem jn(x:Int):0<=x*x:=by
 rcases QM 0 x with h | h
 ·exact XH h h
 ·have:=XH (show 0<= -x by omega) (show 0<= -x by omega)
  rwa [Int.neg_mul_neg]at this
def sqL(n:Int):Nat->Int->Int
 | 0,s=>s
 | k+1,s=>sqL n k (if (s+2 ^ k)*(s+2 ^ k)<=n then s+2 ^ k else s)
def isq(n:Int):Int:=sqL n 32 0
theorem zjY(n:Int):∀(k:Nat) (s:Int),0<=s->s*s<=n->n < (s+2 ^ k)*(s+2 ^ k)->0<=sqL n k s/\sqL n k s*sqL n k s<=n/\n < (sqL n k s+1)*(sqL n k s+1)
 | 0,s,h0,h1,h2=>by simp only[sqL];exact⟨h0,h1,by simpa using h2⟩
 | k+1,s,h0,h1,h2=>by
  have hp:(0:Int) < 2 ^ k:=Int.pow_pos dC;have e:(2:Int) ^ (k+1)=2 ^ k+2 ^ k:=by rw[Int.pow_succ];omega
  simp only[sqL]
  split
  ·rename_i h;refine zjY n k _ oM h ?_;rw[e]at h2
   rwa [Int.add_assoc]
  ·rename_i h;exact zjY n k _ h0 h1 oM
theorem zgf{n:Int}(h0:0<=n)(h:n < 18446744073709551616):0<=isq n/\isq n*isq n<=n/\n < (isq n+1)*(isq n+1):=
 zjY n 32 0 dC (by simpa using h0) (by simpa using h)
theorem zxc{n:Int}(h0:0<=n)(h:n < 18446744073709551616):isq n < 4294967296:=by
 have hs:=zgf h0 h;refine Int.not_le.1 λhk=>?_
 have:=Yq hk hk dC hs.1;omega
theorem sq_le{a b:Int}(ha:0<=b)(h:a*a<=b*b):a<=b:=by
 refine Q5.1 λhk=>?_
 have h1:=Yq (show b+1<=a by omega) (show b+1<=a by omega) oM oM;have e:(b+1)*(b+1)=b*b+2*b+1:=by grind
 omega
theorem zrL{n a:Int}(h0:0<=n)(h:n < 18446744073709551616)(h1:a*a<=n):a<=isq n:=by
 have hs:=zgf h0 h;have:a<=isq n+1:=sq_le oM oM
 by_cases e:a=isq n+1
 ·subst e;omega
 ·omega
def zpx(p:Pt):Int:=isq (65536*zit p p)
def zdJ(a b:Int):Int:=(2*a+b) / (2*b)
def qQ(a b:Pt)(n d:Int):Pt:=
 if d < 1∨1099511627776 < d then jz a
 else⟨hI a.x+zM (qg n 0 d*(hI b.x - hI a.x)) d,hI a.y+zM (qg n 0 d*(hI b.y - hI a.y)) d⟩
def znF(r:List Pt):Prop:=(r.length:Int)<=4096/\∀p∈r,zn p
instance (r:List Pt):Decidable (znF r):=inferInstanceAs (Decidable (_/\_))
def vj(r:List Pt)(n:Nat):Int:=((List.range n).map λi=>zaw (r.getD i zp) (r.getD ((i+1) % r.length) zp)).sum
def zb6(r:List Pt):Int:=if znF r then vj r r.length else 0
def zs8(r:List Pt):List Pt:=match r with
 | []=>[]
 | p::q=>p::q.reverse
def kJ(r:List Pt):List Pt:=if zb6 r=0 then[] else if zb6 r < 0 then zs8 r else r
theorem zfj(r:List Pt)(n:Nat):vj r (n+1)=vj r n+zaw (r.getD n zp) (r.getD ((n+1) % r.length) zp):=by
 unfold vj;rw[Qb,XG,JA];simp
theorem zh6(r:List Pt)(n:Nat): -(2199023255552*(n:Int))<=vj r n/\vj r n<=2199023255552*(n:Int):=by
 induction n with
 | zero=>exact⟨by show _<=(0:Int);decide,by show(0:Int)<=_;decide⟩
 | succ n ih=>
  rw[zfj];have:=zb5 (jZ (r.getD n zp)) (jZ (r.getD ((n+1) % r.length) zp));unfold zaw;omega
theorem zrM(r:List Pt):(kJ r).length=0∨(kJ r).length=r.length:=by
 unfold kJ
 split
 ·exact .inl rfl
 ·split
  ·right;unfold zs8;split <;> simp
  ·exact .inr rfl
def ku(w:Int):Prop:=1<=w/\w<=16384
instance (w:Int):Decidable (ku w):=inferInstanceAs (Decidable (_/\_))
def zbp(n:Int):Prop:=n < -2097152∨2097152 < n
instance (n:Int):Decidable (zbp n):=inferInstanceAs (Decidable (_∨_))
def z7(v:Pt)(w:Int):Pt:=
 if ¬ku w∨zbp v.x∨zbp v.y∨v=zp then zp
 else⟨zM (-v.y*w*128) (isq (65536*(v.x*v.x+v.y*v.y))),zM (v.x*w*128) (isq (65536*(v.x*v.x+v.y*v.y)))⟩
def yb(a b:Pt)(w:Int):List Pt:=
 if ¬(ku w/\zn a/\zn b) then[]
 else kJ [zo a (z7 (zo b a) w),zo b (z7 (zo b a) w),zz b (z7 (zo b a) w),zz a (z7 (zo b a) w)]
def zw:List Pt:=[⟨16384,0⟩,⟨15137,6270⟩,⟨11585,11585⟩,⟨6270,15137⟩,⟨0,16384⟩,⟨-6270,15137⟩,⟨-11585,11585⟩,⟨-15137,6270⟩,
 ⟨-16384,0⟩,⟨-15137,-6270⟩,⟨-11585,-11585⟩,⟨-6270,-15137⟩,⟨0,-16384⟩,⟨6270,-15137⟩,⟨11585,-11585⟩,⟨15137,-6270⟩]
def vI(p:Pt)(w:Int):List Pt:=
 if ¬(ku w/\zn p) then[] else kJ (zw.map λq=>zz p ⟨zM (q.x*w) 32768,zM (q.y*w) 32768⟩)
def zjZ(a b:Pt)(w:Int):List Pt:=
 if ¬(ku w/\zn a/\zn b) then[]
 else
  let n:=z7 (zo b a) w
  let e:Pt:=⟨n.y,-n.x⟩
  kJ [zo b n,zz (zo b n) e,zz (zz b n) e,zz b n]
def zdK(p:Pt)(w:Int):List Pt:=
 if ¬(ku w/\zn p) then[]
 else kJ [⟨p.x - zM w 2,p.y - zM w 2⟩,⟨p.x+zM w 2,p.y - zM w 2⟩,⟨p.x+zM w 2,p.y+zM w 2⟩,⟨p.x - zM w 2,p.y+zM w 2⟩]
structure Pen where
 w:Int
 j:Int
 c:Int
 m:Int
 d:List Int
 ph:Int
def uI(l:List Int):Prop:=(∀n∈l,0<=n/\n<=1048576)/\(l=[]∨∃n∈l,0 < n)/\l.length % 2=0/\(l.length:Int)<=16
instance (l:List Int):Decidable (uI l):=inferInstanceAs (Decidable (_/\_))
def kI(p:Pen):Prop:=ku p.w/\(p.j=1∨p.j=2∨p.j=3)/\(p.c=3∨p.c=4∨p.c=5)/\(256<=p.m/\p.m<=65536)/\uI p.d/\(0<=p.ph/\p.ph<=1048576)
instance (p:Pen):Decidable (kI p):=inferInstanceAs (Decidable (_/\_))
def u6(n m:Pt)(w lim:Int):Pt×Bool:=
 if ¬(zn n/\zn m/\ku w/\256<=lim/\lim<=65536) then(zp,false)
 else
  let s:=zz n m
  let q:=s.x*s.x+s.y*s.y
  if q=0∨lim*lim*q < 256*w*(256*w) then(zp,false) else(⟨zM (s.x*w*w) (2*q),zM (s.y*w*w) (2*q)⟩,true)
def zhk(p:Pt):Pt:=⟨-p.x,-p.y⟩
def qB(a v b:Pt)(w:Int):Pt×Pt×Bool:=
 if ¬(zn a/\zn v/\zn b/\ku w) then(zp,zp,false)
 else
  let x:=zo v a
  let y:=zo b v
  if wdg x y=0 then(zp,zp,false) else if 0 < wdg x y then(zhk (z7 x w),zhk (z7 y w),true) else(z7 x w,z7 y w,true)
def kS(r:List Pt):List (List Pt):=if r=[] then[] else[r]
def ji(a v b:Pt)(p:Pen):List (List Pt):=
 if ¬(kI p/\zn a/\zn v/\zn b/\¬v=a/\¬v=b) then[]
 else if p.j=3 then kS (vI v p.w)
 else if (qB a v b p.w).2.2=false then[]
 else
  let n:=(qB a v b p.w).1
  let m:=(qB a v b p.w).2.1
  kS (kJ (if p.j=1/\(u6 n m p.w p.m).2=true then[v,zz v n,zz v (u6 n m p.w p.m).1,zz v m] else[v,zz v n,zz v m]))
structure Sg where
 v:Int
 a:Pt
 b:Pt
 c:Pt
 deriving DecidableEq
def sgE(s:Sg):List SV:=[i64 s.v,i64 s.a.x,i64 s.a.y,i64 s.b.x,i64 s.b.y,i64 s.c.x,i64 s.c.y]
def nm(v:Int):Int:=if v=1 then 1 else if v=2 then 1 else if v=3 then 2 else if v=4 then 3 else if v=5 then 0 else -1
theorem c_named(v:Int):CG0 228 [i64 v] [] (i64 (nm v)) []:=by
 refine zc Tryz.func228 ?_;refine⟨λh4=>?_,λh4=>?_⟩
 ·exact Ar.fit dC<|Ar.fit dC<|Ar.fit dC<|zj (by rw[h4];rfl)
 refine⟨λh3=>?_,λh3=>?_⟩
 ·exact Ar.fit dC<|Ar.fit dC<|zj (by rw[h3];rfl)
 refine⟨λh1=>?_,λh1=>?_⟩
 ·refine⟨λ_=>?_,λh=>absurd h1 h⟩;exact Ar.fit dC<|zj (by rw[h1];rfl)
 refine⟨λh2=>?_,λh2=>?_⟩
 ·exact Ar.fit dC<|zj (by rw[h2];rfl)
 refine⟨λh5=>?_,λh5=>?_⟩
 ·exact zj (by rw[h5];rfl)
 ·exact zj (by unfold nm;rw[if_neg h1,if_neg h2,if_neg h3,if_neg h4,if_neg h5])
def pk(n i:Int)(p:Pt):Prop:=zn p/\(n<=i->p=zp)
instance (n i:Int) (p:Pt):Decidable (pk n i p):=inferInstanceAs (Decidable (_/\_))
def zfk(s:Sg):Prop:=pk (nm s.v) 0 s.a/\pk (nm s.v) 1 s.b/\pk (nm s.v) 2 s.c
instance (s:Sg):Decidable (zfk s):=inferInstanceAs (Decidable (_/\_))
theorem zpy{s:Sg}:zfk s↔∀(j:Nat) x,[s.a,s.b,s.c][j]? =some x->pk (nm s.v) j x:=by
 constructor
 ·rintro⟨h1,h2,h3⟩ j x hx
  match j,hx with
  | 0,hx=>cases hx;exact h1
  | 1,hx=>cases hx;exact h2
  | 2,hx=>cases hx;exact h3
 ·exact λh=>⟨h 0 _ rfl,h 1 _ rfl,h 2 _ rfl⟩
theorem zrN(s:Sg):CG0 285 [.agg (sgE s)] [] (pr (zfk s)) []:=by
 refine zc Tryz.func285 ?_;refine⟨Pt,ptE,[s.a,s.b,s.c],rfl,Ob.o0 ?_⟩;intro _
 refine⟨Nat,λi=>⟨[(13,i64 i),(12,i64 3),(11,.own 1),(1,.loc 0 0)],[(1,.arr 35 ptE 2 [s.a,s.b,s.c]),(0,.box 124 (sgE s))],2,34,0⟩,
  λi=>i<=3/\∀(j:Nat) x,j < i->[s.a,s.b,s.c][j]? =some x->pk (nm s.v) j x,λi=>3 - i,0,?_,?_,?_⟩
 ·exact⟨oM,λj x hj=>by omega⟩
 ·exact zf [0,1]
 rintro i ⟨h1,h2⟩
 refine⟨λh3=>?_,λh3=>?_⟩
 ·have h3:i < 3:=by omega
  refine Ob.mk ⟨oM,by show(i:Int) < 3;omega⟩<|Ob.mk ⟨oM,by show(i:Int) < 3;omega⟩ ?_;intro x hx;have hx:[s.a,s.b,s.c][i]? =some x:=hx;refine zb.t (qh x) ?_;have out:¬pk (nm s.v) i x->¬zfk s:=λh hf=>h (zpy.1 hf i x hx)
  refine⟨λh4=>zd (out λh=>h4 h.1),λh4=>?_⟩;have h4:=Xa.1 h4;refine zb.t (c_named s.v) ?_
  have next:pk (nm s.v) i x->(i+1<=3/\∀(j:Nat) x,j < i+1->[s.a,s.b,s.c][j]? =some x->pk (nm s.v) j x):=λh=>⟨oM,λj y hj hy=>by
   by_cases e:j=i
   ·subst e;rw[hx]at hy;cases hy;exact h
   ·exact h2 j y oM hy⟩
  refine⟨λh5=>?_,λh5=>?_⟩
  ·refine⟨λh6=>zd (out λh=>h6 (k9.2 (h.2 h5))),λh6=>?_⟩;have h6:x=zp:=k9.1 (Xa.1 h6);exact Ar.o<|⟨i+1,next ⟨h4,λ_=>h6⟩,zf [0,1],by dsimp only;omega⟩
  ·exact Ar.o<|⟨i+1,next ⟨h4,λh=>absurd h h5⟩,zf [0,1],by dsimp only;omega⟩
 ·refine zR (zpy.2 λj x hx=>h2 j x ?_ hx);have:=(Xc.1 hx).1;have h3:¬((i:Int) < 3):=h3;simp at this;omega
def zbN(last v:Int):Prop:=v=1∨(last≠5/\(v≠5∨last≠1))
instance (last v:Int):Decidable (zbN last v):=inferInstanceAs (Decidable (_∨_))
def jV(last:Int)(s:Sg):Int:=if nm s.v < 0 then 2 else if ¬zbN last s.v then 10 else if ¬zfk s then 6 else 0
def chk(last:Int)(i:Nat):List Sg->Int×Int
 | []=>(0,0)
 | s::r=>if jV last s≠0 then(jV last s,i) else chk s.v (i+1) r
def zai(l:List Sg):Int×Int:=if 256 < l.length then(5,256) else chk 5 0 l
def qU(l:List Sg):Prop:=(zai l).1=0
instance (l:List Sg):Decidable (qU l):=inferInstanceAs (Decidable (_=_))
theorem zgg{α:Type}{l:List α}{i:Nat}{x:α}(h:l[i]? =some x):l.drop i=x::l.drop (i+1):=by
 obtain⟨hl,he⟩:=Xc.1 h;rw[KG hl,he]
def twoI(c:Int×Int):SV:=.tup [i64 c.1,i64 c.2]
theorem zzI(l:List Sg):CG0 227 [.sl sgE l] [] (twoI (zai l)) []:=by
 refine zc Tryz.func227 ?_;have fin:∀{a b:Int},zai l=(a,b)->LE (.tup [i64 a,i64 b]) (twoI (zai l)):=λh=>by rw[h];exact .refl
 intro hl;refine⟨λh=>fin (by unfold zai;rw[if_pos oM]),λh=>?_⟩;have hc:zai l=chk 5 0 l:=by unfold zai;rw[if_neg oM]
 intro hl1;refine⟨Nat×Int,λq=>⟨[(13,i64 q.1),(12,i64 l.length),(11,.sl sgE l),(4,i64 q.2)],[],0,52,0⟩,λq=>q.1<=l.length/\chk 5 0 l=chk q.2 q.1 (l.drop q.1),λq=>l.length - q.1,(0,5),?_,?_,?_⟩
 ·exact⟨Xe _,rfl⟩
 ·exact zE []
 rintro⟨i,last⟩ ⟨h1,h2⟩
 have h1:i<=l.length:=h1;have h2:chk 5 0 l=chk last i (l.drop i):=h2;refine⟨λh3=>?_,λh3=>?_⟩
 ·have h3:(i:Int) < l.length:=h3;refine Ob.mk ⟨by dsimp only;omega,h3⟩ ?_;intro x hx;have hx:l[i]? =some x:=hx;rw[zgg hx]at h2
  have bad:∀{e:Int},jV last x=e->e≠0->zai l=(e,(i:Int)):=λh hn=>by
   rw[hc,h2];unfold chk;rw[if_pos (by rw[h];exact hn),h]
  have good:jV last x=0->(i+1,x.v).1<=l.length/\chk 5 0 l=chk (i+1,x.v).2 (i+1,x.v).1 (l.drop (i+1,x.v).1):=λh=>⟨by show i+1<=_;omega,by
   show _=chk x.v (i+1) _;rw[h2];conv=>lhs;unfold chk
   rw[if_neg (λhn=>hn h)]⟩
  refine⟨λj1=>?_,λj1=>?_⟩
  ·have st:zbN last x.v:=.inl j1;refine zb.t (c_named x.v)<|⟨λk1=>fin (bad (by unfold jV;rw[if_pos k1]) dC),λk1=>?_⟩;refine zb.t (zrN x)<|⟨λk2=>fin (bad (by unfold jV;rw[if_neg k1,if_neg (λh=>h st),if_pos k2]) dC),λk2=>?_⟩;exact Ar.fit (by dsimp only;omega)<|⟨(i+1,x.v),good (by unfold jV;rw[if_neg k1,if_neg (λh=>h st),if_neg k2]),zE [],by show l.length - (i+1) < l.length - i;omega⟩
  refine⟨λj2=>?_,λj2=>?_⟩
  ·refine⟨λj3=>?_,λj3=>?_⟩
   ·have st:zbN last x.v:=.inr ⟨j2,.inl j3⟩;refine zb.t (c_named x.v)<|⟨λk1=>fin (bad (by unfold jV;rw[if_pos k1]) dC),λk1=>?_⟩;refine zb.t (zrN x)<|⟨λk2=>fin (bad (by unfold jV;rw[if_neg k1,if_neg (λh=>h st),if_pos k2]) dC),λk2=>?_⟩;exact Ar.fit (by dsimp only;omega)<|⟨(i+1,x.v),good (by unfold jV;rw[if_neg k1,if_neg (λh=>h st),if_neg k2]),zE [],by show l.length - (i+1) < l.length - i;omega⟩
   ·refine zb.t (c_named x.v)<|⟨λk1=>fin (bad (by unfold jV;rw[if_pos k1]) dC),λk1=>?_⟩;have j3:=Xa.1 j3
    have ns:¬last≠1->¬zbN last x.v:=λk0 st=>by
     rcases st with st | ⟨_,st | st⟩
     ·exact j1 st
     ·exact st j3
     ·exact k0 st
    refine⟨λk0=>fin (bad (by unfold jV;rw[if_neg k1,if_pos (ns k0)]) dC),λk0=>?_⟩;have st:zbN last x.v:=.inr ⟨j2,.inr (Xa.1 k0)⟩;refine zb.t (zrN x)<|⟨λk2=>fin (bad (by unfold jV;rw[if_neg k1,if_neg (λh=>h st),if_pos k2]) dC),λk2=>?_⟩;exact Ar.fit (by dsimp only;omega)<|⟨(i+1,x.v),good (by unfold jV;rw[if_neg k1,if_neg (λh=>h st),if_neg k2]),zE [],by show l.length - (i+1) < l.length - i;omega⟩
  ·refine zb.t (c_named x.v)<|⟨λk1=>fin (bad (by unfold jV;rw[if_pos k1]) dC),λk1=>?_⟩
   have ns:¬zbN last x.v:=λst=>by
    rcases st with st | ⟨st,_⟩
    ·exact j1 st
    ·exact j2 st
   exact fin (bad (by unfold jV;rw[if_neg k1,if_pos ns]) dC)
 ·refine fin (hc.trans (h2.trans ?_));rw[Ky (by have h3:¬(i:Int) < l.length:=h3;omega)];rfl
theorem ziJ(l:List Sg):CG0 167 [.sl sgE l] [] (pr (qU l)) []:=by
 refine zc Tryz.func167 ?_;exact zb.t (zzI l)<|zF K7
theorem zpz(v:Int):CG0 116 [i64 v] [] (i64 (nm v)) []:=by
 refine zc Tryz.func116 ?_;refine⟨λh1=>?_,λh1=>?_⟩
 ·refine⟨λ_=>?_,λh=>absurd h1 h⟩;exact zj (by rw[h1];rfl)
 refine⟨λh2=>zj (by rw[h2];rfl),λh2=>?_⟩;refine⟨λh3=>zj (by rw[h3];rfl),λh3=>?_⟩;refine⟨λh4=>zj (by rw[h4];rfl),λh4=>?_⟩;refine⟨λh5=>zj (by rw[h5];rfl),λh5=>?_⟩;exact zj (by unfold nm;rw[if_neg h1,if_neg h2,if_neg h3,if_neg h4,if_neg h5])
theorem zs9(s:Sg):CG0 115 [.agg (sgE s)] [] (.agg (ptE s.a++ptE s.b++ptE s.c)) []:=by
 refine zc Tryz.func115 ?_;exact .refl
def zdL(l:List Sg)(i:Nat):Int:=if i=0 then 5 else(l[i - 1]?.map Sg.v).getD 0
theorem zuK(l:List Sg)(i:Nat)(x:Sg)(hx:l[i]? =some x)(hl:l.length<=256):CG0 299 [.sl sgE l,i64 i] [] (pr (zbN (zdL l i) x.v)) []:=by
 refine zc Tryz.func299 ?_;have hi:i < l.length:=(Xc.1 hx).1;refine⟨λh1=>?_,λh1=>?_⟩
 ·have h0:i=0:=by omega
  subst h0;refine Ob.o4 ?_;intro y hy;have hy:l[0]? =some y:=hy;rw[hx]at hy;cases hy
  refine zF ⟨λh=>.inl h,λh=>?_⟩
  rcases h with h | ⟨h,_⟩
  ·exact h
  ·exact absurd rfl h
 refine Ar.o<|Ob.o4 ?_;intro y hy;have hy:l[i - 1]? =some y:=by rw[← hy];congr 1;omega
 have hlast:zdL l i=y.v:=by unfold zdL;rw[if_neg oM,hy];rfl
 rw[hlast];refine⟨λh2=>?_,λh2=>?_⟩
 ·refine Ob.o4 ?_;intro z hz;have hz:l[i]? =some z:=hz;rw[hx]at hz;cases hz
  refine zF ⟨λh=>.inl h,λh=>?_⟩
  rcases h with h | ⟨h,_⟩
  ·exact h
  ·exact absurd h2 h
 ·refine Ob.o4 ?_;intro z hz;have hz:l[i]? =some z:=hz;rw[hx]at hz;cases hz
  refine⟨λh3=>?_,λh3=>?_⟩
  ·exact zR (.inr ⟨h2,.inl h3⟩)
  ·refine Ar.o<|Ob.o4 ?_;intro u hu;have hu:l[i - 1]? =some u:=by rw[← hu];congr 1;omega
   rw[hy]at hu;cases hu
   refine zF ⟨λh=>.inr ⟨h2,.inr h⟩,λh=>?_⟩;have h3:x.v=5:=Xa.1 h3
   rcases h with h | ⟨_,h | h⟩
   ·omega
   ·exact absurd h3 h
   ·exact h
theorem zzJ(l:List Sg)(i:Nat)(x:Sg)(hx:l[i]? =some x)(hl:l.length<=256):CG0 236 [.sl sgE l,i64 i] [] (i64 (jV (zdL l i) x)) []:=by
 refine zc Tryz.func236 ?_;have hi:i < l.length:=(Xc.1 hx).1;refine Ob.o4 ?_;intro y hy;have hy:l[i]? =some y:=hy;rw[hx]at hy;cases hy
 refine zb.t (zpz x.v)<|⟨λh1=>zj (by unfold jV;rw[if_pos h1]),λh1=>?_⟩;refine zb.t (zuK l i x hx hl)<|⟨λh2=>zj (by unfold jV;rw[if_neg h1,if_pos h2]),λh2=>?_⟩;refine Ob.o4 ?_;intro y hy;have hy:l[i]? =some y:=hy;rw[hx]at hy;cases hy
 refine zb.t (zs9 x) ?_;have bad:¬zfk x->LE (i64 6) (i64 (jV (zdL l i) x)):=λh=>zj (by unfold jV;rw[if_neg h1,if_neg h2,if_pos h])
 have hn:0<=nm x.v:=oM;have zOK:zn zp:=dC
 refine⟨Nat,λk=>⟨[(7,i64 k),(5,i64 (nm x.v)),(6,.loc 0 0)],[(0,.box 155 (ptE x.a++ptE x.b++ptE x.c))],1,51,0⟩,
  λk=>k<=3/\(1<=k->pk (nm x.v) 0 x.a)/\(2<=k->pk (nm x.v) 1 x.b)/\(3<=k->pk (nm x.v) 2 x.c),λk=>3 - k,0,?_,?_,?_⟩
 ·exact⟨oM,λh=>by omega,λh=>by omega,λh=>by omega⟩
 ·exact zf [0]
 rintro k ⟨k1,k2,k3,k4⟩
 refine⟨λg1=>?_,λg1=>?_⟩
 ·have g1:(k:Int) < 3:=g1;have hk:k=0∨k=1∨k=2:=oM
  rcases hk with rfl | rfl | rfl
  ·refine⟨λa1=>?_,λa1=>?_⟩
   ·refine zb.t (kK x.a)<|⟨λa2=>bad (λh=>a2 h.1.1),λa2=>?_⟩;have a2:zn x.a:=Xa.1 a2;refine⟨λa3=>absurd a3 oM,λa3=>?_⟩;exact Ar.o<|⟨1,⟨oM,λ_=>⟨a2,λh=>absurd h oM⟩,λh=>by omega,λh=>by omega⟩,zf [0],by dsimp only;omega⟩
   ·refine⟨λa3=>?_,λa3=>absurd a3 oM⟩;refine⟨λa4=>bad (λh=>a4 (k9.2 (h.1.2 oM))),λa4=>?_⟩;have a4:x.a=zp:=k9.1 (Xa.1 a4);exact Ar.o<|⟨1,⟨oM,λ_=>⟨a4 ▸ zOK,λ_=>a4⟩,λh=>by omega,λh=>by omega⟩,zf [0],by dsimp only;omega⟩
  ·refine⟨λa1=>?_,λa1=>?_⟩
   ·refine zb.t (kK x.b)<|⟨λa2=>bad (λh=>a2 h.2.1.1),λa2=>?_⟩;have a2:zn x.b:=Xa.1 a2;refine⟨λa3=>absurd a3 oM,λa3=>?_⟩;exact Ar.o<|⟨2,⟨oM,λ_=>k2 oM,λ_=>⟨a2,λh=>absurd h oM⟩,λh=>by omega⟩,zf [0],by dsimp only;omega⟩
   ·refine⟨λa3=>?_,λa3=>absurd a3 oM⟩;refine⟨λa4=>bad (λh=>a4 (k9.2 (h.2.1.2 oM))),λa4=>?_⟩;have a4:x.b=zp:=k9.1 (Xa.1 a4);exact Ar.o<|⟨2,⟨oM,λ_=>k2 oM,λ_=>⟨a4 ▸ zOK,λ_=>a4⟩,λh=>by omega⟩,zf [0],by dsimp only;omega⟩
  ·refine⟨λa1=>?_,λa1=>?_⟩
   ·refine zb.t (kK x.c)<|⟨λa2=>bad (λh=>a2 h.2.2.1),λa2=>?_⟩;have a2:zn x.c:=Xa.1 a2;refine⟨λa3=>absurd a3 oM,λa3=>?_⟩;exact Ar.o<|⟨3,⟨oM,λ_=>k2 oM,λ_=>k3 oM,λ_=>⟨a2,λh=>absurd h oM⟩⟩,zf [0],by dsimp only;omega⟩
   ·refine⟨λa3=>?_,λa3=>absurd a3 oM⟩;refine⟨λa4=>bad (λh=>a4 (k9.2 (h.2.2.2 oM))),λa4=>?_⟩;have a4:x.c=zp:=k9.1 (Xa.1 a4);exact Ar.o<|⟨3,⟨oM,λ_=>k2 oM,λ_=>k3 oM,λ_=>⟨a4 ▸ zOK,λ_=>a4⟩⟩,zf [0],by dsimp only;omega⟩
 ·have h3:k=3:=by have g1:¬(k:Int) < 3:=g1;omega
  subst h3;exact zj (by unfold jV;rw[if_neg h1,if_neg h2,if_neg (λh=>h ⟨k2 oM,k3 oM,k4 oM⟩)])
theorem zpA{l:List Sg}{i:Nat}{x:Sg}(h:l[i]? =some x):zdL l (i+1)=x.v:=by
 unfold zdL;rw[if_neg oM,Qg,h];rfl
theorem zxd(l:List Sg):CG0 177 [.sl sgE l] [] (twoI (zai l)) []:=by
 refine zc Tryz.func177 ?_;have fin:∀{a b:Int},zai l=(a,b)->LE (.tup [i64 a,i64 b]) (twoI (zai l)):=λh=>by rw[h];exact .refl
 intro hl;refine⟨λh=>fin (by unfold zai;rw[if_pos oM]),λh=>?_⟩;have hc:zai l=chk 5 0 l:=by unfold zai;rw[if_neg oM]
 refine⟨Nat,λi=>⟨[(4,i64 i),(0,.sl sgE l)],[],0,22,0⟩,λi=>i<=l.length/\chk 5 0 l=chk (zdL l i) i (l.drop i),λi=>l.length - i,0,?_,?_,?_⟩
 ·exact⟨Xe _,rfl⟩
 ·exact zE []
 rintro i ⟨h1,h2⟩
 intro hl1;refine⟨λh3=>?_,λh3=>?_⟩
 ·have hx:=Xb (show i < l.length by omega);generalize l[i]'oM=x at hx;rw[zgg hx]at h2;refine zb.t (zzJ l i x hx oM)<|⟨λh4=>fin ?_,λh4=>?_⟩
  ·rw[hc,h2];unfold chk;rw[if_pos h4]
  ·refine Ar.o<|⟨i+1,⟨oM,?_⟩,zE [],by dsimp only;omega⟩;rw[h2,zpA hx];conv=>lhs;unfold chk
   rw[if_neg h4]
 ·refine fin (hc.trans (h2.trans ?_));rw[Ky oM];rfl
theorem zgh(l:List Sg):CG0 114 [.sl sgE l] [] (pr (qU l)) []:=by
 refine zc Tryz.func114 ?_;exact zb.t (zxd l)<|zF K7
theorem zdM(v:Int): -1<=nm v/\nm v<=3:=by unfold nm;split <;> (try split) <;> (try split) <;> (try split) <;> (try split) <;> omega
def kG(s:Sg):List Pt:=[s.a,s.b,s.c].take (nm s.v).toNat
theorem zpB(s:Sg):CG0 168 [.agg (sgE s)] [] (.sl ptE (kG s)) []:=by
 refine zc Tryz.func168 ?_;refine⟨Pt,ptE,[s.a,s.b,s.c],rfl,Ob.o0 ?_⟩;refine zb.t (c_named s.v) ?_;have hr:=zdM s.v;refine Sl.see (Ob.mk ⟨dC,by show 0<=max (nm s.v) 0;omega,by show max (nm s.v) 0<=3;omega,KB _⟩ ?_);refine z9 ?_;show([s.a,s.b,s.c].drop 0).take (max (nm s.v) 0 - 0).toNat=_;unfold kG;rw[KT];congr 1;omega
def qj(l:List Sg):List Pt:=l.flatMap kG
def mnP(p q:Pt):Pt:=⟨min p.x q.x,min p.y q.y⟩
def mxP(p q:Pt):Pt:=⟨max p.x q.x,max p.y q.y⟩
def bnd(f:Pt->Pt->Pt)(q:List Pt):Pt:=q.foldl f (q.headD zp)
theorem zuL{f:Pt->Pt->Pt}(p:Pt):bnd f ([]++[p])=f p p:=rfl
theorem zxe{f:Pt->Pt->Pt}{q:List Pt}(h:q≠[])(p:Pt):bnd f (q++[p])=f (bnd f q) p:=by
 cases q with
 | nil=>exact absurd rfl h
 | cons a r=>simp[bnd,KC]
theorem zh7{l:List Sg}{i:Nat}{x:Sg}(h:l[i]? =some x):qj (l.take (i+1))=qj (l.take i)++kG x:=by
 unfold qj;rw[Xm,h];simp[Qc]
theorem zhl{l:List Sg}(h:qU l):l.length<=256:=by
 unfold qU zai at h
 by_cases e:256 < l.length
 ·rw[if_pos e]at h;cases h
 ·omega
theorem zCa{s:Sg}{k:Nat}(h:(k:Int) < nm s.v):(kG s)[k]? =[s.a,s.b,s.c][k]? :=by
 unfold kG;rw[Xv,if_pos oM]
theorem zCb{r m a:Nat}(h:r=2 ^ (m+1)*a)(hr:r < 4294967296)(hm:m<=31):zaA .or .u64 (r:Int) (1*2 ^ (m:Int).toNat)=((r+2 ^ m:Nat):Int):=by
 have hp:2 ^ m<=2 ^ 31:=XI dC hm;have e:(1*2 ^ (m:Int).toNat:Int)=((2 ^ m:Nat):Int):=by rw[JT];simp
 rw[e,zjL oM oM];have:=KZ (i:=m+1) (b:=2 ^ m) (Nat.pow_lt_pow_right dC oM) a;rw[h,← this]
theorem zxf(n:Int)(h0:0<=n/\n<=18446744073709551615):CG0 305 [u64 n] [] (u64 (isq n)) []:=by
 refine zc Tryz.func305 ?_
 refine⟨Int×Nat,λz=>⟨[(0,u64 n),(3,u64 (z.2:Int)),(4,i64 z.1)],[],0,21,0⟩,λz=> -1<=z.1/\z.1<=31/\(∃a,z.2=2 ^ (z.1+1).toNat*a)/\z.2+2 ^ (z.1+1).toNat<=4294967296/\sqL n (z.1+1).toNat z.2=isq n,
  λz=>(z.1+1).toNat,(31,0),⟨dC,dC,⟨0,rfl⟩,dC,rfl⟩,?_,?_⟩
 ·exact zE []
 rintro⟨j,r⟩ ⟨h1,h2,⟨a,h3⟩,h4,h5⟩
 dsimp only at h1 h2 h3 h4 h5;refine⟨λg=>?_,λg=>?_⟩
 ·have g:0<=j:=g;obtain⟨m,rfl⟩:∃m:Nat,j=m:=⟨j.toNat,oM⟩;have e:((m:Int)+1).toNat=m+1:=oM;rw[e]at h3 h4 h5;have hm:m<=31:=oM;have hp:2 ^ m<=2147483648:=XI (n:=2) dC hm;have hp1:0 < 2 ^ m:=KS dC;have hp2:2 ^ (m+1)=2*2 ^ m:=by rw[XS];omega
  have ee:(1*2 ^ (m:Int).toNat:Int)=((2 ^ m:Nat):Int):=by rw[JT];simp
  have hq:(r+2 ^ m)*(r+2 ^ m)<=18446744065119617025:=XB (Qh (show r+2 ^ m<=4294967295 by omega) (show r+2 ^ m<=4294967295 by omega)) dC
  have hs:sqL n (m+1) r=sqL n m (if ((r+2 ^ m:Nat):Int)*((r+2 ^ m:Nat):Int)<=n then((r+2 ^ m:Nat):Int) else r):=by
   have:((r+2 ^ m:Nat):Int)=(r:Int)+2 ^ m:=by simp
   rw[this];rfl
  rw[hs]at h5;have em:((m:Int) - 1+1).toNat=m:=oM;refine Ob.mk (by show(0:Int)<=m/\(m:Int) < 64;omega)<|Ar.fit (by rw[ee];omega)<|⟨((r+2 ^ m:Nat):Int),(zCb h3 oM hm).symm,?_⟩;have hq':((r+2 ^ m:Nat):Int)*((r+2 ^ m:Nat):Int)<=18446744065119617025:=by have h:=JF.mpr hq;rw[XZ]at h;exact h
  have hq0:0<=((r+2 ^ m:Nat):Int)*((r+2 ^ m:Nat):Int):=XH oM oM;refine Ar.fit ⟨hq0,oM⟩<|⟨λk=>?_,λk=>?_⟩
  ·refine Ar.o ?_;rw[if_pos k]at h5;refine⟨((m:Int) - 1,r+2 ^ m),⟨by dsimp only;omega,by dsimp only;omega,⟨2*a+1,?_⟩,?_,?_⟩,zE [],by dsimp only;omega⟩
   ·dsimp only;rw[em,h3,hp2];grind
   ·dsimp only;rw[em];omega
   ·dsimp only;rw[em];exact h5
  ·refine Ar.o ?_;rw[if_neg k]at h5;refine⟨((m:Int) - 1,r),⟨by dsimp only;omega,by dsimp only;omega,⟨2*a,?_⟩,?_,?_⟩,zE [],by dsimp only;omega⟩
   ·dsimp only;rw[em,h3,hp2];grind
   ·dsimp only;rw[em];omega
   ·dsimp only;rw[em];exact h5
 ·have g:¬0<=j:=g;have e:(j+1).toNat=0:=oM;rw[e]at h5;exact zj h5
theorem zta(n:Int)(h0:0<=n/\n<=18446744073709551615):CG0 313 [u64 n] [] (u64 (isq n)) []:=by
 refine zc Tryz.func313 ?_
 refine⟨Int×Nat,λz=>⟨[(0,u64 n),(3,u64 (z.2:Int)),(4,i64 z.1)],[],0,22,0⟩,λz=> -1<=z.1/\z.1<=31/\z.2+2 ^ (z.1+1).toNat<=4294967296/\sqL n (z.1+1).toNat z.2=isq n,
  λz=>(z.1+1).toNat,(31,0),⟨dC,dC,dC,rfl⟩,?_,?_⟩
 ·exact zE []
 rintro⟨j,r⟩ ⟨h1,h2,h4,h5⟩
 dsimp only at h1 h2 h4 h5;refine⟨λg=>?_,λg=>?_⟩
 ·have g:0<=j:=g;obtain⟨m,rfl⟩:∃m:Nat,j=m:=⟨j.toNat,oM⟩;have e:((m:Int)+1).toNat=m+1:=oM;rw[e]at h4 h5;have hm:m<=31:=oM;have hp:2 ^ m<=2147483648:=XI (n:=2) dC hm;have hp1:0 < 2 ^ m:=KS dC;have hp2:2 ^ (m+1)=2*2 ^ m:=by rw[XS];omega
  have ee:(1*2 ^ (m:Int).toNat:Int)=((2 ^ m:Nat):Int):=by rw[JT];simp
  have hq:(r+2 ^ m)*(r+2 ^ m)<=18446744065119617025:=XB (Qh (show r+2 ^ m<=4294967295 by omega) (show r+2 ^ m<=4294967295 by omega)) dC
  have hs:sqL n (m+1) r=sqL n m (if ((r+2 ^ m:Nat):Int)*((r+2 ^ m:Nat):Int)<=n then((r+2 ^ m:Nat):Int) else r):=by
   have:((r+2 ^ m:Nat):Int)=(r:Int)+2 ^ m:=by simp
   rw[this];rfl
  rw[hs]at h5;have em:((m:Int) - 1+1).toNat=m:=oM;refine Ar.o<|Ob.mk (by show(0:Int)<=m/\(m:Int) < 64;omega)<|Ar.fit (by rw[ee];omega) ?_;change Ar _ _ _;rw[ee,show(r:Int)+((2 ^ m:Nat):Int)=((r+2 ^ m:Nat):Int) by omega];refine Ar.o ?_;have hq':((r+2 ^ m:Nat):Int)*((r+2 ^ m:Nat):Int)<=18446744065119617025:=by have h:=JF.mpr hq;rw[XZ]at h;exact h
  have hq0:0<=((r+2 ^ m:Nat):Int)*((r+2 ^ m:Nat):Int):=XH oM oM;refine Ar.fit ⟨hq0,oM⟩<|⟨λk=>?_,λk=>?_⟩
  ·refine Ar.o ?_;rw[if_pos k]at h5;refine⟨((m:Int) - 1,r+2 ^ m),⟨by dsimp only;omega,by dsimp only;omega,?_,?_⟩,zE [],by dsimp only;omega⟩
   ·dsimp only;rw[em];omega
   ·dsimp only;rw[em];exact h5
  ·refine Ar.o ?_;rw[if_neg k]at h5;refine⟨((m:Int) - 1,r),⟨by dsimp only;omega,by dsimp only;omega,?_,?_⟩,zE [],by dsimp only;omega⟩
   ·dsimp only;rw[em];omega
   ·dsimp only;rw[em];exact h5
 ·have g:¬0<=j:=g;have e:(j+1).toNat=0:=oM;rw[e]at h5;exact zj h5
theorem zcF(p:Pt):CG0 70 [.agg (ptE p)] [] (.agg (ptE (jz p))) []:=zxb p
theorem zj0(n lo hi:Int):CG0 77 [i64 n,i64 lo,i64 hi] [] (i64 (qg n lo hi)) []:=by
 refine zc Tryz.func77 ?_;refine⟨λh=>?_,λh=>?_⟩
 ·exact zj (by simp[qg,h])
 refine⟨λh2=>?_,λh2=>?_⟩
 ·exact zj (by simp[qg,h,h2])
 ·exact zj (by simp[qg,h,h2])
theorem zcG(p:Pt):CG0 75 [.agg (ptE p)] [] (.agg (ptE (jz p))) []:=by
 refine zc Tryz.func75 ?_;exact Dr.k<|zb.t (zj0 p.x _ _)<|zb.t (zj0 p.y _ _)<|.refl
theorem p_sub(p q:Pt):CG0 244 [.agg (ptE p),.agg (ptE q)] [] (.agg (ptE (zcE p q))) []:=by
 have h1:=qt p.x;have h2:=qt p.y;have h3:=qt q.x;have h4:=qt q.y;refine zc Tryz.func244 ?_;refine Dr.k<|zb.t (zcF p)<|zb.t (zcF q) ?_;unfold jz;exact Ar.fit (by dsimp only;omega)<|Ar.fit (by dsimp only;omega)<|.refl
theorem ztb(p q:Pt):CG0 76 [.agg (ptE p),.agg (ptE q)] [] (.agg (ptE (zcE p q))) []:=by
 have h1:=qt p.x;have h2:=qt p.y;have h3:=qt q.x;have h4:=qt q.y;refine zc Tryz.func76 ?_;refine Dr.k<|zb.t (zcG p)<|zb.t (zcG q) ?_;unfold jz;exact Ar.fit (by dsimp only;omega)<|Ar.fit (by dsimp only;omega)<|.refl
theorem zxg(p q:Pt):CG0 373 [.agg (ptE p),.agg (ptE q)] [] (.agg (ptE (addP p q))) []:=by
 have h1:=qt p.x;have h2:=qt p.y;have h3:=qt q.x;have h4:=qt q.y;refine zc Tryz.func373 ?_;refine Dr.k<|zb.t (zcG p)<|zb.t (zcG q) ?_;unfold jz;exact Ar.fit (by dsimp only;omega)<|Ar.fit (by dsimp only;omega)<|.refl
theorem uJ(p:Pt):CG0 405 [.agg (ptE p)] [] (.agg (ptE (perpP p))) []:=by
 have h2:=qt p.y;refine zc Tryz.func405 ?_;refine zb.t (zcF p) ?_;unfold jz;exact Ar.fit (by dsimp only;omega)<|.refl
theorem zxh(p q:Pt)(hp:zn p)(hq:zn q):CG0 419 [.agg (ptE p),.agg (ptE q)] [] (i64 (wdg p q)) []:=by
 have h:=zb5 hp hq;unfold wdg at h;refine zc Tryz.func419 ?_;(iterate 3 refine Ar.o ?_);exact .refl
theorem zzK(p q:Pt)(hp:zn p)(hq:zn q):CG0 395 [.agg (ptE p),.agg (ptE q)] [] (i64 (wdg p q)) []:=by
 have h:=zb5 hp hq;unfold wdg at h;refine zc Tryz.func395 ?_;(iterate 3 refine Ar.o ?_);exact .refl
theorem zCc(p q:Pt)(hp:zn p)(hq:zn q):CG0 354 [.agg (ptE p),.agg (ptE q)] [] (i64 (dtp p q)) []:=by
 have h:=zet hp hq;unfold dtp at h;refine zc Tryz.func354 ?_;(iterate 3 refine Ar.o ?_);exact .refl
theorem zzL(p q:Pt):CG0 409 [.agg (ptE p),.agg (ptE q)] [] (i64 (zaw p q)) []:=by
 refine zc Tryz.func409 ?_;exact Dr.k<|zb.t (zcF p)<|zb.t (zcF q)<|zb.t (zxh (jz p) (jz q) (jZ p) (jZ q))<|.refl
theorem zzM(p q:Pt):CG0 410 [.agg (ptE p),.agg (ptE q)] [] (i64 (zaw p q)) []:=by
 refine zc Tryz.func410 ?_;exact Dr.k<|zb.t (zcG p)<|zb.t (zcG q)<|zb.t (zzK (jz p) (jz q) (jZ p) (jZ q))<|.refl
theorem p_dot(p q:Pt):CG0 306 [.agg (ptE p),.agg (ptE q)] [] (i64 (zit p q)) []:=by
 refine zc Tryz.func306 ?_;exact Dr.k<|zb.t (zcF p)<|zb.t (zcF q)<|zb.t (zCc (jz p) (jz q) (jZ p) (jZ q))<|.refl
theorem r_dot(p q:Pt):CG0 314 [.agg (ptE p),.agg (ptE q)] [] (i64 (zit p q)) []:=by
 have h:=zet (jZ p) (jZ q);unfold dtp at h;refine zc Tryz.func314 ?_;refine Dr.k<|zb.t (zcG p)<|zb.t (zcG q) ?_;(iterate 3 refine Ar.o ?_);exact .refl
theorem zj1(p:Pt):0<=zit p p/\zit p p<=2199023255552:=by
 have h:=zet (jZ p) (jZ p);have h1:=jn (jz p).x;have h2:=jn (jz p).y;unfold zit;unfold dtp at*;omega
theorem zhm(p:Pt):0<=zpx p/\zpx p < 4294967296:=by
 have h:=zj1 p;exact⟨(zgf oM oM).1,zxc oM oM⟩
theorem zxi(p:Pt):CG0 243 [.agg (ptE p)] [] (i64 (zpx p)) []:=by
 have h:=zj1 p;have hl:=zhm p;unfold zpx at hl;refine zc Tryz.func243 ?_;refine zb.t (p_dot p p) ?_;(iterate 2 refine Ar.o ?_);exact zb.t (zxf (65536*zit p p) oM)<|Ar.o<|.refl
theorem zxj(p:Pt):CG0 252 [.agg (ptE p)] [] (i64 (zpx p)) []:=by
 have h:=zj1 p;have hl:=zhm p;unfold zpx at hl;refine zc Tryz.func252 ?_;refine zb.t (r_dot p p) ?_;(iterate 2 refine Ar.o ?_);exact zb.t (zta (65536*zit p p) oM)<|Ar.o<|.refl
theorem ziK{a b:Int}{M:Nat}(hb:b≠0)(h:a.natAbs<=M*b.natAbs): -(M:Int)<=zM a b/\zM a b<=M:=by
 have e:=zdD a b
 have:(2*a.natAbs+b.natAbs) / (2*b.natAbs) < M+1:=by
  rw[XR oM];have:(M+1)*(2*b.natAbs)=2*(M*b.natAbs)+2*b.natAbs:=by grind
  omega
 omega
theorem zhn{b:Int}:zM 0 b=0:=by
 have e:=zdD 0 b
 have:(2*(0:Int).natAbs+b.natAbs) / (2*b.natAbs)=0:=by
  by_cases h:b.natAbs=0
  ·rw[h];rfl
  ·exact Kg (by show 0+b.natAbs < _;omega)
 omega
theorem u7{a b:Int}{M:Nat}(h:a.natAbs<=M): -(M:Int)<=zM a b/\zM a b<=M:=by
 by_cases hb:b=0
 ·subst hb;have e:=zdD a 0;rw[show(2*(0:Int).natAbs)=0 by rfl,Nat.div_zero]at e;omega
 ·refine ziK hb (XB h ?_);exact Qz _ oM
theorem uR{a b:Int}(h: -4611686018427387904<=a/\a<=4611686018427387904):y8 (zM a b)=zM a b:=by
 have:=u7 (a:=a) (b:=b) (M:=4611686018427387904) oM;unfold y8;rw[if_pos oM]
theorem zcH{n d:Int}(h:1<=d):0<=qg n 0 d/\qg n 0 d<=d:=by unfold qg;split <;> (try split) <;> omega
theorem zho{n d f t:Int}(hd:1<=d/\d<=1099511627776)(hn:0<=n/\n<=d)(hf: -1048576<=f/\f<=1048576)(ht: -1048576<=t/\t<=1048576):
  (-2305843009213693952<=n*(t - f)/\n*(t - f)<=2305843009213693952)/\(-2097152<=zM (n*(t - f)) d/\zM (n*(t - f)) d<=2097152)/\y8 (zM (n*(t - f)) d)=zM (n*(t - f)) d:=by
 have h1:=jA (A:=d) (B:=2097152) (a:=n) (b:=t - f) oM oM;have h2:(n*(t - f)).natAbs<=2097152*d.natAbs:=oM;have h3:=ziK (M:=2097152) oM h2;exact⟨oM,oM,uR oM⟩
theorem ztc(f t n d:Int)(hd:1<=d/\d<=1099511627776)(hn:0<=n/\n<=d)(hf: -1048576<=f/\f<=1048576)(ht: -1048576<=t/\t<=1048576):
  CG0 72 [i64 f,i64 t,.ptr [i64 n],.ptr [i64 d]] [] (i64 (f+zM (n*(t - f)) d)) []:=by
 have h:=zho hd hn hf ht;refine zc Tryz.func72 ?_;(iterate 2 refine Ar.o ?_);refine zb.t (zN (n*(t - f)) d ⟨oM,oM⟩ ⟨oM,oM⟩) ?_;rw[h.2.2];exact Ar.o<|.refl
theorem znG(a b:Pt)(n d:Int):CG0 34 [.agg (ptE a),.agg (ptE b),i64 n,i64 d] [] (.agg (ptE (qQ a b n d))) []:=by
 have h1:=qt a.x;have h2:=qt a.y;have h3:=qt b.x;have h4:=qt b.y;refine zc Tryz.func34 ?_;refine Dr.k<|zb.t (zcF a)<|zb.t (zcF b)<|⟨λg=>?_,λg=>?_⟩
 ·unfold qQ;rw[if_pos (.inl g)];exact .refl
 refine⟨λg2=>?_,λg2=>?_⟩
 ·unfold qQ;rw[if_pos (.inr g2)];exact .refl
 ·have g:¬(d < 1∨1099511627776 < d):=λh=>h.elim g g2
  have hn:=zcH (n:=n) (d:=d) oM;refine zb.t (zs7 n 0 d)<|Dr.k<|zb.t (ztc (hI a.x) (hI b.x) (qg n 0 d) d oM hn h1 h3)<|zb.t (ztc (hI a.y) (hI b.y) (qg n 0 d) d oM hn h2 h4) ?_;unfold qQ;rw[if_neg g];exact .refl
theorem zdN(a b:Pt)(n d:Int):CG0 36 [.agg (ptE a),.agg (ptE b),i64 n,i64 d] [] (.agg (ptE (qQ a b n d))) []:=by
 have h1:=qt a.x;have h2:=qt a.y;have h3:=qt b.x;have h4:=qt b.y;refine zc Tryz.func36 ?_;refine zb.t (zcG a)<|⟨λg=>?_,λg=>?_⟩
 ·unfold qQ;rw[if_pos (.inl g)];exact .refl
 refine⟨λg2=>?_,λg2=>?_⟩
 ·unfold qQ;rw[if_pos (.inr g2)];exact .refl
 ·have g:¬(d < 1∨1099511627776 < d):=λh=>h.elim g g2
  have hn:=zcH (n:=n) (d:=d) oM;have k1:=zho oM hn h1 h3;have k2:=zho oM hn h2 h4;refine zb.t (ztb b a)<|zb.t (zj0 n 0 d)<|Dr.k<|Ar.fit (by show _<=qg n 0 d*(hI b.x - hI a.x)/\qg n 0 d*(hI b.x - hI a.x)<=_;omega)<|zb.t (uf (qg n 0 d*(hI b.x - hI a.x)) d ⟨oM,oM⟩ ⟨oM,oM⟩) ?_;rw[k1.2.2];refine Ar.fit (by show _<=hI a.x+zM (qg n 0 d*(hI b.x - hI a.x)) d/\hI a.x+zM (qg n 0 d*(hI b.x - hI a.x)) d<=_;omega)<|Ar.fit (by show _<=qg n 0 d*(hI b.y - hI a.y)/\qg n 0 d*(hI b.y - hI a.y)<=_;omega) ?_
  refine zb.t (uf (qg n 0 d*(hI b.y - hI a.y)) d ⟨oM,oM⟩ ⟨oM,oM⟩) ?_;rw[k2.2.2];refine Ar.fit (by show _<=hI a.y+zM (qg n 0 d*(hI b.y - hI a.y)) d/\hI a.y+zM (qg n 0 d*(hI b.y - hI a.y)) d<=_;omega) ?_;unfold qQ;rw[if_neg g];exact .refl
theorem vS(w:Int):CG0 240 [i64 w] [] (pr (ku w)) []:=by
 refine zc Tryz.func240 ?_;refine⟨λh=>?_,λh=>zd (λk=>h k.1)⟩;exact zF ⟨λk=>⟨h,k⟩,λk=>k.2⟩
theorem zBg(n:Int):CG0 406 [i64 n] [] (pr (zbp n)) []:=by
 refine zc Tryz.func406 ?_;refine⟨λh=>zR (.inl h),λh=>?_⟩;exact zF ⟨λk=>.inr k,λk=>k.resolve_left h⟩
theorem zaj(n a b:Int):CG0 126 [i64 n,i64 a,i64 b] [] (pr (a<=n/\n<=b)) []:=by
 refine zc Tryz.func126 ?_;refine⟨λh=>?_,λh=>zd (λk=>h k.1)⟩;exact zF ⟨λk=>⟨h,k⟩,λk=>k.2⟩
theorem znH(w:Int):CG0 125 [i64 w] [] (pr (ku w)) []:=by
 refine zc Tryz.func125 ?_;exact zb.t (zaj w 1 16384)<|zF K7
theorem ztd(a b:Pt)(w:Int):CG0 366 [.agg (ptE a),.agg (ptE b),i64 w] [] (pr (ku w/\zn a/\zn b)) []:=by
 refine zc Tryz.func366 ?_;refine zb.t (kK a)<|⟨λh1=>?_,λh1=>zd (λh=>h1 h.2.1)⟩;refine zb.t (kK b)<|⟨λh2=>?_,λh2=>zd (λh=>h2 h.2.2)⟩;exact zb.t (znH w)<|zF ⟨λh=>⟨h,h1,h2⟩,λh=>h.1⟩
def zdO(out:List (List Sg))(s:Sg):List (List Sg):=if s.v=1 then out++[[s]] else out.dropLast++[out.getLastD []++[s]]
def subs(l:List Sg):List (List Sg):=l.foldl zdO []
end Go.Gs
