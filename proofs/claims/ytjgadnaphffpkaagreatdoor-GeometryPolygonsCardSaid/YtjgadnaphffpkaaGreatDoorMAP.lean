/- Rationals, the program's: arithmetic. -/
import Derived.Test.YtjgadnaphffpkaaGreatDoorMA
import Derived.Test.YtjgadnaphffpkaaGreatDoorMAO
import Derived.Test.YtjgadnaphffpkaaGreatDoorMAL
import Derived.Test.YtjgadnaphffpkaaGreatDoorMAN
set_option maxRecDepth 100000
set_option maxHeartbeats 8000000
set_option linter.all false
namespace Go.Gs
open Go.Proofs
theorem zv1(n d:BI)(hn:n.mag.length<=400000000)(hd:d.mag.length<=400000000)(h0:d.v≠0):
  CG0 151 [.agg (biE n),.agg (biE d)] [] (.tup [.agg (brE (ofQ (Rat.divInt n.v d.v))),i64 0]) []:=by
 refine zc Tryz.func151 ?_;refine zb.t (zjz d oM)<|⟨λh=>absurd (KL.1 h) h0,λ_=>?_⟩;exact zb.t (zfY n d hn hd h0)<|zI .refl .refl
theorem zAW(n d:BI)(hd:d.mag.length<=400000000)(h0:d.v=0):
  CG0 151 [.agg (biE n),.agg (biE d)] [] (.tup [.agg [bl false,.sl dgE [],bl false,.sl dgE []],i64 9]) []:=by
 refine zc Tryz.func151 ?_;refine zb.t (zjz d oM) ?_;rw[h0];refine⟨λ_=>?_,λh=>absurd rfl h⟩;exact zI (qA (.cons .refl (.cons zD (.cons .refl (.cons zD .nil))))) .refl
theorem yq(n:Int)(hn:R64 n):CG0 91 [i64 n] [] (.agg (brE (ofQ (n:Rat)))) []:=by
 refine zc Tryz.func91 ?_;refine zb.t (zed n hn)<|zb.t (zed 1 dC) ?_;have e:ofQ (n:Rat)=⟨ofZ n,ofZ 1⟩:=by unfold ofQ;rw[Jq,Jp];rfl
 rw[e];exact .refl
theorem zqZ(n d:Int)(hn:R64 n)(hd:R64 d)(h0:d≠0):CG0 95 [i64 n,i64 d] [] (.tup [.agg (brE (ofQ (Rat.divInt n d))),i64 0]) []:=by
 refine zc Tryz.func95 ?_;have l1:=qO hn;have l2:=qO hd;refine zb.t (zed n hn)<|zb.t (zed d hd)<|zb.t (zv1 (ofZ n) (ofZ d) (by rw[zS];omega) (by rw[zS];omega) (by rw[zV];exact h0)) ?_;rw[zV,zV];exact zI .refl .refl
theorem qm(a:BR)(ha:a.len<=400000000):CG0 150 [.agg (brE a)] [] (.agg (brE (ofQ a.v))) []:=by
 have h1:a.num.mag.length<=a.len:=QR _ _;have h2:a.den.mag.length<=a.len:=QG _ _;refine zc Tryz.func150 ?_
 by_cases h:a.den.v=0
 ·refine zb.t (zAW a.num a.den oM h)<|Br.y<|zb.t (yq 0 dC) ?_;have e:a.v=((0:Int):Rat):=by unfold BR.v;rw[h,J0];rfl
  rw[e];exact .refl
 ·refine zb.t (zv1 a.num a.den oM oM h)<|⟨λh=>absurd rfl h,λ_=>?_⟩;exact .refl
theorem vz(q:Rat):(ofQ q).num.mag.length<=jY q/\(ofQ q).den.mag.length<=jY q:=⟨qa q,qk q⟩
theorem jT(q:Rat):(ofQ q).num.v=q.num:=zV _
theorem js(q:Rat):(ofQ q).den.v=q.den:=zV _
theorem zm2(a b:BR)(ha:a.len<=100000000)(hb:b.len<=100000000):CG0 153 [.agg (brE a),.agg (brE b)] []
  (.tup [.agg (biE (ofZ (a.v.num*b.v.den))),.agg (biE (ofZ (b.v.num*a.v.den))),.agg (biE (ofZ (a.v.den*b.v.den)))]) []:=by
 have h1:=zH a;have h2:=zH b;have h3:=vz a.v;have h4:=vz b.v;refine zc Tryz.func153 ?_;refine Dr.k<|zb.t (qm a oM)<|zb.t (qm b oM)<|Dr.k<|zb.t (zeM (ofQ a.v).num (ofQ b.v).den oM oM)<|zb.t (zeM (ofQ b.v).num (ofQ a.v).den oM oM) ?_;refine zb.t (zeM (ofQ a.v).den (ofQ b.v).den oM oM) ?_;rw[jT,jT,js,js];exact .refl
theorem zoS(a b:BR)(ha:a.len<=50000000)(hb:b.len<=50000000):CG0 93 [.agg (brE a),.agg (brE b)] [] (.agg (brE (ofQ (a.v+b.v)))) []:=by
 have h1:=zH a;have h2:=zH b;have n1:=qa a.v;have n2:=qa b.v;have d1:=qk a.v;have d2:=qk b.v;have m1:=kM a.v.num b.v.den;have m2:=kM b.v.num a.v.den;have m3:=kM a.v.den b.v.den;have m4:=zfW (a.v.num*b.v.den) (b.v.num*a.v.den);refine zc Tryz.func93 ?_;refine zb.t (zm2 a b oM oM)<|Dr.k<|zb.t (zz8 (ofZ (a.v.num*b.v.den)) (ofZ (b.v.num*a.v.den)) (by rw[zS];omega) (by rw[zS];omega)) ?_;rw[zV,zV]
 refine zb.t (zfY (ofZ (a.v.num*b.v.den+b.v.num*a.v.den)) (ofZ (a.v.den*b.v.den)) (by rw[zS];omega) (by rw[zS];omega) (by rw[zV];exact uY _ _)) ?_;rw[zV,zV,zjD];exact .refl
theorem zsg(a b:BR)(ha:a.len<=50000000)(hb:b.len<=50000000):CG0 149 [.agg (brE a),.agg (brE b)] [] (.agg (brE (ofQ (a.v*b.v)))) []:=by
 have h1:=zH a;have h2:=zH b;have h3:=vz a.v;have h4:=vz b.v;have n1:=qa a.v;have n2:=qa b.v;have d1:=qk a.v;have d2:=qk b.v;have m1:=kM a.v.num b.v.num;have m3:=kM a.v.den b.v.den;refine zc Tryz.func149 ?_;refine Dr.k<|zb.t (qm a oM)<|zb.t (qm b oM)<|Dr.k<|zb.t (zeM (ofQ a.v).num (ofQ b.v).num oM oM)<|zb.t (zeM (ofQ a.v).den (ofQ b.v).den oM oM) ?_;rw[jT,jT,js,js];refine zb.t (zfY (ofZ (a.v.num*b.v.num)) (ofZ (a.v.den*b.v.den)) (by rw[zS];omega) (by rw[zS];omega) (by rw[zV];exact uY _ _)) ?_
 rw[zV,zV,zjE];exact .refl
theorem zsh(a:BR)(ha:a.len<=100000000):CG0 97 [.agg (brE a)] [] (.agg (biE (ofZ a.v.floor))) []:=by
 have h1:=zH a;have h3:=vz a.v;have h0:=a.v.den_nz;refine zc Tryz.func97 ?_;refine zb.t (qm a oM)<|zb.t (zvZ (ofQ a.v).num (ofQ a.v).den oM oM (by rw[js];omega)) ?_;rw[jT,js,← JO];exact .refl
def zbS(q:Rat):Nat:=max (kL q.num.natAbs) (kL q.den)
theorem zbT(a:BR)(ha:a.len<=100000000):CG0 146 [.agg (brE a)] [] (i64 (zbS a.v)) []:=by
 have h1:=zH a;have h3:=vz a.v;refine zc Tryz.func146 ?_;refine zb.t (qm a oM)<|Dr.k<|zb.t (zoR (ofQ a.v).num oM)<|zb.t (zoR (ofQ a.v).den oM) ?_;rw[jT,js,Qx];refine zi ?_;unfold zbS;simp only[zcX];omega
structure AF where
 a:BR
 b:BR
 c:BR
 d:BR
 e:BR
 f:BR
def afE(t:AF):List SV:=brE t.a++(brE t.b++(brE t.c++(brE t.d++(brE t.e++brE t.f))))
def AF.le(t:AF)(n:Nat):Prop:=t.a.len<=n/\t.b.len<=n/\t.c.len<=n/\t.d.len<=n/\t.e.len<=n/\t.f.len<=n
def AF.nth(t:AF):Nat->BR
 | 0=>t.a
 | 1=>t.b
 | 2=>t.c
 | 3=>t.d
 | 4=>t.e
 | _=>t.f
def stage(t:AF):Nat->AF
 | 0=>t
 | 1=>{ t with a:=ofQ t.a.v }
 | 2=>{ t with a:=ofQ t.a.v,b:=ofQ t.b.v }
 | 3=>{ t with a:=ofQ t.a.v,b:=ofQ t.b.v,c:=ofQ t.c.v }
 | 4=>{ t with a:=ofQ t.a.v,b:=ofQ t.b.v,c:=ofQ t.c.v,d:=ofQ t.d.v }
 | 5=>{ t with a:=ofQ t.a.v,b:=ofQ t.b.v,c:=ofQ t.c.v,d:=ofQ t.d.v,e:=ofQ t.e.v }
 | _=>⟨ofQ t.a.v,ofQ t.b.v,ofQ t.c.v,ofQ t.d.v,ofQ t.e.v,ofQ t.f.v⟩
def AF.nrm(t:AF):AF:=⟨ofQ t.a.v,ofQ t.b.v,ofQ t.c.v,ofQ t.d.v,ofQ t.e.v,ofQ t.f.v⟩
def yU:List SV:=(List.replicate 12 [bl false,SV.val (.slice none 0 0)]).flatten
theorem zee(t:AF)(ht:t.le 400000000):CG0 145 [.agg (afE t)] [] (.agg (afE t.nrm)) []:=by
 obtain⟨ha,hb,hc,hd,he,hf⟩:=ht;refine zc Tryz.func145 ?_
 refine⟨Nat,λi=>⟨[(20,i64 i),(19,.agg (afE t)),(3,.loc 2 0),(2,.loc 1 0)],[(2,.box 183 (afE (stage t i))),(1,.box 183 yU),(0,.box 45 (afE t))],3,30,0⟩,
  λi=>i<=6,λi=>6 - i,0,Xe _,?_,?_⟩
 ·exact zf [0,1,2]
 intro i hi;have hi:i=0∨i=1∨i=2∨i=3∨i=4∨i=5∨i=6:=by have hi:i<=6:=hi;omega
 rcases hi with rfl | rfl | rfl | rfl | rfl | rfl | rfl
 ·exact Br.y<|zb.t (qm t.a ha)<|Ar.fit dC<|⟨1,(by show 1<=6;decide),zf [0,1,2],dC⟩
 ·exact Br.y<|zb.t (qm t.b hb)<|Ar.fit dC<|⟨2,(by show 2<=6;decide),zf [0,1,2],dC⟩
 ·exact Br.y<|zb.t (qm t.c hc)<|Ar.fit dC<|⟨3,(by show 3<=6;decide),zf [0,1,2],dC⟩
 ·exact Br.y<|zb.t (qm t.d hd)<|Ar.fit dC<|⟨4,(by show 4<=6;decide),zf [0,1,2],dC⟩
 ·exact Br.y<|zb.t (qm t.e he)<|Ar.fit dC<|⟨5,(by show 5<=6;decide),zf [0,1,2],dC⟩
 ·exact Br.y<|zb.t (qm t.f hf)<|Ar.fit dC<|⟨6,(by show 6<=6;decide),zf [0,1,2],dC⟩
 ·refine⟨λh=>absurd h dC,λ_=>?_⟩;exact .refl
theorem zq0(t:AF):CG0 147 [.agg (afE t)] [] (.agg (afE t)) []:=by
 refine zc Tryz.func147 ?_;exact zfz.own<|.refl
def okI(t:AF):Nat->Prop
 | 0=>True
 | k+1=>okI t k/\zbS (t.nth k).v<=256
def AF.ok(t:AF):Prop:=okI t 6
instance (t:AF):∀n,Decidable (okI t n):=λn=>by
 induction n with
 | zero=>exact isTrue trivial
 | succ k ih=>unfold okI;exact instDecidableAnd
instance (t:AF):Decidable t.ok:=inferInstanceAs (Decidable (okI t 6))
theorem zcu(t:AF)(ht:t.le 100000000):CG0 84 [.agg (afE t)] [] (pr t.ok) []:=by
 have ht':=ht;obtain⟨ha,hb,hc,hd,he,hf⟩:=ht;refine zc Tryz.func84 ?_;refine zb.t (zee t ⟨oM,oM,oM,oM,oM,oM⟩)<|⟨Nat,λi=>⟨[(6,.agg (afE t.nrm)),(7,i64 i)],[],1,14,0⟩,λi=>i<=6/\okI t i,λi=>6 - i,0,⟨Xe _,trivial⟩,?_,?_⟩
 ·exact zE []
 rintro i ⟨hi,ok⟩
 have hi:i=0∨i=1∨i=2∨i=3∨i=4∨i=5∨i=6:=oM
 rcases hi with rfl | rfl | rfl | rfl | rfl | rfl | rfl
 ·refine Br.y ?_;have l1:=zH t.a;refine zb.t (zbT (ofQ t.a.v) (by rw[zB];omega)) ?_;rw[z6];refine⟨λh=>zd (λh'=>?_),λh=>?_⟩
  ·simp only[AF.ok,okI,AF.nth]at h';omega
  exact Ar.fit dC<|⟨1,⟨(by show 1<=6;decide),ok,(by show zbS t.a.v<=256;omega)⟩,zE [],dC⟩
 ·refine Br.y ?_;have l1:=zH t.b;refine zb.t (zbT (ofQ t.b.v) (by rw[zB];omega)) ?_;rw[z6];refine⟨λh=>zd (λh'=>?_),λh=>?_⟩
  ·simp only[AF.ok,okI,AF.nth]at h';omega
  exact Ar.fit dC<|⟨2,⟨(by show 2<=6;decide),ok,(by show zbS t.b.v<=256;omega)⟩,zE [],dC⟩
 ·refine Br.y ?_;have l1:=zH t.c;refine zb.t (zbT (ofQ t.c.v) (by rw[zB];omega)) ?_;rw[z6];refine⟨λh=>zd (λh'=>?_),λh=>?_⟩
  ·simp only[AF.ok,okI,AF.nth]at h';omega
  exact Ar.fit dC<|⟨3,⟨(by show 3<=6;decide),ok,(by show zbS t.c.v<=256;omega)⟩,zE [],dC⟩
 ·refine Br.y ?_;have l1:=zH t.d;refine zb.t (zbT (ofQ t.d.v) (by rw[zB];omega)) ?_;rw[z6];refine⟨λh=>zd (λh'=>?_),λh=>?_⟩
  ·simp only[AF.ok,okI,AF.nth]at h';omega
  exact Ar.fit dC<|⟨4,⟨(by show 4<=6;decide),ok,(by show zbS t.d.v<=256;omega)⟩,zE [],dC⟩
 ·refine Br.y ?_;have l1:=zH t.e;refine zb.t (zbT (ofQ t.e.v) (by rw[zB];omega)) ?_;rw[z6];refine⟨λh=>zd (λh'=>?_),λh=>?_⟩
  ·simp only[AF.ok,okI,AF.nth]at h';omega
  exact Ar.fit dC<|⟨5,⟨(by show 5<=6;decide),ok,(by show zbS t.e.v<=256;omega)⟩,zE [],dC⟩
 ·refine Br.y ?_;have l1:=zH t.f;refine zb.t (zbT (ofQ t.f.v) (by rw[zB];omega)) ?_;rw[z6];refine⟨λh=>zd (λh'=>?_),λh=>?_⟩
  ·simp only[AF.ok,okI,AF.nth]at h';omega
  exact Ar.fit dC<|⟨6,⟨(by show 6<=6;decide),ok,(by show zbS t.f.v<=256;omega)⟩,zE [],dC⟩
 ·refine⟨λh=>absurd h dC,λ_=>?_⟩;exact zT ok
theorem zg5(a b c d:BR)(ha:a.len<=10000000)(hb:b.len<=10000000)(hc:c.len<=10000000)(hd:d.len<=10000000):
  CG0 94 [.agg (brE a),.agg (brE b),.agg (brE c),.agg (brE d)] [] (.agg (brE (ofQ (a.v*b.v+c.v*d.v)))) []:=by
 have l1:=zH a;have l2:=zH b;have l3:=zH c;have l4:=zH d;have m1:=yf a.v b.v;have m2:=yf c.v d.v;refine zc Tryz.func94 ?_;refine Dr.k<|zb.t (zsg a b oM oM)<|zb.t (zsg c d oM oM)<|zb.t (zoS (ofQ (a.v*b.v)) (ofQ (c.v*d.v)) (by rw[zB];omega) (by rw[zB];omega)) ?_;rw[z6,z6];exact .refl
def yX(t:AF)(x y:Rat):Rat:=t.a.v*x+t.c.v*y+t.e.v
def yY(t:AF)(x y:Rat):Rat:=t.b.v*x+t.d.v*y+t.f.v
theorem qh(a b c d e:BR){n:Nat}(h1:a.len<=n)(h2:b.len<=n)(h3:c.len<=n)(h4:d.len<=n)(h5:e.len<=n):jY (a.v*b.v+c.v*d.v)<=4*n+5/\jY (a.v*b.v+c.v*d.v+e.v)<=5*n+7:=by
 have l1:=zH a;have l2:=zH b;have l3:=zH c;have l4:=zH d;have l5:=zH e;have m1:=yf a.v b.v;have m2:=yf c.v d.v;have m3:=za0 (a.v*b.v) (c.v*d.v);have m4:=za0 (a.v*b.v+c.v*d.v) e.v;omega
theorem zis(t:AF)(x y:BR)(ht:t.le 5000000)(hx:x.len<=5000000)(hy:y.len<=5000000):
  CG0 44 [.agg (afE t),.agg (brE x),.agg (brE y)] [] (.tup [.agg (brE (ofQ (yX t x.v y.v))),.agg (brE (ofQ (yY t x.v y.v)))]) []:=by
 obtain⟨ha,hb,hc,hd,he,hf⟩:=ht;have m1:=qh t.a x t.c y t.e ha hx hc hy he;have m2:=qh t.b x t.d y t.f hb hx hd hy hf;refine zc Tryz.func44 ?_;refine Dr.k<|zb.t (zg5 t.a x t.c y oM oM oM oM)<|zb.t (zoS (ofQ (t.a.v*x.v+t.c.v*y.v)) t.e (by rw[zB];omega) oM)<|zb.t (zg5 t.b x t.d y oM oM oM oM)<|zb.t (zoS (ofQ (t.b.v*x.v+t.d.v*y.v)) t.f (by rw[zB];omega) oM) ?_;rw[z6,z6];exact .refl
def afQ(a b c d e f:Rat):AF:=⟨ofQ a,ofQ b,ofQ c,ofQ d,ofQ e,ofQ f⟩
theorem zAX(a b c d:Int)(ha:R64 a)(hb:R64 b)(hc:R64 c)(hd:R64 d):CG0 144 [i64 a,i64 b,i64 c,i64 d] [] (.agg (afE (afQ a b c d ((0:Int):Rat) ((0:Int):Rat)))) []:=by
 refine zc Tryz.func144 ?_;refine zb.t (yq a ha)<|zb.t (yq b hb)<|zb.t (yq c hc)<|zb.t (yq d hd)<|zb.t (yq 0 dC)<|zb.t (yq 0 dC) ?_;exact zb.t (zq0 (afQ a b c d ((0:Int):Rat) ((0:Int):Rat)))<|.refl
theorem zq1:CG0 83 [] [] (.agg (afE (afQ ((1:Int):Rat) ((0:Int):Rat) ((0:Int):Rat) ((1:Int):Rat) ((0:Int):Rat) ((0:Int):Rat)))) []:=by
 refine zc Tryz.func83 ?_;exact zb.t (zAX 1 0 0 1 dC dC dC dC)<|.refl
theorem z_cmp(a b:BI)(ha:a.mag.length<=800000000)(hb:b.mag.length<=800000000):CG0 154 [.agg (biE a),.agg (biE b)] [] (i64 (a.v - b.v).sign) []:=by
 refine zc Tryz.func154 ?_;refine zb.t (zoQ a b ha hb) ?_;have h1:=zjs a.v b.v;have h2:=zan a;have h3:=zan b;refine zb.t (zjz (ofZ (a.v - b.v)) (by rw[zS];omega)) ?_;rw[zV];exact .refl
def zg6(x y:Rat):Int:=(x.num*y.den - y.num*x.den).sign
theorem zoT{z:Int}:0<=z.sign↔0<=z:=by
 rcases KY z 0 with h | h | h
 ·rw[Kb h];omega
 ·subst h;decide
 ·rw[Kk h];omega
theorem zm3{x y:Rat}:0<=zg6 x y↔y<=x:=by
 rw[Rat.le_iff];unfold zg6;rw[zoT];omega
theorem zv2(x y:Rat):zg6 y x= - zg6 x y:=by
 unfold zg6;rw[show y.num*x.den - x.num*y.den= -(x.num*y.den - y.num*x.den) by omega,Int.sign_neg]
theorem zsi{x y:Rat}:zg6 x y<=0↔x<=y:=by
 have:=zm3 (x:=y) (y:=x);rw[zv2]at this;rw[← this];omega
theorem zfZ(a b:BR)(ha:a.len<=100000000)(hb:b.len<=100000000):CG0 90 [.agg (brE a),.agg (brE b)] [] (i64 (zg6 a.v b.v)) []:=by
 have h1:=zH a;have h2:=zH b;have n1:=qa a.v;have n2:=qa b.v;have d1:=qk a.v;have d2:=qk b.v;have m1:=kM a.v.num b.v.den;have m2:=kM b.v.num a.v.den;refine zc Tryz.func90 ?_;refine zb.t (zm2 a b oM oM)<|zb.t (z_cmp (ofZ (a.v.num*b.v.den)) (ofZ (b.v.num*a.v.den)) (by rw[zS];omega) (by rw[zS];omega)) ?_;rw[zV,zV];exact .refl
theorem q_sub(a b:BR)(ha:a.len<=50000000)(hb:b.len<=50000000):CG0 148 [.agg (brE a),.agg (brE b)] [] (.agg (brE (ofQ (a.v - b.v)))) []:=by
 have h1:=zH a;have h2:=zH b;have n1:=qa a.v;have n2:=qa b.v;have d1:=qk a.v;have d2:=qk b.v;have m1:=kM a.v.num b.v.den;have m2:=kM b.v.num a.v.den;have m3:=kM a.v.den b.v.den;have m4:=zjs (a.v.num*b.v.den) (b.v.num*a.v.den);refine zc Tryz.func148 ?_;refine zb.t (zm2 a b oM oM)<|Dr.k<|zb.t (zoQ (ofZ (a.v.num*b.v.den)) (ofZ (b.v.num*a.v.den)) (by rw[zS];omega) (by rw[zS];omega)) ?_;rw[zV,zV]
 refine zb.t (zfY (ofZ (a.v.num*b.v.den - b.v.num*a.v.den)) (ofZ (a.v.den*b.v.den)) (by rw[zS];omega) (by rw[zS];omega) (by rw[zV];exact uY _ _)) ?_;rw[zV,zV,zv0];exact .refl
theorem v9(x:Rat):jY (-x)=jY x:=by
 unfold jY;rw[Rat.neg_num,Rat.neg_den,v7]
theorem zoU(x y:Rat):jY (x - y)<=jY x+jY y+1:=by
 have:=za0 x (-y);rw[v9,← JE]at this;exact this
theorem zoV(x y:Rat):Rat.divInt (x.num*y.den) (x.den*y.num)=x / y:=by
 have:=Yd x.num (y.den:Int) (d₁:=x.den) (d₂:=y.num);rw[KW,← Rat.inv_def]at this;exact this.symm
theorem q_quo(a b:BR)(ha:a.len<=50000000)(hb:b.len<=50000000)(h0:b.v≠0):CG0 89 [.agg (brE a),.agg (brE b)] [] (.tup [.agg (brE (ofQ (a.v / b.v))),i64 0]) []:=by
 have h1:=zH a;have h2:=zH b;have h3:=vz a.v;have h4:=vz b.v;have n1:=qa a.v;have n2:=qa b.v;have d1:=qk a.v;have d2:=qk b.v;have m1:=kM a.v.num b.v.den;have m3:=kM a.v.den b.v.num;refine zc Tryz.func89 ?_;refine Dr.k<|zb.t (qm a oM)<|zb.t (qm b oM)<|Dr.k<|zb.t (zeM (ofQ a.v).num (ofQ b.v).den oM oM)<|zb.t (zeM (ofQ a.v).den (ofQ b.v).num oM oM) ?_;rw[jT,jT,js,js]
 refine zb.to _ (zv1 (ofZ (a.v.num*b.v.den)) (ofZ (a.v.den*b.v.num)) (by rw[zS];omega) (by rw[zS];omega) (by
  rw[zV];exact JX (zdt _) (λh=>h0 (Rat.num_eq_zero.1 h)))) rfl ?_
 rw[zV,zV,zoV];exact .refl
theorem zsj(a:BR)(ha:a.len<=100000000):CG0 92 [.agg (brE a)] [] (.agg (brE (ofQ (-a.v)))) []:=by
 have h1:=zH a;have h3:=vz a.v;refine zc Tryz.func92 ?_;refine zb.t (qm a oM)<|Dr.k<|zb.t (zz7 (ofQ a.v).num oM) ?_;rw[jT,show ofQ (-a.v)=⟨ofZ (-a.v.num),ofZ a.v.den⟩ by unfold ofQ;rw[Rat.neg_num,Rat.neg_den]];exact .refl
def AF.same(t u:AF):Prop:=t.a.v=u.a.v/\t.b.v=u.b.v/\t.c.v=u.c.v/\t.d.v=u.d.v/\t.e.v=u.e.v/\t.f.v=u.f.v
instance (t u:AF):Decidable (t.same u):=inferInstanceAs (Decidable (_/\_))
theorem qU{x y:Rat}:zg6 x y=0↔x=y:=by
 constructor
 ·intro h;exact Rat.le_antisymm (zsi.1 oM) (zm3.1 oM)
 ·rintro rfl
  unfold zg6;rw[Int.sub_self];rfl
theorem AF.le_len{t:AF}{n:Nat}(h:t.le n):t.nrm.le (max n 1):=by
 obtain⟨h1,h2,h3,h4,h5,h6⟩:=h;have l1:=zH t.a;have l2:=zH t.b;have l3:=zH t.c;have l4:=zH t.d;have l5:=zH t.e;have l6:=zH t.f;refine⟨?_,?_,?_,?_,?_,?_⟩ <;> (show(ofQ _).len<=_;rw[zB];omega)
def zv3(t u:AF):Nat->Prop
 | 0=>True
 | k+1=>zv3 t u k/\(t.nth k).v=(u.nth k).v
theorem zsk(t u:AF)(ht:t.le 10000000)(hu:u.le 10000000):CG0 399 [.agg (afE t),.agg (afE u)] [] (pr (t.same u)) []:=by
 refine zc Tryz.func399 ?_;refine Dr.k ?_;obtain⟨ha,hb,hc,hd,he,hf⟩:=ht;obtain⟨ka,kb,kc,kd,ke,kf⟩:=hu;refine zb.t (zee t ⟨oM,oM,oM,oM,oM,oM⟩)<|zb.t (zee u ⟨oM,oM,oM,oM,oM,oM⟩)<|⟨Nat,λi=>⟨[(14,i64 i),(13,.agg (afE t.nrm)),(6,.loc 3 0)],[(3,.box 183 (afE u.nrm))],4,25,0⟩,λi=>i<=6/\zv3 t u i,λi=>6 - i,0,⟨Xe _,trivial⟩,?_,?_⟩
 ·exact zE [(3,some 3)]
 rintro i ⟨hi,ok⟩
 have hi:i=0∨i=1∨i=2∨i=3∨i=4∨i=5∨i=6:=oM;have l1:=zH t.a;have l2:=zH t.b;have l3:=zH t.c;have l4:=zH t.d;have l5:=zH t.e;have l6:=zH t.f;have j1:=zH u.a;have j2:=zH u.b;have j3:=zH u.c;have j4:=zH u.d;have j5:=zH u.e;have j6:=zH u.f
 rcases hi with rfl | rfl | rfl | rfl | rfl | rfl | rfl
 ·refine Br.y<|Dr.k<|zb.t (zfZ (ofQ t.a.v) (ofQ u.a.v) (by rw[zB];omega) (by rw[zB];omega)) ?_;rw[z6,z6];refine⟨λh=>zd (λh1=>h (qU.2 h1.1)),λh=>?_⟩;have h:=qU.1 (Xa.1 h);exact Ar.fit dC<|⟨1,⟨(by show 1<=6;decide),ok,h⟩,zE [(3,some 3)],dC⟩
 ·refine Br.y<|Dr.k<|zb.t (zfZ (ofQ t.b.v) (ofQ u.b.v) (by rw[zB];omega) (by rw[zB];omega)) ?_;rw[z6,z6];refine⟨λh=>zd (λh1=>h (qU.2 h1.2.1)),λh=>?_⟩;have h:=qU.1 (Xa.1 h);exact Ar.fit dC<|⟨2,⟨(by show 2<=6;decide),ok,h⟩,zE [(3,some 3)],dC⟩
 ·refine Br.y<|Dr.k<|zb.t (zfZ (ofQ t.c.v) (ofQ u.c.v) (by rw[zB];omega) (by rw[zB];omega)) ?_;rw[z6,z6];refine⟨λh=>zd (λh1=>h (qU.2 h1.2.2.1)),λh=>?_⟩;have h:=qU.1 (Xa.1 h);exact Ar.fit dC<|⟨3,⟨(by show 3<=6;decide),ok,h⟩,zE [(3,some 3)],dC⟩
 ·refine Br.y<|Dr.k<|zb.t (zfZ (ofQ t.d.v) (ofQ u.d.v) (by rw[zB];omega) (by rw[zB];omega)) ?_;rw[z6,z6];refine⟨λh=>zd (λh1=>h (qU.2 h1.2.2.2.1)),λh=>?_⟩;have h:=qU.1 (Xa.1 h);exact Ar.fit dC<|⟨4,⟨(by show 4<=6;decide),ok,h⟩,zE [(3,some 3)],dC⟩
 ·refine Br.y<|Dr.k<|zb.t (zfZ (ofQ t.e.v) (ofQ u.e.v) (by rw[zB];omega) (by rw[zB];omega)) ?_;rw[z6,z6];refine⟨λh=>zd (λh1=>h (qU.2 h1.2.2.2.2.1)),λh=>?_⟩;have h:=qU.1 (Xa.1 h);exact Ar.fit dC<|⟨5,⟨(by show 5<=6;decide),ok,h⟩,zE [(3,some 3)],dC⟩
 ·refine Br.y<|Dr.k<|zb.t (zfZ (ofQ t.f.v) (ofQ u.f.v) (by rw[zB];omega) (by rw[zB];omega)) ?_;rw[z6,z6];refine⟨λh=>zd (λh1=>h (qU.2 h1.2.2.2.2.2)),λh=>?_⟩;have h:=qU.1 (Xa.1 h);exact Ar.fit dC<|⟨6,⟨(by show 6<=6;decide),ok,h⟩,zE [(3,some 3)],dC⟩
 ·refine⟨λh=>absurd h dC,λ_=>?_⟩;obtain⟨⟨⟨⟨⟨⟨_,o1⟩,o2⟩,o3⟩,o4⟩,o5⟩,o6⟩:=ok;exact zT ⟨o1,o2,o3,o4,o5,o6⟩
theorem zaH{q:Rat}(h:zbS q<=256):jY q<=8:=by
 have key:∀n:Nat,kL n<=256->(zm n).length<=8:=λn hn=>jN (by
  have:=zdp n;have h2:2 ^ kL n<=2 ^ 256:=XH dC hn;have h3:(4294967296:Nat) ^ 8=2 ^ 256:=dC
  rw[h3];omega)
 unfold zbS at h;unfold jY jp;have h1:=key q.num.natAbs oM;have h2:=key q.den oM;rw[Qx];omega
theorem ok_le{t:AF}(h:t.nrm.ok):t.nrm.le 8:=by
 obtain⟨⟨⟨⟨⟨⟨_,o1⟩,o2⟩,o3⟩,o4⟩,o5⟩,o6⟩:=h;simp only[AF.nth,AF.nrm,z6]at o1 o2 o3 o4 o5 o6
 exact⟨by show(ofQ _).len<=_;rw[zB];exact zaH o1,by show(ofQ _).len<=_;rw[zB];exact zaH o2,by show(ofQ _).len<=_;rw[zB];exact zaH o3,
  by show(ofQ _).len<=_;rw[zB];exact zaH o4,by show(ofQ _).len<=_;rw[zB];exact zaH o5,by show(ofQ _).len<=_;rw[zB];exact zaH o6⟩
def yr(t:AF):Rat:=t.a.v*t.d.v - t.b.v*t.c.v
theorem zhQ(t:AF)(ht:t.le 10000000):CG0 87 [.agg (afE t)] [] (.agg (brE (ofQ (yr t)))) []:=by
 obtain⟨ha,hb,hc,hd,he,hf⟩:=ht;have l1:=zH t.a;have l2:=zH t.b;have l3:=zH t.c;have l4:=zH t.d;have m1:=yf t.a.v t.d.v;have m2:=yf t.b.v t.c.v;refine zc Tryz.func87 ?_;refine Dr.k<|zb.t (zsg t.a t.d oM oM)<|zb.t (zsg t.b t.c oM oM)<|zb.t (q_sub (ofQ (t.a.v*t.d.v)) (ofQ (t.b.v*t.c.v)) (by rw[zB];omega) (by rw[zB];omega)) ?_;rw[z6,z6];exact .refl
theorem zhR(t:AF)(ht:t.le 100000000):CG0 86 [.agg (afE t)] [] (.agg (afE t.nrm)) []:=by
 obtain⟨ha,hb,hc,hd,he,hf⟩:=ht;refine zc Tryz.func86 ?_;exact zb.t (zee t ⟨oM,oM,oM,oM,oM,oM⟩)<|zb.t (zq0 t.nrm)<|.refl
def beh(t u:AF):AF:=afQ (u.a.v*t.a.v+u.c.v*t.b.v) (u.b.v*t.a.v+u.d.v*t.b.v) (u.a.v*t.c.v+u.c.v*t.d.v) (u.b.v*t.c.v+u.d.v*t.d.v) (yX u t.e.v t.f.v) (yY u t.e.v t.f.v)
theorem zv4(t u:AF)(ht:t.le 1000000)(hu:u.le 1000000):CG0 85 [.agg (afE t),.agg (afE u)] [] (.agg (afE (beh t u))) []:=by
 have ht':=ht;have hu':=hu;obtain⟨ha,hb,hc,hd,he,hf⟩:=ht;obtain⟨ka,kb,kc,kd,ke,kf⟩:=hu;refine zc Tryz.func85 ?_;refine zb.t (zis u t.e t.f ⟨oM,oM,oM,oM,oM,oM⟩ oM oM)<|Dr.k<|zb.t (zg5 u.a t.a u.c t.b oM oM oM oM)<|zb.t (zg5 u.b t.a u.d t.b oM oM oM oM)<|zb.t (zg5 u.a t.c u.c t.d oM oM oM oM)<|zb.t (zg5 u.b t.c u.d t.d oM oM oM oM) ?_;exact zb.t (zq0 (beh t u))<|.refl
theorem zv5{t u:AF}{n:Nat}(ht:t.le n)(hu:u.le n):(beh t u).le (5*n+7):=by
 obtain⟨ha,hb,hc,hd,he,hf⟩:=ht;obtain⟨ka,kb,kc,kd,ke,kf⟩:=hu;have m1:=qh u.a t.a u.c t.b u.e ka ha kc hb ke;have m2:=qh u.b t.a u.d t.b u.e kb ha kd hb ke;have m3:=qh u.a t.c u.c t.d u.e ka hc kc hd ke;have m4:=qh u.b t.c u.d t.d u.e kb hc kd hd ke;have m5:=qh u.a t.e u.c t.f u.e ka he kc hf ke;have m6:=qh u.b t.e u.d t.f u.f kb he kd hf kf;refine⟨?_,?_,?_,?_,?_,?_⟩ <;> (show(ofQ _).len<=_;rw[zB])
 ·omega
 ·omega
 ·omega
 ·omega
 ·exact m5.2
 ·exact m6.2
theorem zAY(a b:List Dig)(ha:a.length<=400000000)(hb:b.length<=400000000):
  CG0 161 [.sl dgE a,.sl dgE b] [] (.sl dgE (zm (Nat.gcd (val a) (val b)))) []:=by
 refine zc Tryz.func161 ?_;refine zb.t (uK _ oM)<|zb.t (uK _ oM) ?_;have hla:=zJ a;have hlb:=zJ b
 refine⟨Nat×Nat,λ⟨A,B⟩=>⟨[(5,.sl dgE (zm A)),(6,.sl dgE (zm B))],[],0,27,0⟩,
  λx=>(zm x.1).length<=400000000/\(zm x.2).length<=400000000/\Nat.gcd x.1 x.2=Nat.gcd (val a) (val b),λx=>x.2,(val a,val b),?_,?_,?_⟩
 ·exact⟨by dsimp only;omega,by dsimp only;omega,rfl⟩
 ·exact zE []
 rintro⟨A,B⟩ ⟨h1,h2,h3⟩
 dsimp only at h1 h2 h3;intro hl;refine⟨λk=>?_,λk=>?_⟩
 ·have hB:B≠0:=jB.1 oM;refine zb.t (zg1 (zm A) (zm B) oM oM (by rw[zo];exact hB)) ?_;rw[zo,zo];have hm:=Kl A (X5 hB);refine⟨(B,A % B),⟨h2,Xz (qr (Ym hm)) h2,?_⟩,zE [],hm⟩;dsimp only;rw[← h3,QF B,QF A B,Nat.gcd_rec B A]
 ·have hB:B=0:=yI.1 (XJ.1 oM);subst hB;rw[Nat.gcd_zero_right]at h3;exact z9 (by rw[h3])
theorem zyB(m:List Dig)(hm:m.length<=1000000000):CG0 101 [bl false,.sl dgE m] [] (.agg (biE (ofZ (val m)))) []:=by
 have:=(zao False m hm).args (.cons (zd id) (.cons .refl .nil))
 rwa [if_neg id]at this
theorem zm4(a:BI)(hm:a.mag.length<=1000000000):CG0 162 [.agg (biE a)] [] (.agg (biE (ofZ (-a.v)))) []:=by
 refine zc Tryz.func162 ?_;refine zb.t (zao (¬a.neg=true) a.mag hm) ?_
 have:(if ¬a.neg=true then -(val a.mag:Int) else(val a.mag:Int))= -a.v:=by
  rcases a.v_eq with⟨h1,h2⟩ | ⟨h1,h2⟩ <;> simp[h1,h2]
 rw[this];exact .refl
theorem zq2(a b:BI)(ha:a.mag.length<=800000000)(hb:b.mag.length<=800000000):CG0 164 [.agg (biE a),.agg (biE b)] [] (.agg (biE (ofZ (a.v+b.v)))) []:=by
 refine zc Tryz.func164 ?_;refine⟨λh=>?_,λh=>?_⟩
 ·refine Dr.k<|zb.t (zio a.mag b.mag oM oM) ?_;have hl:=zbR ha hb;refine zb.t (zao (a.neg=true) _ oM) ?_
  have:(if a.neg=true then -(val (zm (val a.mag+val b.mag)):Int) else(val (zm (val a.mag+val b.mag)):Int))=a.v+b.v:=by
   rw[zo]
   rcases a.v_eq with⟨h1,h2⟩ | ⟨h1,h2⟩ <;> rcases b.v_eq with⟨h3,h4⟩ | ⟨h3,h4⟩ <;> simp[h1,h3]at h <;> simp[h1,h2,h4] <;> omega
  rw[this];exact .refl
 ·refine zb.t (zmW a.mag b.mag oM oM) ?_;have hl:(zm (val a.mag - val b.mag)).length<=1000000000:=Xz (qr (Yl _ _)) (Xz (zJ _) oM);have hl2:(zm (val b.mag - val a.mag)).length<=1000000000:=Xz (qr (Yl _ _)) (Xz (zJ _) oM);refine⟨λh2=>?_,λh2=>?_⟩
  ·refine zb.t (zao (a.neg=true) _ hl) ?_
   have:(if a.neg=true then -(val (zm (val a.mag - val b.mag)):Int) else(val (zm (val a.mag - val b.mag)):Int))=a.v+b.v:=by
    rw[zo]
    rcases a.v_eq with⟨h1,h2⟩ | ⟨h1,h2⟩ <;> rcases b.v_eq with⟨h3,h4⟩ | ⟨h3,h4⟩ <;> simp[h1,h3]at h <;> simp[h1,h2,h4] <;> omega
   rw[this];exact .refl
  ·refine zb.t (zmW b.mag a.mag oM oM)<|zb.t (zao (b.neg=true) _ hl2) ?_
   have:(if b.neg=true then -(val (zm (val b.mag - val a.mag)):Int) else(val (zm (val b.mag - val a.mag)):Int))=a.v+b.v:=by
    rw[zo]
    rcases a.v_eq with⟨h1,h2⟩ | ⟨h1,h2⟩ <;> rcases b.v_eq with⟨h3,h4⟩ | ⟨h3,h4⟩ <;> simp[h1,h3]at h <;> simp[h3,h2,h4] <;> omega
   rw[this];exact .refl
theorem zv6(a b:BI)(ha:a.mag.length<=800000000)(hb:b.mag.length<=800000000):CG0 100 [.agg (biE a),.agg (biE b)] [] (.agg (biE (ofZ (a.v - b.v)))) []:=by
 refine zc Tryz.func100 ?_;refine Dr.k<|zb.t (zm4 b oM) ?_;have h1:=zan b;refine zb.t (zq2 a (ofZ (-b.v)) oM (by rw[zS,v7];omega)) ?_;rw[zV,← QS];exact .refl
theorem zlz(a:BI)(ha:a.mag.length<=900000000):CG0 234 [.agg (biE a)] [] (i64 (kL a.v.natAbs)) []:=by
 refine zc Tryz.func234 ?_;refine zb.t (zlw a.mag ha) ?_;rw[BI.v_abs];exact .refl
theorem zAZ{A B:Nat}(hB:0 < B):(A % B=0-> -(A:Int) / B= -((A / B:Nat):Int)/\ -(A:Int) % B= -((A % B:Nat):Int))/\(A % B≠0-> -(A:Int) / B= -((A / B:Nat):Int) - 1/\ -(A:Int) % B= -((A % B:Nat):Int)+B):=by
 have hdm:=X3 A B;have hm:=Kl A hB;generalize A / B=q at*;generalize A % B=r at*;have e:(B:Int)*(q:Int)=((B*q:Nat):Int):=(X0 _ _).symm;have hB':(0:Int) < B:=oM;refine⟨λh=>(K6 hB').2 ⟨?_,oM,oM⟩,λh=>(K6 hB').2 ⟨?_,oM,oM⟩⟩
 ·rw[QC,e];omega
 ·rw[Int.mul_sub,QC,e,Int.mul_one];omega
theorem zbU(a b:BI)(ha:a.mag.length<=200000000)(hb:b.mag.length<=200000000)(h0:0 < b.v):
  CG0 163 [.agg (biE a),.agg (biE b)] [] (.tup [.agg (biE (ofZ (a.v / b.v))),.agg (biE (ofZ (a.v % b.v))),i64 0]) []:=by
 have hbv:b.neg=false/\b.v=(val b.mag:Int):=by
  rcases b.v_eq with⟨h1,h2⟩ | h
  ·omega
  ·exact h
 have hB:0 < val b.mag:=oM;have q1:(zm (val a.mag / val b.mag)).length<=200000000:=Xz (qr (KT _ _)) (Xz (zJ _) ha);have r1:(zm (val a.mag % val b.mag)).length<=200000000:=Xz (qr (Nat.mod_le _ _)) (Xz (zJ _) ha);have nb:¬b.neg=true:=by rw[hbv.1];decide
 refine zc Tryz.func163 ?_;refine zb.t (zcs b oM)<|⟨λh=>absurd (KL.1 h) oM,λ_=>?_⟩;refine zb.t (zg1 a.mag b.mag oM oM oM)<|zb.t (zao (¬(a.neg=true↔b.neg=true)) _ oM)<|zb.t (zao (a.neg=true) _ oM) ?_;rw[zo,zo]
 rcases a.v_eq with⟨h1,h2⟩ | ⟨h1,h2⟩
 ·have pa:¬(a.neg=true↔b.neg=true):=by rw[h1,hbv.1];decide
  rw[if_pos pa,if_pos h1];refine⟨λh3=>?_,λh3=>absurd pa h3⟩;have nd:=zAZ (A:=val a.mag) hB;rw[← h2,← hbv.2]at nd;have k1:jp (-((val a.mag / val b.mag:Nat):Int))<=200000000:=by rw[v7];exact q1
  have k2:jp (-((val a.mag % val b.mag:Nat):Int))<=200000000:=by rw[v7];exact r1
  refine zb.t (zcs (ofZ (-((val a.mag % val b.mag:Nat):Int))) (by rw[zS];omega)) ?_;rw[zV];refine⟨λh4=>?_,λh4=>?_⟩
  ·have hr:val a.mag % val b.mag≠0:=λh=>h4 (by rw[h];rfl)
   refine Dr.k<|zb.t (jO 1 dC)<|zb.t (zv6 (ofZ (-((val a.mag / val b.mag:Nat):Int))) (ofZ 1) (by rw[zS];omega) (by decide +kernel))<|zb.t (zq2 (ofZ (-((val a.mag % val b.mag:Nat):Int))) b (by rw[zS];omega) oM) ?_;rw[zV,zV,zV,(nd.2 hr).1,(nd.2 hr).2];exact .refl
  ·have hr:val a.mag % val b.mag=0:=by
    have:(-((val a.mag % val b.mag:Nat):Int))=0:=KL.1 (Xa.1 h4);omega
   refine Dr.d<|Ob.mk (by kernel_rfl) ?_;rw[← (nd.1 hr).1,← (nd.1 hr).2];exact .refl
 ·have pa:¬¬(a.neg=true↔b.neg=true):=by rw[h1,hbv.1];decide
  have na:¬a.neg=true:=by rw[h1];decide
  rw[if_neg pa,if_neg na];refine⟨λh3=>absurd h3 pa,λh3=>?_⟩;refine Dr.d<|Ob.mk (by kernel_rfl) ?_;rw[h2,hbv.2,← JP,← Ja];exact .refl
theorem jf(n:Int)(hn:R64 n):CG0 23 [i64 n] [] (.agg (brE (ofQ (n:Rat)))) []:=by
 refine zc Tryz.func23 ?_;refine zb.t (jO n hn)<|zb.t (jO 1 dC) ?_;have e:ofQ (n:Rat)=⟨ofZ n,ofZ 1⟩:=by unfold ofQ;rw[Jq,Jp];rfl
 rw[e];exact .refl
theorem zef(n d:BI)(hn:n.mag.length<=200000000)(hd:d.mag.length<=200000000)(h0:d.v≠0):
  CG0 99 [.agg (biE n),.agg (biE d)] [] (.agg (brE (ofQ (Rat.divInt n.v d.v)))) []:=by
 refine zc Tryz.func99 ?_;refine zb.t (zAY n.mag d.mag oM oM) ?_;have hdz:val d.mag≠0:=by rw[← d.v_abs];omega
 have hg0:0 < Nat.gcd (val n.mag) (val d.mag):=QQ _ oM
 have hgl:(zm (Nat.gcd (val n.mag) (val d.mag))).length<=200000000:=
  Xz (qr (Nat.gcd_le_right _ oM)) (Xz (zJ _) hd)
 have hnum:=Rat.num_divInt n.v d.v;have hden:=Rat.den_divInt n.v d.v
 have hg:d.v.gcd n.v=Nat.gcd (val n.mag) (val d.mag):=by
  rw[← n.v_abs,← d.v_abs];exact QF _ _
 rw[hg]at hnum hden;rw[if_neg h0]at hden;have ln:=zan n;have ld:=zan d;generalize Nat.gcd (val n.mag) (val d.mag)=g at*;refine zb.t (zyB (zm g) oM) ?_;rw[zo];have zg:jp (g:Int)<=200000000:=hgl
 have fin:∀N D:Int,N=d.v.sign*n.v->D=(d.v.natAbs:Int)->ofQ (Rat.divInt n.v d.v)=⟨ofZ (N / (g:Int)),ofZ (D / (g:Int))⟩:=λN D hN hD=>by
  unfold ofQ;rw[hnum,hden,hN,hD];rfl
 refine zb.t (zcs d oM)<|⟨λh=>?_,λh=>?_⟩
 ·have hneg:d.v < 0:=by
   rcases KY d.v 0 with k | k | k
   ·exact k
   ·exact absurd k h0
   ·rw[Kk k]at h;omega
  refine zb.t (zm4 n oM)<|zb.t (zm4 d oM)<|zb.t (zbU (ofZ (-n.v)) (ofZ (g:Int)) (by rw[zS,v7];omega) (by rw[zS];omega) (by rw[zV];omega))<|zb.t (zbU (ofZ (-d.v)) (ofZ (g:Int)) (by rw[zS,v7];omega) (by rw[zS];omega) (by rw[zV];omega)) ?_;rw[zV,zV,zV,fin (-n.v) (-d.v) (by rw[Kb hneg];omega) oM];exact .refl
 ·have hpos:0 < d.v:=by
   rcases KY d.v 0 with k | k | k
   ·rw[Kb k]at h;omega
   ·exact absurd k h0
   ·exact k
  refine zb.t (zbU n (ofZ (g:Int)) oM (by rw[zS];omega) (by rw[zV];omega))<|zb.t (zbU d (ofZ (g:Int)) oM (by rw[zS];omega) (by rw[zV];omega)) ?_;rw[zV,fin n.v d.v (by rw[Kk hpos];omega) oM];exact .refl
theorem zA0(n d:BI)(hn:n.mag.length<=200000000)(hd:d.mag.length<=200000000)(h0:d.v≠0):
  CG0 237 [.agg (biE n),.agg (biE d)] [] (.tup [.agg (brE (ofQ (Rat.divInt n.v d.v))),i64 0]) []:=by
 refine zc Tryz.func237 ?_;refine zb.t (zcs d oM)<|⟨λh=>absurd (KL.1 h) h0,λ_=>?_⟩;exact zb.t (zef n d hn hd h0)<|zI .refl .refl
theorem zoW(n d:Int)(hn:R64 n)(hd:R64 d)(h0:d≠0):CG0 179 [i64 n,i64 d] [] (.tup [.agg (brE (ofQ (Rat.divInt n d))),i64 0]) []:=by
 refine zc Tryz.func179 ?_;have l1:=qO hn;have l2:=qO hd;refine zb.t (jO n hn)<|zb.t (jO d hd)<|zb.t (zA0 (ofZ n) (ofZ d) (by rw[zS];omega) (by rw[zS];omega) (by rw[zV];exact h0)) ?_;rw[zV,zV];exact zI .refl .refl
theorem kv(a:BR)(ha:a.len<=200000000):CG0 47 [.agg (brE a)] [] (.agg (brE (ofQ a.v))) []:=by
 have h1:a.num.mag.length<=a.len:=QR _ _;have h2:a.den.mag.length<=a.len:=QG _ _;refine zc Tryz.func47 ?_;refine zb.t (zcs a.den oM)<|⟨λh=>?_,λh=>?_⟩
 ·refine zb.t (jf 0 dC) ?_;have e:a.v=((0:Int):Rat):=by unfold BR.v;rw[KL.1 h,J0];rfl
  rw[e];exact .refl
 ·exact zb.t (zef a.num a.den oM oM (λk=>h (by rw[k];rfl)))<|.refl
theorem zdv(a b:BR)(ha:a.len<=50000000)(hb:b.len<=50000000):CG0 176 [.agg (brE a),.agg (brE b)] [] (.agg (brE (ofQ (a.v+b.v)))) []:=by
 have h1:=zH a;have h2:=zH b;have h3:=vz a.v;have h4:=vz b.v;have n1:=qa a.v;have n2:=qa b.v;have d1:=qk a.v;have d2:=qk b.v;have m1:=kM a.v.num b.v.den;have m2:=kM b.v.num a.v.den;have m3:=kM a.v.den b.v.den;have m4:=zfW (a.v.num*b.v.den) (b.v.num*a.v.den);refine zc Tryz.func176 ?_;refine Dr.k<|zb.t (kv a oM)<|zb.t (kv b oM)<|Dr.k<|zb.t (zct (ofQ a.v).num (ofQ b.v).den oM oM)<|zb.t (zct (ofQ b.v).num (ofQ a.v).den oM oM) ?_;rw[jT,jT,js,js]
 refine zb.t (zq2 (ofZ (a.v.num*b.v.den)) (ofZ (b.v.num*a.v.den)) (by rw[zS];omega) (by rw[zS];omega)) ?_;rw[zV,zV];refine zb.t (zct (ofQ a.v).den (ofQ b.v).den oM oM) ?_;rw[js,js];refine zb.t (zef (ofZ (a.v.num*b.v.den+b.v.num*a.v.den)) (ofZ (a.v.den*b.v.den)) (by rw[zS];omega) (by rw[zS];omega) (by rw[zV];exact uY _ _)) ?_;rw[zV,zV,zjD];exact .refl
theorem zm5(a b:BR)(ha:a.len<=50000000)(hb:b.len<=50000000):CG0 235 [.agg (brE a),.agg (brE b)] [] (.agg (brE (ofQ (a.v*b.v)))) []:=by
 have h1:=zH a;have h2:=zH b;have h3:=vz a.v;have h4:=vz b.v;have n1:=qa a.v;have n2:=qa b.v;have d1:=qk a.v;have d2:=qk b.v;have m1:=kM a.v.num b.v.num;have m3:=kM a.v.den b.v.den;refine zc Tryz.func235 ?_;refine Dr.k<|zb.t (kv a oM)<|zb.t (kv b oM)<|Dr.k<|zb.t (zct (ofQ a.v).num (ofQ b.v).num oM oM)<|zb.t (zct (ofQ a.v).den (ofQ b.v).den oM oM) ?_;rw[jT,jT,js,js];refine zb.t (zef (ofZ (a.v.num*b.v.num)) (ofZ (a.v.den*b.v.den)) (by rw[zS];omega) (by rw[zS];omega) (by rw[zV];exact uY _ _)) ?_
 rw[zV,zV,zjE];exact .refl
theorem zoX(a:BR)(ha:a.len<=100000000):CG0 181 [.agg (brE a)] [] (.agg (biE (ofZ a.v.floor))) []:=by
 have h1:=zH a;have h3:=vz a.v;have h0:=a.v.den_nz;refine zc Tryz.func181 ?_;refine zb.t (kv a oM)<|zb.t (zbU (ofQ a.v).num (ofQ a.v).den oM oM (by rw[js];omega)) ?_;rw[jT,js,← JO];exact .refl
theorem ztN(a:BR)(ha:a.len<=100000000):CG0 174 [.agg (brE a)] [] (i64 (zbS a.v)) []:=by
 have h1:=zH a;have h3:=vz a.v;refine zc Tryz.func174 ?_;refine zb.t (kv a oM)<|Dr.k<|zb.t (zlz (ofQ a.v).num oM)<|zb.t (zlz (ofQ a.v).den oM) ?_;rw[jT,js,Qx];refine zi ?_;unfold zbS;simp only[zcX];omega
def zav(t:AF):List BR:=[t.a,t.b,t.c,t.d,t.e,t.f]
theorem zv7{t:AF}{i:Nat}{x:BR}(h:(zav t)[i]? =some x):x=t.nth i:=by
 have:i < 6:=(Xc.1 h).1;have e:i=0∨i=1∨i=2∨i=3∨i=4∨i=5:=oM
 rcases e with rfl | rfl | rfl | rfl | rfl | rfl <;> (cases h;rfl)
theorem zv8{t:AF}{n:Nat}(h:t.le n):∀i,(t.nth i).len<=n:=λi=>by
 obtain⟨h1,h2,h3,h4,h5,h6⟩:=h;unfold AF.nth;split <;> assumption
theorem zg7(t:AF):CG0 104 [.agg (afE t)] [] (.sl brE (zav t)) []:=by
 refine zc Tryz.func104 ?_;refine⟨BR,brE,zav t,rfl,Ob.o0 ?_⟩;exact .refl
theorem zbV(t:AF)(ht:t.le 100000000):CG0 112 [.agg (afE t)] [] (pr t.ok) []:=by
 refine zc Tryz.func112 ?_;refine zb.t (zg7 t)<|⟨Nat,λi=>⟨[(4,i64 i),(3,.sl brE (zav t))],[],1,19,0⟩,λi=>i<=6/\okI t i,λi=>6 - i,0,⟨Xe _,trivial⟩,?_,?_⟩
 ·exact zE []
 rintro i ⟨h1,h2⟩
 intro hl;have hl6:(zav t).length=6:=rfl;refine⟨λh3=>?_,λh3=>?_⟩
 ·refine Ob.o4 ?_;intro x hx;have hx:(zav t)[i]? =some x:=hx;have hx:=zv7 hx;subst hx;refine zb.t (ztN (t.nth i) (zv8 ht i))<|⟨λh4=>?_,λh4=>?_⟩
  ·refine zd λh=>?_
   have e:i=0∨i=1∨i=2∨i=3∨i=4∨i=5:=oM;simp only[AF.ok,okI]at h
   rcases e with rfl | rfl | rfl | rfl | rfl | rfl <;> omega
  ·exact Ar.o<|⟨i+1,⟨oM,h2,oM⟩,zE [],by dsimp only;omega⟩
 ·have:i=6:=by omega
  subst this;exact zT h2
theorem zbp(a b c d:BR)(ha:a.len<=10000000)(hb:b.len<=10000000)(hc:c.len<=10000000)(hd:d.len<=10000000):
  CG0 175 [.agg (brE a),.agg (brE b),.agg (brE c),.agg (brE d)] [] (.agg (brE (ofQ (a.v*b.v+c.v*d.v)))) []:=by
 have l1:=zH a;have l2:=zH b;have l3:=zH c;have l4:=zH d;have m1:=yf a.v b.v;have m2:=yf c.v d.v;refine zc Tryz.func175 ?_;refine Dr.k<|zb.t (zm5 a b oM oM)<|zb.t (zm5 c d oM oM)<|zb.t (zdv (ofQ (a.v*b.v)) (ofQ (c.v*d.v)) (by rw[zB];omega) (by rw[zB];omega)) ?_;rw[z6,z6];exact .refl
theorem ztO(t:AF)(x y:BR)(ht:t.le 5000000)(hx:x.len<=5000000)(hy:y.len<=5000000):
  CG0 178 [.agg (afE t),.agg (brE x),.agg (brE y)] [] (.tup [.agg (brE (ofQ (yX t x.v y.v))),.agg (brE (ofQ (yY t x.v y.v)))]) []:=by
 obtain⟨ha,hb,hc,hd,he,hf⟩:=ht;have m1:=qh t.a x t.c y t.e ha hx hc hy he;have m2:=qh t.b x t.d y t.f hb hx hd hy hf;refine zc Tryz.func178 ?_;refine Dr.k<|zb.t (zbp t.a x t.c y oM oM oM oM)<|zb.t (zdv (ofQ (t.a.v*x.v+t.c.v*y.v)) t.e (by rw[zB];omega) oM)<|zb.t (zbp t.b x t.d y oM oM oM oM)<|zb.t (zdv (ofQ (t.b.v*x.v+t.d.v*y.v)) t.f (by rw[zB];omega) oM) ?_;rw[z6,z6];exact .refl
theorem zv9(a b:BI)(ha:a.mag.length<=800000000)(hb:b.mag.length<=800000000):CG0 48 [.agg (biE a),.agg (biE b)] [] (i64 (a.v - b.v).sign) []:=by
 refine zc Tryz.func48 ?_;refine zb.t (zv6 a b ha hb) ?_;have h1:=zjs a.v b.v;have h2:=zan a;have h3:=zan b;refine zb.t (zcs (ofZ (a.v - b.v)) (by rw[zS];omega)) ?_;rw[zV];exact .refl
theorem zm6(a b:BR)(ha:a.len<=100000000)(hb:b.len<=100000000):CG0 22 [.agg (brE a),.agg (brE b)] [] (i64 (zg6 a.v b.v)) []:=by
 have h1:=zH a;have h2:=zH b;have h3:=vz a.v;have h4:=vz b.v;have n1:=qa a.v;have n2:=qa b.v;have d1:=qk a.v;have d2:=qk b.v;have m1:=kM a.v.num b.v.den;have m2:=kM b.v.num a.v.den;refine zc Tryz.func22 ?_;refine Dr.k<|zb.t (kv a oM)<|zb.t (kv b oM)<|Dr.k<|zb.t (zct (ofQ a.v).num (ofQ b.v).den oM oM)<|zb.t (zct (ofQ b.v).num (ofQ a.v).den oM oM) ?_;rw[jT,jT,js,js];refine zb.t (zv9 (ofZ (a.v.num*b.v.den)) (ofZ (b.v.num*a.v.den)) (by rw[zS];omega) (by rw[zS];omega)) ?_;rw[zV,zV];exact .refl
theorem zyC(x:Rat):ofQ (-x)=⟨ofZ (-x.num),ofZ x.den⟩:=by unfold ofQ;rw[Rat.neg_num,Rat.neg_den]
theorem zA1(a:BR)(ha:a.len<=100000000):CG0 383 [.agg (brE a)] [] (.agg (brE (ofQ (-a.v)))) []:=by
 have h1:=zH a;have h3:=vz a.v;refine zc Tryz.func383 ?_;refine zb.t (kv a oM)<|Dr.k<|zb.t (zm4 (ofQ a.v).num oM) ?_;rw[jT,zyC];exact .refl
theorem zA2(a b:BR)(ha:a.len<=40000000)(hb:b.len<=40000000):CG0 341 [.agg (brE a),.agg (brE b)] [] (.agg (brE (ofQ (a.v - b.v)))) []:=by
 have h2:=zH b;refine zc Tryz.func341 ?_;refine Dr.k<|zb.t (zA1 b oM)<|zb.t (zdv a (ofQ (-b.v)) oM (by rw[zB,v9];omega)) ?_;rw[z6,← JE];exact .refl
theorem bi_eq{a b:BI}{i:Nat}(h1:a.neg=true↔b.neg=true)(hl:a.mag.length=b.mag.length)(hi:¬i < a.mag.length)(h:∀j,j < i->a.mag[j]? =b.mag[j]?):a=b:=by
 obtain⟨n,m⟩:=a;obtain⟨n',m'⟩:=b;have e1:n=n':=Qg.2 h1
 have e2:m=m':=Kc λj=>by
  by_cases hj:j < i
  ·exact h j hj
  ·dsimp only at hl hi;rw[XB oM,XB oM]
 subst e1 e2;rfl
theorem zjF(a b:BI)(ha:a.mag.length<=100000000):CG0 226 [.agg (biE a),.agg (biE b)] [] (pr (a=b)) []:=by
 refine zc Tryz.func226 ?_;refine⟨λh1=>zd λe=>h1 (by rw[e]),λh1=>?_⟩;have h1:=Xa.1 h1;intro hl1 hl2;refine⟨λh2=>zd λe=>h2 (by rw[e]),λh2=>?_⟩;have h2:=Xa.1 h2;refine⟨Nat,λi=>⟨[(5,i64 i),(3,.loc 1 0),(2,.loc 0 0)],[(1,.box 41 (biE b)),(0,.box 41 (biE a))],2,38,0⟩,λi=>i<=a.mag.length/\∀j,j < i->a.mag[j]? =b.mag[j]?,λi=>a.mag.length - i,0,⟨Xe _,λj h=>by omega⟩,?_,?_⟩
 ·exact zf [0,1]
 rintro i ⟨hi,hs⟩
 intro hl3;refine⟨λh3=>?_,λh3=>zT (bi_eq h1 oM oM hs)⟩;refine Dr.k<|Ob.o ?_;intro x hx;have hx:a.mag[i]? =some x:=hx;refine Ob.o ?_;intro y hy;have hy:b.mag[i]? =some y:=hy;refine⟨λh4=>zd λe=>?_,λh4=>?_⟩
 ·subst e;rw[hx]at hy;cases hy;exact h4 rfl
 ·have h4:=Xa.1 h4;have exy:x=y:=Fin.ext oM;refine Ar.o<|⟨i+1,⟨oM,λj hj=>?_⟩,zf [0,1],by dsimp only;omega⟩
  by_cases e:j=i
  ·subst e;rw[hx,hy,exy]
  ·exact hs j oM
theorem zyD(a b:BR)(ha:a.len<=100000000):CG0 166 [.agg (brE a),.agg (brE b)] [] (pr (a=b)) []:=by
 have h1:a.num.mag.length<=a.len:=QR _ _;have h2:a.den.mag.length<=a.len:=QG _ _;refine zc Tryz.func166 ?_;refine zb.t (zjF a.num b.num oM)<|⟨λe1=>?_,λe1=>zd λe=>e1 (by rw[e])⟩;refine zb.t (zjF a.den b.den oM)<|zF ⟨λe2=>?_,λe=>by rw[e]⟩
 cases a;cases b;simp_all
theorem zq3(xs ys:List BR)(hx:∀x∈xs,x.len<=100000000):CG0 103 [.sl brE xs,.sl brE ys] [] (pr (xs=ys)) []:=by
 refine zc Tryz.func103 ?_;intro hl1 hl2;refine⟨λh1=>zd λe=>h1 (by rw[e]),λh1=>?_⟩;have h1:=Xa.1 h1;refine⟨Nat,λi=>⟨[(5,i64 i),(0,.sl brE xs),(1,.sl brE ys)],[],0,27,0⟩,λi=>i<=xs.length/\∀j,j < i->xs[j]? =ys[j]?,λi=>xs.length - i,0,⟨Xe _,λj h=>by omega⟩,?_,?_⟩
 ·exact zE []
 rintro i ⟨hi,hs⟩
 intro hl3;refine⟨λh3=>?_,λh3=>?_⟩
 ·refine Dr.k<|Ob.o ?_;intro x hx1;have hx1:xs[i]? =some x:=hx1;refine Ob.o ?_;intro y hy;have hy:ys[i]? =some y:=hy;refine zb.t (zyD x y (hx x (Xd hx1)))<|⟨λh4=>zd λe=>?_,λh4=>?_⟩
  ·subst e;rw[hx1]at hy;cases hy;exact h4 rfl
  ·have exy:=Xa.1 h4;refine Ar.o<|⟨i+1,⟨oM,λj hj=>?_⟩,zE [],by dsimp only;omega⟩
   by_cases e:j=i
   ·subst e;rw[hx1,hy,exy]
   ·exact hs j oM
 ·refine zT (Kc λj=>?_)
  by_cases hj:j < i
  ·exact hs j hj
  ·rw[XB oM,XB oM]
theorem zeg{x y:Rat}(h:ofQ x=ofQ y):x=y:=by rw[← z6 x,← z6 y,h]
theorem ztP{t:AF}{n:Nat}(h:t.le n):∀x∈zav t,x.len<=n:=λx hx=>by
 obtain⟨h1,h2,h3,h4,h5,h6⟩:=h;simp only[zav,Kn,Kw,or_false]at hx
 rcases hx with rfl | rfl | rfl | rfl | rfl | rfl <;> assumption
theorem zq4(t u:AF)(ht:t.le 100000000):CG0 51 [.agg (afE t),.agg (afE u)] [] (pr (zav t=zav u)) []:=by
 refine zc Tryz.func51 ?_;exact Dr.k<|zb.t (zg7 t)<|zb.t (zg7 u)<|zb.t (zq3 (zav t) (zav u) (ztP ht))<|zF K4
theorem zeN(t:AF)(ht:t.le 100000000):CG0 52 [.agg (afE t)] [] (.agg (afE t.nrm)) []:=by
 obtain⟨ha,hb,hc,hd,he,hf⟩:=ht;refine zc Tryz.func52 ?_;refine Dr.k<|zb.t (kv t.a oM)<|zb.t (kv t.b oM)<|zb.t (kv t.c oM)<|zb.t (kv t.d oM)<|zb.t (kv t.e oM) ?_;exact zb.t (kv t.f oM)<|.refl
theorem zwa{t u:AF}:zav t.nrm=zav u.nrm↔t.same u:=by
 constructor
 ·intro h;simp only[zav,AF.nrm,List.cons.injEq,and_true]at h;exact⟨zeg h.1,zeg h.2.1,zeg h.2.2.1,zeg h.2.2.2.1,zeg h.2.2.2.2.1,zeg h.2.2.2.2.2⟩
 ·rintro⟨h1,h2,h3,h4,h5,h6⟩
  simp only[zav,AF.nrm,h1,h2,h3,h4,h5,h6]
theorem zlA(t u:AF)(ht:t.le 10000000)(hu:u.le 10000000):CG0 24 [.agg (afE t),.agg (afE u)] [] (pr (t.same u)) []:=by
 have hn:=AF.le_len ht;obtain⟨ha,hb,hc,hd,he,hf⟩:=ht;obtain⟨ka,kb,kc,kd,ke,kf⟩:=hu;obtain⟨na,nb,nc,nd,ne,nf⟩:=hn;refine zc Tryz.func24 ?_;exact Dr.k<|zb.t (zeN t ⟨oM,oM,oM,oM,oM,oM⟩)<|zb.t (zeN u ⟨oM,oM,oM,oM,oM,oM⟩)<|zb.t (zq4 t.nrm u.nrm ⟨oM,oM,oM,oM,oM,oM⟩)<|zF zwa
theorem zsl(t:AF)(ht:t.le 10000000):CG0 294 [.agg (afE t)] [] (.agg (brE (ofQ (yr t)))) []:=by
 obtain⟨ha,hb,hc,hd,he,hf⟩:=ht;have l1:=zH t.a;have l2:=zH t.b;have l3:=zH t.c;have l4:=zH t.d;have m1:=yf t.a.v t.d.v;have m2:=yf t.b.v t.c.v;refine zc Tryz.func294 ?_;refine Dr.k<|zb.t (zm5 t.a t.d oM oM)<|zb.t (zm5 t.b t.c oM oM)<|zb.t (zA2 (ofQ (t.a.v*t.d.v)) (ofQ (t.b.v*t.c.v)) (by rw[zB];omega) (by rw[zB];omega)) ?_;rw[z6,z6];exact .refl
theorem zoY(t u:AF)(ht:t.le 1000000)(hu:u.le 1000000):CG0 113 [.agg (afE t),.agg (afE u)] [] (.agg (afE (beh t u))) []:=by
 obtain⟨ha,hb,hc,hd,he,hf⟩:=ht;obtain⟨ka,kb,kc,kd,ke,kf⟩:=hu;have m5:=qh u.a t.e u.c t.f u.e ka he kc hf ke;have m6:=qh u.b t.e u.d t.f u.f kb he kd hf kf;refine zc Tryz.func113 ?_;refine Dr.k<|zb.t (zbp u.a t.a u.c t.b oM oM oM oM)<|zb.t (zbp u.b t.a u.d t.b oM oM oM oM)<|zb.t (zbp u.a t.c u.c t.d oM oM oM oM)<|zb.t (zbp u.b t.c u.d t.d oM oM oM oM)<|zb.t (zbp u.a t.e u.c t.f oM oM oM oM) ?_;refine zb.t (zdv (ofQ (u.a.v*t.e.v+u.c.v*t.f.v)) u.e (by rw[zB];omega) oM) ?_
 refine zb.t (zbp u.b t.e u.d t.f oM oM oM oM)<|zb.t (zdv (ofQ (u.b.v*t.e.v+u.d.v*t.f.v)) u.f (by rw[zB];omega) oM) ?_;rw[z6,z6];exact .refl
def zBR:BR:=⟨⟨false,[]⟩,⟨false,[]⟩⟩
def qn:AF:=⟨zBR,zBR,zBR,zBR,zBR,zBR⟩
theorem zBR_v:zBR.v=0:=by decide +kernel
theorem jP:LEs [bl false,.val (.slice none 0 0),bl false,.val (.slice none 0 0)] (brE zBR):=
 .cons (zd dC) (.cons zD (.cons (zd dC) (.cons zD .nil)))
theorem LEs.append:∀{xs bs cs ds:List SV},LEs xs bs->LEs cs ds->LEs (xs++cs) (bs++ds)
 | [],[],_,_,_,h=>h
 | _::_,_::_,_,_,.cons h hs,k=>.cons h (LEs.append hs k)
def z4:List SV:=[bl false,.val (.slice none 0 0),bl false,.val (.slice none 0 0)]
theorem zaI:LE (.agg yU) (.agg (afE qn)):=by
 have jP:LEs z4 (brE zBR):=jP;have h:LE (.agg (z4++(z4++(z4++(z4++(z4++z4)))))) (.agg (afE qn)):=qA (LEs.append jP (LEs.append jP (LEs.append jP (LEs.append jP (LEs.append jP jP)))));exact h
def idA:AF:=afQ ((1:Int):Rat) ((0:Int):Rat) ((0:Int):Rat) ((1:Int):Rat) ((0:Int):Rat) ((0:Int):Rat)
theorem zm7:idA.le 2:=⟨by decide +kernel,by decide +kernel,by decide +kernel,by decide +kernel,by decide +kernel,by decide +kernel⟩
theorem zm8(t u:AF):(beh t u).nrm=beh t u:=by
 unfold beh AF.nrm afQ;simp only[z6]
theorem ztQ{t u:AF}(h:(beh t u).ok):(beh t u).le 8:=by
 have:=ok_le (t:=beh t u) (by rw[zm8];exact h)
 rwa [zm8]at this
theorem AF.le.up{t:AF}{n m:Nat}(h:t.le n)(k:n<=m):t.le m:=by
 obtain⟨h1,h2,h3,h4,h5,h6⟩:=h;exact⟨oM,oM,oM,oM,oM,oM⟩
theorem zf0(a b c d:Int)(e f:BR)(ha:R64 a)(hb:R64 b)(hc:R64 c)(hd:R64 d)(he:e.len<=100000000)(hf:f.len<=100000000):
  CG0 79 [i64 a,i64 b,i64 c,i64 d,.agg (brE e),.agg (brE f)] [] (.agg (afE (afQ a b c d e.v f.v))) []:=by
 refine zc Tryz.func79 ?_;refine Dr.k<|zb.t (jf a ha)<|zb.t (jf b hb)<|zb.t (jf c hc)<|zb.t (jf d hd)<|zb.t (kv e oM) ?_;exact zb.t (kv f oM)<|.refl
theorem zwb:zBR.v=((0:Int):Rat):=by decide +kernel
theorem zf1:CG0 38 [] [] (.agg (afE idA)) []:=by
 refine zc Tryz.func38 ?_
 refine zb.to _ ((zf0 1 0 0 1 zBR zBR dC dC dC dC dC dC).args
  (.cons .refl (.cons .refl (.cons .refl (.cons .refl (.cons (qA jP) (.cons (qA jP) .nil))))))) rfl ?_
 rw[zwb];exact .refl
def qf(n lo hi:Int):Int:=if n < lo then lo else if hi < n then hi else n
theorem zsm(n lo hi:Int):CG0 71 [i64 n,i64 lo,i64 hi] [] (i64 (qf n lo hi)) []:=by
 refine zc Tryz.func71 ?_;refine⟨λh=>?_,λh=>?_⟩
 ·exact zi (by simp[qf,h])
 refine⟨λh2=>?_,λh2=>?_⟩
 ·exact zi (by simp[qf,h,h2])
 ·exact zi (by simp[qf,h,h2])
theorem zdw{n lo hi:Int}(_:lo<=hi):qf n lo hi=n↔lo<=n/\n<=hi:=by
 unfold qf;split <;> (try split) <;> omega
structure Pt where
 x:Int
 y:Int
 deriving DecidableEq
def ptE(p:Pt):List SV:=[i64 p.x,i64 p.y]
def zp:Pt:=⟨0,0⟩
def zr(p:Pt):Prop:=(-1048576<=p.x/\p.x<=1048576)/\(-1048576<=p.y/\p.y<=1048576)
instance (p:Pt):Decidable (zr p):=inferInstanceAs (Decidable (_/\_))
theorem k8{p q:Pt}:(p.x=q.x/\p.y=q.y/\True)↔p=q:=by
 cases p;cases q;simp
theorem zwc(n:Int):CG0 139 [i64 n] [] (i64 (qf n (-1048576) 1048576)) []:=by
 refine zc Tryz.func139 ?_;exact zb.t (zsm n _ _)<|.refl
theorem zwd(p:Pt):CG0 70 [.agg (ptE p)] [] (.agg [i64 (qf p.x (-1048576) 1048576),i64 (qf p.y (-1048576) 1048576)]) []:=by
 refine zc Tryz.func70 ?_;exact Dr.k<|zb.t (zwc p.x)<|zb.t (zwc p.y)<|.refl
theorem qg(p:Pt):CG0 42 [.agg (ptE p)] [] (pr (zr p)) []:=by
 refine zc Tryz.func42 ?_;refine Dr.k<|zb.t (zwd p)<|zF (p:=qf p.x (-1048576) 1048576=p.x/\qf p.y (-1048576) 1048576=p.y/\True) ?_;rw[zdw dC,zdw dC];exact⟨λh=>⟨h.1,h.2.1⟩,λh=>⟨h.1,h.2,trivial⟩⟩
theorem kH(p:Pt):CG0 141 [.agg (ptE p)] [] (pr (zr p)) []:=by
 refine zc Tryz.func141 ?_;refine⟨λh1=>?_,λh1=>zd (λh=>h1 h.1.1)⟩;refine⟨λh2=>?_,λh2=>zd (λh=>h2 h.1.2)⟩;refine⟨λh3=>?_,λh3=>zd (λh=>h3 h.2.1)⟩;exact zF ⟨λh4=>⟨⟨h1,h2⟩,⟨h3,h4⟩⟩,λh=>h.2.2⟩
def hI(n:Int):Int:=qf n (-1048576) 1048576
def jw(p:Pt):Pt:=⟨hI p.x,hI p.y⟩
theorem qo(n:Int): -1048576<=hI n/\hI n<=1048576:=by unfold hI qf;split <;> (try split) <;> omega
theorem zbq{n:Int}(h: -1048576<=n/\n<=1048576):hI n=n:=(zdw dC).2 h
theorem jU(p:Pt):zr (jw p):=⟨qo _,qo _⟩
theorem zeh{p:Pt}(h:zr p):jw p=p:=by
 cases p;unfold jw;rw[zbq h.1,zbq h.2]
def zz(p q:Pt):Pt:=⟨p.x+q.x,p.y+q.y⟩
def zn(p q:Pt):Pt:=⟨p.x - q.x,p.y - q.y⟩
def addP(p q:Pt):Pt:=zz (jw p) (jw q)
def zcv(p q:Pt):Pt:=zn (jw p) (jw q)
def perpP(p:Pt):Pt:=⟨-hI p.y,hI p.x⟩
def wdg(p q:Pt):Int:=p.x*q.y - p.y*q.x
def dtp(p q:Pt):Int:=p.x*q.x+p.y*q.y
def zap(p q:Pt):Int:=wdg (jw p) (jw q)
def zib(p q:Pt):Int:=dtp (jw p) (jw q)
theorem jx{a b A B:Int}(ha: -A<=a/\a<=A)(hb: -B<=b/\b<=B): -(A*B)<=a*b/\a*b<=A*B:=by
 have h1:=XG (show 0<=A - a by omega) (show 0<=B - b by omega);have h2:=XG (show 0<=A - a by omega) (show 0<=B+b by omega);have h3:=XG (show 0<=A+a by omega) (show 0<=B - b by omega);have h4:=XG (show 0<=A+a by omega) (show 0<=B+b by omega);have e1:(A - a)*(B - b)=A*B - A*b - a*B+a*b:=by grind
 have e2:(A - a)*(B+b)=A*B+A*b - a*B - a*b:=by grind
 have e3:(A+a)*(B - b)=A*B - A*b+a*B - a*b:=by grind
 have e4:(A+a)*(B+b)=A*B+A*b+a*B+a*b:=by grind
 omega
theorem zei{p q:Pt}(hp:zr p)(hq:zr q): -2199023255552<=dtp p q/\dtp p q<=2199023255552/\(-1099511627776<=p.x*q.x/\p.x*q.x<=1099511627776)/\(-1099511627776<=p.y*q.y/\p.y*q.y<=1099511627776):=by
 have h1:=jx hp.1 hq.1;have h2:=jx hp.2 hq.2;unfold dtp;omega
theorem zbW{p q:Pt}(hp:zr p)(hq:zr q): -2199023255552<=wdg p q/\wdg p q<=2199023255552/\(-1099511627776<=p.x*q.y/\p.x*q.y<=1099511627776)/\(-1099511627776<=p.y*q.x/\p.y*q.x<=1099511627776):=by
 have h1:=jx hp.1 hq.2;have h2:=jx hp.2 hq.1;unfold wdg;omega
theorem jg(x:Int):0<=x*x:=by
 rcases Int.le_total 0 x with h | h
 ·exact XG h h
 ·have:=XG (show 0<= -x by omega) (show 0<= -x by omega)
  rwa [Int.neg_mul_neg]at this
def sqL(n:Int):Nat->Int->Int
 | 0,s=>s
 | k+1,s=>sqL n k (if (s+2 ^ k)*(s+2 ^ k)<=n then s+2 ^ k else s)
def isq(n:Int):Int:=sqL n 32 0
theorem zjG(n:Int):∀(k:Nat) (s:Int),0<=s->s*s<=n->n < (s+2 ^ k)*(s+2 ^ k)->0<=sqL n k s/\sqL n k s*sqL n k s<=n/\n < (sqL n k s+1)*(sqL n k s+1)
 | 0,s,h0,h1,h2=>by simp only[sqL];exact⟨h0,h1,by simpa using h2⟩
 | k+1,s,h0,h1,h2=>by
  have hp:(0:Int) < 2 ^ k:=Int.pow_pos dC;have e:(2:Int) ^ (k+1)=2 ^ k+2 ^ k:=by rw[Int.pow_succ];omega
  simp only[sqL]
  split
  ·rename_i h;refine zjG n k _ oM h ?_;rw[e]at h2
   rwa [Int.add_assoc]
  ·rename_i h;exact zjG n k _ h0 h1 oM
theorem zf2{n:Int}(h0:0<=n)(h:n < 18446744073709551616):0<=isq n/\isq n*isq n<=n/\n < (isq n+1)*(isq n+1):=
 zjG n 32 0 dC (by simpa using h0) (by simpa using h)
theorem zwe{n:Int}(h0:0<=n)(h:n < 18446744073709551616):isq n < 4294967296:=by
 have hs:=zf2 h0 h;refine Int.not_le.1 λhk=>?_
 have:=Ye hk hk dC hs.1;omega
theorem sq_le{a b:Int}(ha:0<=b)(h:a*a<=b*b):a<=b:=by
 refine Jy.1 λhk=>?_
 have h1:=Ye (show b+1<=a by omega) (show b+1<=a by omega) oM oM;have e:(b+1)*(b+1)=b*b+2*b+1:=by grind
 omega
theorem zq5{n a:Int}(h0:0<=n)(h:n < 18446744073709551616)(h1:a*a<=n):a<=isq n:=by
 have hs:=zf2 h0 h;have:a<=isq n+1:=sq_le oM oM
 by_cases e:a=isq n+1
 ·subst e;omega
 ·omega
def zoZ(p:Pt):Int:=isq (65536*zib p p)
def zdx(a b:Int):Int:=(2*a+b) / (2*b)
def yl(a b:Pt)(n d:Int):Pt:=
 if d < 1∨1099511627776 < d then jw a
 else⟨hI a.x+zQ (qf n 0 d*(hI b.x - hI a.x)) d,hI a.y+zQ (qf n 0 d*(hI b.y - hI a.y)) d⟩
def zm9(r:List Pt):Prop:=(r.length:Int)<=4096/\∀p∈r,zr p
instance (r:List Pt):Decidable (zm9 r):=inferInstanceAs (Decidable (_/\_))
def vd(r:List Pt)(n:Nat):Int:=((List.range n).map λi=>zap (r.getD i zp) (r.getD ((i+1) % r.length) zp)).sum
def zbX(r:List Pt):Int:=if zm9 r then vd r r.length else 0
def zsn(r:List Pt):List Pt:=match r with
 | []=>[]
 | p::q=>p::q.reverse
def kG(r:List Pt):List Pt:=if zbX r=0 then[] else if zbX r < 0 then zsn r else r
theorem ze5(r:List Pt)(n:Nat):vd r (n+1)=vd r n+zap (r.getD n zp) (r.getD ((n+1) % r.length) zp):=by
 unfold vd;rw[K7,XI,Jo];simp
theorem zhS(r:List Pt)(n:Nat): -(2199023255552*(n:Int))<=vd r n/\vd r n<=2199023255552*(n:Int):=by
 induction n with
 | zero=>exact⟨by show _<=(0:Int);decide,by show(0:Int)<=_;decide⟩
 | succ n ih=>
  rw[ze5];have:=zbW (jU (r.getD n zp)) (jU (r.getD ((n+1) % r.length) zp));unfold zap;omega
theorem zq6(r:List Pt):(kG r).length=0∨(kG r).length=r.length:=by
 unfold kG
 split
 ·exact .inl rfl
 ·split
  ·right;unfold zsn;split <;> simp
  ·exact .inr rfl
def kr(w:Int):Prop:=1<=w/\w<=16384
instance (w:Int):Decidable (kr w):=inferInstanceAs (Decidable (_/\_))
def zbf(n:Int):Prop:=n < -2097152∨2097152 < n
instance (n:Int):Decidable (zbf n):=inferInstanceAs (Decidable (_∨_))
def z7(v:Pt)(w:Int):Pt:=
 if ¬kr w∨zbf v.x∨zbf v.y∨v=zp then zp
 else⟨zQ (-v.y*w*128) (isq (65536*(v.x*v.x+v.y*v.y))),zQ (v.x*w*128) (isq (65536*(v.x*v.x+v.y*v.y)))⟩
def jZ(a b:Pt)(w:Int):List Pt:=
 if ¬(kr w/\zr a/\zr b) then[]
 else kG [zn a (z7 (zn b a) w),zn b (z7 (zn b a) w),zz b (z7 (zn b a) w),zz a (z7 (zn b a) w)]
def zw:List Pt:=[⟨16384,0⟩,⟨15137,6270⟩,⟨11585,11585⟩,⟨6270,15137⟩,⟨0,16384⟩,⟨-6270,15137⟩,⟨-11585,11585⟩,⟨-15137,6270⟩,
 ⟨-16384,0⟩,⟨-15137,-6270⟩,⟨-11585,-11585⟩,⟨-6270,-15137⟩,⟨0,-16384⟩,⟨6270,-15137⟩,⟨11585,-11585⟩,⟨15137,-6270⟩]
def vA(p:Pt)(w:Int):List Pt:=
 if ¬(kr w/\zr p) then[] else kG (zw.map λq=>zz p ⟨zQ (q.x*w) 32768,zQ (q.y*w) 32768⟩)
def zjH(a b:Pt)(w:Int):List Pt:=
 if ¬(kr w/\zr a/\zr b) then[]
 else
  let n:=z7 (zn b a) w
  let e:Pt:=⟨n.y,-n.x⟩
  kG [zn b n,zz (zn b n) e,zz (zz b n) e,zz b n]
def zdy(p:Pt)(w:Int):List Pt:=
 if ¬(kr w/\zr p) then[]
 else kG [⟨p.x - zQ w 2,p.y - zQ w 2⟩,⟨p.x+zQ w 2,p.y - zQ w 2⟩,⟨p.x+zQ w 2,p.y+zQ w 2⟩,⟨p.x - zQ w 2,p.y+zQ w 2⟩]
structure Pen where
 w:Int
 j:Int
 c:Int
 m:Int
 d:List Int
 ph:Int
def uC(l:List Int):Prop:=(∀n∈l,0<=n/\n<=1048576)/\(l=[]∨∃n∈l,0 < n)/\l.length % 2=0/\(l.length:Int)<=16
instance (l:List Int):Decidable (uC l):=inferInstanceAs (Decidable (_/\_))
def kF(p:Pen):Prop:=kr p.w/\(p.j=1∨p.j=2∨p.j=3)/\(p.c=3∨p.c=4∨p.c=5)/\(256<=p.m/\p.m<=65536)/\uC p.d/\(0<=p.ph/\p.ph<=1048576)
instance (p:Pen):Decidable (kF p):=inferInstanceAs (Decidable (_/\_))
def uZ(n m:Pt)(w lim:Int):Pt×Bool:=
 if ¬(zr n/\zr m/\kr w/\256<=lim/\lim<=65536) then(zp,false)
 else
  let s:=zz n m
  let q:=s.x*s.x+s.y*s.y
  if q=0∨lim*lim*q < 256*w*(256*w) then(zp,false) else(⟨zQ (s.x*w*w) (2*q),zQ (s.y*w*w) (2*q)⟩,true)
def zg8(p:Pt):Pt:=⟨-p.x,-p.y⟩
def qx(a v b:Pt)(w:Int):Pt×Pt×Bool:=
 if ¬(zr a/\zr v/\zr b/\kr w) then(zp,zp,false)
 else
  let x:=zn v a
  let y:=zn b v
  if wdg x y=0 then(zp,zp,false) else if 0 < wdg x y then(zg8 (z7 x w),zg8 (z7 y w),true) else(z7 x w,z7 y w,true)
def kQ(r:List Pt):List (List Pt):=if r=[] then[] else[r]
def jb(a v b:Pt)(p:Pen):List (List Pt):=
 if ¬(kF p/\zr a/\zr v/\zr b/\¬v=a/\¬v=b) then[]
 else if p.j=3 then kQ (vA v p.w)
 else if (qx a v b p.w).2.2=false then[]
 else
  let n:=(qx a v b p.w).1
  let m:=(qx a v b p.w).2.1
  kQ (kG (if p.j=1/\(uZ n m p.w p.m).2=true then[v,zz v n,zz v (uZ n m p.w p.m).1,zz v m] else[v,zz v n,zz v m]))
end Go.Gs
