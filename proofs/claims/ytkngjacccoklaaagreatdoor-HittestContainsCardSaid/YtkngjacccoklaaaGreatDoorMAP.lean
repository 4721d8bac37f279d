/- Rationals, the program's: arithmetic. -/
import Derived.Test.YtkngjacccoklaaaGreatDoorMA
import Derived.Test.YtkngjacccoklaaaGreatDoorMAO
import Derived.Test.YtkngjacccoklaaaGreatDoorMAL
import Derived.Test.YtkngjacccoklaaaGreatDoorMAN
set_option maxRecDepth 100000
set_option maxHeartbeats 8000000
set_option linter.all false
namespace Go.Gs
open Go.Proofs
def zCs(n d:BI)(hn:n.mag.length<=400000000)(hd:d.mag.length<=400000000)(h0:d.v≠0):
  CG0 324 [.agg (biE n),.agg (biE d)] [] (.tup [.agg (brE (ofQ (Rat.divInt n.v d.v))),i64 0]) []:=by
 refine zc Tryz.func324 ?_;refine zb.t (zj9 d oM)<|⟨λh=>absurd (KS.1 h) h0,λ_=>?_⟩;exact zb.t (zgp n d hn hd h0)<|zM .refl .refl
def zDq(n d:BI)(hd:d.mag.length<=400000000)(h0:d.v=0):
  CG0 324 [.agg (biE n),.agg (biE d)] [] (.tup [.agg [bl false,.sl dgE [],bl false,.sl dgE []],i64 9]) []:=by
 refine zc Tryz.func324 ?_;refine zb.t (zj9 d oM) ?_;rw[h0];refine⟨λ_=>?_,λh=>absurd rfl h⟩;exact zM (ji (.C (.cons zD (.C (.cons zD .nil))))) .refl
def yO(n:Int)(hn:R64 n):CG0 258 [i64 n] [] (.agg (brE (ofQ (n:Rat)))) []:=by
 refine zc Tryz.func258 ?_;refine zb.t (zes n hn)<|zb.t (zes 1 dC) ?_;have e:ofQ (n:Rat)=⟨ofZ n,ofZ 1⟩:=by unfold ofQ;rw[Yg,Ye];rfl
 rw[e];exact .refl
def zr8(n d:Int)(hn:R64 n)(hd:R64 d)(h0:d≠0):CG0 259 [i64 n,i64 d] [] (.tup [.agg (brE (ofQ (Rat.divInt n d))),i64 0]) []:=by
 refine zc Tryz.func259 ?_;have l1:=jj hn;have l2:=jj hd;refine zb.t (zes n hn)<|zb.t (zes d hd)<|zb.t (zCs (ofZ n) (ofZ d) (by rw[zR];omega) (by rw[zR];omega) (by rw[zY];exact h0)) ?_;rw[zY,zY];exact zM .refl .refl
def qS(a:BR)(ha:a.len<=400000000):CG0 319 [.agg (brE a)] [] (.agg (brE (ofQ a.v))) []:=by
 have h1:a.num.mag.length<=a.len:=Q8 _ _;have h2:a.den.mag.length<=a.len:=QW _ _;refine zc Tryz.func319 ?_
 by_cases h:a.den.v=0
 ·refine zb.t (zDq a.num a.den oM h)<|Br.y<|zb.t (yO 0 dC) ?_;have e:a.v=((0:Int):Rat):=by unfold BR.v;rw[h,Yf];rfl
  rw[e];exact .refl
 refine zb.t (zCs a.num a.den oM oM h)<|⟨λh=>absurd rfl h,λ_=>?_⟩;exact .refl
def zbg(q:Rat):(ofQ q).num.mag.length<=yS q/\(ofQ q).den.mag.length<=yS q:=⟨qt q,qM q⟩
def yA(q:Rat):(ofQ q).num.v=q.num:=zY _
def jS(q:Rat):(ofQ q).den.v=q.den:=zY _
def zn2(a b:BR)(ha:a.len<=100000000)(hb:b.len<=100000000):CG0 327 [.agg (brE a),.agg (brE b)] []
  (.tup [.agg (biE (ofZ (a.v.num*b.v.den))),.agg (biE (ofZ (b.v.num*a.v.den))),.agg (biE (ofZ (a.v.den*b.v.den)))]) []:=by
 have h1:=zO a;have h2:=zO b;have h3:=zbg a.v;have h4:=zbg b.v;refine zc Tryz.func327 ?_;refine Dr.k<|zb.t (qS a oM)<|zb.t (qS b oM)<|Dr.k<|zb.t (zik (ofQ a.v).num (ofQ b.v).den oM oM)<|zb.t (zik (ofQ b.v).num (ofQ a.v).den oM oM) ?_;refine zb.t (zik (ofQ a.v).den (ofQ b.v).den oM oM) ?_;rw[yA,yA,jS,jS];exact .refl
def zpW(a b:BR)(ha:a.len<=50000000)(hb:b.len<=50000000):CG0 262 [.agg (brE a),.agg (brE b)] [] (.agg (brE (ofQ (a.v+b.v)))) []:=by
 have h1:=zO a;have h2:=zO b;have n1:=qt a.v;have n2:=qt b.v;have d1:=qM a.v;have d2:=qM b.v;have m1:=k7 a.v.num b.v.den;have m2:=k7 b.v.num a.v.den;have m3:=k7 a.v.den b.v.den;have m4:=zgn (a.v.num*b.v.den) (b.v.num*a.v.den);refine zc Tryz.func262 ?_;refine zb.t (zn2 a b oM oM)<|Dr.k<|zb.t (zCr (ofZ (a.v.num*b.v.den)) (ofZ (b.v.num*a.v.den)) (by rw[zR];omega) (by rw[zR];omega)) ?_;rw[zY,zY]
 refine zb.t (zgp (ofZ (a.v.num*b.v.den+b.v.num*a.v.den)) (ofZ (a.v.den*b.v.den)) (by rw[zR];omega) (by rw[zR];omega) (by rw[zY];exact uW _ _)) ?_;rw[zY,zY,zkd];exact .refl
def ztz(a b:BR)(ha:a.len<=50000000)(hb:b.len<=50000000):CG0 321 [.agg (brE a),.agg (brE b)] [] (.agg (brE (ofQ (a.v*b.v)))) []:=by
 have h1:=zO a;have h2:=zO b;have h3:=zbg a.v;have h4:=zbg b.v;have n1:=qt a.v;have n2:=qt b.v;have d1:=qM a.v;have d2:=qM b.v;have m1:=k7 a.v.num b.v.num;have m3:=k7 a.v.den b.v.den;refine zc Tryz.func321 ?_;refine Dr.k<|zb.t (qS a oM)<|zb.t (qS b oM)<|Dr.k<|zb.t (zik (ofQ a.v).num (ofQ b.v).num oM oM)<|zb.t (zik (ofQ a.v).den (ofQ b.v).den oM oM) ?_;rw[yA,yA,jS,jS];refine zb.t (zgp (ofZ (a.v.num*b.v.num)) (ofZ (a.v.den*b.v.den)) (by rw[zR];omega) (by rw[zR];omega) (by rw[zY];exact uW _ _)) ?_
 rw[zY,zY,zke];exact .refl
def ztA(a:BR)(ha:a.len<=100000000):CG0 261 [.agg (brE a)] [] (.agg (biE (ofZ a.v.floor))) []:=by
 have h1:=zO a;have h3:=zbg a.v;have h0:=a.v.den_nz;refine zc Tryz.func261 ?_;refine zb.t (qS a oM)<|zb.t (zxt (ofQ a.v).num (ofQ a.v).den oM oM (by rw[jS];omega)) ?_;rw[yA,jS,←J0];exact .refl
def zb5(q:Rat):Nat:=max (kA q.num.natAbs) (kA q.den)
def zb6(a:BR)(ha:a.len<=100000000):CG0 252 [.agg (brE a)] [] (i64 (zb5 a.v)) []:=by
 have h1:=zO a;have h3:=zbg a.v;refine zc Tryz.func252 ?_;refine zb.t (qS a oM)<|Dr.k<|zb.t (zpV (ofQ a.v).num oM)<|zb.t (zpV (ofQ a.v).den oM) ?_;rw[yA,jS,QJ];refine ze ?_;unfold zb5;simp only[zc9];omega
structure AF where
 a:BR
 b:BR
 c:BR
 d:BR
 e:BR
 f:BR
def afE(t:AF):List SV:=brE t.a++(brE t.b++(brE t.c++(brE t.d++(brE t.e++brE t.f))))
def AF.le(t:AF)(n:Nat):Prop:=t.a.len<=n/\t.b.len<=n/\t.c.len<=n/\t.d.len<=n/\t.e.len<=n/\t.f.len<=n
def AF.nth(t:AF):Nat->BR
 |0=>t.a
 |1=>t.b
 |2=>t.c
 |3=>t.d
 |4=>t.e
 |_=>t.f
def stage(t:AF):Nat->AF
 |0=>t
 |1=>{ t with a:=ofQ t.a.v }
 |2=>{ t with a:=ofQ t.a.v,b:=ofQ t.b.v }
 |3=>{ t with a:=ofQ t.a.v,b:=ofQ t.b.v,c:=ofQ t.c.v }
 |4=>{ t with a:=ofQ t.a.v,b:=ofQ t.b.v,c:=ofQ t.c.v,d:=ofQ t.d.v }
 |5=>{ t with a:=ofQ t.a.v,b:=ofQ t.b.v,c:=ofQ t.c.v,d:=ofQ t.d.v,e:=ofQ t.e.v }
 |_=>⟨ofQ t.a.v,ofQ t.b.v,ofQ t.c.v,ofQ t.d.v,ofQ t.e.v,ofQ t.f.v⟩
def AF.nrm(t:AF):AF:=⟨ofQ t.a.v,ofQ t.b.v,ofQ t.c.v,ofQ t.d.v,ofQ t.e.v,ofQ t.f.v⟩
def ud:List SV:=(List.replicate 12 [bl false,SV.val (.slice none 0 0)]).flatten
def zet(t:AF)(ht:t.le 400000000):CG0 251 [.agg (afE t)] [] (.agg (afE t.nrm)) []:=by
 obtain⟨ha,hb,hc,hd,he,hf⟩:=ht;refine zc Tryz.func251 ?_
 refine⟨Nat,λi=>⟨[(20,i64 i),(19,.agg (afE t)),(3,.loc 2 0),(2,.loc 1 0)],[(2,.box 288 (afE (stage t i))),(1,.box 288 ud),(0,.box 38 (afE t))],3,30,0⟩,
  λi=>i<=6,λi=>6-i,0,Xh _,?_,?_⟩
 ·exact zf [0,1,2]
 intro i hi;have hi:i=0∨i=1∨i=2∨i=3∨i=4∨i=5∨i=6:=by have hi:i<=6:=hi;omega
 rcases hi with rfl|rfl|rfl|rfl|rfl|rfl|rfl
 ·exact Br.y<|zb.t (qS t.a ha)<|Ar.fit dC<|⟨1,(by show 1<=6;decide),zf [0,1,2],dC⟩
 ·exact Br.y<|zb.t (qS t.b hb)<|Ar.fit dC<|⟨2,(by show 2<=6;decide),zf [0,1,2],dC⟩
 ·exact Br.y<|zb.t (qS t.c hc)<|Ar.fit dC<|⟨3,(by show 3<=6;decide),zf [0,1,2],dC⟩
 ·exact Br.y<|zb.t (qS t.d hd)<|Ar.fit dC<|⟨4,(by show 4<=6;decide),zf [0,1,2],dC⟩
 ·exact Br.y<|zb.t (qS t.e he)<|Ar.fit dC<|⟨5,(by show 5<=6;decide),zf [0,1,2],dC⟩
 ·exact Br.y<|zb.t (qS t.f hf)<|Ar.fit dC<|⟨6,(by show 6<=6;decide),zf [0,1,2],dC⟩
 refine⟨λh=>absurd h dC,λ_=>?_⟩;exact .refl
def zr9(t:AF):CG0 254 [.agg (afE t)] [] (.agg (afE t)) []:=by
 refine zc Tryz.func254 ?_;exact zfZ.own<|.refl
def okI(t:AF):Nat->Prop
 |0=>True
 |k+1=>okI t k/\zb5 (t.nth k).v<=256
def AF.ok(t:AF):Prop:=okI t 6
instance (t:AF):∀n,Decidable (okI t n):=λn=>by
 induction n with
 |zero=>exact isTrue trivial
 |succ k ih=>unfold okI;exact instDecidableAnd
instance (t:AF):Decidable t.ok:=inferInstanceAs (Decidable (okI t 6))
def zgq(t:AF)(ht:t.le 100000000):CG0 180 [.agg (afE t)] [] (pr t.ok) []:=by
 have ht':=ht;obtain⟨ha,hb,hc,hd,he,hf⟩:=ht;refine zc Tryz.func180 ?_;refine zb.t (zet t ⟨oM,oM,oM,oM,oM,oM⟩)<|⟨Nat,λi=>⟨[(6,.agg (afE t.nrm)),(7,i64 i)],[],1,14,0⟩,λi=>i<=6/\okI t i,λi=>6-i,0,⟨Xh _,trivial⟩,?_,?_⟩
 ·exact zC []
 rintro i ⟨hi,ok⟩
 have hi:i=0∨i=1∨i=2∨i=3∨i=4∨i=5∨i=6:=oM
 rcases hi with rfl|rfl|rfl|rfl|rfl|rfl|rfl
 ·refine Br.y ?_;have l1:=zO t.a;refine zb.t (zb6 (ofQ t.a.v) (by rw[zF];omega)) ?_;rw[kv];refine⟨λh=>zd (λh'=>?_),λh=>?_⟩
  ·simp only[AF.ok,okI,AF.nth]at h';omega
  exact Ar.fit dC<|⟨1,⟨(by show 1<=6;decide),ok,(by show zb5 t.a.v<=256;omega)⟩,zC [],dC⟩
 ·refine Br.y ?_;have l1:=zO t.b;refine zb.t (zb6 (ofQ t.b.v) (by rw[zF];omega)) ?_;rw[kv];refine⟨λh=>zd (λh'=>?_),λh=>?_⟩
  ·simp only[AF.ok,okI,AF.nth]at h';omega
  exact Ar.fit dC<|⟨2,⟨(by show 2<=6;decide),ok,(by show zb5 t.b.v<=256;omega)⟩,zC [],dC⟩
 ·refine Br.y ?_;have l1:=zO t.c;refine zb.t (zb6 (ofQ t.c.v) (by rw[zF];omega)) ?_;rw[kv];refine⟨λh=>zd (λh'=>?_),λh=>?_⟩
  ·simp only[AF.ok,okI,AF.nth]at h';omega
  exact Ar.fit dC<|⟨3,⟨(by show 3<=6;decide),ok,(by show zb5 t.c.v<=256;omega)⟩,zC [],dC⟩
 ·refine Br.y ?_;have l1:=zO t.d;refine zb.t (zb6 (ofQ t.d.v) (by rw[zF];omega)) ?_;rw[kv];refine⟨λh=>zd (λh'=>?_),λh=>?_⟩
  ·simp only[AF.ok,okI,AF.nth]at h';omega
  exact Ar.fit dC<|⟨4,⟨(by show 4<=6;decide),ok,(by show zb5 t.d.v<=256;omega)⟩,zC [],dC⟩
 ·refine Br.y ?_;have l1:=zO t.e;refine zb.t (zb6 (ofQ t.e.v) (by rw[zF];omega)) ?_;rw[kv];refine⟨λh=>zd (λh'=>?_),λh=>?_⟩
  ·simp only[AF.ok,okI,AF.nth]at h';omega
  exact Ar.fit dC<|⟨5,⟨(by show 5<=6;decide),ok,(by show zb5 t.e.v<=256;omega)⟩,zC [],dC⟩
 ·refine Br.y ?_;have l1:=zO t.f;refine zb.t (zb6 (ofQ t.f.v) (by rw[zF];omega)) ?_;rw[kv];refine⟨λh=>zd (λh'=>?_),λh=>?_⟩
  ·simp only[AF.ok,okI,AF.nth]at h';omega
  exact Ar.fit dC<|⟨6,⟨(by show 6<=6;decide),ok,(by show zb5 t.f.v<=256;omega)⟩,zC [],dC⟩
 refine⟨λh=>absurd h dC,λ_=>?_⟩;exact zI ok
def zhx(a b c d:BR)(ha:a.len<=10000000)(hb:b.len<=10000000)(hc:c.len<=10000000)(hd:d.len<=10000000):
  CG0 255 [.agg (brE a),.agg (brE b),.agg (brE c),.agg (brE d)] [] (.agg (brE (ofQ (a.v*b.v+c.v*d.v)))) []:=by
 have l1:=zO a;have l2:=zO b;have l3:=zO c;have l4:=zO d;have m1:=yH a.v b.v;have m2:=yH c.v d.v;refine zc Tryz.func255 ?_;refine Dr.k<|zb.t (ztz a b oM oM)<|zb.t (ztz c d oM oM)<|zb.t (zpW (ofQ (a.v*b.v)) (ofQ (c.v*d.v)) (by rw[zF];omega) (by rw[zF];omega)) ?_;rw[kv,kv];exact .refl
def vD(t:AF)(x y:Rat):Rat:=t.a.v*x+t.c.v*y+t.e.v
def vE(t:AF)(x y:Rat):Rat:=t.b.v*x+t.d.v*y+t.f.v
def qQ(a b c d e:BR){n:Nat}(h1:a.len<=n)(h2:b.len<=n)(h3:c.len<=n)(h4:d.len<=n)(h5:e.len<=n):yS (a.v*b.v+c.v*d.v)<=4*n+5/\yS (a.v*b.v+c.v*d.v+e.v)<=5*n+7:=by
 have l1:=zO a;have l2:=zO b;have l3:=zO c;have l4:=zO d;have l5:=zO e;have m1:=yH a.v b.v;have m2:=yH c.v d.v;have m3:=zbf (a.v*b.v) (c.v*d.v);have m4:=zbf (a.v*b.v+c.v*d.v) e.v;omega
def ztB(t:AF)(x y:BR)(ht:t.le 5000000)(hx:x.len<=5000000)(hy:y.len<=5000000):
  CG0 253 [.agg (afE t),.agg (brE x),.agg (brE y)] [] (.tup [.agg (brE (ofQ (vD t x.v y.v))),.agg (brE (ofQ (vE t x.v y.v)))]) []:=by
 obtain⟨ha,hb,hc,hd,he,hf⟩:=ht;have m1:=qQ t.a x t.c y t.e ha hx hc hy he;have m2:=qQ t.b x t.d y t.f hb hx hd hy hf;refine zc Tryz.func253 ?_;refine Dr.k<|zb.t (zhx t.a x t.c y oM oM oM oM)<|zb.t (zpW (ofQ (t.a.v*x.v+t.c.v*y.v)) t.e (by rw[zF];omega) oM)<|zb.t (zhx t.b x t.d y oM oM oM oM)<|zb.t (zpW (ofQ (t.b.v*x.v+t.d.v*y.v)) t.f (by rw[zF];omega) oM) ?_;rw[kv,kv];exact .refl
def afQ(a b c d e f:Rat):AF:=⟨ofQ a,ofQ b,ofQ c,ofQ d,ofQ e,ofQ f⟩
def zDr(a b c d:Int)(ha:R64 a)(hb:R64 b)(hc:R64 c)(hd:R64 d):CG0 250 [i64 a,i64 b,i64 c,i64 d] [] (.agg (afE (afQ a b c d ((0:Int):Rat) ((0:Int):Rat)))) []:=by
 refine zc Tryz.func250 ?_;refine zb.t (yO a ha)<|zb.t (yO b hb)<|zb.t (yO c hc)<|zb.t (yO d hd)<|zb.t (yO 0 dC)<|zb.t (yO 0 dC) ?_;exact zb.t (zr9 (afQ a b c d ((0:Int):Rat) ((0:Int):Rat)))<|.refl
def zsa:CG0 179 [] [] (.agg (afE (afQ ((1:Int):Rat) ((0:Int):Rat) ((0:Int):Rat) ((1:Int):Rat) ((0:Int):Rat) ((0:Int):Rat)))) []:=by
 refine zc Tryz.func179 ?_;exact zb.t (zDr 1 0 0 1 dC dC dC dC)<|.refl
def z_cmp(a b:BI)(ha:a.mag.length<=800000000)(hb:b.mag.length<=800000000):CG0 369 [.agg (biE a),.agg (biE b)] [] (i64 (a.v-b.v).sign) []:=by
 refine zc Tryz.func369 ?_;refine zb.t (zpU a b ha hb) ?_;have h1:=zj1 a.v b.v;have h2:=zau a;have h3:=zau b;refine zb.t (zj9 (ofZ (a.v-b.v)) (by rw[zR];omega)) ?_;rw[zY];exact .refl
def zkf(x y:Rat):Int:=(x.num*y.den-y.num*x.den).sign
def zpX{z:Int}:0<=z.sign↔0<=z:=by
 rcases K9 z 0 with h|h|h
 ·rw[Kg h];omega
 ·subst h;decide
 rw[Kn h];omega
def zn3{x y:Rat}:0<=zkf x y↔y<=x:=by
 rw[Rat.le_iff];unfold zkf;rw[zpX];omega
def zxv(x y:Rat):zkf y x= - zkf x y:=by
 unfold zkf;rw[show y.num*x.den-x.num*y.den= -(x.num*y.den-y.num*x.den) by omega,Int.sign_neg]
def ztC{x y:Rat}:zkf x y<=0↔x<=y:=by
 have:=zn3 (x:=y) (y:=x);rw[zxv]at this;rw[←this];omega
def zil(a b:BR)(ha:a.len<=100000000)(hb:b.len<=100000000):CG0 306 [.agg (brE a),.agg (brE b)] [] (i64 (zkf a.v b.v)) []:=by
 have h1:=zO a;have h2:=zO b;have n1:=qt a.v;have n2:=qt b.v;have d1:=qM a.v;have d2:=qM b.v;have m1:=k7 a.v.num b.v.den;have m2:=k7 b.v.num a.v.den;refine zc Tryz.func306 ?_;refine zb.t (zn2 a b oM oM)<|zb.t (z_cmp (ofZ (a.v.num*b.v.den)) (ofZ (b.v.num*a.v.den)) (by rw[zR];omega) (by rw[zR];omega)) ?_;rw[zY,zY];exact .refl
def q_sub(a b:BR)(ha:a.len<=50000000)(hb:b.len<=50000000):CG0 370 [.agg (brE a),.agg (brE b)] [] (.agg (brE (ofQ (a.v-b.v)))) []:=by
 have h1:=zO a;have h2:=zO b;have n1:=qt a.v;have n2:=qt b.v;have d1:=qM a.v;have d2:=qM b.v;have m1:=k7 a.v.num b.v.den;have m2:=k7 b.v.num a.v.den;have m3:=k7 a.v.den b.v.den;have m4:=zj1 (a.v.num*b.v.den) (b.v.num*a.v.den);refine zc Tryz.func370 ?_;refine zb.t (zn2 a b oM oM)<|Dr.k<|zb.t (zpU (ofZ (a.v.num*b.v.den)) (ofZ (b.v.num*a.v.den)) (by rw[zR];omega) (by rw[zR];omega)) ?_;rw[zY,zY]
 refine zb.t (zgp (ofZ (a.v.num*b.v.den-b.v.num*a.v.den)) (ofZ (a.v.den*b.v.den)) (by rw[zR];omega) (by rw[zR];omega) (by rw[zY];exact uW _ _)) ?_;rw[zY,zY,zxu];exact .refl
def zpY(x:Rat):yS (-x)=yS x:=by
 unfold yS;rw[Rat.neg_num,Rat.neg_den,zac]
def zxw(x y:Rat):yS (x-y)<=yS x+yS y+1:=by
 have:=zbf x (-y);rw[zpY,←JP]at this;exact this
def AF.same(t u:AF):Prop:=t.a.v=u.a.v/\t.b.v=u.b.v/\t.c.v=u.c.v/\t.d.v=u.d.v/\t.e.v=u.e.v/\t.f.v=u.f.v
instance (t u:AF):Decidable (t.same u):=inferInstanceAs (Decidable (_/\_))
def j7{x y:Rat}:zkf x y=0↔x=y:=by
 constructor
 ·intro h;exact Rat.le_antisymm (ztC.1 oM) (zn3.1 oM)
 rintro rfl
 unfold zkf;rw[Int.sub_self];rfl
def AF.le_len{t:AF}{n:Nat}(h:t.le n):t.nrm.le (max n 1):=by
 obtain⟨h1,h2,h3,h4,h5,h6⟩:=h;have l1:=zO t.a;have l2:=zO t.b;have l3:=zO t.c;have l4:=zO t.d;have l5:=zO t.e;have l6:=zO t.f;refine⟨?_,?_,?_,?_,?_,?_⟩ <;> (show(ofQ _).len<=_;rw[zF];omega)
def zxx(t u:AF):Nat->Prop
 |0=>True
 |k+1=>zxx t u k/\(t.nth k).v=(u.nth k).v
def ztD(t u:AF)(ht:t.le 10000000)(hu:u.le 10000000):CG0 434 [.agg (afE t),.agg (afE u)] [] (pr (t.same u)) []:=by
 refine zc Tryz.func434 ?_;refine Dr.k ?_;obtain⟨ha,hb,hc,hd,he,hf⟩:=ht;obtain⟨ka,kb,kc,kd,ke,kf⟩:=hu;refine zb.t (zet t ⟨oM,oM,oM,oM,oM,oM⟩)<|zb.t (zet u ⟨oM,oM,oM,oM,oM,oM⟩)<|⟨Nat,λi=>⟨[(14,i64 i),(13,.agg (afE t.nrm)),(6,.loc 3 0)],[(3,.box 288 (afE u.nrm))],4,25,0⟩,λi=>i<=6/\zxx t u i,λi=>6-i,0,⟨Xh _,trivial⟩,?_,?_⟩
 ·exact zC [(3,some 3)]
 rintro i ⟨hi,ok⟩
 have hi:i=0∨i=1∨i=2∨i=3∨i=4∨i=5∨i=6:=oM;have l1:=zO t.a;have l2:=zO t.b;have l3:=zO t.c;have l4:=zO t.d;have l5:=zO t.e;have l6:=zO t.f;have j1:=zO u.a;have j2:=zO u.b;have j3:=zO u.c;have j4:=zO u.d;have j5:=zO u.e;have j6:=zO u.f
 rcases hi with rfl|rfl|rfl|rfl|rfl|rfl|rfl
 ·refine Br.y<|Dr.k<|zb.t (zil (ofQ t.a.v) (ofQ u.a.v) (by rw[zF];omega) (by rw[zF];omega)) ?_;rw[kv,kv];refine⟨λh=>zd (λh1=>h (j7.2 h1.1)),λh=>?_⟩;have h:=j7.1 (Xa.1 h);exact Ar.fit dC<|⟨1,⟨(by show 1<=6;decide),ok,h⟩,zC [(3,some 3)],dC⟩
 ·refine Br.y<|Dr.k<|zb.t (zil (ofQ t.b.v) (ofQ u.b.v) (by rw[zF];omega) (by rw[zF];omega)) ?_;rw[kv,kv];refine⟨λh=>zd (λh1=>h (j7.2 h1.2.1)),λh=>?_⟩;have h:=j7.1 (Xa.1 h);exact Ar.fit dC<|⟨2,⟨(by show 2<=6;decide),ok,h⟩,zC [(3,some 3)],dC⟩
 ·refine Br.y<|Dr.k<|zb.t (zil (ofQ t.c.v) (ofQ u.c.v) (by rw[zF];omega) (by rw[zF];omega)) ?_;rw[kv,kv];refine⟨λh=>zd (λh1=>h (j7.2 h1.2.2.1)),λh=>?_⟩;have h:=j7.1 (Xa.1 h);exact Ar.fit dC<|⟨3,⟨(by show 3<=6;decide),ok,h⟩,zC [(3,some 3)],dC⟩
 ·refine Br.y<|Dr.k<|zb.t (zil (ofQ t.d.v) (ofQ u.d.v) (by rw[zF];omega) (by rw[zF];omega)) ?_;rw[kv,kv];refine⟨λh=>zd (λh1=>h (j7.2 h1.2.2.2.1)),λh=>?_⟩;have h:=j7.1 (Xa.1 h);exact Ar.fit dC<|⟨4,⟨(by show 4<=6;decide),ok,h⟩,zC [(3,some 3)],dC⟩
 ·refine Br.y<|Dr.k<|zb.t (zil (ofQ t.e.v) (ofQ u.e.v) (by rw[zF];omega) (by rw[zF];omega)) ?_;rw[kv,kv];refine⟨λh=>zd (λh1=>h (j7.2 h1.2.2.2.2.1)),λh=>?_⟩;have h:=j7.1 (Xa.1 h);exact Ar.fit dC<|⟨5,⟨(by show 5<=6;decide),ok,h⟩,zC [(3,some 3)],dC⟩
 ·refine Br.y<|Dr.k<|zb.t (zil (ofQ t.f.v) (ofQ u.f.v) (by rw[zF];omega) (by rw[zF];omega)) ?_;rw[kv,kv];refine⟨λh=>zd (λh1=>h (j7.2 h1.2.2.2.2.2)),λh=>?_⟩;have h:=j7.1 (Xa.1 h);exact Ar.fit dC<|⟨6,⟨(by show 6<=6;decide),ok,h⟩,zC [(3,some 3)],dC⟩
 refine⟨λh=>absurd h dC,λ_=>?_⟩;obtain⟨⟨⟨⟨⟨⟨_,o1⟩,o2⟩,o3⟩,o4⟩,o5⟩,o6⟩:=ok;exact zI ⟨o1,o2,o3,o4,o5,o6⟩
def zaU{q:Rat}(h:zb5 q<=256):yS q<=8:=by
 have key:∀n:Nat,kA n<=256->(zm n).length<=8:=λn hn=>jL (by
  have:=zdB n;have h2:2^kA n<=2^256:=XH dC hn;have h3:(4294967296:Nat)^8=2^256:=dC
  rw[h3];omega)
 unfold zb5 at h;unfold yS jk;have h1:=key q.num.natAbs oM;have h2:=key q.den oM;rw[QJ];omega
def ok_le{t:AF}(h:t.nrm.ok):t.nrm.le 8:=by
 obtain⟨⟨⟨⟨⟨⟨_,o1⟩,o2⟩,o3⟩,o4⟩,o5⟩,o6⟩:=h;simp only[AF.nth,AF.nrm,kv]at o1 o2 o3 o4 o5 o6
 exact⟨by show(ofQ _).len<=_;rw[zF];exact zaU o1,by show(ofQ _).len<=_;rw[zF];exact zaU o2,by show(ofQ _).len<=_;rw[zF];exact zaU o3,
  by show(ofQ _).len<=_;rw[zF];exact zaU o4,by show(ofQ _).len<=_;rw[zF];exact zaU o5,by show(ofQ _).len<=_;rw[zF];exact zaU o6⟩
def zbr(t:AF):Rat:=t.a.v*t.d.v-t.b.v*t.c.v
def zkg(t:AF)(ht:t.le 10000000):CG0 307 [.agg (afE t)] [] (.agg (brE (ofQ (zbr t)))) []:=by
 obtain⟨ha,hb,hc,hd,he,hf⟩:=ht;have l1:=zO t.a;have l2:=zO t.b;have l3:=zO t.c;have l4:=zO t.d;have m1:=yH t.a.v t.d.v;have m2:=yH t.b.v t.c.v;refine zc Tryz.func307 ?_;refine Dr.k<|zb.t (ztz t.a t.d oM oM)<|zb.t (ztz t.b t.c oM oM)<|zb.t (q_sub (ofQ (t.a.v*t.d.v)) (ofQ (t.b.v*t.c.v)) (by rw[zF];omega) (by rw[zF];omega)) ?_;rw[kv,kv];exact .refl
def zpZ(t:AF)(ht:t.le 100000000):CG0 182 [.agg (afE t)] [] (.agg (afE t.nrm)) []:=by
 obtain⟨ha,hb,hc,hd,he,hf⟩:=ht;refine zc Tryz.func182 ?_;exact zb.t (zet t ⟨oM,oM,oM,oM,oM,oM⟩)<|zb.t (zr9 t.nrm)<|.refl
def beh(t u:AF):AF:=afQ (u.a.v*t.a.v+u.c.v*t.b.v) (u.b.v*t.a.v+u.d.v*t.b.v) (u.a.v*t.c.v+u.c.v*t.d.v) (u.b.v*t.c.v+u.d.v*t.d.v) (vD u t.e.v t.f.v) (vE u t.e.v t.f.v)
def zxy(t u:AF)(ht:t.le 1000000)(hu:u.le 1000000):CG0 181 [.agg (afE t),.agg (afE u)] [] (.agg (afE (beh t u))) []:=by
 have ht':=ht;have hu':=hu;obtain⟨ha,hb,hc,hd,he,hf⟩:=ht;obtain⟨ka,kb,kc,kd,ke,kf⟩:=hu;refine zc Tryz.func181 ?_;refine zb.t (ztB u t.e t.f ⟨oM,oM,oM,oM,oM,oM⟩ oM oM)<|Dr.k<|zb.t (zhx u.a t.a u.c t.b oM oM oM oM)<|zb.t (zhx u.b t.a u.d t.b oM oM oM oM)<|zb.t (zhx u.a t.c u.c t.d oM oM oM oM)<|zb.t (zhx u.b t.c u.d t.d oM oM oM oM) ?_;exact zb.t (zr9 (beh t u))<|.refl
def zxz{t u:AF}{n:Nat}(ht:t.le n)(hu:u.le n):(beh t u).le (5*n+7):=by
 obtain⟨ha,hb,hc,hd,he,hf⟩:=ht;obtain⟨ka,kb,kc,kd,ke,kf⟩:=hu;have m1:=qQ u.a t.a u.c t.b u.e ka ha kc hb ke;have m2:=qQ u.b t.a u.d t.b u.e kb ha kd hb ke;have m3:=qQ u.a t.c u.c t.d u.e ka hc kc hd ke;have m4:=qQ u.b t.c u.d t.d u.e kb hc kd hd ke;have m5:=qQ u.a t.e u.c t.f u.e ka he kc hf ke;have m6:=qQ u.b t.e u.d t.f u.f kb he kd hf kf;refine⟨?_,?_,?_,?_,?_,?_⟩ <;> (show(ofQ _).len<=_;rw[zF])
 ·omega
 ·omega
 ·omega
 ·omega
 ·exact m5.2
 exact m6.2
def zDs(a b:List Dig)(ha:a.length<=400000000)(hb:b.length<=400000000):
  CG0 227 [.sl dgE a,.sl dgE b] [] (.sl dgE (zm (Nat.gcd (val a) (val b)))) []:=by
 refine zc Tryz.func227 ?_;refine zb.t (uH _ oM)<|zb.t (uH _ oM) ?_;have hla:=zJ a;have hlb:=zJ b
 refine⟨Nat×Nat,λ⟨A,B⟩=>⟨[(5,.sl dgE (zm A)),(6,.sl dgE (zm B))],[],0,27,0⟩,
  λx=>(zm x.1).length<=400000000/\(zm x.2).length<=400000000/\Nat.gcd x.1 x.2=Nat.gcd (val a) (val b),λx=>x.2,(val a,val b),?_,?_,?_⟩
 ·exact⟨by dsimp only;omega,by dsimp only;omega,rfl⟩
 ·exact zC []
 rintro⟨A,B⟩ ⟨h1,h2,h3⟩
 dsimp only at h1 h2 h3;intro hl;refine⟨λk=>?_,λk=>?_⟩
 ·have hB:B≠0:=jy.1 oM;refine zb.t (zhs (zm A) (zm B) oM oM (by rw[zo];exact hB)) ?_;rw[zo,zo];have hm:=Kk A (X9 hB);refine⟨(B,A%B),⟨h2,XC (qm (YA hm)) h2,?_⟩,zC [],hm⟩;dsimp only;rw[←h3,QV B,QV A B,Nat.gcd_rec B A]
 have hB:B=0:=yF.1 (XM.1 oM);subst hB;rw[Nat.gcd_zero_right]at h3;exact z0 (by rw[h3])
def zAB(m:List Dig)(hm:m.length<=1000000000):CG0 226 [bl false,.sl dgE m] [] (.agg (biE (ofZ (val m)))) []:=by
 have:=(zav False m hm).args (.cons (zd id) (.C .nil))
 rwa [Xc id]at this
def zn4(a:BI)(hm:a.mag.length<=1000000000):CG0 228 [.agg (biE a)] [] (.agg (biE (ofZ (-a.v)))) []:=by
 refine zc Tryz.func228 ?_;refine zb.t (zav (¬a.neg=true) a.mag hm) ?_
 have:(if¬a.neg=true then-(val a.mag:Int) else(val a.mag:Int))= -a.v:=by
  obtain⟨h1,h2⟩|⟨h1,h2⟩:=a.v_eq <;> simp[h1,h2]
 rw[this];exact .refl
def zsb(a b:BI)(ha:a.mag.length<=800000000)(hb:b.mag.length<=800000000):CG0 290 [.agg (biE a),.agg (biE b)] [] (.agg (biE (ofZ (a.v+b.v)))) []:=by
 refine zc Tryz.func290 ?_;refine⟨λh=>?_,λh=>?_⟩
 ·refine Dr.k<|zb.t (ziV a.mag b.mag oM oM) ?_;have hl:=zb4 ha hb;refine zb.t (zav (a.neg=true) _ oM) ?_
  have:(if a.neg=true then-(val (zm (val a.mag+val b.mag)):Int) else(val (zm (val a.mag+val b.mag)):Int))=a.v+b.v:=by
   rw[zo]
   obtain⟨h1,h2⟩|⟨h1,h2⟩:=a.v_eq <;> obtain⟨h3,h4⟩|⟨h3,h4⟩:=b.v_eq <;> simp[h1,h3]at h <;> simp[h1,h2,h4] <;> omega
  rw[this];exact .refl
 refine zb.t (znW a.mag b.mag oM oM) ?_;have hl:(zm (val a.mag-val b.mag)).length<=1000000000:=XC (qm (Yz _ _)) (XC (zJ _) oM);have hl2:(zm (val b.mag-val a.mag)).length<=1000000000:=XC (qm (Yz _ _)) (XC (zJ _) oM);refine⟨λh2=>?_,λh2=>?_⟩
 ·refine zb.t (zav (a.neg=true) _ hl) ?_
  have:(if a.neg=true then-(val (zm (val a.mag-val b.mag)):Int) else(val (zm (val a.mag-val b.mag)):Int))=a.v+b.v:=by
   rw[zo]
   obtain⟨h1,h2⟩|⟨h1,h2⟩:=a.v_eq <;> obtain⟨h3,h4⟩|⟨h3,h4⟩:=b.v_eq <;> simp[h1,h3]at h <;> simp[h1,h2,h4] <;> omega
  rw[this];exact .refl
 refine zb.t (znW b.mag a.mag oM oM)<|zb.t (zav (b.neg=true) _ hl2) ?_
 have:(if b.neg=true then-(val (zm (val b.mag-val a.mag)):Int) else(val (zm (val b.mag-val a.mag)):Int))=a.v+b.v:=by
  rw[zo]
  obtain⟨h1,h2⟩|⟨h1,h2⟩:=a.v_eq <;> obtain⟨h3,h4⟩|⟨h3,h4⟩:=b.v_eq <;> simp[h1,h3]at h <;> simp[h3,h2,h4] <;> omega
 rw[this];exact .refl
def zxA(a b:BI)(ha:a.mag.length<=800000000)(hb:b.mag.length<=800000000):CG0 305 [.agg (biE a),.agg (biE b)] [] (.agg (biE (ofZ (a.v-b.v)))) []:=by
 refine zc Tryz.func305 ?_;refine Dr.k<|zb.t (zn4 b oM) ?_;have h1:=zau b;refine zb.t (zsb a (ofZ (-b.v)) oM (by rw[zR,zac];omega)) ?_;rw[zY,←Q9];exact .refl
def zmi(a:BI)(ha:a.mag.length<=900000000):CG0 289 [.agg (biE a)] [] (i64 (kA a.v.natAbs)) []:=by
 refine zc Tryz.func289 ?_;refine zb.t (zmf a.mag ha) ?_;rw[BI.v_abs];exact .refl
def zDt{A B:Nat}(hB:0<B):(A%B=0-> -(A:Int)/B= -((A/B:Nat):Int)/\ -(A:Int)%B= -((A%B:Nat):Int))/\(A%B≠0-> -(A:Int)/B= -((A/B:Nat):Int)-1/\ -(A:Int)%B= -((A%B:Nat):Int)+B):=by
 have hdm:=X7 A B;have hm:=Kk A hB;generalize A/B=q at*;generalize A%B=r at*;have e:(B:Int)*(q:Int)=((B*q:Nat):Int):=(X1 _ _).symm;have hB':(0:Int)<B:=oM;refine⟨λh=>(Qf hB').2 ⟨?_,oM,oM⟩,λh=>(Qf hB').2 ⟨?_,oM,oM⟩⟩
 ·rw[QR,e];omega
 rw[Int.mul_sub,QR,e,Int.mul_one];omega
def zb7(a b:BI)(ha:a.mag.length<=200000000)(hb:b.mag.length<=200000000)(h0:0<b.v):
  CG0 229 [.agg (biE a),.agg (biE b)] [] (.tup [.agg (biE (ofZ (a.v/b.v))),.agg (biE (ofZ (a.v%b.v))),i64 0]) []:=by
 have hbv:b.neg=false/\b.v=(val b.mag:Int):=by
  obtain⟨h1,h2⟩|h:=b.v_eq
  ·omega
  exact h
 have hB:0<val b.mag:=oM;have q1:(zm (val a.mag/val b.mag)).length<=200000000:=XC (qm (K3 _ _)) (XC (zJ _) ha);have r1:(zm (val a.mag%val b.mag)).length<=200000000:=XC (qm (Nat.mod_le _ _)) (XC (zJ _) ha);have nb:¬b.neg=true:=by rw[hbv.1];decide
 refine zc Tryz.func229 ?_;refine zb.t (zcH b oM)<|⟨λh=>absurd (KS.1 h) oM,λ_=>?_⟩;refine zb.t (zhs a.mag b.mag oM oM oM)<|zb.t (zav (¬(a.neg=true↔b.neg=true)) _ oM)<|zb.t (zav (a.neg=true) _ oM) ?_;rw[zo,zo]
 obtain⟨h1,h2⟩|⟨h1,h2⟩:=a.v_eq
 ·have pa:¬(a.neg=true↔b.neg=true):=by rw[h1,hbv.1];decide
  rw[Xe pa,Xe h1];refine⟨λh3=>?_,λh3=>absurd pa h3⟩;have nd:=zDt (A:=val a.mag) hB;rw[←h2,←hbv.2]at nd;have k1:jk (-((val a.mag/val b.mag:Nat):Int))<=200000000:=by rw[zac];exact q1
  have k2:jk (-((val a.mag%val b.mag:Nat):Int))<=200000000:=by rw[zac];exact r1
  refine zb.t (zcH (ofZ (-((val a.mag%val b.mag:Nat):Int))) (by rw[zR];omega)) ?_;rw[zY];refine⟨λh4=>?_,λh4=>?_⟩
  ·have hr:val a.mag%val b.mag≠0:=λh=>h4 (by rw[h];rfl)
   refine Dr.k<|zb.t (jM 1 dC)<|zb.t (zxA (ofZ (-((val a.mag/val b.mag:Nat):Int))) (ofZ 1) (by rw[zR];omega) (by decide +kernel))<|zb.t (zsb (ofZ (-((val a.mag%val b.mag:Nat):Int))) b (by rw[zR];omega) oM) ?_;rw[zY,zY,zY,(nd.2 hr).1,(nd.2 hr).2];exact .refl
  have hr:val a.mag%val b.mag=0:=by
   have:(-((val a.mag%val b.mag:Nat):Int))=0:=KS.1 (Xa.1 h4);omega
  refine Dr.d<|Ob.mk (by kernel_rfl) ?_;rw[←(nd.1 hr).1,←(nd.1 hr).2];exact .refl
 have pa:¬¬(a.neg=true↔b.neg=true):=by rw[h1,hbv.1];decide
 have na:¬a.neg=true:=by rw[h1];decide
 rw[Xc pa,Xc na];refine⟨λh3=>absurd h3 pa,λh3=>?_⟩;refine Dr.d<|Ob.mk (by kernel_rfl) ?_;rw[h2,hbv.2,←J1,←QU];exact .refl
def yB(n:Int)(hn:R64 n):CG0 104 [i64 n] [] (.agg (brE (ofQ (n:Rat)))) []:=by
 refine zc Tryz.func104 ?_;refine zb.t (jM n hn)<|zb.t (jM 1 dC) ?_;have e:ofQ (n:Rat)=⟨ofZ n,ofZ 1⟩:=by unfold ofQ;rw[Yg,Ye];rfl
 rw[e];exact .refl
def zeu(n d:BI)(hn:n.mag.length<=200000000)(hd:d.mag.length<=200000000)(h0:d.v≠0):
  CG0 159 [.agg (biE n),.agg (biE d)] [] (.agg (brE (ofQ (Rat.divInt n.v d.v)))) []:=by
 refine zc Tryz.func159 ?_;refine zb.t (zDs n.mag d.mag oM oM) ?_;have hdz:val d.mag≠0:=by rw[←d.v_abs];omega
 have hg0:0<Nat.gcd (val n.mag) (val d.mag):=Q7 _ oM
 have hgl:(zm (Nat.gcd (val n.mag) (val d.mag))).length<=200000000:=
  XC (qm (Nat.gcd_le_right _ oM)) (XC (zJ _) hd)
 have hnum:=Rat.num_divInt n.v d.v;have hden:=Rat.den_divInt n.v d.v
 have hg:d.v.gcd n.v=Nat.gcd (val n.mag) (val d.mag):=by
  rw[←n.v_abs,←d.v_abs];exact QV _ _
 rw[hg]at hnum hden;rw[Xc h0]at hden;have ln:=zau n;have ld:=zau d;generalize Nat.gcd (val n.mag) (val d.mag)=g at*;refine zb.t (zAB (zm g) oM) ?_;rw[zo];have zg:jk (g:Int)<=200000000:=hgl
 have fin:∀N D:Int,N=d.v.sign*n.v->D=(d.v.natAbs:Int)->ofQ (Rat.divInt n.v d.v)=⟨ofZ (N/(g:Int)),ofZ (D/(g:Int))⟩:=λN D hN hD=>by
  unfold ofQ;rw[hnum,hden,hN,hD];rfl
 refine zb.t (zcH d oM)<|⟨λh=>?_,λh=>?_⟩
 ·have hneg:d.v<0:=by
   rcases K9 d.v 0 with k|k|k
   ·exact k
   ·exact absurd k h0
   rw[Kn k]at h;omega
  refine zb.t (zn4 n oM)<|zb.t (zn4 d oM)<|zb.t (zb7 (ofZ (-n.v)) (ofZ (g:Int)) (by rw[zR,zac];omega) (by rw[zR];omega) (by rw[zY];omega))<|zb.t (zb7 (ofZ (-d.v)) (ofZ (g:Int)) (by rw[zR,zac];omega) (by rw[zR];omega) (by rw[zY];omega)) ?_;rw[zY,zY,zY,fin (-n.v) (-d.v) (by rw[Kg hneg];omega) oM];exact .refl
 have hpos:0<d.v:=by
  rcases K9 d.v 0 with k|k|k
  ·rw[Kg k]at h;omega
  ·exact absurd k h0
  exact k
 refine zb.t (zb7 n (ofZ (g:Int)) oM (by rw[zR];omega) (by rw[zY];omega))<|zb.t (zb7 d (ofZ (g:Int)) oM (by rw[zR];omega) (by rw[zY];omega)) ?_;rw[zY,fin n.v d.v (by rw[Kn hpos];omega) oM];exact .refl
def zDu(n d:BI)(hn:n.mag.length<=200000000)(hd:d.mag.length<=200000000)(h0:d.v≠0):
  CG0 292 [.agg (biE n),.agg (biE d)] [] (.tup [.agg (brE (ofQ (Rat.divInt n.v d.v))),i64 0]) []:=by
 refine zc Tryz.func292 ?_;refine zb.t (zcH d oM)<|⟨λh=>absurd (KS.1 h) h0,λ_=>?_⟩;exact zb.t (zeu n d hn hd h0)<|zM .refl .refl
def zp0(n d:Int)(hn:R64 n)(hd:R64 d)(h0:d≠0):CG0 213 [i64 n,i64 d] [] (.tup [.agg (brE (ofQ (Rat.divInt n d))),i64 0]) []:=by
 refine zc Tryz.func213 ?_;have l1:=jj hn;have l2:=jj hd;refine zb.t (jM n hn)<|zb.t (jM d hd)<|zb.t (zDu (ofZ n) (ofZ d) (by rw[zR];omega) (by rw[zR];omega) (by rw[zY];exact h0)) ?_;rw[zY,zY];exact zM .refl .refl
def kG(a:BR)(ha:a.len<=200000000):CG0 105 [.agg (brE a)] [] (.agg (brE (ofQ a.v))) []:=by
 have h1:a.num.mag.length<=a.len:=Q8 _ _;have h2:a.den.mag.length<=a.len:=QW _ _;refine zc Tryz.func105 ?_;refine zb.t (zcH a.den oM)<|⟨λh=>?_,λh=>?_⟩
 ·refine zb.t (yB 0 dC) ?_;have e:a.v=((0:Int):Rat):=by unfold BR.v;rw[KS.1 h,Yf];rfl
  rw[e];exact .refl
 exact zb.t (zeu a.num a.den oM oM (λk=>h (by rw[k];rfl)))<|.refl
def zdH(a b:BR)(ha:a.len<=50000000)(hb:b.len<=50000000):CG0 210 [.agg (brE a),.agg (brE b)] [] (.agg (brE (ofQ (a.v+b.v)))) []:=by
 have h1:=zO a;have h2:=zO b;have h3:=zbg a.v;have h4:=zbg b.v;have n1:=qt a.v;have n2:=qt b.v;have d1:=qM a.v;have d2:=qM b.v;have m1:=k7 a.v.num b.v.den;have m2:=k7 b.v.num a.v.den;have m3:=k7 a.v.den b.v.den;have m4:=zgn (a.v.num*b.v.den) (b.v.num*a.v.den);refine zc Tryz.func210 ?_;refine Dr.k<|zb.t (kG a oM)<|zb.t (kG b oM)<|Dr.k<|zb.t (zcI (ofQ a.v).num (ofQ b.v).den oM oM)<|zb.t (zcI (ofQ b.v).num (ofQ a.v).den oM oM) ?_;rw[yA,yA,jS,jS]
 refine zb.t (zsb (ofZ (a.v.num*b.v.den)) (ofZ (b.v.num*a.v.den)) (by rw[zR];omega) (by rw[zR];omega)) ?_;rw[zY,zY];refine zb.t (zcI (ofQ a.v).den (ofQ b.v).den oM oM) ?_;rw[jS,jS];refine zb.t (zeu (ofZ (a.v.num*b.v.den+b.v.num*a.v.den)) (ofZ (a.v.den*b.v.den)) (by rw[zR];omega) (by rw[zR];omega) (by rw[zY];exact uW _ _)) ?_;rw[zY,zY,zkd];exact .refl
def zn5(a b:BR)(ha:a.len<=50000000)(hb:b.len<=50000000):CG0 279 [.agg (brE a),.agg (brE b)] [] (.agg (brE (ofQ (a.v*b.v)))) []:=by
 have h1:=zO a;have h2:=zO b;have h3:=zbg a.v;have h4:=zbg b.v;have n1:=qt a.v;have n2:=qt b.v;have d1:=qM a.v;have d2:=qM b.v;have m1:=k7 a.v.num b.v.num;have m3:=k7 a.v.den b.v.den;refine zc Tryz.func279 ?_;refine Dr.k<|zb.t (kG a oM)<|zb.t (kG b oM)<|Dr.k<|zb.t (zcI (ofQ a.v).num (ofQ b.v).num oM oM)<|zb.t (zcI (ofQ a.v).den (ofQ b.v).den oM oM) ?_;rw[yA,yA,jS,jS];refine zb.t (zeu (ofZ (a.v.num*b.v.num)) (ofZ (a.v.den*b.v.den)) (by rw[zR];omega) (by rw[zR];omega) (by rw[zY];exact uW _ _)) ?_
 rw[zY,zY,zke];exact .refl
def zp1(a:BR)(ha:a.len<=100000000):CG0 215 [.agg (brE a)] [] (.agg (biE (ofZ a.v.floor))) []:=by
 have h1:=zO a;have h3:=zbg a.v;have h0:=a.v.den_nz;refine zc Tryz.func215 ?_;refine zb.t (kG a oM)<|zb.t (zb7 (ofQ a.v).num (ofQ a.v).den oM oM (by rw[jS];omega)) ?_;rw[yA,jS,←J0];exact .refl
def zu6(a:BR)(ha:a.len<=100000000):CG0 208 [.agg (brE a)] [] (i64 (zb5 a.v)) []:=by
 have h1:=zO a;have h3:=zbg a.v;refine zc Tryz.func208 ?_;refine zb.t (kG a oM)<|Dr.k<|zb.t (zmi (ofQ a.v).num oM)<|zb.t (zmi (ofQ a.v).den oM) ?_;rw[yA,jS,QJ];refine ze ?_;unfold zb5;simp only[zc9];omega
def zaE(t:AF):List BR:=[t.a,t.b,t.c,t.d,t.e,t.f]
def zxB{t:AF}{i:Nat}{x:BR}(h:(zaE t)[i]?=some x):x=t.nth i:=by
 have:i<6:=(Xd.1 h).1;have e:i=0∨i=1∨i=2∨i=3∨i=4∨i=5:=oM
 rcases e with rfl|rfl|rfl|rfl|rfl|rfl <;> (cases h;rfl)
def zxC{t:AF}{n:Nat}(h:t.le n):∀i,(t.nth i).len<=n:=λi=>by
 obtain⟨h1,h2,h3,h4,h5,h6⟩:=h;unfold AF.nth;split <;> assumption
def zhy(t:AF):CG0 207 [.agg (afE t)] [] (.sl brE (zaE t)) []:=by
 refine zc Tryz.func207 ?_;refine⟨BR,brE,zaE t,rfl,Ob.o0 ?_⟩;exact .refl
def zb8(t:AF)(ht:t.le 100000000):CG0 137 [.agg (afE t)] [] (pr t.ok) []:=by
 refine zc Tryz.func137 ?_;refine zb.t (zhy t)<|⟨Nat,λi=>⟨[(4,i64 i),(3,.sl brE (zaE t))],[],1,19,0⟩,λi=>i<=6/\okI t i,λi=>6-i,0,⟨Xh _,trivial⟩,?_,?_⟩
 ·exact zC []
 rintro i ⟨h1,h2⟩
 intro hl;have hl6:(zaE t).length=6:=rfl;refine⟨λh3=>?_,λh3=>?_⟩
 ·refine Ob.o4 ?_;intro x hx;have hx:(zaE t)[i]?=some x:=hx;have hx:=zxB hx;subst hx;refine zb.t (zu6 (t.nth i) (zxC ht i))<|⟨λh4=>?_,λh4=>?_⟩
  ·refine zd λh=>?_
   have e:i=0∨i=1∨i=2∨i=3∨i=4∨i=5:=oM;simp only[AF.ok,okI]at h
   rcases e with rfl|rfl|rfl|rfl|rfl|rfl <;> omega
  exact Ar.o<|⟨i+1,⟨oM,h2,oM⟩,zC [],by dsimp only;omega⟩
 have:i=6:=by omega
 subst this;exact zI h2
def zbA(a b c d:BR)(ha:a.len<=10000000)(hb:b.len<=10000000)(hc:c.len<=10000000)(hd:d.len<=10000000):
  CG0 209 [.agg (brE a),.agg (brE b),.agg (brE c),.agg (brE d)] [] (.agg (brE (ofQ (a.v*b.v+c.v*d.v)))) []:=by
 have l1:=zO a;have l2:=zO b;have l3:=zO c;have l4:=zO d;have m1:=yH a.v b.v;have m2:=yH c.v d.v;refine zc Tryz.func209 ?_;refine Dr.k<|zb.t (zn5 a b oM oM)<|zb.t (zn5 c d oM oM)<|zb.t (zdH (ofQ (a.v*b.v)) (ofQ (c.v*d.v)) (by rw[zF];omega) (by rw[zF];omega)) ?_;rw[kv,kv];exact .refl
def zu7(t:AF)(x y:BR)(ht:t.le 5000000)(hx:x.len<=5000000)(hy:y.len<=5000000):
  CG0 212 [.agg (afE t),.agg (brE x),.agg (brE y)] [] (.tup [.agg (brE (ofQ (vD t x.v y.v))),.agg (brE (ofQ (vE t x.v y.v)))]) []:=by
 obtain⟨ha,hb,hc,hd,he,hf⟩:=ht;have m1:=qQ t.a x t.c y t.e ha hx hc hy he;have m2:=qQ t.b x t.d y t.f hb hx hd hy hf;refine zc Tryz.func212 ?_;refine Dr.k<|zb.t (zbA t.a x t.c y oM oM oM oM)<|zb.t (zdH (ofQ (t.a.v*x.v+t.c.v*y.v)) t.e (by rw[zF];omega) oM)<|zb.t (zbA t.b x t.d y oM oM oM oM)<|zb.t (zdH (ofQ (t.b.v*x.v+t.d.v*y.v)) t.f (by rw[zF];omega) oM) ?_;rw[kv,kv];exact .refl
def zxD(a b:BI)(ha:a.mag.length<=800000000)(hb:b.mag.length<=800000000):CG0 276 [.agg (biE a),.agg (biE b)] [] (i64 (a.v-b.v).sign) []:=by
 refine zc Tryz.func276 ?_;refine zb.t (zxA a b ha hb) ?_;have h1:=zj1 a.v b.v;have h2:=zau a;have h3:=zau b;refine zb.t (zcH (ofZ (a.v-b.v)) (by rw[zR];omega)) ?_;rw[zY];exact .refl
def zxE(a b:BR)(ha:a.len<=100000000)(hb:b.len<=100000000):CG0 198 [.agg (brE a),.agg (brE b)] [] (i64 (zkf a.v b.v)) []:=by
 have h1:=zO a;have h2:=zO b;have h3:=zbg a.v;have h4:=zbg b.v;have n1:=qt a.v;have n2:=qt b.v;have d1:=qM a.v;have d2:=qM b.v;have m1:=k7 a.v.num b.v.den;have m2:=k7 b.v.num a.v.den;refine zc Tryz.func198 ?_;refine Dr.k<|zb.t (kG a oM)<|zb.t (kG b oM)<|Dr.k<|zb.t (zcI (ofQ a.v).num (ofQ b.v).den oM oM)<|zb.t (zcI (ofQ b.v).num (ofQ a.v).den oM oM) ?_;rw[yA,yA,jS,jS];refine zb.t (zxD (ofZ (a.v.num*b.v.den)) (ofZ (b.v.num*a.v.den)) (by rw[zR];omega) (by rw[zR];omega)) ?_;rw[zY,zY];exact .refl
def zAC(x:Rat):ofQ (-x)=⟨ofZ (-x.num),ofZ x.den⟩:=by unfold ofQ;rw[Rat.neg_num,Rat.neg_den]
def zDv(a:BR)(ha:a.len<=100000000):CG0 349 [.agg (brE a)] [] (.agg (brE (ofQ (-a.v)))) []:=by
 have h1:=zO a;have h3:=zbg a.v;refine zc Tryz.func349 ?_;refine zb.t (kG a oM)<|Dr.k<|zb.t (zn4 (ofQ a.v).num oM) ?_;rw[yA,zAC];exact .refl
def zDw(a b:BR)(ha:a.len<=40000000)(hb:b.len<=40000000):CG0 278 [.agg (brE a),.agg (brE b)] [] (.agg (brE (ofQ (a.v-b.v)))) []:=by
 have h2:=zO b;refine zc Tryz.func278 ?_;refine Dr.k<|zb.t (zDv b oM)<|zb.t (zdH a (ofQ (-b.v)) oM (by rw[zF,zpY];omega)) ?_;rw[kv,←JP];exact .refl
def bi_eq{a b:BI}{i:Nat}(h1:a.neg=true↔b.neg=true)(hl:a.mag.length=b.mag.length)(hi:¬i<a.mag.length)(h:∀j,j<i->a.mag[j]?=b.mag[j]?):a=b:=by
 obtain⟨n,m⟩:=a;obtain⟨n',m'⟩:=b;have e1:n=n':=Qw.2 h1
 have e2:m=m':=Kq λj=>by
  by_cases hj:j<i
  ·exact h j hj
  dsimp only at hl hi;rw[XG oM,XG oM]
 subst e1 e2;rfl
def zkh(a b:BI)(ha:a.mag.length<=100000000):CG0 483 [.agg (biE a),.agg (biE b)] [] (pr (a=b)) []:=by
 refine zc Tryz.func483 ?_;refine⟨λh1=>zd λe=>h1 (by rw[e]),λh1=>?_⟩;have h1:=Xa.1 h1;intro hl1 hl2;refine⟨λh2=>zd λe=>h2 (by rw[e]),λh2=>?_⟩;have h2:=Xa.1 h2;refine⟨Nat,λi=>⟨[(5,i64 i),(3,.loc 1 0),(2,.loc 0 0)],[(1,.box 34 (biE b)),(0,.box 34 (biE a))],2,38,0⟩,λi=>i<=a.mag.length/\∀j,j<i->a.mag[j]?=b.mag[j]?,λi=>a.mag.length-i,0,⟨Xh _,λj h=>by omega⟩,?_,?_⟩
 ·exact zf [0,1]
 rintro i ⟨hi,hs⟩
 intro hl3;refine⟨λh3=>?_,λh3=>zI (bi_eq h1 oM oM hs)⟩;refine Dr.k<|Ob.o ?_;intro x hx;have hx:a.mag[i]?=some x:=hx;refine Ob.o ?_;intro y hy;have hy:b.mag[i]?=some y:=hy;refine⟨λh4=>zd λe=>?_,λh4=>?_⟩
 ·subst e;rw[hx]at hy;cases hy;exact h4 rfl
 have h4:=Xa.1 h4;have exy:x=y:=Fin.ext oM;refine Ar.o<|⟨i+1,⟨oM,λj hj=>?_⟩,zf [0,1],by dsimp only;omega⟩
 by_cases e:j=i
 ·subst e;rw[hx,hy,exy]
 exact hs j oM
def zAD(a b:BR)(ha:a.len<=100000000):CG0 482 [.agg (brE a),.agg (brE b)] [] (pr (a=b)) []:=by
 have h1:a.num.mag.length<=a.len:=Q8 _ _;have h2:a.den.mag.length<=a.len:=QW _ _;refine zc Tryz.func482 ?_;refine zb.t (zkh a.num b.num oM)<|⟨λe1=>?_,λe1=>zd λe=>e1 (by rw[e])⟩;refine zb.t (zkh a.den b.den oM)<|zE ⟨λe2=>?_,λe=>by rw[e]⟩
 cases a;cases b;simp_all
def zsc(xs ys:List BR)(hx:∀x∈xs,x.len<=100000000):CG0 481 [.sl brE xs,.sl brE ys] [] (pr (xs=ys)) []:=by
 refine zc Tryz.func481 ?_;intro hl1 hl2;refine⟨λh1=>zd λe=>h1 (by rw[e]),λh1=>?_⟩;have h1:=Xa.1 h1;refine⟨Nat,λi=>⟨[(5,i64 i),(0,.sl brE xs),(1,.sl brE ys)],[],0,27,0⟩,λi=>i<=xs.length/\∀j,j<i->xs[j]?=ys[j]?,λi=>xs.length-i,0,⟨Xh _,λj h=>by omega⟩,?_,?_⟩
 ·exact zC []
 rintro i ⟨hi,hs⟩
 intro hl3;refine⟨λh3=>?_,λh3=>?_⟩
 ·refine Dr.k<|Ob.o ?_;intro x hx1;have hx1:xs[i]?=some x:=hx1;refine Ob.o ?_;intro y hy;have hy:ys[i]?=some y:=hy;refine zb.t (zAD x y (hx x (Xf hx1)))<|⟨λh4=>zd λe=>?_,λh4=>?_⟩
  ·subst e;rw[hx1]at hy;cases hy;exact h4 rfl
  have exy:=Xa.1 h4;refine Ar.o<|⟨i+1,⟨oM,λj hj=>?_⟩,zC [],by dsimp only;omega⟩
  by_cases e:j=i
  ·subst e;rw[hx1,hy,exy]
  exact hs j oM
 refine zI (Kq λj=>?_)
 by_cases hj:j<i
 ·exact hs j hj
 rw[XG oM,XG oM]
def zev{x y:Rat}(h:ofQ x=ofQ y):x=y:=by rw[←kv x,←kv y,h]
def zu8{t:AF}{n:Nat}(h:t.le n):∀x∈zaE t,x.len<=n:=λx hx=>by
 obtain⟨h1,h2,h3,h4,h5,h6⟩:=h;simp only[zaE,XZ,XW,or_false]at hx
 rcases hx with rfl|rfl|rfl|rfl|rfl|rfl <;> assumption
def zsd(t u:AF)(ht:t.le 100000000):CG0 478 [.agg (afE t),.agg (afE u)] [] (pr (zaE t=zaE u)) []:=by
 refine zc Tryz.func478 ?_;exact Dr.k<|zb.t (zhy t)<|zb.t (zhy u)<|zb.t (zsc (zaE t) (zaE u) (zu8 ht))<|zE K7
def ze7(t:AF)(ht:t.le 100000000):CG0 479 [.agg (afE t)] [] (.agg (afE t.nrm)) []:=by
 obtain⟨ha,hb,hc,hd,he,hf⟩:=ht;refine zc Tryz.func479 ?_;refine Dr.k<|zb.t (kG t.a oM)<|zb.t (kG t.b oM)<|zb.t (kG t.c oM)<|zb.t (kG t.d oM)<|zb.t (kG t.e oM) ?_;exact zb.t (kG t.f oM)<|.refl
def zxF{t u:AF}:zaE t.nrm=zaE u.nrm↔t.same u:=by
 constructor
 ·intro h;simp only[zaE,AF.nrm,List.cons.injEq,and_true]at h;exact⟨zev h.1,zev h.2.1,zev h.2.2.1,zev h.2.2.2.1,zev h.2.2.2.2.1,zev h.2.2.2.2.2⟩
 rintro⟨h1,h2,h3,h4,h5,h6⟩
 simp only[zaE,AF.nrm,h1,h2,h3,h4,h5,h6]
def zu9(t u:AF)(ht:t.le 10000000)(hu:u.le 10000000):CG0 475 [.agg (afE t),.agg (afE u)] [] (pr (t.same u)) []:=by
 have hn:=AF.le_len ht;obtain⟨ha,hb,hc,hd,he,hf⟩:=ht;obtain⟨ka,kb,kc,kd,ke,kf⟩:=hu;obtain⟨na,nb,nc,nd,ne,nf⟩:=hn;refine zc Tryz.func475 ?_;exact Dr.k<|zb.t (ze7 t ⟨oM,oM,oM,oM,oM,oM⟩)<|zb.t (ze7 u ⟨oM,oM,oM,oM,oM,oM⟩)<|zb.t (zsd t.nrm u.nrm ⟨oM,oM,oM,oM,oM,oM⟩)<|zE zxF
def ztE(t:AF)(ht:t.le 10000000):CG0 199 [.agg (afE t)] [] (.agg (brE (ofQ (zbr t)))) []:=by
 obtain⟨ha,hb,hc,hd,he,hf⟩:=ht;have l1:=zO t.a;have l2:=zO t.b;have l3:=zO t.c;have l4:=zO t.d;have m1:=yH t.a.v t.d.v;have m2:=yH t.b.v t.c.v;refine zc Tryz.func199 ?_;refine Dr.k<|zb.t (zn5 t.a t.d oM oM)<|zb.t (zn5 t.b t.c oM oM)<|zb.t (zDw (ofQ (t.a.v*t.d.v)) (ofQ (t.b.v*t.c.v)) (by rw[zF];omega) (by rw[zF];omega)) ?_;rw[kv,kv];exact .refl
def zp2(t u:AF)(ht:t.le 1000000)(hu:u.le 1000000):CG0 138 [.agg (afE t),.agg (afE u)] [] (.agg (afE (beh t u))) []:=by
 obtain⟨ha,hb,hc,hd,he,hf⟩:=ht;obtain⟨ka,kb,kc,kd,ke,kf⟩:=hu;have m5:=qQ u.a t.e u.c t.f u.e ka he kc hf ke;have m6:=qQ u.b t.e u.d t.f u.f kb he kd hf kf;refine zc Tryz.func138 ?_;refine Dr.k<|zb.t (zbA u.a t.a u.c t.b oM oM oM oM)<|zb.t (zbA u.b t.a u.d t.b oM oM oM oM)<|zb.t (zbA u.a t.c u.c t.d oM oM oM oM)<|zb.t (zbA u.b t.c u.d t.d oM oM oM oM)<|zb.t (zbA u.a t.e u.c t.f oM oM oM oM) ?_;refine zb.t (zdH (ofQ (u.a.v*t.e.v+u.c.v*t.f.v)) u.e (by rw[zF];omega) oM) ?_
 refine zb.t (zbA u.b t.e u.d t.f oM oM oM oM)<|zb.t (zdH (ofQ (u.b.v*t.e.v+u.d.v*t.f.v)) u.f (by rw[zF];omega) oM) ?_;rw[kv,kv];exact .refl
def zBR:BR:=⟨⟨false,[]⟩,⟨false,[]⟩⟩
def qA:AF:=⟨zBR,zBR,zBR,zBR,zBR,zBR⟩
def zBR_v:zBR.v=0:=by decide +kernel
def yT:LEs [bl false,.val (.slice none 0 0),bl false,.val (.slice none 0 0)] (brE zBR):=
 .cons (zd dC) (.cons zD (.cons (zd dC) (.cons zD .nil)))
def LEs.append:∀{xs bs cs ds:List SV},LEs xs bs->LEs cs ds->LEs (xs++cs) (bs++ds)
 |[],[],_,_,_,h=>h
 |_::_,_::_,_,_,.cons h hs,k=>.cons h (LEs.append hs k)
def z4:List SV:=[bl false,.val (.slice none 0 0),bl false,.val (.slice none 0 0)]
def zb9:LE (.agg ud) (.agg (afE qA)):=by
 have yT:LEs z4 (brE zBR):=yT;have h:LE (.agg (z4++(z4++(z4++(z4++(z4++z4)))))) (.agg (afE qA)):=ji (LEs.append yT (LEs.append yT (LEs.append yT (LEs.append yT (LEs.append yT yT)))));exact h
def idA:AF:=afQ ((1:Int):Rat) ((0:Int):Rat) ((0:Int):Rat) ((1:Int):Rat) ((0:Int):Rat) ((0:Int):Rat)
def zxG:idA.le 2:=⟨by decide +kernel,by decide +kernel,by decide +kernel,by decide +kernel,by decide +kernel,by decide +kernel⟩
def zn6(t u:AF):(beh t u).nrm=beh t u:=by
 unfold beh AF.nrm afQ;simp only[kv]
def zva{t u:AF}(h:(beh t u).ok):(beh t u).le 8:=by
 have:=ok_le (t:=beh t u) (by rw[zn6];exact h)
 rwa [zn6]at this
def AF.le.up{t:AF}{n m:Nat}(h:t.le n)(k:n<=m):t.le m:=by
 obtain⟨h1,h2,h3,h4,h5,h6⟩:=h;exact⟨oM,oM,oM,oM,oM,oM⟩
def zn7(a b c d:Int)(e f:BR)(ha:R64 a)(hb:R64 b)(hc:R64 c)(hd:R64 d)(he:e.len<=100000000)(hf:f.len<=100000000):
  CG0 65 [i64 a,i64 b,i64 c,i64 d,.agg (brE e),.agg (brE f)] [] (.agg (afE (afQ a b c d e.v f.v))) []:=by
 refine zc Tryz.func65 ?_;refine Dr.k<|zb.t (yB a ha)<|zb.t (yB b hb)<|zb.t (yB c hc)<|zb.t (yB d hd)<|zb.t (kG e oM) ?_;exact zb.t (kG f oM)<|.refl
def zDx:zBR.v=((0:Int):Rat):=by decide +kernel
def zaN:CG0 32 [] [] (.agg (afE idA)) []:=by
 refine zc Tryz.func32 ?_
 refine zb.to _ ((zn7 1 0 0 1 zBR zBR dC dC dC dC dC dC).args
  (.C (.C (.C (.C (.cons (ji yT) (.cons (ji yT) .nil))))))) rfl ?_
 rw[zDx];exact .refl
def kV(n lo hi:Int):Int:=if n<lo then lo else if hi<n then hi else n
def zn8(n lo hi:Int):CG0 120 [i64 n,i64 lo,i64 hi] [] (i64 (kV n lo hi)) []:=by
 refine zc Tryz.func120 ?_;refine⟨λh=>?_,λh=>?_⟩
 ·exact ze (by simp[kV,h])
 refine⟨λh2=>?_,λh2=>?_⟩
 ·exact ze (by simp[kV,h,h2])
 exact ze (by simp[kV,h,h2])
def zdI{n lo hi:Int}(_:lo<=hi):kV n lo hi=n↔lo<=n/\n<=hi:=by
 unfold kV;split <;> (try split) <;> omega
structure Pt where
 x:Int
 y:Int
 deriving DecidableEq
def ptE(p:Pt):List SV:=[i64 p.x,i64 p.y]
def zp:Pt:=⟨0,0⟩
def zr(p:Pt):Prop:=(-1048576<=p.x/\p.x<=1048576)/\(-1048576<=p.y/\p.y<=1048576)
instance (p:Pt):Decidable (zr p):=inferInstanceAs (Decidable (_/\_))
def qi{p q:Pt}:(p.x=q.x/\p.y=q.y/\True)↔p=q:=by
 cases p;cases q;simp
def zxH(n:Int):CG0 117 [i64 n] [] (i64 (kV n (-1048576) 1048576)) []:=by
 refine zc Tryz.func117 ?_;exact zb.t (zn8 n _ _)<|.refl
def zxI(p:Pt):CG0 81 [.agg (ptE p)] [] (.agg [i64 (kV p.x (-1048576) 1048576),i64 (kV p.y (-1048576) 1048576)]) []:=by
 refine zc Tryz.func81 ?_;exact Dr.k<|zb.t (zxH p.x)<|zb.t (zxH p.y)<|.refl
def k8(p:Pt):CG0 43 [.agg (ptE p)] [] (pr (zr p)) []:=by
 refine zc Tryz.func43 ?_;refine Dr.k<|zb.t (zxI p)<|zE (p:=kV p.x (-1048576) 1048576=p.x/\kV p.y (-1048576) 1048576=p.y/\True) ?_;rw[zdI dC,zdI dC];exact⟨λh=>⟨h.1,h.2.1⟩,λh=>⟨h.1,h.2,trivial⟩⟩
def z9(p:Pt):CG0 24 [.agg (ptE p)] [] (pr (zr p)) []:=by
 refine zc Tryz.func24 ?_;refine⟨λh1=>?_,λh1=>zd (λh=>h1 h.1.1)⟩;refine⟨λh2=>?_,λh2=>zd (λh=>h2 h.1.2)⟩;refine⟨λh3=>?_,λh3=>zd (λh=>h3 h.2.1)⟩;exact zE ⟨λh4=>⟨⟨h1,h2⟩,⟨h3,h4⟩⟩,λh=>h.2.2⟩
def hI(n:Int):Int:=kV n (-1048576) 1048576
def js(p:Pt):Pt:=⟨hI p.x,hI p.y⟩
def qj(n:Int): -1048576<=hI n/\hI n<=1048576:=by unfold hI kV;split <;> (try split) <;> omega
def zbB{n:Int}(h: -1048576<=n/\n<=1048576):hI n=n:=(zdI dC).2 h
def jn(p:Pt):zr (js p):=⟨qj _,qj _⟩
def zew{p:Pt}(h:zr p):js p=p:=by
 cases p;unfold js;rw[zbB h.1,zbB h.2]
def zA(p q:Pt):Pt:=⟨p.x+q.x,p.y+q.y⟩
def zn(p q:Pt):Pt:=⟨p.x-q.x,p.y-q.y⟩
def addP(p q:Pt):Pt:=zA (js p) (js q)
def zae(p q:Pt):Pt:=zn (js p) (js q)
def perpP(p:Pt):Pt:=⟨-hI p.y,hI p.x⟩
def wdg(p q:Pt):Int:=p.x*q.y-p.y*q.x
def dtp(p q:Pt):Int:=p.x*q.x+p.y*q.y
def zaw(p q:Pt):Int:=wdg (js p) (js q)
def ziI(p q:Pt):Int:=dtp (js p) (js q)
def sgn(n:Int):Int:=if n<0 then-1 else if 0<n then 1 else 0
def zvb(n:Int):kV n (-1) 1=sgn n:=by unfold kV sgn;split <;> (try split) <;> (try split) <;> omega
def ju{a b A B:Int}(ha: -A<=a/\a<=A)(hb: -B<=b/\b<=B): -(A*B)<=a*b/\a*b<=A*B:=by
 have h1:=XJ (show 0<=A-a by omega) (show 0<=B-b by omega);have h2:=XJ (show 0<=A-a by omega) (show 0<=B+b by omega);have h3:=XJ (show 0<=A+a by omega) (show 0<=B-b by omega);have h4:=XJ (show 0<=A+a by omega) (show 0<=B+b by omega);have e1:(A-a)*(B-b)=A*B-A*b-a*B+a*b:=by grind
 have e2:(A-a)*(B+b)=A*B+A*b-a*B-a*b:=by grind
 have e3:(A+a)*(B-b)=A*B-A*b+a*B-a*b:=by grind
 have e4:(A+a)*(B+b)=A*B+A*b+a*B+a*b:=by grind
 omega
def zex{p q:Pt}(hp:zr p)(hq:zr q): -2199023255552<=dtp p q/\dtp p q<=2199023255552/\(-1099511627776<=p.x*q.x/\p.x*q.x<=1099511627776)/\(-1099511627776<=p.y*q.y/\p.y*q.y<=1099511627776):=by
 have h1:=ju hp.1 hq.1;have h2:=ju hp.2 hq.2;unfold dtp;omega
def zca{p q:Pt}(hp:zr p)(hq:zr q): -2199023255552<=wdg p q/\wdg p q<=2199023255552/\(-1099511627776<=p.x*q.y/\p.x*q.y<=1099511627776)/\(-1099511627776<=p.y*q.x/\p.y*q.x<=1099511627776):=by
 have h1:=ju hp.1 hq.2;have h2:=ju hp.2 hq.1;unfold wdg;omega
def ja(x:Int):0<=x*x:=by
 rcases Int.le_total 0 x with h|h
 ·exact XJ h h
 have:=XJ (show 0<= -x by omega) (show 0<= -x by omega)
 rwa [Int.neg_mul_neg]at this
def sqL(n:Int):Nat->Int->Int
 |0,s=>s
 |k+1,s=>sqL n k (if (s+2^k)*(s+2^k)<=n then s+2^k else s)
def isq(n:Int):Int:=sqL n 32 0
def zki(n:Int):∀(k:Nat) (s:Int),0<=s->s*s<=n->n<(s+2^k)*(s+2^k)->0<=sqL n k s/\sqL n k s*sqL n k s<=n/\n<(sqL n k s+1)*(sqL n k s+1)
 |0,s,h0,h1,h2=>by simp only[sqL];exact⟨h0,h1,by simpa using h2⟩
 |k+1,s,h0,h1,h2=>by
  have hp:(0:Int)<2^k:=Int.pow_pos dC;have e:(2:Int)^(k+1)=2^k+2^k:=by rw[Int.pow_succ];omega
  simp only[sqL]
  split
  ·rename_i h;refine zki n k _ oM h ?_;rw[e]at h2
   rwa [Yw]
  rename_i h;exact zki n k _ h0 h1 oM
def zgr{n:Int}(h0:0<=n)(h:n<18446744073709551616):0<=isq n/\isq n*isq n<=n/\n<(isq n+1)*(isq n+1):=
 zki n 32 0 dC (by simpa using h0) (by simpa using h)
def zxJ{n:Int}(h0:0<=n)(h:n<18446744073709551616):isq n<4294967296:=by
 have hs:=zgr h0 h;refine Int.not_le.1 λhk=>?_
 have:=JK hk hk dC hs.1;omega
def sq_le{a b:Int}(ha:0<=b)(h:a*a<=b*b):a<=b:=by
 refine Jr.1 λhk=>?_
 have h1:=JK (show b+1<=a by omega) (show b+1<=a by omega) oM oM;have e:(b+1)*(b+1)=b*b+2*b+1:=by grind
 omega
def zse{n a:Int}(h0:0<=n)(h:n<18446744073709551616)(h1:a*a<=n):a<=isq n:=by
 have hs:=zgr h0 h;have:a<=isq n+1:=sq_le oM oM
 by_cases e:a=isq n+1
 ·subst e;omega
 omega
def zp3(p:Pt):Int:=isq (65536*ziI p p)
def zdJ(a b:Int):Int:=(2*a+b)/(2*b)
def uJ(a b:Pt)(n d:Int):Pt:=
 if d<1∨1099511627776<d then js a
 else⟨hI a.x+z6 (kV n 0 d*(hI b.x-hI a.x)) d,hI a.y+z6 (kV n 0 d*(hI b.y-hI a.y)) d⟩
def zn9(r:List Pt):Prop:=(r.length:Int)<=4096/\∀p∈r,zr p
instance (r:List Pt):Decidable (zn9 r):=inferInstanceAs (Decidable (_/\_))
def u9(r:List Pt)(n:Nat):Int:=((List.range n).map λi=>zaw (r.getD i zp) (r.getD ((i+1)%r.length) zp)).sum
def zcb(r:List Pt):Int:=if zn9 r then u9 r r.length else 0
def ztF(r:List Pt):List Pt:=match r with
 |[]=>[]
 |p::q=>p::q.reverse
def kE(r:List Pt):List Pt:=if zcb r=0 then[] else if zcb r<0 then ztF r else r
def zfv(r:List Pt)(n:Nat):u9 r (n+1)=u9 r n+zaw (r.getD n zp) (r.getD ((n+1)%r.length) zp):=by
 unfold u9;rw[Kx,XB,QM];simp
def zim(r:List Pt)(n:Nat): -(2199023255552*(n:Int))<=u9 r n/\u9 r n<=2199023255552*(n:Int):=by
 induction n with
 |zero=>exact⟨by show _<=(0:Int);decide,by show(0:Int)<=_;decide⟩
 |succ n ih=>
  rw[zfv];have:=zca (jn (r.getD n zp)) (jn (r.getD ((n+1)%r.length) zp));unfold zaw;omega
def zsf(r:List Pt):(kE r).length=0∨(kE r).length=r.length:=by
 unfold kE
 split
 ·exact .inl rfl
 split
 ·right;unfold ztF;split <;> simp
 exact .inr rfl
def ki(w:Int):Prop:=1<=w/\w<=16384
instance (w:Int):Decidable (ki w):=inferInstanceAs (Decidable (_/\_))
def zbs(n:Int):Prop:=n < -2097152∨2097152<n
instance (n:Int):Decidable (zbs n):=inferInstanceAs (Decidable (_∨_))
def z5(v:Pt)(w:Int):Pt:=
 if¬ki w∨zbs v.x∨zbs v.y∨v=zp then zp
 else⟨z6 (-v.y*w*128) (isq (65536*(v.x*v.x+v.y*v.y))),z6 (v.x*w*128) (isq (65536*(v.x*v.x+v.y*v.y)))⟩
def jT(a b:Pt)(w:Int):List Pt:=
 if¬(ki w/\zr a/\zr b) then[]
 else kE [zn a (z5 (zn b a) w),zn b (z5 (zn b a) w),zA b (z5 (zn b a) w),zA a (z5 (zn b a) w)]
def yc:List Pt:=[⟨16384,0⟩,⟨15137,6270⟩,⟨11585,11585⟩,⟨6270,15137⟩,⟨0,16384⟩,⟨-6270,15137⟩,⟨-11585,11585⟩,⟨-15137,6270⟩,
 ⟨-16384,0⟩,⟨-15137,-6270⟩,⟨-11585,-11585⟩,⟨-6270,-15137⟩,⟨0,-16384⟩,⟨6270,-15137⟩,⟨11585,-11585⟩,⟨15137,-6270⟩]
def vF(p:Pt)(w:Int):List Pt:=
 if¬(ki w/\zr p) then[] else kE (yc.map λq=>zA p ⟨z6 (q.x*w) 32768,z6 (q.y*w) 32768⟩)
def zkj(a b:Pt)(w:Int):List Pt:=
 if¬(ki w/\zr a/\zr b) then[]
 else
  let n:=z5 (zn b a) w
  let e:Pt:=⟨n.y,-n.x⟩
  kE [zn b n,zA (zn b n) e,zA (zA b n) e,zA b n]
def zdK(p:Pt)(w:Int):List Pt:=
 if¬(ki w/\zr p) then[]
 else kE [⟨p.x-z6 w 2,p.y-z6 w 2⟩,⟨p.x+z6 w 2,p.y-z6 w 2⟩,⟨p.x+z6 w 2,p.y+z6 w 2⟩,⟨p.x-z6 w 2,p.y+z6 w 2⟩]
structure Pen where
 w:Int
 j:Int
 c:Int
 m:Int
 d:List Int
 ph:Int
def uz(l:List Int):Prop:=(∀n∈l,0<=n/\n<=1048576)/\(l=[]∨∃n∈l,0<n)/\l.length%2=0/\(l.length:Int)<=16
instance (l:List Int):Decidable (uz l):=inferInstanceAs (Decidable (_/\_))
def kC(p:Pen):Prop:=ki p.w/\(p.j=1∨p.j=2∨p.j=3)/\(p.c=3∨p.c=4∨p.c=5)/\(256<=p.m/\p.m<=65536)/\uz p.d/\(0<=p.ph/\p.ph<=1048576)
instance (p:Pen):Decidable (kC p):=inferInstanceAs (Decidable (_/\_))
def uX(n m:Pt)(w lim:Int):Pt×Bool:=
 if¬(zr n/\zr m/\ki w/\256<=lim/\lim<=65536) then(zp,false)
 else
  let s:=zA n m
  let q:=s.x*s.x+s.y*s.y
  if q=0∨lim*lim*q<256*w*(256*w) then(zp,false) else(⟨z6 (s.x*w*w) (2*q),z6 (s.y*w*w) (2*q)⟩,true)
def zhz(p:Pt):Pt:=⟨-p.x,-p.y⟩
def qp(a v b:Pt)(w:Int):Pt×Pt×Bool:=
 if¬(zr a/\zr v/\zr b/\ki w) then(zp,zp,false)
 else
  let x:=zn v a
  let y:=zn b v
  if wdg x y=0 then(zp,zp,false) else if 0<wdg x y then(zhz (z5 x w),zhz (z5 y w),true) else(z5 x w,z5 y w,true)
def kN(r:List Pt):List (List Pt):=if r=[] then[] else[r]
def qY(a v b:Pt)(p:Pen):List (List Pt):=
 if¬(kC p/\zr a/\zr v/\zr b/\¬v=a/\¬v=b) then[]
 else if p.j=3 then kN (vF v p.w)
 else if (qp a v b p.w).2.2=false then[]
 else
  let n:=(qp a v b p.w).1
  let m:=(qp a v b p.w).2.1
  kN (kE (if p.j=1/\(uX n m p.w p.m).2=true then[v,zA v n,zA v (uX n m p.w p.m).1,zA v m] else[v,zA v n,zA v m]))
end Go.Gs
