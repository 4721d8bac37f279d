/- Rationals, the program's: arithmetic. -/
import Derived.Test.YtakicgnbhdpknaaGreatDoorNAU
set_option maxRecDepth 100000
set_option maxHeartbeats 8000000
set_option linter.all false
namespace Go.Gs
open Proofs.Tryz
open Go.Proofs
section
def zCw(n d:BI)(hn:n.mag.length<=400000000)(hd:d.mag.length<=400000000)(h0:d.v≠0):
  CX 359 [wl n,wl d] (.tup [wm (ofQ (Rat.divInt n.v d.v)),i64 0]):=by
 refine zc func359<|wg (zkn d oM)<|⟨λh=>absurd (KR.1 h) h0,λ_=>?_⟩;exact wg (zgB n d hn hd h0)<|zM .refl .refl
def zDF(n d:BI)(hd:d.mag.length<=400000000)(h0:d.v=0):
  CX 359 [wl n,wl d] (.tup [.agg [bl false,.sl dgE [],bl false,.sl dgE []],i64 9]):=by
 refine zc func359<|wg (zkn d oM) ?_;rw[h0];refine⟨λ_=>?_,λh=>absurd rfl h⟩;exact zM (jj (.C (.cons zC (.C (.cons zC .nil))))) .refl
def yO(n:Int)(hn:R64 n):CX 262 [i64 n] (wm (ofQ (n:Rat))):=by
 refine zc func262<|wg (zew n hn)<|wg (zew 1 dC) ?_;have e:ofQ (n:Rat)=⟨ofZ n,ofZ 1⟩:=by unfold ofQ;rw[Yf,Yd];rfl
 rw[e];exact .refl
def zse(n d:Int)(hn:R64 n)(hd:R64 d)(h0:d≠0):CX 305 [i64 n,i64 d] (.tup [wm (ofQ (Rat.divInt n d)),i64 0]):=by
 refine zc func305 ?_;have l1:=jk hn;have l2:=jk hd;refine wg (zew n hn)<|wg (zew d hd)<|wg (zCw (ofZ n) (ofZ d) (by rw[zT];omega) (by rw[zT];omega) (by rw[zY];exact h0)) ?_;rw[zY,zY];exact zM .refl .refl
def qS(a:BR)(ha:a.len<=400000000):CX 325 [wm a] (wm (ofQ a.v)):=by
 have h1:a.num.mag.length<=a.len:=Q6 _ _;have h2:a.den.mag.length<=a.len:=QX _ _;refine zc func325 ?_
 by_cases h:a.den.v=0
 ·refine wg (zDF a.num a.den oM h)<|we<|wg (yO 0 dC) ?_;have e:a.v=((0:Int):Rat):=by unfold BR.v;rw[h,Ye];rfl
  rw[e];exact .refl
 refine wg (zCw a.num a.den oM oM h)<|⟨λh=>absurd rfl h,λ_=>?_⟩;exact .refl
def zbh(q:Rat):(ofQ q).num.mag.length<=yV q/\(ofQ q).den.mag.length<=yV q:=⟨qu q,qN q⟩
def yz(q:Rat):(ofQ q).num.v=q.num:=zY _
def jT(q:Rat):(ofQ q).den.v=q.den:=zY _
def zof(a b:BR)(ha:a.len<=100000000)(hb:b.len<=100000000):CG0 327 [wm a,wm b] []
  (.tup [wl (ofZ (a.v.num*b.v.den)),wl (ofZ (b.v.num*a.v.den)),wl (ofZ (a.v.den*b.v.den))]) []:=by
 have h1:=zO a;have h2:=zO b;have h3:=zbh a.v;have h4:=zbh b.v;refine zc func327<|wc<|wg (qS a oM)<|wg (qS b oM)<|wc<|wg (zit (ofQ a.v).num (ofQ b.v).den oM oM) ?_;refine wg (zit (ofQ b.v).num (ofQ a.v).den oM oM)<|wg (zit (ofQ a.v).den (ofQ b.v).den oM oM) ?_;rw[yz,yz,jT,jT];exact .refl
def zp4(a b:BR)(ha:a.len<=50000000)(hb:b.len<=50000000):CX 308 [wm a,wm b] (wm (ofQ (a.v+b.v))):=by
 have h1:=zO a;have h2:=zO b;have n1:=qu a.v;have n2:=qu b.v;have d1:=qN a.v;have d2:=qN b.v;have m1:=kZ a.v.num b.v.den;have m2:=kZ b.v.num a.v.den;have m3:=kZ a.v.den b.v.den;have m4:=zgn (a.v.num*b.v.den) (b.v.num*a.v.den);refine zc func308<|wg (zof a b oM oM)<|wc<|wg (zCv (ofZ (a.v.num*b.v.den)) (ofZ (b.v.num*a.v.den)) (by rw[zT];omega) (by rw[zT];omega)) ?_;rw[zY,zY]
 refine wg (zgB (ofZ (a.v.num*b.v.den+b.v.num*a.v.den)) (ofZ (a.v.den*b.v.den)) (by rw[zT];omega) (by rw[zT];omega) (by rw[zY];exact uX _ _)) ?_;rw[zY,zY,zkr];exact .refl
def ztR(a b:BR)(ha:a.len<=50000000)(hb:b.len<=50000000):CX 330 [wm a,wm b] (wm (ofQ (a.v*b.v))):=by
 have h1:=zO a;have h2:=zO b;have h3:=zbh a.v;have h4:=zbh b.v;have n1:=qu a.v;have n2:=qu b.v;have d1:=qN a.v;have d2:=qN b.v;have m1:=kZ a.v.num b.v.num;have m3:=kZ a.v.den b.v.den;refine zc func330<|wc<|wg (qS a oM)<|wg (qS b oM)<|wc<|wg (zit (ofQ a.v).num (ofQ b.v).num oM oM) ?_;refine wg (zit (ofQ a.v).den (ofQ b.v).den oM oM) ?_;rw[yz,yz,jT,jT];refine wg (zgB (ofZ (a.v.num*b.v.num)) (ofZ (a.v.den*b.v.den)) (by rw[zT];omega) (by rw[zT];omega) (by rw[zY];exact uX _ _)) ?_
 rw[zY,zY,zks];exact .refl
def ztS(a:BR)(ha:a.len<=100000000):CX 307 [wm a] (wl (ofZ a.v.floor)):=by
 have h1:=zO a;have h3:=zbh a.v;have h0:=a.v.den_nz;refine zc func307<|wg (qS a oM)<|wg (zxP (ofQ a.v).num (ofQ a.v).den oM oM (by rw[jT];omega)) ?_;rw[yz,jT,←JZ];exact .refl
def zb7(q:Rat):Nat:=max (kA q.num.natAbs) (kA q.den)
def zb8(a:BR)(ha:a.len<=100000000):CX 259 [wm a] (i64 (zb7 a.v)):=by
 have h1:=zO a;have h3:=zbh a.v;refine zc func259<|wg (qS a oM)<|wc<|wg (zp3 (ofQ a.v).num oM)<|wg (zp3 (ofQ a.v).den oM) ?_;rw[yz,jT,QH];refine ze ?_;unfold zb7;simp only[zcr];omega
def yA(n:Int)(hn:R64 n):CX 109 [i64 n] (wm (ofQ (n:Rat))):=by
 refine zc func109<|wg (jN n hn)<|wg (jN 1 dC) ?_;have e:ofQ (n:Rat)=⟨ofZ n,ofZ 1⟩:=by unfold ofQ;rw[Yf,Yd];rfl
 rw[e];exact .refl
def zex(n d:BI)(hn:n.mag.length<=200000000)(hd:d.mag.length<=200000000)(h0:d.v≠0):
  CX 162 [wl n,wl d] (wm (ofQ (Rat.divInt n.v d.v))):=by
 refine zc func162<|wg (zDD n.mag d.mag oM oM) ?_;have hdz:val d.mag≠0:=by rw[←d.v_abs];omega
 have hg0:0<Nat.gcd (val n.mag) (val d.mag):=Q5 _ oM
 have hgl:(zm (Nat.gcd (val n.mag) (val d.mag))).length<=200000000:=
  XB (qm (Nat.gcd_le_right _ oM)) (XB (zJ _) hd)
 have hnum:=Rat.num_divInt n.v d.v;have hden:=Rat.den_divInt n.v d.v
 have hg:d.v.gcd n.v=Nat.gcd (val n.mag) (val d.mag):=by
  rw[←n.v_abs,←d.v_abs];exact QW _ _
 rw[hg]at hnum hden;rw[Xc h0]at hden;have ln:=zau n;have ld:=zau d;generalize Nat.gcd (val n.mag) (val d.mag)=g at*;refine wg (zAL (zm g) oM) ?_;rw[zo];have zg:jm (g:Int)<=200000000:=hgl
 have fin:∀N D:Int,N=d.v.sign*n.v->D=(d.v.natAbs:Int)->ofQ (Rat.divInt n.v d.v)=⟨ofZ (N/(g:Int)),ofZ (D/(g:Int))⟩:=λN D hN hD=>by
  unfold ofQ;rw[hnum,hden,hN,hD];rfl
 refine wg (zcE d oM)<|⟨λh=>?_,λh=>?_⟩
 ·have hneg:d.v<0:=by
   rcases K7 d.v 0 with k|k|k
   ·exact k
   ·exact absurd k h0
   rw[Kn k]at h;omega
  refine wg (zoe n oM)<|wg (zoe d oM)<|wg (zb6 (ofZ (-n.v)) (ofZ (g:Int)) (by rw[zT,zac];omega) (by rw[zT];omega) (by rw[zY];omega))<|wg (zb6 (ofZ (-d.v)) (ofZ (g:Int)) (by rw[zT,zac];omega) (by rw[zT];omega) (by rw[zY];omega)) ?_;rw[zY,zY,zY,fin (-n.v) (-d.v) (by rw[Kg hneg];omega) oM];exact .refl
 have hpos:0<d.v:=by
  rcases K7 d.v 0 with k|k|k
  ·rw[Kg k]at h;omega
  ·exact absurd k h0
  exact k
 refine wg (zb6 n (ofZ (g:Int)) oM (by rw[zT];omega) (by rw[zY];omega))<|wg (zb6 d (ofZ (g:Int)) oM (by rw[zT];omega) (by rw[zY];omega)) ?_;rw[zY,fin n.v d.v (by rw[Kn hpos];omega) oM];exact .refl
def zDG(n d:BI)(hn:n.mag.length<=200000000)(hd:d.mag.length<=200000000)(h0:d.v≠0):
  CX 343 [wl n,wl d] (.tup [wm (ofQ (Rat.divInt n.v d.v)),i64 0]):=by
 refine zc func343<|wg (zcE d oM)<|⟨λh=>absurd (KR.1 h) h0,λ_=>?_⟩;exact wg (zex n d hn hd h0)<|zM .refl .refl
def zp5(n d:Int)(hn:R64 n)(hd:R64 d)(h0:d≠0):CX 284 [i64 n,i64 d] (.tup [wm (ofQ (Rat.divInt n d)),i64 0]):=by
 refine zc func284 ?_;have l1:=jk hn;have l2:=jk hd;refine wg (jN n hn)<|wg (jN d hd)<|wg (zDG (ofZ n) (ofZ d) (by rw[zT];omega) (by rw[zT];omega) (by rw[zY];exact h0)) ?_;rw[zY,zY];exact zM .refl .refl
def kG(a:BR)(ha:a.len<=200000000):CX 110 [wm a] (wm (ofQ a.v)):=by
 have h1:a.num.mag.length<=a.len:=Q6 _ _;have h2:a.den.mag.length<=a.len:=QX _ _;refine zc func110<|wg (zcE a.den oM)<|⟨λh=>?_,λh=>?_⟩
 ·refine wg (yA 0 dC) ?_;have e:a.v=((0:Int):Rat):=by unfold BR.v;rw[KR.1 h,Ye];rfl
  rw[e];exact .refl
 exact wg (zex a.num a.den oM oM (λk=>h (by rw[k];rfl)))<|.refl
def zdQ(a b:BR)(ha:a.len<=50000000)(hb:b.len<=50000000):CX 277 [wm a,wm b] (wm (ofQ (a.v+b.v))):=by
 have h1:=zO a;have h2:=zO b;have h3:=zbh a.v;have h4:=zbh b.v;have n1:=qu a.v;have n2:=qu b.v;have d1:=qN a.v;have d2:=qN b.v;have m1:=kZ a.v.num b.v.den;have m2:=kZ b.v.num a.v.den;have m3:=kZ a.v.den b.v.den;have m4:=zgn (a.v.num*b.v.den) (b.v.num*a.v.den);refine zc func277<|wc<|wg (kG a oM)<|wg (kG b oM)<|wc<|wg (zcF (ofQ a.v).num (ofQ b.v).den oM oM) ?_;refine wg (zcF (ofQ b.v).num (ofQ a.v).den oM oM) ?_;rw[yz,yz,jT,jT]
 refine wg (zsd (ofZ (a.v.num*b.v.den)) (ofZ (b.v.num*a.v.den)) (by rw[zT];omega) (by rw[zT];omega)) ?_;rw[zY,zY];refine wg (zcF (ofQ a.v).den (ofQ b.v).den oM oM) ?_;rw[jT,jT];refine wg (zex (ofZ (a.v.num*b.v.den+b.v.num*a.v.den)) (ofZ (a.v.den*b.v.den)) (by rw[zT];omega) (by rw[zT];omega) (by rw[zY];exact uX _ _)) ?_;rw[zY,zY,zkr];exact .refl
def zog(a b:BR)(ha:a.len<=50000000)(hb:b.len<=50000000):CX 202 [wm a,wm b] (wm (ofQ (a.v*b.v))):=by
 have h1:=zO a;have h2:=zO b;have h3:=zbh a.v;have h4:=zbh b.v;have n1:=qu a.v;have n2:=qu b.v;have d1:=qN a.v;have d2:=qN b.v;have m1:=kZ a.v.num b.v.num;have m3:=kZ a.v.den b.v.den;refine zc func202<|wc<|wg (kG a oM)<|wg (kG b oM)<|wc<|wg (zcF (ofQ a.v).num (ofQ b.v).num oM oM) ?_;refine wg (zcF (ofQ a.v).den (ofQ b.v).den oM oM) ?_;rw[yz,yz,jT,jT];refine wg (zex (ofZ (a.v.num*b.v.num)) (ofZ (a.v.den*b.v.den)) (by rw[zT];omega) (by rw[zT];omega) (by rw[zY];exact uX _ _)) ?_
 rw[zY,zY,zks];exact .refl
def zp6(a:BR)(ha:a.len<=100000000):CX 286 [wm a] (wl (ofZ a.v.floor)):=by
 have h1:=zO a;have h3:=zbh a.v;have h0:=a.v.den_nz;refine zc func286<|wg (kG a oM)<|wg (zb6 (ofQ a.v).num (ofQ a.v).den oM oM (by rw[jT];omega)) ?_;rw[yz,jT,←JZ];exact .refl
def zvh(a:BR)(ha:a.len<=100000000):CX 198 [wm a] (i64 (zb7 a.v)):=by
 have h1:=zO a;have h3:=zbh a.v;refine zc func198<|wg (kG a oM)<|wc<|wg (zmt (ofQ a.v).num oM)<|wg (zmt (ofQ a.v).den oM) ?_;rw[yz,jT,QH];refine ze ?_;unfold zb7;simp only[zcr];omega
def z_cmp(a b:BI)(ha:a.mag.length<=800000000)(hb:b.mag.length<=800000000):CX 328 [wl a,wl b] (i64 (a.v-b.v).sign):=by
 refine zc func328<|wg (zp2 a b ha hb) ?_;have h1:=zj0 a.v b.v;have h2:=zau a;have h3:=zau b;refine wg (zkn (ofZ (a.v-b.v)) (by rw[zT];omega)) ?_;rw[zY];exact .refl
def zkt(x y:Rat):Int:=(x.num*y.den-y.num*x.den).sign
def zp7{z:Int}:0<=z.sign↔0<=z:=by
 rcases K7 z 0 with h|h|h
 ·rw[Kg h];omega
 ·subst h;decide
 rw[Kn h];omega
def zoh{x y:Rat}:0<=zkt x y↔y<=x:=by
 rw[Rat.le_iff];unfold zkt;rw[zp7];omega
def zxS(x y:Rat):zkt y x= - zkt x y:=by
 unfold zkt;rw[show y.num*x.den-x.num*y.den= -(x.num*y.den-y.num*x.den) by omega,Int.sign_neg]
def ztT{x y:Rat}:zkt x y<=0↔x<=y:=by
 have:=zoh (x:=y) (y:=x);rw[zxS]at this;rw[←this];omega
def ziu(a b:BR)(ha:a.len<=100000000)(hb:b.len<=100000000):CX 260 [wm a,wm b] (i64 (zkt a.v b.v)):=by
 have h1:=zO a;have h2:=zO b;have n1:=qu a.v;have n2:=qu b.v;have d1:=qN a.v;have d2:=qN b.v;have m1:=kZ a.v.num b.v.den;have m2:=kZ b.v.num a.v.den;refine zc func260<|wg (zof a b oM oM)<|wg (z_cmp (ofZ (a.v.num*b.v.den)) (ofZ (b.v.num*a.v.den)) (by rw[zT];omega) (by rw[zT];omega)) ?_;rw[zY,zY];exact .refl
def q_sub(a b:BR)(ha:a.len<=50000000)(hb:b.len<=50000000):CX 329 [wm a,wm b] (wm (ofQ (a.v-b.v))):=by
 have h1:=zO a;have h2:=zO b;have n1:=qu a.v;have n2:=qu b.v;have d1:=qN a.v;have d2:=qN b.v;have m1:=kZ a.v.num b.v.den;have m2:=kZ b.v.num a.v.den;have m3:=kZ a.v.den b.v.den;have m4:=zj0 (a.v.num*b.v.den) (b.v.num*a.v.den);refine zc func329<|wg (zof a b oM oM)<|wc<|wg (zp2 (ofZ (a.v.num*b.v.den)) (ofZ (b.v.num*a.v.den)) (by rw[zT];omega) (by rw[zT];omega)) ?_;rw[zY,zY]
 refine wg (zgB (ofZ (a.v.num*b.v.den-b.v.num*a.v.den)) (ofZ (a.v.den*b.v.den)) (by rw[zT];omega) (by rw[zT];omega) (by rw[zY];exact uX _ _)) ?_;rw[zY,zY,zxR];exact .refl
def zp8(x:Rat):yV (-x)=yV x:=by
 unfold yV;rw[Rat.neg_num,Rat.neg_den,zac]
def zxT(x y:Rat):yV (x-y)<=yV x+yV y+1:=by
 have:=zbg x (-y);rw[zp8,←JM]at this;exact this
def zxU(a b:BI)(ha:a.mag.length<=800000000)(hb:b.mag.length<=800000000):CX 199 [wl a,wl b] (i64 (a.v-b.v).sign):=by
 refine zc func199<|wg (zxQ a b ha hb) ?_;have h1:=zj0 a.v b.v;have h2:=zau a;have h3:=zau b;refine wg (zcE (ofZ (a.v-b.v)) (by rw[zT];omega)) ?_;rw[zY];exact .refl
def zxV(a b:BR)(ha:a.len<=100000000)(hb:b.len<=100000000):CX 133 [wm a,wm b] (i64 (zkt a.v b.v)):=by
 have h1:=zO a;have h2:=zO b;have h3:=zbh a.v;have h4:=zbh b.v;have n1:=qu a.v;have n2:=qu b.v;have d1:=qN a.v;have d2:=qN b.v;have m1:=kZ a.v.num b.v.den;have m2:=kZ b.v.num a.v.den;refine zc func133<|wc<|wg (kG a oM)<|wg (kG b oM)<|wc<|wg (zcF (ofQ a.v).num (ofQ b.v).den oM oM) ?_;refine wg (zcF (ofQ b.v).num (ofQ a.v).den oM oM) ?_;rw[yz,yz,jT,jT];refine wg (zxU (ofZ (a.v.num*b.v.den)) (ofZ (b.v.num*a.v.den)) (by rw[zT];omega) (by rw[zT];omega)) ?_;rw[zY,zY];exact .refl
def zAM(x:Rat):ofQ (-x)=⟨ofZ (-x.num),ofZ x.den⟩:=by unfold ofQ;rw[Rat.neg_num,Rat.neg_den]
def zDH(a:BR)(ha:a.len<=100000000):CX 278 [wm a] (wm (ofQ (-a.v))):=by
 have h1:=zO a;have h3:=zbh a.v;refine zc func278<|wg (kG a oM)<|wc<|wg (zoe (ofQ a.v).num oM) ?_;rw[yz,zAM];exact .refl
def zDI(a b:BR)(ha:a.len<=40000000)(hb:b.len<=40000000):CX 201 [wm a,wm b] (wm (ofQ (a.v-b.v))):=by
 have h2:=zO b;refine zc func201<|wc<|wg (zDH b oM)<|wg (zdQ a (ofQ (-b.v)) oM (by rw[zF,zp8];omega)) ?_;rw[kv,←JM];exact .refl
def zxW(a b:Int)(ha:0<=a/\a<18446744073709551616)(hb:0<=b/\b<18446744073709551616):
  CX 479 [u64 a,u64 b] (.tup [u64 (a*b/18446744073709551616),u64 (a*b%18446744073709551616)]):=by
 obtain⟨x,rfl⟩:=Qh ha.1;obtain⟨y,rfl⟩:=Qh hb.1;have c:=zty x y oM oM;have e1:((x*y/18446744073709551616:Nat):Int)=(x:Int)*y/18446744073709551616:=by rw[J0,X3];rfl
 have e2:((x*y%18446744073709551616:Nat):Int)=(x:Int)*y%18446744073709551616:=by rw[QV,X3];rfl
 rw[e1,e2]at c;exact c
variable{p:Pt}{q:Pt}
def zhF(hp:zr p)(hq:zr q):ze6 (zw p q):=by
 unfold zr at hp hq;show(-2097152<=p.x+q.x/\p.x+q.x<=2097152)/\(-2097152<=p.y+q.y/\p.y+q.y<=2097152);omega
def zku(hp:zr p)(hq:zr q):addP p q=zw p q:=by
 unfold addP;rw[zen hp,zen hq]
def tipE(o:Pt×Bool):SV:=.tup [wk o.1,pr (o.2=true)]
def ud{o:Pt×Bool}{n:Pt}{b:Bool}(h:o=(n,b)):LE (.tup [wk n,bl b]) (tipE o):=by
 subst h;exact zM .refl ztr
def zb9{x w:Int}(hx: -2097152<=x/\x<=2097152)(hw:ki w):(-34359738368<=x*w/\x*w<=34359738368)/\(-562949953421312<=x*w*w/\x*w*w<=562949953421312)/\(1<=w*w/\w*w<=268435456):=by
 unfold ki at hw;have h1:=ju (A:=2097152) (B:=16384) (a:=x) (b:=w) oM oM;have h2:=ju (A:=34359738368) (B:=16384) (a:=x*w) (b:=w) oM oM;have h3:=ju (A:=16384) (B:=16384) (a:=w) (b:=w) oM oM;have h4:=Ja (show 0<w by omega) (show 0<w by omega);omega
def zoi(x w q:Int)(hx: -2097152<=x/\x<=2097152)(hw:ki w)(hq:0<=q/\q<=8796093022208):CX 480 [i64 x,.ptr [i64 w],.ptr [i64 q]] (i64 (z6 (x*w*w) (2*q))):=by
 have h:=zb9 hx hw;refine zc func480 ?_;(iterate 3 refine wa ?_);exact wg (uT (x*w*w) (2*q) ⟨oM,oM⟩ ⟨oM,oM⟩)<|ze (uH oM)
def p_tip(n m:Pt)(w lim:Int):CX 443 [wk n,wk m,i64 w,i64 lim] (tipE (uU n m w lim)):=by
 refine zc func443 ?_;have bad:¬(zr n/\zr m/\ki w/\256<=lim/\lim<=65536)->uU n m w lim=(zp,false):=λh=>by unfold uU;rw[Xe h]
 refine wg (kY n)<|⟨λa1=>ud (bad (λh=>a1 h.1)),λa1=>?_⟩;refine wg (kY m)<|⟨λa2=>ud (bad (λh=>a2 h.2.1)),λa2=>?_⟩;refine wg (ztJ w)<|⟨λa3=>ud (bad (λh=>a3 h.2.2.1)),λa3=>?_⟩;refine⟨λa4=>ud (bad (λh=>by have a4:lim<256:=a4;omega)),λa4=>?_⟩;refine⟨λa5=>ud (bad (λh=>by have a5:65536<lim:=a5;omega)),λa5=>?_⟩;have hn:=Xa.1 a1;have hm:=Xa.1 a2;have hw:=Xa.1 a3
 have hl:256<=lim/\lim<=65536:=⟨by have a4:¬lim<256:=a4;omega,by have a5:¬65536<lim:=a5;omega⟩;have hs:=zhF hn hm
 have e:uU n m w lim=if (zw n m).x*(zw n m).x+(zw n m).y*(zw n m).y=0∨lim*lim*((zw n m).x*(zw n m).x+(zw n m).y*(zw n m).y)<256*w*(256*w) then(zp,false)
   else(⟨z6 ((zw n m).x*w*w) (2*((zw n m).x*(zw n m).x+(zw n m).y*(zw n m).y)),z6 ((zw n m).y*w*w) (2*((zw n m).x*(zw n m).x+(zw n m).y*(zw n m).y))⟩,true):=by
  unfold uU;rw[Xc (λk=>k ⟨hn,hm,hw,hl⟩)]
 refine wg (zet n m hn.p45.s hm.p45.s) ?_;generalize zw n m=s at*;have s1:=ju (A:=2097152) (B:=2097152) (a:=s.x) (b:=s.x) hs.1 hs.1;have s2:=ju (A:=2097152) (B:=2097152) (a:=s.y) (b:=s.y) hs.2 hs.2;have p1:=ja s.x;have p2:=ja s.y;have l1:=ju (A:=65536) (B:=65536) (a:=lim) (b:=lim) oM oM;have l2:=ja lim;have t:=zb9 hs.1 hw;have w0:=hw;unfold ki at w0;(iterate 6 refine wa ?_);have hq:0<=s.x*s.x+s.y*s.y/\s.x*s.x+s.y*s.y<=8796093022208:=oM
 refine wg (zxW (lim*lim) (s.x*s.x+s.y*s.y) oM oM)<|⟨λb1=>?_,λb1=>?_⟩
 ·have b1:s.x*s.x+s.y*s.y=0:=b1;exact ud (e.trans (Xe (.inl b1)))
 have b1:¬s.x*s.x+s.y*s.y=0:=b1;have hww:256*w*256*w=256*w*(256*w):=by grind
 have hP:0<=lim*lim*(s.x*s.x+s.y*s.y):=XJ oM oM
 have go:¬lim*lim*(s.x*s.x+s.y*s.y)<256*w*(256*w)->uU n m w lim=(⟨z6 (s.x*w*w) (2*(s.x*s.x+s.y*s.y)),z6 (s.y*w*w) (2*(s.x*s.x+s.y*s.y))⟩,true):=λh=>
  e.trans (Xc (λk=>k.elim b1 h))
 have w3:256*w*256*w=65536*(w*w):=by grind
 refine⟨λb2:lim*lim*(s.x*s.x+s.y*s.y)/18446744073709551616=0=>?_,λb2:¬lim*lim*(s.x*s.x+s.y*s.y)/18446744073709551616=0=>?_⟩
 ·(iterate 4 refine wa ?_);refine⟨λb3:lim*lim*(s.x*s.x+s.y*s.y)%18446744073709551616<256*w*256*w=>?_,λb3:¬lim*lim*(s.x*s.x+s.y*s.y)%18446744073709551616<256*w*256*w=>?_⟩
  ·exact ud (e.trans (Xe (.inr (by generalize lim*lim*(s.x*s.x+s.y*s.y)=P at*;omega))))
  exact wc<|wg (zoi s.x w (s.x*s.x+s.y*s.y) hs.1 hw hq)<|wg (zoi s.y w (s.x*s.x+s.y*s.y) hs.2 hw hq)<|ud (go (by generalize lim*lim*(s.x*s.x+s.y*s.y)=P at*;omega))
 exact wc<|wg (zoi s.x w (s.x*s.x+s.y*s.y) hs.1 hw hq)<|wg (zoi s.y w (s.x*s.x+s.y*s.y) hs.2 hw hq)<|ud (go (by generalize lim*lim*(s.x*s.x+s.y*s.y)=P at*;omega))
def r_tip(n m:Pt)(w lim:Int):CX 461 [wk n,wk m,i64 w,i64 lim] (tipE (uU n m w lim)):=by
 refine zc func461 ?_;have bad:¬(zr n/\zr m/\ki w/\256<=lim/\lim<=65536)->uU n m w lim=(zp,false):=λh=>by unfold uU;rw[Xe h]
 refine wg (z9 n)<|⟨λa1=>ud (bad (λh=>a1 h.1)),λa1=>?_⟩;refine wg (z9 m)<|⟨λa2=>ud (bad (λh=>a2 h.2.1)),λa2=>?_⟩;refine wg (ztK w)<|⟨λa3=>ud (bad (λh=>a3 h.2.2.1)),λa3=>?_⟩;refine⟨λa4=>ud (bad (λh=>by have a4:lim<256:=a4;omega)),λa4=>?_⟩;refine⟨λa5=>ud (bad (λh=>by have a5:65536<lim:=a5;omega)),λa5=>?_⟩;have hn:=Xa.1 a1;have hm:=Xa.1 a2;have hw:=Xa.1 a3
 have hl:256<=lim/\lim<=65536:=⟨by have a4:¬lim<256:=a4;omega,by have a5:¬65536<lim:=a5;omega⟩;have hs:=zhF hn hm
 have e:uU n m w lim=if (zw n m).x*(zw n m).x+(zw n m).y*(zw n m).y=0∨lim*lim*((zw n m).x*(zw n m).x+(zw n m).y*(zw n m).y)<256*w*(256*w) then(zp,false)
   else(⟨z6 ((zw n m).x*w*w) (2*((zw n m).x*(zw n m).x+(zw n m).y*(zw n m).y)),z6 ((zw n m).y*w*w) (2*((zw n m).x*(zw n m).x+(zw n m).y*(zw n m).y))⟩,true):=by
  unfold uU;rw[Xc (λk=>k ⟨hn,hm,hw,hl⟩)]
 have ca:=zxp n m;rw[zku hn hm]at ca;refine wg ca ?_;generalize zw n m=s at*;have s1:=ju (A:=2097152) (B:=2097152) (a:=s.x) (b:=s.x) hs.1 hs.1;have s2:=ju (A:=2097152) (B:=2097152) (a:=s.y) (b:=s.y) hs.2 hs.2;have p1:=ja s.x;have p2:=ja s.y;have l1:=ju (A:=65536) (B:=65536) (a:=lim) (b:=lim) oM oM;have l2:=ja lim;have t:=zb9 hs.1 hw;have t':=zb9 hs.2 hw;have w0:=hw;unfold ki at w0;(iterate 3 refine wa ?_);have hq:0<=s.x*s.x+s.y*s.y/\s.x*s.x+s.y*s.y<=8796093022208:=oM;refine wa ?_
 refine⟨λb1:s.x*s.x+s.y*s.y=0=>?_,λb1:¬s.x*s.x+s.y*s.y=0=>?_⟩
 ·exact ud (e.trans (Xe (.inl b1)))
 have w3:256*w*(256*w)=65536*(w*w):=by grind
 have hs':=hs;unfold ze6 at hs';have z1:=jk (n:=256*w*(256*w)) ⟨oM,oM⟩;have z2:=jk (n:=lim*lim) ⟨oM,oM⟩;have z3:=jk (n:=s.x*s.x+s.y*s.y) ⟨oM,oM⟩;have z4:=kZ (lim*lim) (s.x*s.x+s.y*s.y);unfold jm at z1 z2 z3 z4;refine wa<|wg (jN (256*w*(256*w)) ⟨oM,oM⟩)<|wa<|wg (jN (lim*lim) ⟨oM,oM⟩)<|wg (jN (s.x*s.x+s.y*s.y) ⟨oM,oM⟩)<|wg (zcF (ofZ (lim*lim)) (ofZ (s.x*s.x+s.y*s.y)) (by rw[jS];omega) (by rw[jS];omega)) ?_;rw[zY,zY]
 refine wg (zxU (ofZ (256*w*(256*w))) (ofZ (lim*lim*(s.x*s.x+s.y*s.y))) (by rw[jS];omega) (by rw[jS];omega)) ?_;rw[zY,zY]
 have hsg:0<(256*w*(256*w)-lim*lim*(s.x*s.x+s.y*s.y)).sign↔lim*lim*(s.x*s.x+s.y*s.y)<256*w*(256*w):=by
  rw[Int.sign_pos_iff];omega
 refine⟨λb2=>?_,λb2=>?_⟩
 ·exact ud (e.trans (Xe (.inr (hsg.1 b2))))
 have go:uU n m w lim=(⟨y4 (z6 (s.x*(w*w)) (2*(s.x*s.x+s.y*s.y))),y4 (z6 (s.y*(w*w)) (2*(s.x*s.x+s.y*s.y)))⟩,true):=by
  rw[←JU,←JU,uH oM,uH oM];exact e.trans (Xc (λk=>k.elim b1 (λh=>b2 (hsg.2 h))))
 (iterate 2 refine wa ?_);refine wg (zht s.x (w*w) (2*(s.x*s.x+s.y*s.y)) ⟨oM,oM⟩ ⟨oM,oM⟩ ⟨oM,oM⟩) ?_;(iterate 2 refine wa ?_);exact wg (zht s.y (w*w) (2*(s.x*s.x+s.y*s.y)) ⟨oM,oM⟩ ⟨oM,oM⟩ ⟨oM,oM⟩)<|ud go
variable{α:Type}
def kH{p:Prop}[Decidable p](h:p){a b:α}:(if¬p then a else b)=b:=Xc (λk=>k h)
def qH{n:Int}(h:n=0){a b:α}:(if n≠0 then a else b)=b:=Xc (λk=>k h)
def yW(q:LU)(x:Pt):LU:=if q.getLast?=some x then q else q++[x]
def kw(q more:LU):LU:=more.foldl yW q
def kI(p:Pt)(s:Sg)(tol:Int):LU×Int:=if s.v=3 then zc2 p s.a s.b tol else if s.v=4 then zc3 p s.a s.b s.c tol else([s.a],0)
def qO(l:LU):Pt:=l.getLastD zp
def zbi(p:Pl)(s:Sg)(tol:Int):Pl×Int:=
 if s.v=5 then(⟨qf p.pts,true⟩,0)
 else if (kI (qO p.pts) s tol).2≠0 then(p,(kI (qO p.pts) s tol).2)
 else(⟨kw p.pts (kI (qO p.pts) s tol).1,p.cl⟩,0)
def ue(tol:Int)(st:LZ×Int)(s:Sg):LZ×Int:=
 if st.2≠0 then([],st.2)
 else if s.v=1 then(st.1++[⟨[s.a],false⟩],0)
 else if (zbi (st.1.getLastD ⟨[],false⟩) s tol).2≠0 then([],(zbi (st.1.getLastD ⟨[],false⟩) s tol).2)
 else(st.1.dropLast++[(zbi (st.1.getLastD ⟨[],false⟩) s tol).1],0)
variable{tol:Int}{S:LZ}
def zgC{s:Sg}:ue tol (S,0) s=
  if s.v=1 then(S++[⟨[s.a],false⟩],0)
  else if (zbi (S.getLastD ⟨[],false⟩) s tol).2≠0 then([],(zbi (S.getLastD ⟨[],false⟩) s tol).2)
  else(S.dropLast++[(zbi (S.getLastD ⟨[],false⟩) s tol).1],0):=Xc (λk:(0:Int)≠0=>k rfl)
def je(l:LX)(tol:Int):LZ×Int:=l.foldl (ue tol) ([],0)
def jn(l:LZ):Nat:=(l.map λp=>p.pts.length).sum
def ze8(tol:Int):Prop:=1<=tol/\tol<=256
instance (tol:Int):Decidable (ze8 tol):=wi
def zW(l:LX)(tol:Int):LZ×Int:=
 if¬qM l then([],10) else if¬ze8 tol then([],2) else if (je l tol).2≠0 then([],(je l tol).2)
 else if 4096<jn (je l tol).1 then([],5) else((je l tol).1,0)
def inB(lo hi p:Pt):Prop:=(lo.x<=p.x/\p.x<=hi.x)/\(lo.y<=p.y/\p.y<=hi.y)
def ztU{a b lo hi:Int}(hb:0<b)(h1:lo*b<=a)(h2:a<=hi*b):lo<=zdD a b/\zdD a b<=hi:=by
 unfold zdD;constructor
 ·rw[Int.le_ediv_iff_mul_le oM];have:lo*(2*b)=2*(lo*b):=by grind
  omega
 have h3:(2*a+b)/(2*b)<hi+1:=by
  rw[Int.ediv_lt_iff_lt_mul oM];have:(hi+1)*(2*b)=2*(hi*b)+2*b:=by grind
  omega
 omega
variable{i:Int}
def zCx{n a b c lo hi:Int}(hn:1<=n)(hi0:0<=i)(hin:i<=n)(ha:lo<=a/\a<=hi)(hb:lo<=b/\b<=hi)(hc:lo<=c/\c<=hi):lo<=q1 i n a b c/\q1 i n a b c<=hi:=by
 unfold q1;have w0:0<=(n-i)*(n-i):=XJ oM oM;have w1:0<=2*i*(n-i):=XJ oM oM;have w2:0<=i*i:=XJ oM oM;have e:n*n=(n-i)*(n-i)+2*i*(n-i)+i*i:=by grind
 have g1:=XJ w0 (show 0<=a-lo by omega);have g2:=XJ w1 (show 0<=b-lo by omega);have g3:=XJ w2 (show 0<=c-lo by omega);have g4:=XJ w0 (show 0<=hi-a by omega);have g5:=XJ w1 (show 0<=hi-b by omega);have g6:=XJ w2 (show 0<=hi-c by omega);refine ztU (Ja oM oM) ?_ ?_
 ·rw[e];grind
 rw[e];grind
def zCy{n a b c d lo hi:Int}(hn:1<=n)(hi0:0<=i)(hin:i<=n)(ha:lo<=a/\a<=hi)(hb:lo<=b/\b<=hi)(hc:lo<=c/\c<=hi)(hd:lo<=d/\d<=hi):
  lo<=c1 i n a b c d/\c1 i n a b c d<=hi:=by
 unfold c1;have w0:0<=(n-i)*(n-i)*(n-i):=XJ (XJ oM oM) oM;have w1:0<=3*i*(n-i)*(n-i):=XJ (XJ oM oM) oM;have w2:0<=3*i*i*(n-i):=XJ (XJ oM oM) oM;have w3:0<=i*i*i:=XJ (XJ oM oM) oM;have e:n*n*n=(n-i)*(n-i)*(n-i)+3*i*(n-i)*(n-i)+3*i*i*(n-i)+i*i*i:=by grind
 have g1:=XJ w0 (show 0<=a-lo by omega);have g2:=XJ w1 (show 0<=b-lo by omega);have g3:=XJ w2 (show 0<=c-lo by omega);have g4:=XJ w3 (show 0<=d-lo by omega);have k1:=XJ w0 (show 0<=hi-a by omega);have k2:=XJ w1 (show 0<=hi-b by omega);have k3:=XJ w2 (show 0<=hi-c by omega);have k4:=XJ w3 (show 0<=hi-d by omega);refine ztU (Ja (Ja oM oM) oM) ?_ ?_
 ·rw[e];grind
 rw[e];grind
def ziv(need tol:Int):∀(k n:Nat),1<=n->(yy need tol k n).2=0->1<=(yy need tol k n).1/\(yy need tol k n).1<=(n+k:Nat)-1
 |0,n,_,h=>by cases h
 |k+1,n,hn,h=>by
  unfold yy at h ⊢
  split
  ·exact⟨oN,oN⟩
  rename_i c;rw[Xc c]at h;have:=ziv need tol k (n+1) oM h;omega
variable{l:LU}
def yP{need:Int}(h:(kV need tol l).2=0):(1<=(kV need tol l).1/\(kV need tol l).1<=64)/\ze8 tol/\(∀p∈l,zr p)/\kV need tol l=yy need tol 64 1:=by
 unfold kV at h ⊢
 by_cases h1:¬(1<=tol/\tol<=256)
 ·rw[Xe h1]at h;exact absurd h dC
 rw[Xc h1]at h ⊢
 by_cases h2:¬∀p∈l,zr p
 ·rw[Xe h2]at h;exact absurd h dC
 rw[Xc h2]at h ⊢;have:=ziv need tol 64 1 dC h;exact⟨oM,Xa.1 h1,Xa.1 h2,rfl⟩
def zp9{f:Int->Pt}{n:Nat}(h:p∈zb4 f n):∃i:Nat,i<n/\p=f ((i:Int)+1):=by
 unfold zb4 at h;obtain⟨i,hi,rfl⟩:=XO.1 h;exact⟨i,Kd.1 hi,rfl⟩
variable{lo:Pt}{hi:Pt}{a:Pt}{b:Pt}{c:Pt}
def zvi{n:Int}(hn:1<=n/\n<=64)(hi':0<=i/\i<=n)(ho:∀p∈[a,b,c],zr p)(h:∀p∈[a,b,c],inB lo hi p):inB lo hi (yT a b c i n):=by
 unfold yT;rw[Xc (λk=>k ⟨ho,hn.1,hn.2,hi'.1,hi'.2⟩)];have ha:=h a sI;have hb:=h b sI;have hc:=h c sI;exact⟨zCx hn.1 hi'.1 hi'.2 ha.1 hb.1 hc.1,zCx hn.1 hi'.1 hi'.2 ha.2 hb.2 hc.2⟩
def zvj{d:Pt}{n:Int}(hn:1<=n/\n<=64)(hi':0<=i/\i<=n)(ho:∀p∈[a,b,c,d],zr p)(h:∀p∈[a,b,c,d],inB lo hi p):inB lo hi (yU a b c d i n):=by
 unfold yU;rw[Xc (λk=>k ⟨ho,hn.1,hn.2,hi'.1,hi'.2⟩)];have ha:=h a sI;have hb:=h b sI;have hc:=h c sI;have hd:=h d sI;exact⟨zCy hn.1 hi'.1 hi'.2 ha.1 hb.1 hc.1 hd.1,zCy hn.1 hi'.1 hi'.2 ha.2 hb.2 hc.2 hd.2⟩
def zxX(h0:(zc2 a b c tol).2=0)(h:∀p∈[a,b,c],inB lo hi p):∀p∈(zc2 a b c tol).1,inB lo hi p:=by
 unfold zc2 at h0 ⊢
 split
 ·intro p hp;cases hp
 rename_i h1;have h1:=Xa.1 h1;have ok:=yP h1;intro p hp;obtain⟨i,hi,rfl⟩:=zp9 (show p∈zb4 (λi=>yT a b c i (jV a b c tol).1) (jV a b c tol).1.toNat from hp);unfold jV at hi ⊢;exact zvi (by unfold jV at*;omega) (by unfold jV at*;omega) ok.2.2.1 h
def zxY{d:Pt}(h0:(zc3 a b c d tol).2=0)(h:∀p∈[a,b,c,d],inB lo hi p):∀p∈(zc3 a b c d tol).1,inB lo hi p:=by
 unfold zc3 at h0 ⊢
 split
 ·intro p hp;cases hp
 rename_i h1;have h1:=Xa.1 h1;have ok:=yP h1;intro p hp;obtain⟨i,hi,rfl⟩:=zp9 (show p∈zb4 (λi=>yU a b c d i (jW a b c d tol).1) (jW a b c d tol).1.toNat from hp);unfold jW at hi ⊢;exact zvj (by unfold jW at*;omega) (by unfold jW at*;omega) ok.2.2.1 h
def zfC:∀{l:LU} {x:Pt},jB l->l.getLast?≠some x->jB (l++[x])
 |[],x,_,_=>⟨λ_ h=>(by cases h),tV⟩
 |[p],x,_,h=>⟨λq hq e=>h (by cases hq;rw[e];rfl),⟨λ_ h=>(by cases h),tV⟩⟩
 |p::q::r,x,h,hl=>⟨λz hz=>h.1 z hz,zfC (l:=q::r) h.2 (by rwa [J1]at hl)⟩
def zvk(h:jB l)(x:Pt):jB (yW l x):=by
 unfold yW
 split
 ·exact h
 rename_i k;exact zfC h k
def zfD:∀(more:LU) {l:LU},jB l->jB (kw l more)
 |[],_,h=>h
 |x::r,l,h=>zfD r (zvk h x)
def zkv:∀{l:LU},jB l->jB l.dropLast
 |[],_=>trivial
 |[p],_=>trivial
 |[p,q],h=>⟨λ_ h=>(by cases h),tV⟩
 |p::q::r::s,h=>⟨λz hz=>h.1 z hz,zkv (l:=q::r::s) h.2⟩
def zbj(h:jB l):jB (qf l):=by
 unfold qf;split
 ·exact zkv h
 exact h
def zAN{x:Pt}(h:p∈yW l x):p∈l∨p=x:=by
 unfold yW at h
 split at h
 ·exact .inl h
 simpa using h
def zqa:∀(more:LU) {l:LU} {p:Pt},p∈kw l more->p∈l∨p∈more
 |[],_,_,h=>.inl h
 |x::r,l,p,h=>by
  rcases zqa r (l:=yW l x) h with h|h
  ·exact(zAN h).imp id λe=>by rw[e];exact .head _
  exact .inr (.tail _ h)
def zqb(h:p∈qf l):p∈l:=by
 unfold qf at h
 split at h
 ·exact List.dropLast_subset l h
 exact h
def zDJ(x:Pt):yW l x≠[]:=by
 unfold yW;split
 ·rename_i h;intro e;rw[e]at h;cases h
 simp
def zoj:∀(more:LU) {l:LU},l≠[]->kw l more≠[]
 |[],_,h=>h
 |x::r,l,_=>zoj r (zDJ x)
def zAO(h:l≠[]):qf l≠[]:=by
 unfold qf;split
 ·rename_i k;intro e;have:l.dropLast.length=0:=by rw[e];rfl
  rw[QT]at this;omega
 exact h
def zqc(l:LU)(x:Pt):(yW l x).getLast?=some x:=by
 unfold yW;split
 ·assumption
 simp
def zmv:∀(more:LU) (l:LU),more≠[]->(kw l more).getLast?=more.getLast?
 |[],_,h=>absurd rfl h
 |[x],l,_=>zqc l x
 |x::y::r,l,_=>by
  show(kw (yW l x) (y::r)).getLast?=_;rw[zmv (y::r) _ sI,J1]
def zmw{l:LU}(h:jB l)(h1:1<(qf l).length):(qf l).getLast?≠(qf l).head?:=by
 unfold qf at h1 ⊢
 split
 ·rename_i k;rw[Xe k]at h1;rw[QT]at h1;intro e
  -- l=d++[z]
  obtain⟨d,z,rfl⟩:∃d z,l=d++[z]:=⟨l.dropLast,l.getLast (by intro h;rw[h]at k;simp at k),(JC _).symm⟩;rw[Jw]at e;simp at h1;obtain⟨d',y,rfl⟩:∃d' y,d=d'++[y]:=⟨d.dropLast,d.getLast (by intro h;rw[h]at h1;simp at h1),(JC _).symm⟩;have e1:(d'++[y]++[z]).head?=(d'++[y]).head?:=by cases d' <;> rfl
  rw[e1,←e]at k;have e2:=k.2;rw[Jz,Jz]at e2;have e3:z=y:=Xm e2;clear e e1 k h1 e2
  induction d' with
  |nil=>exact h.1 z rfl e3.symm
  |cons w d' ih=>exact ih h.2
 rename_i k;rw[Xc k]at h1;intro e;exact k ⟨h1,e⟩
def InvP(lo hi:Pt)(S:LZ)(last:Int):Prop:=
 (S=[]/\last=5∨∃cl p,S=cl++[p]/\(p.cl=true↔last=5))/\∀q∈S,q.pts≠[]/\jB q.pts/\∀z∈q.pts,inB lo hi z
def zvl(h:l≠[]):qO l∈l:=by
 unfold qO;rw[Q1,List.getLast?_eq_some_getLast h];exact List.getLast_mem h
def zsf{s:Sg}(h:s.v=1∨s.v=2):kB s=[s.a]:=by
 unfold kB
 rcases h with h|h <;> rw[h] <;> rfl
def zDK{s:Sg}(h:s.v=3):kB s=[s.a,s.b]:=by unfold kB;rw[h];rfl
def zDL{s:Sg}(h:s.v=4):kB s=[s.a,s.b,s.c]:=by unfold kB;rw[h];rfl
def zDM{s:Sg}(he:0<=nm s.v)(h5:s.v≠5)(hp:inB lo hi p)(hs:∀q∈kB s,inB lo hi q)(h0:(kI p s tol).2=0):∀q∈(kI p s tol).1,inB lo hi q:=by
 unfold kI at h0 ⊢
 rcases zml he with h|h|h|h|h
 ·rw[Xc oM,Xc oM]at h0 ⊢;intro q hq;rw[zsf (.inl h)]at hs;exact hs q hq
 ·rw[Xc oM,Xc oM]at h0 ⊢;intro q hq;rw[zsf (.inr h)]at hs;exact hs q hq
 ·rw[Xe h]at h0 ⊢;rw[zDK h]at hs
  exact zxX h0 λq hq=>by
   cases hq with
   |head=>exact hp
   |tail _ hq=>exact hs q hq
 ·rw[Xc oM,Xe h]at h0 ⊢;rw[zDL h]at hs
  exact zxY h0 λq hq=>by
   cases hq with
   |head=>exact hp
   |tail _ hq=>exact hs q hq
 exact absurd h h5
variable{last:Int}{x:Sg}
def zxZ(h:InvP lo hi S last)(he:jO last x=0)(hx:∀p∈kB x,inB lo hi p)(h0:(ue tol (S,0) x).2=0):InvP lo hi (ue tol (S,0) x).1 x.v:=by
 obtain⟨e1,e2,e3⟩:=uW.1 he;rw[zgC]at h0 ⊢
 by_cases h1:x.v=1
 ·rw[Xe h1]at h0 ⊢;refine⟨.inr ⟨S,_,rfl,⟨λk=>(by cases k),λk=>by omega⟩⟩,λq hq=>?_⟩
  rcases Xs.1 hq with hq|hq
  ·exact h.2 q hq
  have:=Xu.1 hq;subst this;refine⟨sI,⟨λ_ h=>(by cases h),tV⟩,λz hz=>?_⟩;have:=Xu.1 hz;subst this;exact hx _ (by rw[zsf (.inl h1)];exact .head _)
 rw[Xc h1]at h0 ⊢;obtain⟨hl,hv⟩:=e2.resolve_left h1;obtain⟨cl,p,rfl,hc⟩:∃cl p,S=cl++[p]/\(p.cl=true↔last=5):=h.1.resolve_left (λk=>hl k.2);have eg:(cl++[p]).getLastD ⟨[],false⟩=p:=by simp
 rw[eg]at h0 ⊢
 by_cases h2:(zbi p x tol).2≠0
 ·rw[Xe h2]at h0;exact absurd h0 h2
 rw[Xc h2]at h0 ⊢;have h2:=Xa.1 h2;obtain⟨p1,p2,p3⟩:=h.2 p sI;rw[Jw]
 have hg:((zbi p x tol).1.cl=true↔x.v=5)/\(zbi p x tol).1.pts≠[]/\jB (zbi p x tol).1.pts/\∀z∈(zbi p x tol).1.pts,inB lo hi z:=by
  unfold zbi at h2 ⊢
  by_cases h5:x.v=5
  ·rw[Xe h5];exact⟨⟨λ_=>h5,λ_=>rfl⟩,zAO p1,zbj p2,λz hz=>p3 z (zqb hz)⟩
  rw[Xc h5]at h2 ⊢
  by_cases h3:(kI (qO p.pts) x tol).2≠0
  ·rw[Xe h3]at h2;exact absurd h2 h3
  rw[Xc h3]at h2 ⊢;have h3:=Xa.1 h3;refine⟨⟨λk=>absurd (hc.1 k) hl,λk=>absurd k h5⟩,zoj _ p1,zfD _ p2,λz hz=>?_⟩
  rcases zqa _ hz with hz|hz
  ·exact p3 z hz
  exact zDM e1 h5 (p3 _ (zvl p1)) hx h3 z hz
 refine⟨.inr ⟨cl,_,rfl,hg.1⟩,λq hq=>?_⟩
 rcases Xs.1 hq with hq|hq
 ·exact h.2 q (Qg _ hq)
 have:=Xu.1 hq;subst this;exact hg.2
def zqd(last:Int)(l:LX)(i:Nat):Int:=if i=0 then last else(l[i-1]?.map Sg.v).getD 0
def zkw{l:LX}{i:Nat}(h:l[i]?=some x):zqd last l (i+1)=x.v:=by
 unfold zqd;rw[Xc oM,show i+1-1=i by omega,h];rfl
def zsg:∀{l:LX} {last:Int} {i:Nat} {x:Sg},oks last l->l[i]?=some x->jO (zqd last l i) x=0
 |[],_,i,_,_,h=>by simp at h
 |s::r,last,0,x,h,hx=>by cases hx;exact h.1
 |s::r,last,i+1,x,h,hx=>by
  have hx:r[i]?=some x:=hx;have:=zsg h.2 hx
  cases i with
  |zero=>exact this
  |succ i=>exact this
def vO{l:LX}{tol:Int}{i:Nat}{x:Sg}(h:l[i]?=some x):je (l.take (i+1)) tol=ue tol (je (l.take i) tol) x:=by
 unfold je;rw[Xl,h];simp[KV]
def zqe{tol:Int}:∀(r:LX) {st:LZ×Int},st.2≠0->r.foldl (ue tol) ([],st.2)=([],st.2)
 |[],_,_=>rfl
 |x::r,st,h=>by
  rw[Qw];have:ue tol ([],st.2) x=([],st.2):=by unfold ue;rw[Xe h]
  rw[this];exact zqe r (st:=st) h
def zx0{st:LZ×Int}(h:(ue tol st x).2≠0):ue tol st x=([],(ue tol st x).2):=by
 unfold ue at h ⊢
 split
 ·rfl
 rename_i h0;rw[Xc h0]at h
 split
 ·rename_i h1;rw[Xe h1]at h;exact absurd rfl h
 rename_i h1;rw[Xc h1]at h
 split
 ·rfl
 rename_i h2;rw[Xc h2]at h;exact absurd rfl h
def zmx{l:LX}{i:Nat}(hx:l[i]?=some x)(h:(je (l.take (i+1)) tol).2≠0):je l tol=([],(je (l.take (i+1)) tol).2):=by
 have e:je l tol=(l.drop (i+1)).foldl (ue tol) (je (l.take (i+1)) tol):=by
  unfold je;rw[←KV,Kj]
 rw[e];rw[vO hx]at h ⊢;rw[zx0 h];exact zqe _ (st:=ue tol (je (l.take i) tol) x) h
def zkx{lo hi:Pt}{l:LX}{tol:Int}(hv:oks 5 l)(hb:∀p∈qc l,inB lo hi p):∀i,i<=l.length->(je (l.take i) tol).2=0->InvP lo hi (je (l.take i) tol).1 (zqd 5 l i)
 |0,_,_=>⟨.inl ⟨rfl,rfl⟩,λq hq=>(by cases hq)⟩
 |i+1,hi',h=>by
  have hx:l[i]?=some l[i]:=Xb oM;rw[vO hx]at h ⊢
  by_cases h0:(je (l.take i) tol).2=0
  ·have ih:=zkx hv hb i oM h0;rw[zkw hx];have e:je (l.take i) tol=((je (l.take i) tol).1,0):=by rw[←h0]
   rw[e]at h ⊢;exact zxZ ih (zsg hv hx) (λp hp=>hb p (QF.2 ⟨_,KI _,hp⟩)) h
  unfold ue at h;rw[Xe h0]at h;exact absurd h h0
def qw(d:LV)(i:Nat):Int:=256*(d.take i).sum
def qz(d:LV):Int:=256*d.sum
def yu:LV->Int->Nat->Nat×Int
 |[],_,_=>(0,0)
 |e::r,k,i=>if k<256*e then(i,256*e-k) else yu r (k-256*e) (i+1)
def phD(pen:Pen)(t:Int):Int:=(t%qz pen.d+(256*pen.ph)%qz pen.d)%qz pen.d
def onD(pen:Pen)(t:Nat):Prop:=(yu pen.d (phD pen t) 0).1%2=0
instance (pen:Pen) (t:Nat):Decidable (onD pen t):=inferInstanceAs (Decidable (_=_))
def yI(d:LV):qw d d.length=qz d:=by unfold qw qz;rw[X1]
def yn{d:LV}{i:Nat}{e:Int}(h:d[i]?=some e):qw d (i+1)=qw d i+256*e:=by
 unfold qw;rw[Xl,h];simp[Q9]
def uq(d:LV):qw d 0=0:=rfl
def zky:∀{d:LV},(∀n∈d,0<=n)->0<=d.sum
 |[],_=>dC
 |e::r,h=>by
  rw[Q4];have:=h e (.head _);have:=zky (d:=r) λn hn=>h n (.tail _ hn)
  omega
def zx1:∀{d:LV},(∀n∈d,n<=1048576)->d.sum<=1048576*(d.length:Int)
 |[],_=>dC
 |e::r,h=>by
  rw[Q4,Xn];have:=h e (.head _);have:=zx1 (d:=r) λn hn=>h n (.tail _ hn)
  omega
def zhG{d:LV}(h:∀n∈d,0<=n){i j:Nat}(hij:i<=j):qw d i<=qw d j:=by
 unfold qw
 have e:d.take j=d.take i++(d.take j).drop i:=by
  have:=(Kj i (d.take j)).symm
  rwa [Yr,Qa hij]at this
 rw[e,QM];have:=zky (d:=(d.take j).drop i) λn hn=>h n (XL (KP hn))
 omega
def zey:∀{d:LV} {i i0:Nat} {k e:Int},(∀n∈d,0<=n)->d[i]?=some e->qw d i<=k->k<qw d i+256*e->yu d k i0=(i0+i,qw d i+256*e-k)
 |[],i,_,_,_,_,h,_,_=>by simp at h
 |a::r,0,i0,k,e,hn,h,h1,h2=>by
  cases h
  rw[uq] at*;unfold yu;rw[Xe oM];simp
 |a::r,i+1,i0,k,e,hn,h,h1,h2=>by
  have h:r[i]?=some e:=h;have e1:qw (a::r) (i+1)=256*a+qw r i:=by unfold qw;rw[Km,Q4,Q9]
  have hm:=zhG (d:=r) (λn hn'=>hn n (.tail _ hn')) (Xh i);rw[uq]at hm;rw[e1]at h1 h2 ⊢;unfold yu;rw[Xc oM,zey (λn hn'=>hn n (.tail _ hn')) h oM oM];exact Prod.ext oN oN
def zok:∀{d:LV} {k:Int},(∀n∈d,0<=n)->0<=k->k<qz d->∃i e,d[i]?=some e/\qw d i<=k/\k<qw d i+256*e
 |[],k,_,h0,h=>by unfold qz at h;simp at h;omega
 |a::r,k,hn,h0,h=>by
  by_cases c:k<256*a
  ·exact⟨0,a,rfl,h0,by rw[uq];omega⟩
  have e1:qz (a::r)=256*a+qz r:=by unfold qz;rw[Q4,Q9]
  obtain⟨i,e,g1,g2,g3⟩:=zok (d:=r) (k:=k-256*a) (λn hn'=>hn n (.tail _ hn')) oM oM;have e2:qw (a::r) (i+1)=256*a+qw r i:=by unfold qw;rw[Km,Q4,Q9]
  exact⟨i+1,e,g1,oM,oM⟩
def z7(on:LI)[DecidablePred on]:Nat->List (Nat×Nat)×Option Nat
 |0=>([],none)
 |t+1=>if on t then((z7 on t).1,some ((z7 on t).2.getD t)) else((z7 on t).1++((z7 on t).2.map λf=>(f,t)).toList,none)
def kJ(on:LI)[DecidablePred on](t:Nat):List (Nat×Nat):=(z7 on t).1++((z7 on t).2.map λf=>(f,t)).toList
end
section
variable{on:LI}[DecidablePred on]
def u9(t:Nat):z7 on (t+1)=if on t then((z7 on t).1,some ((z7 on t).2.getD t)) else((z7 on t).1++((z7 on t).2.map λf=>(f,t)).toList,none):=rfl
def zx2{a b:Nat}(hab:a<b)(h:∀t,a<=t->t<b->on t):z7 on b=((z7 on a).1,some ((z7 on a).2.getD a)):=by
 obtain⟨k,rfl⟩:∃k,b=a+1+k:=⟨b-a-1,oM⟩
 induction k with
 |zero=>rw[show a+1+0=a+1 from rfl,u9,Xe (h a (Xk _) oM)]
 |succ k ih=>
  rw[show a+1+(k+1)=(a+1+k)+1 from rfl,u9,Xe (h _ oM oM),ih oM λt h1 h2=>h t h1 oM];rfl
def ztV{a b:Nat}(hab:a<b)(h:∀t,a<=t->t<b->¬on t):z7 on b=(kJ on a,none):=by
 obtain⟨k,rfl⟩:∃k,b=a+1+k:=⟨b-a-1,oM⟩
 induction k with
 |zero=>rw[show a+1+0=a+1 from rfl,u9,Xc (h a (Xk _) oM)];rfl
 |succ k ih=>
  rw[show a+1+(k+1)=(a+1+k)+1 from rfl,u9,Xc (h _ oM oM),ih oM λt h1 h2=>h t h1 oM];exact Prod.ext (XE _) rfl
def zqf{a:Nat}:∀k,∃r,(z7 on (a+k)).1=(z7 on a).1++r
 |0=>⟨[],sI⟩
 |k+1=>by
  obtain⟨r,hr⟩:=zqf (a:=a) k;rw[show a+(k+1)=(a+k)+1 from rfl,u9]
  split
  ·exact⟨r,hr⟩
  exact⟨r++_,by rw[←XZ,←hr]⟩
def zx3{a b:Nat}(hab:a<=b):∃r,kJ on b=(z7 on a).1++r:=by
 obtain⟨k,rfl⟩:∃k,b=a+k:=⟨b-a,oM⟩;obtain⟨r,hr⟩:=zqf (on:=on) (a:=a) k;exact⟨r++_,by unfold kJ;rw[hr,XZ]⟩
def zca:∀t,(∀q∈(z7 on t).1,q.1<q.2/\q.2<t)/\∀f,(z7 on t).2=some f->f<t
 |0=>⟨λq hq=>(by cases hq),λf h=>(by cases h)⟩
 |t+1=>by
  have ih:=zca t;rw[u9]
  split
  ·refine⟨λq hq=>⟨(ih.1 q hq).1,by have:=(ih.1 q hq).2;omega⟩,λf hf=>?_⟩;have hf:=Xm hf
   cases ho:(z7 on t).2 with
   |none=>rw[ho]at hf;simp at hf;omega
   |some f'=>rw[ho]at hf;simp at hf;have:=ih.2 f' ho;omega
  refine⟨λq hq=>?_,λf hf=>by cases hf⟩
  rcases Xs.1 hq with hq|hq
  ·exact⟨(ih.1 q hq).1,by have:=(ih.1 q hq).2;omega⟩
  cases ho:(z7 on t).2 with
  |none=>rw[ho]at hq;cases hq
  |some f'=>
   rw[ho]at hq;have:=Xu.1 hq;subst this;exact⟨ih.2 f' ho,oN⟩
def zkz{t:Nat}:∀q∈kJ on t,q.1<q.2/\q.2<=t:=λq hq=>by
 have h:=zca (on:=on) t
 rcases Xs.1 hq with hq|hq
 ·exact⟨(h.1 q hq).1,by have:=(h.1 q hq).2;omega⟩
 cases ho:(z7 on t).2 with
 |none=>rw[ho]at hq;cases hq
 |some f'=>
  rw[ho]at hq;have:=Xu.1 hq;subst this;exact⟨h.2 f' ho,Xk _⟩
def zmy:∀t f,(z7 on t).2=some f->∀q∈(z7 on t).1,q.2<f
 |0,f,h=>by cases h
 |t+1,f,h=>by
  rw[u9]at h ⊢
  split at h
  ·rename_i c;rw[Xe c];have h:=Xm h;intro q hq
   cases ho:(z7 on t).2 with
   |none=>rw[ho]at h;have:=((zca (on:=on) t).1 q hq).2;simp at h;omega
   |some f'=>rw[ho]at h;simp at h;subst h;exact zmy t f' ho q hq
  cases h
def zAP{t:Nat}{q:Nat×Nat}(hq:q∈kJ on t)(h1:q.1=0)(h2:q.2=t):kJ on t=[q]:=by
 rcases Xs.1 hq with hm|hm
 ·have:=((zca (on:=on) t).1 q hm).2;omega
 unfold kJ
 cases ho:(z7 on t).2 with
 |none=>rw[ho]at hm;cases hm
 |some f=>
  rw[ho]at hm;have e:=Xu.1 hm
  have e0:(z7 on t).1=[]:=by
   cases hc:(z7 on t).1 with
   |nil=>rfl
   |cons a r=>
    have h3:=zmy t f ho a (by rw[hc];exact .head _);rw[e]at h1;have h1:f=0:=h1;omega
  rw[e0,e];rfl
end
def drawn(d:LV):Int:=256*((List.range d.length).map λi=>if i%2=0 then d.getD i 0 else 0).sum
def kQ(pen:Pen)(long:Int):List (Nat×Nat):=
 if¬kC pen∨long<1∨(0<qz pen.d/\drawn pen.d=0) then[]
 else if qz pen.d=drawn pen.d then[(0,long.toNat)] else kJ (onD pen) long.toNat
def jd(a b:Pt):Int:=zpG (zad b a)
def zi(p:Pl):LU:=if p.cl=true/\2<=(zt p).pts.length then(zt p).pts++[nth (zt p).pts 0] else(zt p).pts
def atS(c:LU):Nat->Int
 |0=>0
 |i+1=>atS c i+jd (nth c i) (nth c (i+1))
def zK(p:Pl):Int:=atS (zi p) ((zi p).length-1)
def zkA(c:LU)(x:Int):Nat->Nat
 |0=>0
 |i+1=>if x<atS c (i+1) then zkA c x i else i+1
def zc8(c:LU)(x:Int):Pt:=
 let i:=zkA c x (c.length-2)
 uG (nth c i) (nth c (i+1)) (x-atS c i) (atS c (i+1)-atS c i)
def ze9(c:LU)(f t:Int)(n:Nat):LU:=((List.range n).filter λi=>decide (f<atS c i/\atS c i<t)).map (nth c)
def vf(c:LU)(f t:Int):LU:=kw [] ([zc8 c f]++ze9 c f t (c.length-1)++[zc8 c t])
def jX(p:Pl)(q:Nat×Nat):Pl:=if p.cl=true/\q.1=0/\(q.2:Int)=zK p then zt p else⟨vf (zi p) q.1 q.2,false⟩
def jw(p:Pl)(pen:Pen):LZ×Int:=
 if¬kC pen then([],13) else if¬∀q∈p.pts,zr q then([],6) else if 4096<p.pts.length then([],5)
 else if pen.d=[] then([zt p],0)
 else if 4096<jn ((kQ pen (zK p)).map (jX p)) then([],5) else((kQ pen (zK p)).map (jX p),0)
end Go.Gs
