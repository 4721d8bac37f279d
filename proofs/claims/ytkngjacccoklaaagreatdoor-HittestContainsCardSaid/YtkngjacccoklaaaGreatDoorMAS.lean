/- The tip of a joint, both texts. -/
import Derived.Test.YtkngjacccoklaaaGreatDoorMA
import Derived.Test.YtkngjacccoklaaaGreatDoorMAR
import Derived.Test.YtkngjacccoklaaaGreatDoorMAP
import Derived.Test.YtkngjacccoklaaaGreatDoorMAQ
import Derived.Test.YtkngjacccoklaaaGreatDoorMAN
set_option maxRecDepth 100000
set_option maxHeartbeats 8000000
set_option linter.all false
namespace Go.Gs
open Go.Proofs
section
def zx4(a b:Int)(ha:0<=a/\a<18446744073709551616)(hb:0<=b/\b<18446744073709551616):
  CG0 456 [u64 a,u64 b] [] (.tup [u64 (a*b/18446744073709551616),u64 (a*b%18446744073709551616)]) []:=by
 obtain⟨x,rfl⟩:=Qh ha.1;obtain⟨y,rfl⟩:=Qh hb.1;have c:=ztu x y oM oM;have e1:((x*y/18446744073709551616:Nat):Int)=(x:Int)*y/18446744073709551616:=by rw[J1,X1];rfl
 have e2:((x*y%18446744073709551616:Nat):Int)=(x:Int)*y%18446744073709551616:=by rw[QU,X1];rfl
 rw[e1,e2]at c;exact c
variable{p:Pt}{q:Pt}
def zhH(hp:zr p)(hq:zr q):ze8 (zA p q):=by
 unfold zr at hp hq;show(-2097152<=p.x+q.x/\p.x+q.x<=2097152)/\(-2097152<=p.y+q.y/\p.y+q.y<=2097152);omega
def zkv(hp:zr p)(hq:zr q):addP p q=zA p q:=by
 unfold addP;rw[zew hp,zew hq]
def tipE(o:Pt×Bool):SV:=.tup [.agg (ptE o.1),pr (o.2=true)]
def uf{o:Pt×Bool}{n:Pt}{b:Bool}(h:o=(n,b)):LE (.tup [.agg (ptE n),bl b]) (tipE o):=by
 subst h;exact zM .refl ztn
def zce{x w:Int}(hx: -2097152<=x/\x<=2097152)(hw:ki w):(-34359738368<=x*w/\x*w<=34359738368)/\(-562949953421312<=x*w*w/\x*w*w<=562949953421312)/\(1<=w*w/\w*w<=268435456):=by
 unfold ki at hw;have h1:=ju (A:=2097152) (B:=16384) (a:=x) (b:=w) oM oM;have h2:=ju (A:=34359738368) (B:=16384) (a:=x*w) (b:=w) oM oM;have h3:=ju (A:=16384) (B:=16384) (a:=w) (b:=w) oM oM;have h4:=Jd (show 0<w by omega) (show 0<w by omega);omega
def zoh(x w q:Int)(hx: -2097152<=x/\x<=2097152)(hw:ki w)(hq:0<=q/\q<=8796093022208):CG0 457 [i64 x,.ptr [i64 w],.ptr [i64 q]] [] (i64 (z6 (x*w*w) (2*q))) []:=by
 have h:=zce hx hw;refine zc Tryz.func457 ?_;(iterate 3 refine Ar.o ?_);exact zb.t (uV (x*w*w) (2*q) ⟨oM,oM⟩ ⟨oM,oM⟩)<|ze (uK oM)
def p_tip(n m:Pt)(w lim:Int):CG0 410 [.agg (ptE n),.agg (ptE m),i64 w,i64 lim] [] (tipE (uX n m w lim)) []:=by
 refine zc Tryz.func410 ?_;have bad:¬(zr n/\zr m/\ki w/\256<=lim/\lim<=65536)->uX n m w lim=(zp,false):=λh=>by unfold uX;rw[Xe h]
 refine zb.t (k8 n)<|⟨λa1=>uf (bad (λh=>a1 h.1)),λa1=>?_⟩;refine zb.t (k8 m)<|⟨λa2=>uf (bad (λh=>a2 h.2.1)),λa2=>?_⟩;refine zb.t (ztP w)<|⟨λa3=>uf (bad (λh=>a3 h.2.2.1)),λa3=>?_⟩;refine⟨λa4=>uf (bad (λh=>by have a4:lim<256:=a4;omega)),λa4=>?_⟩;refine⟨λa5=>uf (bad (λh=>by have a5:65536<lim:=a5;omega)),λa5=>?_⟩;have hn:=Xa.1 a1;have hm:=Xa.1 a2;have hw:=Xa.1 a3
 have hl:256<=lim/\lim<=65536:=⟨by have a4:¬lim<256:=a4;omega,by have a5:¬65536<lim:=a5;omega⟩;have hs:=zhH hn hm
 have e:uX n m w lim=if (zA n m).x*(zA n m).x+(zA n m).y*(zA n m).y=0∨lim*lim*((zA n m).x*(zA n m).x+(zA n m).y*(zA n m).y)<256*w*(256*w) then(zp,false)
   else(⟨z6 ((zA n m).x*w*w) (2*((zA n m).x*(zA n m).x+(zA n m).y*(zA n m).y)),z6 ((zA n m).y*w*w) (2*((zA n m).x*(zA n m).x+(zA n m).y*(zA n m).y))⟩,true):=by
  unfold uX;rw[Xc (λk=>k ⟨hn,hm,hw,hl⟩)]
 refine zb.t (zeC n m hn.p45.s hm.p45.s) ?_;generalize zA n m=s at*;have s1:=ju (A:=2097152) (B:=2097152) (a:=s.x) (b:=s.x) hs.1 hs.1;have s2:=ju (A:=2097152) (B:=2097152) (a:=s.y) (b:=s.y) hs.2 hs.2;have p1:=ja s.x;have p2:=ja s.y;have l1:=ju (A:=65536) (B:=65536) (a:=lim) (b:=lim) oM oM;have l2:=ja lim;have t:=zce hs.1 hw;have w0:=hw;unfold ki at w0;(iterate 6 refine Ar.o ?_);have hq:0<=s.x*s.x+s.y*s.y/\s.x*s.x+s.y*s.y<=8796093022208:=oM
 refine zb.t (zx4 (lim*lim) (s.x*s.x+s.y*s.y) oM oM)<|⟨λb1=>?_,λb1=>?_⟩
 ·have b1:s.x*s.x+s.y*s.y=0:=b1;exact uf (e.trans (Xe (.inl b1)))
 have b1:¬s.x*s.x+s.y*s.y=0:=b1;have hww:256*w*256*w=256*w*(256*w):=by grind
 have hP:0<=lim*lim*(s.x*s.x+s.y*s.y):=XJ oM oM
 have go:¬lim*lim*(s.x*s.x+s.y*s.y)<256*w*(256*w)->uX n m w lim=(⟨z6 (s.x*w*w) (2*(s.x*s.x+s.y*s.y)),z6 (s.y*w*w) (2*(s.x*s.x+s.y*s.y))⟩,true):=λh=>
  e.trans (Xc (λk=>k.elim b1 h))
 have w3:256*w*256*w=65536*(w*w):=by grind
 refine⟨λb2=>?_,λb2=>?_⟩
 ·have b2:lim*lim*(s.x*s.x+s.y*s.y)/18446744073709551616=0:=b2;(iterate 4 refine Ar.o ?_);refine⟨λb3=>?_,λb3=>?_⟩
  ·have b3:lim*lim*(s.x*s.x+s.y*s.y)%18446744073709551616<256*w*256*w:=b3;exact uf (e.trans (Xe (.inr (by generalize lim*lim*(s.x*s.x+s.y*s.y)=P at*;omega))))
  have b3:¬lim*lim*(s.x*s.x+s.y*s.y)%18446744073709551616<256*w*256*w:=b3;exact Dr.k<|zb.t (zoh s.x w (s.x*s.x+s.y*s.y) hs.1 hw hq)<|zb.t (zoh s.y w (s.x*s.x+s.y*s.y) hs.2 hw hq)<|uf (go (by generalize lim*lim*(s.x*s.x+s.y*s.y)=P at*;omega))
 have b2:¬lim*lim*(s.x*s.x+s.y*s.y)/18446744073709551616=0:=b2;exact Dr.k<|zb.t (zoh s.x w (s.x*s.x+s.y*s.y) hs.1 hw hq)<|zb.t (zoh s.y w (s.x*s.x+s.y*s.y) hs.2 hw hq)<|uf (go (by generalize lim*lim*(s.x*s.x+s.y*s.y)=P at*;omega))
def r_tip(n m:Pt)(w lim:Int):CG0 426 [.agg (ptE n),.agg (ptE m),i64 w,i64 lim] [] (tipE (uX n m w lim)) []:=by
 refine zc Tryz.func426 ?_;have bad:¬(zr n/\zr m/\ki w/\256<=lim/\lim<=65536)->uX n m w lim=(zp,false):=λh=>by unfold uX;rw[Xe h]
 refine zb.t (z9 n)<|⟨λa1=>uf (bad (λh=>a1 h.1)),λa1=>?_⟩;refine zb.t (z9 m)<|⟨λa2=>uf (bad (λh=>a2 h.2.1)),λa2=>?_⟩;refine zb.t (ztQ w)<|⟨λa3=>uf (bad (λh=>a3 h.2.2.1)),λa3=>?_⟩;refine⟨λa4=>uf (bad (λh=>by have a4:lim<256:=a4;omega)),λa4=>?_⟩;refine⟨λa5=>uf (bad (λh=>by have a5:65536<lim:=a5;omega)),λa5=>?_⟩;have hn:=Xa.1 a1;have hm:=Xa.1 a2;have hw:=Xa.1 a3
 have hl:256<=lim/\lim<=65536:=⟨by have a4:¬lim<256:=a4;omega,by have a5:¬65536<lim:=a5;omega⟩;have hs:=zhH hn hm
 have e:uX n m w lim=if (zA n m).x*(zA n m).x+(zA n m).y*(zA n m).y=0∨lim*lim*((zA n m).x*(zA n m).x+(zA n m).y*(zA n m).y)<256*w*(256*w) then(zp,false)
   else(⟨z6 ((zA n m).x*w*w) (2*((zA n m).x*(zA n m).x+(zA n m).y*(zA n m).y)),z6 ((zA n m).y*w*w) (2*((zA n m).x*(zA n m).x+(zA n m).y*(zA n m).y))⟩,true):=by
  unfold uX;rw[Xc (λk=>k ⟨hn,hm,hw,hl⟩)]
 have ca:=zxN n m;rw[zkv hn hm]at ca;refine zb.t ca ?_;generalize zA n m=s at*;have s1:=ju (A:=2097152) (B:=2097152) (a:=s.x) (b:=s.x) hs.1 hs.1;have s2:=ju (A:=2097152) (B:=2097152) (a:=s.y) (b:=s.y) hs.2 hs.2;have p1:=ja s.x;have p2:=ja s.y;have l1:=ju (A:=65536) (B:=65536) (a:=lim) (b:=lim) oM oM;have l2:=ja lim;have t:=zce hs.1 hw;have t':=zce hs.2 hw;have w0:=hw;unfold ki at w0;(iterate 3 refine Ar.o ?_);have hq:0<=s.x*s.x+s.y*s.y/\s.x*s.x+s.y*s.y<=8796093022208:=oM;refine Ar.o ?_
 refine⟨λb1=>?_,λb1=>?_⟩
 ·have b1:s.x*s.x+s.y*s.y=0:=b1;exact uf (e.trans (Xe (.inl b1)))
 have b1:¬s.x*s.x+s.y*s.y=0:=b1;have w3:256*w*(256*w)=65536*(w*w):=by grind
 have hs':=hs;unfold ze8 at hs';have z1:=jj (n:=256*w*(256*w)) ⟨oM,oM⟩;have z2:=jj (n:=lim*lim) ⟨oM,oM⟩;have z3:=jj (n:=s.x*s.x+s.y*s.y) ⟨oM,oM⟩;have z4:=k7 (lim*lim) (s.x*s.x+s.y*s.y);unfold jk at z1 z2 z3 z4;refine Ar.o<|zb.t (jM (256*w*(256*w)) ⟨oM,oM⟩)<|Ar.o<|zb.t (jM (lim*lim) ⟨oM,oM⟩)<|zb.t (jM (s.x*s.x+s.y*s.y) ⟨oM,oM⟩)<|zb.t (zcI (ofZ (lim*lim)) (ofZ (s.x*s.x+s.y*s.y)) (by rw[jR];omega) (by rw[jR];omega)) ?_;rw[zY,zY]
 refine zb.t (zxD (ofZ (256*w*(256*w))) (ofZ (lim*lim*(s.x*s.x+s.y*s.y))) (by rw[jR];omega) (by rw[jR];omega)) ?_;rw[zY,zY]
 have hsg:0<(256*w*(256*w)-lim*lim*(s.x*s.x+s.y*s.y)).sign↔lim*lim*(s.x*s.x+s.y*s.y)<256*w*(256*w):=by
  rw[Int.sign_pos_iff];omega
 refine⟨λb2=>?_,λb2=>?_⟩
 ·exact uf (e.trans (Xe (.inr (hsg.1 b2))))
 have go:uX n m w lim=(⟨yZ (z6 (s.x*(w*w)) (2*(s.x*s.x+s.y*s.y))),yZ (z6 (s.y*(w*w)) (2*(s.x*s.x+s.y*s.y)))⟩,true):=by
  rw[←JW,←JW,uK oM,uK oM];exact e.trans (Xc (λk=>k.elim b1 (λh=>b2 (hsg.2 h))))
 (iterate 2 refine Ar.o ?_);refine zb.t (zht s.x (w*w) (2*(s.x*s.x+s.y*s.y)) ⟨oM,oM⟩ ⟨oM,oM⟩ ⟨oM,oM⟩) ?_;(iterate 2 refine Ar.o ?_);exact zb.t (zht s.y (w*w) (2*(s.x*s.x+s.y*s.y)) ⟨oM,oM⟩ ⟨oM,oM⟩ ⟨oM,oM⟩)<|uf go
variable{α:Type}
def kH{p:Prop}[Decidable p](h:p){a b:α}:(if¬p then a else b)=b:=Xc (λk=>k h)
def qK{n:Int}(h:n=0){a b:α}:(if n≠0 then a else b)=b:=Xc (λk=>k h)
def yW(q:List Pt)(x:Pt):List Pt:=if q.getLast?=some x then q else q++[x]
def kw(q more:List Pt):List Pt:=more.foldl yW q
def kI(p:Pt)(s:Sg)(tol:Int):List Pt×Int:=if s.v=3 then zc5 p s.a s.b tol else if s.v=4 then zc6 p s.a s.b s.c tol else([s.a],0)
def qO(l:List Pt):Pt:=l.getLastD zp
def zbk(p:Pl)(s:Sg)(tol:Int):Pl×Int:=
 if s.v=5 then(⟨qf p.pts,true⟩,0)
 else if (kI (qO p.pts) s tol).2≠0 then(p,(kI (qO p.pts) s tol).2)
 else(⟨kw p.pts (kI (qO p.pts) s tol).1,p.cl⟩,0)
def ug(tol:Int)(st:List Pl×Int)(s:Sg):List Pl×Int:=
 if st.2≠0 then([],st.2)
 else if s.v=1 then(st.1++[⟨[s.a],false⟩],0)
 else if (zbk (st.1.getLastD ⟨[],false⟩) s tol).2≠0 then([],(zbk (st.1.getLastD ⟨[],false⟩) s tol).2)
 else(st.1.dropLast++[(zbk (st.1.getLastD ⟨[],false⟩) s tol).1],0)
variable{tol:Int}{S:List Pl}
def zgB{s:Sg}:ug tol (S,0) s=
  if s.v=1 then(S++[⟨[s.a],false⟩],0)
  else if (zbk (S.getLastD ⟨[],false⟩) s tol).2≠0 then([],(zbk (S.getLastD ⟨[],false⟩) s tol).2)
  else(S.dropLast++[(zbk (S.getLastD ⟨[],false⟩) s tol).1],0):=Xc (λk:(0:Int)≠0=>k rfl)
def jf(l:List Sg)(tol:Int):List Pl×Int:=l.foldl (ug tol) ([],0)
def jm(l:List Pl):Nat:=(l.map λp=>p.pts.length).sum
def ze9(tol:Int):Prop:=1<=tol/\tol<=256
instance (tol:Int):Decidable (ze9 tol):=inferInstanceAs (Decidable (_/\_))
def zW(l:List Sg)(tol:Int):List Pl×Int:=
 if¬qN l then([],10) else if¬ze9 tol then([],2) else if (jf l tol).2≠0 then([],(jf l tol).2)
 else if 4096<jm (jf l tol).1 then([],5) else((jf l tol).1,0)
def inB(lo hi p:Pt):Prop:=(lo.x<=p.x/\p.x<=hi.x)/\(lo.y<=p.y/\p.y<=hi.y)
def ztR{a b lo hi:Int}(hb:0<b)(h1:lo*b<=a)(h2:a<=hi*b):lo<=zdJ a b/\zdJ a b<=hi:=by
 unfold zdJ;constructor
 ·rw[Int.le_ediv_iff_mul_le oM];have:lo*(2*b)=2*(lo*b):=by grind
  omega
 have h3:(2*a+b)/(2*b)<hi+1:=by
  rw[Int.ediv_lt_iff_lt_mul oM];have:(hi+1)*(2*b)=2*(hi*b)+2*b:=by grind
  omega
 omega
variable{i:Int}
def zCv{n a b c lo hi:Int}(hn:1<=n)(hi0:0<=i)(hin:i<=n)(ha:lo<=a/\a<=hi)(hb:lo<=b/\b<=hi)(hc:lo<=c/\c<=hi):lo<=q1 i n a b c/\q1 i n a b c<=hi:=by
 unfold q1;have w0:0<=(n-i)*(n-i):=XJ oM oM;have w1:0<=2*i*(n-i):=XJ oM oM;have w2:0<=i*i:=XJ oM oM;have e:n*n=(n-i)*(n-i)+2*i*(n-i)+i*i:=by grind
 have g1:=XJ w0 (show 0<=a-lo by omega);have g2:=XJ w1 (show 0<=b-lo by omega);have g3:=XJ w2 (show 0<=c-lo by omega);have g4:=XJ w0 (show 0<=hi-a by omega);have g5:=XJ w1 (show 0<=hi-b by omega);have g6:=XJ w2 (show 0<=hi-c by omega);refine ztR (Jd oM oM) ?_ ?_
 ·rw[e];grind
 rw[e];grind
def zCw{n a b c d lo hi:Int}(hn:1<=n)(hi0:0<=i)(hin:i<=n)(ha:lo<=a/\a<=hi)(hb:lo<=b/\b<=hi)(hc:lo<=c/\c<=hi)(hd:lo<=d/\d<=hi):
  lo<=c1 i n a b c d/\c1 i n a b c d<=hi:=by
 unfold c1;have w0:0<=(n-i)*(n-i)*(n-i):=XJ (XJ oM oM) oM;have w1:0<=3*i*(n-i)*(n-i):=XJ (XJ oM oM) oM;have w2:0<=3*i*i*(n-i):=XJ (XJ oM oM) oM;have w3:0<=i*i*i:=XJ (XJ oM oM) oM;have e:n*n*n=(n-i)*(n-i)*(n-i)+3*i*(n-i)*(n-i)+3*i*i*(n-i)+i*i*i:=by grind
 have g1:=XJ w0 (show 0<=a-lo by omega);have g2:=XJ w1 (show 0<=b-lo by omega);have g3:=XJ w2 (show 0<=c-lo by omega);have g4:=XJ w3 (show 0<=d-lo by omega);have k1:=XJ w0 (show 0<=hi-a by omega);have k2:=XJ w1 (show 0<=hi-b by omega);have k3:=XJ w2 (show 0<=hi-c by omega);have k4:=XJ w3 (show 0<=hi-d by omega);refine ztR (Jd (Jd oM oM) oM) ?_ ?_
 ·rw[e];grind
 rw[e];grind
def zit(need tol:Int):∀(k n:Nat),1<=n->(yC need tol k n).2=0->1<=(yC need tol k n).1/\(yC need tol k n).1<=(n+k:Nat)-1
 |0,n,_,h=>by cases h
 |k+1,n,hn,h=>by
  unfold yC at h ⊢
  split
  ·exact⟨by dsimp only;omega,by dsimp only;omega⟩
  rename_i c;rw[Xc c]at h;have:=zit need tol k (n+1) oM h;omega
variable{l:List Pt}
def yP{need:Int}(h:(kY need tol l).2=0):(1<=(kY need tol l).1/\(kY need tol l).1<=64)/\ze9 tol/\(∀p∈l,zr p)/\kY need tol l=yC need tol 64 1:=by
 unfold kY at h ⊢
 by_cases h1:¬(1<=tol/\tol<=256)
 ·rw[Xe h1]at h;exact absurd h dC
 rw[Xc h1]at h ⊢
 by_cases h2:¬∀p∈l,zr p
 ·rw[Xe h2]at h;exact absurd h dC
 rw[Xc h2]at h ⊢;have:=zit need tol 64 1 dC h;exact⟨oM,Xa.1 h1,Xa.1 h2,rfl⟩
def zqi{f:Int->Pt}{n:Nat}(h:p∈zcc f n):∃i:Nat,i<n/\p=f ((i:Int)+1):=by
 unfold zcc at h;obtain⟨i,hi,rfl⟩:=XP.1 h;exact⟨i,Kd.1 hi,rfl⟩
variable{lo:Pt}{hi:Pt}{a:Pt}{b:Pt}{c:Pt}
def zvj{n:Int}(hn:1<=n/\n<=64)(hi':0<=i/\i<=n)(ho:∀p∈[a,b,c],zr p)(h:∀p∈[a,b,c],inB lo hi p):inB lo hi (yU a b c i n):=by
 unfold yU;rw[Xc (λk=>k ⟨ho,hn.1,hn.2,hi'.1,hi'.2⟩)];have ha:=h a (by simp);have hb:=h b (by simp);have hc:=h c (by simp);exact⟨zCv hn.1 hi'.1 hi'.2 ha.1 hb.1 hc.1,zCv hn.1 hi'.1 hi'.2 ha.2 hb.2 hc.2⟩
def zvk{d:Pt}{n:Int}(hn:1<=n/\n<=64)(hi':0<=i/\i<=n)(ho:∀p∈[a,b,c,d],zr p)(h:∀p∈[a,b,c,d],inB lo hi p):inB lo hi (yV a b c d i n):=by
 unfold yV;rw[Xc (λk=>k ⟨ho,hn.1,hn.2,hi'.1,hi'.2⟩)];have ha:=h a (by simp);have hb:=h b (by simp);have hc:=h c (by simp);have hd:=h d (by simp);exact⟨zCw hn.1 hi'.1 hi'.2 ha.1 hb.1 hc.1 hd.1,zCw hn.1 hi'.1 hi'.2 ha.2 hb.2 hc.2 hd.2⟩
def zx5(h0:(zc5 a b c tol).2=0)(h:∀p∈[a,b,c],inB lo hi p):∀p∈(zc5 a b c tol).1,inB lo hi p:=by
 unfold zc5 at h0 ⊢
 split
 ·intro p hp;cases hp
 rename_i h1;have h1:=Xa.1 h1;have ok:=yP h1;intro p hp;obtain⟨i,hi,rfl⟩:=zqi (show p∈zcc (λi=>yU a b c i (jU a b c tol).1) (jU a b c tol).1.toNat from hp);unfold jU at hi ⊢;exact zvj (by unfold jU at*;omega) (by unfold jU at*;omega) ok.2.2.1 h
def zx6{d:Pt}(h0:(zc6 a b c d tol).2=0)(h:∀p∈[a,b,c,d],inB lo hi p):∀p∈(zc6 a b c d tol).1,inB lo hi p:=by
 unfold zc6 at h0 ⊢
 split
 ·intro p hp;cases hp
 rename_i h1;have h1:=Xa.1 h1;have ok:=yP h1;intro p hp;obtain⟨i,hi,rfl⟩:=zqi (show p∈zcc (λi=>yV a b c d i (jV a b c d tol).1) (jV a b c d tol).1.toNat from hp);unfold jV at hi ⊢;exact zvk (by unfold jV at*;omega) (by unfold jV at*;omega) ok.2.2.1 h
def zfA:∀{l:List Pt} {x:Pt},jA l->l.getLast?≠some x->jA (l++[x])
 |[],x,_,_=>⟨λ_ h=>(by cases h),trivial⟩
 |[p],x,_,h=>⟨λq hq e=>h (by cases hq;rw[e];rfl),⟨λ_ h=>(by cases h),trivial⟩⟩
 |p::q::r,x,h,hl=>⟨λz hz=>h.1 z hz,zfA (l:=q::r) h.2 (by rwa [J2]at hl)⟩
def zvl(h:jA l)(x:Pt):jA (yW l x):=by
 unfold yW
 split
 ·exact h
 rename_i k;exact zfA h k
def zfB:∀(more:List Pt) {l:List Pt},jA l->jA (kw l more)
 |[],_,h=>h
 |x::r,l,h=>zfB r (zvl h x)
def zkw:∀{l:List Pt},jA l->jA l.dropLast
 |[],_=>trivial
 |[p],_=>trivial
 |[p,q],h=>⟨λ_ h=>(by cases h),trivial⟩
 |p::q::r::s,h=>⟨λz hz=>h.1 z hz,zkw (l:=q::r::s) h.2⟩
def zbl(h:jA l):jA (qf l):=by
 unfold qf;split
 ·exact zkw h
 exact h
def zAN{x:Pt}(h:p∈yW l x):p∈l∨p=x:=by
 unfold yW at h
 split at h
 ·exact .inl h
 simpa using h
def zqj:∀(more:List Pt) {l:List Pt} {p:Pt},p∈kw l more->p∈l∨p∈more
 |[],_,_,h=>.inl h
 |x::r,l,p,h=>by
  rcases zqj r (l:=yW l x) h with h|h
  ·exact(zAN h).imp id λe=>by rw[e];exact .head _
  exact .inr (.tail _ h)
def zqk(h:p∈qf l):p∈l:=by
 unfold qf at h
 split at h
 ·exact List.dropLast_subset l h
 exact h
def zDM(x:Pt):yW l x≠[]:=by
 unfold yW;split
 ·rename_i h;intro e;rw[e]at h;cases h
 simp
def zoi:∀(more:List Pt) {l:List Pt},l≠[]->kw l more≠[]
 |[],_,h=>h
 |x::r,l,_=>zoi r (zDM x)
def zAO(h:l≠[]):qf l≠[]:=by
 unfold qf;split
 ·rename_i k;intro e;have:l.dropLast.length=0:=by rw[e];rfl
  rw[QS]at this;omega
 exact h
def zql(l:List Pt)(x:Pt):(yW l x).getLast?=some x:=by
 unfold yW;split
 ·assumption
 simp
def zmr:∀(more:List Pt) (l:List Pt),more≠[]->(kw l more).getLast?=more.getLast?
 |[],_,h=>absurd rfl h
 |[x],l,_=>zql l x
 |x::y::r,l,_=>by
  show(kw (yW l x) (y::r)).getLast?=_;rw[zmr (y::r) _ (by simp),J2]
def zms{l:List Pt}(h:jA l)(h1:1<(qf l).length):(qf l).getLast?≠(qf l).head?:=by
 unfold qf at h1 ⊢
 split
 ·rename_i k;rw[Xe k]at h1;rw[QS]at h1;intro e
  -- l=d++[z]
  obtain⟨d,z,rfl⟩:∃d z,l=d++[z]:=⟨l.dropLast,l.getLast (by intro h;rw[h]at k;simp at k),(JE _).symm⟩;rw[Jz]at e;simp at h1;obtain⟨d',y,rfl⟩:∃d' y,d=d'++[y]:=⟨d.dropLast,d.getLast (by intro h;rw[h]at h1;simp at h1),(JE _).symm⟩;have e1:(d'++[y]++[z]).head?=(d'++[y]).head?:=by cases d' <;> rfl
  rw[e1,←e]at k;have e2:=k.2;rw[JB,JB]at e2;have e3:z=y:=Xm e2;clear e e1 k h1 e2
  induction d' with
  |nil=>exact h.1 z rfl e3.symm
  |cons w d' ih=>exact ih h.2
 rename_i k;rw[Xc k]at h1;intro e;exact k ⟨h1,e⟩
def InvP(lo hi:Pt)(S:List Pl)(last:Int):Prop:=
 (S=[]/\last=5∨∃cl p,S=cl++[p]/\(p.cl=true↔last=5))/\∀q∈S,q.pts≠[]/\jA q.pts/\∀z∈q.pts,inB lo hi z
def zvm(h:l≠[]):qO l∈l:=by
 unfold qO;rw[Q2,List.getLast?_eq_some_getLast h];exact List.getLast_mem h
def zsm{s:Sg}(h:s.v=1∨s.v=2):kB s=[s.a]:=by
 unfold kB
 rcases h with h|h <;> rw[h] <;> rfl
def zDN{s:Sg}(h:s.v=3):kB s=[s.a,s.b]:=by unfold kB;rw[h];rfl
def zDO{s:Sg}(h:s.v=4):kB s=[s.a,s.b,s.c]:=by unfold kB;rw[h];rfl
def zDP{s:Sg}(he:0<=nm s.v)(h5:s.v≠5)(hp:inB lo hi p)(hs:∀q∈kB s,inB lo hi q)(h0:(kI p s tol).2=0):∀q∈(kI p s tol).1,inB lo hi q:=by
 unfold kI at h0 ⊢
 rcases zml he with h|h|h|h|h
 ·rw[Xc oM,Xc oM]at h0 ⊢;intro q hq;rw[zsm (.inl h)]at hs;exact hs q hq
 ·rw[Xc oM,Xc oM]at h0 ⊢;intro q hq;rw[zsm (.inr h)]at hs;exact hs q hq
 ·rw[Xe h]at h0 ⊢;rw[zDN h]at hs
  exact zx5 h0 λq hq=>by
   cases hq with
   |head=>exact hp
   |tail _ hq=>exact hs q hq
 ·rw[Xc oM,Xe h]at h0 ⊢;rw[zDO h]at hs
  exact zx6 h0 λq hq=>by
   cases hq with
   |head=>exact hp
   |tail _ hq=>exact hs q hq
 exact absurd h h5
variable{last:Int}{x:Sg}
def zx7(h:InvP lo hi S last)(he:jN last x=0)(hx:∀p∈kB x,inB lo hi p)(h0:(ug tol (S,0) x).2=0):InvP lo hi (ug tol (S,0) x).1 x.v:=by
 obtain⟨e1,e2,e3⟩:=uZ.1 he;rw[zgB]at h0 ⊢
 by_cases h1:x.v=1
 ·rw[Xe h1]at h0 ⊢;refine⟨.inr ⟨S,_,rfl,⟨λk=>(by cases k),λk=>by omega⟩⟩,λq hq=>?_⟩
  rcases Xs.1 hq with hq|hq
  ·exact h.2 q hq
  have:=Xv.1 hq;subst this;refine⟨by simp,⟨λ_ h=>(by cases h),trivial⟩,λz hz=>?_⟩;have:=Xv.1 hz;subst this;exact hx _ (by rw[zsm (.inl h1)];exact .head _)
 rw[Xc h1]at h0 ⊢;obtain⟨hl,hv⟩:=e2.resolve_left h1;obtain⟨cl,p,rfl,hc⟩:∃cl p,S=cl++[p]/\(p.cl=true↔last=5):=h.1.resolve_left (λk=>hl k.2);have eg:(cl++[p]).getLastD ⟨[],false⟩=p:=by simp
 rw[eg]at h0 ⊢
 by_cases h2:(zbk p x tol).2≠0
 ·rw[Xe h2]at h0;exact absurd h0 h2
 rw[Xc h2]at h0 ⊢;have h2:=Xa.1 h2;obtain⟨p1,p2,p3⟩:=h.2 p (by simp);rw[Jz]
 have hg:((zbk p x tol).1.cl=true↔x.v=5)/\(zbk p x tol).1.pts≠[]/\jA (zbk p x tol).1.pts/\∀z∈(zbk p x tol).1.pts,inB lo hi z:=by
  unfold zbk at h2 ⊢
  by_cases h5:x.v=5
  ·rw[Xe h5];exact⟨⟨λ_=>h5,λ_=>rfl⟩,zAO p1,zbl p2,λz hz=>p3 z (zqk hz)⟩
  rw[Xc h5]at h2 ⊢
  by_cases h3:(kI (qO p.pts) x tol).2≠0
  ·rw[Xe h3]at h2;exact absurd h2 h3
  rw[Xc h3]at h2 ⊢;have h3:=Xa.1 h3;refine⟨⟨λk=>absurd (hc.1 k) hl,λk=>absurd k h5⟩,zoi _ p1,zfB _ p2,λz hz=>?_⟩
  rcases zqj _ hz with hz|hz
  ·exact p3 z hz
  exact zDP e1 h5 (p3 _ (zvm p1)) hx h3 z hz
 refine⟨.inr ⟨cl,_,rfl,hg.1⟩,λq hq=>?_⟩
 rcases Xs.1 hq with hq|hq
 ·exact h.2 q (Qg _ hq)
 have:=Xv.1 hq;subst this;exact hg.2
def zqm(last:Int)(l:List Sg)(i:Nat):Int:=if i=0 then last else(l[i-1]?.map Sg.v).getD 0
def zkx{l:List Sg}{i:Nat}(h:l[i]?=some x):zqm last l (i+1)=x.v:=by
 unfold zqm;rw[Xc oM,show i+1-1=i by omega,h];rfl
def zsn:∀{l:List Sg} {last:Int} {i:Nat} {x:Sg},oks last l->l[i]?=some x->jN (zqm last l i) x=0
 |[],_,i,_,_,h=>by simp at h
 |s::r,last,0,x,h,hx=>by cases hx;exact h.1
 |s::r,last,i+1,x,h,hx=>by
  have hx:r[i]?=some x:=hx;have:=zsn h.2 hx
  cases i with
  |zero=>exact this
  |succ i=>exact this
def vP{l:List Sg}{tol:Int}{i:Nat}{x:Sg}(h:l[i]?=some x):jf (l.take (i+1)) tol=ug tol (jf (l.take i) tol) x:=by
 unfold jf;rw[Xl,h];simp[KW]
def zqn{tol:Int}:∀(r:List Sg) {st:List Pl×Int},st.2≠0->r.foldl (ug tol) ([],st.2)=([],st.2)
 |[],_,_=>rfl
 |x::r,st,h=>by
  rw[Qx];have:ug tol ([],st.2) x=([],st.2):=by unfold ug;rw[Xe h]
  rw[this];exact zqn r (st:=st) h
def zx8{st:List Pl×Int}(h:(ug tol st x).2≠0):ug tol st x=([],(ug tol st x).2):=by
 unfold ug at h ⊢
 split
 ·rfl
 rename_i h0;rw[Xc h0]at h
 split
 ·rename_i h1;rw[Xe h1]at h;exact absurd rfl h
 rename_i h1;rw[Xc h1]at h
 split
 ·rfl
 rename_i h2;rw[Xc h2]at h;exact absurd rfl h
def zmt{l:List Sg}{i:Nat}(hx:l[i]?=some x)(h:(jf (l.take (i+1)) tol).2≠0):jf l tol=([],(jf (l.take (i+1)) tol).2):=by
 have e:jf l tol=(l.drop (i+1)).foldl (ug tol) (jf (l.take (i+1)) tol):=by
  unfold jf;rw[←KW,Kj]
 rw[e];rw[vP hx]at h ⊢;rw[zx8 h];exact zqn _ (st:=ug tol (jf (l.take i) tol) x) h
def zky{lo hi:Pt}{l:List Sg}{tol:Int}(hv:oks 5 l)(hb:∀p∈qe l,inB lo hi p):∀i,i<=l.length->(jf (l.take i) tol).2=0->InvP lo hi (jf (l.take i) tol).1 (zqm 5 l i)
 |0,_,_=>⟨.inl ⟨rfl,rfl⟩,λq hq=>(by cases hq)⟩
 |i+1,hi',h=>by
  have hx:l[i]?=some l[i]:=Xb oM;rw[vP hx]at h ⊢
  by_cases h0:(jf (l.take i) tol).2=0
  ·have ih:=zky hv hb i oM h0;rw[zkx hx];have e:jf (l.take i) tol=((jf (l.take i) tol).1,0):=by rw[←h0]
   rw[e]at h ⊢;exact zx7 ih (zsn hv hx) (λp hp=>hb p (QG.2 ⟨_,KJ _,hp⟩)) h
  unfold ug at h;rw[Xe h0]at h;exact absurd h h0
def qu(d:List Int)(i:Nat):Int:=256*(d.take i).sum
def qB(d:List Int):Int:=256*d.sum
def yr:List Int->Int->Nat->Nat×Int
 |[],_,_=>(0,0)
 |e::r,k,i=>if k<256*e then(i,256*e-k) else yr r (k-256*e) (i+1)
def phD(pen:Pen)(t:Int):Int:=(t%qB pen.d+(256*pen.ph)%qB pen.d)%qB pen.d
def onD(pen:Pen)(t:Nat):Prop:=(yr pen.d (phD pen t) 0).1%2=0
instance (pen:Pen) (t:Nat):Decidable (onD pen t):=inferInstanceAs (Decidable (_=_))
def yI(d:List Int):qu d d.length=qB d:=by unfold qu qB;rw[X5]
def ym{d:List Int}{i:Nat}{e:Int}(h:d[i]?=some e):qu d (i+1)=qu d i+256*e:=by
 unfold qu;rw[Xl,h];simp[Jb]
def uq(d:List Int):qu d 0=0:=rfl
def zkz:∀{d:List Int},(∀n∈d,0<=n)->0<=d.sum
 |[],_=>dC
 |e::r,h=>by
  rw[Q6];have:=h e (.head _);have:=zkz (d:=r) λn hn=>h n (.tail _ hn)
  omega
def zx9:∀{d:List Int},(∀n∈d,n<=1048576)->d.sum<=1048576*(d.length:Int)
 |[],_=>dC
 |e::r,h=>by
  rw[Q6,Xn];have:=h e (.head _);have:=zx9 (d:=r) λn hn=>h n (.tail _ hn)
  omega
def zhI{d:List Int}(h:∀n∈d,0<=n){i j:Nat}(hij:i<=j):qu d i<=qu d j:=by
 unfold qu
 have e:d.take j=d.take i++(d.take j).drop i:=by
  have:=(Kj i (d.take j)).symm
  rwa [Ys,K4 hij]at this
 rw[e,QM];have:=zkz (d:=(d.take j).drop i) λn hn=>h n (XL (KQ hn))
 omega
def zeD:∀{d:List Int} {i i0:Nat} {k e:Int},(∀n∈d,0<=n)->d[i]?=some e->qu d i<=k->k<qu d i+256*e->yr d k i0=(i0+i,qu d i+256*e-k)
 |[],i,_,_,_,_,h,_,_=>by simp at h
 |a::r,0,i0,k,e,hn,h,h1,h2=>by
  cases h
  rw[uq] at*;unfold yr;rw[Xe oM];simp
 |a::r,i+1,i0,k,e,hn,h,h1,h2=>by
  have h:r[i]?=some e:=h;have e1:qu (a::r) (i+1)=256*a+qu r i:=by unfold qu;rw[Km,Q6,Jb]
  have hm:=zhI (d:=r) (λn hn'=>hn n (.tail _ hn')) (Xh i);rw[uq]at hm;rw[e1]at h1 h2 ⊢;unfold yr;rw[Xc oM,zeD (λn hn'=>hn n (.tail _ hn')) h oM oM];exact Prod.ext (by dsimp only;omega) (by dsimp only;omega)
def zoj:∀{d:List Int} {k:Int},(∀n∈d,0<=n)->0<=k->k<qB d->∃i e,d[i]?=some e/\qu d i<=k/\k<qu d i+256*e
 |[],k,_,h0,h=>by unfold qB at h;simp at h;omega
 |a::r,k,hn,h0,h=>by
  by_cases c:k<256*a
  ·exact⟨0,a,rfl,h0,by rw[uq];omega⟩
  have e1:qB (a::r)=256*a+qB r:=by unfold qB;rw[Q6,Jb]
  obtain⟨i,e,g1,g2,g3⟩:=zoj (d:=r) (k:=k-256*a) (λn hn'=>hn n (.tail _ hn')) oM oM;have e2:qu (a::r) (i+1)=256*a+qu r i:=by unfold qu;rw[Km,Q6,Jb]
  exact⟨i+1,e,g1,oM,oM⟩
def z7(on:Nat->Prop)[DecidablePred on]:Nat->List (Nat×Nat)×Option Nat
 |0=>([],none)
 |t+1=>if on t then((z7 on t).1,some ((z7 on t).2.getD t)) else((z7 on t).1++((z7 on t).2.map λf=>(f,t)).toList,none)
def kJ(on:Nat->Prop)[DecidablePred on](t:Nat):List (Nat×Nat):=(z7 on t).1++((z7 on t).2.map λf=>(f,t)).toList
end
section
variable{on:Nat->Prop}[DecidablePred on]
def ve(t:Nat):z7 on (t+1)=if on t then((z7 on t).1,some ((z7 on t).2.getD t)) else((z7 on t).1++((z7 on t).2.map λf=>(f,t)).toList,none):=rfl
def zya{a b:Nat}(hab:a<b)(h:∀t,a<=t->t<b->on t):z7 on b=((z7 on a).1,some ((z7 on a).2.getD a)):=by
 obtain⟨k,rfl⟩:∃k,b=a+1+k:=⟨b-a-1,oM⟩
 induction k with
 |zero=>rw[show a+1+0=a+1 from rfl,ve,Xe (h a (Xk _) oM)]
 |succ k ih=>
  rw[show a+1+(k+1)=(a+1+k)+1 from rfl,ve,Xe (h _ oM oM),ih oM λt h1 h2=>h t h1 oM];rfl
def ztS{a b:Nat}(hab:a<b)(h:∀t,a<=t->t<b->¬on t):z7 on b=(kJ on a,none):=by
 obtain⟨k,rfl⟩:∃k,b=a+1+k:=⟨b-a-1,oM⟩
 induction k with
 |zero=>rw[show a+1+0=a+1 from rfl,ve,Xc (h a (Xk _) oM)];rfl
 |succ k ih=>
  rw[show a+1+(k+1)=(a+1+k)+1 from rfl,ve,Xc (h _ oM oM),ih oM λt h1 h2=>h t h1 oM];exact Prod.ext (XE _) rfl
def zqo{a:Nat}:∀k,∃r,(z7 on (a+k)).1=(z7 on a).1++r
 |0=>⟨[],by simp⟩
 |k+1=>by
  obtain⟨r,hr⟩:=zqo (a:=a) k;rw[show a+(k+1)=(a+k)+1 from rfl,ve]
  split
  ·exact⟨r,hr⟩
  exact⟨r++_,by rw[←XY,←hr]⟩
def zyb{a b:Nat}(hab:a<=b):∃r,kJ on b=(z7 on a).1++r:=by
 obtain⟨k,rfl⟩:∃k,b=a+k:=⟨b-a,oM⟩;obtain⟨r,hr⟩:=zqo (on:=on) (a:=a) k;exact⟨r++_,by unfold kJ;rw[hr,XY]⟩
def zcf:∀t,(∀q∈(z7 on t).1,q.1<q.2/\q.2<t)/\∀f,(z7 on t).2=some f->f<t
 |0=>⟨λq hq=>(by cases hq),λf h=>(by cases h)⟩
 |t+1=>by
  have ih:=zcf t;rw[ve]
  split
  ·refine⟨λq hq=>⟨(ih.1 q hq).1,by have:=(ih.1 q hq).2;omega⟩,λf hf=>?_⟩;have hf:=Xm hf
   cases ho:(z7 on t).2 with
   |none=>rw[ho]at hf;simp at hf;omega
   |some f'=>rw[ho]at hf;simp at hf;have:=ih.2 f' ho;omega
  refine⟨λq hq=>?_,λf hf=>by cases hf⟩
  rcases Xs.1 hq with hq|hq
  ·exact⟨(ih.1 q hq).1,by have:=(ih.1 q hq).2;omega⟩
  cases ho:(z7 on t).2 with
  |none=>rw[ho]at hq;cases hq
  |some f'=>
   rw[ho]at hq;have:=Xv.1 hq;subst this;exact⟨ih.2 f' ho,by dsimp only;omega⟩
def zkA{t:Nat}:∀q∈kJ on t,q.1<q.2/\q.2<=t:=λq hq=>by
 have h:=zcf (on:=on) t
 rcases Xs.1 hq with hq|hq
 ·exact⟨(h.1 q hq).1,by have:=(h.1 q hq).2;omega⟩
 cases ho:(z7 on t).2 with
 |none=>rw[ho]at hq;cases hq
 |some f'=>
  rw[ho]at hq;have:=Xv.1 hq;subst this;exact⟨h.2 f' ho,Xk _⟩
def zmu:∀t f,(z7 on t).2=some f->∀q∈(z7 on t).1,q.2<f
 |0,f,h=>by cases h
 |t+1,f,h=>by
  rw[ve]at h ⊢
  split at h
  ·rename_i c;rw[Xe c];have h:=Xm h;intro q hq
   cases ho:(z7 on t).2 with
   |none=>rw[ho]at h;have:=((zcf (on:=on) t).1 q hq).2;simp at h;omega
   |some f'=>rw[ho]at h;simp at h;subst h;exact zmu t f' ho q hq
  cases h
def zAP{t:Nat}{q:Nat×Nat}(hq:q∈kJ on t)(h1:q.1=0)(h2:q.2=t):kJ on t=[q]:=by
 rcases Xs.1 hq with hm|hm
 ·have:=((zcf (on:=on) t).1 q hm).2;omega
 unfold kJ
 cases ho:(z7 on t).2 with
 |none=>rw[ho]at hm;cases hm
 |some f=>
  rw[ho]at hm;have e:=Xv.1 hm
  have e0:(z7 on t).1=[]:=by
   cases hc:(z7 on t).1 with
   |nil=>rfl
   |cons a r=>
    have h3:=zmu t f ho a (by rw[hc];exact .head _);rw[e]at h1;have h1:f=0:=h1;omega
  rw[e0,e];rfl
end
def drawn(d:List Int):Int:=256*((List.range d.length).map λi=>if i%2=0 then d.getD i 0 else 0).sum
def kS(pen:Pen)(long:Int):List (Nat×Nat):=
 if¬kC pen∨long<1∨(0<qB pen.d/\drawn pen.d=0) then[]
 else if qB pen.d=drawn pen.d then[(0,long.toNat)] else kJ (onD pen) long.toNat
def jd(a b:Pt):Int:=zp3 (zae b a)
def zj(p:Pl):List Pt:=if p.cl=true/\2<=(zt p).pts.length then(zt p).pts++[nth (zt p).pts 0] else(zt p).pts
def atS(c:List Pt):Nat->Int
 |0=>0
 |i+1=>atS c i+jd (nth c i) (nth c (i+1))
def zL(p:Pl):Int:=atS (zj p) ((zj p).length-1)
def zkB(c:List Pt)(x:Int):Nat->Nat
 |0=>0
 |i+1=>if x<atS c (i+1) then zkB c x i else i+1
def zdd(c:List Pt)(x:Int):Pt:=
 let i:=zkB c x (c.length-2)
 uJ (nth c i) (nth c (i+1)) (x-atS c i) (atS c (i+1)-atS c i)
def zfa(c:List Pt)(f t:Int)(n:Nat):List Pt:=((List.range n).filter λi=>decide (f<atS c i/\atS c i<t)).map (nth c)
def vi(c:List Pt)(f t:Int):List Pt:=kw [] ([zdd c f]++zfa c f t (c.length-1)++[zdd c t])
def jW(p:Pl)(q:Nat×Nat):Pl:=if p.cl=true/\q.1=0/\(q.2:Int)=zL p then zt p else⟨vi (zj p) q.1 q.2,false⟩
def jv(p:Pl)(pen:Pen):List Pl×Int:=
 if¬kC pen then([],13) else if¬∀q∈p.pts,zr q then([],6) else if 4096<p.pts.length then([],5)
 else if pen.d=[] then([zt p],0)
 else if 4096<jm ((kS pen (zL p)).map (jW p)) then([],5) else((kS pen (zL p)).map (jW p),0)
def goP(t:AF)(p:Pt):Pt:=⟨(vD t (p.x:Rat) (p.y:Rat)+Rat.divInt 1 2).floor,(vE t (p.x:Rat) (p.y:Rat)+Rat.divInt 1 2).floor⟩
def kr(t:AF)(p:Pt):Pt×Int:=if¬t.ok then(zp,5) else if¬zr p then(zp,6) else if zr (goP t p) then(goP t p,0) else(zp,6)
def zeE(t:AF)(p:Pt)(ht:t.le 100000):CG0 185 [.agg (afE t),.agg (ptE p)] [] (.tup [.agg (ptE (kr t p).1),i64 (kr t p).2]) []:=by
 obtain⟨ha,hb,hc,hd,he,hf⟩:=ht;refine zc Tryz.func185 ?_;have fin:∀(q:Pt) (n:Int),(kr t p)=(q,n)->LE (.tup [.agg (ptE q),i64 n]) (.tup [.agg (ptE (kr t p).1),i64 (kr t p).2]):=λq n h=>by rw[h];exact .refl
 refine zb.t (zgq t ⟨oM,oM,oM,oM,oM,oM⟩)<|⟨λh1=>?_,λh1=>?_⟩
 ·exact fin zp 5 (by rw[kr,Xe h1])
 refine zb.t (k8 p)<|⟨λh2=>?_,λh2=>?_⟩
 ·exact fin zp 6 (by rw[kr,Xc h1,Xe h2])
 have hp:zr p:=XN h2;have hx:R64 p.x:=by unfold R64;unfold zr at hp;omega
 have hy:R64 p.y:=by unfold R64;unfold zr at hp;omega
 have lx:=zdG p.x;have ly:=zdG p.y;have zx:=jj hx;have zy:=jj hy;refine Dr.k<|zb.t (yO p.x hx)<|zb.t (yO p.y hy)<|zb.t (ztB t (ofQ (p.x:Rat)) (ofQ (p.y:Rat)) ⟨oM,oM,oM,oM,oM,oM⟩ (by rw[zF];omega) (by rw[zF];omega)) ?_;rw[kv,kv];have lX:=qQ t.a (ofQ (p.x:Rat)) t.c (ofQ (p.y:Rat)) t.e (n:=100000) ha (by rw[zF];omega) hc (by rw[zF];omega) he;have lY:=qQ t.b (ofQ (p.x:Rat)) t.d (ofQ (p.y:Rat)) t.f (n:=100000) hb (by rw[zF];omega) hd (by rw[zF];omega) hf;rw[kv,kv]at lX lY
 have lh:yS (Rat.divInt 1 2)<=1:=by decide +kernel
 have mX:=zbf (vD t p.x p.y) (Rat.divInt 1 2);have mY:=zbf (vE t p.x p.y) (Rat.divInt 1 2);have lX2:yS (vD t p.x p.y)<=500007:=lX.2;have lY2:yS (vE t p.x p.y)<=500007:=lY.2
 have fl:∀q:Rat,jk q.floor<=yS q:=λq=>XC (zb3 (by
  rw[J0]
  exact Q0 _ _)) (qt q)
 have fX:=fl (vD t p.x p.y+Rat.divInt 1 2);have fY:=fl (vE t p.x p.y+Rat.divInt 1 2);refine zb.t (zr8 1 2 dC dC dC)<|zb.t (zpW (ofQ (vD t p.x p.y)) (ofQ (Rat.divInt 1 2)) (by rw[zF];omega) (by rw[zF];omega)) ?_;rw[kv,kv];refine zb.t (ztA (ofQ (vD t p.x p.y+Rat.divInt 1 2)) (by rw[zF];omega)) ?_;rw[kv];refine zb.t (zty (ofZ (vD t p.x p.y+Rat.divInt 1 2).floor) (by rw[zR];omega))<|zb.t (zpW (ofQ (vE t p.x p.y)) (ofQ (Rat.divInt 1 2)) (by rw[zF];omega) (by rw[zF];omega)) ?_;rw[kv,kv]
 refine zb.t (ztA (ofQ (vE t p.x p.y+Rat.divInt 1 2)) (by rw[zF];omega)) ?_;rw[kv];refine zb.t (zty (ofZ (vE t p.x p.y+Rat.divInt 1 2).floor) (by rw[zR];omega)) ?_;rw[zY,zY];obtain⟨X,hX⟩:∃X,(vD t p.x p.y+Rat.divInt 1 2).floor=X:=⟨_,rfl⟩;obtain⟨Y,hY⟩:∃Y,(vE t p.x p.y+Rat.divInt 1 2).floor=Y:=⟨_,rfl⟩;have hg:goP t p=⟨X,Y⟩:=by unfold goP;rw[hX,hY]
 rw[hX,hY];have out:¬zr ⟨X,Y⟩->kr t p=(zp,6):=λh=>by rw[kr,Xc h1,Xc h2,Xc (by rw[hg];exact h)]
 have inn:zr ⟨X,Y⟩->kr t p=(⟨X,Y⟩,0):=λh=>by rw[kr,Xc h1,Xc h2,Xe (by rw[hg];exact h),hg]
 have big:zr ⟨X,Y⟩->(-9223372036854775808<=X/\X<=9223372036854775807)/\(-9223372036854775808<=Y/\Y<=9223372036854775807):=λh=>by unfold zr at h;dsimp only at h;omega
 refine⟨λh3=>?_,λh3=>?_⟩
 ·refine⟨λh4=>?_,λh4=>?_⟩
  ·refine zb.t (k8 ⟨yZ X,yZ Y⟩) ?_;rw[yZ,Xe h3,yZ,Xe h4];refine⟨λh5=>?_,λh5=>?_⟩
   ·exact fin ⟨X,Y⟩ 0 (inn h5)
   exact fin zp 6 (out h5)
  exact fin zp 6 (out λh=>h4 (big h).2)
 exact fin zp 6 (out λh=>h3 (big h).1)
def qT(t:AF):List Pt->Int
 |[]=>0
 |p::r=>if (kr t p).2≠0 then(kr t p).2 else qT t r
def vQ(t:AF)(s:Sg):Sg:=zkm s.v ((kB s).map λp=>(kr t p).1)
def trans(t:AF)(l:List Sg):List Sg×Int:=
 if¬qN l then([],10) else if qT t (qe l)≠0 then([],qT t (qe l)) else(l.map (vQ t),0)
def jB(t:AF):∀q r:List Pt,qT t (q++r)=if qT t q≠0 then qT t q else qT t r
 |[],r=>by simp[qT]
 |p::q,r=>by
  rw[Js,qT,qT,jB t q r]
  by_cases h:(kr t p).2=0
  ·simp[h]
  simp[h]
def vr{t:AF}{q:List Pt}{k:Nat}{p:Pt}(h0:qT t (q.take k)=0)(hp:q[k]?=some p):
  ((kr t p).2=0->qT t (q.take (k+1))=0)/\((kr t p).2≠0->qT t q=(kr t p).2):=by
 have e:q.take (k+1)=q.take k++[p]:=by rw[Xl,hp];rfl
 have e1:qT t (q.take (k+1))=(kr t p).2:=by
  rw[e,jB,h0]
  by_cases h:(kr t p).2=0 <;> simp[qT,h]
 refine⟨λh=>by rw[e1,h],λh=>?_⟩;have:=jB t (q.take (k+1)) (q.drop (k+1));rw[Kj,e1,Xe h]at this;exact this
def zyc(s:Sg):(kB s).length<=3:=by
 unfold kB;have:=zdM s.v;simp only[Xo,Xn,Xr];omega
def zAQ(l:List Sg)(t:AF)(ht:t.le 100000)(hlen:l.length<=300):CG0 126 [.sl sgE l,.agg (afE t)] [] (.tup [.sl sgE (trans t l).1,i64 (trans t l).2]) []:=by
 refine zc Tryz.func126 ?_
 have bad:∀e:Int,trans t l=([],e)->LE (.tup [.val (.slice none 0 0),i64 e]) (.tup [.sl sgE (trans t l).1,i64 (trans t l).2]):=λe h=>by
  rw[h];exact zM zD .refl
 refine zb.t (ziY l)<|⟨λh1=>?_,λh1=>?_⟩
 ·exact bad 10 (by rw[trans,Xe h1])
 intro hl
 refine⟨Nat×Option (List Sg),λq=>match q with
   |(i,none)=>⟨[(19,i64 i),(18,i64 l.length),(17,.sl sgE l),(6,.val (.slice none 0 0)),(3,.loc 0 0)],[(0,.box 38 (afE t))],1,53,0⟩
   |(i,some out)=>⟨[(19,i64 i),(18,i64 l.length),(17,.sl sgE l),(6,.own 1),(3,.loc 0 0)],[(1,.arr 111 sgE 7 out),(0,.box 38 (afE t))],2,53,0⟩,
  λq=>match q with
   |(i,none)=>i=0
   |(i,some out)=>i<=l.length/\out=(l.take i).map (vQ t)/\qT t (qe (l.take i))=0,λq=>l.length-q.1,(0,none),rfl,?_,?_⟩
 ·exact zf [0]
 have errs:∀(i:Nat) (x:Sg) (p:Pt) (k:Nat),qT t (qe (l.take i))=0->l[i]?=some x->qT t ((kB x).take k)=0->(kB x)[k]?=some p->(kr t p).2≠0->trans t l=([],(kr t p).2):=by
  intro i x p k h0 hx hk hp he;have e2:=(vr hk hp).2 he
  have e3:qT t (qe l)=(kr t p).2:=by
   have hd:=zgs hx
   have:qe l=qe (l.take i)++(kB x++qe (l.drop (i+1))):=by
    conv=>lhs;rw[←Kj i l,hd]
    simp[qe]
   rw[this,jB,h0];simp only[ne_eq,not_true_eq_false,if_false];rw[jB,e2,Xe he]
  rw[trans,Xc h1,e3,Xe he]
 have fin0:∀i x,qT t (qe (l.take i))=0->l[i]?=some x->qT t (kB x)=0->qT t (qe (l.take (i+1)))=0:=λi x h0 hx hk=>by
  rw[zin hx,jB,h0];simpa using hk
 rintro⟨i,_|out⟩ hI
 ·have hI:i=0:=hI;subst hI;have hi0:qT t (qe (l.take 0))=0:=rfl;have hil:0<=l.length:=Xh _;refine⟨λh2=>?_,λh2=>?_⟩
  ·refine Ob.o ?_;intro x hx;have hx:l[0]?=some x:=hx;refine zb.t (zp7 x) ?_;intro hl4
   refine⟨Nat×Option (List Pt),λq=>match q with
     |(k,none)=>⟨[(26,i64 k),(25,i64 (kB x).length),(24,.sl ptE (kB x)),(9,.val (.slice none 0 0)),(8,.loc 1 0),(19,i64 (0:Nat)),(18,i64 l.length),(17,.sl sgE l),(6,.val (.slice none 0 0)),(3,.loc 0 0)],[(1,.box 111 (sgE x)),(0,.box 38 (afE t))],2,53,0⟩
     |(k,some to)=>⟨[(26,i64 k),(25,i64 (kB x).length),(24,.sl ptE (kB x)),(9,.own 2),(8,.loc 1 0),(19,i64 (0:Nat)),(18,i64 l.length),(17,.sl sgE l),(6,.val (.slice none 0 0)),(3,.loc 0 0)],[(2,.arr 28 ptE 2 to),(1,.box 111 (sgE x)),(0,.box 38 (afE t))],3,53,0⟩,
    λq=>match q with
     |(k,none)=>k=0
     |(k,some to)=>k<=(kB x).length/\to=((kB x).take k).map (λp=>(kr t p).1)/\qT t ((kB x).take k)=0,λq=>(kB x).length-q.1,(0,none),rfl,?_,?_⟩
   ·exact zf [0,1]
   have hx3:=zyc x
   rintro⟨k,_|to⟩ hK
   ·have hK:k=0:=hK;subst hK;have hk0:qT t ((kB x).take 0)=0:=rfl;have hkl:0<=(kB x).length:=Xh _;refine⟨λh4=>?_,λh4=>?_⟩
    ·refine Ob.o ?_;intro p hp;have hp:(kB x)[0]?=some p:=hp;refine zb.t (zeE t p ht)<|⟨λh5=>?_,λh5=>?_⟩
     ·exact bad _ (errs 0 x p 0 hi0 hx hk0 hp h5)
     have h5:(kr t p).2=0:=XN h5;have hk1:=(vr hk0 hp).1 h5;refine⟨Pt,ptE,[(kr t p).1],rfl,Ob.o0 ?_⟩;refine⟨_,_,_,rfl,Ob.o18 ?_⟩;refine Ar.fit dC ?_;refine⟨(1,some [(kr t p).1]),⟨oM,(by rw[Xl,hp];rfl),hk1⟩,zf [0,1,5],by dsimp only;omega⟩
    have hp0:kB x=[]:=XM.1 oM;have hgo:zkm x.v []=vQ t x:=by rw[vQ,hp0];rfl
    have hall:=fin0 0 x hi0 hx (by rw[hp0];rfl);refine zb.t ((zoc x.v []).args (.C (.cons zD .nil))) ?_;rw[hgo];refine⟨Sg,sgE,[vQ t x],rfl,Ob.o0 ?_⟩;refine⟨_,_,_,rfl,Ob.o19 ?_⟩;refine Ar.fit dC ?_;refine⟨(1,some [vQ t x]),⟨oM,(by rw[Xl,hx];rfl),hall⟩,(by first|exact zf [0,2]|exact zf [0,3]|exact zf [0,4]|exact zf [0,5]|exact zf [0,6]|exact zf [0,7]|exact zf [0,8]),by dsimp only;omega⟩
   obtain⟨hkl,hto,hk0⟩:=hK;refine⟨λh4=>?_,λh4=>?_⟩
   ·refine Ob.o ?_;intro p hp;have hp:(kB x)[k]?=some p:=hp;refine zb.t (zeE t p ht)<|⟨λh5=>?_,λh5=>?_⟩
    ·exact bad _ (errs 0 x p k hi0 hx hk0 hp h5)
    have h5:(kr t p).2=0:=XN h5;have hk1:=(vr hk0 hp).1 h5;refine⟨Pt,ptE,[(kr t p).1],rfl,Ob.o0 ?_⟩;have htl:to.length=k:=by rw[hto];simp;omega
    refine⟨_,rfl,Ob.o20 ?_⟩;refine Ar.o ?_;refine⟨(k+1,some (to++[(kr t p).1])),⟨oM,(by rw[Xl,hp,hto];simp),hk1⟩,zf [0,1,6],by dsimp only;omega⟩
   have hkk:k=(kB x).length:=by omega
   subst hkk;rw[X5]at hto hk0;have hgo:zkm x.v to=vQ t x:=by rw[vQ,hto]
   have hall:=fin0 0 x hi0 hx hk0;refine zb.t (zoc x.v to) ?_;rw[hgo];refine⟨Sg,sgE,[vQ t x],rfl,Ob.o0 ?_⟩;refine⟨_,_,_,rfl,Ob.o19 ?_⟩;refine Ar.fit dC ?_;refine⟨(1,some [vQ t x]),⟨oM,(by rw[Xl,hx];rfl),hall⟩,(by first|exact zf [0,2]|exact zf [0,3]|exact zf [0,4]|exact zf [0,5]|exact zf [0,6]|exact zf [0,7]|exact zf [0,8]),by dsimp only;omega⟩
  have hii:0=l.length:=by omega
  have htr:trans t l=(l.map (vQ t),0):=by
   rw[hii,X5]at hi0;rw[trans,Xc h1,hi0,Xc (λk=>k rfl)]
  exact bad 0 (by rw[htr,XM.1 hii.symm];rfl)
 obtain⟨hil,hout,hi0⟩:=hI;refine⟨λh2=>?_,λh2=>?_⟩
 ·refine Ob.o ?_;intro x hx;have hx:l[i]?=some x:=hx;refine zb.t (zp7 x) ?_;intro hl4
  refine⟨Nat×Option (List Pt),λq=>match q with
    |(k,none)=>⟨[(26,i64 k),(25,i64 (kB x).length),(24,.sl ptE (kB x)),(9,.val (.slice none 0 0)),(8,.loc 2 0),(19,i64 i),(18,i64 l.length),(17,.sl sgE l),(6,.own 1),(3,.loc 0 0)],[(2,.box 111 (sgE x)),(1,.arr 111 sgE 7 out),(0,.box 38 (afE t))],3,53,0⟩
    |(k,some to)=>⟨[(26,i64 k),(25,i64 (kB x).length),(24,.sl ptE (kB x)),(9,.own 3),(8,.loc 2 0),(19,i64 i),(18,i64 l.length),(17,.sl sgE l),(6,.own 1),(3,.loc 0 0)],[(3,.arr 28 ptE 2 to),(2,.box 111 (sgE x)),(1,.arr 111 sgE 7 out),(0,.box 38 (afE t))],4,53,0⟩,
   λq=>match q with
    |(k,none)=>k=0
    |(k,some to)=>k<=(kB x).length/\to=((kB x).take k).map (λp=>(kr t p).1)/\qT t ((kB x).take k)=0,λq=>(kB x).length-q.1,(0,none),rfl,?_,?_⟩
  ·exact zf [0,1,2]
  have hx3:=zyc x
  rintro⟨k,_|to⟩ hK
  ·have hK:k=0:=hK;subst hK;have hk0:qT t ((kB x).take 0)=0:=rfl;have hkl:0<=(kB x).length:=Xh _;refine⟨λh4=>?_,λh4=>?_⟩
   ·refine Ob.o ?_;intro p hp;have hp:(kB x)[0]?=some p:=hp;refine zb.t (zeE t p ht)<|⟨λh5=>?_,λh5=>?_⟩
    ·exact bad _ (errs i x p 0 hi0 hx hk0 hp h5)
    have h5:(kr t p).2=0:=XN h5;have hk1:=(vr hk0 hp).1 h5;refine⟨Pt,ptE,[(kr t p).1],rfl,Ob.o0 ?_⟩;refine⟨_,_,_,rfl,Ob.o18 ?_⟩;refine Ar.fit dC ?_;refine⟨(1,some [(kr t p).1]),⟨oM,(by rw[Xl,hp];rfl),hk1⟩,zf [0,1,2,6],by dsimp only;omega⟩
   have hp0:kB x=[]:=XM.1 oM;have hgo:zkm x.v []=vQ t x:=by rw[vQ,hp0];rfl
   have hall:=fin0 i x hi0 hx (by rw[hp0];rfl);refine zb.t ((zoc x.v []).args (.C (.cons zD .nil))) ?_;rw[hgo];refine⟨Sg,sgE,[vQ t x],rfl,Ob.o0 ?_⟩;have hol:out.length=i:=by rw[hout];simp;omega
   refine⟨_,rfl,Ob.o21 ?_⟩;refine Ar.o ?_;refine⟨(i+1,some (out++[vQ t x])),⟨oM,(by rw[Xl,hx,hout];simp),hall⟩,(by first|exact zf [0,2]|exact zf [0,3]|exact zf [0,4]|exact zf [0,5]|exact zf [0,6]|exact zf [0,7]|exact zf [0,8]),by dsimp only;omega⟩
  obtain⟨hkl,hto,hk0⟩:=hK;refine⟨λh4=>?_,λh4=>?_⟩
  ·refine Ob.o ?_;intro p hp;have hp:(kB x)[k]?=some p:=hp;refine zb.t (zeE t p ht)<|⟨λh5=>?_,λh5=>?_⟩
   ·exact bad _ (errs i x p k hi0 hx hk0 hp h5)
   have h5:(kr t p).2=0:=XN h5;have hk1:=(vr hk0 hp).1 h5;refine⟨Pt,ptE,[(kr t p).1],rfl,Ob.o0 ?_⟩;have htl:to.length=k:=by rw[hto];simp;omega
   refine⟨_,rfl,Ob.o20 ?_⟩;refine Ar.o ?_;refine⟨(k+1,some (to++[(kr t p).1])),⟨oM,(by rw[Xl,hp,hto];simp),hk1⟩,zf [0,1,2,7],by dsimp only;omega⟩
  have hkk:k=(kB x).length:=by omega
  subst hkk;rw[X5]at hto hk0;have hgo:zkm x.v to=vQ t x:=by rw[vQ,hto]
  have hall:=fin0 i x hi0 hx hk0;refine zb.t (zoc x.v to) ?_;rw[hgo];refine⟨Sg,sgE,[vQ t x],rfl,Ob.o0 ?_⟩;have hol:out.length=i:=by rw[hout];simp;omega
  refine⟨_,rfl,Ob.o21 ?_⟩;refine Ar.o ?_;refine⟨(i+1,some (out++[vQ t x])),⟨oM,(by rw[Xl,hx,hout];simp),hall⟩,(by first|exact zf [0,2]|exact zf [0,3]|exact zf [0,4]|exact zf [0,5]|exact zf [0,6]|exact zf [0,7]|exact zf [0,8]),by dsimp only;omega⟩
 have hii:i=l.length:=by omega
 have htr:trans t l=(l.map (vQ t),0):=by
  rw[hii,X5]at hi0;rw[trans,Xc h1,hi0,Xc (λk=>k rfl)]
 rw[hii,X5]at hout;rw[htr,←hout];exact zM .refl .refl
def part(f:Pt->Pt)(j:Nat)(s:Sg):Sg:=⟨s.v,if 1<=j then f s.a else s.a,if 2<=j then f s.b else s.b,if 3<=j then f s.c else s.c⟩
def zfb(f:Pt->Pt)(s:Sg):Sg:=part f (nm s.v).toNat s
def zyd{l:List Sg}(h:qN l):∀p∈qe l,zr p:=λp hp=>by
 obtain⟨s,hs,hp⟩:=QG.1 hp
 have hf:zdc s:=by
  have e:=zmo l;rw[←e]at hs;obtain⟨g,hg,hsg⟩:=J3.1 hs;obtain⟨k,m,mid,_,_,g3,_⟩:=zp8 h g hg;exact g3 s hsg
 have hp:=XL hp;simp only[XZ,XW,or_false]at hp
 rcases hp with rfl|rfl|rfl
 ·exact hf.1.1
 ·exact hf.2.1.1
 exact hf.2.2.1
def zye{l:List Sg}(h:qN l){s:Sg}(hs:s∈l):zdc s:=by
 have e:=zmo l;rw[←e]at hs;obtain⟨g,hg,hsg⟩:=J3.1 hs;obtain⟨k,m,mid,_,_,g3,_⟩:=zp8 h g hg;exact g3 s hsg
def ztT{f:Pt->Pt->Pt}(hf:∀p q,zr p->zr q->zr (f p q)):∀(q:List Pt) (p:Pt),zr p->(∀r∈q,zr r)->zr (q.foldl f p)
 |[],_,hp,_=>hp
 |a::q,p,hp,h=>ztT hf q (f p a) (hf p a hp (h a (.head _))) λr hr=>h r (.tail _ hr)
def zyf{f:Pt->Pt->Pt}(hf:∀p q,zr p->zr q->zr (f p q)){q:List Pt}(h:∀r∈q,zr r):zr (bnd f q):=by
 cases q with
 |nil=>exact zp_ok
 |cons a r=>exact ztT hf (a::r) a (h a (.head _)) h
def zDQ(f:Pt->Pt)(j:Nat)(s:Sg):(part f j s).v=s.v:=rfl
def zvn(f:Pt->Pt)(s:Sg):kB (zfb f s)=(kB s).map f:=by
 have hr:=zdM s.v;have e:nm s.v<=0∨nm s.v=1∨nm s.v=2∨nm s.v=3:=oM;unfold kB zfb;rw[zDQ]
 rcases e with e|e|e|e
 ·rw[show(nm s.v).toNat=0 by omega];rfl
 ·rw[show(nm s.v).toNat=1 by omega];rfl
 ·rw[show(nm s.v).toNat=2 by omega];rfl
 rw[show(nm s.v).toNat=3 by omega];rfl
def zAR(f:Pt->Pt)(l:List Sg):qe (l.map (zfb f))=(qe l).map f:=by
 induction l with
 |nil=>rfl
 |cons s r ih=>
  have e1:qe ((s::r).map (zfb f))=kB (zfb f s)++qe (r.map (zfb f)):=rfl;have e2:qe (s::r)=kB s++qe r:=rfl;rw[e1,e2,ih,zvn,XB]
def zkC:∀{l:List Sg} {last:Int},oks last l->∀s∈l,zdc s
 |[],_,_,s,hs=>by cases hs
 |a::r,last,h,s,hs=>by
  rcases XZ.1 hs with rfl|hs
  ·exact(uZ.1 h.1).2.2
  exact zkC h.2 s hs
def ziu{lo hi:Pt}{l:List Sg}{tol:Int}(h0:(zW l tol).2=0)(hb:∀p∈qe l,inB lo hi p):
  qN l/\ze9 tol/\jm (zW l tol).1<=4096/\∀q∈(zW l tol).1,q.pts≠[]/\jA q.pts/\∀z∈q.pts,inB lo hi z:=by
 unfold zW at h0 ⊢
 by_cases h1:¬qN l
 ·rw[Xe h1]at h0;exact absurd h0 dC
 rw[Xc h1]at h0 ⊢
 by_cases h2:¬ze9 tol
 ·rw[Xe h2]at h0;exact absurd h0 dC
 rw[Xc h2]at h0 ⊢
 by_cases h3:(jf l tol).2≠0
 ·rw[Xe h3]at h0;exact absurd h0 h3
 rw[Xc h3]at h0 ⊢
 by_cases h4:4096<jm (jf l tol).1
 ·rw[Xe h4]at h0;exact absurd h0 dC
 rw[Xc h4];have:=zky (tol:=tol) (zaV.1 (Xa.1 h1)).2 hb l.length (Xk _);rw[X5]at this;exact⟨Xa.1 h1,Xa.1 h2,by dsimp only;omega,(this (Xa.1 h3)).2⟩
def uA(l:List Pl):List (List Pt):=(l.filter λp=>decide (3<=p.pts.length)).map Pl.pts
def yn(l:List Sg)(t:AF)(tol:Int):List (List Pt)×Int:=
 if (trans t l).2≠0 then([],(trans t l).2) else if (zW (trans t l).1 tol).2≠0 then([],(zW (trans t l).1 tol).2) else(uA (zW (trans t l).1 tol).1,0)
def zmv:∀l:List Pl,qb (uA l)<=jm l
 |[]=>Xk _
 |p::r=>by
  have ih:=zmv r;have e:jm (p::r)=p.pts.length+jm r:=by unfold jm;simp
  unfold uA at ih ⊢;rw[Qp]
  split
  ·have:qb ((p::r.filter λp=>decide (3<=p.pts.length)).map Pl.pts)=p.pts.length+qb ((r.filter λp=>decide (3<=p.pts.length)).map Pl.pts):=by unfold qb;simp
   omega
  omega
def zvo{l:List Pl}{r:List Pt}(h:r∈uA l):∃p∈l,p.pts=r:=by
 unfold uA at h;obtain⟨p,hp,rfl⟩:=XP.1 h;exact⟨p,(QL.1 hp).1,rfl⟩
def zso{lo hi:Pt}{l:List Sg}{t:AF}{tol:Int}(h0:(yn l t tol).2=0)(hb:∀p∈qe (trans t l).1,inB lo hi p):qb (yn l t tol).1<=4096/\∀r∈(yn l t tol).1,∀p∈r,inB lo hi p:=by
 unfold yn at h0 ⊢
 by_cases h1:(trans t l).2≠0
 ·rw[Xe h1]at h0;exact absurd h0 h1
 rw[Xc h1]at h0 ⊢
 by_cases h2:(zW (trans t l).1 tol).2≠0
 ·rw[Xe h2]at h0;exact absurd h0 h2
 rw[Xc h2];have f:=ziu (Xa.1 h2) hb;refine⟨XC (zmv _) f.2.2.1,λr hr p hp=>?_⟩;obtain⟨q,hq,rfl⟩:=zvo hr;exact(f.2.2.2 q hq).2.2 p hp
def zmw{a b w:Int}(hw:0<=w)(h:2*(a.natAbs:Int)<=w*b.natAbs):((z6 a b).natAbs:Int)<=(w+1)/2:=by
 have e:=zdD a b;rw[e]
 by_cases hb:b.natAbs=0
 ·rw[hb];simp;omega
 have hb':(0:Int)<b.natAbs:=oM;generalize a.natAbs=A at*;generalize b.natAbs=B at*;rw[show(((2*A+B)/(2*B):Nat):Int)=(2*(A:Int)+B)/(2*B) by rw[J1];simp];have h1:(2*(A:Int)+B)/(2*B)<=(w*B+B)/(2*B):=Int.ediv_le_ediv oM oM;have h2:(w*B+B:Int)=B*(w+1):=by grind
 have h3:(w*B+B:Int)/(2*B)=(w+1)/2:=by
  rw[h2,QT 2 (B:Int),Int.mul_ediv_mul_of_pos _ _ hb']
 omega
def zgC(w:Int)(p:Pt):Prop:=(p.x.natAbs:Int)<=(w+1)/2/\(p.y.natAbs:Int)<=(w+1)/2
def zAS{x y:Int}(hx:¬zbs x)(hy:¬zbs y):256*(x.natAbs:Int)<=isq (65536*(x*x+y*y))/\256*(y.natAbs:Int)<=isq (65536*(x*x+y*y)):=by
 unfold zbs at hx hy;have h1:=ju (A:=2097152) (B:=2097152) (a:=x) (b:=x) oM oM;have h2:=ju (A:=2097152) (B:=2097152) (a:=y) (b:=y) oM oM;have h5:=ja x;have h6:=ja y;have e1:(x.natAbs:Int)*x.natAbs=x*x:=Int.natAbs_mul_self' x;have e2:(y.natAbs:Int)*y.natAbs=y*y:=Int.natAbs_mul_self' y;refine⟨zse oM oM ?_,zse oM oM ?_⟩
 ·rw[show 256*(x.natAbs:Int)*(256*(x.natAbs:Int))=65536*((x.natAbs:Int)*x.natAbs) by grind,e1];omega
 rw[show 256*(y.natAbs:Int)*(256*(y.natAbs:Int))=65536*((y.natAbs:Int)*y.natAbs) by grind,e2];omega
def zgD(v:Pt){w:Int}(hw:ki w):zgC w (z5 v w):=by
 unfold ki at hw;unfold z5
 split
 ·exact⟨by show((0:Int).natAbs:Int)<=_;simp;omega,by show((0:Int).natAbs:Int)<=_;simp;omega⟩
 rename_i h;rw[not_or,not_or,not_or]at h;have ab:=zAS h.2.1 h.2.2.1;have hL:0<=isq (65536*(v.x*v.x+v.y*v.y)):=oM;generalize isq (65536*(v.x*v.x+v.y*v.y))=L at*;have eL:(L.natAbs:Int)=L:=Jy hL;have wn:(w.natAbs:Int)=w:=Jy oM;refine⟨zmw oM ?_,zmw oM ?_⟩
 ·rw[QF,QF,Int.natAbs_neg,eL,X1,X1,wn];have:=Jw ab.2 (show 0<=w by omega);rw[show 2*((v.y.natAbs:Int)*w*((128:Int).natAbs:Nat))=w*(256*(v.y.natAbs:Int)) by simp;grind];exact this
 rw[QF,QF,eL,X1,X1,wn];have:=Jw ab.1 (show 0<=w by omega);rw[show 2*((v.x.natAbs:Int)*w*((128:Int).natAbs:Nat))=w*(256*(v.x.natAbs:Int)) by simp;grind];exact this
def zvp{r q:List Pt}(h:q∈kN r):q=r:=by
 unfold kN at h;split at h
 ·cases h
 exact Xv.1 h
section
variable{lo hi:Pt}{w m:Int}
end
def zqp{w:Int}{p:Pt}(h:zgC w p):zgC w (zhz p):=by unfold zgC zhz at*;dsimp only;omega
def zkD{a v b:Pt}{w:Int}(hw:ki w):zgC w (qp a v b w).1/\zgC w (qp a v b w).2.1:=by
 have z:zgC w zp:=by unfold ki at hw;exact⟨by show((0:Int).natAbs:Int)<=_;simp;omega,by show((0:Int).natAbs:Int)<=_;simp;omega⟩
 unfold qp
 split
 ·exact⟨z,z⟩
 dsimp only
 split
 ·exact⟨z,z⟩
 split
 ·exact⟨zqp (zgD _ hw),zqp (zgD _ hw)⟩
 exact⟨zgD _ hw,zgD _ hw⟩
def ztU{l:List Pt}{i:Nat}(h:i<l.length):nth l i∈l:=by
 unfold nth;rw[Xt,Xb h];exact KJ h
def zfC{p:Pl}{z:Pt}(h:z∈(zt p).pts):z∈p.pts:=by
 unfold zt at h;dsimp only at h
 split at h
 ·exact zez (zqk h)
 exact zez h
def zyg{a b M:Int}(hb:0<b)(ha:0<=a)(h:a<=M*b):0<=z6 a b/\z6 a b<=M:=by
 obtain⟨Q,e⟩:∃Q:Nat,z6 a b=(Q:Int):=⟨_,by unfold z6;rw[Xe oM]⟩
 have hM:0<=M:=Jr.1 λk=>by
  have:=Int.mul_neg_of_neg_of_pos k hb;omega
 have h2:=zoa (a:=a) (b:=b) (M:=M.toNat) oM (by
  have:((M.toNat*b.natAbs:Nat):Int)=M*b:=by rw[X1,Qj hM,Jy oM]
  omega)
 omega
def zyh{p:Pl}{z:Pt}(h:z∈zj p):z∈p.pts:=by
 unfold zj at h
 split at h
 ·rename_i c
  rcases Xs.1 h with h|h
  ·exact zfC h
  rw[Xv.1 h];exact zfC (ztU oM)
 exact zfC h
def zqq{p:Pl}(h:(zj p).length<2):zL p=0:=by
 unfold zL;rw[show(zj p).length-1=0 by omega];rfl
end Go.Gs
