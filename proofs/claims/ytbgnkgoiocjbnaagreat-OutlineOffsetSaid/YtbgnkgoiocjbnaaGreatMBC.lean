/- The tip of a joint, both texts. -/
import Derived.Test.YtbgnkgoiocjbnaaGreatMA
import Derived.Test.YtbgnkgoiocjbnaaGreatMAX
import Derived.Test.YtbgnkgoiocjbnaaGreatMBB
import Derived.Test.YtbgnkgoiocjbnaaGreatMAV
import Derived.Test.YtbgnkgoiocjbnaaGreatMAU
set_option maxRecDepth 100000
set_option maxHeartbeats 8000000
set_option linter.all false
namespace Go.Gs
open Go.Proofs
theorem zrq(a b:Int)(ha:0<=a/\a < 18446744073709551616)(hb:0<=b/\b < 18446744073709551616):
  zd Tryz.prog 286 [u64 a,u64 b] [] (.tup [u64 (a*b / 18446744073709551616),u64 (a*b % 18446744073709551616)]) []:=by
 obtain ⟨x,rfl⟩:=Int.eq_ofNat_of_zero_le ha.1;obtain ⟨y,rfl⟩:=Int.eq_ofNat_of_zero_le hb.1;have c:=zn1 x y oM oM;have e1:((x*y / 18446744073709551616:Nat):Int)=(x:Int)*y / 18446744073709551616:=by rw [Int.natCast_ediv,Int.natCast_mul];rfl
 have e2:((x*y % 18446744073709551616:Nat):Int)=(x:Int)*y % 18446744073709551616:=by rw [Int.natCast_emod,Int.natCast_mul];rfl
 rw [e1,e2] at c;exact c
theorem zij{p q:Pt}(hp:zo p)(hq:zo q):zoa (zH p q):=by
 unfold zo at hp hq;show (-2097152<=p.x+q.x/\p.x+q.x<=2097152)/\(-2097152<=p.y+q.y/\p.y+q.y<=2097152);omega
theorem zrr{p q:Pt}(hp:zo p)(hq:zo q):addP p q=zH p q:=by
 unfold addP;rw [zet hp,zet hq]
def tipE(o:Pt×Bool):SV:=.tup [.agg (ptE o.1),pr (o.2=true)]
theorem za5{o:Pt×Bool}{n:Pt}{b:Bool}(h:o=(n,b)):LE (.tup [.agg (ptE n),bl b]) (tipE o):=by
 subst h;exact zS .refl znT
theorem zdZ{x w:Int}(hx: -2097152<=x/\x<=2097152)(hw:zX w):(-34359738368<=x*w/\x*w<=34359738368)/\(-562949953421312<=x*w*w/\x*w*w<=562949953421312)/\(1<=w*w/\w*w<=268435456):=by
 unfold zX at hw;have h1:=qZ (A:=2097152) (B:=16384) (a:=x) (b:=w) oM oM;have h2:=qZ (A:=34359738368) (B:=16384) (a:=x*w) (b:=w) oM oM;have h3:=qZ (A:=16384) (B:=16384) (a:=w) (b:=w) oM oM;have h4:=Int.mul_pos (show 0 < w by omega) (show 0 < w by omega);omega
theorem zjK(x w q:Int)(hx: -2097152<=x/\x<=2097152)(hw:zX w)(hq:0<=q/\q<=8796093022208):zd Tryz.prog 287 [i64 x,.ptr [i64 w],.ptr [i64 q]] [] (i64 (zQ (x*w*w) (2*q))) []:=by
 have h:=zdZ hx hw;refine zc tok mix Tryz.func287 rfl rfl rfl ?_;(iterate 3 refine Ar.o ?_);refine zb.t (zC (x*w*w) (2*q) ⟨oM,oM⟩ ⟨oM,oM⟩) ?_;exact zu (zav oM)
theorem p_tip(n m:Pt)(w lim:Int):zd Tryz.prog 241 [.agg (ptE n),.agg (ptE m),i64 w,i64 lim] [] (tipE (vR n m w lim)) []:=by
 refine zc tok mix Tryz.func241 rfl rfl rfl ?_;have bad:¬(zo n/\zo m/\zX w/\256<=lim/\lim<=65536)->vR n m w lim=(zp,false):=fun h=>by unfold vR;rw [if_pos h]
 refine zb.t (qc n) ?_;refine Br.mk (fun a1=>za5 (bad (fun h=>a1 h.1))) (fun a1=>?_);refine zb.t (qc m) ?_;refine Br.mk (fun a2=>za5 (bad (fun h=>a2 h.2.1))) (fun a2=>?_);refine zb.t (zob w) ?_;refine Br.mk (fun a3=>za5 (bad (fun h=>a3 h.2.2.1))) (fun a3=>?_);refine Br.mk (fun a4=>za5 (bad (fun h=>by have a4:lim < 256:=a4;omega))) (fun a4=>?_);refine Br.mk (fun a5=>za5 (bad (fun h=>by have a5:65536 < lim:=a5;omega))) (fun a5=>?_);have hn:=Decidable.not_not.1 a1;have hm:=Decidable.not_not.1 a2;have hw:=Decidable.not_not.1 a3
 have hl:256<=lim/\lim<=65536:=⟨by have a4:¬lim < 256:=a4;omega,by have a5:¬65536 < lim:=a5;omega⟩;have hs:=zij hn hm
 have e:vR n m w lim=if (zH n m).x*(zH n m).x+(zH n m).y*(zH n m).y=0∨lim*lim*((zH n m).x*(zH n m).x+(zH n m).y*(zH n m).y) < 256*w*(256*w) then (zp,false)
   else (⟨zQ ((zH n m).x*w*w) (2*((zH n m).x*(zH n m).x+(zH n m).y*(zH n m).y)),zQ ((zH n m).y*w*w) (2*((zH n m).x*(zH n m).x+(zH n m).y*(zH n m).y))⟩,true):=by
  unfold vR;rw [if_neg (fun k=>k ⟨hn,hm,hw,hl⟩)]
 refine zb.t (zcs n m hn.p45.s hm.p45.s) ?_;generalize zH n m=s at*;have s1:=qZ (A:=2097152) (B:=2097152) (a:=s.x) (b:=s.x) hs.1 hs.1;have s2:=qZ (A:=2097152) (B:=2097152) (a:=s.y) (b:=s.y) hs.2 hs.2;have p1:=jm s.x;have p2:=jm s.y;have l1:=qZ (A:=65536) (B:=65536) (a:=lim) (b:=lim) oM oM;have l2:=jm lim;have t:=zdZ hs.1 hw;have w0:=hw;unfold zX at w0;(iterate 6 refine Ar.o ?_);have hq:0<=s.x*s.x+s.y*s.y/\s.x*s.x+s.y*s.y<=8796093022208:=oM
 refine zb.t (zrq (lim*lim) (s.x*s.x+s.y*s.y) oM oM) ?_;refine Br.mk (fun b1=>?_) (fun b1=>?_)
 ·have b1:s.x*s.x+s.y*s.y=0:=b1;exact za5 (e.trans (if_pos (.inl b1)))
 have b1:¬s.x*s.x+s.y*s.y=0:=b1;have hww:256*w*256*w=256*w*(256*w):=by grind
 have hP:0<=lim*lim*(s.x*s.x+s.y*s.y):=Int.mul_nonneg oM oM
 have go:¬lim*lim*(s.x*s.x+s.y*s.y) < 256*w*(256*w)->vR n m w lim=(⟨zQ (s.x*w*w) (2*(s.x*s.x+s.y*s.y)),zQ (s.y*w*w) (2*(s.x*s.x+s.y*s.y))⟩,true):=fun h=>
  e.trans (if_neg (fun k=>k.elim b1 h))
 have w3:256*w*256*w=65536*(w*w):=by grind
 refine Br.mk (fun b2=>?_) (fun b2=>?_)
 ·have b2:lim*lim*(s.x*s.x+s.y*s.y) / 18446744073709551616=0:=b2;(iterate 4 refine Ar.o ?_);refine Br.mk (fun b3=>?_) (fun b3=>?_)
  ·have b3:lim*lim*(s.x*s.x+s.y*s.y) % 18446744073709551616 < 256*w*256*w:=b3;exact za5 (e.trans (if_pos (.inr (by generalize lim*lim*(s.x*s.x+s.y*s.y)=P at*;omega))))
  ·have b3:¬lim*lim*(s.x*s.x+s.y*s.y) % 18446744073709551616 < 256*w*256*w:=b3;refine Dr.k ?_;refine zb.t (zjK s.x w (s.x*s.x+s.y*s.y) hs.1 hw hq) ?_;refine zb.t (zjK s.y w (s.x*s.x+s.y*s.y) hs.2 hw hq) ?_;exact za5 (go (by generalize lim*lim*(s.x*s.x+s.y*s.y)=P at*;omega))
 ·have b2:¬lim*lim*(s.x*s.x+s.y*s.y) / 18446744073709551616=0:=b2;refine Dr.k ?_;refine zb.t (zjK s.x w (s.x*s.x+s.y*s.y) hs.1 hw hq) ?_;refine zb.t (zjK s.y w (s.x*s.x+s.y*s.y) hs.2 hw hq) ?_;exact za5 (go (by generalize lim*lim*(s.x*s.x+s.y*s.y)=P at*;omega))
theorem r_tip(n m:Pt)(w lim:Int):zd Tryz.prog 293 [.agg (ptE n),.agg (ptE m),i64 w,i64 lim] [] (tipE (vR n m w lim)) []:=by
 refine zc tok mix Tryz.func293 rfl rfl rfl ?_;have bad:¬(zo n/\zo m/\zX w/\256<=lim/\lim<=65536)->vR n m w lim=(zp,false):=fun h=>by unfold vR;rw [if_pos h]
 refine zb.t (yG n) ?_;refine Br.mk (fun a1=>za5 (bad (fun h=>a1 h.1))) (fun a1=>?_);refine zb.t (yG m) ?_;refine Br.mk (fun a2=>za5 (bad (fun h=>a2 h.2.1))) (fun a2=>?_);refine zb.t (zwM w) ?_;refine Br.mk (fun a3=>za5 (bad (fun h=>a3 h.2.2.1))) (fun a3=>?_);refine Br.mk (fun a4=>za5 (bad (fun h=>by have a4:lim < 256:=a4;omega))) (fun a4=>?_);refine Br.mk (fun a5=>za5 (bad (fun h=>by have a5:65536 < lim:=a5;omega))) (fun a5=>?_);have hn:=Decidable.not_not.1 a1;have hm:=Decidable.not_not.1 a2;have hw:=Decidable.not_not.1 a3
 have hl:256<=lim/\lim<=65536:=⟨by have a4:¬lim < 256:=a4;omega,by have a5:¬65536 < lim:=a5;omega⟩;have hs:=zij hn hm
 have e:vR n m w lim=if (zH n m).x*(zH n m).x+(zH n m).y*(zH n m).y=0∨lim*lim*((zH n m).x*(zH n m).x+(zH n m).y*(zH n m).y) < 256*w*(256*w) then (zp,false)
   else (⟨zQ ((zH n m).x*w*w) (2*((zH n m).x*(zH n m).x+(zH n m).y*(zH n m).y)),zQ ((zH n m).y*w*w) (2*((zH n m).x*(zH n m).x+(zH n m).y*(zH n m).y))⟩,true):=by
  unfold vR;rw [if_neg (fun k=>k ⟨hn,hm,hw,hl⟩)]
 have ca:=zwJ n m;rw [zrr hn hm] at ca;refine zb.t ca ?_;generalize zH n m=s at*;have s1:=qZ (A:=2097152) (B:=2097152) (a:=s.x) (b:=s.x) hs.1 hs.1;have s2:=qZ (A:=2097152) (B:=2097152) (a:=s.y) (b:=s.y) hs.2 hs.2;have p1:=jm s.x;have p2:=jm s.y;have l1:=qZ (A:=65536) (B:=65536) (a:=lim) (b:=lim) oM oM;have l2:=jm lim;have t:=zdZ hs.1 hw;have t':=zdZ hs.2 hw;have w0:=hw;unfold zX at w0;(iterate 3 refine Ar.o ?_);have hq:0<=s.x*s.x+s.y*s.y/\s.x*s.x+s.y*s.y<=8796093022208:=oM;refine Ar.o ?_
 refine Br.mk (fun b1=>?_) (fun b1=>?_)
 ·have b1:s.x*s.x+s.y*s.y=0:=b1;exact za5 (e.trans (if_pos (.inl b1)))
 have b1:¬s.x*s.x+s.y*s.y=0:=b1;have w3:256*w*(256*w)=65536*(w*w):=by grind
 have hs':=hs;unfold zoa at hs';have z1:=jq (n:=256*w*(256*w)) ⟨oM,oM⟩;have z2:=jq (n:=lim*lim) ⟨oM,oM⟩;have z3:=jq (n:=s.x*s.x+s.y*s.y) ⟨oM,oM⟩;have z4:=qJ (lim*lim) (s.x*s.x+s.y*s.y);unfold je at z1 z2 z3 z4;refine Ar.o ?_;refine zb.t (vA (256*w*(256*w)) ⟨oM,oM⟩) ?_;refine Ar.o ?_;refine zb.t (vA (lim*lim) ⟨oM,oM⟩) ?_;refine zb.t (vA (s.x*s.x+s.y*s.y) ⟨oM,oM⟩) ?_;refine zb.t (zgt (ofZ (lim*lim)) (ofZ (s.x*s.x+s.y*s.y)) (by rw [u5];omega) (by rw [u5];omega)) ?_;rw [z8,z8]
 refine zb.t (zxN (ofZ (256*w*(256*w))) (ofZ (lim*lim*(s.x*s.x+s.y*s.y))) (by rw [u5];omega) (by rw [u5];omega)) ?_;rw [z8,z8]
 have hsg:0 < (256*w*(256*w) - lim*lim*(s.x*s.x+s.y*s.y)).sign↔lim*lim*(s.x*s.x+s.y*s.y) < 256*w*(256*w):=by
  rw [Int.sign_pos_iff];omega
 refine Br.mk (fun b2=>?_) (fun b2=>?_)
 ·exact za5 (e.trans (if_pos (.inr (hsg.1 b2))))
 have go:vR n m w lim=(⟨yH (zQ (s.x*(w*w)) (2*(s.x*s.x+s.y*s.y))),yH (zQ (s.y*(w*w)) (2*(s.x*s.x+s.y*s.y)))⟩,true):=by
  rw [← Int.mul_assoc,← Int.mul_assoc,zav oM,zav oM];exact e.trans (if_neg (fun k=>k.elim b1 (fun h=>b2 (hsg.2 h))))
 (iterate 2 refine Ar.o ?_);refine zb.t (zwc s.x (w*w) (2*(s.x*s.x+s.y*s.y)) ⟨oM,oM⟩ ⟨oM,oM⟩ ⟨oM,oM⟩) ?_;(iterate 2 refine Ar.o ?_);refine zb.t (zwc s.y (w*w) (2*(s.x*s.x+s.y*s.y)) ⟨oM,oM⟩ ⟨oM,oM⟩ ⟨oM,oM⟩) ?_;exact za5 go
theorem zV{α:Type}{p:Prop}[Decidable p](h:p){a b:α}:(if ¬p then a else b)=b:=if_neg (fun k=>k h)
theorem kF{α:Type}{n:Int}(h:n=0){a b:α}:(if n≠0 then a else b)=b:=if_neg (fun k=>k h)
def jH(q:List Pt)(x:Pt):List Pt:=if q.getLast?=some x then q else q++[x]
def z6(q more:List Pt):List Pt:=more.foldl jH q
def z5(p:Pt)(s:Sg)(tol:Int):List Pt×Int:=if s.v=3 then uY p s.a s.b tol else if s.v=4 then uZ p s.a s.b s.c tol else ([s.a],0)
def kP(l:List Pt):Pt:=l.getLastD zp
def uk(p:Pl)(s:Sg)(tol:Int):Pl×Int:=
 if s.v=5 then (⟨kH p.pts,true⟩,0)
 else if (z5 (kP p.pts) s tol).2≠0 then (p,(z5 (kP p.pts) s tol).2)
 else (⟨z6 p.pts (z5 (kP p.pts) s tol).1,p.cl⟩,0)
def jw(tol:Int)(st:List Pl×Int)(s:Sg):List Pl×Int:=
 if st.2≠0 then ([],st.2)
 else if s.v=1 then (st.1++[⟨[s.a],false⟩],0)
 else if (uk (st.1.getLastD ⟨[],false⟩) s tol).2≠0 then ([],(uk (st.1.getLastD ⟨[],false⟩) s tol).2)
 else (st.1.dropLast++[(uk (st.1.getLastD ⟨[],false⟩) s tol).1],0)
theorem za6{tol:Int}{S:List Pl}{s:Sg}:jw tol (S,0) s=
  if s.v=1 then (S++[⟨[s.a],false⟩],0)
  else if (uk (S.getLastD ⟨[],false⟩) s tol).2≠0 then ([],(uk (S.getLastD ⟨[],false⟩) s tol).2)
  else (S.dropLast++[(uk (S.getLastD ⟨[],false⟩) s tol).1],0):=if_neg (fun k:(0:Int)≠0=>k rfl)
def k7(l:List Sg)(tol:Int):List Pl×Int:=l.foldl (jw tol) ([],0)
def qQ(l:List Pl):Nat:=(l.map fun p=>p.pts.length).sum
def zbY(tol:Int):Prop:=1<=tol/\tol<=256
instance (tol:Int):Decidable (zbY tol):=inferInstanceAs (Decidable (_/\_))
def zI(l:List Sg)(tol:Int):List Pl×Int:=
 if ¬qK l then ([],10) else if ¬zbY tol then ([],2) else if (k7 l tol).2≠0 then ([],(k7 l tol).2)
 else if 4096 < qQ (k7 l tol).1 then ([],5) else ((k7 l tol).1,0)
def inB(lo hi p:Pt):Prop:=(lo.x<=p.x/\p.x<=hi.x)/\(lo.y<=p.y/\p.y<=hi.y)
theorem zoi{a b lo hi:Int}(hb:0 < b)(h1:lo*b<=a)(h2:a<=hi*b):lo<=vY a b/\vY a b<=hi:=by
 unfold vY;constructor
 ·rw [Int.le_ediv_iff_mul_le oM];have:lo*(2*b)=2*(lo*b):=by grind
  omega
 ·have h3:(2*a+b) / (2*b) < hi+1:=by
   rw [Int.ediv_lt_iff_lt_mul oM];have:(hi+1)*(2*b)=2*(hi*b)+2*b:=by grind
   omega
  omega
theorem zur{i n a b c lo hi:Int}(hn:1<=n)(hi0:0<=i)(hin:i<=n)(ha:lo<=a/\a<=hi)(hb:lo<=b/\b<=hi)(hc:lo<=c/\c<=hi):lo<=q1 i n a b c/\q1 i n a b c<=hi:=by
 unfold q1;have w0:0<=(n - i)*(n - i):=Int.mul_nonneg oM oM;have w1:0<=2*i*(n - i):=Int.mul_nonneg oM oM;have w2:0<=i*i:=Int.mul_nonneg oM oM;have e:n*n=(n - i)*(n - i)+2*i*(n - i)+i*i:=by grind
 have g1:=Int.mul_nonneg w0 (show 0<=a - lo by omega);have g2:=Int.mul_nonneg w1 (show 0<=b - lo by omega);have g3:=Int.mul_nonneg w2 (show 0<=c - lo by omega);have g4:=Int.mul_nonneg w0 (show 0<=hi - a by omega);have g5:=Int.mul_nonneg w1 (show 0<=hi - b by omega);have g6:=Int.mul_nonneg w2 (show 0<=hi - c by omega);refine zoi (Int.mul_pos oM oM) ?_ ?_
 ·rw [e];grind
 ·rw [e];grind
theorem zus{i n a b c d lo hi:Int}(hn:1<=n)(hi0:0<=i)(hin:i<=n)(ha:lo<=a/\a<=hi)(hb:lo<=b/\b<=hi)(hc:lo<=c/\c<=hi)(hd:lo<=d/\d<=hi):
  lo<=c1 i n a b c d/\c1 i n a b c d<=hi:=by
 unfold c1;have w0:0<=(n - i)*(n - i)*(n - i):=Int.mul_nonneg (Int.mul_nonneg oM oM) oM;have w1:0<=3*i*(n - i)*(n - i):=Int.mul_nonneg (Int.mul_nonneg oM oM) oM;have w2:0<=3*i*i*(n - i):=Int.mul_nonneg (Int.mul_nonneg oM oM) oM;have w3:0<=i*i*i:=Int.mul_nonneg (Int.mul_nonneg oM oM) oM;have e:n*n*n=(n - i)*(n - i)*(n - i)+3*i*(n - i)*(n - i)+3*i*i*(n - i)+i*i*i:=by grind
 have g1:=Int.mul_nonneg w0 (show 0<=a - lo by omega);have g2:=Int.mul_nonneg w1 (show 0<=b - lo by omega);have g3:=Int.mul_nonneg w2 (show 0<=c - lo by omega);have g4:=Int.mul_nonneg w3 (show 0<=d - lo by omega);have k1:=Int.mul_nonneg w0 (show 0<=hi - a by omega);have k2:=Int.mul_nonneg w1 (show 0<=hi - b by omega);have k3:=Int.mul_nonneg w2 (show 0<=hi - c by omega);have k4:=Int.mul_nonneg w3 (show 0<=hi - d by omega);refine zoi (Int.mul_pos (Int.mul_pos oM oM) oM) ?_ ?_
 ·rw [e];grind
 ·rw [e];grind
theorem ze5(need tol:Int):∀(k n:Nat),1<=n->(jK need tol k n).2=0->1<=(jK need tol k n).1/\(jK need tol k n).1<=(n+k:Nat) - 1
 | 0,n,_,h=>by cases h
 | k+1,n,hn,h=>by
  unfold jK at h ⊢
  split
  ·exact ⟨by dsimp only;omega,by dsimp only;omega⟩
  ·rename_i c;rw [if_neg c] at h;have:=ze5 need tol k (n+1) oM h;omega
theorem jn{need tol:Int}{l:List Pt}(h:(kr need tol l).2=0):(1<=(kr need tol l).1/\(kr need tol l).1<=64)/\zbY tol/\(∀p∈l,zo p)/\kr need tol l=jK need tol 64 1:=by
 unfold kr at h ⊢
 by_cases h1:¬(1<=tol/\tol<=256)
 ·rw [if_pos h1] at h;exact absurd h dC
 rw [if_neg h1] at h ⊢
 by_cases h2:¬∀p∈l,zo p
 ·rw [if_pos h2] at h;exact absurd h dC
 rw [if_neg h2] at h ⊢;have:=ze5 need tol 64 1 dC h;exact ⟨oM,Decidable.not_not.1 h1,Decidable.not_not.1 h2,rfl⟩
theorem zlu{f:Int->Pt}{n:Nat}{p:Pt}(h:p∈vE f n):∃i:Nat,i < n/\p=f ((i:Int)+1):=by
 unfold vE at h;obtain ⟨i,hi,rfl⟩:=List.mem_map.1 h;exact ⟨i,List.mem_range.1 hi,rfl⟩
theorem zpv{lo hi a b c:Pt}{i n:Int}(hn:1<=n/\n<=64)(hi':0<=i/\i<=n)(ho:∀p∈[a,b,c],zo p)(h:∀p∈[a,b,c],inB lo hi p):inB lo hi (q9 a b c i n):=by
 unfold q9;rw [if_neg (fun k=>k ⟨ho,hn.1,hn.2,hi'.1,hi'.2⟩)];have ha:=h a (by simp);have hb:=h b (by simp);have hc:=h c (by simp);exact ⟨zur hn.1 hi'.1 hi'.2 ha.1 hb.1 hc.1,zur hn.1 hi'.1 hi'.2 ha.2 hb.2 hc.2⟩
theorem zpw{lo hi a b c d:Pt}{i n:Int}(hn:1<=n/\n<=64)(hi':0<=i/\i<=n)(ho:∀p∈[a,b,c,d],zo p)(h:∀p∈[a,b,c,d],inB lo hi p):inB lo hi (ja a b c d i n):=by
 unfold ja;rw [if_neg (fun k=>k ⟨ho,hn.1,hn.2,hi'.1,hi'.2⟩)];have ha:=h a (by simp);have hb:=h b (by simp);have hc:=h c (by simp);have hd:=h d (by simp);exact ⟨zus hn.1 hi'.1 hi'.2 ha.1 hb.1 hc.1 hd.1,zus hn.1 hi'.1 hi'.2 ha.2 hb.2 hc.2 hd.2⟩
theorem zrs{lo hi a b c:Pt}{tol:Int}(h0:(uY a b c tol).2=0)(h:∀p∈[a,b,c],inB lo hi p):∀p∈(uY a b c tol).1,inB lo hi p:=by
 unfold uY at h0 ⊢
 split
 ·intro p hp;cases hp
 rename_i h1;have h1:=Decidable.not_not.1 h1;have ok:=jn h1;intro p hp;obtain ⟨i,hi,rfl⟩:=zlu (show p∈vE (fun i=>q9 a b c i (qj a b c tol).1) (qj a b c tol).1.toNat from hp);unfold qj at hi ⊢;exact zpv (by unfold qj at*;omega) (by unfold qj at*;omega) ok.2.2.1 h
theorem zrt{lo hi a b c d:Pt}{tol:Int}(h0:(uZ a b c d tol).2=0)(h:∀p∈[a,b,c,d],inB lo hi p):∀p∈(uZ a b c d tol).1,inB lo hi p:=by
 unfold uZ at h0 ⊢
 split
 ·intro p hp;cases hp
 rename_i h1;have h1:=Decidable.not_not.1 h1;have ok:=jn h1;intro p hp;obtain ⟨i,hi,rfl⟩:=zlu (show p∈vE (fun i=>ja a b c d i (qk a b c d tol).1) (qk a b c d tol).1.toNat from hp);unfold qk at hi ⊢;exact zpw (by unfold qk at*;omega) (by unfold qk at*;omega) ok.2.2.1 h
theorem zlv{p:Pt}:zo p↔inB ⟨-1048576,-1048576⟩ ⟨1048576,1048576⟩ p:=Iff.rfl
theorem zgP:∀{l:List Pt} {x:Pt},jF l->l.getLast?≠some x->jF (l++[x])
 | [],x,_,_=>⟨fun _ h=>(by cases h),trivial⟩
 | [p],x,_,h=>⟨fun q hq e=>h (by cases hq;rw [e];rfl),⟨fun _ h=>(by cases h),trivial⟩⟩
 | p::q::r,x,h,hl=>⟨fun z hz=>h.1 z hz,zgP (l:=q::r) h.2 (by rwa [List.getLast?_cons_cons] at hl)⟩
theorem zpx{l:List Pt}(h:jF l)(x:Pt):jF (jH l x):=by
 unfold jH
 split
 ·exact h
 ·rename_i k;exact zgP h k
theorem zdb:∀(more:List Pt) {l:List Pt},jF l->jF (z6 l more)
 | [],_,h=>h
 | x::r,l,h=>zdb r (zpx h x)
theorem zgQ:∀{l:List Pt},jF l->jF l.dropLast
 | [],_=>trivial
 | [p],_=>trivial
 | [p,q],h=>⟨fun _ h=>(by cases h),trivial⟩
 | p::q::r::s,h=>⟨fun z hz=>h.1 z hz,zgQ (l:=q::r::s) h.2⟩
theorem zdc{l:List Pt}(h:jF l):jF (kH l):=by
 unfold kH;split
 ·exact zgQ h
 ·exact h
theorem ztk{l:List Pt}{x p:Pt}(h:p∈jH l x):p∈l∨p=x:=by
 unfold jH at h
 split at h
 ·exact .inl h
 ·simpa using h
theorem zgR:∀(more:List Pt) {l:List Pt} {p:Pt},p∈z6 l more->p∈l∨p∈more
 | [],_,_,h=>.inl h
 | x::r,l,p,h=>by
  rcases zgR r (l:=jH l x) h with h | h
  ·exact (ztk h).imp id fun e=>by rw [e];exact .head _
  ·exact .inr (.tail _ h)
theorem zlw{l:List Pt}{p:Pt}(h:p∈kH l):p∈l:=by
 unfold kH at h
 split at h
 ·exact List.dropLast_subset l h
 ·exact h
theorem zvj{l:List Pt}(x:Pt):jH l x≠[]:=by
 unfold jH;split
 ·rename_i h;intro e;rw [e] at h;cases h
 ·simp
theorem zjL:∀(more:List Pt) {l:List Pt},l≠[]->z6 l more≠[]
 | [],_,h=>h
 | x::r,l,_=>zjL r (zvj x)
theorem ztl{l:List Pt}(h:l≠[]):kH l≠[]:=by
 unfold kH;split
 ·rename_i k;intro e;have:l.dropLast.length=0:=by rw [e];rfl
  rw [List.length_dropLast] at this;omega
 ·exact h
theorem zlx(l:List Pt)(x:Pt):(jH l x).getLast?=some x:=by
 unfold jH;split
 ·assumption
 ·simp
theorem zik:∀(more:List Pt) (l:List Pt),more≠[]->(z6 l more).getLast?=more.getLast?
 | [],_,h=>absurd rfl h
 | [x],l,_=>zlx l x
 | x::y::r,l,_=>by
  show (z6 (jH l x) (y::r)).getLast?=_;rw [zik (y::r) _ (by simp),List.getLast?_cons_cons]
theorem zpy{l:List Pt}(h:jF l)(h1:1 < (kH l).length):(kH l).getLast?≠(kH l).head?:=by
 unfold kH at h1 ⊢
 split
 ·rename_i k;rw [if_pos k] at h1;rw [List.length_dropLast] at h1;intro e
  -- l=d++[z]
  obtain ⟨d,z,rfl⟩:∃d z,l=d++[z]:=⟨l.dropLast,l.getLast (by intro h;rw [h] at k;simp at k),(List.dropLast_concat_getLast _).symm⟩;rw [List.dropLast_concat] at e;simp at h1;obtain ⟨d',y,rfl⟩:∃d' y,d=d'++[y]:=⟨d.dropLast,d.getLast (by intro h;rw [h] at h1;simp at h1),(List.dropLast_concat_getLast _).symm⟩;have e1:(d'++[y]++[z]).head?=(d'++[y]).head?:=by cases d' <;> rfl
  rw [e1,← e] at k;have e2:=k.2;rw [List.getLast?_concat,List.getLast?_concat] at e2;have e3:z=y:=Option.some.inj e2;clear e e1 k h1 e2
  induction d' with
  | nil=>exact h.1 z rfl e3.symm
  | cons w d' ih=>exact ih h.2
 ·rename_i k;rw [if_neg k] at h1;intro e;exact k ⟨h1,e⟩
def InvP(lo hi:Pt)(S:List Pl)(last:Int):Prop:=
 (S=[]/\last=5∨∃cl p,S=cl++[p]/\(p.cl=true↔last=5))/\∀q∈S,q.pts≠[]/\jF q.pts/\∀z∈q.pts,inB lo hi z
theorem zil{l:List Pt}(h:l≠[]):kP l∈l:=by
 unfold kP;rw [List.getLastD_eq_getLast?,List.getLast?_eq_some_getLast h];exact List.getLast_mem h
theorem zmY{s:Sg}(h:s.v=1∨s.v=2):zD s=[s.a]:=by
 unfold zD
 rcases h with h | h <;> rw [h] <;> rfl
theorem zru{s:Sg}(h:s.v=3):zD s=[s.a,s.b]:=by unfold zD;rw [h];rfl
theorem zrv{s:Sg}(h:s.v=4):zD s=[s.a,s.b,s.c]:=by unfold zD;rw [h];rfl
theorem zvk{lo hi p:Pt}{s:Sg}{tol:Int}(he:0<=nm s.v)(h5:s.v≠5)(hp:inB lo hi p)(hs:∀q∈zD s,inB lo hi q)(h0:(z5 p s tol).2=0):∀q∈(z5 p s tol).1,inB lo hi q:=by
 unfold z5 at h0 ⊢
 rcases zev he with h | h | h | h | h
 ·rw [if_neg oM,if_neg oM] at h0 ⊢;intro q hq;rw [zmY (.inl h)] at hs;exact hs q hq
 ·rw [if_neg oM,if_neg oM] at h0 ⊢;intro q hq;rw [zmY (.inr h)] at hs;exact hs q hq
 ·rw [if_pos h] at h0 ⊢;rw [zru h] at hs
  exact zrs h0 fun q hq=>by
   cases hq with
   | head=>exact hp
   | tail _ hq=>exact hs q hq
 ·rw [if_neg oM,if_pos h] at h0 ⊢;rw [zrv h] at hs
  exact zrt h0 fun q hq=>by
   cases hq with
   | head=>exact hp
   | tail _ hq=>exact hs q hq
 ·exact absurd h h5
theorem zrw{lo hi:Pt}{S:List Pl}{last tol:Int}{x:Sg}(h:InvP lo hi S last)(he:qU last x=0)(hx:∀p∈zD x,inB lo hi p)(h0:(jw tol (S,0) x).2=0):InvP lo hi (jw tol (S,0) x).1 x.v:=by
 obtain ⟨e1,e2,e3⟩:=jv.1 he;rw [za6] at h0 ⊢
 by_cases h1:x.v=1
 ·rw [if_pos h1] at h0 ⊢;refine ⟨.inr ⟨S,_,rfl,⟨fun k=>(by cases k),fun k=>by omega⟩⟩,fun q hq=>?_⟩
  rcases List.mem_append.1 hq with hq | hq
  ·exact h.2 q hq
  ·have:=List.mem_singleton.1 hq;subst this;refine ⟨by simp,⟨fun _ h=>(by cases h),trivial⟩,fun z hz=>?_⟩;have:=List.mem_singleton.1 hz;subst this;exact hx _ (by rw [zmY (.inl h1)];exact .head _)
 rw [if_neg h1] at h0 ⊢;obtain ⟨hl,hv⟩:=e2.resolve_left h1;obtain ⟨cl,p,rfl,hc⟩:∃cl p,S=cl++[p]/\(p.cl=true↔last=5):=h.1.resolve_left (fun k=>hl k.2);have eg:(cl++[p]).getLastD ⟨[],false⟩=p:=by simp
 rw [eg] at h0 ⊢
 by_cases h2:(uk p x tol).2≠0
 ·rw [if_pos h2] at h0;exact absurd h0 h2
 rw [if_neg h2] at h0 ⊢;have h2:=Decidable.not_not.1 h2;obtain ⟨p1,p2,p3⟩:=h.2 p (by simp);rw [List.dropLast_concat]
 have hg:((uk p x tol).1.cl=true↔x.v=5)/\(uk p x tol).1.pts≠[]/\jF (uk p x tol).1.pts/\∀z∈(uk p x tol).1.pts,inB lo hi z:=by
  unfold uk at h2 ⊢
  by_cases h5:x.v=5
  ·rw [if_pos h5];exact ⟨⟨fun _=>h5,fun _=>rfl⟩,ztl p1,zdc p2,fun z hz=>p3 z (zlw hz)⟩
  rw [if_neg h5] at h2 ⊢
  by_cases h3:(z5 (kP p.pts) x tol).2≠0
  ·rw [if_pos h3] at h2;exact absurd h2 h3
  rw [if_neg h3] at h2 ⊢;have h3:=Decidable.not_not.1 h3;refine ⟨⟨fun k=>absurd (hc.1 k) hl,fun k=>absurd k h5⟩,zjL _ p1,zdb _ p2,fun z hz=>?_⟩
  rcases zgR _ hz with hz | hz
  ·exact p3 z hz
  ·exact zvk e1 h5 (p3 _ (zil p1)) hx h3 z hz
 refine ⟨.inr ⟨cl,_,rfl,hg.1⟩,fun q hq=>?_⟩
 rcases List.mem_append.1 hq with hq | hq
 ·exact h.2 q (List.mem_append_left _ hq)
 ·have:=List.mem_singleton.1 hq;subst this;exact hg.2
def zly(last:Int)(l:List Sg)(i:Nat):Int:=if i=0 then last else (l[i - 1]?.map Sg.v).getD 0
theorem zgS{last:Int}{l:List Sg}{i:Nat}{x:Sg}(h:l[i]? =some x):zly last l (i+1)=x.v:=by
 unfold zly;rw [if_neg oM,show i+1 - 1=i by omega,h];rfl
theorem zjM:∀{l:List Sg} {last:Int} {i:Nat} {x:Sg},oks last l->l[i]? =some x->qU (zly last l i) x=0
 | [],_,i,_,_,h=>by simp at h
 | s::r,last,0,x,h,hx=>by cases hx;exact h.1
 | s::r,last,i+1,x,h,hx=>by
  have hx:r[i]? =some x:=hx;have:=zjM h.2 hx
  cases i with
  | zero=>exact this
  | succ i=>exact this
theorem j9{l:List Sg}{tol:Int}{i:Nat}{x:Sg}(h:l[i]? =some x):k7 (l.take (i+1)) tol=jw tol (k7 (l.take i) tol) x:=by
 unfold k7;rw [List.take_add_one,h];simp [List.foldl_append]
theorem zlz{tol:Int}:∀(r:List Sg) {st:List Pl×Int},st.2≠0->r.foldl (jw tol) ([],st.2)=([],st.2)
 | [],_,_=>rfl
 | x::r,st,h=>by
  rw [List.foldl_cons];have:jw tol ([],st.2) x=([],st.2):=by unfold jw;rw [if_pos h]
  rw [this];exact zlz r (st:=st) h
theorem zrx{tol:Int}{st:List Pl×Int}{x:Sg}(h:(jw tol st x).2≠0):jw tol st x=([],(jw tol st x).2):=by
 unfold jw at h ⊢
 split
 ·rfl
 ·rename_i h0;rw [if_neg h0] at h
  split
  ·rename_i h1;rw [if_pos h1] at h;exact absurd rfl h
  ·rename_i h1;rw [if_neg h1] at h
   split
   ·rfl
   ·rename_i h2;rw [if_neg h2] at h;exact absurd rfl h
theorem zim{l:List Sg}{tol:Int}{i:Nat}{x:Sg}(hx:l[i]? =some x)(h:(k7 (l.take (i+1)) tol).2≠0):k7 l tol=([],(k7 (l.take (i+1)) tol).2):=by
 have e:k7 l tol=(l.drop (i+1)).foldl (jw tol) (k7 (l.take (i+1)) tol):=by
  unfold k7;rw [← List.foldl_append,List.take_append_drop]
 rw [e];rw [j9 hx] at h ⊢;rw [zrx h];exact zlz _ (st:=jw tol (k7 (l.take i) tol) x) h
theorem zd0{lo hi:Pt}{l:List Sg}{tol:Int}(hv:oks 5 l)(hb:∀p∈zY l,inB lo hi p):∀i,i<=l.length->(k7 (l.take i) tol).2=0->InvP lo hi (k7 (l.take i) tol).1 (zly 5 l i)
 | 0,_,_=>⟨.inl ⟨rfl,rfl⟩,fun q hq=>(by cases hq)⟩
 | i+1,hi',h=>by
  have hx:l[i]? =some l[i]:=List.getElem?_eq_getElem oM;rw [j9 hx] at h ⊢
  by_cases h0:(k7 (l.take i) tol).2=0
  ·have ih:=zd0 hv hb i oM h0;rw [zgS hx];have e:k7 (l.take i) tol=((k7 (l.take i) tol).1,0):=by rw [← h0]
   rw [e] at h ⊢;exact zrw ih (zjM hv hx) (fun p hp=>hb p (List.mem_flatMap.2 ⟨_,List.getElem_mem _,hp⟩)) h
  ·unfold jw at h;rw [if_pos h0] at h;exact absurd h h0
def qz(d:List Int)(i:Nat):Int:=256*(d.take i).sum
def yJ(d:List Int):Int:=256*d.sum
def ze6:List Int->Int->Nat->Nat×Int
 | [],_,_=>(0,0)
 | e::r,k,i=>if k < 256*e then (i,256*e - k) else ze6 r (k - 256*e) (i+1)
def phD(pen:Pen)(t:Int):Int:=(t % yJ pen.d+(256*pen.ph) % yJ pen.d) % yJ pen.d
def onD(pen:Pen)(t:Nat):Prop:=(ze6 pen.d (phD pen t) 0).1 % 2=0
instance (pen:Pen) (t:Nat):Decidable (onD pen t):=inferInstanceAs (Decidable (_=_))
theorem uG(d:List Int):qz d d.length=yJ d:=by unfold qz yJ;rw [List.take_length]
theorem um{d:List Int}{i:Nat}{e:Int}(h:d[i]? =some e):qz d (i+1)=qz d i+256*e:=by
 unfold qz;rw [List.take_add_one,h];simp [Int.mul_add]
theorem un(d:List Int):qz d 0=0:=rfl
theorem zgT:∀{d:List Int},(∀n∈d,0<=n)->0<=d.sum
 | [],_=>dC
 | e::r,h=>by
  rw [List.sum_cons];have:=h e (.head _);have:=zgT (d:=r) fun n hn=>h n (.tail _ hn)
  omega
theorem zry:∀{d:List Int},(∀n∈d,n<=1048576)->d.sum<=1048576*(d.length:Int)
 | [],_=>dC
 | e::r,h=>by
  rw [List.sum_cons,List.length_cons];have:=h e (.head _);have:=zry (d:=r) fun n hn=>h n (.tail _ hn)
  omega
theorem zeB{d:List Int}(h:∀n∈d,0<=n){i j:Nat}(hij:i<=j):qz d i<=qz d j:=by
 unfold qz
 have e:d.take j=d.take i++(d.take j).drop i:=by
  have:=(List.take_append_drop i (d.take j)).symm
  rwa [List.take_take,Nat.min_eq_left hij] at this
 rw [e,List.sum_append];have:=zgT (d:=(d.take j).drop i) fun n hn=>h n (List.mem_of_mem_take (List.mem_of_mem_drop hn))
 omega
theorem zfz:∀{d:List Int} {i i0:Nat} {k e:Int},(∀n∈d,0<=n)->d[i]? =some e->qz d i<=k->k < qz d i+256*e->ze6 d k i0=(i0+i,qz d i+256*e - k)
 | [],i,_,_,_,_,h,_,_=>by simp at h
 | a::r,0,i0,k,e,hn,h,h1,h2=>by
  cases h
  rw [un] at*;unfold ze6;rw [if_pos oM];simp
 | a::r,i+1,i0,k,e,hn,h,h1,h2=>by
  have h:r[i]? =some e:=h;have e1:qz (a::r) (i+1)=256*a+qz r i:=by unfold qz;rw [List.take_succ_cons,List.sum_cons,Int.mul_add]
  have hm:=zeB (d:=r) (fun n hn'=>hn n (.tail _ hn')) (Nat.zero_le i);rw [un] at hm;rw [e1] at h1 h2 ⊢;unfold ze6;rw [if_neg oM,zfz (fun n hn'=>hn n (.tail _ hn')) h oM oM];exact Prod.ext (by dsimp only;omega) (by dsimp only;omega)
theorem zoj:∀{d:List Int} {k:Int},(∀n∈d,0<=n)->0<=k->k < yJ d->∃i e,d[i]? =some e/\qz d i<=k/\k < qz d i+256*e
 | [],k,_,h0,h=>by unfold yJ at h;simp at h;omega
 | a::r,k,hn,h0,h=>by
  by_cases c:k < 256*a
  ·exact ⟨0,a,rfl,h0,by rw [un];omega⟩
  ·have e1:yJ (a::r)=256*a+yJ r:=by unfold yJ;rw [List.sum_cons,Int.mul_add]
   obtain ⟨i,e,g1,g2,g3⟩:=zoj (d:=r) (k:=k - 256*a) (fun n hn'=>hn n (.tail _ hn')) oM oM;have e2:qz (a::r) (i+1)=256*a+qz r i:=by unfold qz;rw [List.take_succ_cons,List.sum_cons,Int.mul_add]
   exact ⟨i+1,e,g1,oM,oM⟩
def qp(on:Nat->Prop)[DecidablePred on]:Nat->List (Nat×Nat)×Option Nat
 | 0=>([],none)
 | t+1=>if on t then ((qp on t).1,some ((qp on t).2.getD t)) else ((qp on t).1++((qp on t).2.map fun f=>(f,t)).toList,none)
def zd1(on:Nat->Prop)[DecidablePred on](t:Nat):List (Nat×Nat):=(qp on t).1++((qp on t).2.map fun f=>(f,t)).toList
section
variable {on:Nat->Prop} [DecidablePred on]
theorem vf(t:Nat):qp on (t+1)=if on t then ((qp on t).1,some ((qp on t).2.getD t)) else ((qp on t).1++((qp on t).2.map fun f=>(f,t)).toList,none):=rfl
theorem zvl{a b:Nat}(hab:a < b)(h:∀t,a<=t->t < b->on t):qp on b=((qp on a).1,some ((qp on a).2.getD a)):=by
 obtain ⟨k,rfl⟩:∃k,b=a+1+k:=⟨b - a - 1,oM⟩
 induction k with
 | zero=>rw [show a+1+0=a+1 from rfl,vf,if_pos (h a (Nat.le_refl _) oM)]
 | succ k ih=>
  rw [show a+1+(k+1)=(a+1+k)+1 from rfl,vf,if_pos (h _ oM oM),ih oM fun t h1 h2=>h t h1 oM];rfl
theorem ztm{a b:Nat}(hab:a < b)(h:∀t,a<=t->t < b->¬on t):qp on b=(zd1 on a,none):=by
 obtain ⟨k,rfl⟩:∃k,b=a+1+k:=⟨b - a - 1,oM⟩
 induction k with
 | zero=>rw [show a+1+0=a+1 from rfl,vf,if_neg (h a (Nat.le_refl _) oM)];rfl
 | succ k ih=>
  rw [show a+1+(k+1)=(a+1+k)+1 from rfl,vf,if_neg (h _ oM oM),ih oM fun t h1 h2=>h t h1 oM];exact Prod.ext (List.append_nil _) rfl
theorem zlA{a:Nat}:∀k,∃r,(qp on (a+k)).1=(qp on a).1++r
 | 0=>⟨[],by simp⟩
 | k+1=>by
  obtain ⟨r,hr⟩:=zlA (a:=a) k;rw [show a+(k+1)=(a+k)+1 from rfl,vf]
  split
  ·exact ⟨r,hr⟩
  ·exact ⟨r++_,by rw [← List.append_assoc,← hr]⟩
theorem zrz{a b:Nat}(hab:a<=b):∃r,zd1 on b=(qp on a).1++r:=by
 obtain ⟨k,rfl⟩:∃k,b=a+k:=⟨b - a,oM⟩;obtain ⟨r,hr⟩:=zlA (on:=on) (a:=a) k;exact ⟨r++_,by unfold zd1;rw [hr,List.append_assoc]⟩
theorem zin:∀t,(∀q∈(qp on t).1,q.1 < q.2/\q.2 < t)/\∀f,(qp on t).2=some f->f < t
 | 0=>⟨fun q hq=>(by cases hq),fun f h=>(by cases h)⟩
 | t+1=>by
  have ih:=zin t;rw [vf]
  split
  ·refine ⟨fun q hq=>⟨(ih.1 q hq).1,by have:=(ih.1 q hq).2;omega⟩,fun f hf=>?_⟩;have hf:=Option.some.inj hf
   cases ho:(qp on t).2 with
   | none=>rw [ho] at hf;simp at hf;omega
   | some f'=>rw [ho] at hf;simp at hf;have:=ih.2 f' ho;omega
  ·refine ⟨fun q hq=>?_,fun f hf=>by cases hf⟩
   rcases List.mem_append.1 hq with hq | hq
   ·exact ⟨(ih.1 q hq).1,by have:=(ih.1 q hq).2;omega⟩
   ·cases ho:(qp on t).2 with
    | none=>rw [ho] at hq;cases hq
    | some f'=>
     rw [ho] at hq;have:=List.mem_singleton.1 hq;subst this;exact ⟨ih.2 f' ho,by dsimp only;omega⟩
theorem zmZ{t:Nat}:∀q∈zd1 on t,q.1 < q.2/\q.2<=t:=fun q hq=>by
 have h:=zin (on:=on) t
 rcases List.mem_append.1 hq with hq | hq
 ·exact ⟨(h.1 q hq).1,by have:=(h.1 q hq).2;omega⟩
 ·cases ho:(qp on t).2 with
  | none=>rw [ho] at hq;cases hq
  | some f'=>
   rw [ho] at hq;have:=List.mem_singleton.1 hq;subst this;exact ⟨h.2 f' ho,Nat.le_refl _⟩
theorem zwp:∀t f,(qp on t).2=some f->∀q∈(qp on t).1,q.2 < f
 | 0,f,h=>by cases h
 | t+1,f,h=>by
  rw [vf] at h ⊢
  split at h
  ·rename_i c;rw [if_pos c];have h:=Option.some.inj h;intro q hq
   cases ho:(qp on t).2 with
   | none=>rw [ho] at h;have:=((zin (on:=on) t).1 q hq).2;simp at h;omega
   | some f'=>rw [ho] at h;simp at h;subst h;exact zwp t f' ho q hq
  ·cases h
theorem zxs{t:Nat}{q:Nat×Nat}(hq:q∈zd1 on t)(h1:q.1=0)(h2:q.2=t):zd1 on t=[q]:=by
 rcases List.mem_append.1 hq with hm | hm
 ·have:=((zin (on:=on) t).1 q hm).2;omega
 ·unfold zd1
  cases ho:(qp on t).2 with
  | none=>rw [ho] at hm;cases hm
  | some f=>
   rw [ho] at hm;have e:=List.mem_singleton.1 hm
   have e0:(qp on t).1=[]:=by
    cases hc:(qp on t).1 with
    | nil=>rfl
    | cons a r=>
     have h3:=zwp t f ho a (by rw [hc];exact .head _);rw [e] at h1;have h1:f=0:=h1;omega
   rw [e0,e];rfl
end
def drawn(d:List Int):Int:=256*((List.range d.length).map fun i=>if i % 2=0 then d.getD i 0 else 0).sum
def qh(pen:Pen)(long:Int):List (Nat×Nat):=
 if ¬k8 pen∨long < 1∨(0 < yJ pen.d/\drawn pen.d=0) then []
 else if yJ pen.d=drawn pen.d then [(0,long.toNat)] else zd1 (onD pen) long.toNat
def zjN(a b:Pt):Int:=zqX (zv1 b a)
def qE(p:Pl):List Pt:=if p.cl=true/\2<=(zE p).pts.length then (zE p).pts++[nth (zE p).pts 0] else (zE p).pts
def atS(c:List Pt):Nat->Int
 | 0=>0
 | i+1=>atS c i+zjN (nth c i) (nth c (i+1))
def qf(p:Pl):Int:=atS (qE p) ((qE p).length - 1)
def zd2(c:List Pt)(x:Int):Nat->Nat
 | 0=>0
 | i+1=>if x < atS c (i+1) then zd2 c x i else i+1
def zd3(c:List Pt)(x:Int):Pt:=
 let i:=zd2 c x (c.length - 2)
 zeY (nth c i) (nth c (i+1)) (x - atS c i) (atS c (i+1) - atS c i)
def zio(c:List Pt)(f t:Int)(n:Nat):List Pt:=((List.range n).filter fun i=>decide (f < atS c i/\atS c i < t)).map (nth c)
def zbq(c:List Pt)(f t:Int):List Pt:=z6 [] ([zd3 c f]++zio c f t (c.length - 1)++[zd3 c t])
def ya(p:Pl)(q:Nat×Nat):Pl:=if p.cl=true/\q.1=0/\(q.2:Int)=qf p then zE p else ⟨zbq (qE p) q.1 q.2,false⟩
def jt(p:Pl)(pen:Pen):List Pl×Int:=
 if ¬k8 pen then ([],13) else if ¬∀q∈p.pts,zo q then ([],6) else if 4096 < p.pts.length then ([],5)
 else if pen.d=[] then ([zE p],0)
 else if 4096 < qQ ((qh pen (qf p)).map (ya p)) then ([],5) else ((qh pen (qf p)).map (ya p),0)
end Go.Gs
