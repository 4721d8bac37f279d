/- The offset of a stroke, both texts. -/
import Derived.Test.YtkngjacccoklaaaGreatDoorMA
import Derived.Test.YtkngjacccoklaaaGreatDoorMAQ
import Derived.Test.YtkngjacccoklaaaGreatDoorMAP
set_option maxRecDepth 100000
set_option maxHeartbeats 8000000
set_option linter.all false
namespace Go.Gs
open Go.Proofs
abbrev S50(n:Int):Prop:= -1125899906842624<=n/\n<=1125899906842624
def zko(p q:Pt)(hp:S50 p.x/\S50 p.y)(hq:S50 q.x/\S50 q.y):CG0 405 [.agg (ptE p),.agg (ptE q)] [] (.agg (ptE (zn p q))) []:=by
 refine zc Tryz.func405 ?_;(iterate 2 refine Ar.o ?_);exact .refl
def zfw(p q:Pt)(hp:S50 p.x/\S50 p.y)(hq:S50 q.x/\S50 q.y):CG0 406 [.agg (ptE p),.agg (ptE q)] [] (.agg (ptE (zA p q))) []:=by
 refine zc Tryz.func406 ?_;(iterate 2 refine Ar.o ?_);exact .refl
def zhD(p q:Pt)(hp:S50 p.x/\S50 p.y)(hq:S50 q.x/\S50 q.y):CG0 422 [.agg (ptE p),.agg (ptE q)] [] (.agg (ptE (zn p q))) []:=by
 refine zc Tryz.func422 ?_;(iterate 2 refine Ar.o ?_);exact .refl
def zfx(p q:Pt)(hp:S50 p.x/\S50 p.y)(hq:S50 q.x/\S50 q.y):CG0 424 [.agg (ptE p),.agg (ptE q)] [] (.agg (ptE (zA p q))) []:=by
 refine zc Tryz.func424 ?_;(iterate 2 refine Ar.o ?_);exact .refl
def zhE{v:Pt}{w:Int}(hw:ki w)(hx:¬zbs v.x)(hy:¬zbs v.y):
  (0<=v.x*v.x/\v.x*v.x<=4398046511104)/\(0<=v.y*v.y/\v.y*v.y<=4398046511104)/\
  (-34359738368<=v.x*w/\v.x*w<=34359738368)/\(-34359738368<= -v.y*w/\ -v.y*w<=34359738368)/\
  (0<=isq (65536*(v.x*v.x+v.y*v.y))/\isq (65536*(v.x*v.x+v.y*v.y))<4294967296):=by
 unfold zbs at hx hy;unfold ki at hw;have h1:=ju (A:=2097152) (B:=2097152) (a:=v.x) (b:=v.x) oM oM;have h2:=ju (A:=2097152) (B:=2097152) (a:=v.y) (b:=v.y) oM oM;have h3:=ju (A:=2097152) (B:=16384) (a:=v.x) (b:=w) oM oM;have h4:=ju (A:=2097152) (B:=16384) (a:= -v.y) (b:=w) oM oM;have h5:=ja v.x;have h6:=ja v.y;have h7:=zgr (n:=65536*(v.x*v.x+v.y*v.y)) oM oM;have h8:=zxJ (n:=65536*(v.x*v.x+v.y*v.y)) oM oM;exact⟨oM,oM,oM,oM,h7.1,h8⟩
def zaW(v:Pt)(w:Int):(-4398046511104<=(z5 v w).x/\(z5 v w).x<=4398046511104)/\(-4398046511104<=(z5 v w).y/\(z5 v w).y<=4398046511104):=by
 unfold z5
 split
 ·exact⟨⟨dC,dC⟩,⟨dC,dC⟩⟩
 rename_i h;rw[not_or,not_or,not_or]at h;have hf:=zhE (Xa.1 h.1) h.2.1 h.2.2.1;exact⟨uY (M:=4398046511104) oM,uY (M:=4398046511104) oM⟩
def zkp(v:Pt)(w:Int):CG0 451 [.agg (ptE v),i64 w] [] (.agg (ptE (z5 v w))) []:=by
 refine zc Tryz.func451 ?_
 have bad:(¬ki w∨zbs v.x∨zbs v.y∨v=zp)->LE (.agg (ptE zp)) (.agg (ptE (z5 v w))):=λh=>by
  unfold z5;rw[Xe h];exact .refl
 refine zb.t (vO w)<|⟨λa1=>bad (.inl a1),λa1=>?_⟩;refine zb.t (zCt v.x)<|⟨λa2=>bad (.inr (.inl a2)),λa2=>?_⟩;refine zb.t (zCt v.y)<|⟨λa3=>bad (.inr (.inr (.inl a3))),λa3=>?_⟩;refine⟨λa4=>bad (.inr (.inr (.inr (qi.1 a4)))),λa4=>?_⟩;have a1:=Xa.1 a1;have hf:=zhE a1 a2 a3;have a4:¬v=zp:=λh=>a4 (qi.2 h)
 (iterate 5 refine Ar.o ?_);refine zb.t (zxL (65536*(v.x*v.x+v.y*v.y)) oM)<|Ar.o<|Dr.k ?_;unfold ki at a1;unfold zbs at a2 a3;(iterate 3 refine Ar.o ?_);refine zb.t (uV (-v.y*w*128) (isq (65536*(v.x*v.x+v.y*v.y))) ⟨oM,oM⟩ ⟨oM,oM⟩) ?_;rw[uK oM];(iterate 2 refine Ar.o ?_);refine zb.t (uV (v.x*w*128) (isq (65536*(v.x*v.x+v.y*v.y))) ⟨oM,oM⟩ ⟨oM,oM⟩) ?_;rw[uK oM];unfold z5
 rw[Xc (by unfold ki zbs;intro h;rcases h with h|h|h|h <;> first|exact a4 h|omega)];exact .refl
def zgx(v:Pt)(w:Int):CG0 421 [.agg (ptE v),i64 w] [] (.agg (ptE (z5 v w))) []:=by
 refine zc Tryz.func421 ?_
 have bad:(¬ki w∨zbs v.x∨zbs v.y∨v=zp)->LE (.agg (ptE zp)) (.agg (ptE (z5 v w))):=λh=>by
  unfold z5;rw[Xe h];exact .refl
 have far:∀n:Int,¬(-2097152<=n/\n<=2097152)->zbs n:=λn h=>by unfold zbs;omega
 refine zb.t (zob w)<|⟨λa1=>bad (.inl a1),λa1=>?_⟩;refine zb.t (zag v.x (-2097152) 2097152)<|⟨λa2=>bad (.inr (.inl (far _ a2))),λa2=>?_⟩;refine zb.t (zag v.y (-2097152) 2097152)<|⟨λa3=>bad (.inr (.inr (.inl (far _ a3)))),λa3=>?_⟩;have a1:=Xa.1 a1;have b2:¬zbs v.x:=by unfold zbs;omega
 have b3:¬zbs v.y:=by unfold zbs;omega
 have hf:=zhE a1 b2 b3;(iterate 5 refine Ar.o ?_);refine zb.t (ztH (65536*(v.x*v.x+v.y*v.y)) oM)<|Ar.o<|Dr.k ?_;(iterate 3 refine Ar.o ?_);refine zb.t (uc (-v.y*w*128) (isq (65536*(v.x*v.x+v.y*v.y))) ⟨oM,oM⟩ ⟨oM,oM⟩) ?_;rw[uK oM];(iterate 2 refine Ar.o ?_);refine zb.t (uc (v.x*w*128) (isq (65536*(v.x*v.x+v.y*v.y))) ⟨oM,oM⟩ ⟨oM,oM⟩) ?_;rw[uK oM]
 by_cases a4:v=zp
 ·have e1:z6 (-v.y*w*128) (isq (65536*(v.x*v.x+v.y*v.y)))=0:=by
   rw[a4,show-zp.y*w*128=0 by show(-0:Int)*w*128=0;simp];exact zmk
  have e2:z6 (v.x*w*128) (isq (65536*(v.x*v.x+v.y*v.y)))=0:=by
   rw[a4,show zp.x*w*128=0 by show(0:Int)*w*128=0;simp];exact zmk
  rw[e1,e2];exact bad (.inr (.inr (.inr a4)))
 unfold z5;rw[Xc (by intro h;rcases h with h|h|h|h <;> first|exact a4 h|exact h a1|exact b2 h|exact b3 h)];exact .refl
structure Pl where
 pts:List Pt
 cl:Bool
def plE(q:Pl):List SV:=[.sl ptE q.pts,pr (q.cl=true)]
def zk(r:List Pt):List SV:=[.sl ptE r]
def qU:List Pt->List Pt
 |[]=>[]
 |p::r=>match r with
  |[]=>[p]
  |q::_=>if p=q then qU r else p::qU r
def qf(l:List Pt):List Pt:=if 1<l.length/\l.getLast?=l.head? then l.dropLast else l
def zt(p:Pl):Pl:=⟨if p.cl then qf (qU p.pts) else qU p.pts,p.cl⟩
def jA:List Pt->Prop
 |[]=>True
 |p::r=>(∀q,r.head?=some q->p≠q)/\jA r
def zkq:∀l:List Pt,(qU l).head?=l.head?
 |[]=>rfl
 |[p]=>rfl
 |p::q::r=>by
  unfold qU;dsimp only
  split
  ·rename_i h;rw[zkq (q::r),h];rfl
  rfl
def ue:∀l:List Pt,jA (qU l)
 |[]=>trivial
 |[p]=>⟨λ_ h=>(by cases h),trivial⟩
 |p::q::r=>by
  unfold qU;dsimp only
  split
  ·exact ue (q::r)
  rename_i h;refine⟨λz hz=>?_,ue (q::r)⟩;rw[zkq]at hz
  cases hz
  exact h
def zez:∀{l:List Pt} {p:Pt},p∈qU l->p∈l
 |[],_,h=>h
 |[q],_,h=>h
 |a::q::r,p,h=>by
  unfold qU at h;dsimp only at h
  split at h
  ·exact .tail _ (zez h)
  cases h with
  |head=>exact .head _
  |tail _ h=>exact .tail _ (zez h)
def nth(l:List Pt)(i:Nat):Pt:=l.getD i zp
def kX(p:Pl)(pen:Pen):List (List Pt):=
 ((List.range (p.pts.length-1)).flatMap λi=>kN (jT (nth p.pts i) (nth p.pts (i+1)) pen.w))++
 (if p.cl/\1<p.pts.length then kN (jT (nth p.pts (p.pts.length-1)) (nth p.pts 0) pen.w) else[])
def jc(p:Pl)(pen:Pen):List (List Pt):=
 if p.pts.length<=1 then[] else
 (List.range p.pts.length).flatMap λi=>if¬p.cl=true/\(i=0∨i=p.pts.length-1) then[]
  else qY (nth p.pts ((i+p.pts.length-1)%p.pts.length)) (nth p.pts i) (nth p.pts ((i+1)%p.pts.length)) pen
def y4(a b:Pt)(pen:Pen):List Pt:=if pen.c=5 then zkj a b pen.w else if pen.c=3 then vF b pen.w else[]
def zbh(p:Pt)(pen:Pen):List Pt:=if pen.c=5 then zdK p pen.w else if pen.c=3 then vF p pen.w else[]
def zdP(p:Pl)(pen:Pen):List (List Pt):=
 if p.pts.length=1 then kN (zbh (nth p.pts 0) pen)
 else if 1<p.pts.length/\¬p.cl=true then kN (y4 (nth p.pts 1) (nth p.pts 0) pen)++kN (y4 (nth p.pts (p.pts.length-2)) (nth p.pts (p.pts.length-1)) pen) else[]
def ku(p:Pl)(pen:Pen):List (List Pt):=kX p pen++jc p pen++zdP p pen
def qb(l:List (List Pt)):Nat:=(l.map List.length).sum
def kz(p:Pl)(pen:Pen):List (List Pt)×Int:=
 if¬kC pen then([],13) else if¬∀q∈p.pts,zr q then([],6) else if 4096<p.pts.length then([],5)
 else if¬∀r∈ku (zt p) pen,∀q∈r,zr q then([],6) else if 4096<qb (ku (zt p) pen) then([],5) else(ku (zt p) pen,0)
def qk:List Pl->Pen->List (List Pt)×Int
 |[],_=>([],0)
 |p::r,pen=>if (kz p pen).2≠0 then([],(kz p pen).2)
  else if (qk r pen).2≠0 then([],(qk r pen).2) else((kz p pen).1++(qk r pen).1,0)
def qo(l:List Pl)(pen:Pen):List (List Pt)×Int:=
 if¬kC pen then([],13) else if (qk l pen).2≠0 then([],(qk l pen).2) else if 4096<qb (qk l pen).1 then([],5) else((qk l pen).1,0)
def yl(a b c:Pt):Int:=(a.x-2*b.x+c.x)*(a.x-2*b.x+c.x)+(a.y-2*b.y+c.y)*(a.y-2*b.y+c.y)
def enough(need tol:Int)(n:Nat):Prop:=need<=16*n*n*n*n*tol*tol
instance (need tol:Int) (n:Nat):Decidable (enough need tol n):=inferInstanceAs (Decidable (_<=_))
def yC(need tol:Int):Nat->Nat->Int×Int
 |0,_=>(0,11)
 |k+1,n=>if enough need tol n then(n,0) else yC need tol k (n+1)
def kY(need tol:Int)(l:List Pt):Int×Int:=if¬(1<=tol/\tol<=256) then(0,2) else if¬∀p∈l,zr p then(0,6) else yC need tol 64 1
def jU(a b c:Pt)(tol:Int):Int×Int:=kY (yl a b c) tol [a,b,c]
def jV(a b c d:Pt)(tol:Int):Int×Int:=kY (9*max (yl a b c) (yl b c d)) tol [a,b,c,d]
def zqa(l:List Pt)(i n:Int):Prop:=(∀p∈l,zr p)/\1<=n/\n<=64/\0<=i/\i<=n
instance (l:List Pt) (i n:Int):Decidable (zqa l i n):=inferInstanceAs (Decidable (_/\_))
def q1(i n a b c:Int):Int:=zdJ ((n-i)*(n-i)*a+2*i*(n-i)*b+i*i*c) (n*n)
def yU(a b c:Pt)(i n:Int):Pt:=if¬zqa [a,b,c] i n then zp else⟨q1 i n a.x b.x c.x,q1 i n a.y b.y c.y⟩
def c1(i n a b c d:Int):Int:=zdJ ((n-i)*(n-i)*(n-i)*a+3*i*(n-i)*(n-i)*b+3*i*i*(n-i)*c+i*i*i*d) (n*n*n)
def yV(a b c d:Pt)(i n:Int):Pt:=if¬zqa [a,b,c,d] i n then zp else⟨c1 i n a.x b.x c.x d.x,c1 i n a.y b.y c.y d.y⟩
def zcc(f:Int->Pt)(n:Nat):List Pt:=(List.range n).map λ(i:Nat)=>f ((i:Int)+1)
def zc5(a b c:Pt)(tol:Int):List Pt×Int:=if (jU a b c tol).2≠0 then([],(jU a b c tol).2) else(zcc (λi=>yU a b c i (jU a b c tol).1) (jU a b c tol).1.toNat,0)
def zc6(a b c d:Pt)(tol:Int):List Pt×Int:=if (jV a b c d tol).2≠0 then([],(jV a b c d tol).2) else(zcc (λi=>yV a b c d i (jV a b c d tol).1) (jV a b c d tol).1.toNat,0)
def kL(rs:List (List Pt)):Prop:=(qb rs:Int)<=4096/\∀r∈rs,∀p∈r,zr p
instance (rs:List (List Pt)):Decidable (kL rs):=inferInstanceAs (Decidable (_/\_))
def zeA(r:List Pt):kL [r]↔zn9 r:=by
 unfold kL zn9 qb;simp
def zis(xs:List Pt):Int:=match xs.findIdx? (λp=>decide (¬zr p)) with
 |some i=>i
 |none=> -1
def zqb{xs:List Pt}{i:Nat}{p:Pt}(h:∀(j:Nat) q,j<i->xs[j]?=some q->zr q)(hi:xs[i]?=some p)(hp:¬zr p):zis xs=i:=by
 have:xs.findIdx? (λp=>decide (¬zr p))=some i:=by
  rw[KH];obtain⟨hl,he⟩:=Xd.1 hi;refine⟨hl,by simp[he,hp],λj hj=>?_⟩;have:=h j xs[j] hj (Xb _);simp[this]
 simp only[zis,this]
variable{xs:List Pt}
def zfy(h:∀p∈xs,zr p):zis xs= -1:=by
 have:xs.findIdx? (λp=>decide (¬zr p))=none:=by
  rw[Ku];intro p hp;simp[h p hp]
 simp only[zis,this]
def zgy:0<=zis xs↔¬∀p∈xs,zr p:=by
 constructor
 ·intro h hall;rw[zfy hall]at h;omega
 intro h;unfold zis
 split
 ·omega
 rename_i hn;rw[Ku]at hn;exact absurd (λp hp=>by simpa using hn p hp) h
def zxX(p:Pt):CG0 119 [.agg (ptE p)] [] (pr (¬zr p)) []:=by
 refine zc Tryz.func119 ?_;exact zb.t (k8 p)<|zE K7
def zAK(xs:List Pt):CG0 178 [.sl ptE xs,.fn 119 []] [] (i64 (zis xs)) []:=by
 refine zc Tryz.func178 ?_;intro hl0;refine⟨Int,λi=>⟨[(8,i64 i),(7,i64 xs.length),(0,.sl ptE xs),(1,.fn 119 [])],[],0,19,0⟩,λi=>0<=i/\i<=xs.length/\∀(j:Nat) q,(j:Int)<i->xs[j]?=some q->zr q,λi=>((xs.length:Int)-i).toNat,0,?_,?_,?_⟩
 ·exact⟨oM,oM,λj q hj=>by omega⟩
 ·exact zC []
 rintro i ⟨h1,h2,h3⟩
 refine⟨λh4=>?_,λh4=>?_⟩
 ·refine Ob.o ?_;intro x hx;refine zb.t (zxX x)<|⟨λh5=>?_,λh5=>?_⟩
  ·refine ze ?_;rw[zqb (i:=i.toNat) (λj q hj=>h3 j q oM) hx h5];omega
  refine Ar.o<|⟨i+1,⟨oM,oM,λj q hj hq=>?_⟩,zC [],by dsimp only;omega⟩
  by_cases e:j=i.toNat
  ·subst e;rw[hx]at hq;cases hq;exact Xa.1 h5
  exact h3 j q oM hq
 refine ze (zfy λp hp=>?_).symm;obtain⟨j,hj,he⟩:=Kl hp;exact h3 j p oM (by rw[←he];exact Xb hj)
def zsj(xs:List Pt):CG0 118 [.sl ptE xs,.fn 119 []] [] (pr (¬∀p∈xs,zr p)) []:=by
 refine zc Tryz.func118 ?_;exact zb.t (zAK xs)<|zE zgy
def vd{rs:List (List Pt)}{i:Nat}{r:List Pt}(h:rs[i]?=some r):qb (rs.take (i+1))=qb (rs.take i)+r.length:=by
 unfold qb;rw[Xl,h];simp
def v7(rs:List (List Pt))(i:Nat):qb (rs.take i)<=qb rs:=by
 unfold qb
 conv=>rhs;rw[←Kj i rs]
 rw[XB,QM];omega
variable{i:Nat}{r:List Pt}
def zcN{rs:List (List Pt)}(h:rs[i]?=some r)(ha:∀q∈rs.take i,∀p∈q,zr p)(hr:∀p∈r,zr p):∀q∈rs.take (i+1),∀p∈q,zr p:=by
 rw[Xl,h];intro q hq
 rcases Xs.1 hq with hq|hq
 ·exact ha q hq
 rw[Qt,Xv]at hq;exact hq ▸ hr
def zgz(rs:List (List Pt))(hs:∀r∈rs,(r.length:Int)<=9223372036854771711):CG0 82 [.sl zk rs] [] (pr (kL rs)) []:=by
 refine zc Tryz.func82 ?_;intro hl1;refine⟨Nat,λi=>⟨[(3,i64 (qb (rs.take i):Int)),(8,i64 (i:Int)),(7,i64 (rs.length:Int)),(6,.sl zk rs)],[],0,23,0⟩,λi=>i<=rs.length/\(qb (rs.take i):Int)<=4096/\∀q∈rs.take i,∀p∈q,zr p,λi=>rs.length-i,0,?_,?_,?_⟩
 ·exact⟨Xh _,by show((0:Nat):Int)<=4096;decide,λq hq=>by cases hq⟩
 ·exact zC []
 rintro i ⟨h1,h2,h3⟩
 refine⟨λg=>?_,λg=>?_⟩
 ·refine Ob.o ?_;intro r hr;have hr:rs[i]?=some r:=hr;have hrl:=hs r (Xf hr);have hc:=vd hr;have hcl:=v7 rs (i+1);intro hl2;refine Ar.o<|Br.mk (λa1=>zd (λk=>by have:=k.1;omega)) (λa1=>?_);refine zb.t (zsj r)<|⟨λa2=>zd (λk=>a2 (k.2 r (Xf hr))),λa2=>?_⟩;refine Ar.o ?_;have e:(qb (rs.take i):Int)+(r.length:Int)=((qb (rs.take (i+1)):Nat):Int):=oM;refine⟨i+1,⟨oM,oM,zcN hr h3 (Xa.1 a2)⟩,?_,by dsimp only;omega⟩;dsimp only;rw[←e]
  exact zC []
 rw[Xi oM]at h2 h3;exact zI ⟨h2,h3⟩
def zkr(rs:List (List Pt)):CG0 92 [.sl zk rs] [] (pr (kL rs)) []:=by
 refine zc Tryz.func92 ?_;refine⟨Nat,λi=>⟨[(3,i64 (qb (rs.take i):Int)),(4,i64 (i:Int)),(0,.sl zk rs)],[],0,45,0⟩,λi=>i<=rs.length/\(qb (rs.take i):Int)<=4096/\∀q∈rs.take i,∀p∈q,zr p,λi=>rs.length-i,0,?_,?_,?_⟩
 ·exact⟨Xh _,by show((0:Nat):Int)<=4096;decide,λq hq=>by cases hq⟩
 ·exact zC []
 rintro i ⟨h1,h2,h3⟩
 intro hl1;refine⟨λg=>?_,λg=>?_⟩
 ·refine Ob.o ?_;intro r hr;have hr:rs[i]?=some r:=hr;have hc:=vd hr;have hcl:=v7 rs (i+1);intro hl2;refine Ar.o<|Br.mk (λa1=>zd (λk=>by have:=k.1;omega)) (λa1=>?_);refine Ob.o ?_;intro r' hr';have e:r'=r:=Xm ((show rs[i]?=some r' from hr').symm.trans hr);rw[e];intro hl3;refine Ar.o ?_;have e:(qb (rs.take i):Int)+(r.length:Int)=((qb (rs.take (i+1)):Nat):Int):=oM;rw[e]
  refine⟨Nat,λk=>⟨[(5,i64 (k:Int)),(3,i64 (qb (rs.take (i+1)):Int)),(4,i64 (i:Int)),(0,.sl zk rs)],[],0,45,0⟩,λk=>k<=r.length/\∀p∈r.take k,zr p,λk=>r.length-k,0,?_,?_,?_⟩
  ·exact⟨Xh _,λq hq=>by cases hq⟩
  ·exact zC []
  rintro k ⟨k1,k2⟩
  refine Ob.o ?_;intro r' hr';have e:r'=r:=Xm ((show rs[i]?=some r' from hr').symm.trans hr);rw[e];intro hl4;refine⟨λg2=>?_,λg2=>?_⟩
  ·refine Ob.o ?_;intro r' hr';have e:r'=r:=Xm ((show rs[i]?=some r' from hr').symm.trans hr);rw[e];refine Ob.o ?_;intro x hx;have hx:r[k]?=some x:=hx;refine zb.t (z9 x)<|⟨λa2=>zd (λkk=>a2 (kk.2 r (Xf hr) x (Xf hx))),λa2=>?_⟩;refine Ar.o<|⟨k+1,⟨oM,?_⟩,zC [],by dsimp only;omega⟩;rw[Xl,hx];intro q hq
   rcases Xs.1 hq with hq|hq
   ·exact k2 q hq
   rw[Qt,Xv]at hq;exact hq ▸ Xa.1 a2
  rw[Xi oM]at k2;exact Ar.o<|⟨i+1,⟨oM,oM,zcN hr h3 k2⟩,zC [],by dsimp only;omega⟩
 rw[Xi oM]at h2 h3;exact zI ⟨h2,h3⟩
def zDD(n:Int)(p q:Pt)(hn: -4611686018427387904<=n/\n<=4611686018427387904):
  CG0 473 [.agg (ptE p),.agg (ptE q),.loc 0 0] [(0,.box 3 [i64 n])] (.tup []) [(0,.box 3 [i64 (n+zaw p q)])]:=by
 have hc:=zca (jn p) (jn q);exact uo tok mix Tryz.func473 rfl rfl rfl rfl rfl<|Dr.k<|zb.t (zAH p q)<|Ar.fit (by unfold zaw;omega)<|⟨rfl,.refl⟩
def ziZ{n:Nat}(h:i<n):((i:Int)+1)%(n:Int)=(((i+1)%n:Nat):Int):=by rw[QU,QK];rfl
variable{x:Pt}
def zmp{y:Pt}(hx:r[i]?=some x)(hy:r[(((i:Int)+1)%(r.length:Int)).toNat]?=some y)(h:i<r.length):u9 r (i+1)=u9 r i+zaw x y:=by
 rw[ziZ h,XT]at hy;rw[zfv,Xt,Xt,hx,hy];rfl
def zDE(r:List Pt)(hr:r.length<=4096):
  CG0 85 [.sl ptE r,.fn 473 [.loc 0 0]] [(0,.box 3 [i64 0])] (.tup []) [(0,.box 3 [i64 (u9 r r.length)])]:=by
 refine uo tok mix Tryz.func85 rfl rfl rfl rfl rfl ?_;intro hl1;refine⟨Nat,λi=>⟨[(8,i64 (i:Int)),(7,i64 (r.length:Int)),(6,.sl ptE r),(0,.sl ptE r),(1,.fn 473 [.loc 0 0])],[(0,.box 3 [i64 (u9 r i)])],1,25,1⟩,λi=>i<=r.length,λi=>r.length-i,0,?_,?_,?_⟩
 ·exact Xh _
 ·exact zf [0]
 rintro i h1
 refine⟨λg=>?_,λg=>?_⟩
 ·have g:(i:Int)<r.length:=g;refine Ob.o ?_;intro x hx;refine Dr.d<|Ar.o ?_;intro hl2;refine Dv.pos ⟨oM,oM⟩ ?_;have q1:=Kb ((i:Int)+1) (b:=(r.length:Int)) oM;have q2:=X3 ((i:Int)+1) (b:=(r.length:Int)) oM;refine Ob.mk ⟨q1,q2⟩ ?_;intro y hy;have hx:r[i]?=some x:=hx;have hy:r[(((i:Int)+1)%(r.length:Int)).toNat]?=some y:=hy;have ha:=zim r i;refine zb.hand 0 _ _ _ rfl (zDD (u9 r i) x y oM) rfl rfl rfl rfl<|Ob.mk (by kernel_rfl)<|Ar.o ?_
  have e:u9 r (i+1)=u9 r i+zaw x y:=zmp hx hy oM;refine⟨i+1,oM,?_,by dsimp only;omega⟩;dsimp only;rw[e];exact zf [0]
 have e:i=r.length:=by have g:¬(i:Int)<r.length:=g;omega
 subst e;exact⟨rfl,.refl⟩
def zDF(r:List Pt)(hr:(r.length:Int)<=9223372036854771711):CG0 452 [.sl ptE r] [] (i64 (zcb r)) []:=by
 refine zc Tryz.func452 ?_;refine⟨List Pt,zk,[r],rfl,Ob.o0 ?_⟩;refine zb.see 0 _ (zgz [r] (λq hq=>by rw[Xv]at hq;exact hq ▸ hr)) rfl rfl rfl<|Br.mk (λa1=>?_) (λa1=>?_)
 ·refine ze ?_;unfold zcb;rw[Xc (λh=>a1 ((zeA r).2 h))]
 have a1:=(zeA r).1 (Xa.1 a1);refine zb.give [1] 0 [.sl ptE r,.fn 473 [.loc 0 0]] [(0,.box 3 [i64 0])] [(0,.box 3 [i64 (u9 r r.length)])] (.tup []) (zDE r (by have:=a1.1;omega)) LEs.refl rfl rfl rfl ⟨⟨_,rfl,rfl,rfl⟩,trivial⟩ rfl ⟨⟨rfl,rfl⟩,trivial⟩<|ze ?_;unfold zcb;rw[Xe a1]
def zxY(r:List Pt)(i:Nat)(y:Pt)(h:i<r.length/\r.length<=4096)(hy:r[(((i:Int)+1)%(r.length:Int)).toNat]?=some y):
  CG0 94 [.sl ptE r,i64 (i:Int)] [] (.agg (ptE y)) []:=by
 refine zc Tryz.func94 ?_;refine Ar.o ?_;intro hl1;refine Dv.pos ⟨oM,oM⟩ ?_;have q1:=Kb ((i:Int)+1) (b:=(r.length:Int)) oM;have q2:=X3 ((i:Int)+1) (b:=(r.length:Int)) oM;refine Ob.mk ⟨q1,q2⟩ ?_;intro z hz;have e:z=y:=Xm ((show r[(((i:Int)+1)%(r.length:Int)).toNat]?=some z from hz).symm.trans hy);rw[e];exact .refl
def zDG(r:List Pt):CG0 464 [.sl ptE r] [] (i64 (zcb r)) []:=by
 refine zc Tryz.func464 ?_;refine⟨List Pt,zk,[r],rfl,Ob.o0 ?_⟩;refine zb.see 0 _ (zkr [r]) rfl rfl rfl<|Br.mk (λa1=>?_) (λa1=>?_)
 ·refine ze ?_;unfold zcb;rw[Xc (λh=>a1 ((zeA r).2 h))]
 have a1:=(zeA r).1 (Xa.1 a1);have hr:r.length<=4096:=by have:=a1.1;omega
 refine⟨Nat,λi=>⟨[(4,i64 (i:Int)),(3,i64 (u9 r i)),(0,.sl ptE r)],[],1,26,0⟩,λi=>i<=r.length,λi=>r.length-i,0,?_,?_,?_⟩
 ·exact Xh _
 ·exact zC []
 rintro i h1
 intro hl1;refine⟨λg=>?_,λg=>?_⟩
 ·have g:(i:Int)<r.length:=g;refine Dr.k<|Ob.o ?_;intro x hx;have hx:r[i]?=some x:=hx;have hj:(i+1)%r.length<r.length:=Kk _ oM;obtain⟨y,hy0⟩:∃y,r[(i+1)%r.length]?=some y:=⟨_,Xb hj⟩;have hy:r[(((i:Int)+1)%(r.length:Int)).toNat]?=some y:=by rw[ziZ oM,XT];exact hy0
  refine zb.t (zxY r i y ⟨oM,hr⟩ hy)<|zb.t (zAI x y) ?_;have ha:=zim r i;have hc:=zca (jn x) (jn y);refine Ar.fit (by unfold zaw;omega)<|Ar.o ?_;have e:u9 r (i+1)=u9 r i+zaw x y:=zmp hx hy oM;refine⟨i+1,oM,?_,by dsimp only;omega⟩;dsimp only;rw[e];exact zC []
 have e:i=r.length:=by have g:¬(i:Int)<r.length:=g;omega
 subst e;refine ze ?_;unfold zcb;rw[Xe a1]
def zqc(r:List Pt)(hr:r.length<=4096):CG0 145 [.sl ptE r] [] (.sl ptE r) []:=by
 refine zc Tryz.func145 ?_;refine⟨Pt,ptE,[],rfl,Ob.o2 ?_⟩;refine⟨Nat,λi=>⟨[(4,i64 (i:Int)),(3,.own 0),(0,.sl ptE r)],[(0,.arr 28 ptE 2 (r.take i))],1,20,0⟩,λi=>i<=r.length,λi=>r.length-i,0,?_,?_,?_⟩
 ·exact Xh _
 ·exact zf [0]
 rintro i h1
 intro hl1;refine⟨λg=>?_,λg=>?_⟩
 ·have g:(i:Int)<r.length:=g;refine Ob.o ?_;intro x hx;have hx:r[i]?=some x:=hx;refine⟨Pt,ptE,[x],rfl,Ob.o0 ?_⟩;have hlt:(r.take i).length=i:=by rw[Xo];omega
  refine⟨[x],rfl,Ob.mk ⟨(by show _*(16:Int)<=_;simp only[hlt,Xn,Xr];omega),(by simp only[hlt,Xn,Xr];omega),dC,λ_ _=>rfl⟩ ?_⟩;exact Ar.o<|⟨i+1,oM,zu [2] ⟨Xg (λq=>some (Mem.arr 28 ptE 2 q)) (by rw[Xl,hx];rfl),trivial⟩,by dsimp only;omega⟩
 exact z0 (by rw[Xi (by have g:¬(i:Int)<r.length:=g;omega)])
def zmq:zcb []=0:=by decide +kernel
def zhF{r:List Pt}(h:zcb r≠0):r.length<=4096:=by
 unfold zcb at h
 split at h
 ·rename_i k;have:=k.1;omega
 exact absurd rfl h
def zbi(r:List Pt):CG0 423 [.sl ptE r] [] (.sl ptE (kE r)) []:=by
 refine zc Tryz.func423 ?_;refine zb.t (zDG r)<|⟨λa1=>?_,λa1=>?_⟩
 ·exact zb.t (zqc r (zhF oM))<|z0 (show r=kE r by unfold kE;rw[Xc oM,Xc oM])
 refine⟨Pt,ptE,[],rfl,Ob.o2 ?_⟩;refine⟨λa2=>?_,λa2=>?_⟩
 ·have hr:=zhF (r:=r) oM;have e:kE r=ztF r:=by unfold kE;rw[Xc oM,Xe a2]
  cases r with
  |nil=>rw[zmq]at a2;omega
  |cons p q=>
   have hq:q.length+1<=4096:=hr;have hL:((p::q).length:Int)=q.length+1:=by simp only[Xn];omega
   refine Ob.o4 ?_;intro x hx;have hx:some p=some x:=hx
   cases hx
   refine⟨Pt,ptE,[p],rfl,Ob.o0 ?_⟩;refine⟨[p],rfl,Ob.o3 ?_⟩;intro hl1;refine Ar.o<|⟨Nat,λi=>⟨[(5,i64 (i:Int)),(4,.own 0),(0,.sl ptE (p::q))],[(0,.arr 28 ptE 2 (p::(q.drop i).reverse))],1,36,0⟩,λi=>i<=q.length,λi=>i,q.length,?_,?_,?_⟩
   ·exact Xk _
   ·exact zT [2] ⟨Xg (λn=>some (i64 n)) oM,rfl,rfl,trivial⟩ ⟨Xg (λr=>some (Mem.arr 28 ptE 2 r)) (by rw[List.drop_length];rfl),trivial⟩
   rintro i h1
   refine⟨λg=>?_,λg=>?_⟩
   ·have g:(0:Int)<i:=g;obtain⟨j,rfl⟩:∃j,i=j+1:=⟨i-1,oM⟩;refine Ob.o4 ?_;intro y hy;have hy:q[j]?=some y:=hy;refine⟨Pt,ptE,[y],rfl,Ob.o0 ?_⟩;refine⟨[y],rfl,Ob.mk ⟨(by show _*(16:Int)<=_;simp only[Xn,Xr,KV,Kw];omega),(by simp only[Xn,Xr,KV,Kw];omega),dC,λ_ _=>rfl⟩ ?_⟩;refine Ar.o ?_
    refine⟨j,oM,zT [2] ⟨Xg (λn=>some (i64 n)) (show((j+1:Nat):Int)-1=(j:Int) by omega),rfl,rfl,trivial⟩ ⟨Xg (λr=>some (Mem.arr 28 ptE 2 r)) ?_,trivial⟩,by dsimp only;omega⟩;rw[zgs hy,List.reverse_cons];rfl
   have g:¬(0:Int)<i:=g;have h0:i=0:=oM;subst h0;refine z0 ?_;rw[e];rfl
 refine z0 ?_;unfold kE;rw[Xe oM]
def zqd(q:List Pt)(i k:Nat):Pt:=if k<i∨q.length<=k+i then q.getD (q.length-1-k) zp else q.getD k zp
def zfz(q:List Pt)(i:Nat):List Pt:=(List.range q.length).map (zqd q i)
def zqe(q:List Pt)(i:Nat):(zfz q i).length=q.length:=by unfold zfz;simp
def zdQ(q:List Pt)(i k:Nat):(zfz q i)[k]?=if k<q.length then some (zqd q i k) else none:=by
 unfold zfz;rw[XD]
 by_cases h:k<q.length
 ·rw[Xe h,Ql h];rfl
 rw[Xc h,XG (by simp;omega)];rfl
def zqf{q:List Pt}{k:Nat}(h:k<q.length):q[k]?=some (q.getD k zp):=by
 rw[Xt,Xb h];rfl
def zve(q:List Pt):zfz q 0=q:=by
 refine Kq λk=>?_
 rw[zdQ]
 by_cases h:k<q.length
 ·rw[Xe h,zqf h];unfold zqd;rw[Xc oM]
 rw[Xc h,XG oM]
def zxZ{q:List Pt}(h:q.length<=2*i+1):zfz q i=q.reverse:=by
 refine Kq λk=>?_
 rw[zdQ]
 by_cases hk:k<q.length
 ·rw[Xe hk,QP hk,zqf oM];unfold zqd
  by_cases c:k<i∨q.length<=k+i
  ·rw[Xe c]
  rw[Xc c,show q.length-1-k=k by omega]
 rw[Xc hk,XG (by simp;omega)]
def zvf{q:List Pt}(h:2*i+1<q.length):
  ((zfz q i).set i (q.getD (q.length-1-i) zp)).set (q.length-1-i) (q.getD i zp)=zfz q (i+1):=by
 refine Kq λk=>?_
 rw[Kz,Kz,XV,zqe,zdQ,zdQ]
 by_cases hk:k<q.length
 ·rw[Xe hk,Xe hk]
  by_cases c1:q.length-1-i=k
  ·rw[Xe c1,Xe oM];unfold zqd;rw[Xe oM,show q.length-1-k=i by omega]
  rw[Xc c1]
  by_cases c2:i=k
  ·rw[Xe c2,Xe oM];unfold zqd;rw[Xe oM,c2]
  rw[Xc c2];unfold zqd
  by_cases c3:k<i∨q.length<=k+i
  ·rw[Xe c3,Xe oM]
  rw[Xc c3,Xc oM]
 rw[Xc oM,Xc oM,Xc hk,Xc hk]
def ztN{q:List Pt}{k:Nat}(hk:k<q.length)(h:i<=k/\k+i<q.length):(zfz q i)[k]?=some (q.getD k zp):=by
 rw[zdQ,Xe hk];unfold zqd;rw[Xc oM]
def p_rev(p:Pt)(q:List Pt)(hq:q.length<=4096):CG0 453 [.win 0 2 1 (q.length:Int)] [(0,.arr 28 ptE 2 (p::q))] (.tup []) [(0,.arr 28 ptE 2 (p::q.reverse))]:=by
 refine uo tok mix Tryz.func453 rfl rfl rfl (λ_ _=>rfl) rfl<|Ob.o<|Ar.o<|⟨Nat,λi=>⟨[(3,i64 ((q.length:Int)-1-i)),(2,i64 (i:Int)),(0,.win 0 2 1 (q.length:Int))],[(0,.arr 28 ptE 2 (p::zfz q i))],1,28,1⟩,λi=>2*i<=q.length,λi=>q.length-i,0,?_,?_,?_⟩
 ·exact Xh _
 ·exact zT [0] ⟨Xg (λn=>some (i64 n)) oM,rfl,rfl,trivial⟩ ⟨Xg (λr=>some (Mem.arr 28 ptE 2 (p::r))) (zve q).symm,trivial⟩
 rintro i h1
 refine⟨λg=>?_,λg=>?_⟩
 ·have g:(i:Int)<(q.length:Int)-1-i:=g;have hlen:(p::zfz q i).length=q.length+1:=by rw[Xn,zqe]
  refine Dr.k<|Ob.o6<|Ob.mk (by rw[hlen];omega) ?_;intro x hx
  have hx:x=q.getD (q.length-1-i) zp:=by
   have e:(p::zfz q i)[(1+((q.length:Int)-1-i)).toNat]?=some x:=hx;rw[show(1+((q.length:Int)-1-i)).toNat=(q.length-1-i)+1 by omega,KM,ztN oM oM]at e;exact(Xm e).symm
  refine Ob.o6<|Ob.mk (by rw[hlen];omega) ?_;intro y hy
  have hy:y=q.getD i zp:=by
   have e:(p::zfz q i)[(1+(i:Int)).toNat]?=some y:=hy;rw[show(1+(i:Int)).toNat=i+1 by omega,KM,ztN oM oM]at e;exact(Xm e).symm
  refine Ob.o6<|Ob.mk (by rw[hlen];omega) ?_;intro x' _;refine⟨x,rfl,?_⟩;refine Ob.o6<|Ob.mk (by rw[XV,hlen];omega) ?_;intro y' _;refine⟨y,rfl,?_⟩;(iterate 2 refine Ar.o ?_);refine⟨i+1,oM,zT [0] ⟨Xg (λn=>some (i64 n)) oM,rfl,rfl,trivial⟩ ⟨Xg (λr=>some (Mem.arr 28 ptE 2 r)) ?_,trivial⟩,by dsimp only;omega⟩;show((p::zfz q i).set (1+(i:Int)).toNat x).set (1+((q.length:Int)-1-i)).toNat y=p::zfz q (i+1)
  rw[show(1+(i:Int)).toNat=i+1 by omega,show(1+((q.length:Int)-1-i)).toNat=(q.length-1-i)+1 by omega,JN,JN,hx,hy,zvf oM]
 have g:¬(i:Int)<(q.length:Int)-1-i:=g;refine⟨Xg (λr=>some (Mem.arr 28 ptE 2 (p::r))) (zxZ oM),.refl⟩
def zoe(q:List Pt)(hq:q.length<=4096):CG0 189 [.sl ptE q] [] (.own 0) [(0,.arr 28 ptE 2 q)]:=by
 refine qE tok mix Tryz.func189 rfl rfl rfl ?_
 by_cases h0:q=[]
 ·refine zeR.any (Br.mk ?_ ?_)
  ·exact⟨none,.nil rfl,h0⟩
  refine⟨Pt,ptE,[],rfl,Ob.o2 ?_⟩;refine⟨q,rfl,Ob.o17 ?_⟩;exact⟨some 1,.own _ rfl,rfl,λ_ _=>rfl⟩
 refine zeR.some (λh=>h0 (Xp h))<|⟨Pt,ptE,[],rfl,Ob.o2 ?_⟩;refine⟨q,rfl,Ob.o17 ?_⟩;exact⟨some 1,.own _ rfl,rfl,λ_ _=>rfl⟩
def zvg(p:Pt):zcb [p]=0:=by
 unfold zcb
 split
 ·show u9 [p] 1=0;have e0:u9 [p] 0=0:=by unfold u9;rfl
  have e1:[p].getD 0 zp=p:=rfl;have e2:[p].getD ((0+1) % [p].length) zp=p:=by show[p].getD ((0+1)%1) zp=p;rw[Nat.mod_one];rfl
  rw[zfv,e0,e1,e2];unfold zaw;unfold wdg;rw[QT (js p).x];omega
 rfl
def zbj(r:List Pt)(hr:(r.length:Int)<=9223372036854771711):CG0 404 [.sl ptE r] [] (.sl ptE (kE r)) []:=by
 refine zc Tryz.func404 ?_;refine zb.t (zDF r hr)<|⟨λa1=>?_,λa1=>?_⟩
 ·have e:kE r=[]:=by unfold kE;rw[Xe a1]
  rw[e];exact zD
 have hq:=zhF a1;refine zb.fresh _ _ (zoe r hq) rfl (λ_ _=>rfl) (.inr (λ_ _=>rfl))<|⟨λa2=>?_,λa2=>?_⟩
 ·have e:kE r=ztF r:=by unfold kE;rw[Xc a1,Xe a2]
  cases r with
  |nil=>exact absurd zmq a1
  |cons p q=>
   have h0:q≠[]:=λh=>a1 (by rw[h];exact zvg p)
   have h2:0<q.length:=X9 λh=>h0 (Xp h)
   have hL:((p::q).length:Int)=(q.length:Int)+1:=by simp only[Xn];omega
   have hq:q.length<=4096:=by simp only[Xn]at hq;omega
   refine Sl.win (Ob.mk ⟨oM,oM,oM,oM⟩ ?_)
   have ct:CG0 453 [.win 0 2 1 (((p::q).length:Int)-1)] [(0,.arr 28 ptE 2 (p::q))] (.tup []) [(0,.arr 28 ptE 2 (p::q.reverse))]:=by
    rw[show((p::q).length:Int)-1=(q.length:Int) by omega];exact p_rev p q hq
   refine zb.hand 0 _ _ _ rfl ct (λ_ _=>rfl) (λ_ _=>rfl) rfl rfl ?_;rw[e];exact z0 rfl
 refine z0 (show r=kE r by unfold kE;rw[Xc a1,Xc a2])
def P45(p:Pt):Prop:=(-35184372088832<=p.x/\p.x<=35184372088832)/\(-35184372088832<=p.y/\p.y<=35184372088832)
variable{p:Pt}
def P45.s(h:P45 p):S50 p.x/\S50 p.y:=by unfold P45 at h;omega
def zr.p45(h:zr p):P45 p:=by unfold zr at h;unfold P45;omega
def qX(v:Pt)(w:Int):P45 (z5 v w):=by have:=zaW v w;unfold P45;omega
def zgA(v:Pt)(w:Int):P45 ⟨(z5 v w).y,-(z5 v w).x⟩:=by have:=zaW v w;unfold P45;dsimp only;omega
variable{q:Pt}
def zx0(h:P45 p)(k:P45 q):S50 (zn p q).x/\S50 (zn p q).y:=by
 unfold P45 at h k;show S50 (p.x-q.x)/\S50 (p.y-q.y);omega
def zx1(h:P45 p)(k:P45 q):S50 (zA p q).x/\S50 (zA p q).y:=by
 unfold P45 at h k;show S50 (p.x+q.x)/\S50 (p.y+q.y);omega
def zks{w:Int}(hw:ki w):(-16384<=z6 w 2/\z6 w 2<=16384)/\yZ (z6 w 2)=z6 w 2:=by
 unfold ki at hw;have:=uY (a:=w) (b:=2) (M:=16384) oM;exact⟨oM,uK oM⟩
def zqg(a b:Pt)(w:Int):CG0 403 [.agg (ptE a),.agg (ptE b),i64 w] []
  (.tup [.agg (ptE (if ki w/\zr a/\zr b then z5 (zn b a) w else zp)),pr (ki w/\zr a/\zr b)]) []:=by
 refine zc Tryz.func403 ?_
 have bad:¬(ki w/\zr a/\zr b)->LE (.tup [.agg (ptE zp),bl false]) (.tup [.agg (ptE (if ki w/\zr a/\zr b then z5 (zn b a) w else zp)),pr (ki w/\zr a/\zr b)]):=λh=>by
  rw[Xc h];exact zM .refl (zd h)
 refine zb.t (vO w)<|⟨λa1=>bad (λh=>a1 h.1),λa1=>?_⟩;refine zb.t (k8 a)<|⟨λa2=>bad (λh=>a2 h.2.1),λa2=>?_⟩;refine zb.t (k8 b)<|⟨λa3=>bad (λh=>a3 h.2.2),λa3=>?_⟩;have h:ki w/\zr a/\zr b:=⟨Xa.1 a1,Xa.1 a2,Xa.1 a3⟩;refine zb.t (zko b a h.2.2.p45.s h.2.1.p45.s)<|zb.t (zkp (zn b a) w) ?_;rw[Xe h];exact zM .refl (zI h)
def zDH(a b:Pt)(w:Int):CG0 345 [.agg (ptE a),.agg (ptE b),i64 w] [] (.sl ptE (jT a b w)) []:=by
 refine zc Tryz.func345 ?_
 have bad:¬(ki w/\zr a/\zr b)->LE (.val (.slice none 0 0)) (.sl ptE (jT a b w)):=λh=>by
  unfold jT;rw[Xe h];exact zD
 refine zb.t (zqg a b w)<|⟨λh=>bad h,λh=>?_⟩;have h:=Xa.1 h;rw[Xe h];refine Dr.d<|zb.t (zko a (z5 (zn b a) w) h.2.1.p45.s (qX (zn b a) w).s)<|zb.t (zko b (z5 (zn b a) w) h.2.2.p45.s (qX (zn b a) w).s)<|zb.t (zfw b (z5 (zn b a) w) h.2.2.p45.s (qX (zn b a) w).s)<|zb.t (zfw a (z5 (zn b a) w) h.2.1.p45.s (qX (zn b a) w).s)<|⟨Pt,ptE,[zn a (z5 (zn b a) w),zn b (z5 (zn b a) w),zA b (z5 (zn b a) w),zA a (z5 (zn b a) w)],rfl,Ob.o0 ?_⟩
 refine zb.see 3 _ (zbj [zn a (z5 (zn b a) w),zn b (z5 (zn b a) w),zA b (z5 (zn b a) w),zA a (z5 (zn b a) w)] (by show((4:Nat):Int)<=_;decide)) rfl rfl rfl<|Ob.mk (by kernel_rfl) ?_;unfold jT;rw[Xc (λk=>k h)];exact .refl
def p_cap(a b:Pt)(w:Int):CG0 411 [.agg (ptE a),.agg (ptE b),i64 w] [] (.sl ptE (zkj a b w)) []:=by
 refine zc Tryz.func411 ?_
 have bad:¬(ki w/\zr a/\zr b)->LE (.val (.slice none 0 0)) (.sl ptE (zkj a b w)):=λh=>by
  unfold zkj;rw[Xe h];exact zD
 refine zb.t (zqg a b w)<|⟨λh=>bad h,λh=>?_⟩;have h:=Xa.1 h;rw[Xe h];have hn:=zaW (zn b a) w;refine Ar.o<|Dr.d<|zb.t (zko b (z5 (zn b a) w) h.2.2.p45.s (qX (zn b a) w).s)<|zb.t (zko b (z5 (zn b a) w) h.2.2.p45.s (qX (zn b a) w).s)<|zb.t (zfw (zn b (z5 (zn b a) w)) ⟨(z5 (zn b a) w).y,-(z5 (zn b a) w).x⟩ (zx0 h.2.2.p45 (qX (zn b a) w)) (zgA (zn b a) w).s)<|zb.t (zfw b (z5 (zn b a) w) h.2.2.p45.s (qX (zn b a) w).s) ?_
 refine zb.t (zfw (zA b (z5 (zn b a) w)) ⟨(z5 (zn b a) w).y,-(z5 (zn b a) w).x⟩ (zx1 h.2.2.p45 (qX (zn b a) w)) (zgA (zn b a) w).s)<|zb.t (zfw b (z5 (zn b a) w) h.2.2.p45.s (qX (zn b a) w).s)<|⟨Pt,ptE,[zn b (z5 (zn b a) w),zA (zn b (z5 (zn b a) w)) ⟨(z5 (zn b a) w).y,-(z5 (zn b a) w).x⟩,zA (zA b (z5 (zn b a) w)) ⟨(z5 (zn b a) w).y,-(z5 (zn b a) w).x⟩,zA b (z5 (zn b a) w)],rfl,Ob.o0 ?_⟩
 refine zb.see 4 _ (zbj [zn b (z5 (zn b a) w),zA (zn b (z5 (zn b a) w)) ⟨(z5 (zn b a) w).y,-(z5 (zn b a) w).x⟩,zA (zA b (z5 (zn b a) w)) ⟨(z5 (zn b a) w).y,-(z5 (zn b a) w).x⟩,zA b (z5 (zn b a) w)] (by show((4:Nat):Int)<=_;decide)) rfl rfl rfl<|Ob.mk (by kernel_rfl) ?_;unfold zkj;rw[Xc (λk=>k h)];exact .refl
def zDI(p:Pt)(w:Int):CG0 401 [.agg (ptE p),i64 w] [] (.sl ptE (zdK p w)) []:=by
 refine zc Tryz.func401 ?_
 have bad:¬(ki w/\zr p)->LE (.val (.slice none 0 0)) (.sl ptE (zdK p w)):=λh=>by
  unfold zdK;rw[Xe h];exact zD
 refine zb.t (vO w)<|⟨λa1=>bad (λh=>a1 h.1),λa1=>?_⟩;refine zb.t (k8 p)<|⟨λa2=>bad (λh=>a2 h.2),λa2=>?_⟩;have h:ki w/\zr p:=⟨Xa.1 a1,Xa.1 a2⟩;have hh:=zks h.1;have hw:=h.1;have hp:=h.2;unfold ki at hw;unfold zr at hp;refine zb.t (uV w 2 ⟨oM,oM⟩ ⟨oM,oM⟩) ?_;rw[hh.2];(iterate 8 refine Ar.o ?_)
 refine⟨Pt,ptE,[⟨p.x-z6 w 2,p.y-z6 w 2⟩,⟨p.x+z6 w 2,p.y-z6 w 2⟩,⟨p.x+z6 w 2,p.y+z6 w 2⟩,⟨p.x-z6 w 2,p.y+z6 w 2⟩],rfl,Ob.o0 ?_⟩;refine zb.see 1 _ (zbj [⟨p.x-z6 w 2,p.y-z6 w 2⟩,⟨p.x+z6 w 2,p.y-z6 w 2⟩,⟨p.x+z6 w 2,p.y+z6 w 2⟩,⟨p.x-z6 w 2,p.y+z6 w 2⟩] (by show((4:Nat):Int)<=_;decide)) rfl rfl rfl ?_;unfold zdK;rw[Xc (λk=>k h)];exact .refl
def zx2(a b:Pt)(w:Int):CG0 362 [.agg (ptE a),.agg (ptE b),i64 w] [] (.sl ptE (jT a b w)) []:=by
 refine zc Tryz.func362 ?_;refine zb.t (ztJ a b w)<|⟨λh=>?_,λh=>?_⟩
 ·refine⟨Pt,ptE,[],rfl,Ob.o2 ?_⟩;exact z0 (show[]=jT a b w by unfold jT;rw[Xe h])
 have h:ki w/\zr a/\zr b:=Xa.1 h;refine zb.t (zhD b a h.2.2.p45.s h.2.1.p45.s)<|zb.t (zgx (zn b a) w)<|Dr.d<|zb.t (zhD a (z5 (zn b a) w) h.2.1.p45.s (qX (zn b a) w).s)<|zb.t (zhD b (z5 (zn b a) w) h.2.2.p45.s (qX (zn b a) w).s)<|zb.t (zfx b (z5 (zn b a) w) h.2.2.p45.s (qX (zn b a) w).s) ?_;refine zb.t (zfx a (z5 (zn b a) w) h.2.1.p45.s (qX (zn b a) w).s)<|⟨Pt,ptE,[zn a (z5 (zn b a) w),zn b (z5 (zn b a) w),zA b (z5 (zn b a) w),zA a (z5 (zn b a) w)],rfl,Ob.o0 ?_⟩
 refine zb.see 3 _ (zbi [zn a (z5 (zn b a) w),zn b (z5 (zn b a) w),zA b (z5 (zn b a) w),zA a (z5 (zn b a) w)]) rfl rfl rfl<|Ob.mk (by kernel_rfl) ?_;unfold jT;rw[Xc (λk=>k h)];exact .refl
def r_cap(a b:Pt)(w:Int):CG0 366 [.agg (ptE a),.agg (ptE b),i64 w] [] (.sl ptE (zkj a b w)) []:=by
 refine zc Tryz.func366 ?_;refine zb.t (ztJ a b w)<|⟨λh=>?_,λh=>?_⟩
 ·refine⟨Pt,ptE,[],rfl,Ob.o2 ?_⟩;exact z0 (show[]=zkj a b w by unfold zkj;rw[Xe h])
 have h:ki w/\zr a/\zr b:=Xa.1 h;refine zb.t (zhD b a h.2.2.p45.s h.2.1.p45.s)<|zb.t (zgx (zn b a) w) ?_;have hn:=zaW (zn b a) w;refine Ar.o<|Dr.d<|zb.t (zhD b (z5 (zn b a) w) h.2.2.p45.s (qX (zn b a) w).s)<|zb.t (zhD b (z5 (zn b a) w) h.2.2.p45.s (qX (zn b a) w).s)<|zb.t (zfx (zn b (z5 (zn b a) w)) ⟨(z5 (zn b a) w).y,-(z5 (zn b a) w).x⟩ (zx0 h.2.2.p45 (qX (zn b a) w)) (zgA (zn b a) w).s)<|zb.t (zfx b (z5 (zn b a) w) h.2.2.p45.s (qX (zn b a) w).s) ?_
 refine zb.t (zfx (zA b (z5 (zn b a) w)) ⟨(z5 (zn b a) w).y,-(z5 (zn b a) w).x⟩ (zx1 h.2.2.p45 (qX (zn b a) w)) (zgA (zn b a) w).s)<|zb.t (zfx b (z5 (zn b a) w) h.2.2.p45.s (qX (zn b a) w).s)<|⟨Pt,ptE,[zn b (z5 (zn b a) w),zA (zn b (z5 (zn b a) w)) ⟨(z5 (zn b a) w).y,-(z5 (zn b a) w).x⟩,zA (zA b (z5 (zn b a) w)) ⟨(z5 (zn b a) w).y,-(z5 (zn b a) w).x⟩,zA b (z5 (zn b a) w)],rfl,Ob.o0 ?_⟩
 refine zb.see 4 _ (zbi [zn b (z5 (zn b a) w),zA (zn b (z5 (zn b a) w)) ⟨(z5 (zn b a) w).y,-(z5 (zn b a) w).x⟩,zA (zA b (z5 (zn b a) w)) ⟨(z5 (zn b a) w).y,-(z5 (zn b a) w).x⟩,zA b (z5 (zn b a) w)]) rfl rfl rfl<|Ob.mk (by kernel_rfl) ?_;unfold zkj;rw[Xc (λk=>k h)];exact .refl
def zDJ(p:Pt)(w:Int):CG0 364 [.agg (ptE p),i64 w] [] (.sl ptE (zdK p w)) []:=by
 refine zc Tryz.func364 ?_;refine zb.t (ztJ p p w)<|⟨λh=>?_,λh=>?_⟩
 ·refine⟨Pt,ptE,[],rfl,Ob.o2 ?_⟩;exact z0 (show[]=zdK p w by unfold zdK;rw[Xe (λk=>h ⟨k.1,k.2,k.2⟩)])
 have h:ki w/\zr p:=⟨(Xa.1 h).1,(Xa.1 h).2.1⟩;have hh:=zks h.1;have hw:=h.1;have hp:=h.2;unfold ki at hw;unfold zr at hp;refine zb.t (uc w 2 ⟨oM,oM⟩ ⟨oM,oM⟩) ?_;rw[hh.2];(iterate 8 refine Ar.o ?_);refine⟨Pt,ptE,[⟨p.x-z6 w 2,p.y-z6 w 2⟩,⟨p.x+z6 w 2,p.y-z6 w 2⟩,⟨p.x+z6 w 2,p.y+z6 w 2⟩,⟨p.x-z6 w 2,p.y+z6 w 2⟩],rfl,Ob.o0 ?_⟩
 refine zb.see 1 _ (zbi [⟨p.x-z6 w 2,p.y-z6 w 2⟩,⟨p.x+z6 w 2,p.y-z6 w 2⟩,⟨p.x+z6 w 2,p.y+z6 w 2⟩,⟨p.x-z6 w 2,p.y+z6 w 2⟩]) rfl rfl rfl ?_;unfold zdK;rw[Xc (λk=>k h)];exact .refl
def wayN(q:Pt):Pt:=⟨-q.y,q.x⟩
def zvh:∀i:Nat,i<12->yc.take (4+i)++[wayN ((yc.take (4+i)).getD i zp)]=yc.take (4+(i+1)):=by decide +kernel
def zof:∀q∈yc,(-16384<=q.x/\q.x<=16384)/\(-16384<=q.y/\q.y<=16384):=by decide +kernel
def ztO(h:(yc.take (4+i))[i]?=some x):x=(yc.take (4+i)).getD i zp:=by
 rw[Xt,h];rfl
def zDK:CG0 428 [] [] (.sl ptE yc) []:=by
 refine zc Tryz.func428 ?_;refine⟨Pt,ptE,yc.take 4,rfl,Ob.o0 ?_⟩;refine⟨Nat,λi=>⟨[(2,i64 (i:Int)),(1,.own 0)],[(0,.arr 28 ptE 2 (yc.take (4+i)))],1,28,0⟩,λi=>i<=12,λi=>12-i,0,?_,?_,?_⟩
 ·exact Xh _
 ·exact zf [0]
 rintro i h1
 refine⟨λg=>?_,λg=>?_⟩
 ·have g:(i:Int)<12:=g
  have hl:(yc.take (4+i)).length=4+i:=by
   rw[Xo,show yc.length=16 from rfl];omega
  refine Dr.d<|Ob.o<|Ob.mk (by rw[hl];omega) ?_;intro x hx;have hx:x=(yc.take (4+i)).getD i zp:=ztO hx;have hb:=zof x (XL (i:=4+i) (by rw[hx,Xt,Xb oM];exact KJ _));refine Ar.o<|Ob.o<|Ob.mk (by rw[hl];omega) ?_;intro y hy;have hy:y=x:=(ztO hy).trans hx.symm;rw[hy];refine⟨Pt,ptE,[wayN x],rfl,Ob.o0 ?_⟩
  refine⟨[wayN x],rfl,Ob.mk ⟨(by show _*(16:Int)<=_;simp only[hl,Xn,Xr];omega),(by simp only[hl,Xn,Xr];omega),dC,λ_ _=>rfl⟩ ?_⟩;exact Ob.mk (by kernel_rfl)<|Ar.o<|⟨i+1,oM,zu [2] ⟨Xg (λq=>some (Mem.arr 28 ptE 2 q)) (show yc.take (4+i)++[wayN x]=yc.take (4+(i+1)) by rw[hx];exact zvh i oM),trivial⟩,by dsimp only;omega⟩
 have e:i=12:=by have g:¬(i:Int)<12:=g;omega
 subst e;exact z0 rfl
def zdR(p:Pt)(w:Int)(q:Pt):Pt:=zA p ⟨z6 (q.x*w) 32768,z6 (q.y*w) 32768⟩
def zeB{x w:Int}(hx: -16384<=x/\x<=16384)(hw:ki w):(-268435456<=x*w/\x*w<=268435456)/\(-268435456<=z6 (x*w) 32768/\z6 (x*w) 32768<=268435456)/\yZ (z6 (x*w) 32768)=z6 (x*w) 32768:=by
 unfold ki at hw;have h:=ju (A:=16384) (B:=16384) (a:=x) (b:=w) oM oM;have:=uY (a:=x*w) (b:=32768) (M:=268435456) oM;exact⟨oM,oM,uK oM⟩
def zsk(p:Pt)(w:Int):CG0 365 [.agg (ptE p),i64 w] [] (.sl ptE (vF p w)) []:=by
 refine zc Tryz.func365 ?_;refine zb.t (ztJ p p w)<|⟨λh=>?_,λh=>?_⟩
 ·refine⟨Pt,ptE,[],rfl,Ob.o2 ?_⟩;exact z0 (show[]=vF p w by unfold vF;rw[Xe (λk=>h ⟨k.1,k.2,k.2⟩)])
 have h:ki w/\zr p:=⟨(Xa.1 h).1,(Xa.1 h).2.1⟩;refine zb.t zDK<|⟨Pt,ptE,[],rfl,Ob.o2 ?_⟩;refine⟨Nat,λi=>⟨[(7,i64 (i:Int)),(6,.own 1),(5,.sl ptE yc),(2,.loc 0 0),(1,i64 w)],[(1,.arr 28 ptE 2 ((yc.take i).map (zdR p w))),(0,.box 28 (ptE p))],2,46,0⟩,λi=>i<=16,λi=>16-i,0,?_,?_,?_⟩
 ·exact Xh _
 ·exact zf [0,1]
 rintro i h1
 intro hl2;have hL:yc.length=16:=rfl;refine⟨λg=>?_,λg=>?_⟩
 ·have g:(i:Int)<(yc.length:Int):=g
  have hl:((yc.take i).map (zdR p w)).length=i:=by
   rw[Xx,Xo];omega
  refine Dr.d<|Ob.o ?_;intro x hx;have hx:yc[i]?=some x:=hx;have hb:=zof x (Xf hx);have t1:=zeB hb.1 h.1;have t2:=zeB hb.2 h.1;refine Ar.o<|zb.t (uc (x.x*w) 32768 ⟨oM,oM⟩ ⟨dC,dC⟩) ?_;rw[t1.2.2];refine Ob.o ?_;intro y hy;have hy:y=x:=Xm ((show yc[i]?=some y from hy).symm.trans hx);rw[hy];refine Ar.o<|zb.t (uc (x.y*w) 32768 ⟨oM,oM⟩ ⟨dC,dC⟩) ?_;rw[t2.2.2];refine zb.t (zfx p ⟨z6 (x.x*w) 32768,z6 (x.y*w) 32768⟩ h.2.p45.s ⟨by dsimp only;omega,by dsimp only;omega⟩) ?_
  refine⟨Pt,ptE,[zdR p w x],rfl,Ob.o0 ?_⟩;refine⟨[zdR p w x],rfl,Ob.mk ⟨(by show _*(16:Int)<=_;simp only[hl,Xn,Xr];omega),(by simp only[hl,Xn,Xr];omega),dC,λ_ _=>rfl⟩ ?_⟩;exact Ob.mk (by kernel_rfl)<|Ar.o<|⟨i+1,oM,zu [0,3] ⟨Xg (λq=>some (Mem.arr 28 ptE 2 q)) (by rw[Xl,hx,XB];rfl),rfl,trivial⟩,by dsimp only;omega⟩
 have e:i=16:=by have g:¬(i:Int)<(yc.length:Int):=g;omega
 subst e;refine zb.see 1 _ (zbi (yc.map (zdR p w))) rfl rfl rfl<|z0 (show kE (yc.map (zdR p w))=vF p w from ?_);unfold vF;rw[Xc (λk=>k h)];rfl
def ze8(p:Pt):Prop:=(-2097152<=p.x/\p.x<=2097152)/\(-2097152<=p.y/\p.y<=2097152)
def zcd(hp:zr p)(hq:zr q):ze8 (zn p q):=by
 unfold zr at hp hq;show(-2097152<=p.x-q.x/\p.x-q.x<=2097152)/\(-2097152<=p.y-q.y/\p.y-q.y<=2097152);omega
def zkt(hp:ze8 p)(hq:ze8 q):(-4398046511104<=p.x*q.y/\p.x*q.y<=4398046511104)/\(-4398046511104<=p.y*q.x/\p.y*q.x<=4398046511104):=by
 have h1:=ju hp.1 hq.2;have h2:=ju hp.2 hq.1;omega
def zqh(p q:Pt)(hp:ze8 p)(hq:ze8 q):CG0 205 [.agg (ptE p),.agg (ptE q)] [] (i64 (wdg p q)) []:=by
 have h:=zkt hp hq;refine zc Tryz.func205 ?_;(iterate 3 refine Ar.o ?_);exact .refl
def ztP(w:Int):CG0 454 [i64 w] [] (pr (ki w)) []:=by
 refine zc Tryz.func454 ?_;refine⟨λh=>?_,λh=>zd (λk=>h k.1)⟩;exact zE ⟨λk=>⟨h,k⟩,λk=>k.2⟩
def ztQ(w:Int):CG0 465 [i64 w] [] (pr (ki w)) []:=by
 refine zc Tryz.func465 ?_;refine⟨λh=>?_,λh=>zd (λk=>h k.1)⟩;exact zE ⟨λk=>⟨h,k⟩,λk=>k.2⟩
def zx3(a b:Pt)(ha:S50 a.x/\S50 a.y)(hb:S50 b.x/\S50 b.y):CG0 455 [.agg (ptE a),.agg (ptE b)] [] (.agg (ptE (zn b a))) []:=by
 refine zc Tryz.func455 ?_;(iterate 2 refine Ar.o ?_);exact .refl
def zvi(n:Pt):zn zp n=zhz n:=by
 unfold zn zhz zp;dsimp only;rw[Int.zero_sub,Int.zero_sub]
def zCu(n:Pt)(h:S50 n.x/\S50 n.y):CG0 455 [.agg (ptE n),.agg (ptE zp)] [] (.agg (ptE (zhz n))) []:=by
 have c:=zx3 n zp h ⟨dC,dC⟩
 rwa [zvi]at c
def zku(hp:zr p)(hq:zr q):zae p q=zn p q:=by
 unfold zae;rw[zew hp,zew hq]
def outE(o:Pt×Pt×Bool):SV:=.tup [.agg (ptE o.1),.agg (ptE o.2.1),pr (o.2.2=true)]
def vq{o:Pt×Pt×Bool}{n m:Pt}{b:Bool}(h:o=(n,m,b)):LE (.tup [.agg (ptE n),.agg (ptE m),bl b]) (outE o):=by
 subst h;exact zbP (.C (.C (.cons ztn .nil)))
def zAL(a v b:Pt)(w:Int):CG0 408 [.agg (ptE a),.agg (ptE v),.agg (ptE b),i64 w] [] (outE (qp a v b w)) []:=by
 refine zc Tryz.func408 ?_;have bad:¬(zr a/\zr v/\zr b/\ki w)->qp a v b w=(zp,zp,false):=λh=>by unfold qp;rw[Xe h]
 refine zb.t (k8 a)<|⟨λa1=>vq (bad (λh=>a1 h.1)),λa1=>?_⟩;refine zb.t (k8 v)<|⟨λa2=>vq (bad (λh=>a2 h.2.1)),λa2=>?_⟩;refine zb.t (k8 b)<|⟨λa3=>vq (bad (λh=>a3 h.2.2.1)),λa3=>?_⟩;refine zb.t (ztP w)<|⟨λa4=>vq (bad (λh=>a4 h.2.2.2)),λa4=>?_⟩;have ha:=Xa.1 a1;have hv:=Xa.1 a2;have hb:=Xa.1 a3;have hw:=Xa.1 a4;have hx:=zcd hv ha;have hy:=zcd hb hv
 have e:qp a v b w=if wdg (zn v a) (zn b v)=0 then(zp,zp,false) else if 0<wdg (zn v a) (zn b v) then(zhz (z5 (zn v a) w),zhz (z5 (zn b v) w),true) else(z5 (zn v a) w,z5 (zn b v) w,true):=by
  unfold qp;rw[Xc (λk=>k ⟨ha,hv,hb,hw⟩)]
 have hd:=zkt hx hy;refine Dr.k<|zb.t (zx3 a v ha.p45.s hv.p45.s)<|zb.t (zx3 v b hv.p45.s hb.p45.s)<|Dr.k<|zb.t (zkp (zn v a) w)<|zb.t (zkp (zn b v) w) ?_;(iterate 3 refine Ar.o ?_);refine⟨λk=>?_,λk=>?_⟩
 ·have k:wdg (zn v a) (zn b v)=0:=k;exact vq (e.trans (Xe k))
 have k:¬wdg (zn v a) (zn b v)=0:=k;refine⟨λk2=>?_,λk2=>?_⟩
 ·have k2:0<wdg (zn v a) (zn b v):=k2;exact Dr.k<|zb.t (zCu (z5 (zn v a) w) (qX _ _).s)<|zb.t (zCu (z5 (zn b v) w) (qX _ _).s)<|vq (e.trans ((Xc k).trans (Xe k2)))
 have k2:¬0<wdg (zn v a) (zn b v):=k2;exact Dr.d<|Ob.mk (by kernel_rfl)<|vq (e.trans ((Xc k).trans (Xc k2)))
def zAM(a v b:Pt)(w:Int):CG0 425 [.agg (ptE a),.agg (ptE v),.agg (ptE b),i64 w] [] (outE (qp a v b w)) []:=by
 refine zc Tryz.func425 ?_;have bad:¬(zr a/\zr v/\zr b/\ki w)->qp a v b w=(zp,zp,false):=λh=>by unfold qp;rw[Xe h]
 refine zb.t (z9 a)<|⟨λa1=>vq (bad (λh=>a1 h.1)),λa1=>?_⟩;refine zb.t (z9 v)<|⟨λa2=>vq (bad (λh=>a2 h.2.1)),λa2=>?_⟩;refine zb.t (z9 b)<|⟨λa3=>vq (bad (λh=>a3 h.2.2.1)),λa3=>?_⟩;refine zb.t (ztQ w)<|⟨λa4=>vq (bad (λh=>a4 h.2.2.2)),λa4=>?_⟩;have ha:=Xa.1 a1;have hv:=Xa.1 a2;have hb:=Xa.1 a3;have hw:=Xa.1 a4;have hx:=zcd hv ha;have hy:=zcd hb hv
 have e:qp a v b w=if wdg (zn v a) (zn b v)=0 then(zp,zp,false) else if 0<wdg (zn v a) (zn b v) then(zhz (z5 (zn v a) w),zhz (z5 (zn b v) w),true) else(z5 (zn v a) w,z5 (zn b v) w,true):=by
  unfold qp;rw[Xc (λk=>k ⟨ha,hv,hb,hw⟩)]
 have c1:=zmj v a;rw[zku hv ha]at c1;have c2:=zmj b v;rw[zku hb hv]at c2;have n1:=zaW (zn v a) w;have n2:=zaW (zn b v) w;refine Dr.k<|zb.t c1<|zb.t c2<|Dr.k<|zb.t (zgx (zn v a) w)<|zb.t (zgx (zn b v) w) ?_;refine zb.t (zqh (zn v a) (zn b v) hx hy)<|⟨λk=>?_,λk=>?_⟩
 ·exact vq (e.trans (Xe k))
 refine⟨λk2=>?_,λk2=>?_⟩
 ·refine Dr.d ?_;(iterate 4 refine Ar.o ?_);exact Ob.mk (by kernel_rfl)<|Dr.d<|Ob.mk (by kernel_rfl)<|vq (n:=zhz (z5 (zn v a) w)) (m:=zhz (z5 (zn b v) w)) (e.trans ((Xc k).trans (Xe k2)))
 exact Dr.d<|Ob.mk (by kernel_rfl)<|vq (e.trans ((Xc k).trans (Xc k2)))
def wcell(i k j:Nat):Pt:=if j%4<i∨(j%4=i/\j/4<k) then yc.getD j zp else zp
def zhG(i k:Nat):List SV:=(List.range 16).flatMap λj=>ptE (wcell i k j)
def zDL:CG0 450 [] [] (.agg (zhG 4 0)) []:=by
 refine zc Tryz.func450 ?_;refine⟨Nat,λi=>⟨[(10,i64 (i:Int)),(9,.agg [i64 16384,i64 0,i64 15137,i64 6270,i64 11585,i64 11585,i64 6270,i64 15137]),(1,.loc 1 0),(0,.loc 0 0)],[(1,.box 399 (zhG i 0)),(0,.box 399 (zhG 0 0))],2,28,0⟩,λi=>i<=4,λi=>4-i,0,?_,?_,?_⟩
 ·exact Xh _
 ·exact zf [0,1]
 rintro i hi
 rcases Qe i 4 with c|c
 ·obtain⟨j,e⟩:∃j,j=i:=⟨_,rfl⟩;obtain⟨n,hn⟩:∃n,i+1=n:=⟨_,rfl⟩;obtain rfl|rfl|rfl|rfl:i=0∨i=1∨i=2∨i=3:=oM
  all_goals
   refine Br.y<|⟨Nat,λk=>⟨[(14,i64 (k:Int)),(3,.loc 2 0),(2,i64 (j:Int)),(10,i64 (j:Int)),(9,.agg [i64 16384,i64 0,i64 15137,i64 6270,i64 11585,i64 11585,i64 6270,i64 15137]),(1,.loc 1 0),(0,.loc 0 0)],[(2,.box 28 (ptE (yc.getD ((4*k+j)%16) zp))),(1,.box 399 (zhG j k)),(0,.box 399 (zhG 0 0))],3,28,0⟩,λk=>k<=4,λk=>4-k,0,Xh _,?_,?_⟩
   ·subst e;exact zf [0,1,2]
   intro k hk
   rcases Qe k 4 with d|d
   ·have q:=zDA (yc.getD (4*k+j) zp);obtain⟨m,hm⟩:∃m,k+1=m:=⟨_,rfl⟩;obtain rfl|rfl|rfl|rfl:k=0∨k=1∨k=2∨k=3:=oM
    all_goals
     subst e;refine Br.y<|Ar.fit dC<|Ar.fit dC<|zb.t q<|Ar.fit dC<|⟨m,oM,?_,by dsimp only;omega⟩;subst hm;exact zf [0,1,2]
   obtain rfl:k=4:=by omega
   subst e;refine⟨λh=>absurd h dC,λ_=>?_⟩;refine Ar.fit dC<|⟨n,oM,?_,by dsimp only;omega⟩;subst hn;exact zf [0,1]
 obtain rfl:i=4:=by omega
 refine⟨λh=>absurd h dC,λ_=>?_⟩;exact .refl
def zsl(p:Pt)(w:Int):CG0 402 [.agg (ptE p),i64 w] [] (.sl ptE (vF p w)) []:=by
 refine zc Tryz.func402 ?_
 have bad:¬(ki w/\zr p)->LE (.val (.slice none 0 0)) (.sl ptE (vF p w)):=λh=>by
  unfold vF;rw[Xe h];exact zD
 refine zb.t (vO w)<|⟨λa1=>bad (λh=>a1 h.1),λa1=>?_⟩;refine zb.t (k8 p)<|⟨λa2=>bad (λh=>a2 h.2),λa2=>?_⟩;have h:ki w/\zr p:=⟨Xa.1 a1,Xa.1 a2⟩;refine zb.t zDL<|⟨Nat,λi=>⟨[(17,i64 (i:Int)),(16,.agg (zhG 4 0)),(5,.own 1),(2,.loc 0 0),(1,i64 w)],[(1,.arr 28 ptE 2 ((yc.take i).map (zdR p w))),(0,.box 28 (ptE p))],2,39,0⟩,λi=>i<=16,λi=>16-i,0,?_,?_,?_⟩
 ·exact Xh _
 ·exact zC [(0,some 0),(1,none)]
 rintro i hi
 rcases Qe i 16 with c|c
 ·have hb:=zof (yc.getD i zp) (by rw[Xt,Xb (show i<yc.length from c)];exact KJ _);have t1:=zeB hb.1 h.1;have t2:=zeB hb.2 h.1;have f1: -9223372036854775808<=(yc.getD i zp).x*w/\(yc.getD i zp).x*w<=9223372036854775807:=oM;have f2: -9223372036854775808<=(yc.getD i zp).y*w/\(yc.getD i zp).y*w<=9223372036854775807:=oM;have d1:=uV ((yc.getD i zp).x*w) 32768 ⟨oM,oM⟩ ⟨dC,dC⟩;have d2:=uV ((yc.getD i zp).y*w) 32768 ⟨oM,oM⟩ ⟨dC,dC⟩;rw[t1.2.2]at d1;rw[t2.2.2]at d2
  obtain⟨L,hL⟩:∃L,zdR p w (yc.getD i zp)=L:=⟨_,rfl⟩;have d3:=zfw p ⟨z6 ((yc.getD i zp).x*w) 32768,z6 ((yc.getD i zp).y*w) 32768⟩ h.2.p45.s ⟨by dsimp only;omega,by dsimp only;omega⟩;rw[show zA p _=L from hL]at d3;have n1:((yc.take i).map (zdR p w)).length<=16:=by rw[Xx,Xo];omega
  obtain⟨k,hk⟩:∃k,i+1=k:=⟨_,rfl⟩;clear hi hb t1 t2;obtain rfl|rfl|rfl|rfl|rfl|rfl|rfl|rfl|rfl|rfl|rfl|rfl|rfl|rfl|rfl|rfl:i=0∨i=1∨i=2∨i=3∨i=4∨i=5∨i=6∨i=7∨i=8∨i=9∨i=10∨i=11∨i=12∨i=13∨i=14∨i=15:=oM
  all_goals
   refine Br.y<|Dr.d<|Ar.fit f1<|zb.t d1<|Ar.fit f2<|zb.t d2 ?_;refine zb.t d3<|⟨Pt,ptE,[L],rfl,Ob.o0 ?_⟩;refine⟨[L],rfl,Ob.mk ⟨by simp only[Xn,Xr];omega,by simp only[Xn,Xr];omega,dC,λ_ _=>rfl⟩ ?_⟩;refine Ob.mk (by kernel_rfl)<|Ar.fit dC<|⟨k,oM,?_,by dsimp only;omega⟩;subst hk hL;exact zf [0,4]
 obtain rfl:i=16:=by omega
 refine⟨λh=>absurd h dC,λ_=>?_⟩;refine zb.see 1 _ (zbj (yc.map (zdR p w)) (by show((16:Nat):Int)<=_;decide)) rfl rfl rfl<|z0 (show kE (yc.map (zdR p w))=vF p w from ?_);unfold vF;rw[Xc (λk=>k h)];rfl
def zeC(p q:Pt)(hp:S50 p.x/\S50 p.y)(hq:S50 q.x/\S50 q.y):CG0 409 [.agg (ptE p),.agg (ptE q)] [] (.agg (ptE (zA p q))) []:=by
 refine zc Tryz.func409 ?_;(iterate 2 refine Ar.o ?_);exact .refl
def zog(r:List Pt):CG0 407 [.sl ptE r] [] (.sl zk (kN r)) []:=by
 refine zc Tryz.func407 ?_;intro hl1;refine⟨λh=>?_,λh=>?_⟩
 ·have e:kN r=[]:=by unfold kN;rw[Xe (Xp (by have h:(r.length:Int)=0:=h;omega))]
  rw[e];exact zD
 refine⟨List Pt,zk,[r],rfl,Ob.o0 ?_⟩;refine z0 (show[r]=kN r from ?_);unfold kN;rw[Xc (λe=>h (by rw[e];rfl))]
end Go.Gs
