/- The offset of a stroke, both texts. -/
import Derived.Test.YtjgadnaphffpkaaGreatDoorMA
import Derived.Test.YtjgadnaphffpkaaGreatDoorMAQ
import Derived.Test.YtjgadnaphffpkaaGreatDoorMAP
set_option maxRecDepth 100000
set_option maxHeartbeats 8000000
set_option linter.all false
namespace Go.Gs
open Go.Proofs
abbrev S50(n:Int):Prop:= -1125899906842624<=n/\n<=1125899906842624
theorem zjM(p q:Pt)(hp:S50 p.x/\S50 p.y)(hq:S50 q.x/\S50 q.y):CG0 359 [.agg (ptE p),.agg (ptE q)] [] (.agg (ptE (zn p q))) []:=by
 refine zc Tryz.func359 ?_;(iterate 2 refine Ar.o ?_);exact .refl
theorem yc(p q:Pt)(hp:S50 p.x/\S50 p.y)(hq:S50 q.x/\S50 q.y):CG0 360 [.agg (ptE p),.agg (ptE q)] [] (.agg (ptE (zz p q))) []:=by
 refine zc Tryz.func360 ?_;(iterate 2 refine Ar.o ?_);exact .refl
theorem zhd(p q:Pt)(hp:S50 p.x/\S50 p.y)(hq:S50 q.x/\S50 q.y):CG0 368 [.agg (ptE p),.agg (ptE q)] [] (.agg (ptE (zn p q))) []:=by
 refine zc Tryz.func368 ?_;(iterate 2 refine Ar.o ?_);exact .refl
theorem ze7(p q:Pt)(hp:S50 p.x/\S50 p.y)(hq:S50 q.x/\S50 q.y):CG0 370 [.agg (ptE p),.agg (ptE q)] [] (.agg (ptE (zz p q))) []:=by
 refine zc Tryz.func370 ?_;(iterate 2 refine Ar.o ?_);exact .refl
variable{w:Int}
theorem zhe{v:Pt}(hw:kr w)(hx:¬zbf v.x)(hy:¬zbf v.y):
  (0<=v.x*v.x/\v.x*v.x<=4398046511104)/\(0<=v.y*v.y/\v.y*v.y<=4398046511104)/\
  (-34359738368<=v.x*w/\v.x*w<=34359738368)/\(-34359738368<= -v.y*w/\ -v.y*w<=34359738368)/\
  (0<=isq (65536*(v.x*v.x+v.y*v.y))/\isq (65536*(v.x*v.x+v.y*v.y)) < 4294967296):=by
 unfold zbf at hx hy;unfold kr at hw;have h1:=jx (A:=2097152) (B:=2097152) (a:=v.x) (b:=v.x) oM oM;have h2:=jx (A:=2097152) (B:=2097152) (a:=v.y) (b:=v.y) oM oM;have h3:=jx (A:=2097152) (B:=16384) (a:=v.x) (b:=w) oM oM;have h4:=jx (A:=2097152) (B:=16384) (a:= -v.y) (b:=w) oM oM;have h5:=jg v.x;have h6:=jg v.y;have h7:=zf2 (n:=65536*(v.x*v.x+v.y*v.y)) oM oM;have h8:=zwe (n:=65536*(v.x*v.x+v.y*v.y)) oM oM;exact⟨oM,oM,oM,oM,h7.1,h8⟩
theorem zaJ(v:Pt)(w:Int):(-4398046511104<=(z7 v w).x/\(z7 v w).x<=4398046511104)/\(-4398046511104<=(z7 v w).y/\(z7 v w).y<=4398046511104):=by
 unfold z7
 split
 ·exact⟨⟨dC,dC⟩,⟨dC,dC⟩⟩
 ·rename_i h;rw[not_or,not_or,not_or]at h;have hf:=zhe (Xa.1 h.1) h.2.1 h.2.2.1;exact⟨u0 (M:=4398046511104) oM,u0 (M:=4398046511104) oM⟩
theorem zjN(v:Pt)(w:Int):CG0 387 [.agg (ptE v),i64 w] [] (.agg (ptE (z7 v w))) []:=by
 refine zc Tryz.func387 ?_
 have bad:(¬kr w∨zbf v.x∨zbf v.y∨v=zp)->LE (.agg (ptE zp)) (.agg (ptE (z7 v w))):=λh=>by
  unfold z7;rw[if_pos h];exact .refl
 refine zb.t (vK w)<|⟨λa1=>bad (.inl a1),λa1=>?_⟩;refine zb.t (zz9 v.x)<|⟨λa2=>bad (.inr (.inl a2)),λa2=>?_⟩;refine zb.t (zz9 v.y)<|⟨λa3=>bad (.inr (.inr (.inl a3))),λa3=>?_⟩;refine⟨λa4=>bad (.inr (.inr (.inr (k8.1 a4)))),λa4=>?_⟩;have a1:=Xa.1 a1;have hf:=zhe a1 a2 a3;have a4:¬v=zp:=λh=>a4 (k8.2 h)
 (iterate 5 refine Ar.o ?_);refine zb.t (zwg (65536*(v.x*v.x+v.y*v.y)) oM)<|Ar.o<|Dr.k ?_;unfold kr at a1;unfold zbf at a2 a3;(iterate 3 refine Ar.o ?_);refine zb.t (zM (-v.y*w*128) (isq (65536*(v.x*v.x+v.y*v.y))) ⟨oM,oM⟩ ⟨oM,oM⟩) ?_;rw[uM oM];(iterate 2 refine Ar.o ?_);refine zb.t (zM (v.x*w*128) (isq (65536*(v.x*v.x+v.y*v.y))) ⟨oM,oM⟩ ⟨oM,oM⟩) ?_;rw[uM oM];unfold z7
 rw[if_neg (by unfold kr zbf;intro h;rcases h with h | h | h | h <;> first | exact a4 h | omega)];exact .refl
theorem zf9(v:Pt)(w:Int):CG0 367 [.agg (ptE v),i64 w] [] (.agg (ptE (z7 v w))) []:=by
 refine zc Tryz.func367 ?_
 have bad:(¬kr w∨zbf v.x∨zbf v.y∨v=zp)->LE (.agg (ptE zp)) (.agg (ptE (z7 v w))):=λh=>by
  unfold z7;rw[if_pos h];exact .refl
 have far:∀n:Int,¬(-2097152<=n/\n<=2097152)->zbf n:=λn h=>by unfold zbf;omega
 refine zb.t (znc w)<|⟨λa1=>bad (.inl a1),λa1=>?_⟩;refine zb.t (zab v.x (-2097152) 2097152)<|⟨λa2=>bad (.inr (.inl (far _ a2))),λa2=>?_⟩;refine zb.t (zab v.y (-2097152) 2097152)<|⟨λa3=>bad (.inr (.inr (.inl (far _ a3)))),λa3=>?_⟩;have a1:=Xa.1 a1;have b2:¬zbf v.x:=by unfold zbf;omega
 have b3:¬zbf v.y:=by unfold zbf;omega
 have hf:=zhe a1 b2 b3;(iterate 5 refine Ar.o ?_);refine zb.t (zsp (65536*(v.x*v.x+v.y*v.y)) oM)<|Ar.o<|Dr.k ?_;(iterate 3 refine Ar.o ?_);refine zb.t (uc (-v.y*w*128) (isq (65536*(v.x*v.x+v.y*v.y))) ⟨oM,oM⟩ ⟨oM,oM⟩) ?_;rw[uM oM];(iterate 2 refine Ar.o ?_);refine zb.t (uc (v.x*w*128) (isq (65536*(v.x*v.x+v.y*v.y))) ⟨oM,oM⟩ ⟨oM,oM⟩) ?_;rw[uM oM]
 by_cases a4:v=zp
 ·have e1:zQ (-v.y*w*128) (isq (65536*(v.x*v.x+v.y*v.y)))=0:=by
   rw[a4,show -zp.y*w*128=0 by show(-0:Int)*w*128=0;simp];exact zlB
  have e2:zQ (v.x*w*128) (isq (65536*(v.x*v.x+v.y*v.y)))=0:=by
   rw[a4,show zp.x*w*128=0 by show(0:Int)*w*128=0;simp];exact zlB
  rw[e1,e2];exact bad (.inr (.inr (.inr a4)))
 ·unfold z7;rw[if_neg (by intro h;rcases h with h | h | h | h <;> first | exact a4 h | exact h a1 | exact b2 h | exact b3 h)];exact .refl
structure Pl where
 pts:List Pt
 cl:Bool
def plE(q:Pl):List SV:=[.sl ptE q.pts,pr (q.cl=true)]
def zk(r:List Pt):List SV:=[.sl ptE r]
def qX:List Pt->List Pt
 | []=>[]
 | p::r=>match r with
  | []=>[p]
  | q::_=>if p=q then qX r else p::qX r
def qi(l:List Pt):List Pt:=if 1 < l.length/\l.getLast?=l.head? then l.dropLast else l
def zu(p:Pl):Pl:=⟨if p.cl then qi (qX p.pts) else qX p.pts,p.cl⟩
def jD:List Pt->Prop
 | []=>True
 | p::r=>(∀q,r.head?=some q->p≠q)/\jD r
theorem zjO:∀l:List Pt,(qX l).head?=l.head?
 | []=>rfl
 | [p]=>rfl
 | p::q::r=>by
  unfold qX;dsimp only
  split
  ·rename_i h;rw[zjO (q::r),h];rfl
  ·rfl
theorem ud:∀l:List Pt,jD (qX l)
 | []=>trivial
 | [p]=>⟨λ_ h=>(by cases h),trivial⟩
 | p::q::r=>by
  unfold qX;dsimp only
  split
  ·exact ud (q::r)
  ·rename_i h;refine⟨λz hz=>?_,ud (q::r)⟩;rw[zjO]at hz
   cases hz
   exact h
theorem zek:∀{l:List Pt} {p:Pt},p∈qX l->p∈l
 | [],_,h=>h
 | [q],_,h=>h
 | a::q::r,p,h=>by
  unfold qX at h;dsimp only at h
  split at h
  ·exact .tail _ (zek h)
  ·cases h with
   | head=>exact .head _
   | tail _ h=>exact .tail _ (zek h)
def nth(l:List Pt)(i:Nat):Pt:=l.getD i zp
def kY(p:Pl)(pen:Pen):List (List Pt):=
 ((List.range (p.pts.length - 1)).flatMap λi=>kQ (jZ (nth p.pts i) (nth p.pts (i+1)) pen.w))++
 (if p.cl/\1 < p.pts.length then kQ (jZ (nth p.pts (p.pts.length - 1)) (nth p.pts 0) pen.w) else[])
def jj(p:Pl)(pen:Pen):List (List Pt):=
 if p.pts.length<=1 then[] else
 (List.range p.pts.length).flatMap λi=>if ¬p.cl=true/\(i=0∨i=p.pts.length - 1) then[]
  else jb (nth p.pts ((i+p.pts.length - 1) % p.pts.length)) (nth p.pts i) (nth p.pts ((i+1) % p.pts.length)) pen
def y5(a b:Pt)(pen:Pen):List Pt:=if pen.c=5 then zjH a b pen.w else if pen.c=3 then vA b pen.w else[]
def za1(p:Pt)(pen:Pen):List Pt:=if pen.c=5 then zdy p pen.w else if pen.c=3 then vA p pen.w else[]
def zdC(p:Pl)(pen:Pen):List (List Pt):=
 if p.pts.length=1 then kQ (za1 (nth p.pts 0) pen)
 else if 1 < p.pts.length/\¬p.cl=true then kQ (y5 (nth p.pts 1) (nth p.pts 0) pen)++kQ (y5 (nth p.pts (p.pts.length - 2)) (nth p.pts (p.pts.length - 1)) pen) else[]
def kw(p:Pl)(pen:Pen):List (List Pt):=kY p pen++jj p pen++zdC p pen
def qB(l:List (List Pt)):Nat:=(l.map List.length).sum
def kD(p:Pl)(pen:Pen):List (List Pt)×Int:=
 if ¬kF pen then([],13) else if ¬∀q∈p.pts,zr q then([],6) else if 4096 < p.pts.length then([],5)
 else if ¬∀r∈kw (zu p) pen,∀q∈r,zr q then([],6) else if 4096 < qB (kw (zu p) pen) then([],5) else(kw (zu p) pen,0)
def qp:List Pl->Pen->List (List Pt)×Int
 | [],_=>([],0)
 | p::r,pen=>if (kD p pen).2≠0 then([],(kD p pen).2)
  else if (qp r pen).2≠0 then([],(qp r pen).2) else((kD p pen).1++(qp r pen).1,0)
def qC(l:List Pl)(pen:Pen):List (List Pt)×Int:=
 if ¬kF pen then([],13) else if (qp l pen).2≠0 then([],(qp l pen).2) else if 4096 < qB (qp l pen).1 then([],5) else((qp l pen).1,0)
def yu(a b c:Pt):Int:=(a.x - 2*b.x+c.x)*(a.x - 2*b.x+c.x)+(a.y - 2*b.y+c.y)*(a.y - 2*b.y+c.y)
def enough(need tol:Int)(n:Nat):Prop:=need<=16*n*n*n*n*tol*tol
instance (need tol:Int) (n:Nat):Decidable (enough need tol n):=inferInstanceAs (Decidable (_<=_))
def yD(need tol:Int):Nat->Nat->Int×Int
 | 0,_=>(0,11)
 | k+1,n=>if enough need tol n then(n,0) else yD need tol k (n+1)
def kZ(need tol:Int)(l:List Pt):Int×Int:=if ¬(1<=tol/\tol<=256) then(0,2) else if ¬∀p∈l,zr p then(0,6) else yD need tol 64 1
def j7(a b c:Pt)(tol:Int):Int×Int:=kZ (yu a b c) tol [a,b,c]
def j8(a b c d:Pt)(tol:Int):Int×Int:=kZ (9*max (yu a b c) (yu b c d)) tol [a,b,c,d]
def zo6(l:List Pt)(i n:Int):Prop:=(∀p∈l,zr p)/\1<=n/\n<=64/\0<=i/\i<=n
instance (l:List Pt) (i n:Int):Decidable (zo6 l i n):=inferInstanceAs (Decidable (_/\_))
def q1(i n a b c:Int):Int:=zdx ((n - i)*(n - i)*a+2*i*(n - i)*b+i*i*c) (n*n)
def yV(a b c:Pt)(i n:Int):Pt:=if ¬zo6 [a,b,c] i n then zp else⟨q1 i n a.x b.x c.x,q1 i n a.y b.y c.y⟩
def c1(i n a b c d:Int):Int:=zdx ((n - i)*(n - i)*(n - i)*a+3*i*(n - i)*(n - i)*b+3*i*i*(n - i)*c+i*i*i*d) (n*n*n)
def yW(a b c d:Pt)(i n:Int):Pt:=if ¬zo6 [a,b,c,d] i n then zp else⟨c1 i n a.x b.x c.x d.x,c1 i n a.y b.y c.y d.y⟩
def zbZ(f:Int->Pt)(n:Nat):List Pt:=(List.range n).map λ(i:Nat)=>f ((i:Int)+1)
def zcU(a b c:Pt)(tol:Int):List Pt×Int:=if (j7 a b c tol).2≠0 then([],(j7 a b c tol).2) else(zbZ (λi=>yV a b c i (j7 a b c tol).1) (j7 a b c tol).1.toNat,0)
def zcV(a b c d:Pt)(tol:Int):List Pt×Int:=if (j8 a b c d tol).2≠0 then([],(j8 a b c d tol).2) else(zbZ (λi=>yW a b c d i (j8 a b c d tol).1) (j8 a b c d tol).1.toNat,0)
def ur(rs:List (List Pt)):Prop:=(qB rs:Int)<=4096/\∀r∈rs,∀p∈r,zr p
instance (rs:List (List Pt)):Decidable (ur rs):=inferInstanceAs (Decidable (_/\_))
theorem zel(r:List Pt):ur [r]↔zm9 r:=by
 unfold ur zm9 qB;simp
def zhX(xs:List Pt):Int:=match xs.findIdx? (λp=>decide (¬zr p)) with
 | some i=>i
 | none=> -1
theorem zo7{xs:List Pt}{i:Nat}{p:Pt}(h:∀(j:Nat) q,j < i->xs[j]? =some q->zr q)(hi:xs[i]? =some p)(hp:¬zr p):zhX xs=i:=by
 have:xs.findIdx? (λp=>decide (¬zr p))=some i:=by
  rw[KE];obtain⟨hl,he⟩:=Xc.1 hi;refine⟨hl,by simp[he,hp],λj hj=>?_⟩;have:=h j xs[j] hj (Xb _);simp[this]
 simp only[zhX,this]
variable{xs:List Pt}
theorem ze8(h:∀p∈xs,zr p):zhX xs= -1:=by
 have:xs.findIdx? (λp=>decide (¬zr p))=none:=by
  rw[Kt];intro p hp;simp[h p hp]
 simp only[zhX,this]
theorem zga:0<=zhX xs↔¬∀p∈xs,zr p:=by
 constructor
 ·intro h hall;rw[ze8 hall]at h;omega
 ·intro h;unfold zhX
  split
  ·omega
  ·rename_i hn;rw[Kt]at hn;exact absurd (λp hp=>by simpa using hn p hp) h
theorem zwp(p:Pt):CG0 138 [.agg (ptE p)] [] (pr (¬zr p)) []:=by
 refine zc Tryz.func138 ?_;exact zb.t (qg p)<|zF K4
theorem zyK(xs:List Pt):CG0 200 [.sl ptE xs,.fn 138 []] [] (i64 (zhX xs)) []:=by
 refine zc Tryz.func200 ?_;intro hl0;refine⟨Int,λi=>⟨[(8,i64 i),(7,i64 xs.length),(0,.sl ptE xs),(1,.fn 138 [])],[],0,19,0⟩,λi=>0<=i/\i<=xs.length/\∀(j:Nat) q,(j:Int) < i->xs[j]? =some q->zr q,λi=>((xs.length:Int) - i).toNat,0,?_,?_,?_⟩
 ·exact⟨oM,oM,λj q hj=>by omega⟩
 ·exact zE []
 rintro i ⟨h1,h2,h3⟩
 refine⟨λh4=>?_,λh4=>?_⟩
 ·refine Ob.o ?_;intro x hx;refine zb.t (zwp x)<|⟨λh5=>?_,λh5=>?_⟩
  ·refine zi ?_;rw[zo7 (i:=i.toNat) (λj q hj=>h3 j q oM) hx h5];omega
  ·refine Ar.o<|⟨i+1,⟨oM,oM,λj q hj hq=>?_⟩,zE [],by dsimp only;omega⟩
   by_cases e:j=i.toNat
   ·subst e;rw[hx]at hq;cases hq;exact Xa.1 h5
   ·exact h3 j q oM hq
 ·refine zi (ze8 λp hp=>?_).symm;obtain⟨j,hj,he⟩:=Kg hp;exact h3 j p oM (by rw[← he];exact Xb hj)
theorem zra(xs:List Pt):CG0 137 [.sl ptE xs,.fn 138 []] [] (pr (¬∀p∈xs,zr p)) []:=by
 refine zc Tryz.func137 ?_;exact zb.t (zyK xs)<|zF zga
theorem vL{rs:List (List Pt)}{i:Nat}{r:List Pt}(h:rs[i]? =some r):qB (rs.take (i+1))=qB (rs.take i)+r.length:=by
 unfold qB;rw[Xm,h];simp
theorem zcA(rs:List (List Pt))(i:Nat):qB (rs.take i)<=qB rs:=by
 unfold qB
 conv=>rhs;rw[← Kf i rs]
 rw[XI,Jo];omega
variable{i:Nat}{r:List Pt}
theorem zcB{rs:List (List Pt)}(h:rs[i]? =some r)(ha:∀q∈rs.take i,∀p∈q,zr p)(hr:∀p∈r,zr p):∀q∈rs.take (i+1),∀p∈q,zr p:=by
 rw[Xm,h];intro q hq
 rcases Xo.1 hq with hq | hq
 ·exact ha q hq
 ·rw[Option.toList_some,Xr]at hq;exact hq ▸ hr
theorem zjP(rs:List (List Pt))(hs:∀r∈rs,(r.length:Int)<=9223372036854771711):CG0 69 [.sl zk rs] [] (pr (ur rs)) []:=by
 refine zc Tryz.func69 ?_;intro hl1;refine⟨Nat,λi=>⟨[(3,i64 (qB (rs.take i):Int)),(8,i64 (i:Int)),(7,i64 (rs.length:Int)),(6,.sl zk rs)],[],0,23,0⟩,λi=>i<=rs.length/\(qB (rs.take i):Int)<=4096/\∀q∈rs.take i,∀p∈q,zr p,λi=>rs.length - i,0,?_,?_,?_⟩
 ·exact⟨Xe _,by show((0:Nat):Int)<=4096;decide,λq hq=>by cases hq⟩
 ·exact zE []
 rintro i ⟨h1,h2,h3⟩
 refine⟨λg=>?_,λg=>?_⟩
 ·refine Ob.o ?_;intro r hr;have hr:rs[i]? =some r:=hr;have hrl:=hs r (Xd hr);have hc:=vL hr;have hcl:=zcA rs (i+1);intro hl2;refine Ar.o<|Br.mk (λa1=>zd (λk=>by have:=k.1;omega)) (λa1=>?_);refine zb.t (zra r)<|⟨λa2=>zd (λk=>a2 (k.2 r (Xd hr))),λa2=>?_⟩;refine Ar.o ?_;have e:(qB (rs.take i):Int)+(r.length:Int)=((qB (rs.take (i+1)):Nat):Int):=oM;refine⟨i+1,⟨oM,oM,zcB hr h3 (Xa.1 a2)⟩,?_,by dsimp only;omega⟩;dsimp only;rw[← e]
  exact zE []
 ·rw[Xg oM]at h2 h3;exact zT ⟨h2,h3⟩
theorem zo8(rs:List (List Pt)):CG0 74 [.sl zk rs] [] (pr (ur rs)) []:=by
 refine zc Tryz.func74 ?_;refine⟨Nat,λi=>⟨[(3,i64 (qB (rs.take i):Int)),(4,i64 (i:Int)),(0,.sl zk rs)],[],0,45,0⟩,λi=>i<=rs.length/\(qB (rs.take i):Int)<=4096/\∀q∈rs.take i,∀p∈q,zr p,λi=>rs.length - i,0,?_,?_,?_⟩
 ·exact⟨Xe _,by show((0:Nat):Int)<=4096;decide,λq hq=>by cases hq⟩
 ·exact zE []
 rintro i ⟨h1,h2,h3⟩
 intro hl1;refine⟨λg=>?_,λg=>?_⟩
 ·refine Ob.o ?_;intro r hr;have hr:rs[i]? =some r:=hr;have hc:=vL hr;have hcl:=zcA rs (i+1);intro hl2;refine Ar.o<|Br.mk (λa1=>zd (λk=>by have:=k.1;omega)) (λa1=>?_);refine Ob.o ?_;intro r' hr';have e:r'=r:=Xj ((show rs[i]? =some r' from hr').symm.trans hr);rw[e];intro hl3;refine Ar.o ?_;have e:(qB (rs.take i):Int)+(r.length:Int)=((qB (rs.take (i+1)):Nat):Int):=oM;rw[e]
  refine⟨Nat,λk=>⟨[(5,i64 (k:Int)),(3,i64 (qB (rs.take (i+1)):Int)),(4,i64 (i:Int)),(0,.sl zk rs)],[],0,45,0⟩,λk=>k<=r.length/\∀p∈r.take k,zr p,λk=>r.length - k,0,?_,?_,?_⟩
  ·exact⟨Xe _,λq hq=>by cases hq⟩
  ·exact zE []
  rintro k ⟨k1,k2⟩
  refine Ob.o ?_;intro r' hr';have e:r'=r:=Xj ((show rs[i]? =some r' from hr').symm.trans hr);rw[e];intro hl4;refine⟨λg2=>?_,λg2=>?_⟩
  ·refine Ob.o ?_;intro r' hr';have e:r'=r:=Xj ((show rs[i]? =some r' from hr').symm.trans hr);rw[e];refine Ob.o ?_;intro x hx;have hx:r[k]? =some x:=hx;refine zb.t (kH x)<|⟨λa2=>zd (λkk=>a2 (kk.2 r (Xd hr) x (Xd hx))),λa2=>?_⟩;refine Ar.o<|⟨k+1,⟨oM,?_⟩,zE [],by dsimp only;omega⟩;rw[Xm,hx];intro q hq
   rcases Xo.1 hq with hq | hq
   ·exact k2 q hq
   ·rw[Option.toList_some,Xr]at hq;exact hq ▸ Xa.1 a2
  ·rw[Xg oM]at k2;exact Ar.o<|⟨i+1,⟨oM,oM,zcB hr h3 k2⟩,zE [],by dsimp only;omega⟩
 ·rw[Xg oM]at h2 h3;exact zT ⟨h2,h3⟩
theorem zA7(n:Int)(p q:Pt)(hn: -4611686018427387904<=n/\n<=4611686018427387904):
  CG0 408 [.agg (ptE p),.agg (ptE q),.loc 0 0] [(0,.box 3 [i64 n])] (.tup []) [(0,.box 3 [i64 (n+zap p q)])]:=by
 have hc:=zbW (jU p) (jU q);exact uq tok mix Tryz.func408 rfl rfl rfl rfl rfl<|Dr.k<|zb.t (zyH p q)<|Ar.fit (by unfold zap;omega)<|⟨rfl,.refl⟩
theorem zsw{n:Nat}(h:i < n):((i:Int)+1) % (n:Int)=(((i+1) % n:Nat):Int):=by rw[Ja,Qy];rfl
variable{x:Pt}
theorem zlG{y:Pt}(hx:r[i]? =some x)(hy:r[(((i:Int)+1) % (r.length:Int)).toNat]? =some y)(h:i < r.length):vd r (i+1)=vd r i+zap x y:=by
 rw[zsw h,XX]at hy;rw[ze5,Xt,Xt,hx,hy];rfl
theorem zA8(r:List Pt)(hr:r.length<=4096):
  CG0 407 [.sl ptE r,.fn 408 [.loc 0 0]] [(0,.box 3 [i64 0])] (.tup []) [(0,.box 3 [i64 (vd r r.length)])]:=by
 refine uq tok mix Tryz.func407 rfl rfl rfl rfl rfl ?_;intro hl1;refine⟨Nat,λi=>⟨[(8,i64 (i:Int)),(7,i64 (r.length:Int)),(6,.sl ptE r),(0,.sl ptE r),(1,.fn 408 [.loc 0 0])],[(0,.box 3 [i64 (vd r i)])],1,25,1⟩,λi=>i<=r.length,λi=>r.length - i,0,?_,?_,?_⟩
 ·exact Xe _
 ·exact zf [0]
 rintro i h1
 refine⟨λg=>?_,λg=>?_⟩
 ·have g:(i:Int) < r.length:=g;refine Ob.o ?_;intro x hx;refine Dr.d<|Ar.o ?_;intro hl2;refine Dv.pos ⟨oM,oM⟩ ?_;have q1:=Kv ((i:Int)+1) (b:=(r.length:Int)) oM;have q2:=X8 ((i:Int)+1) (b:=(r.length:Int)) oM;refine Ob.mk ⟨q1,q2⟩ ?_;intro y hy;have hx:r[i]? =some x:=hx;have hy:r[(((i:Int)+1) % (r.length:Int)).toNat]? =some y:=hy;have ha:=zhS r i;refine zb.hand 0 _ _ _ rfl (zA7 (vd r i) x y oM) rfl rfl rfl rfl<|Ob.mk (by kernel_rfl)<|Ar.o ?_
  have e:vd r (i+1)=vd r i+zap x y:=zlG hx hy oM;refine⟨i+1,oM,?_,by dsimp only;omega⟩;dsimp only;rw[e];exact zf [0]
 ·have e:i=r.length:=by have g:¬(i:Int) < r.length:=g;omega
  subst e;exact⟨rfl,.refl⟩
theorem zA9(r:List Pt)(hr:(r.length:Int)<=9223372036854771711):CG0 388 [.sl ptE r] [] (i64 (zbX r)) []:=by
 refine zc Tryz.func388 ?_;refine⟨List Pt,zk,[r],rfl,Ob.o0 ?_⟩;refine zb.see 0 _ (zjP [r] (λq hq=>by rw[Xr]at hq;exact hq ▸ hr)) rfl rfl rfl<|Br.mk (λa1=>?_) (λa1=>?_)
 ·refine zi ?_;unfold zbX;rw[if_neg (λh=>a1 ((zel r).2 h))]
 ·have a1:=(zel r).1 (Xa.1 a1);refine zb.give [1] 0 [.sl ptE r,.fn 408 [.loc 0 0]] [(0,.box 3 [i64 0])] [(0,.box 3 [i64 (vd r r.length)])] (.tup []) (zA8 r (by have:=a1.1;omega)) LEs.refl rfl rfl rfl ⟨⟨_,rfl,rfl,rfl⟩,trivial⟩ rfl ⟨⟨rfl,rfl⟩,trivial⟩<|zi ?_;unfold zbX;rw[if_pos a1]
theorem zBa(r:List Pt)(i:Nat)(y:Pt)(h:i < r.length/\r.length<=4096)(hy:r[(((i:Int)+1) % (r.length:Int)).toNat]? =some y):
  CG0 411 [.sl ptE r,i64 (i:Int)] [] (.agg (ptE y)) []:=by
 refine zc Tryz.func411 ?_;refine Ar.o ?_;intro hl1;refine Dv.pos ⟨oM,oM⟩ ?_;have q1:=Kv ((i:Int)+1) (b:=(r.length:Int)) oM;have q2:=X8 ((i:Int)+1) (b:=(r.length:Int)) oM;refine Ob.mk ⟨q1,q2⟩ ?_;intro z hz;have e:z=y:=Xj ((show r[(((i:Int)+1) % (r.length:Int)).toNat]? =some z from hz).symm.trans hy);rw[e];exact .refl
theorem zBb(r:List Pt):CG0 393 [.sl ptE r] [] (i64 (zbX r)) []:=by
 refine zc Tryz.func393 ?_;refine⟨List Pt,zk,[r],rfl,Ob.o0 ?_⟩;refine zb.see 0 _ (zo8 [r]) rfl rfl rfl<|Br.mk (λa1=>?_) (λa1=>?_)
 ·refine zi ?_;unfold zbX;rw[if_neg (λh=>a1 ((zel r).2 h))]
 have a1:=(zel r).1 (Xa.1 a1);have hr:r.length<=4096:=by have:=a1.1;omega
 refine⟨Nat,λi=>⟨[(4,i64 (i:Int)),(3,i64 (vd r i)),(0,.sl ptE r)],[],1,26,0⟩,λi=>i<=r.length,λi=>r.length - i,0,?_,?_,?_⟩
 ·exact Xe _
 ·exact zE []
 rintro i h1
 intro hl1;refine⟨λg=>?_,λg=>?_⟩
 ·have g:(i:Int) < r.length:=g;refine Dr.k<|Ob.o ?_;intro x hx;have hx:r[i]? =some x:=hx;have hj:(i+1) % r.length < r.length:=Kl _ oM;obtain⟨y,hy0⟩:∃y,r[(i+1) % r.length]? =some y:=⟨_,Xb hj⟩;have hy:r[(((i:Int)+1) % (r.length:Int)).toNat]? =some y:=by rw[zsw oM,XX];exact hy0
  refine zb.t (zBa r i y ⟨oM,hr⟩ hy)<|zb.t (zyI x y) ?_;have ha:=zhS r i;have hc:=zbW (jU x) (jU y);refine Ar.fit (by unfold zap;omega)<|Ar.o ?_;have e:vd r (i+1)=vd r i+zap x y:=zlG hx hy oM;refine⟨i+1,oM,?_,by dsimp only;omega⟩;dsimp only;rw[e];exact zE []
 ·have e:i=r.length:=by have g:¬(i:Int) < r.length:=g;omega
  subst e;refine zi ?_;unfold zbX;rw[if_pos a1]
theorem zo9(r:List Pt)(hr:r.length<=4096):CG0 120 [.sl ptE r] [] (.sl ptE r) []:=by
 refine zc Tryz.func120 ?_;refine⟨Pt,ptE,[],rfl,Ob.o2 ?_⟩;refine⟨Nat,λi=>⟨[(4,i64 (i:Int)),(3,.own 0),(0,.sl ptE r)],[(0,.arr 35 ptE 2 (r.take i))],1,20,0⟩,λi=>i<=r.length,λi=>r.length - i,0,?_,?_,?_⟩
 ·exact Xe _
 ·exact zf [0]
 rintro i h1
 intro hl1;refine⟨λg=>?_,λg=>?_⟩
 ·have g:(i:Int) < r.length:=g;refine Ob.o ?_;intro x hx;have hx:r[i]? =some x:=hx;refine⟨Pt,ptE,[x],rfl,Ob.o0 ?_⟩;have hlt:(r.take i).length=i:=by rw[Xk];omega
  refine⟨[x],rfl,Ob.mk ⟨(by show _*(16:Int)<=_;simp only[hlt,Xl,Xs];omega),(by simp only[hlt,Xl,Xs];omega),dC,λ_ _=>rfl⟩ ?_⟩;exact Ar.o<|⟨i+1,oM,zC [2] ⟨congrArg (λq=>some (Mem.arr 35 ptE 2 q)) (by rw[Xm,hx];rfl),trivial⟩,by dsimp only;omega⟩
 ·exact z9 (by rw[Xg (by have g:¬(i:Int) < r.length:=g;omega)])
theorem zlH:zbX []=0:=by decide +kernel
theorem zhf{r:List Pt}(h:zbX r≠0):r.length<=4096:=by
 unfold zbX at h
 split at h
 ·rename_i k;have:=k.1;omega
 ·exact absurd rfl h
theorem za2(r:List Pt):CG0 369 [.sl ptE r] [] (.sl ptE (kG r)) []:=by
 refine zc Tryz.func369 ?_;refine zb.t (zBb r)<|⟨λa1=>?_,λa1=>?_⟩
 ·exact zb.t (zo9 r (zhf oM))<|z9 (show r=kG r by unfold kG;rw[if_neg oM,if_neg oM])
 refine⟨Pt,ptE,[],rfl,Ob.o2 ?_⟩;refine⟨λa2=>?_,λa2=>?_⟩
 ·have hr:=zhf (r:=r) oM;have e:kG r=zsn r:=by unfold kG;rw[if_neg oM,if_pos a2]
  cases r with
  | nil=>rw[zlH]at a2;omega
  | cons p q=>
   have hq:q.length+1<=4096:=hr;have hL:((p::q).length:Int)=q.length+1:=by simp only[Xl];omega
   refine Ob.o4 ?_;intro x hx;have hx:some p=some x:=hx
   cases hx
   refine⟨Pt,ptE,[p],rfl,Ob.o0 ?_⟩;refine⟨[p],rfl,Ob.o3 ?_⟩;intro hl1;refine Ar.o<|⟨Nat,λi=>⟨[(5,i64 (i:Int)),(4,.own 0),(0,.sl ptE (p::q))],[(0,.arr 35 ptE 2 (p::(q.drop i).reverse))],1,36,0⟩,λi=>i<=q.length,λi=>i,q.length,?_,?_,?_⟩
   ·exact Xh _
   ·exact zL [2] ⟨congrArg (λn=>some (i64 n)) oM,rfl,rfl,trivial⟩ ⟨congrArg (λr=>some (Mem.arr 35 ptE 2 r)) (by rw[List.drop_length];rfl),trivial⟩
   rintro i h1
   refine⟨λg=>?_,λg=>?_⟩
   ·have g:(0:Int) < i:=g;obtain⟨j,rfl⟩:∃j,i=j+1:=⟨i - 1,oM⟩;refine Ob.o4 ?_;intro y hy;have hy:q[j]? =some y:=hy;refine⟨Pt,ptE,[y],rfl,Ob.o0 ?_⟩;refine⟨[y],rfl,Ob.mk ⟨(by show _*(16:Int)<=_;simp only[Xl,Xs,Qr,XO];omega),(by simp only[Xl,Xs,Qr,XO];omega),dC,λ_ _=>rfl⟩ ?_⟩;refine Ar.o ?_
    refine⟨j,oM,zL [2] ⟨congrArg (λn=>some (i64 n)) (show((j+1:Nat):Int) - 1=(j:Int) by omega),rfl,rfl,trivial⟩ ⟨congrArg (λr=>some (Mem.arr 35 ptE 2 r)) ?_,trivial⟩,by dsimp only;omega⟩;rw[zf3 hy,List.reverse_cons];rfl
   ·have g:¬(0:Int) < i:=g;have h0:i=0:=oM;subst h0;refine z9 ?_;rw[e];rfl
 ·refine z9 ?_;unfold kG;rw[if_pos oM]
def zpa(q:List Pt)(i k:Nat):Pt:=if k < i∨q.length<=k+i then q.getD (q.length - 1 - k) zp else q.getD k zp
def ze9(q:List Pt)(i:Nat):List Pt:=(List.range q.length).map (zpa q i)
theorem zpb(q:List Pt)(i:Nat):(ze9 q i).length=q.length:=by unfold ze9;simp
theorem zdD(q:List Pt)(i k:Nat):(ze9 q i)[k]? =if k < q.length then some (zpa q i k) else none:=by
 unfold ze9;rw[XA]
 by_cases h:k < q.length
 ·rw[if_pos h,Qq h];rfl
 ·rw[if_neg h,XB (by simp;omega)];rfl
theorem zpc{q:List Pt}{k:Nat}(h:k < q.length):q[k]? =some (q.getD k zp):=by
 rw[Xt,Xb h];rfl
theorem ztT(q:List Pt):ze9 q 0=q:=by
 refine Kc λk=>?_
 rw[zdD]
 by_cases h:k < q.length
 ·rw[if_pos h,zpc h];unfold zpa;rw[if_neg oM]
 ·rw[if_neg h,XB oM]
theorem zwq{q:List Pt}(h:q.length<=2*i+1):ze9 q i=q.reverse:=by
 refine Kc λk=>?_
 rw[zdD]
 by_cases hk:k < q.length
 ·rw[if_pos hk,Q6 hk,zpc oM];unfold zpa
  by_cases c:k < i∨q.length<=k+i
  ·rw[if_pos c]
  ·rw[if_neg c,show q.length - 1 - k=k by omega]
 ·rw[if_neg hk,XB (by simp;omega)]
theorem ztU{q:List Pt}(h:2*i+1 < q.length):
  ((ze9 q i).set i (q.getD (q.length - 1 - i) zp)).set (q.length - 1 - i) (q.getD i zp)=ze9 q (i+1):=by
 refine Kc λk=>?_
 rw[Kq,Kq,X1,zpb,zdD,zdD]
 by_cases hk:k < q.length
 ·rw[if_pos hk,if_pos hk]
  by_cases c1:q.length - 1 - i=k
  ·rw[if_pos c1,if_pos oM];unfold zpa;rw[if_pos oM,show q.length - 1 - k=i by omega]
  ·rw[if_neg c1]
   by_cases c2:i=k
   ·rw[if_pos c2,if_pos oM];unfold zpa;rw[if_pos oM,c2]
   ·rw[if_neg c2];unfold zpa
    by_cases c3:k < i∨q.length<=k+i
    ·rw[if_pos c3,if_pos oM]
    ·rw[if_neg c3,if_neg oM]
 ·rw[if_neg oM,if_neg oM,if_neg hk,if_neg hk]
theorem zsx{q:List Pt}{k:Nat}(hk:k < q.length)(h:i<=k/\k+i < q.length):(ze9 q i)[k]? =some (q.getD k zp):=by
 rw[zdD,if_pos hk];unfold zpa;rw[if_neg oM]
theorem p_rev(p:Pt)(q:List Pt)(hq:q.length<=4096):CG0 389 [.win 0 2 1 (q.length:Int)] [(0,.arr 35 ptE 2 (p::q))] (.tup []) [(0,.arr 35 ptE 2 (p::q.reverse))]:=by
 refine uq tok mix Tryz.func389 rfl rfl rfl (λ_ _=>rfl) rfl<|Ob.o<|Ar.o<|⟨Nat,λi=>⟨[(3,i64 ((q.length:Int) - 1 - i)),(2,i64 (i:Int)),(0,.win 0 2 1 (q.length:Int))],[(0,.arr 35 ptE 2 (p::ze9 q i))],1,28,1⟩,λi=>2*i<=q.length,λi=>q.length - i,0,?_,?_,?_⟩
 ·exact Xe _
 ·exact zL [0] ⟨congrArg (λn=>some (i64 n)) oM,rfl,rfl,trivial⟩ ⟨congrArg (λr=>some (Mem.arr 35 ptE 2 (p::r))) (ztT q).symm,trivial⟩
 rintro i h1
 refine⟨λg=>?_,λg=>?_⟩
 ·have g:(i:Int) < (q.length:Int) - 1 - i:=g;have hlen:(p::ze9 q i).length=q.length+1:=by rw[Xl,zpb]
  refine Dr.k<|Ob.o5<|Ob.mk (by rw[hlen];omega) ?_;intro x hx
  have hx:x=q.getD (q.length - 1 - i) zp:=by
   have e:(p::ze9 q i)[(1+((q.length:Int) - 1 - i)).toNat]? =some x:=hx;rw[show(1+((q.length:Int) - 1 - i)).toNat=(q.length - 1 - i)+1 by omega,KH,zsx oM oM]at e;exact(Xj e).symm
  refine Ob.o5<|Ob.mk (by rw[hlen];omega) ?_;intro y hy
  have hy:y=q.getD i zp:=by
   have e:(p::ze9 q i)[(1+(i:Int)).toNat]? =some y:=hy;rw[show(1+(i:Int)).toNat=i+1 by omega,KH,zsx oM oM]at e;exact(Xj e).symm
  refine Ob.o5<|Ob.mk (by rw[hlen];omega) ?_;intro x' _;refine⟨x,rfl,?_⟩;refine Ob.o5<|Ob.mk (by rw[X1,hlen];omega) ?_;intro y' _;refine⟨y,rfl,?_⟩;(iterate 2 refine Ar.o ?_);refine⟨i+1,oM,zL [0] ⟨congrArg (λn=>some (i64 n)) oM,rfl,rfl,trivial⟩ ⟨congrArg (λr=>some (Mem.arr 35 ptE 2 r)) ?_,trivial⟩,by dsimp only;omega⟩;show((p::ze9 q i).set (1+(i:Int)).toNat x).set (1+((q.length:Int) - 1 - i)).toNat y=p::ze9 q (i+1)
  rw[show(1+(i:Int)).toNat=i+1 by omega,show(1+((q.length:Int) - 1 - i)).toNat=(q.length - 1 - i)+1 by omega,JB,JB,hx,hy,ztU oM]
 ·have g:¬(i:Int) < (q.length:Int) - 1 - i:=g;refine⟨congrArg (λr=>some (Mem.arr 35 ptE 2 (p::r))) (zwq oM),.refl⟩
theorem znf(q:List Pt)(hq:q.length<=4096):CG0 172 [.sl ptE q] [] (.own 0) [(0,.arr 35 ptE 2 q)]:=by
 refine qS tok mix Tryz.func172 rfl rfl rfl ?_
 by_cases h0:q=[]
 ·refine ztm.any (Br.mk ?_ ?_)
  ·exact⟨none,.nil rfl,h0⟩
  ·refine⟨Pt,ptE,[],rfl,Ob.o2 ?_⟩;refine⟨q,rfl,Ob.o18 ?_⟩;exact⟨some 1,.own _ rfl,rfl,λ_ _=>rfl⟩
 ·refine ztm.some (λh=>h0 (Xn h))<|⟨Pt,ptE,[],rfl,Ob.o2 ?_⟩;refine⟨q,rfl,Ob.o18 ?_⟩;exact⟨some 1,.own _ rfl,rfl,λ_ _=>rfl⟩
theorem ztV(p:Pt):zbX [p]=0:=by
 unfold zbX
 split
 ·show vd [p] 1=0;have e0:vd [p] 0=0:=by unfold vd;rfl
  have e1:[p].getD 0 zp=p:=rfl;have e2:[p].getD ((0+1) % [p].length) zp=p:=by show[p].getD ((0+1) % 1) zp=p;rw[Nat.mod_one];rfl
  rw[ze5,e0,e1,e2];unfold zap;unfold wdg;rw[QE (jw p).x];omega
 ·rfl
theorem za3(r:List Pt)(hr:(r.length:Int)<=9223372036854771711):CG0 358 [.sl ptE r] [] (.sl ptE (kG r)) []:=by
 refine zc Tryz.func358 ?_;refine zb.t (zA9 r hr)<|⟨λa1=>?_,λa1=>?_⟩
 ·have e:kG r=[]:=by unfold kG;rw[if_pos a1]
  rw[e];exact zD
 have hq:=zhf a1;refine zb.fresh _ _ (znf r hq) rfl (λ_ _=>rfl) (.inr (λ_ _=>rfl))<|⟨λa2=>?_,λa2=>?_⟩
 ·have e:kG r=zsn r:=by unfold kG;rw[if_neg a1,if_pos a2]
  cases r with
  | nil=>exact absurd zlH a1
  | cons p q=>
   have h0:q≠[]:=λh=>a1 (by rw[h];exact ztV p)
   have h2:0 < q.length:=X5 λh=>h0 (Xn h)
   have hL:((p::q).length:Int)=(q.length:Int)+1:=by simp only[Xl];omega
   have hq:q.length<=4096:=by simp only[Xl]at hq;omega
   refine Sl.win (Ob.mk ⟨oM,oM,oM,oM⟩ ?_)
   have ct:CG0 389 [.win 0 2 1 (((p::q).length:Int) - 1)] [(0,.arr 35 ptE 2 (p::q))] (.tup []) [(0,.arr 35 ptE 2 (p::q.reverse))]:=by
    rw[show((p::q).length:Int) - 1=(q.length:Int) by omega];exact p_rev p q hq
   refine zb.hand 0 _ _ _ rfl ct (λ_ _=>rfl) (λ_ _=>rfl) rfl rfl ?_;rw[e];exact z9 rfl
 ·refine z9 (show r=kG r by unfold kG;rw[if_neg a1,if_neg a2])
def P45(p:Pt):Prop:=(-35184372088832<=p.x/\p.x<=35184372088832)/\(-35184372088832<=p.y/\p.y<=35184372088832)
variable{p:Pt}
theorem P45.s(h:P45 p):S50 p.x/\S50 p.y:=by unfold P45 at h;omega
theorem zr.p45(h:zr p):P45 p:=by unfold zr at h;unfold P45;omega
theorem ja(v:Pt)(w:Int):P45 (z7 v w):=by have:=zaJ v w;unfold P45;omega
theorem zgb(v:Pt)(w:Int):P45 ⟨(z7 v w).y,-(z7 v w).x⟩:=by have:=zaJ v w;unfold P45;dsimp only;omega
variable{q:Pt}
theorem zwr(h:P45 p)(k:P45 q):S50 (zn p q).x/\S50 (zn p q).y:=by
 unfold P45 at h k;show S50 (p.x - q.x)/\S50 (p.y - q.y);omega
theorem zws(h:P45 p)(k:P45 q):S50 (zz p q).x/\S50 (zz p q).y:=by
 unfold P45 at h k;show S50 (p.x+q.x)/\S50 (p.y+q.y);omega
theorem zjQ(hw:kr w):(-16384<=zQ w 2/\zQ w 2<=16384)/\y4 (zQ w 2)=zQ w 2:=by
 unfold kr at hw;have:=u0 (a:=w) (b:=2) (M:=16384) oM;exact⟨oM,uM oM⟩
theorem zpd(a b:Pt)(w:Int):CG0 357 [.agg (ptE a),.agg (ptE b),i64 w] []
  (.tup [.agg (ptE (if kr w/\zr a/\zr b then z7 (zn b a) w else zp)),pr (kr w/\zr a/\zr b)]) []:=by
 refine zc Tryz.func357 ?_
 have bad:¬(kr w/\zr a/\zr b)->LE (.tup [.agg (ptE zp),bl false]) (.tup [.agg (ptE (if kr w/\zr a/\zr b then z7 (zn b a) w else zp)),pr (kr w/\zr a/\zr b)]):=λh=>by
  rw[if_neg h];exact zI .refl (zd h)
 refine zb.t (vK w)<|⟨λa1=>bad (λh=>a1 h.1),λa1=>?_⟩;refine zb.t (qg a)<|⟨λa2=>bad (λh=>a2 h.2.1),λa2=>?_⟩;refine zb.t (qg b)<|⟨λa3=>bad (λh=>a3 h.2.2),λa3=>?_⟩;have h:kr w/\zr a/\zr b:=⟨Xa.1 a1,Xa.1 a2,Xa.1 a3⟩;refine zb.t (zjM b a h.2.2.p45.s h.2.1.p45.s)<|zb.t (zjN (zn b a) w) ?_;rw[if_pos h];exact zI .refl (zT h)
theorem zBc(a b:Pt)(w:Int):CG0 310 [.agg (ptE a),.agg (ptE b),i64 w] [] (.sl ptE (jZ a b w)) []:=by
 refine zc Tryz.func310 ?_
 have bad:¬(kr w/\zr a/\zr b)->LE (.val (.slice none 0 0)) (.sl ptE (jZ a b w)):=λh=>by
  unfold jZ;rw[if_pos h];exact zD
 refine zb.t (zpd a b w)<|⟨λh=>bad h,λh=>?_⟩;have h:=Xa.1 h;rw[if_pos h];refine Dr.d<|zb.t (zjM a (z7 (zn b a) w) h.2.1.p45.s (ja (zn b a) w).s)<|zb.t (zjM b (z7 (zn b a) w) h.2.2.p45.s (ja (zn b a) w).s)<|zb.t (yc b (z7 (zn b a) w) h.2.2.p45.s (ja (zn b a) w).s)<|zb.t (yc a (z7 (zn b a) w) h.2.1.p45.s (ja (zn b a) w).s)<|⟨Pt,ptE,[zn a (z7 (zn b a) w),zn b (z7 (zn b a) w),zz b (z7 (zn b a) w),zz a (z7 (zn b a) w)],rfl,Ob.o0 ?_⟩
 refine zb.see 3 _ (za3 [zn a (z7 (zn b a) w),zn b (z7 (zn b a) w),zz b (z7 (zn b a) w),zz a (z7 (zn b a) w)] (by show((4:Nat):Int)<=_;decide)) rfl rfl rfl<|Ob.mk (by kernel_rfl) ?_;unfold jZ;rw[if_neg (λk=>k h)];exact .refl
theorem p_cap(a b:Pt)(w:Int):CG0 365 [.agg (ptE a),.agg (ptE b),i64 w] [] (.sl ptE (zjH a b w)) []:=by
 refine zc Tryz.func365 ?_
 have bad:¬(kr w/\zr a/\zr b)->LE (.val (.slice none 0 0)) (.sl ptE (zjH a b w)):=λh=>by
  unfold zjH;rw[if_pos h];exact zD
 refine zb.t (zpd a b w)<|⟨λh=>bad h,λh=>?_⟩;have h:=Xa.1 h;rw[if_pos h];have hn:=zaJ (zn b a) w;refine Ar.o<|Dr.d<|zb.t (zjM b (z7 (zn b a) w) h.2.2.p45.s (ja (zn b a) w).s)<|zb.t (zjM b (z7 (zn b a) w) h.2.2.p45.s (ja (zn b a) w).s)<|zb.t (yc (zn b (z7 (zn b a) w)) ⟨(z7 (zn b a) w).y,-(z7 (zn b a) w).x⟩ (zwr h.2.2.p45 (ja (zn b a) w)) (zgb (zn b a) w).s)<|zb.t (yc b (z7 (zn b a) w) h.2.2.p45.s (ja (zn b a) w).s) ?_
 refine zb.t (yc (zz b (z7 (zn b a) w)) ⟨(z7 (zn b a) w).y,-(z7 (zn b a) w).x⟩ (zws h.2.2.p45 (ja (zn b a) w)) (zgb (zn b a) w).s)<|zb.t (yc b (z7 (zn b a) w) h.2.2.p45.s (ja (zn b a) w).s)<|⟨Pt,ptE,[zn b (z7 (zn b a) w),zz (zn b (z7 (zn b a) w)) ⟨(z7 (zn b a) w).y,-(z7 (zn b a) w).x⟩,zz (zz b (z7 (zn b a) w)) ⟨(z7 (zn b a) w).y,-(z7 (zn b a) w).x⟩,zz b (z7 (zn b a) w)],rfl,Ob.o0 ?_⟩
 refine zb.see 4 _ (za3 [zn b (z7 (zn b a) w),zz (zn b (z7 (zn b a) w)) ⟨(z7 (zn b a) w).y,-(z7 (zn b a) w).x⟩,zz (zz b (z7 (zn b a) w)) ⟨(z7 (zn b a) w).y,-(z7 (zn b a) w).x⟩,zz b (z7 (zn b a) w)] (by show((4:Nat):Int)<=_;decide)) rfl rfl rfl<|Ob.mk (by kernel_rfl) ?_;unfold zjH;rw[if_neg (λk=>k h)];exact .refl
theorem zBd(p:Pt)(w:Int):CG0 355 [.agg (ptE p),i64 w] [] (.sl ptE (zdy p w)) []:=by
 refine zc Tryz.func355 ?_
 have bad:¬(kr w/\zr p)->LE (.val (.slice none 0 0)) (.sl ptE (zdy p w)):=λh=>by
  unfold zdy;rw[if_pos h];exact zD
 refine zb.t (vK w)<|⟨λa1=>bad (λh=>a1 h.1),λa1=>?_⟩;refine zb.t (qg p)<|⟨λa2=>bad (λh=>a2 h.2),λa2=>?_⟩;have h:kr w/\zr p:=⟨Xa.1 a1,Xa.1 a2⟩;have hh:=zjQ h.1;have hw:=h.1;have hp:=h.2;unfold kr at hw;unfold zr at hp;refine zb.t (zM w 2 ⟨oM,oM⟩ ⟨oM,oM⟩) ?_;rw[hh.2];(iterate 8 refine Ar.o ?_)
 refine⟨Pt,ptE,[⟨p.x - zQ w 2,p.y - zQ w 2⟩,⟨p.x+zQ w 2,p.y - zQ w 2⟩,⟨p.x+zQ w 2,p.y+zQ w 2⟩,⟨p.x - zQ w 2,p.y+zQ w 2⟩],rfl,Ob.o0 ?_⟩;refine zb.see 1 _ (za3 [⟨p.x - zQ w 2,p.y - zQ w 2⟩,⟨p.x+zQ w 2,p.y - zQ w 2⟩,⟨p.x+zQ w 2,p.y+zQ w 2⟩,⟨p.x - zQ w 2,p.y+zQ w 2⟩] (by show((4:Nat):Int)<=_;decide)) rfl rfl rfl ?_;unfold zdy;rw[if_neg (λk=>k h)];exact .refl
theorem zwt(a b:Pt)(w:Int):CG0 315 [.agg (ptE a),.agg (ptE b),i64 w] [] (.sl ptE (jZ a b w)) []:=by
 refine zc Tryz.func315 ?_;refine zb.t (zss a b w)<|⟨λh=>?_,λh=>?_⟩
 ·refine⟨Pt,ptE,[],rfl,Ob.o2 ?_⟩;exact z9 (show[]=jZ a b w by unfold jZ;rw[if_pos h])
 have h:kr w/\zr a/\zr b:=Xa.1 h;refine zb.t (zhd b a h.2.2.p45.s h.2.1.p45.s)<|zb.t (zf9 (zn b a) w)<|Dr.d<|zb.t (zhd a (z7 (zn b a) w) h.2.1.p45.s (ja (zn b a) w).s)<|zb.t (zhd b (z7 (zn b a) w) h.2.2.p45.s (ja (zn b a) w).s)<|zb.t (ze7 b (z7 (zn b a) w) h.2.2.p45.s (ja (zn b a) w).s) ?_;refine zb.t (ze7 a (z7 (zn b a) w) h.2.1.p45.s (ja (zn b a) w).s)<|⟨Pt,ptE,[zn a (z7 (zn b a) w),zn b (z7 (zn b a) w),zz b (z7 (zn b a) w),zz a (z7 (zn b a) w)],rfl,Ob.o0 ?_⟩
 refine zb.see 3 _ (za2 [zn a (z7 (zn b a) w),zn b (z7 (zn b a) w),zz b (z7 (zn b a) w),zz a (z7 (zn b a) w)]) rfl rfl rfl<|Ob.mk (by kernel_rfl) ?_;unfold jZ;rw[if_neg (λk=>k h)];exact .refl
theorem r_cap(a b:Pt)(w:Int):CG0 319 [.agg (ptE a),.agg (ptE b),i64 w] [] (.sl ptE (zjH a b w)) []:=by
 refine zc Tryz.func319 ?_;refine zb.t (zss a b w)<|⟨λh=>?_,λh=>?_⟩
 ·refine⟨Pt,ptE,[],rfl,Ob.o2 ?_⟩;exact z9 (show[]=zjH a b w by unfold zjH;rw[if_pos h])
 have h:kr w/\zr a/\zr b:=Xa.1 h;refine zb.t (zhd b a h.2.2.p45.s h.2.1.p45.s)<|zb.t (zf9 (zn b a) w) ?_;have hn:=zaJ (zn b a) w;refine Ar.o<|Dr.d<|zb.t (zhd b (z7 (zn b a) w) h.2.2.p45.s (ja (zn b a) w).s)<|zb.t (zhd b (z7 (zn b a) w) h.2.2.p45.s (ja (zn b a) w).s)<|zb.t (ze7 (zn b (z7 (zn b a) w)) ⟨(z7 (zn b a) w).y,-(z7 (zn b a) w).x⟩ (zwr h.2.2.p45 (ja (zn b a) w)) (zgb (zn b a) w).s)<|zb.t (ze7 b (z7 (zn b a) w) h.2.2.p45.s (ja (zn b a) w).s) ?_
 refine zb.t (ze7 (zz b (z7 (zn b a) w)) ⟨(z7 (zn b a) w).y,-(z7 (zn b a) w).x⟩ (zws h.2.2.p45 (ja (zn b a) w)) (zgb (zn b a) w).s)<|zb.t (ze7 b (z7 (zn b a) w) h.2.2.p45.s (ja (zn b a) w).s)<|⟨Pt,ptE,[zn b (z7 (zn b a) w),zz (zn b (z7 (zn b a) w)) ⟨(z7 (zn b a) w).y,-(z7 (zn b a) w).x⟩,zz (zz b (z7 (zn b a) w)) ⟨(z7 (zn b a) w).y,-(z7 (zn b a) w).x⟩,zz b (z7 (zn b a) w)],rfl,Ob.o0 ?_⟩
 refine zb.see 4 _ (za2 [zn b (z7 (zn b a) w),zz (zn b (z7 (zn b a) w)) ⟨(z7 (zn b a) w).y,-(z7 (zn b a) w).x⟩,zz (zz b (z7 (zn b a) w)) ⟨(z7 (zn b a) w).y,-(z7 (zn b a) w).x⟩,zz b (z7 (zn b a) w)]) rfl rfl rfl<|Ob.mk (by kernel_rfl) ?_;unfold zjH;rw[if_neg (λk=>k h)];exact .refl
theorem zBe(p:Pt)(w:Int):CG0 317 [.agg (ptE p),i64 w] [] (.sl ptE (zdy p w)) []:=by
 refine zc Tryz.func317 ?_;refine zb.t (zss p p w)<|⟨λh=>?_,λh=>?_⟩
 ·refine⟨Pt,ptE,[],rfl,Ob.o2 ?_⟩;exact z9 (show[]=zdy p w by unfold zdy;rw[if_pos (λk=>h ⟨k.1,k.2,k.2⟩)])
 have h:kr w/\zr p:=⟨(Xa.1 h).1,(Xa.1 h).2.1⟩;have hh:=zjQ h.1;have hw:=h.1;have hp:=h.2;unfold kr at hw;unfold zr at hp;refine zb.t (uc w 2 ⟨oM,oM⟩ ⟨oM,oM⟩) ?_;rw[hh.2];(iterate 8 refine Ar.o ?_);refine⟨Pt,ptE,[⟨p.x - zQ w 2,p.y - zQ w 2⟩,⟨p.x+zQ w 2,p.y - zQ w 2⟩,⟨p.x+zQ w 2,p.y+zQ w 2⟩,⟨p.x - zQ w 2,p.y+zQ w 2⟩],rfl,Ob.o0 ?_⟩
 refine zb.see 1 _ (za2 [⟨p.x - zQ w 2,p.y - zQ w 2⟩,⟨p.x+zQ w 2,p.y - zQ w 2⟩,⟨p.x+zQ w 2,p.y+zQ w 2⟩,⟨p.x - zQ w 2,p.y+zQ w 2⟩]) rfl rfl rfl ?_;unfold zdy;rw[if_neg (λk=>k h)];exact .refl
def wayN(q:Pt):Pt:=⟨-q.y,q.x⟩
theorem ztW:∀i:Nat,i < 12->zw.take (4+i)++[wayN ((zw.take (4+i)).getD i zp)]=zw.take (4+(i+1)):=by decide +kernel
theorem jV:∀q∈zw,(-16384<=q.x/\q.x<=16384)/\(-16384<=q.y/\q.y<=16384):=by decide +kernel
theorem zsy(h:(zw.take (4+i))[i]? =some x):x=(zw.take (4+i)).getD i zp:=by
 rw[Xt,h];rfl
theorem zBf:CG0 374 [] [] (.sl ptE zw) []:=by
 refine zc Tryz.func374 ?_;refine⟨Pt,ptE,zw.take 4,rfl,Ob.o0 ?_⟩;refine⟨Nat,λi=>⟨[(2,i64 (i:Int)),(1,.own 0)],[(0,.arr 35 ptE 2 (zw.take (4+i)))],1,28,0⟩,λi=>i<=12,λi=>12 - i,0,?_,?_,?_⟩
 ·exact Xe _
 ·exact zf [0]
 rintro i h1
 refine⟨λg=>?_,λg=>?_⟩
 ·have g:(i:Int) < 12:=g
  have hl:(zw.take (4+i)).length=4+i:=by
   rw[Xk,show zw.length=16 from rfl];omega
  refine Dr.d<|Ob.o<|Ob.mk (by rw[hl];omega) ?_;intro x hx;have hx:x=(zw.take (4+i)).getD i zp:=zsy hx;have hb:=jV x (XC (i:=4+i) (by rw[hx,Xt,Xb oM];exact KK _));refine Ar.o<|Ob.o<|Ob.mk (by rw[hl];omega) ?_;intro y hy;have hy:y=x:=(zsy hy).trans hx.symm;rw[hy];refine⟨Pt,ptE,[wayN x],rfl,Ob.o0 ?_⟩
  refine⟨[wayN x],rfl,Ob.mk ⟨(by show _*(16:Int)<=_;simp only[hl,Xl,Xs];omega),(by simp only[hl,Xl,Xs];omega),dC,λ_ _=>rfl⟩ ?_⟩;exact Ob.mk (by kernel_rfl)<|Ar.o<|⟨i+1,oM,zC [2] ⟨congrArg (λq=>some (Mem.arr 35 ptE 2 q)) (show zw.take (4+i)++[wayN x]=zw.take (4+(i+1)) by rw[hx];exact ztW i oM),trivial⟩,by dsimp only;omega⟩
 ·have e:i=12:=by have g:¬(i:Int) < 12:=g;omega
  subst e;exact z9 rfl
def qK(p:Pt)(w:Int)(q:Pt):Pt:=zz p ⟨zQ (q.x*w) 32768,zQ (q.y*w) 32768⟩
theorem z0{x:Int}(hx: -16384<=x/\x<=16384)(hw:kr w):(-268435456<=x*w/\x*w<=268435456)/\(-268435456<=zQ (x*w) 32768/\zQ (x*w) 32768<=268435456)/\y4 (zQ (x*w) 32768)=zQ (x*w) 32768:=by
 unfold kr at hw;have h:=jx (A:=16384) (B:=16384) (a:=x) (b:=w) oM oM;have:=u0 (a:=x*w) (b:=32768) (M:=268435456) oM;exact⟨oM,oM,uM oM⟩
theorem zrb(p:Pt)(w:Int):CG0 318 [.agg (ptE p),i64 w] [] (.sl ptE (vA p w)) []:=by
 refine zc Tryz.func318 ?_;refine zb.t (zss p p w)<|⟨λh=>?_,λh=>?_⟩
 ·refine⟨Pt,ptE,[],rfl,Ob.o2 ?_⟩;exact z9 (show[]=vA p w by unfold vA;rw[if_pos (λk=>h ⟨k.1,k.2,k.2⟩)])
 have h:kr w/\zr p:=⟨(Xa.1 h).1,(Xa.1 h).2.1⟩;refine zb.t zBf<|⟨Pt,ptE,[],rfl,Ob.o2 ?_⟩;refine⟨Nat,λi=>⟨[(7,i64 (i:Int)),(6,.own 1),(5,.sl ptE zw),(2,.loc 0 0),(1,i64 w)],[(1,.arr 35 ptE 2 ((zw.take i).map (qK p w))),(0,.box 35 (ptE p))],2,46,0⟩,λi=>i<=16,λi=>16 - i,0,?_,?_,?_⟩
 ·exact Xe _
 ·exact zf [0,1]
 rintro i h1
 intro hl2;have hL:zw.length=16:=rfl;refine⟨λg=>?_,λg=>?_⟩
 ·have g:(i:Int) < (zw.length:Int):=g
  have hl:((zw.take i).map (qK p w)).length=i:=by
   rw[XF,Xk];omega
  refine Dr.d<|Ob.o ?_;intro x hx;have hx:zw[i]? =some x:=hx;have hb:=jV x (Xd hx);have t1:=z0 hb.1 h.1;have t2:=z0 hb.2 h.1;refine Ar.o<|zb.t (uc (x.x*w) 32768 ⟨oM,oM⟩ ⟨dC,dC⟩) ?_;rw[t1.2.2];refine Ob.o ?_;intro y hy;have hy:y=x:=Xj ((show zw[i]? =some y from hy).symm.trans hx);rw[hy];refine Ar.o<|zb.t (uc (x.y*w) 32768 ⟨oM,oM⟩ ⟨dC,dC⟩) ?_;rw[t2.2.2];refine zb.t (ze7 p ⟨zQ (x.x*w) 32768,zQ (x.y*w) 32768⟩ h.2.p45.s ⟨by dsimp only;omega,by dsimp only;omega⟩) ?_
  refine⟨Pt,ptE,[qK p w x],rfl,Ob.o0 ?_⟩;refine⟨[qK p w x],rfl,Ob.mk ⟨(by show _*(16:Int)<=_;simp only[hl,Xl,Xs];omega),(by simp only[hl,Xl,Xs];omega),dC,λ_ _=>rfl⟩ ?_⟩;exact Ob.mk (by kernel_rfl)<|Ar.o<|⟨i+1,oM,zC [0,3] ⟨congrArg (λq=>some (Mem.arr 35 ptE 2 q)) (by rw[Xm,hx,XI];rfl),rfl,trivial⟩,by dsimp only;omega⟩
 ·have e:i=16:=by have g:¬(i:Int) < (zw.length:Int):=g;omega
  subst e;refine zb.see 1 _ (za2 (zw.map (qK p w))) rfl rfl rfl<|z9 (show kG (zw.map (qK p w))=vA p w from ?_);unfold vA;rw[if_neg (λk=>k h)];rfl
def zjR(p:Pt):Prop:=(-2097152<=p.x/\p.x<=2097152)/\(-2097152<=p.y/\p.y<=2097152)
theorem zem(hp:zr p)(hq:zr q):zjR (zn p q):=by
 unfold zr at hp hq;show(-2097152<=p.x - q.x/\p.x - q.x<=2097152)/\(-2097152<=p.y - q.y/\p.y - q.y<=2097152);omega
theorem zpe(hp:zjR p)(hq:zjR q):(-4398046511104<=p.x*q.y/\p.x*q.y<=4398046511104)/\(-4398046511104<=p.y*q.x/\p.y*q.x<=4398046511104):=by
 have h1:=jx hp.1 hq.2;have h2:=jx hp.2 hq.1;omega
theorem zwu(p q:Pt)(hp:zjR p)(hq:zjR q):CG0 395 [.agg (ptE p),.agg (ptE q)] [] (i64 (wdg p q)) []:=by
 have h:=zpe hp hq;refine zc Tryz.func395 ?_;(iterate 3 refine Ar.o ?_);exact .refl
theorem zsz(w:Int):CG0 390 [i64 w] [] (pr (kr w)) []:=by
 refine zc Tryz.func390 ?_;refine⟨λh=>?_,λh=>zd (λk=>h k.1)⟩;exact zF ⟨λk=>⟨h,k⟩,λk=>k.2⟩
theorem zsA(w:Int):CG0 394 [i64 w] [] (pr (kr w)) []:=by
 refine zc Tryz.func394 ?_;refine⟨λh=>?_,λh=>zd (λk=>h k.1)⟩;exact zF ⟨λk=>⟨h,k⟩,λk=>k.2⟩
theorem zwv(a b:Pt)(ha:S50 a.x/\S50 a.y)(hb:S50 b.x/\S50 b.y):CG0 391 [.agg (ptE a),.agg (ptE b)] [] (.agg (ptE (zn b a))) []:=by
 refine zc Tryz.func391 ?_;(iterate 2 refine Ar.o ?_);exact .refl
theorem ztX(n:Pt):zn zp n=zg8 n:=by
 unfold zn zg8 zp;dsimp only;rw[Int.zero_sub,Int.zero_sub]
theorem zAa(n:Pt)(h:S50 n.x/\S50 n.y):CG0 391 [.agg (ptE n),.agg (ptE zp)] [] (.agg (ptE (zg8 n))) []:=by
 have c:=zwv n zp h ⟨dC,dC⟩
 rwa [ztX]at c
theorem zjS(hp:zr p)(hq:zr q):zcv p q=zn p q:=by
 unfold zcv;rw[zeh hp,zeh hq]
def outE(o:Pt×Pt×Bool):SV:=.tup [.agg (ptE o.1),.agg (ptE o.2.1),pr (o.2.2=true)]
theorem vo{o:Pt×Pt×Bool}{n m:Pt}{b:Bool}(h:o=(n,m,b)):LE (.tup [.agg (ptE n),.agg (ptE m),bl b]) (outE o):=by
 subst h;exact zam (.cons .refl (.cons .refl (.cons zr3 .nil)))
theorem zyL(a v b:Pt)(w:Int):CG0 362 [.agg (ptE a),.agg (ptE v),.agg (ptE b),i64 w] [] (outE (qx a v b w)) []:=by
 refine zc Tryz.func362 ?_;have bad:¬(zr a/\zr v/\zr b/\kr w)->qx a v b w=(zp,zp,false):=λh=>by unfold qx;rw[if_pos h]
 refine zb.t (qg a)<|⟨λa1=>vo (bad (λh=>a1 h.1)),λa1=>?_⟩;refine zb.t (qg v)<|⟨λa2=>vo (bad (λh=>a2 h.2.1)),λa2=>?_⟩;refine zb.t (qg b)<|⟨λa3=>vo (bad (λh=>a3 h.2.2.1)),λa3=>?_⟩;refine zb.t (zsz w)<|⟨λa4=>vo (bad (λh=>a4 h.2.2.2)),λa4=>?_⟩;have ha:=Xa.1 a1;have hv:=Xa.1 a2;have hb:=Xa.1 a3;have hw:=Xa.1 a4;have hx:=zem hv ha;have hy:=zem hb hv
 have e:qx a v b w=if wdg (zn v a) (zn b v)=0 then(zp,zp,false) else if 0 < wdg (zn v a) (zn b v) then(zg8 (z7 (zn v a) w),zg8 (z7 (zn b v) w),true) else(z7 (zn v a) w,z7 (zn b v) w,true):=by
  unfold qx;rw[if_neg (λk=>k ⟨ha,hv,hb,hw⟩)]
 have hd:=zpe hx hy;refine Dr.k<|zb.t (zwv a v ha.p45.s hv.p45.s)<|zb.t (zwv v b hv.p45.s hb.p45.s)<|Dr.k<|zb.t (zjN (zn v a) w)<|zb.t (zjN (zn b v) w) ?_;(iterate 3 refine Ar.o ?_);refine⟨λk=>?_,λk=>?_⟩
 ·have k:wdg (zn v a) (zn b v)=0:=k;exact vo (e.trans (if_pos k))
 have k:¬wdg (zn v a) (zn b v)=0:=k;refine⟨λk2=>?_,λk2=>?_⟩
 ·have k2:0 < wdg (zn v a) (zn b v):=k2;exact Dr.k<|zb.t (zAa (z7 (zn v a) w) (ja _ _).s)<|zb.t (zAa (z7 (zn b v) w) (ja _ _).s)<|vo (e.trans ((if_neg k).trans (if_pos k2)))
 ·have k2:¬0 < wdg (zn v a) (zn b v):=k2;exact Dr.d<|Ob.mk (by kernel_rfl)<|vo (e.trans ((if_neg k).trans (if_neg k2)))
theorem zyM(a v b:Pt)(w:Int):CG0 371 [.agg (ptE a),.agg (ptE v),.agg (ptE b),i64 w] [] (outE (qx a v b w)) []:=by
 refine zc Tryz.func371 ?_;have bad:¬(zr a/\zr v/\zr b/\kr w)->qx a v b w=(zp,zp,false):=λh=>by unfold qx;rw[if_pos h]
 refine zb.t (kH a)<|⟨λa1=>vo (bad (λh=>a1 h.1)),λa1=>?_⟩;refine zb.t (kH v)<|⟨λa2=>vo (bad (λh=>a2 h.2.1)),λa2=>?_⟩;refine zb.t (kH b)<|⟨λa3=>vo (bad (λh=>a3 h.2.2.1)),λa3=>?_⟩;refine zb.t (zsA w)<|⟨λa4=>vo (bad (λh=>a4 h.2.2.2)),λa4=>?_⟩;have ha:=Xa.1 a1;have hv:=Xa.1 a2;have hb:=Xa.1 a3;have hw:=Xa.1 a4;have hx:=zem hv ha;have hy:=zem hb hv
 have e:qx a v b w=if wdg (zn v a) (zn b v)=0 then(zp,zp,false) else if 0 < wdg (zn v a) (zn b v) then(zg8 (z7 (zn v a) w),zg8 (z7 (zn b v) w),true) else(z7 (zn v a) w,z7 (zn b v) w,true):=by
  unfold qx;rw[if_neg (λk=>k ⟨ha,hv,hb,hw⟩)]
 have c1:=zsq v a;rw[zjS hv ha]at c1;have c2:=zsq b v;rw[zjS hb hv]at c2;have n1:=zaJ (zn v a) w;have n2:=zaJ (zn b v) w;refine Dr.k<|zb.t c1<|zb.t c2<|Dr.k<|zb.t (zf9 (zn v a) w)<|zb.t (zf9 (zn b v) w) ?_;refine zb.t (zwu (zn v a) (zn b v) hx hy)<|⟨λk=>?_,λk=>?_⟩
 ·exact vo (e.trans (if_pos k))
 refine⟨λk2=>?_,λk2=>?_⟩
 ·refine Dr.d ?_;(iterate 4 refine Ar.o ?_);exact Ob.mk (by kernel_rfl)<|Dr.d<|Ob.mk (by kernel_rfl)<|vo (n:=zg8 (z7 (zn v a) w)) (m:=zg8 (z7 (zn b v) w)) (e.trans ((if_neg k).trans (if_pos k2)))
 ·exact Dr.d<|Ob.mk (by kernel_rfl)<|vo (e.trans ((if_neg k).trans (if_neg k2)))
theorem zng(a b:List (List Pt)):CG0 7 [.sl zk a,.sl zk b] [] (pr (a=b)) []:=by
 refine zc Tryz.func7 ?_;intro hl1 hl2;refine⟨λh1=>zd λe=>h1 (by rw[e]),λh1=>?_⟩;have h1:(a.length:Int)=b.length:=Xa.1 h1;refine⟨Nat,λi=>⟨[(5,i64 (i:Int)),(0,.sl zk a),(1,.sl zk b)],[],0,53,0⟩,λi=>i<=a.length/\∀j,j < i->a[j]? =b[j]?,λi=>a.length - i,0,?_,?_,?_⟩
 ·exact⟨Xe _,λj hj=>by omega⟩
 ·exact zE []
 rintro i ⟨h2,h3⟩
 intro hl3;refine⟨λg=>?_,λg=>?_⟩
 ·have g:(i:Int) < a.length:=g;refine Dr.k<|Ob.o ?_;intro x hx;have hx:a[i]? =some x:=hx;intro hl4;refine Ob.o ?_;intro y hy;have hy:b[i]? =some y:=hy;intro hl5;refine⟨λh4=>zd λe=>h4 ?_,λh4=>?_⟩
  ·rw[e,hy]at hx;rw[Xj hx]
  have h4:(x.length:Int)=y.length:=Xa.1 h4;refine⟨Nat,λk=>⟨[(6,i64 (k:Int)),(5,i64 (i:Int)),(0,.sl zk a),(1,.sl zk b)],[],0,53,0⟩,λk=>k<=x.length/\∀j,j < k->x[j]? =y[j]?,λk=>x.length - k,0,?_,?_,?_⟩
  ·exact⟨Xe _,λj hj=>by omega⟩
  ·exact zE []
  rintro k ⟨k1,k2⟩
  refine Ob.o ?_;intro x' hx';have e:x'=x:=Xj ((show a[i]? =some x' from hx').symm.trans hx);rw[e];intro hl6;refine⟨λg2=>?_,λg2=>?_⟩
  ·have g2:(k:Int) < x.length:=g2;refine Dr.k<|Ob.o ?_;intro x' hx';have e:x'=x:=Xj ((show a[i]? =some x' from hx').symm.trans hx);rw[e];refine Ob.o ?_;intro p hp;have hp:x[k]? =some p:=hp;refine Ob.o ?_;intro y' hy';have e:y'=y:=Xj ((show b[i]? =some y' from hy').symm.trans hy);rw[e];refine Ob.o ?_;intro q hq;have hq:y[k]? =some q:=hq;refine⟨λh5=>zd λe=>h5 ?_,λh5=>?_⟩
   ·rw[e,hy]at hx;rw[← Xj hx,hq]at hp;exact k8.2 (Xj hp).symm
   ·have h5:p=q:=k8.1 (Xa.1 h5);refine Ar.o<|⟨k+1,⟨oM,λj hj=>?_⟩,zE [],by dsimp only;omega⟩
    by_cases c:j=k
    ·rw[c,hp,hq,h5]
    ·exact k2 j oM
  ·have g2:¬(k:Int) < x.length:=g2
   have exy:x=y:=Kc λj=>by
    by_cases hj:j < k
    ·exact k2 j hj
    ·rw[XB oM,XB oM]
   refine Ar.o<|⟨i+1,⟨oM,λj hj=>?_⟩,zE [],by dsimp only;omega⟩
   by_cases c:j=i
   ·rw[c,hx,hy,exy]
   ·exact h3 j oM
 ·have g:¬(i:Int) < a.length:=g;refine zT (Kc λj=>?_)
  by_cases hj:j < i
  ·exact h3 j hj
  ·rw[XB oM,XB oM]
def wcell(i k j:Nat):Pt:=if j % 4 < i∨(j % 4=i/\j / 4 < k) then zw.getD j zp else zp
def zaq(i k:Nat):List SV:=(List.range 16).flatMap λj=>ptE (wcell i k j)
theorem zBg:CG0 386 [] [] (.agg (zaq 4 0)) []:=by
 refine zc Tryz.func386 ?_;refine⟨Nat,λi=>⟨[(10,i64 (i:Int)),(9,.agg [i64 16384,i64 0,i64 15137,i64 6270,i64 11585,i64 11585,i64 6270,i64 15137]),(1,.loc 1 0),(0,.loc 0 0)],[(1,.box 353 (zaq i 0)),(0,.box 353 (zaq 0 0))],2,28,0⟩,λi=>i<=4,λi=>4 - i,0,?_,?_,?_⟩
 ·exact Xe _
 ·exact zf [0,1]
 rintro i hi
 match i,hi with
 | 0,_=>
  refine Br.y<|⟨Nat,λk=>⟨[(14,i64 (k:Int)),(3,.loc 2 0),(2,i64 0),(10,i64 0),(9,.agg [i64 16384,i64 0,i64 15137,i64 6270,i64 11585,i64 11585,i64 6270,i64 15137]),(1,.loc 1 0),(0,.loc 0 0)],[(2,.box 35 (ptE (zw.getD ((4*k+0) % 16) zp))),(1,.box 353 (zaq 0 k)),(0,.box 353 (zaq 0 0))],3,28,0⟩,λk=>k<=4,λk=>4 - k,0,?_,?_,?_⟩
  ·exact Xe _
  ·exact zf [0,1,2]
  rintro k hk
  match k,hk with
  | 0,_=>
   exact Br.y<|Ar.fit dC<|Ar.fit dC<|zb.t (uD (zw.getD 0 zp))<|Ar.fit dC<|⟨1,dC,zf [0,1,2],dC⟩
  | 1,_=>
   exact Br.y<|Ar.fit dC<|Ar.fit dC<|zb.t (uD (zw.getD 4 zp))<|Ar.fit dC<|⟨2,dC,zf [0,1,2],dC⟩
  | 2,_=>
   exact Br.y<|Ar.fit dC<|Ar.fit dC<|zb.t (uD (zw.getD 8 zp))<|Ar.fit dC<|⟨3,dC,zf [0,1,2],dC⟩
  | 3,_=>
   exact Br.y<|Ar.fit dC<|Ar.fit dC<|zb.t (uD (zw.getD 12 zp))<|Ar.fit dC<|⟨4,dC,zf [0,1,2],dC⟩
  | 4,_=>
   refine⟨λh=>absurd h dC,λ_=>?_⟩;exact Ar.fit dC<|⟨1,dC,zf [0,1],dC⟩
  | _+5,hk=>exact absurd hk oM
 | 1,_=>
  refine Br.y<|⟨Nat,λk=>⟨[(14,i64 (k:Int)),(3,.loc 2 0),(2,i64 1),(10,i64 1),(9,.agg [i64 16384,i64 0,i64 15137,i64 6270,i64 11585,i64 11585,i64 6270,i64 15137]),(1,.loc 1 0),(0,.loc 0 0)],[(2,.box 35 (ptE (zw.getD ((4*k+1) % 16) zp))),(1,.box 353 (zaq 1 k)),(0,.box 353 (zaq 0 0))],3,28,0⟩,λk=>k<=4,λk=>4 - k,0,?_,?_,?_⟩
  ·exact Xe _
  ·exact zf [0,1,2]
  rintro k hk
  match k,hk with
  | 0,_=>
   exact Br.y<|Ar.fit dC<|Ar.fit dC<|zb.t (uD (zw.getD 1 zp))<|Ar.fit dC<|⟨1,dC,zf [0,1,2],dC⟩
  | 1,_=>
   exact Br.y<|Ar.fit dC<|Ar.fit dC<|zb.t (uD (zw.getD 5 zp))<|Ar.fit dC<|⟨2,dC,zf [0,1,2],dC⟩
  | 2,_=>
   exact Br.y<|Ar.fit dC<|Ar.fit dC<|zb.t (uD (zw.getD 9 zp))<|Ar.fit dC<|⟨3,dC,zf [0,1,2],dC⟩
  | 3,_=>
   exact Br.y<|Ar.fit dC<|Ar.fit dC<|zb.t (uD (zw.getD 13 zp))<|Ar.fit dC<|⟨4,dC,zf [0,1,2],dC⟩
  | 4,_=>
   refine⟨λh=>absurd h dC,λ_=>?_⟩;exact Ar.fit dC<|⟨2,dC,zf [0,1],dC⟩
  | _+5,hk=>exact absurd hk oM
 | 2,_=>
  refine Br.y<|⟨Nat,λk=>⟨[(14,i64 (k:Int)),(3,.loc 2 0),(2,i64 2),(10,i64 2),(9,.agg [i64 16384,i64 0,i64 15137,i64 6270,i64 11585,i64 11585,i64 6270,i64 15137]),(1,.loc 1 0),(0,.loc 0 0)],[(2,.box 35 (ptE (zw.getD ((4*k+2) % 16) zp))),(1,.box 353 (zaq 2 k)),(0,.box 353 (zaq 0 0))],3,28,0⟩,λk=>k<=4,λk=>4 - k,0,?_,?_,?_⟩
  ·exact Xe _
  ·exact zf [0,1,2]
  rintro k hk
  match k,hk with
  | 0,_=>
   exact Br.y<|Ar.fit dC<|Ar.fit dC<|zb.t (uD (zw.getD 2 zp))<|Ar.fit dC<|⟨1,dC,zf [0,1,2],dC⟩
  | 1,_=>
   exact Br.y<|Ar.fit dC<|Ar.fit dC<|zb.t (uD (zw.getD 6 zp))<|Ar.fit dC<|⟨2,dC,zf [0,1,2],dC⟩
  | 2,_=>
   exact Br.y<|Ar.fit dC<|Ar.fit dC<|zb.t (uD (zw.getD 10 zp))<|Ar.fit dC<|⟨3,dC,zf [0,1,2],dC⟩
  | 3,_=>
   exact Br.y<|Ar.fit dC<|Ar.fit dC<|zb.t (uD (zw.getD 14 zp))<|Ar.fit dC<|⟨4,dC,zf [0,1,2],dC⟩
  | 4,_=>
   refine⟨λh=>absurd h dC,λ_=>?_⟩;exact Ar.fit dC<|⟨3,dC,zf [0,1],dC⟩
  | _+5,hk=>exact absurd hk oM
 | 3,_=>
  refine Br.y<|⟨Nat,λk=>⟨[(14,i64 (k:Int)),(3,.loc 2 0),(2,i64 3),(10,i64 3),(9,.agg [i64 16384,i64 0,i64 15137,i64 6270,i64 11585,i64 11585,i64 6270,i64 15137]),(1,.loc 1 0),(0,.loc 0 0)],[(2,.box 35 (ptE (zw.getD ((4*k+3) % 16) zp))),(1,.box 353 (zaq 3 k)),(0,.box 353 (zaq 0 0))],3,28,0⟩,λk=>k<=4,λk=>4 - k,0,?_,?_,?_⟩
  ·exact Xe _
  ·exact zf [0,1,2]
  rintro k hk
  match k,hk with
  | 0,_=>
   exact Br.y<|Ar.fit dC<|Ar.fit dC<|zb.t (uD (zw.getD 3 zp))<|Ar.fit dC<|⟨1,dC,zf [0,1,2],dC⟩
  | 1,_=>
   exact Br.y<|Ar.fit dC<|Ar.fit dC<|zb.t (uD (zw.getD 7 zp))<|Ar.fit dC<|⟨2,dC,zf [0,1,2],dC⟩
  | 2,_=>
   exact Br.y<|Ar.fit dC<|Ar.fit dC<|zb.t (uD (zw.getD 11 zp))<|Ar.fit dC<|⟨3,dC,zf [0,1,2],dC⟩
  | 3,_=>
   exact Br.y<|Ar.fit dC<|Ar.fit dC<|zb.t (uD (zw.getD 15 zp))<|Ar.fit dC<|⟨4,dC,zf [0,1,2],dC⟩
  | 4,_=>
   refine⟨λh=>absurd h dC,λ_=>?_⟩;exact Ar.fit dC<|⟨4,dC,zf [0,1],dC⟩
  | _+5,hk=>exact absurd hk oM
 | 4,_=>
  refine⟨λh=>absurd h dC,λ_=>?_⟩;exact .refl
 | _+5,hi=>exact absurd hi oM
end Go.Gs
