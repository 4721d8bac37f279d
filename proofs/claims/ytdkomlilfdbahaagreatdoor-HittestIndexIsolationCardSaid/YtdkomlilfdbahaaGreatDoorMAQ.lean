/- The offset of a stroke, both texts. -/
import Derived.Test.YtdkomlilfdbahaaGreatDoorMAP
set_option maxRecDepth 100000
set_option maxHeartbeats 80000000
set_option linter.all false
namespace Go.Gs
open Proofs.Tryz
open Go.Proofs
abbrev S50(n:Int):Prop:= -1125899906842624<=n/\n<=1125899906842624
def zlH(p q:Pt)(a:S50 p.x/\S50 p.y)(b:S50 q.x/\S50 q.y):CX 435 [wk p,wk q] (wk (zo p q)):=by
 refine zc func435 ?_;(iterate 2 refine wa ?_);exact .refl
def zgk(p q:Pt)(a:S50 p.x/\S50 p.y)(b:S50 q.x/\S50 q.y):CX 436 [wk p,wk q] (wk (zA p q)):=by
 refine zc func436 ?_;(iterate 2 refine wa ?_);exact .refl
def ziL(p q:Pt)(a:S50 p.x/\S50 p.y)(b:S50 q.x/\S50 q.y):CX 458 [wk p,wk q] (wk (zo p q)):=by
 refine zc func458 ?_;(iterate 2 refine wa ?_);exact .refl
def zgl(p q:Pt)(a:S50 p.x/\S50 p.y)(b:S50 q.x/\S50 q.y):CX 460 [wk p,wk q] (wk (zA p q)):=by
 refine zc func460 ?_;(iterate 2 refine wa ?_);exact .refl
def ziM{v:Pt}{w:Int}(e:kq w)(f:¬zbU v.x)(g:¬zbU v.y):
  (0<=v.x*v.x/\v.x*v.x<=4398046511104)/\(0<=v.y*v.y/\v.y*v.y<=4398046511104)/\
  (-34359738368<=v.x*w/\v.x*w<=34359738368)/\(-34359738368<= -v.y*w/\ -v.y*w<=34359738368)/\
  (0<=isq (65536*(v.x*v.x+v.y*v.y))/\isq (65536*(v.x*v.x+v.y*v.y))<4294967296):=by
 unfold zbU at f g;unfold kq at e;have h:=jG (A:=2097152) (B:=2097152) (a:=v.x) (b:=v.x) oM oM;have j:=jG (A:=2097152) (B:=2097152) (a:=v.y) (b:=v.y) oM oM;have k:=jG (A:=2097152) (B:=16384) (a:=v.x) (b:=w) oM oM;have l:=jG (A:=2097152) (B:=16384) (a:= -v.y) (b:=w) oM oM;have m:=jn v.x;have o:=jn v.y;have c:=zhj (n:=65536*(v.x*v.x+v.y*v.y)) oM oM;have d:=zAy (n:=65536*(v.x*v.x+v.y*v.y)) oM oM;exact⟨oM,oM,oM,oM,c.1,d⟩
def zbi(v:Pt)(w:Int):(-4398046511104<=(z7 v w).x/\(z7 v w).x<=4398046511104)/\(-4398046511104<=(z7 v w).y/\(z7 v w).y<=4398046511104):=by
 unfold z7
 split
 .exact⟨⟨dC,dC⟩,⟨dC,dC⟩⟩
 rename_i h;rw[not_or,not_or,not_or]at h;have a:=ziM (Xa.1 h.1) h.2.1 h.2.2.1;exact⟨u6 (M:=4398046511104) oM,u6 (M:=4398046511104) oM⟩
def zlI(v:Pt)(w:Int):CX 475 [wk v,i64 w] (wk (z7 v w)):=by
 refine zc func475 ?_
 have a:(¬kq w∨zbU v.x∨zbU v.y∨v=zp)->LE (wk zp) (wk (z7 v w)):=λh=>by
  unfold z7;rw[Xe h];exact .refl
 refine wg (zaf w)<|⟨λb=>a (.inl b),λb=>?_⟩;refine wg (zFS v.x)<|⟨λd=>a (.inr (.inl d)),λd=>?_⟩;refine wg (zFS v.y)<|⟨λe=>a (.inr (.inr (.inl e))),λe=>?_⟩;refine⟨λc=>a (.inr (.inr (.inr (qp.1 c)))),λc=>?_⟩;have b:=Xa.1 b;have f:=ziM b d e;have c:¬v=zp:=λh=>c (qp.2 h)
 (iterate 5 refine wa ?_);refine wg (zAB (65536*(v.x*v.x+v.y*v.y)) oM)<|wa<|wc ?_;unfold kq at b;unfold zbU at d e;(iterate 3 refine wa ?_);refine wg (u3 (-v.y*w*128) (isq (65536*(v.x*v.x+v.y*v.y))) ⟨oM,oM⟩ ⟨oM,oM⟩) ?_;rw[uP oM];(iterate 2 refine wa ?_);refine wg (u3 (v.x*w*128) (isq (65536*(v.x*v.x+v.y*v.y))) ⟨oM,oM⟩ ⟨oM,oM⟩) ?_;rw[uP oM];unfold z7
 rw[Xc (by unfold kq zbU;intro h;rcases h with h|h|h|h <;> first|exact c h|omega)];exact .refl
def zhp(v:Pt)(w:Int):CX 457 [wk v,i64 w] (wk (z7 v w)):=by
 refine zc func457 ?_
 have a:(¬kq w∨zbU v.x∨zbU v.y∨v=zp)->LE (wk zp) (wk (z7 v w)):=λh=>by
  unfold z7;rw[Xe h];exact .refl
 have far:∀n:Int,¬(-2097152<=n/\n<=2097152)->zbU n:=λn h=>by unfold zbU;omega
 refine wg (zpK w)<|⟨λb=>a (.inl b),λb=>?_⟩;refine wg (zaD v.x (-2097152) 2097152)<|⟨λd=>a (.inr (.inl (far _ d))),λd=>?_⟩;refine wg (zaD v.y (-2097152) 2097152)<|⟨λe=>a (.inr (.inr (.inl (far _ e)))),λe=>?_⟩;have b:=Xa.1 b;have f:¬zbU v.x:=by unfold zbU;omega
 have g:¬zbU v.y:=by unfold zbU;omega
 have l:=ziM b f g;(iterate 5 refine wa ?_);refine wg (zvT (65536*(v.x*v.x+v.y*v.y)) oM)<|wa<|wc ?_;(iterate 3 refine wa ?_);refine wg (ul (-v.y*w*128) (isq (65536*(v.x*v.x+v.y*v.y))) ⟨oM,oM⟩ ⟨oM,oM⟩) ?_;rw[uP oM];(iterate 2 refine wa ?_);refine wg (ul (v.x*w*128) (isq (65536*(v.x*v.x+v.y*v.y))) ⟨oM,oM⟩ ⟨oM,oM⟩) ?_;rw[uP oM]
 by_cases c:v=zp
 .have j:z8 (-v.y*w*128) (isq (65536*(v.x*v.x+v.y*v.y)))=0:=by
   rw[c,show-zp.y*w*128=0 by show(-0:Int)*w*128=0;simp];exact znS
  have k:z8 (v.x*w*128) (isq (65536*(v.x*v.x+v.y*v.y)))=0:=by
   rw[c,show zp.x*w*128=0 by show(0:Int)*w*128=0;simp];exact znS
  rw[j,k];exact a (.inr (.inr (.inr c)))
 unfold z7;rw[Xc (by intro h;rcases h with h|h|h|h <;> first|exact c h|exact h b|exact f h|exact g h)];exact .refl
structure Pl where
 pts:LU
 cl:Bool
def plE(q:Pl):LR:=[.sl ptE q.pts,pr (q.cl=true)]
def zk(r:LU):LR:=[.sl ptE r]
def jc:LU->LU
 |[]=>[]
 |p::r=>match r with
  |[]=>[p]
  |q::_=>if p=q then jc r else p::jc r
def qo(l:LU):LU:=if 1<l.length/\l.getLast?=l.head? then l.dropLast else l
def zw(p:Pl):Pl:=⟨if p.cl then qo (jc p.pts) else jc p.pts,p.cl⟩
def jN:LU->Prop
 |[]=>True
 |p::r=>(∀q,r.head?=some q->p≠q)/\jN r
def zlJ:∀l:LU,(jc l).head?=l.head?
 |[]=>rfl
 |[p]=>rfl
 |p::q::r=>by
  unfold jc;dsimp only
  split
  .rename_i h;rw[zlJ (q::r),h];rfl
  rfl
def un:∀l:LU,jN (jc l)
 |[]=>trivial
 |[p]=>⟨λ_ h=>(by cases h),tV⟩
 |p::q::r=>by
  unfold jc;dsimp only
  split
  .exact un (q::r)
  rename_i h;refine⟨λz a=>?_,un (q::r)⟩;rw[zlJ]at a
  cases a
  exact h
def zfj:∀{l:LU} {p:Pt},p∈jc l->p∈l
 |[],_,h=>h
 |[q],_,h=>h
 |a::q::r,p,h=>by
  unfold jc at h;dsimp only at h
  split at h
  .exact .tail _ (zfj h)
  cases h with
  |head=>exact .head _
  |tail _ h=>exact .tail _ (zfj h)
def nth(l:LU)(i:Nat):Pt:=l.getD i zp
def k7(p:Pl)(pen:Pen):LQ:=
 ((List.range (p.pts.length-1)).flatMap λi=>kS (j8 (nth p.pts i) (nth p.pts (i+1)) pen.w))++
 (if p.cl/\1<p.pts.length then kS (j8 (nth p.pts (p.pts.length-1)) (nth p.pts 0) pen.w) else[])
def jo(p:Pl)(pen:Pen):LQ:=
 if p.pts.length<=1 then[] else
 (List.range p.pts.length).flatMap λi=>if¬p.cl=true/\(i=0∨i=p.pts.length-1) then[]
  else jh (nth p.pts ((i+p.pts.length-1)%p.pts.length)) (nth p.pts i) (nth p.pts ((i+1)%p.pts.length)) pen
def uc(a b:Pt)(pen:Pen):LU:=if pen.c=5 then zlC a b pen.w else if pen.c=3 then vZ b pen.w else[]
def zbE(p:Pt)(pen:Pen):LU:=if pen.c=5 then zeo p pen.w else if pen.c=3 then vZ p pen.w else[]
def zet(p:Pl)(pen:Pen):LQ:=
 if p.pts.length=1 then kS (zbE (nth p.pts 0) pen)
 else if 1<p.pts.length/\¬p.cl=true then kS (uc (nth p.pts 1) (nth p.pts 0) pen)++kS (uc (nth p.pts (p.pts.length-2)) (nth p.pts (p.pts.length-1)) pen) else[]
def kv(p:Pl)(pen:Pen):LQ:=k7 p pen++jo p pen++zet p pen
def qh(l:LQ):Nat:=(l.map List.length).sum
def kB(p:Pl)(pen:Pen):LQ×Int:=
 if¬kF pen then([],13) else if¬∀q∈p.pts,zm q then([],6) else if 4096<p.pts.length then([],5)
 else if¬∀r∈kv (zw p) pen,∀q∈r,zm q then([],6) else if 4096<qh (kv (zw p) pen) then([],5) else(kv (zw p) pen,0)
def qr:List Pl->Pen->LQ×Int
 |[],_=>([],0)
 |p::r,pen=>if (kB p pen).2≠0 then([],(kB p pen).2)
  else if (qr r pen).2≠0 then([],(qr r pen).2) else((kB p pen).1++(qr r pen).1,0)
def qz(l:List Pl)(pen:Pen):LQ×Int:=
 if¬kF pen then([],13) else if (qr l pen).2≠0 then([],(qr l pen).2) else if 4096<qh (qr l pen).1 then([],5) else((qr l pen).1,0)
def yu(a b c:Pt):Int:=(a.x-2*b.x+c.x)*(a.x-2*b.x+c.x)+(a.y-2*b.y+c.y)*(a.y-2*b.y+c.y)
def enough(need tol:Int)(n:Nat):Prop:=need<=16*n*n*n*n*tol*tol
instance (need tol:Int) (n:Nat):Decidable (enough need tol n):=inferInstanceAs (Decidable (_<=_))
def yI(need tol:Int):Nat->Nat->Int×Int
 |0,_=>(0,11)
 |k+1,n=>if enough need tol n then(n,0) else yI need tol k (n+1)
def k8(need tol:Int)(l:LU):Int×Int:=if¬(1<=tol/\tol<=256) then(0,2) else if¬∀p∈l,zm p then(0,6) else yI need tol 64 1
def j9(a b c:Pt)(tol:Int):Int×Int:=k8 (yu a b c) tol [a,b,c]
def ya(a b c d:Pt)(tol:Int):Int×Int:=k8 (9*max (yu a b c) (yu b c d)) tol [a,b,c,d]
def zrU(l:LU)(i n:Int):Prop:=(∀p∈l,zm p)/\1<=n/\n<=64/\0<=i/\i<=n
instance (l:LU) (i n:Int):Decidable (zrU l i n):=wi
def q1(i n a b c:Int):Int:=zen ((n-i)*(n-i)*a+2*i*(n-i)*b+i*i*c) (n*n)
def y6(a b c:Pt)(i n:Int):Pt:=if¬zrU [a,b,c] i n then zp else⟨q1 i n a.x b.x c.x,q1 i n a.y b.y c.y⟩
def c1(i n a b c d:Int):Int:=zen ((n-i)*(n-i)*(n-i)*a+3*i*(n-i)*(n-i)*b+3*i*i*(n-i)*c+i*i*i*d) (n*n*n)
def y7(a b c d:Pt)(i n:Int):Pt:=if¬zrU [a,b,c,d] i n then zp else⟨c1 i n a.x b.x c.x d.x,c1 i n a.y b.y c.y d.y⟩
def zcG(f:Int->Pt)(n:Nat):LU:=(List.range n).map λ(i:Nat)=>f ((i:Int)+1)
def zdJ(a b c:Pt)(tol:Int):LU×Int:=if (j9 a b c tol).2≠0 then([],(j9 a b c tol).2) else(zcG (λi=>y6 a b c i (j9 a b c tol).1) (j9 a b c tol).1.toNat,0)
def zdK(a b c d:Pt)(tol:Int):LU×Int:=if (ya a b c d tol).2≠0 then([],(ya a b c d tol).2) else(zcG (λi=>y7 a b c d i (ya a b c d tol).1) (ya a b c d tol).1.toNat,0)
def kC(rs:LQ):Prop:=(qh rs:Int)<=4096/\∀r∈rs,∀p∈r,zm p
instance (rs:LQ):Decidable (kC rs):=wi
def zfk(r:LU):kC [r]↔zpI r:=by
 unfold kC zpI qh;simp
def zjJ(xs:LU):Int:=match xs.findIdx? (λp=>decide (¬zm p)) with
 |some i=>i
 |none=> -1
def zrV{xs:LU}{i:Nat}{p:Pt}(h:∀(j:Nat) q,j<i->xs[j]?=some q->zm q)(hi:xs[i]?=some p)(d:¬zm p):zjJ xs=i:=by
 have:xs.findIdx? (λp=>decide (¬zm p))=some i:=by
  rw[KS];obtain⟨c,a⟩:=Xd.1 hi;refine⟨c,by simp[a,d],λj b=>?_⟩;have:=h j xs[j] b (Xb _);simp[this]
 simp only[zjJ,this]
variable{xs:LU}
def zgm(h:∀p∈xs,zm p):zjJ xs= -1:=by
 have:xs.findIdx? (λp=>decide (¬zm p))=none:=by
  rw[KE];intro p a;simp[h p a]
 simp only[zjJ,this]
def zhq:0<=zjJ xs↔¬∀p∈xs,zm p:=by
 constructor
 .intro h hall;rw[zgm hall]at h;omega
 intro h;unfold zjJ
 split
 .omega
 rename_i a;rw[KE]at a;exact absurd (λp b=>by simpa using a p b) h
def zAN(p:Pt):CX 169 [wk p] (pr (¬zm p)):=by
 exact zc func169<|wg (qe p)<|zC Qk
def zD1(xs:LU):CX 237 [.sl ptE xs,.fn 169 []] (i64 (zjJ xs)):=by
 refine zc func237 λk=>?_;refine⟨Int,λi=>⟨[(8,i64 i),(7,i64 xs.length),(0,.sl ptE xs),(1,.fn 169 [])],[],0,19,0⟩,λi=>0<=i/\i<=xs.length/\∀(j:Nat) q,(j:Int)<i->xs[j]?=some q->zm q,λi=>((xs.length:Int)-i).toNat,0,?_,?_,?_⟩
 .exact⟨oM,oM,λj q a=>by omega⟩
 .exact zB []
 rintro i ⟨m,n,b⟩
 refine⟨λg=>?_,λg=>?_⟩
 .refine wb λx f=>wg (zAN x)<|⟨λc=>?_,λc=>?_⟩
  .refine ze ?_;rw[zrV (i:=i.toNat) (λj q a=>b j q oM) f c];omega
  refine wa<|⟨i+1,⟨oM,oM,λj q a d=>?_⟩,zB [],oN⟩
  by_cases e:j=i.toNat
  .subst e;rw[f]at d;cases d;exact Xa.1 c
  exact b j q oM d
 refine ze (zgm λp l=>?_).symm;obtain⟨j,a,h⟩:=Kw l;exact b j p oM (by rw[←h];exact Xb a)
def zum(xs:LU):CX 168 [.sl ptE xs,.fn 169 []] (pr (¬∀p∈xs,zm p)):=by
 exact zc func168<|wg (zD1 xs)<|zC zhq
def vl{rs:LQ}{i:Nat}{r:LU}(h:rs[i]?=some r):qh (rs.take (i+1))=qh (rs.take i)+r.length:=by
 unfold qh;rw[Xn,h];simp
def zat(rs:LQ)(i:Nat):qh (rs.take i)<=qh rs:=by
 unfold qh
 conv=>rhs;rw[←Ku i rs]
 rw[Xz,QW];omega
variable{i:Nat}{r:LU}
def zdj{rs:LQ}(h:rs[i]?=some r)(b:∀q∈rs.take i,∀p∈q,zm p)(c:∀p∈r,zm p):∀q∈rs.take (i+1),∀p∈q,zm p:=by
 rw[Xn,h];intro q a
 rcases Xu.1 a with a|a
 .exact b q a
 rw[QF,Xt]at a;exact a ▸ c
def zhr(rs:LQ)(o:∀r∈rs,(r.length:Int)<=9223372036854771711):CX 118 [.sl zk rs] (pr (kC rs)):=by
 refine zc func118 λj=>?_;refine⟨Nat,λi=>⟨[(3,i64 (qh (rs.take i):Int)),(8,i64 i),(7,i64 rs.length),(6,.sl zk rs)],[],0,23,0⟩,λi=>i<=rs.length/\(qh (rs.take i):Int)<=4096/\∀q∈rs.take i,∀p∈q,zm p,λi=>rs.length-i,0,?_,?_,?_⟩
 .exact⟨Xh _,by show((0:Nat):Int)<=4096;decide,λq m=>by cases m⟩
 .exact zB []
 rintro i ⟨s,d,c⟩
 refine⟨λg=>?_,λg=>?_⟩
 .refine wb λr(a:rs[i]?=some r)=>?_;have n:=o r (Xf a);have t:=vl a;have h:=zat rs (i+1);intro l;refine wa<|Br.mk (λf=>zd (λk=>by have:=k.1;omega)) (λf=>?_);refine wg (zum r)<|⟨λb=>zd (λk=>b (k.2 r (Xf a))),λb=>?_⟩;refine wa ?_;have e:(qh (rs.take i):Int)+(r.length:Int)=((qh (rs.take (i+1)):Nat):Int):=oM;refine⟨i+1,⟨oM,oM,zdj a c (Xa.1 b)⟩,?_,oN⟩;dsimp only;rw[←e]
  exact zB []
 rw[Xi oM]at d c;exact zH ⟨d,c⟩
def zhs(rs:LQ):CX 152 [.sl zk rs] (pr (kC rs)):=by
 refine zc func152<|⟨Nat,λi=>⟨[(3,i64 (qh (rs.take i):Int)),(4,i64 i),(0,.sl zk rs)],[],0,45,0⟩,λi=>i<=rs.length/\(qh (rs.take i):Int)<=4096/\∀q∈rs.take i,∀p∈q,zm p,λi=>rs.length-i,0,?_,?_,?_⟩
 .exact⟨Xh _,by show((0:Nat):Int)<=4096;decide,λq b=>by cases b⟩
 .exact zB []
 rintro i ⟨y,l,h⟩
 intro t;refine⟨λg=>?_,λg=>?_⟩
 .refine wb λr(d:rs[i]?=some r)=>?_;have z:=vl d;have s:=zat rs (i+1);intro u;refine wa<|Br.mk (λn=>zd (λk=>by have:=k.1;omega)) (λn=>?_);refine wb λc a=>?_;have e:c=r:=Xl ((show rs[i]?=some c from a).symm.trans d);rw[e];intro v;refine wa ?_;have e:(qh (rs.take i):Int)+(r.length:Int)=((qh (rs.take (i+1)):Nat):Int):=oM;rw[e]
  refine⟨Nat,λk=>⟨[(5,i64 k),(3,i64 (qh (rs.take (i+1)):Int)),(4,i64 i),(0,.sl zk rs)],[],0,45,0⟩,λk=>k<=r.length/\∀p∈r.take k,zm p,λk=>r.length-k,0,?_,?_,?_⟩
  .exact⟨Xh _,λq b=>by cases b⟩
  .exact zB []
  rintro k ⟨A,j⟩
  refine wb λc a=>?_;have e:c=r:=Xl ((show rs[i]?=some c from a).symm.trans d);rw[e];intro w;refine⟨λo=>?_,λo=>?_⟩
  .refine wb λc a=>?_;have e:c=r:=Xl ((show rs[i]?=some c from a).symm.trans d);rw[e];refine wb λx(m:r[k]?=some x)=>?_;refine wg (ki x)<|⟨λf=>zd (λkk=>f (kk.2 r (Xf d) x (Xf m))),λf=>?_⟩;refine wa<|⟨k+1,⟨oM,?_⟩,zB [],oN⟩;rw[Xn,m];intro q b
   rcases Xu.1 b with b|b
   .exact j q b
   rw[QF,Xt]at b;exact b ▸ Xa.1 f
  rw[Xi oM]at j;exact wa<|⟨i+1,⟨oM,oM,zdj d h j⟩,zB [],oN⟩
 rw[Xi oM]at l h;exact zH ⟨l,h⟩
def zG5(n:Int)(p q:Pt)(b: -4611686018427387904<=n/\n<=4611686018427387904):
  CG0 492 [wk p,wk q,.loc 0 0] [(0,.box 3 [i64 n])] (.tup []) [(0,.box 3 [i64 (n+zaT p q)])]:=by
 have a:=zcE (jz p) (jz q);exact ux tok mix func492 rfl rfl rfl rfl rfl<|wc<|wg (zDY p q)<|Ar.fit (by unfold zaT;omega)<|⟨rfl,.refl⟩
def zkg{n:Nat}(h:i<n):((i:Int)+1)%(n:Int)=(((i+1)%n:Nat):Int):=by rw[Q5,QU];rfl
variable{x:Pt}
def znX{y:Pt}(b:r[i]?=some x)(a:r[(((i:Int)+1)%(r.length:Int)).toNat]?=some y)(h:i<r.length):vk r (i+1)=vk r i+zaT x y:=by
 rw[zkg h,XU]at a;rw[zgj,Xs,Xs,b,a];rfl
def zG6(r:LU)(l:r.length<=4096):
  CG0 121 [.sl ptE r,.fn 492 [.loc 0 0]] [(0,.box 3 [i64 0])] (.tup []) [(0,.box 3 [i64 (vk r r.length)])]:=by
 refine ux tok mix func121 rfl rfl rfl rfl rfl λd=>?_;refine⟨Nat,λi=>⟨[(8,i64 i),(7,i64 r.length),(6,.sl ptE r),(0,.sl ptE r),(1,.fn 492 [.loc 0 0])],[(0,.box 3 [i64 (vk r i)])],1,25,1⟩,λi=>i<=r.length,λi=>r.length-i,0,?_,?_,?_⟩
 .exact Xh _
 .exact zf [0]
 rintro i j
 refine⟨λg:(i:Int)<r.length=>?_,λg=>?_⟩
 .refine wb λx a=>wd<|wa λf=>Dv.pos ⟨oM,oM⟩ ?_;have q1:=Kj ((i:Int)+1) (b:=(r.length:Int)) oM;have h:=Kg ((i:Int)+1) (b:=(r.length:Int)) oM;refine Ob.mk ⟨q1,h⟩ λy c=>?_;have a:r[i]?=some x:=a;have c:r[(((i:Int)+1)%(r.length:Int)).toNat]?=some y:=c;have k:=zjE r i;refine zb.hand 0 _ _ _ rfl (zG5 (vk r i) x y oM) rfl rfl rfl rfl<|wh<|wa ?_
  have e:vk r (i+1)=vk r i+zaT x y:=znX a c oM;refine⟨i+1,oM,?_,oN⟩;dsimp only;rw[e];exact zf [0]
 have e:i=r.length:=by have g:¬(i:Int)<r.length:=g;omega
 subst e;exact⟨rfl,.refl⟩
def zG7(r:LU)(c:(r.length:Int)<=9223372036854771711):CX 476 [.sl ptE r] (i64 (zcF r)):=by
 refine zc func476<|⟨LU,zk,[r],rfl,wb0 ?_⟩;refine zb.see 0 _ (zhr [r] (λq b=>by rw[Xt]at b;exact b ▸ c)) rfl rfl rfl<|Br.mk (λa=>?_) (λa=>?_)
 .refine ze ?_;unfold zcF;rw[Xc (λh=>a ((zfk r).2 h))]
 have a:=(zfk r).1 (Xa.1 a);refine zb.give [1] 0 [.sl ptE r,.fn 492 [.loc 0 0]] [(0,.box 3 [i64 0])] [(0,.box 3 [i64 (vk r r.length)])] (.tup []) (zG6 r (by have:=a.1;omega)) LEs.refl rfl rfl rfl ⟨⟨_,rfl,rfl,rfl⟩,tV⟩ rfl ⟨⟨rfl,rfl⟩,tV⟩<|ze ?_;unfold zcF;rw[Xe a]
def zAO(r:LU)(i:Nat)(y:Pt)(h:i<r.length/\r.length<=4096)(c:r[(((i:Int)+1)%(r.length:Int)).toNat]?=some y):
  CX 218 [.sl ptE r,i64 i] (wk y):=by
 refine zc func218<|wa λa=>Dv.pos ⟨oM,oM⟩ ?_;have q1:=Kj ((i:Int)+1) (b:=(r.length:Int)) oM;have f:=Kg ((i:Int)+1) (b:=(r.length:Int)) oM;refine Ob.mk ⟨q1,f⟩ λz d=>?_;have e:z=y:=Xl ((show r[(((i:Int)+1)%(r.length:Int)).toNat]?=some z from d).symm.trans c);rw[e];exact .refl
def zG8(r:LU):CX 485 [.sl ptE r] (i64 (zcF r)):=by
 refine zc func485<|⟨LU,zk,[r],rfl,wb0 ?_⟩;refine zb.see 0 _ (zhs [r]) rfl rfl rfl<|Br.mk (λa=>?_) (λa=>?_)
 .refine ze ?_;unfold zcF;rw[Xc (λh=>a ((zfk r).2 h))]
 have a:=(zfk r).1 (Xa.1 a);have j:r.length<=4096:=by have:=a.1;omega
 refine⟨Nat,λi=>⟨[(4,i64 i),(3,i64 (vk r i)),(0,.sl ptE r)],[],1,26,0⟩,λi=>i<=r.length,λi=>r.length-i,0,?_,?_,?_⟩
 .exact Xh _
 .exact zB []
 rintro i l
 intro f;refine⟨λg:(i:Int)<r.length=>?_,λg=>?_⟩
 .refine wc<|wb λx(k:r[i]?=some x)=>?_;have d:(i+1)%r.length<r.length:=Kq _ oM;obtain⟨y,b⟩:∃y,r[(i+1)%r.length]?=some y:=⟨_,Xb d⟩;have c:r[(((i:Int)+1)%(r.length:Int)).toNat]?=some y:=by rw[zkg oM,XU];exact b
  refine wg (zAO r i y ⟨oM,j⟩ c)<|wg (zDZ x y) ?_;have m:=zjE r i;have n:=zcE (jz x) (jz y);refine Ar.fit (by unfold zaT;omega)<|wa ?_;have e:vk r (i+1)=vk r i+zaT x y:=znX k c oM;refine⟨i+1,oM,?_,oN⟩;dsimp only;rw[e];exact zB []
 have e:i=r.length:=by have g:¬(i:Int)<r.length:=g;omega
 subst e;refine ze ?_;unfold zcF;rw[Xe a]
def zrW(r:LU)(e:r.length<=4096):CX 225 [.sl ptE r] (.sl ptE r):=by
 refine zc func225<|⟨Pt,ptE,[],rfl,wb2 ?_⟩;refine⟨Nat,λi=>⟨[(4,i64 i),(3,.own 0),(0,.sl ptE r)],[(0,.arr 28 ptE 2 (r.take i))],1,20,0⟩,λi=>i<=r.length,λi=>r.length-i,0,?_,?_,?_⟩
 .exact Xh _
 .exact zf [0]
 rintro i d
 intro b;refine⟨λg:(i:Int)<r.length=>?_,λg=>?_⟩
 .refine wb λx(c:r[i]?=some x)=>?_;refine⟨Pt,ptE,[x],rfl,wb0 ?_⟩;have a:(r.take i).length=i:=by rw[Xp];omega
  refine⟨[x],rfl,Ob.mk ⟨(by show _*(16:Int)<=_;simp only[a,Xm,Xo];omega),(by simp only[a,Xm,Xo];omega),dC,λ_ _=>rfl⟩ ?_⟩;exact wa<|⟨i+1,oM,zt [2] ⟨aR (by rw[Xn,c];rfl),tV⟩,oN⟩
 exact z6 (by rw[Xi (by have g:¬(i:Int)<r.length:=g;omega)])
def znY:zcF []=0:=by decide +kernel
def ziN{r:LU}(h:zcF r≠0):r.length<=4096:=by
 unfold zcF at h
 split at h
 .rename_i k;have:=k.1;omega
 exact absurd rfl h
def zbF(r:LU):CX 459 [.sl ptE r] (.sl ptE (kH r)):=by
 refine zc func459<|wg (zG8 r)<|⟨λc=>?_,λc=>?_⟩
 .exact wg (zrW r (ziN oM))<|z6 (show r=kH r by unfold kH;rw[Xc oM,Xc oM])
 refine⟨Pt,ptE,[],rfl,wb2 ?_⟩;refine⟨λa=>?_,λa=>?_⟩
 .have h:=ziN (r:=r) oM;have e:kH r=zvR r:=by unfold kH;rw[Xc oM,Xe a]
  cases r with
  |nil=>rw[znY]at a;omega
  |cons p q=>
   have m:q.length+1<=4096:=h;have hL:((p::q).length:Int)=q.length+1:=by simp only[Xm];omega
   refine wb5 λx b=>?_;have b:some p=some x:=b
   cases b
   refine⟨Pt,ptE,[p],rfl,wb0 ?_⟩;refine⟨[p],rfl,wb4 ?_⟩;intro f;refine wa<|⟨Nat,λi=>⟨[(5,i64 i),(4,.own 0),(0,.sl ptE (p::q))],[(0,.arr 28 ptE 2 (p::(q.drop i).reverse))],1,36,0⟩,λi=>i<=q.length,λi=>i,q.length,?_,?_,?_⟩
   .exact Xj _
   .exact zQ [2] ⟨iR oM,rfl,rfl,tV⟩ ⟨aR (by rw[List.drop_length];rfl),tV⟩
   rintro i l
   refine⟨λg:(0:Int)<i=>?_,λg:¬(0:Int)<i=>?_⟩
   .obtain⟨j,rfl⟩:∃j,i=j+1:=⟨i-1,oM⟩;refine wb5 λy(k:q[j]?=some y)=>?_;refine⟨Pt,ptE,[y],rfl,wb0 ?_⟩;refine⟨[y],rfl,Ob.mk ⟨(by show _*(16:Int)<=_;simp only[Xm,Xo,Qa,KG];omega),(by simp only[Xm,Xo,Qa,KG];omega),dC,λ_ _=>rfl⟩ ?_⟩;refine wa ?_
    refine⟨j,oM,zQ [2] ⟨iR (show((j+1:Nat):Int)-1=(j:Int) by omega),rfl,rfl,tV⟩ ⟨aR ?_,tV⟩,oN⟩;rw[zhk k,List.reverse_cons];rfl
   have d:i=0:=oM;subst d;refine z6 ?_;rw[e];rfl
 refine z6 ?_;unfold kH;rw[Xe oM]
def zrX(q:LU)(i k:Nat):Pt:=if k<i∨q.length<=k+i then q.getD (q.length-1-k) zp else q.getD k zp
def zgn(q:LU)(i:Nat):LU:=(List.range q.length).map (zrX q i)
def zrY(q:LU)(i:Nat):(zgn q i).length=q.length:=by unfold zgn;simp
def zeu(q:LU)(i k:Nat):(zgn q i)[k]?=if k<q.length then some (zrX q i k) else none:=by
 unfold zgn;rw[XD]
 by_cases h:k<q.length
 .rw[Xe h,KV h];rfl
 rw[Xc h,XH (by simp;omega)];rfl
def zrZ{q:LU}{k:Nat}(h:k<q.length):q[k]?=some (q.getD k zp):=by
 rw[Xs,Xb h];rfl
def zxR(q:LU):zgn q 0=q:=by
 refine KA λk=>?_
 rw[zeu]
 by_cases h:k<q.length
 .rw[Xe h,zrZ h];unfold zrX;rw[Xc oM]
 rw[Xc h,XH oM]
def zAP{q:LU}(h:q.length<=2*i+1):zgn q i=q.reverse:=by
 refine KA λk=>?_
 rw[zeu]
 by_cases a:k<q.length
 .rw[Xe a,QY a,zrZ oM];unfold zrX
  by_cases c:k<i∨q.length<=k+i
  .rw[Xe c]
  rw[Xc c,show q.length-1-k=k by omega]
 rw[Xc a,XH (by simp;omega)]
def zxS{q:LU}(h:2*i+1<q.length):
  ((zgn q i).set i (q.getD (q.length-1-i) zp)).set (q.length-1-i) (q.getD i zp)=zgn q (i+1):=by
 refine KA λk=>?_
 rw[KB,KB,XO,zrY,zeu,zeu]
 by_cases a:k<q.length
 .rw[Xe a,Xe a]
  by_cases c1:q.length-1-i=k
  .rw[Xe c1,Xe oM];unfold zrX;rw[Xe oM,show q.length-1-k=i by omega]
  rw[Xc c1]
  by_cases b:i=k
  .rw[Xe b,Xe oM];unfold zrX;rw[Xe oM,b]
  rw[Xc b];unfold zrX
  by_cases c:k<i∨q.length<=k+i
  .rw[Xe c,Xe oM]
  rw[Xc c,Xc oM]
 rw[Xc oM,Xc oM,Xc a,Xc a]
def zv1{q:LU}{k:Nat}(a:k<q.length)(h:i<=k/\k+i<q.length):(zgn q i)[k]?=some (q.getD k zp):=by
 rw[zeu,Xe a];unfold zrX;rw[Xc oM]
def p_rev(p:Pt)(q:LU)(f:q.length<=4096):CG0 477 [.win 0 2 1 (q.length:Int)] [(0,.arr 28 ptE 2 (p::q))] (.tup []) [(0,.arr 28 ptE 2 (p::q.reverse))]:=by
 refine ux tok mix func477 rfl rfl rfl (λ_ _=>rfl) rfl<|wb<|wa<|⟨Nat,λi=>⟨[(3,i64 ((q.length:Int)-1-i)),(2,i64 i),(0,.win 0 2 1 (q.length:Int))],[(0,.arr 28 ptE 2 (p::zgn q i))],1,28,1⟩,λi=>2*i<=q.length,λi=>q.length-i,0,?_,?_,?_⟩
 .exact Xh _
 .exact zQ [0] ⟨iR oM,rfl,rfl,tV⟩ ⟨Xg (λr=>some (Mem.arr 28 ptE 2 (p::r))) (zxR q).symm,tV⟩
 rintro i d
 refine⟨λg:(i:Int)<(q.length:Int)-1-i=>?_,λg:¬(i:Int)<(q.length:Int)-1-i=>?_⟩
 .have a:(p::zgn q i).length=q.length+1:=by rw[Xm,zrY]
  refine wc<|wb6<|Ob.mk (by rw[a];omega) λx b=>?_
  have b:x=q.getD (q.length-1-i) zp:=by
   have e:(p::zgn q i)[(1+((q.length:Int)-1-i)).toNat]?=some x:=b;rw[show(1+((q.length:Int)-1-i)).toNat=(q.length-1-i)+1 by omega,K2,zv1 oM oM]at e;exact(Xl e).symm
  refine wb6<|Ob.mk (by rw[a];omega) λy c=>?_
  have c:y=q.getD i zp:=by
   have e:(p::zgn q i)[(1+(i:Int)).toNat]?=some y:=c;rw[show(1+(i:Int)).toNat=i+1 by omega,K2,zv1 oM oM]at e;exact(Xl e).symm
  refine wb6<|Ob.mk (by rw[a];omega) λx' _=>?_;refine⟨x,rfl,?_⟩;refine wb6<|Ob.mk (by rw[XO,a];omega) λh _=>?_;refine⟨y,rfl,?_⟩;(iterate 2 refine wa ?_);refine⟨i+1,oM,zQ [0] ⟨iR oM,rfl,rfl,tV⟩ ⟨aR ?_,tV⟩,oN⟩;show((p::zgn q i).set (1+(i:Int)).toNat x).set (1+((q.length:Int)-1-i)).toNat y=p::zgn q (i+1)
  rw[show(1+(i:Int)).toNat=i+1 by omega,show(1+((q.length:Int)-1-i)).toNat=(q.length-1-i)+1 by omega,J9,J9,b,c,zxS oM]
 refine⟨Xg (λr=>some (Mem.arr 28 ptE 2 (p::r))) (zAP oM),.refl⟩
def zpN(q:LU)(b:q.length<=4096):CG0 246 [.sl ptE q] [] (.own 0) [(0,.arr 28 ptE 2 q)]:=by
 refine qf tok mix func246 rfl rfl rfl ?_
 by_cases a:q=[]
 .refine zcn.any (Br.mk ?_ ?_)
  .exact⟨none,.nil rfl,a⟩
  refine⟨Pt,ptE,[],rfl,wb2 ?_⟩;refine⟨q,rfl,wb17 ?_⟩;exact⟨some 1,.own _ rfl,rfl,λ_ _=>rfl⟩
 refine zcn.some (λh=>a (Xq h))<|⟨Pt,ptE,[],rfl,wb2 ?_⟩;refine⟨q,rfl,wb17 ?_⟩;exact⟨some 1,.own _ rfl,rfl,λ_ _=>rfl⟩
def zxT(p:Pt):zcF [p]=0:=by
 unfold zcF
 split
 .show vk [p] 1=0;have a:vk [p] 0=0:=by unfold vk;rfl
  have b:[p].getD 0 zp=p:=rfl;have c:[p].getD ((0+1) % [p].length) zp=p:=by show[p].getD ((0+1)%1) zp=p;rw[Nat.mod_one];rfl
  rw[zgj,a,b,c];unfold zaT;unfold wdg;rw[QR (jF p).x];omega
 rfl
def zbG(r:LU)(f:(r.length:Int)<=9223372036854771711):CX 434 [.sl ptE r] (.sl ptE (kH r)):=by
 refine zc func434<|wg (zG7 r f)<|⟨λa=>?_,λa=>?_⟩
 .have e:kH r=[]:=by unfold kH;rw[Xe a]
  rw[e];exact zD
 have b:=ziN a;refine zb.fresh _ _ (zpN r b) rfl (λ_ _=>rfl) (.inr (λ_ _=>rfl))<|⟨λc=>?_,λc=>?_⟩
 .have e:kH r=zvR r:=by unfold kH;rw[Xc a,Xe c]
  cases r with
  |nil=>exact absurd znY a
  |cons p q=>
   have d:q≠[]:=λh=>a (by rw[h];exact zxT p)
   have g:0<q.length:=Ki λh=>d (Xq h)
   have hL:((p::q).length:Int)=(q.length:Int)+1:=by simp only[Xm];omega
   have b:q.length<=4096:=by simp only[Xm]at b;omega
   refine Sl.win (Ob.mk ⟨oM,oM,oM,oM⟩ ?_)
   have ct:CG0 477 [.win 0 2 1 (((p::q).length:Int)-1)] [(0,.arr 28 ptE 2 (p::q))] (.tup []) [(0,.arr 28 ptE 2 (p::q.reverse))]:=by
    rw[show((p::q).length:Int)-1=(q.length:Int) by omega];exact p_rev p q b
   refine zb.hand 0 _ _ _ rfl ct (λ_ _=>rfl) (λ_ _=>rfl) rfl rfl ?_;rw[e];exact z6 rfl
 refine z6 (show r=kH r by unfold kH;rw[Xc a,Xc c])
def P45(p:Pt):Prop:=(-35184372088832<=p.x/\p.x<=35184372088832)/\(-35184372088832<=p.y/\p.y<=35184372088832)
def P45.s{p:Pt}(h:P45 p):S50 p.x/\S50 p.y:=by unfold P45 at h;omega
variable{p:Pt}
def zm.p45(h:zm p):P45 p:=by unfold zm at h;unfold P45;omega
def jg(v:Pt)(w:Int):P45 (z7 v w):=by have:=zbi v w;unfold P45;omega
def zht(v:Pt)(w:Int):P45 ⟨(z7 v w).y,-(z7 v w).x⟩:=by have:=zbi v w;unfold P45;dsimp only;omega
variable{q:Pt}
def zAQ(h:P45 p)(k:P45 q):S50 (zo p q).x/\S50 (zo p q).y:=by
 unfold P45 at h k;show S50 (p.x-q.x)/\S50 (p.y-q.y);omega
def zAR(h:P45 p)(k:P45 q):S50 (zA p q).x/\S50 (zA p q).y:=by
 unfold P45 at h k;show S50 (p.x+q.x)/\S50 (p.y+q.y);omega
def zlK{w:Int}(c:kq w):(-16384<=z8 w 2/\z8 w 2<=16384)/\ub (z8 w 2)=z8 w 2:=by
 unfold kq at c;have:=u6 (a:=w) (b:=2) (M:=16384) oM;exact⟨oM,uP oM⟩
def zr0(a b:Pt)(w:Int):CG0 433 [wk a,wk b,i64 w] []
  (.tup [wk (if kq w/\zm a/\zm b then z7 (zo b a) w else zp),pr (kq w/\zm a/\zm b)]) []:=by
 refine zc func433 ?_
 have c:¬(kq w/\zm a/\zm b)->LE (.tup [wk zp,bl false]) (.tup [wk (if kq w/\zm a/\zm b then z7 (zo b a) w else zp),pr (kq w/\zm a/\zm b)]):=λh=>by
  rw[Xc h];exact zP .refl (zd h)
 refine wg (zaf w)<|⟨λd=>c (λh=>d h.1),λd=>?_⟩;refine wg (qe a)<|⟨λe=>c (λh=>e h.2.1),λe=>?_⟩;refine wg (qe b)<|⟨λf=>c (λh=>f h.2.2),λf=>?_⟩;have h:kq w/\zm a/\zm b:=⟨Xa.1 d,Xa.1 e,Xa.1 f⟩;refine wg (zlH b a h.2.2.p45.s h.2.1.p45.s)<|wg (zlI (zo b a) w) ?_;rw[Xe h];exact zP .refl (zH h)
def zG9(a b:Pt)(w:Int):CX 376 [wk a,wk b,i64 w] (.sl ptE (j8 a b w)):=by
 refine zc func376 ?_
 have c:¬(kq w/\zm a/\zm b)->LE nS (.sl ptE (j8 a b w)):=λh=>by
  unfold j8;rw[Xe h];exact zD
 refine wg (zr0 a b w)<|⟨λh=>c h,λh=>?_⟩;have h:=Xa.1 h;rw[Xe h];refine wd<|wg (zlH a (z7 (zo b a) w) h.2.1.p45.s (jg (zo b a) w).s)<|wg (zlH b (z7 (zo b a) w) h.2.2.p45.s (jg (zo b a) w).s)<|wg (zgk b (z7 (zo b a) w) h.2.2.p45.s (jg (zo b a) w).s)<|wg (zgk a (z7 (zo b a) w) h.2.1.p45.s (jg (zo b a) w).s)<|⟨Pt,ptE,[zo a (z7 (zo b a) w),zo b (z7 (zo b a) w),zA b (z7 (zo b a) w),zA a (z7 (zo b a) w)],rfl,wb0 ?_⟩
 refine zb.see 3 _ (zbG [zo a (z7 (zo b a) w),zo b (z7 (zo b a) w),zA b (z7 (zo b a) w),zA a (z7 (zo b a) w)] (by show((4:Nat):Int)<=_;decide)) rfl rfl rfl<|wh ?_;unfold j8;rw[Xc (λk=>k h)];exact .refl
def p_cap(a b:Pt)(w:Int):CX 441 [wk a,wk b,i64 w] (.sl ptE (zlC a b w)):=by
 refine zc func441 ?_
 have c:¬(kq w/\zm a/\zm b)->LE nS (.sl ptE (zlC a b w)):=λh=>by
  unfold zlC;rw[Xe h];exact zD
 refine wg (zr0 a b w)<|⟨λh=>c h,λh=>?_⟩;have h:=Xa.1 h;rw[Xe h];have d:=zbi (zo b a) w;refine wa<|wd<|wg (zlH b (z7 (zo b a) w) h.2.2.p45.s (jg (zo b a) w).s)<|wg (zlH b (z7 (zo b a) w) h.2.2.p45.s (jg (zo b a) w).s)<|wg (zgk (zo b (z7 (zo b a) w)) ⟨(z7 (zo b a) w).y,-(z7 (zo b a) w).x⟩ (zAQ h.2.2.p45 (jg (zo b a) w)) (zht (zo b a) w).s)<|wg (zgk b (z7 (zo b a) w) h.2.2.p45.s (jg (zo b a) w).s) ?_
 refine wg (zgk (zA b (z7 (zo b a) w)) ⟨(z7 (zo b a) w).y,-(z7 (zo b a) w).x⟩ (zAR h.2.2.p45 (jg (zo b a) w)) (zht (zo b a) w).s)<|wg (zgk b (z7 (zo b a) w) h.2.2.p45.s (jg (zo b a) w).s)<|⟨Pt,ptE,[zo b (z7 (zo b a) w),zA (zo b (z7 (zo b a) w)) ⟨(z7 (zo b a) w).y,-(z7 (zo b a) w).x⟩,zA (zA b (z7 (zo b a) w)) ⟨(z7 (zo b a) w).y,-(z7 (zo b a) w).x⟩,zA b (z7 (zo b a) w)],rfl,wb0 ?_⟩
 refine zb.see 4 _ (zbG [zo b (z7 (zo b a) w),zA (zo b (z7 (zo b a) w)) ⟨(z7 (zo b a) w).y,-(z7 (zo b a) w).x⟩,zA (zA b (z7 (zo b a) w)) ⟨(z7 (zo b a) w).y,-(z7 (zo b a) w).x⟩,zA b (z7 (zo b a) w)] (by show((4:Nat):Int)<=_;decide)) rfl rfl rfl<|wh ?_;unfold zlC;rw[Xc (λk=>k h)];exact .refl
def zHa(p:Pt)(w:Int):CX 431 [wk p,i64 w] (.sl ptE (zeo p w)):=by
 refine zc func431 ?_
 have a:¬(kq w/\zm p)->LE nS (.sl ptE (zeo p w)):=λh=>by
  unfold zeo;rw[Xe h];exact zD
 refine wg (zaf w)<|⟨λb=>a (λh=>b h.1),λb=>?_⟩;refine wg (qe p)<|⟨λc=>a (λh=>c h.2),λc=>?_⟩;have h:kq w/\zm p:=⟨Xa.1 b,Xa.1 c⟩;have d:=zlK h.1;have f:=h.1;have e:=h.2;unfold kq at f;unfold zm at e;refine wg (u3 w 2 ⟨oM,oM⟩ ⟨oM,oM⟩) ?_;rw[d.2];(iterate 8 refine wa ?_)
 refine⟨Pt,ptE,[⟨p.x-z8 w 2,p.y-z8 w 2⟩,⟨p.x+z8 w 2,p.y-z8 w 2⟩,⟨p.x+z8 w 2,p.y+z8 w 2⟩,⟨p.x-z8 w 2,p.y+z8 w 2⟩],rfl,wb0 ?_⟩;refine zb.see 1 _ (zbG [⟨p.x-z8 w 2,p.y-z8 w 2⟩,⟨p.x+z8 w 2,p.y-z8 w 2⟩,⟨p.x+z8 w 2,p.y+z8 w 2⟩,⟨p.x-z8 w 2,p.y+z8 w 2⟩] (by show((4:Nat):Int)<=_;decide)) rfl rfl rfl ?_;unfold zeo;rw[Xc (λk=>k h)];exact .refl
def zAS(a b:Pt)(w:Int):CX 409 [wk a,wk b,i64 w] (.sl ptE (j8 a b w)):=by
 refine zc func409<|wg (zvV a b w)<|⟨λh=>?_,λh=>?_⟩
 .refine⟨Pt,ptE,[],rfl,wb2 ?_⟩;exact z6 (show[]=j8 a b w by unfold j8;rw[Xe h])
 have h:kq w/\zm a/\zm b:=Xa.1 h;refine wg (ziL b a h.2.2.p45.s h.2.1.p45.s)<|wg (zhp (zo b a) w)<|wd<|wg (ziL a (z7 (zo b a) w) h.2.1.p45.s (jg (zo b a) w).s)<|wg (ziL b (z7 (zo b a) w) h.2.2.p45.s (jg (zo b a) w).s)<|wg (zgl b (z7 (zo b a) w) h.2.2.p45.s (jg (zo b a) w).s) ?_;refine wg (zgl a (z7 (zo b a) w) h.2.1.p45.s (jg (zo b a) w).s)<|⟨Pt,ptE,[zo a (z7 (zo b a) w),zo b (z7 (zo b a) w),zA b (z7 (zo b a) w),zA a (z7 (zo b a) w)],rfl,wb0 ?_⟩
 refine zb.see 3 _ (zbF [zo a (z7 (zo b a) w),zo b (z7 (zo b a) w),zA b (z7 (zo b a) w),zA a (z7 (zo b a) w)]) rfl rfl rfl<|wh ?_;unfold j8;rw[Xc (λk=>k h)];exact .refl
def r_cap(a b:Pt)(w:Int):CX 413 [wk a,wk b,i64 w] (.sl ptE (zlC a b w)):=by
 refine zc func413<|wg (zvV a b w)<|⟨λh=>?_,λh=>?_⟩
 .refine⟨Pt,ptE,[],rfl,wb2 ?_⟩;exact z6 (show[]=zlC a b w by unfold zlC;rw[Xe h])
 have h:kq w/\zm a/\zm b:=Xa.1 h;refine wg (ziL b a h.2.2.p45.s h.2.1.p45.s)<|wg (zhp (zo b a) w) ?_;have c:=zbi (zo b a) w;refine wa<|wd<|wg (ziL b (z7 (zo b a) w) h.2.2.p45.s (jg (zo b a) w).s)<|wg (ziL b (z7 (zo b a) w) h.2.2.p45.s (jg (zo b a) w).s)<|wg (zgl (zo b (z7 (zo b a) w)) ⟨(z7 (zo b a) w).y,-(z7 (zo b a) w).x⟩ (zAQ h.2.2.p45 (jg (zo b a) w)) (zht (zo b a) w).s)<|wg (zgl b (z7 (zo b a) w) h.2.2.p45.s (jg (zo b a) w).s) ?_
 refine wg (zgl (zA b (z7 (zo b a) w)) ⟨(z7 (zo b a) w).y,-(z7 (zo b a) w).x⟩ (zAR h.2.2.p45 (jg (zo b a) w)) (zht (zo b a) w).s)<|wg (zgl b (z7 (zo b a) w) h.2.2.p45.s (jg (zo b a) w).s)<|⟨Pt,ptE,[zo b (z7 (zo b a) w),zA (zo b (z7 (zo b a) w)) ⟨(z7 (zo b a) w).y,-(z7 (zo b a) w).x⟩,zA (zA b (z7 (zo b a) w)) ⟨(z7 (zo b a) w).y,-(z7 (zo b a) w).x⟩,zA b (z7 (zo b a) w)],rfl,wb0 ?_⟩
 refine zb.see 4 _ (zbF [zo b (z7 (zo b a) w),zA (zo b (z7 (zo b a) w)) ⟨(z7 (zo b a) w).y,-(z7 (zo b a) w).x⟩,zA (zA b (z7 (zo b a) w)) ⟨(z7 (zo b a) w).y,-(z7 (zo b a) w).x⟩,zA b (z7 (zo b a) w)]) rfl rfl rfl<|wh ?_;unfold zlC;rw[Xc (λk=>k h)];exact .refl
def zHb(p:Pt)(w:Int):CX 411 [wk p,i64 w] (.sl ptE (zeo p w)):=by
 refine zc func411<|wg (zvV p p w)<|⟨λh=>?_,λh=>?_⟩
 .refine⟨Pt,ptE,[],rfl,wb2 ?_⟩;exact z6 (show[]=zeo p w by unfold zeo;rw[Xe (λk=>h ⟨k.1,k.2,k.2⟩)])
 have h:kq w/\zm p:=⟨(Xa.1 h).1,(Xa.1 h).2.1⟩;have a:=zlK h.1;have c:=h.1;have b:=h.2;unfold kq at c;unfold zm at b;refine wg (ul w 2 ⟨oM,oM⟩ ⟨oM,oM⟩) ?_;rw[a.2];(iterate 8 refine wa ?_);refine⟨Pt,ptE,[⟨p.x-z8 w 2,p.y-z8 w 2⟩,⟨p.x+z8 w 2,p.y-z8 w 2⟩,⟨p.x+z8 w 2,p.y+z8 w 2⟩,⟨p.x-z8 w 2,p.y+z8 w 2⟩],rfl,wb0 ?_⟩
 refine zb.see 1 _ (zbF [⟨p.x-z8 w 2,p.y-z8 w 2⟩,⟨p.x+z8 w 2,p.y-z8 w 2⟩,⟨p.x+z8 w 2,p.y+z8 w 2⟩,⟨p.x-z8 w 2,p.y+z8 w 2⟩]) rfl rfl rfl ?_;unfold zeo;rw[Xc (λk=>k h)];exact .refl
def wayN(q:Pt):Pt:=⟨-q.y,q.x⟩
def zxU:∀i:Nat,i<12->yi.take (4+i)++[wayN ((yi.take (4+i)).getD i zp)]=yi.take (4+(i+1)):=by decide +kernel
def zpO:∀q∈yi,(-16384<=q.x/\q.x<=16384)/\(-16384<=q.y/\q.y<=16384):=by decide +kernel
def zv2(h:(yi.take (4+i))[i]?=some x):x=(yi.take (4+i)).getD i zp:=by
 rw[Xs,h];rfl
def zHc:CX 464 [] (.sl ptE yi):=by
 refine zc func464<|⟨Pt,ptE,yi.take 4,rfl,wb0 ?_⟩;refine⟨Nat,λi=>⟨[(2,i64 i),(1,.own 0)],[(0,.arr 28 ptE 2 (yi.take (4+i)))],1,28,0⟩,λi=>i<=12,λi=>12-i,0,?_,?_,?_⟩
 .exact Xh _
 .exact zf [0]
 rintro i d
 refine⟨λg=>?_,λg=>?_⟩
 .have g:(i:Int)<12:=g
  have b:(yi.take (4+i)).length=4+i:=by
   rw[Xp,show yi.length=16 from rfl];omega
  refine wd<|wb<|Ob.mk (by rw[b];omega) λx a=>?_;have a:x=(yi.take (4+i)).getD i zp:=zv2 a;have f:=zpO x (XP (i:=4+i) (by rw[a,Xs,Xb oM];exact X5 _));refine wa<|wb<|Ob.mk (by rw[b];omega) λy c=>?_;have c:y=x:=(zv2 c).trans a.symm;rw[c];refine⟨Pt,ptE,[wayN x],rfl,wb0 ?_⟩
  refine⟨[wayN x],rfl,Ob.mk ⟨(by show _*(16:Int)<=_;simp only[b,Xm,Xo];omega),(by simp only[b,Xm,Xo];omega),dC,λ_ _=>rfl⟩ ?_⟩;exact wh<|wa<|⟨i+1,oM,zt [2] ⟨aR (show yi.take (4+i)++[wayN x]=yi.take (4+(i+1)) by rw[a];exact zxU i oM),tV⟩,oN⟩
 have e:i=12:=by have g:¬(i:Int)<12:=g;omega
 subst e;exact z6 rfl
def zev(p:Pt)(w:Int)(q:Pt):Pt:=zA p ⟨z8 (q.x*w) 32768,z8 (q.y*w) 32768⟩
def zfl{x w:Int}(d: -16384<=x/\x<=16384)(c:kq w):(-268435456<=x*w/\x*w<=268435456)/\(-268435456<=z8 (x*w) 32768/\z8 (x*w) 32768<=268435456)/\ub (z8 (x*w) 32768)=z8 (x*w) 32768:=by
 unfold kq at c;have h:=jG (A:=16384) (B:=16384) (a:=x) (b:=w) oM oM;have:=u6 (a:=x*w) (b:=32768) (M:=268435456) oM;exact⟨oM,oM,uP oM⟩
def zun(p:Pt)(w:Int):CX 412 [wk p,i64 w] (.sl ptE (vZ p w)):=by
 refine zc func412<|wg (zvV p p w)<|⟨λh=>?_,λh=>?_⟩
 .refine⟨Pt,ptE,[],rfl,wb2 ?_⟩;exact z6 (show[]=vZ p w by unfold vZ;rw[Xe (λk=>h ⟨k.1,k.2,k.2⟩)])
 have h:kq w/\zm p:=⟨(Xa.1 h).1,(Xa.1 h).2.1⟩;refine wg zHc<|⟨Pt,ptE,[],rfl,wb2 ?_⟩;refine⟨Nat,λi=>⟨[(7,i64 i),(6,.own 1),(5,.sl ptE yi),(2,.loc 0 0),(1,i64 w)],[(1,.arr 28 ptE 2 ((yi.take i).map (zev p w))),(0,.box 28 (ptE p))],2,46,0⟩,λi=>i<=16,λi=>16-i,0,?_,?_,?_⟩
 .exact Xh _
 .exact zf [0,1]
 rintro i m
 intro f;have hL:yi.length=16:=rfl;refine⟨λg=>?_,λg=>?_⟩
 .have g:(i:Int)<(yi.length:Int):=g
  have d:((yi.take i).map (zev p w)).length=i:=by
   rw[Xv,Xp];omega
  refine wd<|wb λx(a:yi[i]?=some x)=>?_;have c:=zpO x (Xf a);have j:=zfl c.1 h.1;have l:=zfl c.2 h.1;refine wa<|wg (ul (x.x*w) 32768 ⟨oM,oM⟩ ⟨dC,dC⟩) ?_;rw[j.2.2];refine wb λy b=>?_;have b:y=x:=Xl ((show yi[i]?=some y from b).symm.trans a);rw[b];refine wa<|wg (ul (x.y*w) 32768 ⟨oM,oM⟩ ⟨dC,dC⟩) ?_;rw[l.2.2];refine wg (zgl p ⟨z8 (x.x*w) 32768,z8 (x.y*w) 32768⟩ h.2.p45.s ⟨oN,oN⟩) ?_
  refine⟨Pt,ptE,[zev p w x],rfl,wb0 ?_⟩;refine⟨[zev p w x],rfl,Ob.mk ⟨(by show _*(16:Int)<=_;simp only[d,Xm,Xo];omega),(by simp only[d,Xm,Xo];omega),dC,λ_ _=>rfl⟩ ?_⟩;exact wh<|wa<|⟨i+1,oM,zt [0,3] ⟨aR (by rw[Xn,a,Xz];rfl),rfl,tV⟩,oN⟩
 have e:i=16:=by have g:¬(i:Int)<(yi.length:Int):=g;omega
 subst e;refine zb.see 1 _ (zbF (yi.map (zev p w))) rfl rfl rfl<|z6 (show kH (yi.map (zev p w))=vZ p w from ?_);unfold vZ;rw[Xc (λk=>k h)];rfl
def zfU(p:Pt):Prop:=(-2097152<=p.x/\p.x<=2097152)/\(-2097152<=p.y/\p.y<=2097152)
def zcH(a:zm p)(b:zm q):zfU (zo p q):=by
 unfold zm at a b;show(-2097152<=p.x-q.x/\p.x-q.x<=2097152)/\(-2097152<=p.y-q.y/\p.y-q.y<=2097152);omega
def zlL(a:zfU p)(b:zfU q):(-4398046511104<=p.x*q.y/\p.x*q.y<=4398046511104)/\(-4398046511104<=p.y*q.x/\p.y*q.x<=4398046511104):=by
 have c:=jG a.1 b.2;have d:=jG a.2 b.1;omega
def zr1(p q:Pt)(a:zfU p)(b:zfU q):CX 342 [wk p,wk q] (i64 (wdg p q)):=by
 have h:=zlL a b;refine zc func342 ?_;(iterate 3 refine wa ?_);exact .refl
def zv3(w:Int):CX 478 [i64 w] (pr (kq w)):=by
 refine zc func478<|Br.mk (λh=>?_) (λh=>zd (λk=>h k.1));exact zC ⟨λk=>⟨h,k⟩,λk=>k.2⟩
def zv4(w:Int):CX 486 [i64 w] (pr (kq w)):=by
 refine zc func486<|Br.mk (λh=>?_) (λh=>zd (λk=>h k.1));exact zC ⟨λk=>⟨h,k⟩,λk=>k.2⟩
def zAT(a b:Pt)(c:S50 a.x/\S50 a.y)(d:S50 b.x/\S50 b.y):CX 479 [wk a,wk b] (wk (zo b a)):=by
 refine zc func479 ?_;(iterate 2 refine wa ?_);exact .refl
def zxV(n:Pt):zo zp n=ziH n:=by
 unfold zo ziH zp;dsimp only;rw[Int.zero_sub,Int.zero_sub]
def zFT(n:Pt)(h:S50 n.x/\S50 n.y):CX 479 [wk n,wk zp] (wk (ziH n)):=by
 have c:=zAT n zp h ⟨dC,dC⟩
 rwa [zxV]at c
def zlM(a:zm p)(b:zm q):zae p q=zo p q:=by
 unfold zae;rw[zad a,zad b]
def outE(o:Pt×Pt×Bool):SV:=.tup [wk o.1,wk o.2.1,pr (o.2.2=true)]
def vI{o:Pt×Pt×Bool}{n m:Pt}{b:Bool}(h:o=(n,m,b)):LE (.tup [wk n,wk m,bl b]) (outE o):=by
 subst h;exact zaQ (.C (.C (.cons zvy .nil)))
def zD2(a v b:Pt)(w:Int):CX 438 [wk a,wk v,wk b,i64 w] (outE (qA a v b w)):=by
 refine zc func438 ?_;have c:¬(zm a/\zm v/\zm b/\kq w)->qA a v b w=(zp,zp,false):=λh=>by unfold qA;rw[Xe h]
 refine wg (qe a)<|⟨λf=>vI (c (λh=>f h.1)),λf=>?_⟩;refine wg (qe v)<|⟨λg=>vI (c (λh=>g h.2.1)),λg=>?_⟩;refine wg (qe b)<|⟨λj=>vI (c (λh=>j h.2.2.1)),λj=>?_⟩;refine wg (zv3 w)<|⟨λl=>vI (c (λh=>l h.2.2.2)),λl=>?_⟩;have m:=Xa.1 f;have d:=Xa.1 g;have n:=Xa.1 j;have t:=Xa.1 l;have u:=zcH d m;have y:=zcH n d
 have e:qA a v b w=if wdg (zo v a) (zo b v)=0 then(zp,zp,false) else if 0<wdg (zo v a) (zo b v) then(ziH (z7 (zo v a) w),ziH (z7 (zo b v) w),true) else(z7 (zo v a) w,z7 (zo b v) w,true):=by
  unfold qA;rw[Xc (λk=>k ⟨m,d,n,t⟩)]
 have z:=zlL u y;refine wc<|wg (zAT a v m.p45.s d.p45.s)<|wg (zAT v b d.p45.s n.p45.s)<|wc<|wg (zlI (zo v a) w)<|wg (zlI (zo b v) w) ?_;(iterate 3 refine wa ?_);refine⟨λk:wdg (zo v a) (zo b v)=0=>?_,λk:¬wdg (zo v a) (zo b v)=0=>?_⟩
 .exact vI (e.trans (Xe k))
 refine⟨λo:0<wdg (zo v a) (zo b v)=>?_,λo:¬0<wdg (zo v a) (zo b v)=>?_⟩
 .exact wc<|wg (zFT (z7 (zo v a) w) (jg _ _).s)<|wg (zFT (z7 (zo b v) w) (jg _ _).s)<|vI (e.trans ((Xc k).trans (Xe o)))
 exact wd<|wh<|vI (e.trans ((Xc k).trans (Xc o)))
def zD3(a v b:Pt)(w:Int):CX 461 [wk a,wk v,wk b,i64 w] (outE (qA a v b w)):=by
 refine zc func461 ?_;have c:¬(zm a/\zm v/\zm b/\kq w)->qA a v b w=(zp,zp,false):=λh=>by unfold qA;rw[Xe h]
 refine wg (ki a)<|⟨λf=>vI (c (λh=>f h.1)),λf=>?_⟩;refine wg (ki v)<|⟨λg=>vI (c (λh=>g h.2.1)),λg=>?_⟩;refine wg (ki b)<|⟨λj=>vI (c (λh=>j h.2.2.1)),λj=>?_⟩;refine wg (zv4 w)<|⟨λl=>vI (c (λh=>l h.2.2.2)),λl=>?_⟩;have o:=Xa.1 f;have d:=Xa.1 g;have s:=Xa.1 j;have y:=Xa.1 l;have z:=zcH d o;have A:=zcH s d
 have e:qA a v b w=if wdg (zo v a) (zo b v)=0 then(zp,zp,false) else if 0<wdg (zo v a) (zo b v) then(ziH (z7 (zo v a) w),ziH (z7 (zo b v) w),true) else(z7 (zo v a) w,z7 (zo b v) w,true):=by
  unfold qA;rw[Xc (λk=>k ⟨o,d,s,y⟩)]
 have c1:=znR v a;rw[zlM d o]at c1;have u:=znR b v;rw[zlM s d]at u;have B:=zbi (zo v a) w;have C:=zbi (zo b v) w;refine wc<|wg c1<|wg u<|wc<|wg (zhp (zo v a) w)<|wg (zhp (zo b v) w) ?_;refine wg (zr1 (zo v a) (zo b v) z A)<|⟨λk=>?_,λk=>?_⟩
 .exact vI (e.trans (Xe k))
 refine⟨λt=>?_,λt=>?_⟩
 .refine wd ?_;(iterate 4 refine wa ?_);exact wh<|wd<|wh<|vI (n:=ziH (z7 (zo v a) w)) (m:=ziH (z7 (zo b v) w)) (e.trans ((Xc k).trans (Xe t)))
 exact wd<|wh<|vI (e.trans ((Xc k).trans (Xc t)))
def wcell(i k j:Nat):Pt:=if j%4<i∨(j%4=i/\j/4<k) then yi.getD j zp else zp
def ziO(i k:Nat):LR:=(List.range 16).flatMap λj=>ptE (wcell i k j)
def zHd:CX 474 [] (.agg (ziO 4 0)):=by
 refine zc func474<|⟨Nat,λi=>⟨[(10,i64 i),(9,.agg [i64 16384,i64 0,i64 15137,i64 6270,i64 11585,i64 11585,i64 6270,i64 15137]),(1,.loc 1 0),(0,.loc 0 0)],[(1,.box 403 (ziO i 0)),(0,.box 403 (ziO 0 0))],2,28,0⟩,λi=>i<=4,λi=>4-i,0,?_,?_,?_⟩
 .exact Xh _
 .exact zf [0,1]
 rintro i hi
 rcases Kf i 4 with c|c
 .obtain⟨j,e⟩:∃j,j=i:=⟨_,rfl⟩;obtain⟨n,b⟩:∃n,i+1=n:=⟨_,rfl⟩;obtain rfl|rfl|rfl|rfl:i=0∨i=1∨i=2∨i=3:=oM
  all_goals
   refine we<|⟨Nat,λk=>⟨[(14,i64 k),(3,.loc 2 0),(2,i64 j),(10,i64 j),(9,.agg [i64 16384,i64 0,i64 15137,i64 6270,i64 11585,i64 11585,i64 6270,i64 15137]),(1,.loc 1 0),(0,.loc 0 0)],[(2,.box 28 (ptE (yi.getD ((4*k+j)%16) zp))),(1,.box 403 (ziO j k)),(0,.box 403 (ziO 0 0))],3,28,0⟩,λk=>k<=4,λk=>4-k,0,Xh _,?_,?_⟩
   .subst e;exact zf [0,1,2]
   intro k f
   rcases Kf k 4 with d|d
   .have q:=zG2 (yi.getD (4*k+j) zp);obtain⟨m,a⟩:∃m,k+1=m:=⟨_,rfl⟩;obtain rfl|rfl|rfl|rfl:k=0∨k=1∨k=2∨k=3:=oM
    all_goals
     subst e;refine we<|Ar.fit dC<|Ar.fit dC<|wg q<|Ar.fit dC<|⟨m,oM,?_,oN⟩;subst a;exact zf [0,1,2]
   obtain rfl:k=4:=by omega
   subst e;refine⟨λh=>absurd h dC,λ_=>?_⟩;refine Ar.fit dC<|⟨n,oM,?_,oN⟩;subst b;exact zf [0,1]
 obtain rfl:i=4:=by omega
 refine⟨λh=>absurd h dC,λ_=>?_⟩;exact .refl
def zuo(p:Pt)(w:Int):CX 432 [wk p,i64 w] (.sl ptE (vZ p w)):=by
 refine zc func432 ?_
 have a:¬(kq w/\zm p)->LE nS (.sl ptE (vZ p w)):=λh=>by
  unfold vZ;rw[Xe h];exact zD
 refine wg (zaf w)<|⟨λb=>a (λh=>b h.1),λb=>?_⟩;refine wg (qe p)<|⟨λd=>a (λh=>d h.2),λd=>?_⟩;have h:kq w/\zm p:=⟨Xa.1 b,Xa.1 d⟩;refine wg zHd<|⟨Nat,λi=>⟨[(17,i64 i),(16,.agg (ziO 4 0)),(5,.own 1),(2,.loc 0 0),(1,i64 w)],[(1,.arr 28 ptE 2 ((yi.take i).map (zev p w))),(0,.box 28 (ptE p))],2,39,0⟩,λi=>i<=16,λi=>16-i,0,?_,?_,?_⟩
 .exact Xh _
 .exact zB [(0,some 0),(1,none)]
 rintro i hi
 rcases Kf i 16 with c|c
 .have e:=zpO (yi.getD i zp) (by rw[Xs,Xb (show i<yi.length from c)];exact X5 _);have l:=zfl e.1 h.1;have m:=zfl e.2 h.1;have n: -9223372036854775808<=(yi.getD i zp).x*w/\(yi.getD i zp).x*w<=9223372036854775807:=oM;have o: -9223372036854775808<=(yi.getD i zp).y*w/\(yi.getD i zp).y*w<=9223372036854775807:=oM;have f:=u3 ((yi.getD i zp).x*w) 32768 ⟨oM,oM⟩ ⟨dC,dC⟩;have g:=u3 ((yi.getD i zp).y*w) 32768 ⟨oM,oM⟩ ⟨dC,dC⟩;rw[l.2.2]at f;rw[m.2.2]at g
  obtain⟨L,hL⟩:∃L,zev p w (yi.getD i zp)=L:=⟨_,rfl⟩;have j:=zgk p ⟨z8 ((yi.getD i zp).x*w) 32768,z8 ((yi.getD i zp).y*w) 32768⟩ h.2.p45.s ⟨oN,oN⟩;rw[show zA p _=L from hL]at j;have u:((yi.take i).map (zev p w)).length<=16:=by rw[Xv,Xp];omega
  obtain⟨k,t⟩:∃k,i+1=k:=⟨_,rfl⟩;clear hi e l m;obtain rfl|rfl|rfl|rfl|rfl|rfl|rfl|rfl|rfl|rfl|rfl|rfl|rfl|rfl|rfl|rfl:i=0∨i=1∨i=2∨i=3∨i=4∨i=5∨i=6∨i=7∨i=8∨i=9∨i=10∨i=11∨i=12∨i=13∨i=14∨i=15:=oM
  all_goals
   refine we<|wd<|Ar.fit n<|wg f<|Ar.fit o<|wg g ?_;refine wg j<|⟨Pt,ptE,[L],rfl,wb0 ?_⟩;refine⟨[L],rfl,Ob.mk ⟨by simp only[Xm,Xo];omega,by simp only[Xm,Xo];omega,dC,λ_ _=>rfl⟩ ?_⟩;refine wh<|Ar.fit dC<|⟨k,oM,?_,oN⟩;subst t hL;exact zf [0,4]
 obtain rfl:i=16:=by omega
 refine⟨λh=>absurd h dC,λ_=>?_⟩;refine zb.see 1 _ (zbG (yi.map (zev p w)) (by show((16:Nat):Int)<=_;decide)) rfl rfl rfl<|z6 (show kH (yi.map (zev p w))=vZ p w from ?_);unfold vZ;rw[Xc (λk=>k h)];rfl
def zfm(p q:Pt)(a:S50 p.x/\S50 p.y)(b:S50 q.x/\S50 q.y):CX 439 [wk p,wk q] (wk (zA p q)):=by
 refine zc func439 ?_;(iterate 2 refine wa ?_);exact .refl
def zpP(r:LU):CX 437 [.sl ptE r] (.sl zk (kS r)):=by
 refine zc func437 λa=>?_;refine⟨λh=>?_,λh=>?_⟩
 .have e:kS r=[]:=by unfold kS;rw[Xe (Xq (by have h:(r.length:Int)=0:=h;omega))]
  rw[e];exact zD
 refine⟨LU,zk,[r],rfl,wb0 ?_⟩;refine z6 (show[r]=kS r from ?_);unfold kS;rw[Xc (λe=>h (by rw[e];rfl))]
abbrev wv(x:Pl):SV:=.agg (plE x)
abbrev LZ:=List Pl
end Go.Gs
