/- Scenes, the program's text: Check, Valid, Parent. -/
import Derived.Test.YtdkomlilfdbahaaGreatDoorMBC
set_option maxRecDepth 100000
set_option maxHeartbeats 80000000
set_option linter.all false
namespace Go.Gs
open Proofs.Tryz
open Go.Proofs
def mdN(l:LW):Nat->Int
 |0=>0
 |i+1=>match l[i]? with
  |some n=>if n.k=1 then n.d+1 else n.d
  |none=>0
def zca(s:Sc):Prop:=s.ns.length<=64->∀n∈s.ns,zmq n
variable{l:LW}{i:Nat}
def zuV{n:Nd}(h:l[i]?=some n)(g:0<=n.d):jP l i n↔¬mdN l i<n.d:=by
 cases i with
 |zero=>
  unfold jP mdN;rw[show l[0-1]?=some n from h];show n.d=0↔¬0<n.d;omega
 |succ i=>
  obtain⟨p,b⟩:∃p,l[i]?=some p:=⟨_,Xb (by have:=(Xd.1 h).1;omega)⟩;have f:jP l (i+1) n=(if i+1=0 then n.d=0 else(p.k=1/\n.d=p.d+1)∨n.d<=p.d):=by unfold jP;rw[show l[i+1-1]?=some p from b]
  have c:mdN l (i+1)=if p.k=1 then p.d+1 else p.d:=by
   show(match l[i]? with|some n=>if n.k=1 then n.d+1 else n.d|none=>0)=_;rw[b]
  rw[f,c,Xc (Nat.succ_ne_zero i)]
  split <;> omega
def zyN(r:Int×Int):SV:=.tup [i64 r.1,i64 r.2]
def zaI{s:Sc}(h:zf4 s):LE (.tup [i64 6,i64 0]) (zyN (zj3 s)):=by rw[zj3,Xe h];exact .refl
def zoE{s:Sc}(b:¬zf4 s)(c:64<s.ns.length):LE (.tup [i64 5,i64 64]) (zyN (zj3 s)):=by rw[zj3,Xc b,Xe c];exact .refl
variable{x:Nd}{e:Int}
def zks{s:Sc}(d:¬zf4 s)(f:¬64<s.ns.length)(b:s.ns[i]?=some x)(h:∀j,j<i->uJ s.ns j=0)(g:zhW s.ns i x=e)(c:e≠0):LE (.tup [i64 e,i64 i]) (zyN (zj3 s)):=by
 have ee:=zdt b;rw[g]at ee;rw[zj3,Xc d,Xc f,zES (Xd.1 b).1 h (by rw[ee];exact c)];show LE _ (.tup [i64 (uJ s.ns i),i64 i]);rw[ee];exact .refl
def zww{s:Sc}(b:¬zf4 s)(c:¬64<s.ns.length)(d:∀j,j<s.ns.length->uJ s.ns j=0):LE (.tup [i64 0,i64 0]) (zyN (zj3 s)):=by
 rw[zj3,Xc b,Xc c,zyK d];exact .refl
def zCc(h:l[i]?=some x):(l.take (i+1)).map Nd.id=(l.take i).map Nd.id++[x.id]:=by
 rw[Xn,h,Xz];rfl
def zsY(h:¬ue x=0):zhW l i x=ue x:=Xe h
def zsZ(h:ue x=0)(k:x.id∈(l.take i).map Nd.id):zhW l i x=7:=by unfold zhW;rw[Xc (λq=>q h),Xe k]
def zmx(h:ue x=0)(k:x.id∉(l.take i).map Nd.id)(d:¬jP l i x):zhW l i x=17:=by unfold zhW;rw[Xc (λq=>q h),Xc k,Xe d]
def zwx(h:ue x=0)(k:x.id∉(l.take i).map Nd.id)(d:jP l i x):zhW l i x=0:=by unfold zhW;rw[Xc (λq=>q h),Xc k,Xc (λq=>q d)]
def zoF(d:l[i]?=some x)(f:∀j,j<i->uJ l j=0)(b:zhW l i x=0):∀j,j<i+1->uJ l j=0:=λj g=>by
 by_cases c:j=i
 .rw[c,zdt d,b]
 exact f j oM
def zEU(s:Sc)(ht:zca s):CX 51 [wq s] (zyN (zj3 s)):=by
 refine zc func51<|Br.mk (λh=>zaI (.inl h)) (λz=>?_);refine⟨λh=>zaI (.inr (.inl h)),λA=>?_⟩;refine⟨λh=>zaI (.inr (.inr (.inl h))),λB=>?_⟩;refine⟨λh=>zaI (.inr (.inr (.inr h))),λC=>?_⟩;have o:¬zf4 s:=λk=>k.elim z λk=>k.elim A λk=>k.elim B C
 intro E;refine⟨λh=>zoE o oM,λH=>?_⟩;have t:¬64<s.ns.length:=oM;have ht:=ht oM;intro F
 refine⟨Nat,λi=>⟨[(35,i64 i),(34,i64 s.ns.length),(33,.sl ndE s.ns),(5,i64 (mdN s.ns i)),(4,.own 1),(1,.loc 0 0)],
  [(1,.map (zqq ((s.ns.take i).map Nd.id))),(0,.box 26 (scE s))],2,67,0⟩,λi=>i<=s.ns.length/\∀j,j<i->uJ s.ns j=0,λi=>s.ns.length-i,0,⟨Xh _,λj h=>by omega⟩,zf [0,1],?_⟩
 rintro i ⟨hi,p⟩
 refine⟨λg:(i:Int)<s.ns.length=>?_,λg:¬(i:Int)<s.ns.length=>?_⟩
 .refine wb λx(c:s.ns[i]?=some x)=>?_;have G:=Xf c;refine wg (zER x (ht x G))<|⟨λh=>zks o t c p (zsY h) h,λf=>?_⟩;have f:ue x=0:=Xa.1 f;refine zyM (n:=x.id) (ks:=(s.ns.take i).map Nd.id) (λ_ _ _ a b=>Br.mk a b) (λh=>?_) (λv=>?_)
  .exact zks o t c p (zsZ f h) dC
  have y:=zuV c (zcR f).2.1.1;have I:=(zcR f).2.1;refine⟨λh=>zks o t c p (zmx f v (λq=>y.1 q h)) dC,λD=>?_⟩;have r:=zoF c p (zwx f v (y.2 D));refine zsX v ?_;have em:zqq ((s.ns.take i).map Nd.id++[x.id])=zqq ((s.ns.take (i+1)).map Nd.id):=by rw[zCc c]
  refine⟨λw=>?_,λw=>?_⟩
  .have u:x.d+1=mdN s.ns (i+1):=by show _=(match s.ns[i]? with|some n=>if n.k=1 then n.d+1 else n.d|none=>0);rw[c];exact(Xe w).symm
   (iterate 2 refine wa ?_);exact⟨i+1,⟨oM,r⟩,zQ [0,1] ⟨rfl,rfl,rfl,iR u,rfl,rfl,tV⟩ ⟨Xg (λq=>some (Mem.map q)) em,rfl,tV⟩,oN⟩
  have u:x.d=mdN s.ns (i+1):=by show _=(match s.ns[i]? with|some n=>if n.k=1 then n.d+1 else n.d|none=>0);rw[c];exact(Xc w).symm
  exact wa<|⟨i+1,⟨oM,r⟩,zQ [0,1] ⟨rfl,rfl,rfl,iR u,rfl,rfl,tV⟩ ⟨Xg (λq=>some (Mem.map q)) em,rfl,tV⟩,oN⟩
 exact zww o t λj J=>p j oM
def zhY(s:Sc)(ht:zca s):CX 23 [wq s] (pr (qy s)):=by
 exact zc func23<|wg (zEU s ht)<|zC Qk
def zCd(s:Sc)(i:Int)(ht:zca s):CX 78 [wq s,i64 i] (pr (inS s i)):=by
 refine zc func78<|Br.mk (λb=>?_) (λb=>zd λk=>b k.2.1);intro d;refine⟨λc=>?_,λc=>zd λk=>c k.2.2⟩;exact wg (zhY s ht)<|zC ⟨λh=>⟨h,b,c⟩,λk=>k.1⟩
def parS(s:Sc)(i:Int):Int:=if inS s i then yn (zJ s.ns) i.toNat else-1
def zCe(l:LW)(i:Nat)(n:Nd)(b:l[i]?=some n)(p:∀n∈l,0<=n.d/\n.d<8)(s:l.length<=64):CX 86 [.sl ndE l,i64 i] (i64 (yn (zJ l) i)):=by
 have hi:=(Xd.1 b).1;have eg:(zJ l).getD i 0=n.d:=by rw[Xs,yY b];rfl
 have ep:yn (zJ l) i=yE (zJ l) (n.d-1) i:=by unfold yn;rw[eg]
 have r:=p n (Xf b);refine zc func86<|wa<|⟨Nat,λm=>⟨[(5,i64 ((m:Int)-1)),(1,i64 i),(0,.sl ndE l)],[],0,25,0⟩,λm=>m<=i/\yE (zJ l) (n.d-1) m=yn (zJ l) i,λm=>m,i,⟨Xj _,ep.symm⟩,?_,?_⟩
 .exact zB []
 rintro m ⟨t,c⟩
 refine⟨λg:0<=(m:Int)-1=>?_,λg:¬0<=(m:Int)-1=>?_⟩
 .obtain⟨k,rfl⟩:∃k,m=k+1:=⟨m-1,oM⟩;refine wc<|wb λx f=>?_;have f:l[k]?=some x:=by rw[←f];congr 1;omega
  refine wb λy j=>?_;have j:y=n:=Xl ((show l[i]?=some y from j).symm.trans b);rw[j];refine wa ?_;have o:=yY f;refine⟨λh=>?_,λh=>?_⟩
  .refine ze ?_;rw[←c];unfold yE;rw[o,Xe (by rw[h])];omega
  refine wa<|⟨k,⟨oM,?_⟩,jv [] ⟨iR oM,rfl,rfl,tV⟩ trivial,oN⟩;rw[←c]
  conv=>rhs;unfold yE
  rw[o,Xc (λq=>h (Xl q))]
 obtain rfl:m=0:=oM;exact ze c
def uT{s:Sc}{i:Int}(h:inS s i):∃n,s.ns[i.toNat]?=some n:=⟨_,Xb (by have:=h.2;omega)⟩
def yK{s:Sc}(h:qy s):∀n∈s.ns,0<=n.d/\n.d<8:=λn c=>by
 obtain⟨j,b,e⟩:=Kw c;exact(zcR (zbP h (e ▸ Xb b)).1).2.1
def yR{s:Sc}(h:qy s):s.ns.length<=64:=(zmv.1 h).2.1
def zCf(s:Sc)(i:Int)(ht:zca s):CX 173 [wq s,i64 i] (i64 (parS s i)):=by
 refine zc func173<|wg (zCd s i ht)<|⟨λh=>ze (Xc h).symm,λh=>?_⟩;have h:inS s i:=Xa.1 h;obtain⟨n,c⟩:=uT h;have b:=zCe s.ns i.toNat n c (yK h.1) (yR h.1);rw[show((i.toNat:Nat):Int)=i by have:=h.2.1;omega]at b;exact wg b<|ze (Xe h).symm
def zCh(n:Int):CX 191 [i64 n] (pr (zdq n)):=by
 refine zc func191<|Br.mk (λh=>?_) (λh=>?_)
 .exact zH (.inl h)
 exact zC ⟨.inr,λk=>k.resolve_left h⟩
def zwy(n:Nd):CX 195 [ww n] (pr (zcO n)):=by
 refine zc func195<|Br.mk (λb=>?_) (λb=>zd λk=>b k.1);refine⟨λc=>?_,λc=>zd λk=>c k.2.1⟩;refine⟨λd=>?_,λd=>zd λk=>d (by rw[k.2.2.1];decide)⟩;exact zC ⟨λh=>⟨b,c,by simpa using d,by simpa using h⟩,λk=>by rw[k.2.2.2];decide⟩
def zwz(n:Nd):CX 192 [ww n] (pr (zdL n)):=by
 refine zc func192 λf=>?_;refine⟨λc=>?_,λc=>zd λk=>c (by have:=k.1;omega)⟩;refine⟨λb=>?_,λb=>zd λk=>b k.2.1⟩;intro g;refine⟨λd=>?_,λd=>zd λk=>d (by have:=k.2.2.1;omega)⟩;intro j;exact zC ⟨λh=>⟨oM,b,oM,oM⟩,λk=>by have:=k.2.2.2;omega⟩
def zqr(n:Nd):CX 193 [ww n] (pr (ut n.pen)):=by
 refine zc func193<|Br.mk (λc=>?_) (λc=>zd λk=>c k.1);refine⟨λf=>?_,λf=>zd λk=>f k.2.1⟩;refine⟨λg=>?_,λg=>zd λk=>g k.2.2.1⟩;refine⟨λj=>?_,λj=>zd λk=>j k.2.2.2.1⟩;intro o;refine⟨λb=>?_,λb=>zd λk=>b (by rw[k.2.2.2.2.1];rfl)⟩;have b:n.pen.d.length=0:=oM;exact zC ⟨λh=>⟨c,f,g,j,XQ.1 b,h⟩,λk=>k.2.2.2.2.2⟩
def zwA(n:Nd):CX 194 [ww n] (pr (zcP n)):=by
 refine zc func194<|Br.mk (λb=>?_) (λb=>zd λk=>b k.1);refine⟨λc=>?_,λc=>zd λk=>c k.2.1⟩;intro f;refine⟨λd=>?_,λd=>zd λk=>d (by have:=k.2.2.1;omega)⟩;exact zC ⟨λh=>⟨b,c,oM,h⟩,λk=>k.2.2.2⟩
def zHQ(n:Nd):CX 132 [ww n] (pr (zhV n)):=by
 have c:¬vf n->LE (bl false) (pr (zhV n)):=λh=>zd λk=>h k.1
 refine zby tok func132 rfl rfl rfl (zaz.cut tok mix 2 (λ_:Unit=>⟨[(1,.loc 0 0)],[(0,.box 60 (ndE n))],1,56,0⟩) (λ_=>vf n) ?_ λ_ o=>zaz.vc tok mix ?_)
 .intro s;refine⟨λr=>?_,λr=>?_⟩
  .refine⟨λf=>c λk=>k.elim (λk=>f k.2) λk=>by have:=k.1;omega,λf=>?_⟩;intro p;refine⟨λg=>?_,λg=>⟨(),.inl ⟨oM,Xa.1 f⟩,zf [0]⟩⟩;omega
  intro p;refine⟨λg=>?_,λg=>?_⟩
  .refine wg (zCh n.cr)<|⟨λj=>c λk=>k.elim (λk=>by have:=k.1;omega) λk=>j k.2,λj=>?_⟩;exact⟨(),.inr ⟨oM,Xa.1 j⟩,zf [0]⟩
  omega
 refine⟨λd=>?_,λd=>?_⟩
 .have e:zhV n↔(zdL n/\ut n.pen)/\zcP n:=by unfold zhV;rw[Xe d];exact⟨λh=>h.2,λh=>⟨o,h⟩⟩
  refine wg (zwz n)<|⟨λa=>?_,λa=>zd λk=>a (e.1 k).1.1⟩;refine wg (zqr n)<|⟨λb=>?_,λb=>zd λk=>b (e.1 k).1.2⟩;exact wg (zwA n)<|zC ⟨λh=>e.2 ⟨⟨a,b⟩,h⟩,λk=>(e.1 k).2⟩
 refine⟨λq=>?_,λq=>?_⟩
 .have e:zhV n↔zcO n/\zcP n:=by unfold zhV;rw[Xc d,Xe q];exact⟨λh=>h.2,λh=>⟨o,h⟩⟩
  refine wg (zwy n)<|⟨λa=>?_,λa=>zd λk=>a (e.1 k).1⟩;exact wg (zwA n)<|zC ⟨λh=>e.2 ⟨a,h⟩,λk=>(e.1 k).2⟩
 have e:zhV n↔zcO n/\zdL n/\ut n.pen:=by unfold zhV;rw[Xc d,Xc q];exact⟨λh=>h.2,λh=>⟨o,h⟩⟩
 refine wg (zwy n)<|⟨λa=>?_,λa=>zd λk=>a (e.1 k).1⟩;refine wg (zwz n)<|⟨λb=>?_,λb=>zd λk=>b (e.1 k).2.1⟩;exact wg (zqr n)<|zC ⟨λh=>e.2 ⟨a,b,h⟩,λk=>(e.1 k).2.2⟩
def zs1(xs:LY)(ht:zf3 xs):CX 196 [.sl qD xs] (pr (uI xs)):=by
 refine zc func196<|⟨Int,λi=>⟨[(3,i64 i),(0,.sl qD xs)],[],0,16,0⟩,λi=>0<=i/\i<=xs.length/\∀(j:Nat) q,(j:Int)<i->xs[j]?=some q->vQ q,λi=>((xs.length:Int)-i).toNat,0,?_,?_,?_⟩
 .exact⟨oM,oM,λj q c=>by omega⟩
 .exact zB []
 rintro i ⟨t,u,g⟩
 intro o;refine⟨λh=>?_,λh=>?_⟩
 .refine wb λx f=>?_;have r:=ht x (Xf f);refine wg (zs0 x r.1)<|⟨λb=>zd λk=>b (k x (Xf f)),λb=>?_⟩;refine wa<|⟨i+1,⟨oM,oM,λj q c d=>?_⟩,zB [],oN⟩
  by_cases e:j=i.toNat
  .subst e;rw[f]at d;cases d;exact Xa.1 b
  exact g j q oM d
 refine zH λp s=>?_
 obtain⟨j,c,n⟩:=Kw s;exact g j p oM (by rw[←n];exact Xb c)
def zEW(n:Nd)(y:zf3 n.fill)(z:zf3 n.strk):CX 133 [ww n] (i64 (vR n)):=by
 refine zc func133<|wg (zhl n.path)<|⟨λb=>ze (by unfold vR;rw[Xe b]),λb=>?_⟩;refine wg (zCh n.rule)<|⟨λc=>ze (by unfold vR;rw[Xc b,Xe c]),λc=>?_⟩;intro t;refine⟨λr=>ze (by unfold vR;rw[Xc b,Xc c,Xe (.inl oM)]),λr=>?_⟩;intro u;refine⟨λs=>ze (by unfold vR;rw[Xc b,Xc c,Xe (.inr oM)]),λs=>?_⟩;have d:¬(1<n.fill.length∨1<n.strk.length):=oM;intro v;refine⟨λq=>?_,λq=>?_⟩
 all_goals first
  |(refine wg (zdi n.pen) ?_;refine⟨λh=>ze (by unfold vR;rw[Xc b,Xc c,Xc d,Xe ⟨oM,h⟩]),λh=>?_⟩;have f:¬(0<n.strk.length/\¬kF n.pen):=λk=>h k.2)
  |have f:¬(0<n.strk.length/\¬kF n.pen):=λk=>q (by have:=k.1;omega)
 all_goals intro w
 all_goals refine⟨λc1=>?_,λc1=>?_⟩
 all_goals first
  |(refine wg (zqr n) ?_;refine⟨λj=>ze (by unfold vR;rw[Xc b,Xc c,Xc d,Xc f,Xe ⟨oM,j⟩]),λj=>?_⟩;have g:¬(n.strk.length=0/\¬ut n.pen):=λk=>j k.2)
  |have g:¬(n.strk.length=0/\¬ut n.pen):=λk=>c1 (by have:=k.1;omega)
 all_goals refine wg (zs1 n.fill y) ?_
 all_goals refine⟨λo=>ze (by unfold vR;rw[Xc b,Xc c,Xc d,Xc f,Xc g];exact(Xe (Or.inl o)).symm),λo=>?_⟩
 all_goals refine wg (zs1 n.strk z) ?_
 all_goals refine⟨λp=>ze (by unfold vR;rw[Xc b,Xc c,Xc d,Xc f,Xc g];exact(Xe (Or.inr p)).symm),λp=>ze (by unfold vR;rw[Xc b,Xc c,Xc d,Xc f,Xc g];exact(Xc (λk=>k.elim o p)).symm)⟩
def zEX(n:Nd)(h:zmq n):CX 80 [ww n] (i64 (ue n)):=by
 obtain⟨ht,B,C,D⟩:=h;refine zc func80<|Br.mk (λu=>ze (by unfold ue;rw[Xe (.inl u)])) (λu=>?_);refine⟨λv=>ze (by unfold ue;rw[Xe (.inr v)]),λv=>?_⟩;have b:¬(n.k<1∨3<n.k):=oM;refine⟨λw=>ze (by unfold ue;rw[Xc b,Xe oM]),λw=>?_⟩;refine⟨λy=>ze (by unfold ue;rw[Xc b,Xe oM]),λy=>?_⟩;refine⟨λz=>ze (by unfold ue;rw[Xc b,Xe oM]),λz=>?_⟩
 refine⟨λA=>ze (by unfold ue;rw[Xc b,Xe oM]),λA=>?_⟩;have g:¬(n.id<1∨1073741824<n.id∨n.d<0∨8<=n.d):=oM;refine wg (zcC n.t (ht.up dC)) ?_;refine⟨λf=>ze (by unfold ue;rw[Xc b,Xc g,Xe f]),λf=>?_⟩;refine wg (zvQ n.t (ht.up dC)) ?_;refine wg (yH 0 (by constructor <;> decide)) ?_;have p:=zAt (ofQ (zbT n.t)) (ofQ ((0:Int):Rat)) (by have:=zhU ht;rw[zF];omega) (by decide +kernel);rw[ky,ky]at p;refine wg p ?_
 refine⟨λc=>ze (by unfold ue;rw[Xc b,Xc g,Xc f,Xe ((YC.1 (uQ _)).1 c)]),λc=>?_⟩;have c:¬zbT n.t=0:=(uQ _).1 c;refine wg (zhl n.clip)<|⟨λj=>ze (by unfold ue;rw[Xc b,Xc g,Xc f,Xc c,Xe j]),λj=>?_⟩;refine wg (zHQ n)<|⟨λo=>ze (by unfold ue;rw[Xc b,Xc g,Xc f,Xc c,Xc j,Xe o]),λo=>?_⟩;refine⟨λr=>?_,λr=>?_⟩
 .exact wg (zEW n B C)<|ze (by unfold ue;rw[Xc b,Xc g,Xc f,Xc c,Xc j,Xc o,Xc oM,Xe r])
 refine⟨λq=>?_,λq=>?_⟩
 .exact wg (zHJ n.mode)<|⟨λm=>ze (by unfold ue;rw[Xc b,Xc g,Xc f,Xc c,Xc j,Xc o,Xe q];exact(Xe m).symm),λm=>ze (by unfold ue;rw[Xc b,Xc g,Xc f,Xc c,Xc j,Xc o,Xe q];exact(Xc m).symm)⟩
 refine wg (zml n.im)<|⟨λm=>ze (by unfold ue;rw[Xc b,Xc g,Xc f,Xc c,Xc j,Xc o,Xc q,Xc r,Xe m]),λm=>?_⟩;refine⟨λs1=>?_,λs1=>ze (by unfold ue;rw[Xc b,Xc g,Xc f,Xc c,Xc j,Xc o,Xc q,Xc r,Xc m,Xc (λk=>s1 k.1)])⟩
 exact⟨λs=>ze (by unfold ue;rw[Xc b,Xc g,Xc f,Xc c,Xc j,Xc o,Xc q,Xc r,Xc m,Xe ⟨s1,s⟩]),λs=>ze (by unfold ue;rw[Xc b,Xc g,Xc f,Xc c,Xc j,Xc o,Xc q,Xc r,Xc m,Xc (λk=>s k.2)])⟩
def zmy(l:LW)(id:Int):Int:=match l.findIdx? (λn=>n.id=id) with|some i=>i|none=> -1
def zCi{id:Int}(h:∀(j:Nat) q,j<i->l[j]?=some q->q.id≠id)(d:l[i]?=some x)(b:x.id=id):zmy l id=i:=by
 have:l.findIdx? (λn=>n.id=id)=some i:=by
  rw[KS];have hi:=(Xd.1 d);refine⟨hi.1,by rw[hi.2];simpa using b,λj c=>?_⟩;have:=h j _ c (Xb (by have:=hi.1;omega))
  simpa using this
 unfold zmy;rw[this]
def zmz{id:Int}(h:∀p∈l,p.id≠id):zmy l id= -1:=by
 have:l.findIdx? (λn=>n.id=id)=none:=by
  rw[KE];intro p b;simpa using h p b
 unfold zmy;rw[this]
def zs2{id:Int}:0<=zmy l id↔id∈l.map Nd.id:=by
 by_cases h:∀p∈l,p.id≠id
 .rw[zmz h];refine⟨λk=>by omega,λk=>?_⟩;obtain⟨p,c,e⟩:=XK.1 k;exact absurd e (h p c)
 unfold zmy
 cases b:l.findIdx? (λn=>n.id=id) with
 |some i=>
  refine⟨λ_=>?_,λ_=>Kv i⟩;rw[KS]at b;obtain⟨hi,d,_⟩:=b;exact XK.2 ⟨l[i],X5 hi,by simpa using d⟩
 |none=>rw[KE]at b;exact absurd (λp c=>by simpa using b p c) h
def zHR(l:LW)(id:Int):CX 81 [.sl ndE l,i64 id] (i64 (zmy l id)):=by
 refine zc func81<|⟨Nat,λi=>⟨[(5,i64 i),(1,i64 id),(0,.sl ndE l)],[],0,20,0⟩,λi=>i<=l.length/\∀(j:Nat) q,j<i->l[j]?=some q->q.id≠id,λi=>l.length-i,0,⟨Xh _,λj q h=>by omega⟩,?_,?_⟩
 .exact zB []
 rintro i ⟨r,b⟩
 intro n;refine⟨λg:(i:Int)<l.length=>?_,λg:¬(i:Int)<l.length=>?_⟩
 .refine wb λx(k:l[i]?=some x)=>?_;refine⟨λh=>ze (zCi b k h).symm,λh=>?_⟩;refine wa<|⟨i+1,⟨oM,λj q f d=>?_⟩,zB [],oN⟩
  by_cases c:j=i
  .subst c;rw[k]at d;cases d;exact h
  exact b j q oM d
 refine ze (zmz λp o=>?_).symm;obtain⟨j,f,e⟩:=Kw o;exact b j p oM (by rw[←e];exact Xb f)
def zCj{n:Nd}(h:l[0]?=some n):jP l 0 n↔n.d=0:=by
 unfold jP;rw[show l[0-1]?=some n from h];exact Qk
def zCk{l:LW}{i:Nat}{n p:Nd}(b:l[i]?=some p):jP l (i+1) n↔(p.k=1/\n.d=p.d+1)∨n.d<=p.d:=by
 unfold jP;rw[show l[i+1-1]?=some p from b];exact Qk
def zCl(l:LW)(i:Nat)(n:Nd)(o:l[i]?=some n)(v:∀j p,j<i->l[j]?=some p->0<=p.d/\p.d<8)(A:l.length<=64):
  CX 82 [.sl ndE l,i64 i] (pr (jP l i n)):=by
 have hi:=(Xd.1 o).1;refine zc func82<|Br.mk (λg=>?_) (λg=>?_)
 .have g:(i:Int)=0:=g;obtain rfl:i=0:=oM;refine wb λx f=>?_;have f:x=n:=Xl ((show l[0]?=some x from f).symm.trans o);rw[f];exact zC (zCj o).symm
 have g:¬(i:Int)=0:=g;obtain⟨k,rfl⟩:∃k,i=k+1:=⟨i-1,oM⟩;obtain⟨p,r⟩:∃p,l[k]?=some p:=⟨_,Xb oM⟩;have w:=v k p oM r;have s:=zCk (n:=n) r;refine wc<|wa<|wb λx f=>?_;have f:x=p:=Xl ((show l[k]?=some x by rw[←f];congr 1;omega).symm.trans r);rw[f];refine⟨λt=>?_,λt=>?_⟩
 .refine wb λy b=>?_;have b:y=n:=Xl ((show l[k+1]?=some y by rw[←b];congr 1).symm.trans o);rw[b];refine wa<|wb λz c=>?_;have c:z=p:=Xl ((show l[k]?=some z by rw[←c];congr 1;omega).symm.trans r);rw[c];refine wa<|Br.mk (λu=>zH (s.2 (.inl ⟨t,u⟩))) (λu=>?_);refine wc<|wb λy b=>?_;have b:y=n:=Xl ((show l[k+1]?=some y by rw[←b];congr 1).symm.trans o);rw[b];refine wa<|wb λz c=>?_
  have c:z=p:=Xl ((show l[k]?=some z by rw[←c];congr 1;omega).symm.trans r);rw[c];exact zC ⟨λh=>s.2 (.inr h),λh=>(s.1 h).resolve_left λq=>u q.2⟩
 refine wc<|wb λy b=>?_;have b:y=n:=Xl ((show l[k+1]?=some y by rw[←b];congr 1).symm.trans o);rw[b];refine wa<|wb λz c=>?_;have c:z=p:=Xl ((show l[k]?=some z by rw[←c];congr 1;omega).symm.trans r);rw[c];exact zC ⟨λh=>s.2 (.inr h),λh=>(s.1 h).resolve_left λq=>t q.1⟩
def zEY(l:LW)(i:Nat)(n:Nd)(f:l[i]?=some n)(ht:zmq n)(r:∀j p,j<i->l[j]?=some p->0<=p.d/\p.d<8)(s:l.length<=64):
  CX 43 [.sl ndE l,i64 i] (i64 (zhW l i n)):=by
 have hi:=(Xd.1 f).1;refine zc func43<|wb λx g=>?_;have g:x=n:=Xl ((show l[i]?=some x from g).symm.trans f);rw[g];refine wg (zEX n ht)<|⟨λh=>ze (zsY h).symm,λb=>?_⟩;have b:ue n=0:=Xa.1 b;refine wc<|Ob.mk ⟨oM,λ_ _=>rfl⟩<|wb λy o=>?_;have o:y=n:=Xl ((show l[i]?=some y from o).symm.trans f);rw[o]
 have e:(l.drop (0:Int).toNat).take ((i:Int)-0).toNat=l.take i:=by rw[show(0:Int).toNat=0 from rfl,Qd];congr 1
 refine wg (zHR ((l.drop (0:Int).toNat).take ((i:Int)-0).toNat) n.id) ?_;rw[e];refine⟨λh=>ze (zsZ b (zs2.1 h)).symm,λc=>?_⟩;have c:n.id∉(l.take i).map Nd.id:=λk=>c (zs2.2 k)
 refine wg (zCl l i n f r s)<|⟨λh=>ze (zmx b c h).symm,λq=>?_⟩;exact ze (zwx b c (Xa.1 q)).symm
def zCm(s:Sc)(ht:zca s):CX 17 [wq s] (zyN (zj3 s)):=by
 refine zc func17<|Br.mk (λh=>zaI (.inl h)) (λq=>?_);refine⟨λh=>zaI (.inr (.inl h)),λr=>?_⟩;refine⟨λh=>zaI (.inr (.inr (.inl h))),λt=>?_⟩;refine⟨λh=>zaI (.inr (.inr (.inr h))),λu=>?_⟩;have f:¬zf4 s:=λk=>k.elim q λk=>k.elim r λk=>k.elim t u
 intro y;refine⟨λh=>zoE f oM,λC=>?_⟩;have o:¬64<s.ns.length:=oM;have ht:=ht oM;refine⟨Nat,λi=>⟨[(4,i64 i),(1,.loc 0 0)],[(0,.box 26 (scE s))],1,43,0⟩,λi=>i<=s.ns.length/\∀j,j<i->uJ s.ns j=0,λi=>s.ns.length-i,0,⟨Xh _,λj h=>by omega⟩,zf [0],?_⟩
 rintro i ⟨hi,c⟩
 intro z;refine⟨λg:(i:Int)<s.ns.length=>?_,λg:¬(i:Int)<s.ns.length=>?_⟩
 .obtain⟨x,b⟩:∃x,s.ns[i]?=some x:=⟨_,Xb oM⟩;have A:=Xf b
  have w:∀j p,j<i->s.ns[j]?=some p->0<=p.d/\p.d<8:=λj p n B=>by
   have:=c j n;rw[zdt B]at this;exact(zcR (zoC this).1).2.1
  refine wg (zEY s.ns i x b (ht x A) w oM)<|⟨λh=>zks f o b c rfl h,λv=>?_⟩;exact wa<|⟨i+1,⟨oM,zoF b c (Xa.1 v)⟩,zf [0],oN⟩
 exact zww f o λj n=>c j oM
def zbQ(s:Sc)(ht:zca s):CX 7 [wq s] (pr (qy s)):=by
 exact zc func7<|wg (zCm s ht)<|zC Qk
def zs3(s:Sc)(i:Int)(ht:zca s):CX 150 [wq s,i64 i] (pr (inS s i)):=by
 refine zc func150<|wg (zbQ s ht)<|⟨λb=>?_,λb=>zd λk=>b k.1⟩;refine⟨λc=>?_,λc=>zd λk=>c k.2.1⟩;intro d;exact zC ⟨λh=>⟨b,c,h⟩,λk=>k.2.2⟩
def zCn(l:LW)(i:Nat)(n:Nd)(b:l[i]?=some n)(p:∀n∈l,0<=n.d/\n.d<8)(s:l.length<=64):CX 151 [.sl ndE l,i64 i] (i64 (yn (zJ l) i)):=by
 have hi:=(Xd.1 b).1;have eg:(zJ l).getD i 0=n.d:=by rw[Xs,yY b];rfl
 have ep:yn (zJ l) i=yE (zJ l) (n.d-1) i:=by unfold yn;rw[eg]
 have r:=p n (Xf b);refine zc func151<|wa<|⟨Nat,λm=>⟨[(5,i64 ((m:Int)-1)),(1,i64 i),(0,.sl ndE l)],[],0,25,0⟩,λm=>m<=i/\yE (zJ l) (n.d-1) m=yn (zJ l) i,λm=>m,i,⟨Xj _,ep.symm⟩,?_,?_⟩
 .exact zB []
 rintro m ⟨t,c⟩
 refine⟨λg:0<=(m:Int)-1=>?_,λg:¬0<=(m:Int)-1=>?_⟩
 .obtain⟨k,rfl⟩:∃k,m=k+1:=⟨m-1,oM⟩;refine wc<|wb λx f=>?_;have f:l[k]?=some x:=by rw[←f];congr 1;omega
  refine wb λy j=>?_;have j:y=n:=Xl ((show l[i]?=some y from j).symm.trans b);rw[j];refine wa ?_;have o:=yY f;refine⟨λh=>?_,λh=>?_⟩
  .refine ze ?_;rw[←c];unfold yE;rw[o,Xe (by rw[h])];omega
  refine wa<|⟨k,⟨oM,?_⟩,jv [] ⟨iR oM,rfl,rfl,tV⟩ trivial,oN⟩;rw[←c]
  conv=>rhs;unfold yE
  rw[o,Xc (λq=>h (Xl q))]
 obtain rfl:m=0:=oM;exact ze c
def jq(s:Sc)(i:Int):LV:=if inS s i then((qN (zJ s.ns) i).reverse).map (λk:Nat=>(k:Int)) else[]
variable{m:Nat}{a:Nat}
def zCo{c:LC}{d:Nat}(f:c.length=d+1)(g:m<=d)(b:c[d-m]?=some a):c.reverse.take (m+1)=c.reverse.take m++[a]:=by
 have:c.reverse[m]?=some a:=by
  rw[QY oM,←b];congr 1;omega
 rw[Xn,this];rfl
def zaW(l:LC):LV:=l.map (λk:Nat=>(k:Int))
def zEZ(s:Sc)(i:Int)(ht:zca s):CG0 146 [wq s,i64 i] [] (.own 0) [(0,.arr 3 zN 1 (jq s i))]:=by
 refine qf tok mix func146 rfl rfl rfl<|⟨Int,zN,[],rfl,wb2 ?_⟩;refine wg (zs3 s i ht)<|⟨λh=>⟨some 1,.own 1 rfl,aR (show[]=jq s i from(Xc h).symm),λ_ _=>rfl⟩,λh=>?_⟩;have h:inS s i:=Xa.1 h;obtain⟨n,c⟩:=uT h;obtain⟨i,rfl⟩:∃k:Nat,i=(k:Int):=⟨i.toNat,by have:=h.2.1;omega⟩;have c:s.ns[i]?=some n:=c;have p:=yK h.1;have K:=yR h.1;have v:=zaH h.1;have L:=p n (Xf c)
 obtain⟨d,u⟩:∃d:Nat,n.d=(d:Int):=⟨n.d.toNat,oM⟩;have hD:(zJ s.ns)[i]?=some (d:Int):=by rw[yY c,u]
 have b:=zfB v hD;have G:jq s i=zaW ((qN (zJ s.ns) i).reverse):=Xe h;have J:=(Xd.1 c).1
 refine⟨Nat,λm=>⟨[(6,i64 m),(5,.own 1),(2,.loc 0 0),(1,i64 i)],[(1,.arr 3 zN 1 (zaW ((qN (zJ s.ns) i).reverse.take m))),(0,.box 26 (scE s))],2,42,0⟩,
  λm=>m<=d+1,λm=>d+1-m,0,Xh _,zf [0,1],?_⟩
 intro m E;have E:m<=d+1:=E;refine wb λx r=>?_;have r:x=n:=Xl ((show s.ns[i]?=some x from r).symm.trans c);rw[r];refine⟨λg:(m:Int)<=n.d=>?_,λg:¬(m:Int)<=n.d=>?_⟩
 .rw[u]at g;have F:(qN (zJ s.ns) i)[0]?=some i:=by rw[jC];rfl
  refine⟨Nat×Nat,λz=>⟨[(7,i64 (z.2:Int)),(6,i64 m),(5,.own 1),(2,.loc 0 0),(1,i64 i)],[(1,.arr 3 zN 1 (zaW ((qN (zJ s.ns) i).reverse.take m))),(0,.box 26 (scE s))],2,42,0⟩,
   λz=>z.1<=d-m/\(qN (zJ s.ns) i)[z.1]?=some z.2,λz=>d-z.1,(0,i),⟨Xh _,F⟩,zf [0,1],?_⟩
  rintro⟨k,a⟩ ⟨D,f⟩
  have D:k<=d-m:=D;have f:(qN (zJ s.ns) i)[k]?=some a:=f;have o:=zja v hD f;obtain⟨y,B,t⟩:=zam o;have I:=(Xd.1 B).1;dsimp only;refine wb λw A=>?_;have A:w=y:=Xl ((show s.ns[a]?=some w from A).symm.trans B);rw[A];refine⟨λq:(m:Int)<y.d=>?_,λq:¬(m:Int)<y.d=>?_⟩
  .rw[t]at q;refine wg (zCn s.ns a y B p K) ?_;obtain⟨j,C,_,_⟩:=(zhX v o).2 oM;refine⟨(k+1,j),⟨oN,zmw f C⟩,zQ [0,1] ⟨iR C,rfl,rfl,rfl,rfl,tV⟩ ⟨rfl,rfl,tV⟩,oN⟩
  rw[t]at q;obtain rfl:k=d-m:=oM;refine⟨Int,zN,[(a:Int)],rfl,wb3 ?_⟩
  have hlen0:(zaW ((qN (zJ s.ns) i).reverse.take m)).length<=64:=by
   unfold zaW;rw[Xv,Xp,Qa,b];omega
  refine⟨[(a:Int)],rfl,Ob.mk ⟨by show(((zaW ((qN (zJ s.ns) i).reverse.take m)).length:Int)+1)*8<=_;omega,by rw[X2];omega,dC,λx r=>by rw[Xt.1 r];rfl⟩ ?_⟩;refine wa ?_
  have H:zaW ((qN (zJ s.ns) i).reverse.take m)++[(a:Int)]=zaW ((qN (zJ s.ns) i).reverse.take (m+1)):=by
   rw[zCo b oM f];unfold zaW;rw[Xz];rfl
  exact⟨m+1,by show m+1<=d+1;omega,zt [0,3] ⟨aR H,rfl,tV⟩,by show d+1-(m+1)<d+1-m;omega⟩
 rw[u]at g;have e:(qN (zJ s.ns) i).reverse.take m=(qN (zJ s.ns) i).reverse:=Xi (by rw[Qa,b];omega);exact⟨some 1,.own 1 rfl,aR (by rw[G,e]),λ_ _=>rfl⟩
def zCp(s:Sc)(i:Int)(ht:zca s):CX 146 [wq s,i64 i] (.sl zN (jq s i)):=(zEZ s i ht).plain rfl
def fineN(n:Nd):Prop:=n.t.le 100/\zmq n/\n.path.length<=300/\n.clip.length<=300
def ji(s:Sc):Prop:=s.ns.length<=64->∀n∈s.ns,fineN n
def ji.tame{s:Sc}(h:ji s):zca s:=λb n c=>(h b n c).2.1
def zHS{s:Sc}(h:ji s)(c:qy s)(k:Nat):(tAt s.ns k).le 100:=by
 unfold tAt
 cases b:s.ns[k]? with
 |none=>exact zAv.up dC
 |some n=>exact(h (yR c) n (Xf b)).1
def zCq{s:Sc}(h:ji s)(b:qy s)(i:Int):∀t∈trs s.ns i,t.le 100:=λt ht=>by
 obtain⟨k,_,rfl⟩:=XK.1 ht;exact zHS h b k
def zwB{s:Sc}(b:qy s)(hi:i<s.ns.length):(trs s.ns i).length<=8:=by
 have c:s.ns[i]?=some s.ns[i]:=Xb hi;have f:=yK b s.ns[i] (X5 hi);unfold trs;rw[Xv,zfB (d:=s.ns[i].d.toNat) (zaH b) (by rw[yY c];congr 1;omega)];omega
def zCr{l:List AF}:(vO l).1.le 100:=by
 unfold vO
 split
 .rename_i h;have:=zmk (l:=l) (i:=l.length) (Xj _) λk b=>h.2 k b
  rw[Kc]at this;exact this.up dC
 exact zal _
def zaJ(s:Sc)(i:Int):(kj s i).1.le 100:=by
 unfold kj
 split
 .exact zal _
 split
 .exact zal _
 exact zCr
def resW(r:AF×Int):SV:=.tup [wo r.1,i64 r.2]
def zbl{s:Sc}{i:Int}(h:kj s i=(qJ,e)):LE (.tup [.agg um,i64 e]) (resW (kj s i)):=by
 rw[h];exact zP zcD .refl
def zs4{s:Sc}{i:Int}(h:qy s)(b:0<=i)(c:i<s.ns.length):kj s i=vO (trs s.ns i):=by
 unfold kj;rw[Xc (λk=>k h),Xc oM]
def zE0{s:Sc}(h:qy s)(hi:i<s.ns.length):parS s i=yn (zJ s.ns) i:=by
 unfold parS;rw[Xe ⟨h,oM,oM⟩];rfl
def scO(s:Sc)(k:Nat):LR:=[i64 s.w,i64 s.h,u8 s.bg.r,u8 s.bg.g,u8 s.bg.b,u8 s.bg.a,.own k]
abbrev nArr(l:LW):Mem:=.arr 60 ndE 47 l
def zE1(s:Sc)(i:Int)(ht:ji s):CX 122 [wq s,i64 i] (resW (kj s i)):=by
 refine zc func122<|wg (zhY s ht.tame)<|⟨λh=>zbl (Xe h),λh=>?_⟩;have n:qy s:=Xa.1 h;refine⟨λu=>zbl ((Xc h).trans (Xe (.inl u))),λu=>?_⟩;intro B;refine⟨λv=>zbl ((Xc h).trans (Xe (.inr v))),λv=>?_⟩;have w:=zs4 n (i:=i) oM oM;have hl64:=yR n;have o:=zCq ht n i
 have d:(trs s.ns i).length<=8:=by
  obtain⟨k,rfl⟩:∃k:Nat,i=(k:Int):=⟨i.toNat,oM⟩;exact zwB n oM
 refine⟨List AF×Int,λz=>⟨[(6,.own 2),(4,.loc 1 0),(2,.loc 0 0),(1,i64 z.2)],[(2,.arr 51 afE 24 z.1),(1,.box 51 um),(0,.box 26 (scE s))],3,39,0⟩,
  λz=>z.1++trs s.ns z.2=trs s.ns i/\ -1<=z.2/\z.2<s.ns.length,λz=>(z.2+1).toNat,([],i),⟨rfl,oN,oN⟩,zB [(0,some 0),(1,some 1),(2,none)],?_⟩
 rintro⟨p,j⟩ ⟨f,b,c⟩
 have f:p++trs s.ns j=trs s.ns i:=f;have b: -1<=j:=b;have c:j<s.ns.length:=c;have C:p.length<=8:=by rw[←f,Xr]at d;omega
 refine⟨λg:0<=j=>?_,λg:¬0<=j=>?_⟩
 .obtain⟨k,rfl⟩:∃k:Nat,j=(k:Int):=⟨j.toNat,oM⟩;refine wb λx(D:s.ns[k]?=some x)=>?_;refine⟨AF,afE,[x.t],rfl,Ob.mk ⟨rfl,dC,dC,dC,λy r=>by rw[Xt.1 r];exact⟨rfl,rfl,rfl⟩⟩ ?_⟩;refine⟨[x.t],rfl,Ob.mk ⟨by show((p.length:Int)+1)*_<=_;dsimp only;omega,by show p.length+1<=_;omega,dC,λy r=>by rw[Xt.1 r];rfl⟩ ?_⟩;refine wg (zCf s k ht.tame) ?_;have ep:=zE0 n (i:=k) oM;have q:=zfA (zJ s.ns) k
  refine⟨(p++[x.t],yn (zJ s.ns) k),⟨by dsimp only;rw[XL,←f,zCb D];rfl,q.1,oN⟩,zQ [0,1,4] ⟨rfl,rfl,rfl,iR ep,tV⟩ ⟨rfl,rfl,rfl,tV⟩,oN⟩
 have A:p=trs s.ns i:=by rw[←f,zET oM,XE]
 subst A;refine zb.see 2 _ (zuM (trs s.ns i) o) rfl rfl rfl ?_;rw[w];exact zP .refl .refl
def zHT{s:Sc}(h:inS s i)(c:m<(qN (zJ s.ns) i).length)(b:(qN (zJ s.ns) i)[(qN (zJ s.ns) i).length-1-m]?=some a):(jq s i)[m]?=some (a:Int):=by
 have e:jq s i=((qN (zJ s.ns) i).reverse).map (λk:Nat=>(k:Int)):=Xe h;rw[e,XD,QY c,b];rfl
def zE2{s:Sc}(h:inS s i):(jq s i).length=(qN (zJ s.ns) i).length:=by
 have e:jq s i=((qN (zJ s.ns) i).reverse).map (λk:Nat=>(k:Int)):=Xe h;rw[e,Xv,Qa]
def zkt(s:Sc)(i:Int)(ht:ji s):CX 103 [wq s,i64 i] (resW (kj s i)):=by
 refine zc func103<|wg (zbQ s ht.tame)<|⟨λh=>zbl (Xe h),λh=>?_⟩;have b:qy s:=Xa.1 h;refine⟨λD=>zbl ((Xc h).trans (Xe (.inl D))),λD=>?_⟩;intro K;refine⟨λE=>zbl ((Xc h).trans (Xe (.inr E))),λE=>?_⟩;have H:=zs4 b (i:=i) oM oM;have hl64:=yR b;have p:=zCq ht b i;obtain⟨i,rfl⟩:∃k:Nat,i=(k:Int):=⟨i.toNat,oM⟩;have hi:i<s.ns.length:=oM;have c:inS s i:=⟨b,oM,oM⟩;have F:=zwB b hi
 have n:(trs s.ns i).length=(qN (zJ s.ns) i).length:=by unfold trs;rw[Xv]
 have J:=zE2 c;refine wg (zCp s i ht.tame) λL=>wa ?_
 refine⟨Nat,λm=>⟨[(8,i64 ((m:Int)-1)),(7,.own 2),(6,.sl zN (jq s i)),(4,.loc 1 0),(2,.loc 0 0)],[(2,.arr 51 afE 24 ((trs s.ns i).take ((trs s.ns i).length-m))),(1,.box 51 um),(0,.box 26 (scE s))],3,49,0⟩,
  λm=>m<=(trs s.ns i).length,λm=>m,(trs s.ns i).length,Xj _,?_,?_⟩
 .exact jv [(0,some 0),(1,some 1),(2,none)] ⟨iR oM,rfl,rfl,rfl,rfl,tV⟩ ⟨by show Nat.beq (List.take _ _).length 0=true;rw[QT];rfl,rfl,rfl,tV⟩
 intro m G;have G:m<=(trs s.ns i).length:=G;refine⟨λg:0<=(m:Int)-1=>?_,λg:¬0<=(m:Int)-1=>?_⟩
 .obtain⟨k,rfl⟩:∃k,m=k+1:=⟨m-1,oM⟩;obtain⟨a,f⟩:∃a,(qN (zJ s.ns) i)[(qN (zJ s.ns) i).length-1-k]?=some a:=⟨_,Xb oM⟩
  have v:(trs s.ns i)[(trs s.ns i).length-(k+1)]?=some (tAt s.ns a):=by
   rw[n,show(qN (zJ s.ns) i).length-(k+1)=(qN (zJ s.ns) i).length-1-k by omega];unfold trs;rw[XD,f];rfl
  have j:=zHT c oM f;have o:(zJ s.ns)[i]?=some (s.ns[i]).d:=yY (Xb hi);obtain⟨y,A,_⟩:=zam (zja (zaH b) o f);have N:=(Xd.1 A).1;refine wc<|wb λx w=>?_;have w:x=(a:Int):=Xl ((show(jq s i)[k]?=some x by rw[←w];congr 1;omega).symm.trans j);rw[w];refine wb λz B=>?_;have B:z=y:=Xl ((show s.ns[a]?=some z from B).symm.trans A);rw[B];have u:tAt s.ns a=y.t:=zsV A
  refine⟨AF,afE,[y.t],rfl,Ob.mk ⟨rfl,dC,dC,dC,λq r=>by rw[Xt.1 r];exact⟨rfl,rfl,rfl⟩⟩ ?_⟩;have M:((trs s.ns i).take ((trs s.ns i).length-(k+1))).length<=8:=by rw[Xp];omega
  refine⟨[y.t],rfl,Ob.mk ⟨by show((((trs s.ns i).take ((trs s.ns i).length-(k+1))).length:Int)+1)*_<=_;dsimp only;omega,by show((trs s.ns i).take ((trs s.ns i).length-(k+1))).length+1<=_;omega,dC,λq r=>by rw[Xt.1 r];rfl⟩ ?_⟩;refine wa ?_
  have I:(trs s.ns i).take ((trs s.ns i).length-(k+1))++[y.t]=(trs s.ns i).take ((trs s.ns i).length-k):=by
   rw[show(trs s.ns i).length-k=(trs s.ns i).length-(k+1)+1 by omega,Xn,v,u];rfl
  exact⟨k,by show k<=_;omega,zQ [0,1,4] ⟨iR oM,rfl,rfl,rfl,rfl,tV⟩ ⟨aR I,rfl,rfl,tV⟩,by show k<k+1;omega⟩
 obtain rfl:m=0:=oM;have C:(trs s.ns i).take ((trs s.ns i).length-0)=trs s.ns i:=by rw[YY,Kc]
 refine zb.see 2 _ (zqj ((trs s.ns i).take ((trs s.ns i).length-0)) (by rw[C];exact p)) rfl rfl rfl ?_;rw[H,C];exact zP .refl .refl
def zyO{l:List AF}:(vO l).2=0∨(vO l).2=5:=by
 unfold vO;split
 .exact .inl rfl
 exact .inr rfl
def zan{s:Sc}{i:Int}:inS s i↔¬((kj s i).2=18∨(kj s i).2=8):=by
 unfold kj
 by_cases h:qy s
 .rw[Xc (λk=>k h)]
  by_cases b:i<0∨s.ns.length<=i
  .rw[Xe b];exact⟨λk=>by have:=k.2;omega,λk=>absurd (.inr rfl) k⟩
  rw[Xc b];refine⟨λ_=>?_,λ_=>⟨h,oM,oM⟩⟩
  rcases zyO (l:=trs s.ns i) with e|e <;> rw[e] <;> decide
 rw[Xe h];exact⟨λk=>absurd k.1 h,λk=>absurd (.inl rfl) k⟩
def zjc{s:Sc}{i:Int}(h:¬inS s i):(kj s i).1=qJ/\(kj s i).2≠0/\zT s i=zNd:=by
 refine⟨?_,?_,Xc h⟩
 all_goals
  unfold kj
  by_cases b:qy s
  .rw[Xc (λk=>k b),Xe (by
    rcases Qf i 0 with k|k
    .exact .inl k
    exact .inr (JJ.1 λq=>h ⟨b,k,q⟩))]
   try (first|rfl|exact dC)
  rw[Xe b]
  try (first|rfl|exact dC)
def zdv{s:Sc}{i:Int}(h:inS s i){n:Nd}(b:s.ns[i.toNat]?=some n):zT s i=n:=by
 unfold zT;rw[Xe h,b];rfl
def zoH{s:Sc}(ht:ji s)(i:Int):(zT s i).path.length<=300/\(zT s i).clip.length<=300:=by
 by_cases h:inS s i
 .obtain⟨n,b⟩:=uT h;rw[zdv h b];have:=ht (yR h.1) n (Xf b);exact this.2.2
 rw[(zjc h).2.2];exact⟨Xh _,Xh _⟩
def zCs(s:Sc)(i:Int):LR:=afE (kj s i).1++(pr ((kj s i).2=0)::ndE (zT s i))
def z47:LR:=i64 0::i64 0::i64 0::(um++[nS,i64 0,u8 0,i64 0,bl false,bl false,nS,i64 0,nS,
 i64 0,i64 0,i64 0,i64 0,nS,i64 0,nS,i64 0,i64 0,nS,i64 0])
def zmA:LEs um (afE qJ):=show LEs (z4++(z4++(z4++(z4++(z4++z4))))) (afE qJ) from LEs.append y5 (LEs.append y5 (LEs.append y5 (LEs.append y5 (LEs.append y5 y5))))
def zE3:LEs z47 (ndE zNd):=
 .C (.C (.C (LEs.append zmA (.cons zD (.C (.C (.C (.cons (zd dC) (.cons (zd dC) (.cons zD (.C (.cons zD
  (.C (.C (.C (.C (.cons zD (.C (.cons zD (.C (.C (.cons zD (.C .nil)))))))))))))))))))))))
def zs5{s:Sc}{i:Int}(h:¬inS s i):LE (.agg (um++(bl false::z47))) (.agg (zCs s i)):=by
 obtain⟨b,c,d⟩:=zjc h;unfold zCs;rw[b,d];exact jk (LEs.append zmA (.cons (zd c) zE3))
def zqs(s:Sc)(i:Int)(ht:ji s):CX 74 [wq s,i64 i] (.agg (zCs s i)):=by
 refine zc func74<|wg (zE1 s i ht)<|⟨λh=>zs5 λk=>zan.1 k (.inl h),λf=>?_⟩;refine⟨λh=>zs5 λk=>zan.1 k (.inr h),λg=>?_⟩;have b:inS s i:=zan.2 λk=>k.elim f g
 obtain⟨n,c⟩:=uT b;have hi:=(Xd.1 c).1;have j:=b.2;refine wc<|wb λx d=>?_;have d:x=n:=Xl ((show s.ns[i.toNat]?=some x from d).symm.trans c);rw[d];have e:zCs s i=afE (kj s i).1++(pr ((kj s i).2=0)::ndE n):=by unfold zCs;rw[zdv b c]
 rw[e];exact .refl
def zuW(r:AF×Int)(l:LX)(ht:r.1.le 100)(b:l.length<=300):CX 75 [.agg (afE r.1++[pr (r.2=0)]),.sl sgE l] (.sl zk (uS r l)):=by
 refine zc func75<|Br.mk (λh=>by rw[show uS r l=[] from Xe h];exact zD) (λh=>?_);have e:uS r l=(yx l r.1 32).1:=Xc h;refine wg (zEB l r.1 32 (ht.up dC) b) ?_;rw[e];exact⟨λk=>by rw[zsW k];exact zD,λ_=>.refl⟩
def zwC(s:Sc)(i:Int)(ht:ji s):CX 39 [wq s,i64 i] (.sl zk (vq s i)):=by
 refine zc func39<|wg (zqs s i ht)<|⟨λh=>by rw[show vq s i=[] from Xe (.inl h)];exact zD,λb=>?_⟩;intro d;refine⟨λh=>by rw[show vq s i=[] from Xe (.inr oM)];exact zD,λc=>?_⟩;refine wg (zuW (kj s i) (zT s i).path (zaJ s i) (zoH ht i).1) ?_;rw[show vq s i=uS (kj s i) (zT s i).path from Xc λk=>k.elim b λq=>c oM];exact .refl
def zs6(a b c d:Int):(za2 a b c d).length<=300:=by
 unfold za2;split
 .exact(by decide:5<=300)
 exact Xh _
def zCt(s:Sc)(i:Int)(ht:ji s):CX 41 [wq s,i64 i] (.sl zk (zdu s i)):=by
 refine zc func41<|wg (zqs s i ht)<|⟨λh=>by rw[show zdu s i=[] from Xe h];exact zD,λh=>?_⟩;refine wc<|wg (zul 0 0 (zT s i).im.w (zT s i).im.h)<|wg (zuW (kj s i) (za2 0 0 (zT s i).im.w (zT s i).im.h) (zaJ s i) (zs6 _ _ _ _)) ?_;rw[show zdu s i=uS (kj s i) (za2 0 0 (zT s i).im.w (zT s i).im.h) from Xc h];exact .refl
def zmB(s:Sc)(i:Int):SV:=.tup [.sl zk (zoD s i),pr (0<(zT s i).clip.length)]
def zqt{s:Sc}{i:Int}(h:(zT s i).clip.length=0):LE (.tup [nS,bl false]) (zmB s i):=by
 unfold zmB;rw[show zoD s i=[] from Xe h];exact zP zD (zd oM)
def zmC{s:Sc}{i:Int}{v:SV}(h:(zT s i).clip.length≠0)(b:LE v (.sl zk (uS (kj s i) (zT s i).clip))):LE (.tup [v,bl true]) (zmB s i):=by
 unfold zmB;rw[show zoD s i=uS (kj s i) (zT s i).clip from Xc h];exact zP b (zH oM)
def zE4(s:Sc)(i:Int)(ht:ji s):CX 71 [wq s,i64 i] (zmB s i):=by
 refine zc func71<|wg (zqs s i ht) λb=>?_;refine⟨λh=>zqt oM,λc=>?_⟩;exact wg (zuW (kj s i) (zT s i).clip (zaJ s i) (zoH ht i).2)<|zmC oM .refl
def zE5(s:Sc)(i:Int)(ht:ji s):CX 147 [wq s,i64 i] (zmB s i):=by
 refine zc func147<|wg (zkt s i ht) ?_;have out:¬inS s i->LE (.tup [nS,bl false]) (zmB s i):=λh=>zqt (by rw[(zjc h).2.2];rfl)
 refine⟨λh=>out λk=>zan.1 k (.inl h),λq=>?_⟩;refine⟨λh=>out λk=>zan.1 k (.inr h),λr=>?_⟩;have b:inS s i:=zan.2 λk=>k.elim q r
 obtain⟨n,c⟩:=uT b;have hi:=(Xd.1 c).1;have t:=b.2;have d:=zdv b c;refine wb λx g=>?_;have g:x=n:=Xl ((show s.ns[i.toNat]?=some x from g).symm.trans c);rw[g];intro u;refine⟨λh=>zqt (by rw[d];have h:(n.clip.length:Int)=0:=h;omega),λo=>?_⟩;have p:(zT s i).clip.length≠0:=by rw[d];have o:¬(n.clip.length:Int)=0:=o;omega
 refine⟨λh=>zmC p (by rw[show uS (kj s i) (zT s i).clip=[] from Xe h];exact zD),λf=>?_⟩;have f:(kj s i).2=0:=Xa.1 f;refine wc<|wb λy j=>?_;have j:y=n:=Xl ((show s.ns[i.toNat]?=some y from j).symm.trans c);rw[j];refine wg (zqg n.clip (kj s i).1 32 ((zaJ s i).up dC)) ?_;have e:uS (kj s i) (zT s i).clip=(yx n.clip (kj s i).1 32).1:=by rw[d];exact Xc λk=>k f
 exact zmC p (by rw[e];exact .refl)
def zE6(xs:LU):zgN (.arr 28 ptE 2 xs):=λ_ _=>rfl
def zE7(n:Int)(b:0<=n)(c:n<=4096):CG0 216 [nS,i64 n] [] (.own 0) [(0,.arr 28 ptE 2 [])]:=by
 refine qf tok mix func216 rfl rfl rfl<|Br.mk (λh=>absurd h oM) (λ_=>?_);refine Ar.fit dC<|wa<|Br.mk (λh=>?_) (λh=>?_)
 .refine Ob.mk ⟨rfl,rfl,rfl⟩<|⟨Pt,ptE,zp,rfl,Ob.mk ⟨dC,h,(by show _*(16:Int)<=_;omega),oM⟩ ?_⟩;refine Sl.keep (Ob.mk ⟨rfl,K4 _,oM⟩ ?_);exact⟨some 1,.own _ rfl,rfl,λ_ _=>rfl⟩
 exact⟨none,.nil rfl,rfl⟩
variable{rs:LQ}
def zoI{x:LU}(h:rs[i]?=some x):(rs.take (i+1)).flatten=(rs.take i).flatten++x:=by
 rw[Xn,h];simp
def zs7(rs:LQ):rs.flatten.length=qh rs:=by unfold qh;rw[List.length_flatten]
def zyP(rs:LQ)(o:qh rs<=4096):CG0 144 [.sl zk rs] [] (.own 0) [(0,.arr 28 ptE 2 rs.flatten)]:=by
 refine qf tok mix func144 rfl rfl rfl λf=>?_;refine⟨Nat,λi=>⟨[(11,i64 i),(10,i64 rs.length),(9,.sl zk rs),(3,i64 (qh (rs.take i):Int)),(0,.sl zk rs)],[],0,36,0⟩,λi=>i<=rs.length,λi=>rs.length-i,0,Xh _,zB [],?_⟩;intro i hi;have hi:i<=rs.length:=hi;refine⟨λg:(i:Int)<rs.length=>?_,λg:¬(i:Int)<rs.length=>?_⟩
 .refine wb λx(b:rs[i]?=some x)=>?_;have e:=vl b;have:=zat rs (i+1);intro k;refine wa<|Br.mk (λh=>absurd h oM) (λ_=>?_);exact wa<|⟨i+1,by show i+1<=_;omega,jv [] ⟨rfl,rfl,rfl,iR (by rw[e];omega),rfl,tV⟩ trivial,oN⟩
 have d:rs.take i=rs:=Xi oM;refine zb.fresh _ _ (zE7 (qh (rs.take i):Int) oM (by rw[d];omega)) rfl (zE6 _) (.inl rfl) λn=>?_;refine⟨Nat,λi=>⟨[(27,i64 i),(26,i64 rs.length),(25,.sl zk rs),(6,.own 0)],[(0,.arr 28 ptE 2 (rs.take i).flatten)],1,36,0⟩,λi=>i<=rs.length,λi=>rs.length-i,0,Xh _,zf [0],?_⟩;intro j c;have c:j<=rs.length:=c;refine⟨λg:(j:Int)<rs.length=>?_,λg:¬(j:Int)<rs.length=>?_⟩
 .refine wb λx(b:rs[j]?=some x)=>?_;have e:=vl b;have p:=zat rs (j+1);have q:=zs7 (rs.take j);refine⟨x,rfl,Ob.mk ⟨(by show((rs.take j).flatten.length+x.length:Int)*(16:Int)<=_;omega),oM,dC,λ_ _=>rfl⟩ ?_⟩;exact wa<|⟨j+1,by show j+1<=_;omega,zt [1] ⟨aR (zoI b).symm,tV⟩,oN⟩
 exact⟨some 0,.own _ rfl,aR (by rw[Xi (show rs.length<=j by omega)]),λ_ _=>rfl⟩
def zcS(rs:LQ):Prop:=rs.flatten≠[]/\kC rs
instance (rs:LQ):Decidable (zcS rs):=wi
def loR(rs:LQ):Pt:=if zcS rs then bnd mnP rs.flatten else zp
def hiR(rs:LQ):Pt:=if zcS rs then bnd mxP rs.flatten else zp
def pbE(rs:LQ):SV:=.tup [wk (loR rs),wk (hiR rs),pr (zcS rs)]
def zCu(h:¬zcS rs):LE (.tup [.agg [i64 0,i64 0],.agg [i64 0,i64 0],bl false]) (pbE rs):=by
 unfold pbE loR hiR;rw[Xc h,Xc h];exact zaQ (.C (.C (.cons (zd h) .nil)))
def zHU(rs:LQ)(A:qh rs<=4096):CX 93 [.sl zk rs] (pbE rs):=by
 refine zc func93<|wg ((zyP rs A).plain rfl) ?_;generalize n:rs.flatten=q;have H:q.length<=4096:=by rw[←n,zs7];exact A
 intro F;refine⟨λh=>zCu λk=>k.1 (by rw[n];exact Xq oM),λD=>?_⟩;refine wg (zhr rs λr I=>?_) ?_
 .obtain⟨j,E,e⟩:=Kw I;have K:=vl (rs:=rs) (i:=j) (Xb E);have L:=zat rs (j+1);rw[e]at K;omega
 refine⟨λh=>zCu λk=>h k.2,λo=>?_⟩;have o:kC rs:=Xa.1 o;have b:q≠[]:=λk=>D (by rw[k];rfl)
 have s:zcS rs:=⟨by rw[n];exact b,o⟩
 obtain⟨p0,M,d⟩:∃p t,q=p::t:=by
  cases q with
  |nil=>exact absurd rfl b
  |cons p t=>exact⟨p,t,rfl⟩
 have c:q[0]?=some p0:=by rw[d];rfl
 refine wd<|wb λx u=>?_;have u:x=p0:=Xl ((show q[0]?=some x from u).symm.trans c);rw[u];refine wb λy v=>?_;have v:y=p0:=Xl ((show q[0]?=some y from v).symm.trans c);rw[v];refine wh λG=>?_
 refine⟨Nat,λi=>⟨[(30,i64 i),(29,i64 q.length),(28,.sl ptE q),(7,.loc 3 0),(6,.loc 2 0),(3,.loc 1 0),(2,.loc 0 0)],
  [(3,.box 28 (ptE ((q.take i).foldl mxP p0))),(2,.box 28 (ptE ((q.take i).foldl mnP p0))),(1,.box 28 (ptE zp)),(0,.box 28 (ptE zp))],4,59,0⟩,
  λi=>i<=q.length,λi=>q.length-i,0,Xh _,?_,?_⟩
 .exact zf [0,1,2,3]
 intro i hi;have hi:i<=q.length:=hi;refine⟨λg:(i:Int)<q.length=>?_,λg:¬(i:Int)<q.length=>?_⟩
 .refine wb λz(J:q[i]?=some z)=>?_;have e:∀f:Pt->Pt->Pt,(q.take (i+1)).foldl f p0=f ((q.take i).foldl f p0) z:=λf=>by rw[Xn,J,KX];rfl
  refine wa ?_
  exact⟨i+1,by show i+1<=_;omega,kM [(0,some 0),(1,some 1),(2,some 2),(3,some 3)] rfl rfl rfl ⟨rfl,rfl,rfl,rfl,rfl,rfl,rfl,tV⟩
   ⟨bR ptE (e mxP).symm,bR ptE (e mnP).symm,rfl,rfl,tV⟩,oN⟩
 have B:q.take i=q:=Xi oM;refine wd<|wh ?_
 have w:∀f:Pt->Pt->Pt,(q.take i).foldl f p0=bnd f rs.flatten:=λf=>by
  rw[B,n];unfold bnd;rw[d];rfl
 rw[w,w];unfold pbE loR hiR;rw[Xe s,Xe s];exact zaQ (.C (.C (.cons (zH s) .nil)))
def vg(s:Sc)(i:Int):List LQ:=[vq s i,vT s i,zdu s i]
def zs8{s:Sc}{i:Int}(h:(zT s i).k≠2∨(zT s i).strk.length=0):vT s i=[]:=Xe h
def zmD(t:AF):List BR:=[t.a,t.b,t.c,t.d,t.e,t.f]
def zwD(t:AF)(n:Nat):t.le n↔∀x∈zmD t,x.len<=n:=by
 unfold zmD AF.le;simp
instance instLe51 (t:AF) (n:Nat):Decidable (t.le n):=wi
def zwE(t:AF):CX 16 [wo t] (pr (t.le 12)):=by
 refine zc func16<|⟨BR,brE,zmD t,rfl,wb0 ?_⟩;refine⟨Nat,λi=>⟨[(3,.own 0),(4,i64 i)],[(0,.arr 49 brE 4 (zmD t))],1,42,0⟩,λi=>i<=(zmD t).length/\∀x∈(zmD t).take i,x.len<=12,λi=>(zmD t).length-i,0,⟨Xh _,λx d=>by cases d⟩,zf [1],?_⟩
 rintro i ⟨q,f⟩
 intro n;refine⟨λg:(i:Int)<(zmD t).length=>?_,λg:¬(i:Int)<(zmD t).length=>?_⟩
 .refine wb<|wb λx(d:(zmD t)[i]?=some x)=>?_;have no:¬x.len<=12->¬t.le 12:=λh k=>h ((zwD t 12).1 k x (Xf d))
  intro o;refine⟨λb:(12:Int)<x.num.mag.length=>?_,λb:¬(12:Int)<x.num.mag.length=>?_⟩
  .exact zd (no (by unfold BR.len;omega))
  refine wb<|wb λx' j=>?_;have ex:x'=x:=Xl ((show(zmD t)[i]?=some x' from j).symm.trans d);rw[ex];intro p;refine⟨λc:(12:Int)<x.den.mag.length=>?_,λc:¬(12:Int)<x.den.mag.length=>?_⟩
  .exact zd (no (by unfold BR.len;omega))
  exact wa<|⟨i+1,⟨oM,yz d f (by unfold BR.len;omega)⟩,zf [0],oN⟩
 rw[Xi oM]at f;exact zH ((zwD t 12).2 f)
instance (lo hi p:Pt):Decidable (inB lo hi p):=wi
def q_one:((1:Int):Rat)=1:=rfl
def q_zero:((0:Int):Rat)=0:=rfl
def zoJ{t:AF}{p:Pt}(h:(ku t p).2=0):(ku t p).1=goP t p:=by
 unfold ku at h ⊢
 by_cases b:t.ok
 .rw[kI b]at h ⊢
  by_cases c:zm p
  .rw[kI c]at h ⊢
   by_cases d:zm (goP t p)
   .rw[Xe d]
   rw[Xc d]at h;exact absurd h dC
  rw[Xe c]at h;exact absurd h dC
 rw[Xe b]at h;exact absurd h dC
def zjd{t:AF}:∀{l:LU},zdR t l=0->∀p∈l,(ku t p).2=0
 |p::r,h,q,b=>by
  unfold zdR at h
  by_cases k:(ku t p).2=0
  .rw[qP k]at h
   cases b with
   |head=>exact k
   |tail _ b=>exact zjd h q b
  rw[Xe k]at h;exact absurd h k
def zje{t:AF}:∀{l:LQ},zdS t l=0->∀r∈l,zdR t r=0
 |p::r,h,q,b=>by
  unfold zdS at h
  by_cases k:zdR t p=0
  .rw[qP k]at h
   cases b with
   |head=>exact k
   |tail _ b=>exact zje h q b
  rw[Xe k]at h;exact absurd h k
def zuX{t:AF}(h:(yy rs t).2=0):(yy rs t).1=rs.map (List.map (goP t)):=by
 unfold yy at h ⊢
 by_cases k:kC rs
 .rw[kI k]at h ⊢
  by_cases e:zdS t rs=0
  .rw[qP e];refine KW λr c=>KW λp b=>?_
   exact zoJ (zjd (zje e r c) p b)
  rw[Xe e]at h;exact absurd h e
 rw[Xe k]at h;exact absurd h dC
def zwF{O:St}(f:Nat){T:TypeId}{α:Type}{enc:α->LR}{sz:Nat}{xs:List α}(q:zO O.M f=some (.arr T enc sz xs)):Sub O ⟨O.L,qL O.M f (.garr T sz (xs.map enc)),O.nk,O.nt,O.n0⟩:=by
 refine zvA f q λS Pm Z w ⟨v,cells,g,h,k,n,o,p⟩=>⟨v,cells,g,by rw[Xv];exact h,by rw[Xv];exact k,n,λy b=>?_,λi j y s b z=>?_⟩
 .obtain⟨x,c,rfl⟩:=XK.1 b;exact o x c
 rw[XD]at b
 cases c:xs[i]? with
 |none=>rw[c]at b;cases b
 |some x=>
  rw[c]at b
  cases b
  obtain⟨u,r,t⟩:=p i j x s c z;exact⟨u,r,.d _ _ t⟩
def LEs.d:∀{us bs:LR},LEs us bs->yf.flats bs=true->jd us bs
 |[],[],_,_=>.nil
 |_::_,b::bs,.cons h t,c=>by
  have f:yf b=true/\yf.flats bs=true:=by
   have c:(match yf b with|true=>yf.flats bs|false=>false)=true:=c
   cases f:yf b with
   |true=>rw[f]at c;exact⟨rfl,c⟩
   |false=>rw[f]at c;cases c
  exact .cons (λS w v g=>uY f.1 (h S (λ_=>False) (λ_=>none) w v (.d _ _ g))) (LEs.d t f.2)
def pc1:LR:=i64 1::u8 0::u8 0::u8 0::u8 0::i64 0::i64 0::i64 0::i64 0::i64 0::nil1::i64 0::i64 0::i64 0::nil1::i64 0::um
def uE(_:Unit):LR:=pc1
def zCv:LR:=[i64 0,i64 0,i64 0,i64 0,nS,i64 0,nS,i64 0,i64 0,nS,i64 0]
def zE8:LEs zCv (jb ⟨0,0,0,0,[],0⟩++(.sl qD []::(zi9 ⟨0,0,[]⟩++[i64 0]))):=
 .C (.C (.C (.C (.cons zD (.C (.cons zD (.C (.C (.cons zD (.C .nil))))))))))
def zHV:LEs pc1 (qD (za3 1)):=
 .C (.C (.C (.C (.C (.C (.C (.C (.C (.C (.cons zD (.C (.C (.C (.cons zD (.C zmn)))))))))))))))
end Go.Gs
