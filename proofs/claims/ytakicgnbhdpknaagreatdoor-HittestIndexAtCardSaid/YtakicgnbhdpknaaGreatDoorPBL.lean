/- Scenes, the program's text: Check, Valid, Parent. -/
import Derived.Test.YtakicgnbhdpknaaGreatDoorPBK
set_option maxRecDepth 100000
set_option maxHeartbeats 8000000
set_option linter.all false
namespace Go.Gs
open Proofs.Tryz
open Go.Proofs
def mdN(l:LW):Nat->Int
 |0=>0
 |i+1=>match l[i]? with
  |some n=>if n.k=1 then n.d+1 else n.d
  |none=>0
def zcJ(s:Sc):Prop:=s.ns.length<=64->∀n∈s.ns,zl4 n
variable{l:LW}{i:Nat}
def zuq{n:Nd}(h:l[i]?=some n)(g:0<=n.d):jJ l i n↔¬mdN l i<n.d:=by
 cases i with
 |zero=>
  unfold jJ mdN;rw[show l[0-1]?=some n from h];show n.d=0↔¬0<n.d;omega
 |succ i=>
  obtain⟨p,b⟩:∃p,l[i]?=some p:=⟨_,Xb (by have:=(Xd.1 h).1;omega)⟩;have f:jJ l (i+1) n=(if i+1=0 then n.d=0 else(p.k=1/\n.d=p.d+1)∨n.d<=p.d):=by unfold jJ;rw[show l[i+1-1]?=some p from b]
  have c:mdN l (i+1)=if p.k=1 then p.d+1 else p.d:=by
   show(match l[i]? with|some n=>if n.k=1 then n.d+1 else n.d|none=>0)=_;rw[b]
  rw[f,c,Xc (Nat.succ_ne_zero i)]
  split <;> omega
def zyb(r:Int×Int):SV:=.tup [i64 r.1,i64 r.2]
def zaF{s:Sc}(h:zfP s):LE (.tup [i64 6,i64 0]) (zyb (zjI s)):=by rw[zjI,Xe h];exact .refl
def zof{s:Sc}(b:¬zfP s)(c:64<s.ns.length):LE (.tup [i64 5,i64 64]) (zyb (zjI s)):=by rw[zjI,Xc b,Xe c];exact .refl
variable{x:Nd}{e:Int}
def zj7{s:Sc}(d:¬zfP s)(f:¬64<s.ns.length)(b:s.ns[i]?=some x)(h:∀j,j<i->uF s.ns j=0)(g:zhF s.ns i x=e)(c:e≠0):LE (.tup [i64 e,i64 i]) (zyb (zjI s)):=by
 have ee:=zdk b;rw[g]at ee;rw[zjI,Xc d,Xc f,zD6 (Xd.1 b).1 h (by rw[ee];exact c)];show LE _ (.tup [i64 (uF s.ns i),i64 i]);rw[ee];exact .refl
def zvY{s:Sc}(b:¬zfP s)(c:¬64<s.ns.length)(d:∀j,j<s.ns.length->uF s.ns j=0):LE (.tup [i64 0,i64 0]) (zyb (zjI s)):=by
 rw[zjI,Xc b,Xc c,zx8 d];exact .refl
def zBz(h:l[i]?=some x):(l.take (i+1)).map Nd.id=(l.take i).map Nd.id++[x.id]:=by
 rw[Xm,h,XA];rfl
def zsv(h:¬ua x=0):zhF l i x=ua x:=Xe h
def zsw(h:ua x=0)(k:x.id∈(l.take i).map Nd.id):zhF l i x=7:=by unfold zhF;rw[Xc (λq=>q h),Xe k]
def zmb(h:ua x=0)(k:x.id∉(l.take i).map Nd.id)(d:¬jJ l i x):zhF l i x=17:=by unfold zhF;rw[Xc (λq=>q h),Xc k,Xe d]
def zvZ(h:ua x=0)(k:x.id∉(l.take i).map Nd.id)(d:jJ l i x):zhF l i x=0:=by unfold zhF;rw[Xc (λq=>q h),Xc k,Xc (λq=>q d)]
def zog(d:l[i]?=some x)(f:∀j,j<i->uF l j=0)(b:zhF l i x=0):∀j,j<i+1->uF l j=0:=λj g=>by
 by_cases c:j=i
 .rw[c,zdk d,b]
 exact f j oM
def zD8(s:Sc)(ht:zcJ s):CX 55 [wq s] (zyb (zjI s)):=by
 refine zc func55<|Br.mk (λh=>zaF (.inl h)) (λz=>?_);refine⟨λh=>zaF (.inr (.inl h)),λA=>?_⟩;refine⟨λh=>zaF (.inr (.inr (.inl h))),λB=>?_⟩;refine⟨λh=>zaF (.inr (.inr (.inr h))),λC=>?_⟩;have o:¬zfP s:=λk=>k.elim z λk=>k.elim A λk=>k.elim B C
 intro E;refine⟨λh=>zof o oM,λH=>?_⟩;have t:¬64<s.ns.length:=oM;have ht:=ht oM;intro F
 refine⟨Nat,λi=>⟨[(35,i64 i),(34,i64 s.ns.length),(33,.sl ndE s.ns),(5,i64 (mdN s.ns i)),(4,.own 1),(1,.loc 0 0)],
  [(1,.map (zp0 ((s.ns.take i).map Nd.id))),(0,.box 26 (scE s))],2,67,0⟩,λi=>i<=s.ns.length/\∀j,j<i->uF s.ns j=0,λi=>s.ns.length-i,0,⟨Xh _,λj h=>by omega⟩,zf [0,1],?_⟩
 rintro i ⟨hi,p⟩
 refine⟨λg:(i:Int)<s.ns.length=>?_,λg:¬(i:Int)<s.ns.length=>?_⟩
 .refine wb λx(c:s.ns[i]?=some x)=>?_;have G:=Xf c;refine wg (zD5 x (ht x G))<|⟨λh=>zj7 o t c p (zsv h) h,λf=>?_⟩;have f:ua x=0:=Xa.1 f;refine zya (n:=x.id) (ks:=(s.ns.take i).map Nd.id) (λ_ _ _ a b=>Br.mk a b) (λh=>?_) (λv=>?_)
  .exact zj7 o t c p (zsw f h) dC
  have y:=zuq c (zcI f).2.1.1;have I:=(zcI f).2.1;refine⟨λh=>zj7 o t c p (zmb f v (λq=>y.1 q h)) dC,λD=>?_⟩;have r:=zog c p (zvZ f v (y.2 D));refine zsu v ?_;have em:zp0 ((s.ns.take i).map Nd.id++[x.id])=zp0 ((s.ns.take (i+1)).map Nd.id):=by rw[zBz c]
  refine⟨λw=>?_,λw=>?_⟩
  .have u:x.d+1=mdN s.ns (i+1):=by show _=(match s.ns[i]? with|some n=>if n.k=1 then n.d+1 else n.d|none=>0);rw[c];exact(Xe w).symm
   (iterate 2 refine wa ?_);exact⟨i+1,⟨oM,r⟩,zP [0,1] ⟨rfl,rfl,rfl,iR u,rfl,rfl,tV⟩ ⟨Xg (λq=>some (Mem.map q)) em,rfl,tV⟩,oN⟩
  have u:x.d=mdN s.ns (i+1):=by show _=(match s.ns[i]? with|some n=>if n.k=1 then n.d+1 else n.d|none=>0);rw[c];exact(Xc w).symm
  exact wa<|⟨i+1,⟨oM,r⟩,zP [0,1] ⟨rfl,rfl,rfl,iR u,rfl,rfl,tV⟩ ⟨Xg (λq=>some (Mem.map q)) em,rfl,tV⟩,oN⟩
 exact zvY o t λj J=>p j oM
def zhH(s:Sc)(ht:zcJ s):CX 30 [wq s] (pr (qy s)):=by
 exact zc func30<|wg (zD8 s ht)<|zB Qj
def zBA(s:Sc)(i:Int)(ht:zcJ s):CX 51 [wq s,i64 i] (pr (inS s i)):=by
 refine zc func51<|Br.mk (λb=>?_) (λb=>zd λk=>b k.2.1);intro d;refine⟨λc=>?_,λc=>zd λk=>c k.2.2⟩;exact wg (zhH s ht)<|zB ⟨λh=>⟨h,b,c⟩,λk=>k.1⟩
def parS(s:Sc)(i:Int):Int:=if inS s i then yl (zI s.ns) i.toNat else-1
def zBB(l:LW)(i:Nat)(n:Nd)(b:l[i]?=some n)(p:∀n∈l,0<=n.d/\n.d<8)(s:l.length<=64):CX 52 [.sl ndE l,i64 i] (i64 (yl (zI l) i)):=by
 have hi:=(Xd.1 b).1;have eg:(zI l).getD i 0=n.d:=by rw[Xr,yT b];rfl
 have ep:yl (zI l) i=yA (zI l) (n.d-1) i:=by unfold yl;rw[eg]
 have r:=p n (Xf b);refine zc func52<|wa<|⟨Nat,λm=>⟨[(5,i64 ((m:Int)-1)),(1,i64 i),(0,.sl ndE l)],[],0,25,0⟩,λm=>m<=i/\yA (zI l) (n.d-1) m=yl (zI l) i,λm=>m,i,⟨Xj _,ep.symm⟩,?_,?_⟩
 .exact zC []
 rintro m ⟨t,c⟩
 refine⟨λg:0<=(m:Int)-1=>?_,λg:¬0<=(m:Int)-1=>?_⟩
 .obtain⟨k,rfl⟩:∃k,m=k+1:=⟨m-1,oM⟩;refine wc<|wb λx f=>?_;have f:l[k]?=some x:=by rw[←f];congr 1;omega
  refine wb λy j=>?_;have j:y=n:=Xl ((show l[i]?=some y from j).symm.trans b);rw[j];refine wa ?_;have o:=yT f;refine⟨λh=>?_,λh=>?_⟩
  .refine ze ?_;rw[←c];unfold yA;rw[o,Xe (by rw[h])];omega
  refine wa<|⟨k,⟨oM,?_⟩,jo [] ⟨iR oM,rfl,rfl,tV⟩ trivial,oN⟩;rw[←c]
  conv=>rhs;unfold yA
  rw[o,Xc (λq=>h (Xl q))]
 obtain rfl:m=0:=oM;exact ze c
def uP{s:Sc}{i:Int}(h:inS s i):∃n,s.ns[i.toNat]?=some n:=⟨_,Xb (by have:=h.2;omega)⟩
def yH{s:Sc}(h:qy s):∀n∈s.ns,0<=n.d/\n.d<8:=λn c=>by
 obtain⟨j,b,e⟩:=Ks c;exact(zcI (zbL h (e ▸ Xb b)).1).2.1
def yw{s:Sc}(h:qy s):s.ns.length<=64:=(zl9.1 h).2.1
def zBC(s:Sc)(i:Int)(ht:zcJ s):CX 169 [wq s,i64 i] (i64 (parS s i)):=by
 refine zc func169<|wg (zBA s i ht)<|⟨λh=>ze (Xc h).symm,λh=>?_⟩;have h:inS s i:=Xa.1 h;obtain⟨n,c⟩:=uP h;have b:=zBB s.ns i.toNat n c (yH h.1) (yw h.1);rw[show((i.toNat:Nat):Int)=i by have:=h.2.1;omega]at b;exact wg b<|ze (Xe h).symm
def zBE(n:Int):CX 204 [i64 n] (pr (zdh n)):=by
 refine zc func204<|Br.mk (λh=>?_) (λh=>?_)
 .exact zH (.inl h)
 exact zB ⟨.inr,λk=>k.resolve_left h⟩
def zv0(n:Nd):CX 208 [ww n] (pr (zcF n)):=by
 refine zc func208<|Br.mk (λb=>?_) (λb=>zd λk=>b k.1);refine⟨λc=>?_,λc=>zd λk=>c k.2.1⟩;refine⟨λd=>?_,λd=>zd λk=>d (by rw[k.2.2.1];decide)⟩;exact zB ⟨λh=>⟨b,c,by simpa using d,by simpa using h⟩,λk=>by rw[k.2.2.2];decide⟩
def zv1(n:Nd):CX 205 [ww n] (pr (zdC n)):=by
 refine zc func205 λf=>?_;refine⟨λc=>?_,λc=>zd λk=>c (by have:=k.1;omega)⟩;refine⟨λb=>?_,λb=>zd λk=>b k.2.1⟩;intro g;refine⟨λd=>?_,λd=>zd λk=>d (by have:=k.2.2.1;omega)⟩;intro j;exact zB ⟨λh=>⟨oM,b,oM,oM⟩,λk=>by have:=k.2.2.2;omega⟩
def zp1(n:Nd):CX 206 [ww n] (pr (un n.pen)):=by
 refine zc func206<|Br.mk (λc=>?_) (λc=>zd λk=>c k.1);refine⟨λf=>?_,λf=>zd λk=>f k.2.1⟩;refine⟨λg=>?_,λg=>zd λk=>g k.2.2.1⟩;refine⟨λj=>?_,λj=>zd λk=>j k.2.2.2.1⟩;intro o;refine⟨λb=>?_,λb=>zd λk=>b (by rw[k.2.2.2.2.1];rfl)⟩;have b:n.pen.d.length=0:=oM;exact zB ⟨λh=>⟨c,f,g,j,XP.1 b,h⟩,λk=>k.2.2.2.2.2⟩
def zv2(n:Nd):CX 207 [ww n] (pr (zcG n)):=by
 refine zc func207<|Br.mk (λb=>?_) (λb=>zd λk=>b k.1);refine⟨λc=>?_,λc=>zd λk=>c k.2.1⟩;intro f;refine⟨λd=>?_,λd=>zd λk=>d (by have:=k.2.2.1;omega)⟩;exact zB ⟨λh=>⟨b,c,oM,h⟩,λk=>k.2.2.2⟩
def zGZ(n:Nd):CX 136 [ww n] (pr (zhE n)):=by
 have bad:¬u9 n->LE (bl false) (pr (zhE n)):=λh=>zd λk=>h k.1
 refine zc2 tok func136 rfl rfl rfl (zdH.cut tok mix 2 (λ_:Unit=>⟨[(1,.loc 0 0)],[(0,.box 66 (ndE n))],1,56,0⟩) (λ_=>u9 n) ?_ λ_ j=>zdH.vc tok mix ?_)
 .intro r;refine⟨λq=>?_,λq=>?_⟩
  .refine⟨λd=>bad λk=>k.elim (λk=>d k.2) λk=>by have:=k.1;omega,λd=>?_⟩;intro o;refine⟨λf=>?_,λf=>⟨(),.inl ⟨oM,Xa.1 d⟩,zf [0]⟩⟩;omega
  intro o;refine⟨λf=>?_,λf=>?_⟩
  .refine wg (zBE n.cr)<|⟨λg=>bad λk=>k.elim (λk=>by have:=k.1;omega) λk=>g k.2,λg=>?_⟩;exact⟨(),.inr ⟨oM,Xa.1 g⟩,zf [0]⟩
  omega
 refine⟨λc=>?_,λc=>?_⟩
 .have e:zhE n↔(zdC n/\un n.pen)/\zcG n:=by unfold zhE;rw[Xe c];exact⟨λh=>h.2,λh=>⟨j,h⟩⟩
  refine wg (zv1 n)<|⟨λa=>?_,λa=>zd λk=>a (e.1 k).1.1⟩;refine wg (zp1 n)<|⟨λb=>?_,λb=>zd λk=>b (e.1 k).1.2⟩;exact wg (zv2 n)<|zB ⟨λh=>e.2 ⟨⟨a,b⟩,h⟩,λk=>(e.1 k).2⟩
 refine⟨λp=>?_,λp=>?_⟩
 .have e:zhE n↔zcF n/\zcG n:=by unfold zhE;rw[Xc c,Xe p];exact⟨λh=>h.2,λh=>⟨j,h⟩⟩
  refine wg (zv0 n)<|⟨λa=>?_,λa=>zd λk=>a (e.1 k).1⟩;exact wg (zv2 n)<|zB ⟨λh=>e.2 ⟨a,h⟩,λk=>(e.1 k).2⟩
 have e:zhE n↔zcF n/\zdC n/\un n.pen:=by unfold zhE;rw[Xc c,Xc p];exact⟨λh=>h.2,λh=>⟨j,h⟩⟩
 refine wg (zv0 n)<|⟨λa=>?_,λa=>zd λk=>a (e.1 k).1⟩;refine wg (zv1 n)<|⟨λb=>?_,λb=>zd λk=>b (e.1 k).2.1⟩;exact wg (zp1 n)<|zB ⟨λh=>e.2 ⟨a,b,h⟩,λk=>(e.1 k).2.2⟩
def zsy(xs:LY)(ht:zfO xs):CX 209 [.sl yG xs] (pr (uD xs)):=by
 refine zc func209<|⟨Int,λi=>⟨[(3,i64 i),(0,.sl yG xs)],[],0,16,0⟩,λi=>0<=i/\i<=xs.length/\∀(j:Nat) q,(j:Int)<i->xs[j]?=some q->vL q,λi=>((xs.length:Int)-i).toNat,0,?_,?_,?_⟩
 .exact⟨oM,oM,λj q c=>by omega⟩
 .exact zC []
 rintro i ⟨t,u,g⟩
 intro o;refine⟨λh=>?_,λh=>?_⟩
 .refine wb λx f=>?_;have r:=ht x (Xf f);refine wg (zsx x r.1)<|⟨λb=>zd λk=>b (k x (Xf f)),λb=>?_⟩;refine wa<|⟨i+1,⟨oM,oM,λj q c d=>?_⟩,zC [],oN⟩
  by_cases e:j=i.toNat
  .subst e;rw[f]at d;cases d;exact Xa.1 b
  exact g j q oM d
 refine zH λp s=>?_
 obtain⟨j,c,n⟩:=Ks s;exact g j p oM (by rw[←n];exact Xb c)
def zEa(n:Nd)(y:zfO n.fill)(z:zfO n.strk):CX 137 [ww n] (i64 (vM n)):=by
 refine zc func137<|wg (zg4 n.path)<|⟨λb=>ze (by unfold vM;rw[Xe b]),λb=>?_⟩;refine wg (zBE n.rule)<|⟨λc=>ze (by unfold vM;rw[Xc b,Xe c]),λc=>?_⟩;intro t;refine⟨λr=>ze (by unfold vM;rw[Xc b,Xc c,Xe (.inl oM)]),λr=>?_⟩;intro u;refine⟨λs=>ze (by unfold vM;rw[Xc b,Xc c,Xe (.inr oM)]),λs=>?_⟩;have d:¬(1<n.fill.length∨1<n.strk.length):=oM;intro v;refine⟨λq=>?_,λq=>?_⟩
 all_goals first
  |(refine wg (zc9 n.pen) ?_;refine⟨λh=>ze (by unfold vM;rw[Xc b,Xc c,Xc d,Xe ⟨oM,h⟩]),λh=>?_⟩;have f:¬(0<n.strk.length/\¬kE n.pen):=λk=>h k.2)
  |have f:¬(0<n.strk.length/\¬kE n.pen):=λk=>q (by have:=k.1;omega)
 all_goals intro w
 all_goals refine⟨λc1=>?_,λc1=>?_⟩
 all_goals first
  |(refine wg (zp1 n) ?_;refine⟨λj=>ze (by unfold vM;rw[Xc b,Xc c,Xc d,Xc f,Xe ⟨oM,j⟩]),λj=>?_⟩;have g:¬(n.strk.length=0/\¬un n.pen):=λk=>j k.2)
  |have g:¬(n.strk.length=0/\¬un n.pen):=λk=>c1 (by have:=k.1;omega)
 all_goals refine wg (zsy n.fill y) ?_
 all_goals refine⟨λo=>ze (by unfold vM;rw[Xc b,Xc c,Xc d,Xc f,Xc g];exact(Xe (Or.inl o)).symm),λo=>?_⟩
 all_goals refine wg (zsy n.strk z) ?_
 all_goals refine⟨λp=>ze (by unfold vM;rw[Xc b,Xc c,Xc d,Xc f,Xc g];exact(Xe (Or.inr p)).symm),λp=>ze (by unfold vM;rw[Xc b,Xc c,Xc d,Xc f,Xc g];exact(Xc (λk=>k.elim o p)).symm)⟩
def zEb(n:Nd)(h:zl4 n):CX 98 [ww n] (i64 (ua n)):=by
 obtain⟨ht,C,D,E⟩:=h;refine zc func98<|Br.mk (λv=>ze (by unfold ua;rw[Xe (.inl v)])) (λv=>?_);refine⟨λw=>ze (by unfold ua;rw[Xe (.inr w)]),λw=>?_⟩;have b:¬(n.k<1∨3<n.k):=oM;refine⟨λy=>ze (by unfold ua;rw[Xc b,Xe oM]),λy=>?_⟩;refine⟨λz=>ze (by unfold ua;rw[Xc b,Xe oM]),λz=>?_⟩;refine⟨λA=>ze (by unfold ua;rw[Xc b,Xe oM]),λA=>?_⟩
 refine⟨λB=>ze (by unfold ua;rw[Xc b,Xe oM]),λB=>?_⟩;have g:¬(n.id<1∨1073741824<n.id∨n.d<0∨8<=n.d):=oM;refine wg (zct n.t (ht.up dC)) ?_;refine⟨λf=>ze (by unfold ua;rw[Xc b,Xc g,Xe f]),λf=>?_⟩;refine wg (zvi n.t (ht.up dC)) ?_;refine wg (yE 0 (by constructor <;> decide)) ?_;have p:=zzR (ofQ (zbO n.t)) (ofQ ((0:Int):Rat)) (by have:=zhD ht;rw[zF];omega) (by decide +kernel);rw[kw,kw]at p;refine wg p ?_
 refine⟨λc=>ze (by unfold ua;rw[Xc b,Xc g,Xc f,Xe ((Yw.1 (uM _)).1 c)]),λc=>?_⟩;have c:¬zbO n.t=0:=(uM _).1 c;refine wg (zg4 n.clip)<|⟨λj=>ze (by unfold ua;rw[Xc b,Xc g,Xc f,Xc c,Xe j]),λj=>?_⟩;refine wg (zGZ n)<|⟨λo=>ze (by unfold ua;rw[Xc b,Xc g,Xc f,Xc c,Xc j,Xe o]),λo=>?_⟩;refine⟨λr=>?_,λr=>?_⟩
 .exact wg (zEa n C D)<|ze (by unfold ua;rw[Xc b,Xc g,Xc f,Xc c,Xc j,Xc o,Xc oM,Xe r])
 refine⟨λq=>?_,λq=>?_⟩
 .exact wg (zGS n.mode)<|⟨λm=>ze (by unfold ua;rw[Xc b,Xc g,Xc f,Xc c,Xc j,Xc o,Xe q];exact(Xe m).symm),λm=>ze (by unfold ua;rw[Xc b,Xc g,Xc f,Xc c,Xc j,Xc o,Xe q];exact(Xc m).symm)⟩
 refine wg (zlZ n.im)<|⟨λm=>ze (by unfold ua;rw[Xc b,Xc g,Xc f,Xc c,Xc j,Xc o,Xc q,Xc r,Xe m]),λm=>?_⟩;refine⟨λs=>?_,λs=>ze (by unfold ua;rw[Xc b,Xc g,Xc f,Xc c,Xc j,Xc o,Xc q,Xc r,Xc m,Xc (λk=>s k.1)])⟩
 exact⟨λu=>ze (by unfold ua;rw[Xc b,Xc g,Xc f,Xc c,Xc j,Xc o,Xc q,Xc r,Xc m,Xe ⟨s,u⟩]),λu=>ze (by unfold ua;rw[Xc b,Xc g,Xc f,Xc c,Xc j,Xc o,Xc q,Xc r,Xc m,Xc (λk=>u k.2)])⟩
def zmc(l:LW)(id:Int):Int:=match l.findIdx? (λn=>n.id=id) with|some i=>i|none=> -1
def zBF{id:Int}(h:∀(j:Nat) q,j<i->l[j]?=some q->q.id≠id)(d:l[i]?=some x)(b:x.id=id):zmc l id=i:=by
 have:l.findIdx? (λn=>n.id=id)=some i:=by
  rw[KN];have hi:=(Xd.1 d);refine⟨hi.1,by rw[hi.2];simpa using b,λj c=>?_⟩;have:=h j _ c (Xb (by have:=hi.1;omega))
  simpa using this
 unfold zmc;rw[this]
def zmd{id:Int}(h:∀p∈l,p.id≠id):zmc l id= -1:=by
 have:l.findIdx? (λn=>n.id=id)=none:=by
  rw[Kz];intro p b;simpa using h p b
 unfold zmc;rw[this]
def zsz{id:Int}:0<=zmc l id↔id∈l.map Nd.id:=by
 by_cases h:∀p∈l,p.id≠id
 .rw[zmd h];refine⟨λk=>by omega,λk=>?_⟩;obtain⟨p,c,e⟩:=XN.1 k;exact absurd e (h p c)
 unfold zmc
 cases b:l.findIdx? (λn=>n.id=id) with
 |some i=>
  refine⟨λ_=>?_,λ_=>Int.natCast_nonneg i⟩;rw[KN]at b;obtain⟨hi,d,_⟩:=b;exact XN.2 ⟨l[i],X2 hi,by simpa using d⟩
 |none=>rw[Kz]at b;exact absurd (λp c=>by simpa using b p c) h
def zG0(l:LW)(id:Int):CX 99 [.sl ndE l,i64 id] (i64 (zmc l id)):=by
 refine zc func99<|⟨Nat,λi=>⟨[(5,i64 i),(1,i64 id),(0,.sl ndE l)],[],0,20,0⟩,λi=>i<=l.length/\∀(j:Nat) q,j<i->l[j]?=some q->q.id≠id,λi=>l.length-i,0,⟨Xh _,λj q h=>by omega⟩,?_,?_⟩
 .exact zC []
 rintro i ⟨r,b⟩
 intro n;refine⟨λg:(i:Int)<l.length=>?_,λg:¬(i:Int)<l.length=>?_⟩
 .refine wb λx(k:l[i]?=some x)=>?_;refine⟨λh=>ze (zBF b k h).symm,λh=>?_⟩;refine wa<|⟨i+1,⟨oM,λj q f d=>?_⟩,zC [],oN⟩
  by_cases c:j=i
  .subst c;rw[k]at d;cases d;exact h
  exact b j q oM d
 refine ze (zmd λp o=>?_).symm;obtain⟨j,f,e⟩:=Ks o;exact b j p oM (by rw[←e];exact Xb f)
def zBG{n:Nd}(h:l[0]?=some n):jJ l 0 n↔n.d=0:=by
 unfold jJ;rw[show l[0-1]?=some n from h];exact Qj
def zBH{l:LW}{i:Nat}{n p:Nd}(b:l[i]?=some p):jJ l (i+1) n↔(p.k=1/\n.d=p.d+1)∨n.d<=p.d:=by
 unfold jJ;rw[show l[i+1-1]?=some p from b];exact Qj
def zBI(l:LW)(i:Nat)(n:Nd)(o:l[i]?=some n)(v:∀j p,j<i->l[j]?=some p->0<=p.d/\p.d<8)(A:l.length<=64):
  CX 100 [.sl ndE l,i64 i] (pr (jJ l i n)):=by
 have hi:=(Xd.1 o).1;refine zc func100<|Br.mk (λg=>?_) (λg=>?_)
 .have g:(i:Int)=0:=g;obtain rfl:i=0:=oM;refine wb λx f=>?_;have f:x=n:=Xl ((show l[0]?=some x from f).symm.trans o);rw[f];exact zB (zBG o).symm
 have g:¬(i:Int)=0:=g;obtain⟨k,rfl⟩:∃k,i=k+1:=⟨i-1,oM⟩;obtain⟨p,r⟩:∃p,l[k]?=some p:=⟨_,Xb oM⟩;have w:=v k p oM r;have s:=zBH (n:=n) r;refine wc<|wa<|wb λx f=>?_;have f:x=p:=Xl ((show l[k]?=some x by rw[←f];congr 1;omega).symm.trans r);rw[f];refine⟨λt=>?_,λt=>?_⟩
 .refine wb λy b=>?_;have b:y=n:=Xl ((show l[k+1]?=some y by rw[←b];congr 1).symm.trans o);rw[b];refine wa<|wb λz c=>?_;have c:z=p:=Xl ((show l[k]?=some z by rw[←c];congr 1;omega).symm.trans r);rw[c];refine wa<|Br.mk (λu=>zH (s.2 (.inl ⟨t,u⟩))) (λu=>?_);refine wc<|wb λy b=>?_;have b:y=n:=Xl ((show l[k+1]?=some y by rw[←b];congr 1).symm.trans o);rw[b];refine wa<|wb λz c=>?_
  have c:z=p:=Xl ((show l[k]?=some z by rw[←c];congr 1;omega).symm.trans r);rw[c];exact zB ⟨λh=>s.2 (.inr h),λh=>(s.1 h).resolve_left λq=>u q.2⟩
 refine wc<|wb λy b=>?_;have b:y=n:=Xl ((show l[k+1]?=some y by rw[←b];congr 1).symm.trans o);rw[b];refine wa<|wb λz c=>?_;have c:z=p:=Xl ((show l[k]?=some z by rw[←c];congr 1;omega).symm.trans r);rw[c];exact zB ⟨λh=>s.2 (.inr h),λh=>(s.1 h).resolve_left λq=>t q.1⟩
def zEc(l:LW)(i:Nat)(n:Nd)(f:l[i]?=some n)(ht:zl4 n)(r:∀j p,j<i->l[j]?=some p->0<=p.d/\p.d<8)(s:l.length<=64):
  CX 63 [.sl ndE l,i64 i] (i64 (zhF l i n)):=by
 have hi:=(Xd.1 f).1;refine zc func63<|wb λx g=>?_;have g:x=n:=Xl ((show l[i]?=some x from g).symm.trans f);rw[g];refine wg (zEb n ht)<|⟨λh=>ze (zsv h).symm,λb=>?_⟩;have b:ua n=0:=Xa.1 b;refine wc<|Ob.mk ⟨oM,λ_ _=>rfl⟩<|wb λy o=>?_;have o:y=n:=Xl ((show l[i]?=some y from o).symm.trans f);rw[o]
 have e:(l.drop (0:Int).toNat).take ((i:Int)-0).toNat=l.take i:=by rw[show(0:Int).toNat=0 from rfl,Qc];congr 1
 refine wg (zG0 ((l.drop (0:Int).toNat).take ((i:Int)-0).toNat) n.id) ?_;rw[e];refine⟨λh=>ze (zsw b (zsz.1 h)).symm,λc=>?_⟩;have c:n.id∉(l.take i).map Nd.id:=λk=>c (zsz.2 k)
 refine wg (zBI l i n f r s)<|⟨λh=>ze (zmb b c h).symm,λq=>?_⟩;exact ze (zvZ b c (Xa.1 q)).symm
def zBJ(s:Sc)(ht:zcJ s):CX 36 [wq s] (zyb (zjI s)):=by
 refine zc func36<|Br.mk (λh=>zaF (.inl h)) (λq=>?_);refine⟨λh=>zaF (.inr (.inl h)),λr=>?_⟩;refine⟨λh=>zaF (.inr (.inr (.inl h))),λt=>?_⟩;refine⟨λh=>zaF (.inr (.inr (.inr h))),λu=>?_⟩;have f:¬zfP s:=λk=>k.elim q λk=>k.elim r λk=>k.elim t u
 intro y;refine⟨λh=>zof f oM,λC=>?_⟩;have o:¬64<s.ns.length:=oM;have ht:=ht oM;refine⟨Nat,λi=>⟨[(4,i64 i),(1,.loc 0 0)],[(0,.box 26 (scE s))],1,43,0⟩,λi=>i<=s.ns.length/\∀j,j<i->uF s.ns j=0,λi=>s.ns.length-i,0,⟨Xh _,λj h=>by omega⟩,zf [0],?_⟩
 rintro i ⟨hi,c⟩
 intro z;refine⟨λg:(i:Int)<s.ns.length=>?_,λg:¬(i:Int)<s.ns.length=>?_⟩
 .obtain⟨x,b⟩:∃x,s.ns[i]?=some x:=⟨_,Xb oM⟩;have A:=Xf b
  have w:∀j p,j<i->s.ns[j]?=some p->0<=p.d/\p.d<8:=λj p n B=>by
   have:=c j n;rw[zdk B]at this;exact(zcI (zod this).1).2.1
  refine wg (zEc s.ns i x b (ht x A) w oM)<|⟨λh=>zj7 f o b c rfl h,λv=>?_⟩;exact wa<|⟨i+1,⟨oM,zog b c (Xa.1 v)⟩,zf [0],oN⟩
 exact zvY f o λj n=>c j oM
def zaG(s:Sc)(ht:zcJ s):CX 18 [wq s] (pr (qy s)):=by
 exact zc func18<|wg (zBJ s ht)<|zB Qj
def zsA(s:Sc)(i:Int)(ht:zcJ s):CX 53 [wq s,i64 i] (pr (inS s i)):=by
 refine zc func53<|wg (zaG s ht)<|⟨λb=>?_,λb=>zd λk=>b k.1⟩;refine⟨λc=>?_,λc=>zd λk=>c k.2.1⟩;intro d;exact zB ⟨λh=>⟨b,c,h⟩,λk=>k.2.2⟩
def zBK(l:LW)(i:Nat)(n:Nd)(b:l[i]?=some n)(p:∀n∈l,0<=n.d/\n.d<8)(s:l.length<=64):CX 54 [.sl ndE l,i64 i] (i64 (yl (zI l) i)):=by
 have hi:=(Xd.1 b).1;have eg:(zI l).getD i 0=n.d:=by rw[Xr,yT b];rfl
 have ep:yl (zI l) i=yA (zI l) (n.d-1) i:=by unfold yl;rw[eg]
 have r:=p n (Xf b);refine zc func54<|wa<|⟨Nat,λm=>⟨[(5,i64 ((m:Int)-1)),(1,i64 i),(0,.sl ndE l)],[],0,25,0⟩,λm=>m<=i/\yA (zI l) (n.d-1) m=yl (zI l) i,λm=>m,i,⟨Xj _,ep.symm⟩,?_,?_⟩
 .exact zC []
 rintro m ⟨t,c⟩
 refine⟨λg:0<=(m:Int)-1=>?_,λg:¬0<=(m:Int)-1=>?_⟩
 .obtain⟨k,rfl⟩:∃k,m=k+1:=⟨m-1,oM⟩;refine wc<|wb λx f=>?_;have f:l[k]?=some x:=by rw[←f];congr 1;omega
  refine wb λy j=>?_;have j:y=n:=Xl ((show l[i]?=some y from j).symm.trans b);rw[j];refine wa ?_;have o:=yT f;refine⟨λh=>?_,λh=>?_⟩
  .refine ze ?_;rw[←c];unfold yA;rw[o,Xe (by rw[h])];omega
  refine wa<|⟨k,⟨oM,?_⟩,jo [] ⟨iR oM,rfl,rfl,tV⟩ trivial,oN⟩;rw[←c]
  conv=>rhs;unfold yA
  rw[o,Xc (λq=>h (Xl q))]
 obtain rfl:m=0:=oM;exact ze c
def jj(s:Sc)(i:Int):LV:=if inS s i then((qH (zI s.ns) i).reverse).map (λk:Nat=>(k:Int)) else[]
variable{m:Nat}{a:Nat}
def zBL{c:LC}{d:Nat}(f:c.length=d+1)(g:m<=d)(b:c[d-m]?=some a):c.reverse.take (m+1)=c.reverse.take m++[a]:=by
 have:c.reverse[m]?=some a:=by
  rw[QV oM,←b];congr 1;omega
 rw[Xm,this];rfl
def zaV(l:LC):LV:=l.map (λk:Nat=>(k:Int))
def zEd(s:Sc)(i:Int)(ht:zcJ s):CG0 29 [wq s,i64 i] [] (.own 0) [(0,.arr 3 zM 1 (jj s i))]:=by
 refine qA tok mix func29 rfl rfl rfl<|⟨Int,zM,[],rfl,wb2 ?_⟩;refine wg (zsA s i ht)<|⟨λh=>⟨some 1,.own 1 rfl,aR (show[]=jj s i from(Xc h).symm),λ_ _=>rfl⟩,λh=>?_⟩;have h:inS s i:=Xa.1 h;obtain⟨n,c⟩:=uP h;obtain⟨i,rfl⟩:∃k:Nat,i=(k:Int):=⟨i.toNat,by have:=h.2.1;omega⟩;have c:s.ns[i]?=some n:=c;have p:=yH h.1;have K:=yw h.1;have v:=zaE h.1;have L:=p n (Xf c)
 obtain⟨d,u⟩:∃d:Nat,n.d=(d:Int):=⟨n.d.toNat,oM⟩;have hD:(zI s.ns)[i]?=some (d:Int):=by rw[yT c,u]
 have b:=zfo v hD;have G:jj s i=zaV ((qH (zI s.ns) i).reverse):=Xe h;have J:=(Xd.1 c).1
 refine⟨Nat,λm=>⟨[(6,i64 m),(5,.own 1),(2,.loc 0 0),(1,i64 i)],[(1,.arr 3 zM 1 (zaV ((qH (zI s.ns) i).reverse.take m))),(0,.box 26 (scE s))],2,42,0⟩,
  λm=>m<=d+1,λm=>d+1-m,0,Xh _,zf [0,1],?_⟩
 intro m E;have E:m<=d+1:=E;refine wb λx r=>?_;have r:x=n:=Xl ((show s.ns[i]?=some x from r).symm.trans c);rw[r];refine⟨λg:(m:Int)<=n.d=>?_,λg:¬(m:Int)<=n.d=>?_⟩
 .rw[u]at g;have F:(qH (zI s.ns) i)[0]?=some i:=by rw[jy];rfl
  refine⟨Nat×Nat,λz=>⟨[(7,i64 (z.2:Int)),(6,i64 m),(5,.own 1),(2,.loc 0 0),(1,i64 i)],[(1,.arr 3 zM 1 (zaV ((qH (zI s.ns) i).reverse.take m))),(0,.box 26 (scE s))],2,42,0⟩,
   λz=>z.1<=d-m/\(qH (zI s.ns) i)[z.1]?=some z.2,λz=>d-z.1,(0,i),⟨Xh _,F⟩,zf [0,1],?_⟩
  rintro⟨k,a⟩ ⟨D,f⟩
  have D:k<=d-m:=D;have f:(qH (zI s.ns) i)[k]?=some a:=f;have o:=ziQ v hD f;obtain⟨y,B,t⟩:=zal o;have I:=(Xd.1 B).1;dsimp only;refine wb λw A=>?_;have A:w=y:=Xl ((show s.ns[a]?=some w from A).symm.trans B);rw[A];refine⟨λq:(m:Int)<y.d=>?_,λq:¬(m:Int)<y.d=>?_⟩
  .rw[t]at q;refine wg (zBK s.ns a y B p K) ?_;obtain⟨j,C,_,_⟩:=(zhG v o).2 oM;refine⟨(k+1,j),⟨oN,zma f C⟩,zP [0,1] ⟨iR C,rfl,rfl,rfl,rfl,tV⟩ ⟨rfl,rfl,tV⟩,oN⟩
  rw[t]at q;obtain rfl:k=d-m:=oM;refine⟨Int,zM,[(a:Int)],rfl,wb3 ?_⟩
  have hlen0:(zaV ((qH (zI s.ns) i).reverse.take m)).length<=64:=by
   unfold zaV;rw[Xw,Xo,K8,b];omega
  refine⟨[(a:Int)],rfl,Ob.mk ⟨by show(((zaV ((qH (zI s.ns) i).reverse.take m)).length:Int)+1)*8<=_;omega,by rw[XZ];omega,dC,λx r=>by rw[Xu.1 r];rfl⟩ ?_⟩;refine wa ?_
  have H:zaV ((qH (zI s.ns) i).reverse.take m)++[(a:Int)]=zaV ((qH (zI s.ns) i).reverse.take (m+1)):=by
   rw[zBL b oM f];unfold zaV;rw[XA];rfl
  exact⟨m+1,by show m+1<=d+1;omega,zt [0,3] ⟨aR H,rfl,tV⟩,by show d+1-(m+1)<d+1-m;omega⟩
 rw[u]at g;have e:(qH (zI s.ns) i).reverse.take m=(qH (zI s.ns) i).reverse:=Xi (by rw[K8,b];omega);exact⟨some 1,.own 1 rfl,aR (by rw[G,e]),λ_ _=>rfl⟩
def zBM(s:Sc)(i:Int)(ht:zcJ s):CX 29 [wq s,i64 i] (.sl zM (jj s i)):=(zEd s i ht).plain rfl
def fineN(n:Nd):Prop:=n.t.le 100/\zl4 n/\n.path.length<=300/\n.clip.length<=300
def jd(s:Sc):Prop:=s.ns.length<=64->∀n∈s.ns,fineN n
def jd.tame{s:Sc}(h:jd s):zcJ s:=λb n c=>(h b n c).2.1
def zG1{s:Sc}(h:jd s)(c:qy s)(k:Nat):(tAt s.ns k).le 100:=by
 unfold tAt
 cases b:s.ns[k]? with
 |none=>exact zzT.up dC
 |some n=>exact(h (yw c) n (Xf b)).1
def zBN{s:Sc}(h:jd s)(b:qy s)(i:Int):∀t∈trs s.ns i,t.le 100:=λt ht=>by
 obtain⟨k,_,rfl⟩:=XN.1 ht;exact zG1 h b k
def zv3{s:Sc}(b:qy s)(hi:i<s.ns.length):(trs s.ns i).length<=8:=by
 have c:s.ns[i]?=some s.ns[i]:=Xb hi;have f:=yH b s.ns[i] (X2 hi);unfold trs;rw[Xw,zfo (d:=s.ns[i].d.toNat) (zaE b) (by rw[yT c];congr 1;omega)];omega
def zBO{l:List AF}:(vJ l).1.le 100:=by
 unfold vJ
 split
 .rename_i h;have:=zlX (l:=l) (i:=l.length) (Xj _) λk b=>h.2 k b
  rw[X9]at this;exact this.up dC
 exact zak _
def zaH(s:Sc)(i:Int):(kj s i).1.le 100:=by
 unfold kj
 split
 .exact zak _
 split
 .exact zak _
 exact zBO
def resW(r:AF×Int):SV:=.tup [wo r.1,i64 r.2]
def zbi{s:Sc}{i:Int}(h:kj s i=(qE,e)):LE (.tup [.agg uh,i64 e]) (resW (kj s i)):=by
 rw[h];exact zO zcu .refl
def zsB{s:Sc}{i:Int}(h:qy s)(b:0<=i)(c:i<s.ns.length):kj s i=vJ (trs s.ns i):=by
 unfold kj;rw[Xc (λk=>k h),Xc oM]
def zEe{s:Sc}(h:qy s)(hi:i<s.ns.length):parS s i=yl (zI s.ns) i:=by
 unfold parS;rw[Xe ⟨h,oM,oM⟩];rfl
def scO(s:Sc)(k:Nat):LR:=[i64 s.w,i64 s.h,u8 s.bg.r,u8 s.bg.g,u8 s.bg.b,u8 s.bg.a,.own k]
abbrev nArr(l:LW):Mem:=.arr 66 ndE 47 l
def zEf(s:Sc)(i:Int)(ht:jd s):CX 116 [wq s,i64 i] (resW (kj s i)):=by
 refine zc func116<|wg (zhH s ht.tame)<|⟨λh=>zbi (Xe h),λh=>?_⟩;have n:qy s:=Xa.1 h;refine⟨λu=>zbi ((Xc h).trans (Xe (.inl u))),λu=>?_⟩;intro B;refine⟨λv=>zbi ((Xc h).trans (Xe (.inr v))),λv=>?_⟩;have w:=zsB n (i:=i) oM oM;have hl64:=yw n;have o:=zBN ht n i
 have d:(trs s.ns i).length<=8:=by
  obtain⟨k,rfl⟩:∃k:Nat,i=(k:Int):=⟨i.toNat,oM⟩;exact zv3 n oM
 refine⟨List AF×Int,λz=>⟨[(6,.own 2),(4,.loc 1 0),(2,.loc 0 0),(1,i64 z.2)],[(2,.arr 57 afE 24 z.1),(1,.box 57 uh),(0,.box 26 (scE s))],3,39,0⟩,
  λz=>z.1++trs s.ns z.2=trs s.ns i/\ -1<=z.2/\z.2<s.ns.length,λz=>(z.2+1).toNat,([],i),⟨rfl,oN,oN⟩,zC [(0,some 0),(1,some 1),(2,none)],?_⟩
 rintro⟨p,j⟩ ⟨f,b,c⟩
 have f:p++trs s.ns j=trs s.ns i:=f;have b: -1<=j:=b;have c:j<s.ns.length:=c;have C:p.length<=8:=by rw[←f,Xq]at d;omega
 refine⟨λg:0<=j=>?_,λg:¬0<=j=>?_⟩
 .obtain⟨k,rfl⟩:∃k:Nat,j=(k:Int):=⟨j.toNat,oM⟩;refine wb λx(D:s.ns[k]?=some x)=>?_;refine⟨AF,afE,[x.t],rfl,Ob.mk ⟨rfl,dC,dC,dC,λy r=>by rw[Xu.1 r];exact⟨rfl,rfl,rfl⟩⟩ ?_⟩;refine⟨[x.t],rfl,Ob.mk ⟨by show((p.length:Int)+1)*_<=_;dsimp only;omega,by show p.length+1<=_;omega,dC,λy r=>by rw[Xu.1 r];rfl⟩ ?_⟩;refine wg (zBC s k ht.tame) ?_;have ep:=zEe n (i:=k) oM;have q:=zfn (zI s.ns) k
  refine⟨(p++[x.t],yl (zI s.ns) k),⟨by dsimp only;rw[XM,←f,zBy D];rfl,q.1,oN⟩,zP [0,1,4] ⟨rfl,rfl,rfl,iR ep,tV⟩ ⟨rfl,rfl,rfl,tV⟩,oN⟩
 have A:p=trs s.ns i:=by rw[←f,zD7 oM,XC]
 subst A;refine zb.see 2 _ (zuh (trs s.ns i) o) rfl rfl rfl ?_;rw[w];exact zO .refl .refl
def zG2{s:Sc}(h:inS s i)(c:m<(qH (zI s.ns) i).length)(b:(qH (zI s.ns) i)[(qH (zI s.ns) i).length-1-m]?=some a):(jj s i)[m]?=some (a:Int):=by
 have e:jj s i=((qH (zI s.ns) i).reverse).map (λk:Nat=>(k:Int)):=Xe h;rw[e,XD,QV c,b];rfl
def zEg{s:Sc}(h:inS s i):(jj s i).length=(qH (zI s.ns) i).length:=by
 have e:jj s i=((qH (zI s.ns) i).reverse).map (λk:Nat=>(k:Int)):=Xe h;rw[e,Xw,K8]
def zj8(s:Sc)(i:Int)(ht:jd s):CX 106 [wq s,i64 i] (resW (kj s i)):=by
 refine zc func106<|wg (zaG s ht.tame)<|⟨λh=>zbi (Xe h),λh=>?_⟩;have b:qy s:=Xa.1 h;refine⟨λD=>zbi ((Xc h).trans (Xe (.inl D))),λD=>?_⟩;intro K;refine⟨λE=>zbi ((Xc h).trans (Xe (.inr E))),λE=>?_⟩;have H:=zsB b (i:=i) oM oM;have hl64:=yw b;have p:=zBN ht b i;obtain⟨i,rfl⟩:∃k:Nat,i=(k:Int):=⟨i.toNat,oM⟩;have hi:i<s.ns.length:=oM;have c:inS s i:=⟨b,oM,oM⟩;have F:=zv3 b hi
 have n:(trs s.ns i).length=(qH (zI s.ns) i).length:=by unfold trs;rw[Xw]
 have J:=zEg c;refine wg (zBM s i ht.tame) λL=>wa ?_
 refine⟨Nat,λm=>⟨[(8,i64 ((m:Int)-1)),(7,.own 2),(6,.sl zM (jj s i)),(4,.loc 1 0),(2,.loc 0 0)],[(2,.arr 57 afE 24 ((trs s.ns i).take ((trs s.ns i).length-m))),(1,.box 57 uh),(0,.box 26 (scE s))],3,49,0⟩,
  λm=>m<=(trs s.ns i).length,λm=>m,(trs s.ns i).length,Xj _,?_,?_⟩
 .exact jo [(0,some 0),(1,some 1),(2,none)] ⟨iR oM,rfl,rfl,rfl,rfl,tV⟩ ⟨by show Nat.beq (List.take _ _).length 0=true;rw[QQ];rfl,rfl,rfl,tV⟩
 intro m G;have G:m<=(trs s.ns i).length:=G;refine⟨λg:0<=(m:Int)-1=>?_,λg:¬0<=(m:Int)-1=>?_⟩
 .obtain⟨k,rfl⟩:∃k,m=k+1:=⟨m-1,oM⟩;obtain⟨a,f⟩:∃a,(qH (zI s.ns) i)[(qH (zI s.ns) i).length-1-k]?=some a:=⟨_,Xb oM⟩
  have v:(trs s.ns i)[(trs s.ns i).length-(k+1)]?=some (tAt s.ns a):=by
   rw[n,show(qH (zI s.ns) i).length-(k+1)=(qH (zI s.ns) i).length-1-k by omega];unfold trs;rw[XD,f];rfl
  have j:=zG2 c oM f;have o:(zI s.ns)[i]?=some (s.ns[i]).d:=yT (Xb hi);obtain⟨y,A,_⟩:=zal (ziQ (zaE b) o f);have N:=(Xd.1 A).1;refine wc<|wb λx w=>?_;have w:x=(a:Int):=Xl ((show(jj s i)[k]?=some x by rw[←w];congr 1;omega).symm.trans j);rw[w];refine wb λz B=>?_;have B:z=y:=Xl ((show s.ns[a]?=some z from B).symm.trans A);rw[B];have u:tAt s.ns a=y.t:=zss A
  refine⟨AF,afE,[y.t],rfl,Ob.mk ⟨rfl,dC,dC,dC,λq r=>by rw[Xu.1 r];exact⟨rfl,rfl,rfl⟩⟩ ?_⟩;have M:((trs s.ns i).take ((trs s.ns i).length-(k+1))).length<=8:=by rw[Xo];omega
  refine⟨[y.t],rfl,Ob.mk ⟨by show((((trs s.ns i).take ((trs s.ns i).length-(k+1))).length:Int)+1)*_<=_;dsimp only;omega,by show((trs s.ns i).take ((trs s.ns i).length-(k+1))).length+1<=_;omega,dC,λq r=>by rw[Xu.1 r];rfl⟩ ?_⟩;refine wa ?_
  have I:(trs s.ns i).take ((trs s.ns i).length-(k+1))++[y.t]=(trs s.ns i).take ((trs s.ns i).length-k):=by
   rw[show(trs s.ns i).length-k=(trs s.ns i).length-(k+1)+1 by omega,Xm,v,u];rfl
  exact⟨k,by show k<=_;omega,zP [0,1,4] ⟨iR oM,rfl,rfl,rfl,rfl,tV⟩ ⟨aR I,rfl,rfl,tV⟩,by show k<k+1;omega⟩
 obtain rfl:m=0:=oM;have C:(trs s.ns i).take ((trs s.ns i).length-0)=trs s.ns i:=by rw[YT,X9]
 refine zb.see 2 _ (zpT ((trs s.ns i).take ((trs s.ns i).length-0)) (by rw[C];exact p)) rfl rfl rfl ?_;rw[H,C];exact zO .refl .refl
def zyc{l:List AF}:(vJ l).2=0∨(vJ l).2=5:=by
 unfold vJ;split
 .exact .inl rfl
 exact .inr rfl
def zam{s:Sc}{i:Int}:inS s i↔¬((kj s i).2=18∨(kj s i).2=8):=by
 unfold kj
 by_cases h:qy s
 .rw[Xc (λk=>k h)]
  by_cases b:i<0∨s.ns.length<=i
  .rw[Xe b];exact⟨λk=>by have:=k.2;omega,λk=>absurd (.inr rfl) k⟩
  rw[Xc b];refine⟨λ_=>?_,λ_=>⟨h,oM,oM⟩⟩
  rcases zyc (l:=trs s.ns i) with e|e <;> rw[e] <;> decide
 rw[Xe h];exact⟨λk=>absurd k.1 h,λk=>absurd (.inl rfl) k⟩
def ziS{s:Sc}{i:Int}(h:¬inS s i):(kj s i).1=qE/\(kj s i).2≠0/\zS s i=zNd:=by
 refine⟨?_,?_,Xc h⟩
 all_goals
  unfold kj
  by_cases b:qy s
  .rw[Xc (λk=>k b),Xe (by
    rcases Qe i 0 with k|k
    .exact .inl k
    exact .inr (JF.1 λq=>h ⟨b,k,q⟩))]
   try (first|rfl|exact dC)
  rw[Xe b]
  try (first|rfl|exact dC)
def zdm{s:Sc}{i:Int}(h:inS s i){n:Nd}(b:s.ns[i.toNat]?=some n):zS s i=n:=by
 unfold zS;rw[Xe h,b];rfl
def zoi{s:Sc}(ht:jd s)(i:Int):(zS s i).path.length<=300/\(zS s i).clip.length<=300:=by
 by_cases h:inS s i
 .obtain⟨n,b⟩:=uP h;rw[zdm h b];have:=ht (yw h.1) n (Xf b);exact this.2.2
 rw[(ziS h).2.2];exact⟨Xh _,Xh _⟩
def zBP(s:Sc)(i:Int):LR:=afE (kj s i).1++(pr ((kj s i).2=0)::ndE (zS s i))
def z47:LR:=i64 0::i64 0::i64 0::(uh++[nS,i64 0,u8 0,i64 0,bl false,bl false,nS,i64 0,nS,
 i64 0,i64 0,i64 0,i64 0,nS,i64 0,nS,i64 0,i64 0,nS,i64 0])
def zme:LEs uh (afE qE):=show LEs (z4++(z4++(z4++(z4++(z4++z4))))) (afE qE) from LEs.append yX (LEs.append yX (LEs.append yX (LEs.append yX (LEs.append yX yX))))
def zEh:LEs z47 (ndE zNd):=
 .C (.C (.C (LEs.append zme (.cons zD (.C (.C (.C (.cons (zd dC) (.cons (zd dC) (.cons zD (.C (.cons zD
  (.C (.C (.C (.C (.cons zD (.C (.cons zD (.C (.C (.cons zD (.C .nil)))))))))))))))))))))))
def zsC{s:Sc}{i:Int}(h:¬inS s i):LE (.agg (uh++(bl false::z47))) (.agg (zBP s i)):=by
 obtain⟨b,c,d⟩:=ziS h;unfold zBP;rw[b,d];exact jp (LEs.append zme (.cons (zd c) zEh))
def zp2(s:Sc)(i:Int)(ht:jd s):CX 80 [wq s,i64 i] (.agg (zBP s i)):=by
 refine zc func80<|wg (zEf s i ht)<|⟨λh=>zsC λk=>zam.1 k (.inl h),λf=>?_⟩;refine⟨λh=>zsC λk=>zam.1 k (.inr h),λg=>?_⟩;have b:inS s i:=zam.2 λk=>k.elim f g
 obtain⟨n,c⟩:=uP b;have hi:=(Xd.1 c).1;have j:=b.2;refine wc<|wb λx d=>?_;have d:x=n:=Xl ((show s.ns[i.toNat]?=some x from d).symm.trans c);rw[d];have e:zBP s i=afE (kj s i).1++(pr ((kj s i).2=0)::ndE n):=by unfold zBP;rw[zdm b c]
 rw[e];exact .refl
def zur(r:AF×Int)(l:LX)(ht:r.1.le 100)(b:l.length<=300):CX 81 [.agg (afE r.1++[pr (r.2=0)]),.sl sgE l] (.sl zk (uO r l)):=by
 refine zc func81<|Br.mk (λh=>by rw[show uO r l=[] from Xe h];exact zD) (λh=>?_);have e:uO r l=(yq l r.1 32).1:=Xc h;refine wg (zDP l r.1 32 (ht.up dC) b) ?_;rw[e];exact⟨λk=>by rw[zst k];exact zD,λ_=>.refl⟩
def zv4(s:Sc)(i:Int)(ht:jd s):CX 45 [wq s,i64 i] (.sl zk (vn s i)):=by
 refine zc func45<|wg (zp2 s i ht)<|⟨λh=>by rw[show vn s i=[] from Xe (.inl h)];exact zD,λb=>?_⟩;intro d;refine⟨λh=>by rw[show vn s i=[] from Xe (.inr oM)];exact zD,λc=>?_⟩;refine wg (zur (kj s i) (zS s i).path (zaH s i) (zoi ht i).1) ?_;rw[show vn s i=uO (kj s i) (zS s i).path from Xc λk=>k.elim b λq=>c oM];exact .refl
def zsD(a b c d:Int):(za1 a b c d).length<=300:=by
 unfold za1;split
 .exact(by decide:5<=300)
 exact Xh _
def zBQ(s:Sc)(i:Int)(ht:jd s):CX 47 [wq s,i64 i] (.sl zk (zdl s i)):=by
 refine zc func47<|wg (zp2 s i ht)<|⟨λh=>by rw[show zdl s i=[] from Xe h];exact zD,λh=>?_⟩;refine wc<|wg (ztQ 0 0 (zS s i).im.w (zS s i).im.h)<|wg (zur (kj s i) (za1 0 0 (zS s i).im.w (zS s i).im.h) (zaH s i) (zsD _ _ _ _)) ?_;rw[show zdl s i=uO (kj s i) (za1 0 0 (zS s i).im.w (zS s i).im.h) from Xc h];exact .refl
def zmf(s:Sc)(i:Int):SV:=.tup [.sl zk (zoe s i),pr (0<(zS s i).clip.length)]
def zp3{s:Sc}{i:Int}(h:(zS s i).clip.length=0):LE (.tup [nS,bl false]) (zmf s i):=by
 unfold zmf;rw[show zoe s i=[] from Xe h];exact zO zD (zd oM)
def zmg{s:Sc}{i:Int}{v:SV}(h:(zS s i).clip.length≠0)(b:LE v (.sl zk (uO (kj s i) (zS s i).clip))):LE (.tup [v,bl true]) (zmf s i):=by
 unfold zmf;rw[show zoe s i=uO (kj s i) (zS s i).clip from Xc h];exact zO b (zH oM)
def zEi(s:Sc)(i:Int)(ht:jd s):CX 77 [wq s,i64 i] (zmf s i):=by
 refine zc func77<|wg (zp2 s i ht) λb=>?_;refine⟨λh=>zp3 oM,λc=>?_⟩;exact wg (zur (kj s i) (zS s i).clip (zaH s i) (zoi ht i).2)<|zmg oM .refl
def zEj(s:Sc)(i:Int)(ht:jd s):CX 122 [wq s,i64 i] (zmf s i):=by
 refine zc func122<|wg (zj8 s i ht) ?_;have out:¬inS s i->LE (.tup [nS,bl false]) (zmf s i):=λh=>zp3 (by rw[(ziS h).2.2];rfl)
 refine⟨λh=>out λk=>zam.1 k (.inl h),λq=>?_⟩;refine⟨λh=>out λk=>zam.1 k (.inr h),λr=>?_⟩;have b:inS s i:=zam.2 λk=>k.elim q r
 obtain⟨n,c⟩:=uP b;have hi:=(Xd.1 c).1;have t:=b.2;have d:=zdm b c;refine wb λx g=>?_;have g:x=n:=Xl ((show s.ns[i.toNat]?=some x from g).symm.trans c);rw[g];intro u;refine⟨λh=>zp3 (by rw[d];have h:(n.clip.length:Int)=0:=h;omega),λo=>?_⟩;have p:(zS s i).clip.length≠0:=by rw[d];have o:¬(n.clip.length:Int)=0:=o;omega
 refine⟨λh=>zmg p (by rw[show uO (kj s i) (zS s i).clip=[] from Xe h];exact zD),λf=>?_⟩;have f:(kj s i).2=0:=Xa.1 f;refine wc<|wb λy j=>?_;have j:y=n:=Xl ((show s.ns[i.toNat]?=some y from j).symm.trans c);rw[j];refine wg (zpQ n.clip (kj s i).1 32 ((zaH s i).up dC)) ?_;have e:uO (kj s i) (zS s i).clip=(yq n.clip (kj s i).1 32).1:=by rw[d];exact Xc λk=>k f
 exact zmg p (by rw[e];exact .refl)
end Go.Gs
