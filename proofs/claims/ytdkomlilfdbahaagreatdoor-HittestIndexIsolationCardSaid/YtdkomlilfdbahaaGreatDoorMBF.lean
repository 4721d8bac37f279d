/- Winding numbers and fill rules, both texts. -/
import Derived.Test.YtdkomlilfdbahaaGreatDoorMBE
import Derived.Test.YtdkomlilfdbahaaGreatDoorMAZ
set_option maxRecDepth 100000
set_option maxHeartbeats 80000000
set_option linter.all false
namespace Go.Gs
open Proofs.Tryz
open Go.Proofs
def w_cnt(a b p:Pt)(n:Int)(s: -1000000<=n/\n<=1000000):
  CG0 119 [wk a,wk b,.ptr (ptE p),.loc 0 0] [(0,.box 3 [i64 n])] (.tup []) [(0,.box 3 [i64 (n+uV a b p)])]:=by
 refine ux tok mix func119 rfl rfl rfl rfl rfl ?_;have c:∀{d:Int},uV a b p=d->some (Mem.box 3 [i64 (n+d)])=some (Mem.box 3 [i64 (n+uV a b p)]):=λh=>by rw[h]
 refine⟨λf=>?_,λf=>?_⟩;refine⟨λg=>?_,λg=>?_⟩;refine wg (zCH a b p)<|⟨λj=>Ar.fit oM ⟨c (zwN f g j),.refl⟩,λj=>?_⟩
 all_goals
  have r:¬(a.y<=p.y/\p.y<b.y/\0<sgn (orP a b p)):=λh=>by first|exact j h.2.2|exact g h.2.1|exact f h.1
  have sec:¬(b.y<=p.y/\p.y<a.y/\0<sgn (orP b a p))->some (Mem.box 3 [i64 n])=some (Mem.box 3 [i64 (n+uV a b p)]):=λk=>by rw[←c (zwO r k),Ys]
  refine⟨λm=>?_,λm=>⟨sec λh=>m h.1,.refl⟩⟩;refine⟨λo=>?_,λo=>⟨sec λh=>o h.2.1,.refl⟩⟩;exact wg (zCH b a p)<|⟨λq=>Ar.fit oM ⟨c (zku r m o q),.refl⟩,λq=>⟨sec λh=>q h.2.2,.refl⟩⟩
def boxI{T:TypeId}{m n:Int}(h:m=n):some (Mem.box T [i64 m])=some (Mem.box T [i64 n]):=by rw[h]
def zFa(r:LU)(p:Pt)(c:Int)(m: -4096<=c/\c<=4096)(n:r.length<=4096):
  CG0 121 [.sl ptE r,.fn 119 [.loc 0 0,.loc 1 0]] [(0,.box 28 (ptE p)),(1,.box 3 [i64 c])] (.tup [])
   [(0,.box 28 (ptE p)),(1,.box 3 [i64 (c+uW r p r.length)])]:=by
 refine uk tok mix func121 rfl rfl rfl λd=>?_
 refine⟨Nat,λi=>⟨[(8,i64 i),(7,i64 r.length),(6,.sl ptE r),(0,.sl ptE r),(1,.fn 119 [.loc 0 0,.loc 1 0])],[(0,.box 28 (ptE p)),(1,.box 3 [i64 (c+uW r p i)])],2,25,2⟩,
  λi=>i<=r.length,λi=>r.length-i,0,Xh _,zt [0,1] ⟨rfl,boxI (Ys c).symm,tV⟩,?_⟩
 rintro i a
 have a:i<=r.length:=a;refine⟨λg:(i:Int)<r.length=>?_,λg=>?_⟩
 .refine wb λx(h:r[i]?=some x)=>?_;refine wd<|wa λf=>Dv.pos ⟨oM,oM⟩ ?_;have q1:=Kj ((i:Int)+1) (b:=(r.length:Int)) oM;have k:=Kg ((i:Int)+1) (b:=(r.length:Int)) oM;refine Ob.mk ⟨q1,k⟩ λy j=>?_;have o:=zeR r p i;refine zb.hand 1 _ _ _ rfl (w_cnt x y p (c+uW r p i) oM) rfl rfl rfl rfl<|wh<|wa ?_
  exact⟨i+1,by show i+1<=r.length;omega,zt [0,1] ⟨rfl,boxI (by rw[zoP h j oM,YR]),tV⟩,oN⟩
 obtain rfl:i=r.length:=by have g:¬(i:Int)<r.length:=g;omega
 exact⟨_,.refl,rfl,.refl⟩
variable{p:Pt}
def zwP{rs:LQ}(h:¬zm p):0=zh5 rs p:=(Xc λk=>h k.2).symm
def zH3(rs:LQ)(p:Pt)(c:kC rs):CX 73 [.sl zk rs,wk p] (i64 (zh5 rs p)):=by
 have j:qh rs<=4096:=by have:=c.1;omega
 refine zc func73<|wg (qe p)<|⟨λh=>ze (zwP h),λh=>?_⟩;refine wg (zhr rs λr f=>by have:=vN f;omega)<|⟨λk=>absurd c k,λ_=>?_⟩;intro o
 refine⟨Nat,λi=>⟨[(20,i64 i),(19,i64 rs.length),(18,.sl zk rs),(6,.fn 119 [.loc 0 0,.loc 1 0]),(5,.loc 1 0)],[(0,.box 28 (ptE p)),(1,.box 3 [i64 (zbS rs p i)])],2,29,0⟩,
  λi=>i<=rs.length,λi=>rs.length-i,0,Xh _,zf [0,1],?_⟩
 rintro i a
 have a:i<=rs.length:=a;refine⟨λg:(i:Int)<rs.length=>?_,λg=>?_⟩
 .refine wb λr(d:rs[i]?=some r)=>?_;have q:=zcb rs p i a;have m:=zat rs i;have n:=vN (Xf d)
  refine zb.give [0,1] 0 [.sl ptE r,.fn 119 [.loc 0 0,.loc 1 0]] [(0,.box 28 (ptE p)),(1,.box 3 [i64 (zbS rs p i)])]
   [(0,.box 28 (ptE p)),(1,.box 3 [i64 (zbS rs p i+uW r p r.length)])] (.tup []) (zFa r p (zbS rs p i) oM oM) LEs.refl rfl rfl rfl ⟨⟨_,rfl,rfl,rfl⟩,⟨_,rfl,rfl,rfl⟩,tV⟩ rfl ⟨⟨rfl,rfl⟩,⟨rfl,rfl⟩,tV⟩ ?_
  exact wa<|⟨i+1,by show i+1<=rs.length;omega,zt [0,1] ⟨rfl,boxI (zdC d).symm,tV⟩,oN⟩
 obtain rfl:i=rs.length:=by have g:¬(i:Int)<rs.length:=g;omega
 exact ze (Xe ⟨c,Xa.1 h⟩).symm
def zH4(rs:LQ)(p:Pt)(d:kC rs):CX 149 [.sl zk rs,wk p] (i64 (zh5 rs p)):=by
 have u:qh rs<=4096:=by have:=d.1;omega
 refine zc func149<|wg (zhs rs)<|⟨λk=>absurd d k,λ_=>?_⟩;refine wg (ki p)<|⟨λh=>ze (zwP h),λh=>?_⟩
 refine⟨Nat,λi=>⟨[(6,i64 i),(5,i64 (zbS rs p i)),(3,.loc 0 0),(0,.sl zk rs)],[(0,.box 28 (ptE p))],1,49,0⟩,
  λi=>i<=rs.length,λi=>rs.length-i,0,Xh _,zf [0],?_⟩
 rintro i c
 have c:i<=rs.length:=c;intro B;refine⟨λg:(i:Int)<rs.length=>?_,λg=>?_⟩
 .obtain⟨r,f⟩:∃r,rs[i]?=some r:=⟨_,Xb oM⟩;have get:∀z,rs[i]?=some z->z=r:=λz a=>Xl (a.symm.trans f)
  have C:=zcb rs p i c;have w:=zat rs i;have A:=vN (Xf f)
  refine⟨Nat,λj=>⟨[(7,i64 j),(6,i64 i),(5,i64 (zbS rs p i+uW r p j)),(3,.loc 0 0),(0,.sl zk rs)],[(0,.box 28 (ptE p))],1,49,0⟩,
   λj=>j<=r.length,λj=>r.length-j,0,Xh _,zQ [0] ⟨rfl,rfl,iR (Ys _).symm,rfl,rfl,tV⟩ ⟨rfl,tV⟩,?_⟩
  rintro j q
  have q:j<=r.length:=q;refine wb λz a=>?_;rw[get z a];intro t;refine⟨λg:(j:Int)<r.length=>?_,λg=>?_⟩
  .refine wc<|wb λz a=>?_;rw[get z a];refine wb λx(m:r[j]?=some x)=>?_;refine wb λz a=>?_;rw[get z a];have s:(j+1)%r.length<r.length:=Kq _ oM;obtain⟨y,n⟩:∃y,r[(j+1)%r.length]?=some y:=⟨_,Xb s⟩;have o:r[(((j:Int)+1)%(r.length:Int)).toNat]?=some y:=by rw[zkg oM,XU];exact n
   refine wg (zAO r j y ⟨oM,oM⟩ o)<|wg (zH2 x y p) ?_;have v:=zeR r p j;have ht:=zjT x y p;(iterate 2 refine wa ?_);exact⟨j+1,by show j+1<=r.length;omega,zQ [0] ⟨rfl,rfl,iR (by rw[zoP m o oM,YR]),rfl,rfl,tV⟩ ⟨rfl,tV⟩,oN⟩
  obtain rfl:j=r.length:=by have g:¬(j:Int)<r.length:=g;omega
  exact wa<|⟨i+1,by show i+1<=rs.length;omega,zQ [0] ⟨rfl,iR (zdC f).symm,rfl,rfl,tV⟩ ⟨rfl,tV⟩,oN⟩
 obtain rfl:i=rs.length:=by have g:¬(i:Int)<rs.length:=g;omega
 exact ze (Xe ⟨d,Xa.1 h⟩).symm
def zFb{n:Int}(h: -9223372036854775808<=n/\n<=9223372036854775807):vy .and .i64 n (-1)=n:=by
 show IntKind.i64.wrap ((BitVec.ofInt 64 n&&&BitVec.ofInt 64 (-1)).toNat:Nat)=_;rw[show BitVec.ofInt 64 (-1)=BitVec.allOnes 64 from by decide,BitVec.and_allOnes,Qh];simp only[IntKind.wrap,IntKind.bits,IntKind.signed];simp;omega
def zCI(n:Int):vy .and .i64 n 0=0:=by
 show IntKind.i64.wrap ((BitVec.ofInt 64 n&&&BitVec.ofInt 64 0).toNat:Nat)=_;rw[show BitVec.ofInt 64 0=0#64 from by decide,BitVec.and_zero];decide
def zFc(n rule:Int)(h: -4096<=n/\n<=4096):CX 72 [i64 n,i64 rule] (pr (zcm n rule)):=by
 refine zc func72 ?_;have a:=zDJ (q:=n) 1 dC;refine⟨λk=>absurd k dC,λ_=>?_⟩;refine⟨λk=>?_,λk=>?_⟩
 .refine⟨_,rfl,zC ?_⟩;rw[zFb oM];unfold zcm;omega
 refine⟨λc=>?_,λc=>?_⟩
 .refine⟨_,rfl,zC ?_⟩;rw[show(1:Int)=2^1-1 from rfl,a];unfold zcm;omega
 refine⟨_,rfl,zC ?_⟩;rw[zCI];unfold zcm;omega
def zFd(n rule:Int):CX 148 [i64 n,i64 rule] (pr (zcm n rule)):=by
 refine zc func148 ?_;have e:=tm2 n;refine⟨λa=>?_,λa=>?_⟩;refine⟨λc=>zH (.inl ⟨a,c⟩),λc=>?_⟩
 all_goals
  refine⟨λd=>Dv.any dC (zC ?_),λd=>zd ?_⟩
  all_goals unfold zcm;omega
def zh8(rs:LQ)(rule:Int)(p:Pt)(a:kC rs):CX 38 [.sl zk rs,i64 rule,wk p] (pr (yk rs rule p)):=by
 exact zc func38<|wg (zH3 rs p a)<|zb.to _ (zFc _ rule (ztj rs p)) rfl .refl
def zh9(rs:LQ)(rule:Int)(p:Pt)(a:kC rs):CX 98 [.sl zk rs,i64 rule,wk p] (pr (yk rs rule p)):=by
 exact zc func98<|wg (zH4 rs p a)<|zb.to _ (zFd _ rule) rfl .refl
def dN(l:LW)(k:Nat):Int:=(zJ l).getD k 0
variable{l:LW}
def zmK{k:Nat}{n:Nd}(h:l[k]?=some n):dN l k=n.d:=by unfold dN;rw[Xs,yY h];rfl
def zmL{l:LW}{k:Nat}(h:k<l.length):(zJ l)[k]?=some (dN l k):=by
 rw[zmK (Xb h)];exact yY (Xb h)
def zoQ{g:LV}(h:zeJ g){b:Nat}{x e:Int}(n:g[b]?=some x)(u:x<=e):∀{k:Nat} {d:Int},b<=k->g[k]?=some d->e<d->∃j,b<=j/\j<k/\g[j]?=some e
 |0,d,s,f,t=>by
  obtain rfl:b=0:=oM;rw[n]at f;cases f;omega
 |k+1,d,s,f,t=>by
  obtain⟨a,m⟩:∃a,g[k]?=some a:=⟨_,Xb (by have:=(Xd.1 f).1;omega)⟩;have w:=h.2.2 k a d m f
  by_cases o:b=k+1
  .subst o;rw[n]at f;cases f;omega
  by_cases c:a=e
  .exact⟨k,oM,oM,by rw[m,c]⟩
  obtain⟨j,q,v,r⟩:=zoQ h n u oM m oM;exact⟨j,q,oM,r⟩
def zmM(l:LW)(i e:Nat):Prop:=i<e/\e<=l.length/\(∀j,i<j->j<e->dN l i<dN l j)/\(e<l.length->dN l e<=dN l i)
def zwQ(l:LW)(i:Nat):∀(m k:Nat),k+m=l.length->i<k->(∀j,i<j->j<k->dN l i<dN l j)->∃e,zmM l i e
 |0,k,h,hi,a=>⟨k,hi,oM,a,λq=>by omega⟩
 |m+1,k,h,hi,a=>by
  by_cases c:dN l i<dN l k
  .refine zwQ l i m (k+1) oM oM λj d f=>?_
   by_cases e:j=k
   .rw[e];exact c
   exact a j d oM
  exact⟨k,hi,oM,a,λ_=>by omega⟩
variable{i:Nat}
def zu2{k:Nat}(g:k<l.length)(h:yn (zJ l) k=i):i<k/\dN l k=dN l i+1:=by
 have a:=zcQ (zJ l) (dN l k-1) k;have e:yn (zJ l) k=yE (zJ l) (dN l k-1) k:=rfl;rw[e]at h;rw[h]at a;have d:=a.2.2 oM;have c:(zJ l)[i]?=some (dN l k-1):=d;have f:i<k:=oM;rw[zmL oM]at c;have:=Xl c;exact⟨f,oM⟩
variable{e:Nat}
def zFe{k:Nat}(c:zmM l i e)(m:i<k)(r:k<e):yn (zJ l) k=i↔dN l k=dN l i+1:=by
 have o:=c.2.1;refine⟨λh=>(zu2 oM h).2,λh=>?_⟩
 have ep:yn (zJ l) k=yE (zJ l) (dN l i) k:=by
  show yE (zJ l) (dN l k-1) k=_;rw[h,Int.add_sub_cancel]
 have g:=zmE (d:=dN l i) m (zmL oM);have f:=zcQ (zJ l) (dN l i) k;rw[ep];refine JU (JJ.1 λq=>?_) g;obtain⟨j,n⟩:=Qw (show 0<=yE (zJ l) (dN l i) k by omega);have a:=f.2.2 oM;rw[n]at a q f;have a:(zJ l)[j]?=some (dN l i):=a;have s:=c.2.2.1 j oM oM;rw[zmL oM]at a;have:=Xl a;omega
def zFf(n:zeJ (zJ l)){k:Nat}(d:zmM l i e)(f:e<=k)(c:k<l.length):yn (zJ l) k≠i:=λh=>by
 obtain⟨a,b⟩:=zu2 c h;have m:=d.2.2.2 oM;obtain⟨j,r,o,q⟩:=zoQ n (zmL (l:=l) (k:=e) oM) m f (zmL c) oM;have g:=zmE o q
 have ep:yn (zJ l) k=yE (zJ l) (dN l i) k:=by
  show yE (zJ l) (dN l k-1) k=_;rw[b,Int.add_sub_cancel]
 have:=d.1;omega
def zeS(l:LW)(i n:Nat):LV:=((List.range n).filter λk=>decide (yn (zJ l) k=i)).map λk:Nat=>(k:Int)
def zwR{n:Nat}(h:yn (zJ l) n=i):zeS l i (n+1)=zeS l i n++[(n:Int)]:=by
 unfold zeS;rw[KH,Km,Xz];simp[h]
def zqy{n:Nat}(h:¬yn (zJ l) n=i):zeS l i (n+1)=zeS l i n:=by
 unfold zeS;rw[KH,Km,Xz];simp[h]
def zwS(l:LW)(i:Nat):∀n,n<=i+1->zeS l i n=[]
 |0,_=>rfl
 |n+1,h=>by
  rw[zqy λk=>by have:=zfA (zJ l) n;omega];exact zwS l i n oM
def ztk{l:LW}(c:zeJ (zJ l)){i e:Nat}(a:zmM l i e):∀m,e+m<=l.length->zeS l i (e+m)=zeS l i e
 |0,_=>rfl
 |m+1,h=>by
  rw[←KL,zqy (zFf c a oM oM)];exact ztk c a m oM
def zwT(l:LW)(i n:Nat):(zeS l i n).length<=n:=by
 unfold zeS;rw[Xv];have:=Qc (λk=>decide (yn (zJ l) k=i)) (List.range n)
 rwa [Kk]at this
def zaZ(s:Sc)(i:Nat):LV:=zeS s.ns i s.ns.length
def zH5{s:Sc}{k:Int}(h:k∈zaZ s i):∃m:Nat,k=m/\m<s.ns.length/\dN s.ns m=dN s.ns i+1:=by
 unfold zaZ zeS at h;obtain⟨m,d,rfl⟩:=XK.1 h;obtain⟨a,c⟩:=QH.1 d;have a:=XV.1 a;exact⟨m,rfl,a,(zu2 a (of_decide_eq_true c)).2⟩
def zwU{α:Type _}{xs:List α}(h:xs=[]):Nat.beq xs.length 0=true:=by rw[h];rfl
def s_end(l:LW)(i e:Nat)(h:zmM l i e)(v:l.length<=64):CX 79 [.sl ndE l,i64 i] (i64 e):=by
 obtain⟨t,u,j,m⟩:=h;refine zc func79<|wa<|⟨Nat,λk=>⟨[(5,i64 k),(1,i64 i),(0,.sl ndE l)],[],0,28,0⟩,λk=>i<k/\k<=e,λk=>e-k,i+1,⟨oM,oM⟩,?_,?_⟩
 .exact zB []
 rintro k ⟨n,f⟩
 refine wc λo=>?_;refine⟨λg:(k:Int)<l.length=>?_,λg:¬(k:Int)<l.length=>?_⟩
 .refine wb λx r=>?_;have ex:=zmK (show l[k]?=some x from r);refine wb λy s=>?_;have ey:=zmK (show l[i]?=some y from s);refine⟨λc=>?_,λc:¬y.d<x.d=>?_⟩
  .have c:y.d<x.d:=c
   have a:k<e:=Nat.lt_of_le_of_ne f λq=>by
    subst q;have:=m oM;omega
   exact wa<|⟨k+1,⟨oM,a⟩,zB [],oN⟩
  refine ze (Xg Int.ofNat (Nat.le_antisymm f (Yb.1 λq=>?_)));have:=j k n q;omega
 exact ze oM
def zH6(s:Sc)(i:Nat)(ht:zca s)(hi:inS s i):CX 42 [wq s,i64 i] (.sl zN (zaZ s i)):=by
 have B:=zaH hi.1;have z:=yR hi.1;have h:i<s.ns.length:=by have:=hi.2.2;omega
 obtain⟨n,m⟩:∃n,s.ns[i]?=some n:=⟨_,Xb h⟩;have C:=zmK m;have r:=yK hi.1 n (Xf m);obtain⟨e,a⟩:=zwQ s.ns i (s.ns.length-(i+1)) (i+1) oM oM λj D E=>oM
 have t:=a.1;have u:=a.2.1;refine zc func42<|Br.mk (λ_=>?_) (λk=>by have k:¬¬(i:Int)= -1:=k;omega);refine wg (zCd s i ht)<|⟨λk=>absurd hi k,λ_=>?_⟩;refine wg (zhY s ht)<|⟨λk=>absurd hi.1 k,λ_=>?_⟩;refine wc λA=>?_;refine⟨λ_=>?_,λk=>by have k:¬(0:Int)<=i:=k;omega⟩;refine wc<|wb λx f=>?_;rw[show x=n from Xl ((show s.ns[i]?=some x from f).symm.trans m)];(iterate 2 refine wa ?_)
 refine wg (s_end s.ns i e a z)<|⟨Nat,λk=>⟨[(9,i64 k),(8,.own 1),(7,i64 e),(5,i64 (n.d+1)),(2,.loc 0 0)],[(1,.arr 3 zN 1 (zeS s.ns i k)),(0,.box 26 (scE s))],2,60,0⟩,λk=>i<k/\k<=e,λk=>e-k,i+1,⟨oM,oM⟩,?_,?_⟩
 .exact zdI [(0,some 0),(1,none)] ⟨zwU (zwS s.ns i (i+1) (Xj _)),rfl,tV⟩
 rintro k ⟨v,w⟩
 refine⟨λg:(k:Int)<e=>?_,λg=>?_⟩
 .refine wb λx f=>?_;have ex:=zmK (show s.ns[k]?=some x from f);have o:=zFe a v (show k<e by omega);have y:=zwT s.ns i k;refine⟨λc:x.d=n.d+1=>?_,λc:¬x.d=n.d+1=>?_⟩
  .refine⟨Int,zN,[(k:Int)],rfl,wb3 ?_⟩;refine⟨[(k:Int)],rfl,Ob.mk ⟨by show(((zeS s.ns i k).length:Int)+1)*8<=_;omega,by rw[X2];omega,dC,λx f=>by rw[Xt.1 f];rfl⟩ ?_⟩;exact wa<|⟨k+1,⟨oM,oM⟩,zt [0,3] ⟨aR (zwR (o.2 oM)).symm,rfl,tV⟩,oN⟩
  exact wa<|⟨k+1,⟨oM,oM⟩,zt [0,1] ⟨aR (zqy λq=>by have:=o.1 q;omega).symm,rfl,tV⟩,oN⟩
 obtain rfl:k=e:=by have g:¬(k:Int)<e:=g;omega
 refine z6 ?_;have:=ztk B a (s.ns.length-k) oM;rw[show k+(s.ns.length-k)=s.ns.length by omega]at this;exact this.symm
def zFg(s:Sc)(i:Nat)(ht:zca s)(hi:inS s i):CX 99 [wq s,i64 i] (.sl zN (zaZ s i)):=by
 have h:=yR hi.1;have a:=yK hi.1;refine zc func99<|⟨Int,zN,[],rfl,wb2 ?_⟩;refine⟨λ_=>?_,λk=>by have k:¬¬(i:Int)= -1:=k;omega⟩;refine wg (zs3 s i ht)<|⟨λk=>absurd hi k,λ_=>?_⟩;refine wg (zbQ s ht)<|⟨λk=>absurd hi.1 k,λ_=>?_⟩;refine⟨Nat,λk=>⟨[(6,i64 k),(5,.own 1),(2,.loc 0 0),(1,i64 i)],[(1,.arr 3 zN 1 (zeS s.ns i k)),(0,.box 26 (scE s))],2,40,0⟩,λk=>k<=s.ns.length,λk=>s.ns.length-k,0,Xh _,zf [0,1],?_⟩
 rintro k d
 have d:k<=s.ns.length:=d;intro j;refine⟨λg:(k:Int)<s.ns.length=>?_,λg=>?_⟩
 .obtain⟨y,n⟩:∃y,s.ns[k]?=some y:=⟨_,Xb oM⟩;refine wg (zCn s.ns k y n a h) ?_;have f:=zwT s.ns i k;refine⟨λc:yn (zJ s.ns) k=i=>?_,λc:¬yn (zJ s.ns) k=i=>?_⟩
  .refine⟨Int,zN,[(k:Int)],rfl,wb3 ?_⟩;refine⟨[(k:Int)],rfl,Ob.mk ⟨by show(((zeS s.ns i k).length:Int)+1)*8<=_;omega,by rw[X2];omega,dC,λx m=>by rw[Xt.1 m];rfl⟩ ?_⟩;exact wa<|⟨k+1,by show k+1<=s.ns.length;omega,zt [0,3] ⟨aR (zwR c).symm,rfl,tV⟩,oN⟩
  exact wa<|⟨k+1,by show k+1<=s.ns.length;omega,zt [0,1] ⟨aR (zqy c).symm,rfl,tV⟩,oN⟩
 obtain rfl:k=s.ns.length:=by have g:¬(k:Int)<s.ns.length:=g;omega
 exact .refl
def zGa(s:Sc)(i:Int)(ht:zca s):CX 48 [wq s,i64 i] (.sl zN (jq s i)):=by
 refine zc func48<|wg (zCd s i ht)<|⟨λh=>by rw[show jq s i=[] from Xc h];exact zD,λh=>?_⟩;have h:inS s i:=Xa.1 h;obtain⟨i,rfl⟩:∃k:Nat,i=(k:Int):=⟨i.toNat,by have:=h.2.1;omega⟩;have f:=yR h.1;have c:=yK h.1;have j:i<s.ns.length:=by have:=h.2.2;omega
 have d:jq s i=zaW ((qN (zJ s.ns) i).reverse):=Xe h
 refine⟨Int×LV,λz=>⟨[(6,i64 z.1),(5,.own 1),(2,.loc 0 0)],[(1,.arr 3 zN 1 z.2),(0,.box 26 (scE s))],2,23,0⟩,
  λz=>(-1<=z.1/\z.1<s.ns.length/\z.2.length<=100)/\zaW ((qN (zJ s.ns) z.1).reverse)++z.2=jq s i/\z.1+z.2.length<=64,λz=>(z.1+1).toNat,(i,[]),⟨⟨oN,oN,Xh _⟩,by rw[d,XE],by dsimp only;rw[Xo];omega⟩,zB [(0,some 0),(1,none)],?_⟩
 rintro⟨k,out⟩ ⟨⟨o,r,t⟩,a,u⟩
 dsimp only at o r t a u ⊢;refine⟨λg:0<=k=>?_,λg:¬0<=k=>?_⟩
 .obtain⟨k,rfl⟩:∃q:Nat,k=(q:Int):=⟨k.toNat,oM⟩;obtain⟨y,n⟩:∃y,s.ns[k]?=some y:=⟨_,Xb oM⟩;have m:=zfA (zJ s.ns) k;refine⟨Int,zN,[(k:Int)],rfl,wb3 ?_⟩;refine⟨out,rfl,Ob.mk ⟨by show((([(k:Int)]:LV).length:Int)+(out.length:Int))*8<=_;rw[X2];omega,by rw[X2];omega,dC,λ_ _=>rfl⟩ ?_⟩;refine wg (zCe s.ns k y n c f) ?_
  refine⟨(yn (zJ s.ns) k,(k:Int)::out),⟨⟨m.1,oN,by dsimp only;rw[Xm];omega⟩,?_,by dsimp only;rw[Xm];omega⟩,zf [0,3],oN⟩;dsimp only;rw[←a,jC (zJ s.ns) k,List.reverse_cons];unfold zaW;rw[Xz,XL];rfl
 rw[zbk oM]at a;exact z6 a
def zji{s:Sc}{i:Int}(h:(kj s i).2=0):inS s i:=zan.2 λk=>by rw[h]at k;exact absurd k dC
def zwV(s:Sc)(i:Int)(ht:ji s):CX 64 [wq s,i64 i] (.sl zk (vq s i)):=by
 refine zc func64<|wg (zkt s i ht) ?_;have nil:vq s i=[]->LE nS (.sl zk (vq s i)):=λh=>by rw[h];exact zD
 refine⟨λh=>nil ?_,λd=>?_⟩
 .unfold vq uS;rw[Xe (show(kj s i).2≠0 from h)];split <;> rfl
 have d:(kj s i).2=0:=Xa.1 d;have a:=zji d;obtain⟨n,m⟩:=uT a;have hi:=(Xd.1 m).1;have o:=a.2;have f:=zdv a m;have get:∀x,s.ns[i.toNat]?=some x->x=n:=λx c=>Xl (c.symm.trans m)
 refine wb λx c=>?_;rw[get x c];refine⟨λh=>nil ?_,λg=>?_⟩
 .exact Xe (.inl (by rw[f];exact h))
 have g:n.k=2:=Xa.1 g;refine wb λx c=>?_;rw[get x c];intro _;refine⟨λh=>nil ?_,λj=>?_⟩
 .have h:(n.fill.length:Int)=0:=h;exact Xe (.inr (by rw[f];omega))
 have j:¬(n.fill.length:Int)=0:=j;refine wc<|wb λx c=>?_;rw[get x c];refine wg (zqg n.path (kj s i).1 32 ((zaJ s i).up dC)) ?_
 have e:vq s i=(yx n.path (kj s i).1 32).1:=by
  unfold vq uS;rw[f,Xc (λk=>k.elim (λk=>k g) λk=>j oM),Xc (λk=>k d)]
 rw[e];exact .refl
def zwW(s:Sc)(i:Int)(ht:ji s):CX 65 [wq s,i64 i] (.sl zk (vT s i)):=by
 refine zc func65<|wg (zkt s i ht) ?_;have nil:vT s i=[]->LE nS (.sl zk (vT s i)):=λh=>by rw[h];exact zD
 refine⟨λh=>nil ?_,λd=>?_⟩
 .unfold vT;rw[Xe (show(kj s i).2≠0 from h)];split <;> rfl
 have d:(kj s i).2=0:=Xa.1 d;have c:=zji d;obtain⟨n,m⟩:=uT c;have hi:=(Xd.1 m).1;have o:=c.2;have f:=zdv c m;have get:∀x,s.ns[i.toNat]?=some x->x=n:=λx a=>Xl (a.symm.trans m)
 refine wb λx a=>?_;rw[get x a];refine⟨λh=>nil ?_,λg=>?_⟩
 .exact Xe (.inl (by rw[f];exact h))
 have g:n.k=2:=Xa.1 g;refine wb λx a=>?_;rw[get x a];intro _;refine⟨λh=>nil ?_,λj=>?_⟩
 .have h:(n.strk.length:Int)=0:=h;exact Xe (.inr (by rw[f];omega))
 have j:¬(n.strk.length:Int)=0:=j;refine wc<|wb λx a=>?_;rw[get x a];refine wb λx a=>?_;rw[get x a];refine wg (zyJ n.path n.pen (kj s i).1 32 ((zaJ s i).up dC)) ?_
 have e:vT s i=(zaV n.path n.pen (kj s i).1 32).1:=by
  unfold vT;rw[f,Xc (λk=>k.elim (λk=>k g) λk=>j oM),Xc (λk=>k d)]
 rw[e];exact .refl
def zCJ(s:Sc)(i:Int)(ht:ji s):CX 66 [wq s,i64 i] (.sl zk (zdu s i)):=by
 refine zc func66<|wg (zkt s i ht) ?_;have nil:zdu s i=[]->LE nS (.sl zk (zdu s i)):=λh=>by rw[h];exact zD
 refine⟨λh=>nil ?_,λd=>?_⟩
 .unfold zdu uS;rw[Xe (show(kj s i).2≠0 from h)];split <;> rfl
 have d:(kj s i).2=0:=Xa.1 d;have a:=zji d;obtain⟨n,g⟩:=uT a;have hi:=(Xd.1 g).1;have m:=a.2;have j:=zdv a g;have get:∀x,s.ns[i.toNat]?=some x->x=n:=λx c=>Xl (c.symm.trans g)
 refine wb λx c=>?_;rw[get x c];refine⟨λh=>nil ?_,λf=>?_⟩
 .exact Xe (by rw[j];exact h)
 have f:n.k=3:=Xa.1 f;refine wc<|wb λx c=>?_;rw[get x c];refine wb λx c=>?_;rw[get x c];refine wg (zjH 0 0 n.im.w n.im.h)<|wg (zqg (za2 0 0 n.im.w n.im.h) (kj s i).1 32 ((zaJ s i).up dC)) ?_
 have e:zdu s i=(yx (za2 0 0 n.im.w n.im.h) (kj s i).1 32).1:=by
  unfold zdu uS;rw[j,Xc (λk=>k f),Xc (λk=>k d)]
 rw[e];exact .refl
def zqz(s:Sc)(p:Pt)(k:Int):Prop:=0<(zT s k).clip.length->yk (zoD s k) (zT s k).cr p
instance (s:Sc) (p:Pt) (k:Int):Decidable (zqz s p k):=inferInstanceAs (Decidable (_->_))
def uB(s:Sc)(i:Int)(p:Pt):Prop:=inS s i/\zm p/\∀k∈jq s i,zqz s p k
instance (s:Sc) (i:Int) (p:Pt):Decidable (uB s i p):=wi
def zoR(s:Sc)(k:Int):kC (zoD s k):=by
 unfold zoD;split
 .exact zbm
 exact zjf _ _
def zqA{s:Sc}{i k:Int}(h:k∈jq s i):inS s i/\inS s k:=by
 unfold jq at h
 split at h
 .rename_i hi;obtain⟨a,c,rfl⟩:=XK.1 h;obtain⟨i,rfl⟩:∃q:Nat,i=(q:Int):=⟨i.toNat,by have:=hi.2.1;omega⟩;have:=ztb (i+1) i oM a (List.mem_reverse.1 c);exact⟨hi,hi.1,oM,by have:=hi.2.2;omega⟩
 cases h
def zH7{s:Sc}{i:Int}(h:inS s i):(jq s i).length≠0:=by
 obtain⟨i,rfl⟩:∃q:Nat,i=(q:Int):=⟨i.toNat,by have:=h.2.1;omega⟩;rw[show jq s i=_ from Xe h,jC];simp
def zia{s:Sc}{k:Int}(h:inS s k){n:Nd}(a:s.ns[k.toNat]?=some n):n=zT s k:=(zdv h a).symm
variable{x:Int}
def zcT{l:LV}{j:Nat}{P:Int->Prop}(d:l[j]?=some x)(h:∀k∈l.take j,P k)(c:P x):∀k∈l.take (j+1),P k:=λk a=>by
 rw[Xn,d]at a
 rcases Xu.1 a with q|q
 .exact h k q
 rw[show k=x by simpa using q];exact c
def zFh(s:Sc)(i:Int)(p:Pt)(ht:ji s):CX 37 [wq s,i64 i,wk p] (pr (uB s i p)):=by
 refine zc func37<|wg (zGa s i ht.tame) λo=>?_;refine⟨λh=>zd λk=>zH7 k.1 (by have h:((jq s i).length:Int)=0:=h;omega),λh=>?_⟩;have h:¬((jq s i).length:Int)=0:=h;refine wg (qe p)<|⟨λh=>zd λk=>h k.2.1,λf=>?_⟩;have f:zm p:=Xa.1 f;intro t
 refine⟨Nat,λj=>⟨[(25,i64 j),(24,i64 ((jq s i).length:Int)),(23,.sl zN (jq s i)),(5,.loc 1 0),(3,.loc 0 0)],[(1,.box 28 (ptE p)),(0,.box 26 (scE s))],2,49,0⟩,
  λj=>j<=(jq s i).length/\∀k∈(jq s i).take j,zqz s p k,λj=>(jq s i).length-j,0,⟨Xh _,λk a=>by cases a⟩,zf [0,1],?_⟩
 rintro j ⟨u,d⟩
 refine⟨λg:(j:Int)<(jq s i).length=>?_,λg:¬(j:Int)<(jq s i).length=>?_⟩
 .refine wb λk(a:(jq s i)[j]?=some k)=>?_;have m:=Xf a;obtain⟨_,hi⟩:=zqA m;refine wg (zE4 s k ht)<|wc<|Br.mk (λc=>?_) (λc=>?_)
  .refine Ob.mk hi.2 λn r=>?_;rw[zia hi r];refine wg (zh8 _ _ p (zoR s k))<|⟨λq=>zd λz=>q (z.2.2 k m c),λq=>?_⟩;exact wa<|⟨j+1,⟨oM,zcT a d λ_=>Xa.1 q⟩,zf [0,1],oN⟩
  exact wa<|⟨j+1,⟨oM,zcT a d λq=>absurd q c⟩,zf [0,1],oN⟩
 rw[Xi oM]at d;refine zH ⟨?_,f,d⟩;obtain⟨k,a⟩:∃k,k∈jq s i:=Jd _ λq=>h (by rw[q];rfl)
 exact(zqA a).1
def zFi(s:Sc)(i:Int):CX 145 [wq s,i64 i] (pr (0<=i/\i<s.ns.length)):=by
 refine zc func145<|Br.mk (λh=>?_) (λh=>zd λk=>h k.1);intro a;exact zC ⟨λk=>⟨h,k⟩,λk=>k.2⟩
def zFj(s:Sc)(i:Int)(p:Pt)(ht:ji s):CX 97 [wq s,i64 i,wk p] (pr (uB s i p)):=by
 refine zc func97<|wg (zbQ s ht.tame)<|⟨λh=>zd λk=>h k.1.1,λo=>?_⟩;refine wg (zFi s i)<|⟨λh=>zd λk=>h k.1.2,λr=>?_⟩;refine wg (ki p)<|⟨λh=>zd λk=>h k.2.1,λt=>?_⟩;have v:inS s i:=⟨Xa.1 o,Xa.1 r⟩;refine wg (zCp s i ht.tame) ?_
 refine⟨Nat,λj=>⟨[(8,i64 j),(7,.sl zN (jq s i)),(5,.loc 1 0),(3,.loc 0 0)],[(1,.box 28 (ptE p)),(0,.box 26 (scE s))],2,59,0⟩,
  λj=>j<=(jq s i).length/\∀k∈(jq s i).take j,zqz s p k,λj=>(jq s i).length-j,0,⟨Xh _,λk a=>by cases a⟩,zf [0,1],?_⟩
 rintro j ⟨y,d⟩
 intro w;refine⟨λg:(j:Int)<(jq s i).length=>?_,λg:¬(j:Int)<(jq s i).length=>?_⟩
 .refine wc<|wb λk(a:(jq s i)[j]?=some k)=>?_;have get:∀z,(jq s i)[j]?=some z->z=k:=λz f=>Xl (f.symm.trans a)
  have m:=Xf a;obtain⟨_,hi⟩:=zqA m;refine wg (zE5 s k ht)<|wc<|Br.mk (λc=>?_) (λc=>?_)
  .refine wb λz f=>?_;rw[get z f];refine Ob.mk hi.2 λn u=>?_;rw[zia hi u];refine wg (zh9 _ _ p (zoR s k))<|⟨λq=>zd λz=>q (z.2.2 k m c),λq=>?_⟩;exact wa<|⟨j+1,⟨oM,zcT a d λ_=>Xa.1 q⟩,zf [0,1],oN⟩
  exact wa<|⟨j+1,⟨oM,zcT a d λq=>absurd q c⟩,zf [0,1],oN⟩
 rw[Xi oM]at d;exact zH ⟨v,Xa.1 t,d⟩
def onB(s:Sc)(p:Pt):Nat->Int->Bool
 |0,_=>false
 |f+1,i=>decide (uB s i p)&&(if (zT s i).k=2 then decide (yk (vq s i) (zT s i).rule p)||decide (yk (vT s i) 1 p)
   else if (zT s i).k=3 then decide (yk (zdu s i) 1 p) else(zaZ s i.toNat).any (onB s p f))
def zwX(s:Sc)(p:Pt)(f:Nat)(i:Int):onB s p (f+1) i=(decide (uB s i p)&&(if (zT s i).k=2 then decide (yk (vq s i) (zT s i).rule p)||decide (yk (vT s i) 1 p)
  else if (zT s i).k=3 then decide (yk (zdu s i) 1 p) else(zaZ s i.toNat).any (onB s p f))):=rfl
def zkv{s:Sc}{p:Pt}{f:Nat}{i:Int}(h:¬uB s i p):¬onB s p (f+1) i=true:=by
 rw[zwX,decide_eq_false h];simp
def zmN{s:Sc}{p:Pt}{f:Nat}{i:Int}(h:uB s i p)(k:(zT s i).k=2):onB s p (f+1) i=true↔yk (vq s i) (zT s i).rule p∨yk (vT s i) 1 p:=by
 rw[zwX,decide_eq_true h,Xe k];simp
def zCK{s:Sc}{p:Pt}{f:Nat}{i:Int}(h:uB s i p)(a:¬(zT s i).k=2)(k:(zT s i).k=3):onB s p (f+1) i=true↔yk (zdu s i) 1 p:=by
 rw[zwX,decide_eq_true h,Xc a,Xe k];simp
def zGb{s:Sc}{p:Pt}{f:Nat}{i:Int}(h:uB s i p)(a:¬(zT s i).k=2)(k:¬(zT s i).k=3):onB s p (f+1) i=true↔∃j∈zaZ s i.toNat,onB s p f j=true:=by
 rw[zwX,decide_eq_true h,Xc a,Xc k];simp
def zmO(s:Sc)(i:Int):kC (vq s i):=zdw s i _ (by simp[vg])
def zmP(s:Sc)(i:Int):kC (vT s i):=zdw s i _ (by simp[vg])
def zoS(s:Sc)(i:Int):kC (zdu s i):=zdw s i _ (by simp[vg])
def g_on1(s:Sc)(p:Pt)(ht:ji s)(f:Nat)(i:Int)(u:inS s i->∀k∈zaZ s i.toNat,CX 15 [wq s,i64 k,wk p] (pr (onB s p f k=true))):
  CX 15 [wq s,i64 i,wk p] (pr (onB s p (f+1) i=true)):=by
 refine zc func15<|wg (zFh s i p ht)<|⟨λh=>zd (zkv h),λh=>?_⟩;have h:uB s i p:=Xa.1 h;have hi:=h.1;refine Ob.mk hi.2 λn t=>?_;rw[zia hi t];refine⟨λa=>?_,λa=>?_⟩
 .refine wc<|wg (zwC s i ht)<|wg (zh8 _ _ p (zmO s i))<|⟨λc=>zH ((zmN h a).2 (.inl c)),λc=>?_⟩;exact wg (zwH s i ht)<|wg (zh8 _ _ p (zmP s i))<|zC ⟨λq=>(zmN h a).2 (.inr q),λq=>((zmN h a).1 q).resolve_left c⟩
 refine⟨λo=>?_,λo=>?_⟩
 .exact wc<|wg (zCt s i ht)<|wg (zh8 _ _ p (zoS s i))<|zC (zCK h a o).symm
 have e:=zGb (f:=f) h a o;obtain⟨i,rfl⟩:∃q:Nat,i=(q:Int):=⟨i.toNat,by have:=hi.2.1;omega⟩;refine wg (zH6 s i ht.tame hi) λv=>?_
 refine⟨Nat,λj=>⟨[(49,i64 j),(48,i64 ((zaZ s i).length:Int)),(47,.sl zN (zaZ s i)),(5,.loc 1 0),(3,.loc 0 0)],[(1,.box 28 (ptE p)),(0,.box 26 (scE s))],2,58,0⟩,
  λj=>j<=(zaZ s i).length/\∀k∈(zaZ s i).take j,¬onB s p f k=true,λj=>(zaZ s i).length-j,0,⟨Xh _,λk d=>by cases d⟩,zf [0,1],?_⟩
 rintro j ⟨w,r⟩
 refine⟨λg:(j:Int)<(zaZ s i).length=>?_,λg:¬(j:Int)<(zaZ s i).length=>?_⟩
 .refine wb λk(d:(zaZ s i)[j]?=some k)=>?_;have m:=Xf d;refine wg (u hi k m)<|⟨λc=>zH (e.2 ⟨k,m,c⟩),λc=>?_⟩;exact wa<|⟨j+1,⟨oM,zcT d r c⟩,zf [0,1],oN⟩
 rw[Xi oM]at r;refine zd λq=>?_
 obtain⟨k,m,c⟩:=e.1 q;exact r k m c
def k_on1(s:Sc)(p:Pt)(ht:ji s)(f:Nat)(i:Int)(w:inS s i->∀k∈zaZ s i.toNat,CX 59 [wq s,i64 k,wk p] (pr (onB s p f k=true))):
  CX 59 [wq s,i64 i,wk p] (pr (onB s p (f+1) i=true)):=by
 refine zc func59 ?_;have a:¬uB s i p->LE (bl false) (pr (onB s p (f+1) i=true)):=λh=>zd (zkv h)
 refine wg (zbQ s ht.tame)<|⟨λh=>a λk=>h k.1.1,λy=>?_⟩;refine wg (ki p)<|⟨λh=>a λk=>h k.2.1,λz=>?_⟩;refine⟨λh=>a λk=>by have:=k.1.2.1;have h:i<0:=h;omega,λd=>?_⟩;intro u;refine⟨λh=>a λk=>by have:=k.1.2.2;have h:(s.ns.length:Int)<=i:=h;omega,λm=>?_⟩;refine wg (zFj s i p ht)<|Br.mk a (λh=>?_);have h:uB s i p:=Xa.1 h;have hi:=h.1;refine Ob.mk hi.2 λn v=>?_;rw[zia hi v]
 refine⟨λd=>?_,λd=>?_⟩
 .refine wc<|wg (zwV s i ht)<|wg (zh9 _ _ p (zmO s i))<|⟨λc=>zH ((zmN h d).2 (.inl c)),λc=>?_⟩;exact wg (zwW s i ht)<|wg (zh9 _ _ p (zmP s i))<|zC ⟨λq=>(zmN h d).2 (.inr q),λq=>((zmN h d).1 q).resolve_left c⟩
 refine⟨λm=>?_,λm=>?_⟩
 .exact wc<|wg (zCJ s i ht)<|wg (zh9 _ _ p (zoS s i))<|zC (zCK h d m).symm
 have e:=zGb (f:=f) h d m;obtain⟨i,rfl⟩:∃q:Nat,i=(q:Int):=⟨i.toNat,by have:=hi.2.1;omega⟩;refine wg (zFg s i ht.tame hi) ?_
 refine⟨Nat,λj=>⟨[(9,i64 j),(8,.sl zN (zaZ s i)),(5,.loc 1 0),(3,.loc 0 0)],[(1,.box 28 (ptE p)),(0,.box 26 (scE s))],2,82,0⟩,
  λj=>j<=(zaZ s i).length/\∀k∈(zaZ s i).take j,¬onB s p f k=true,λj=>(zaZ s i).length-j,0,⟨Xh _,λk o=>by cases o⟩,zf [0,1],?_⟩
 rintro j ⟨B,t⟩
 intro A;refine⟨λg:(j:Int)<(zaZ s i).length=>?_,λg:¬(j:Int)<(zaZ s i).length=>?_⟩
 .refine wc<|wb λk(o:(zaZ s i)[j]?=some k)=>?_;have r:=Xf o;refine wg (w hi k r)<|⟨λc=>zH (e.2 ⟨k,r,c⟩),λc=>?_⟩;exact wa<|⟨j+1,⟨oM,zcT o t c⟩,zf [0,1],oN⟩
 rw[Xi oM]at t;refine zd λq=>?_
 obtain⟨k,r,c⟩:=e.1 q;exact t k r c
def zqB{s:Sc}{i:Int}(hi:inS s i){k:Int}(c:k∈zaZ s i.toNat){f:Nat}(g:8<=f+1+dN s.ns i.toNat):1<=f/\8<=f+dN s.ns k.toNat:=by
 obtain⟨m,rfl,a,d⟩:=zH5 c;have:=yK hi.1 _ (Xf (Xb a));rw[←zmK (Xb a)]at this;rw[show((m:Int)).toNat=m from rfl];omega
def zGc(s:Sc)(p:Pt)(ht:ji s):∀(f:Nat) (i:Int),1<=f->(inS s i->8<=f+dN s.ns i.toNat)->CX 15 [wq s,i64 i,wk p] (pr (onB s p f i=true))
 |0,_,h,_=>absurd h dC
 |f+1,i,_,h=>g_on1 s p ht f i λhi k a=>zGc s p ht f k (zqB hi a (by have:=h hi;omega)).1 λ_=>(zqB hi a (by have:=h hi;omega)).2
def zGd(s:Sc)(p:Pt)(ht:ji s):∀(f:Nat) (i:Int),1<=f->(inS s i->8<=f+dN s.ns i.toNat)->CX 59 [wq s,i64 i,wk p] (pr (onB s p f i=true))
 |0,_,h,_=>absurd h dC
 |f+1,i,_,h=>k_on1 s p ht f i λhi k a=>zGd s p ht f k (zqB hi a (by have:=h hi;omega)).1 λ_=>(zqB hi a (by have:=h hi;omega)).2
def onS(s:Sc)(p:Pt)(i:Int):Bool:=onB s p 8 i
def zGe{s:Sc}{i:Int}(h:inS s i):8<=((8:Nat):Int)+dN s.ns i.toNat:=by
 obtain⟨n,a⟩:=uT h;rw[zmK a];have:=yK h.1 n (Xf a);omega
def g_on(s:Sc)(p:Pt)(i:Int)(ht:ji s):CX 15 [wq s,i64 i,wk p] (pr (onS s p i=true)):=zGc s p ht 8 i dC zGe
def k_on(s:Sc)(p:Pt)(i:Int)(ht:ji s):CX 59 [wq s,i64 i,wk p] (pr (onS s p i=true)):=zGd s p ht 8 i dC zGe
def ztl(f:SV->SV):∀(L:LP) (t:Nat),kw (L.map λp=>(p.1,f p.2)) t=(kw L t).map f
 |[],_=>rfl
 |(k,s)::r,t=>by
  rw[Qu,zV,zV]
  by_cases h:k=t
  .rw[Xe h,Xe h];rfl
  rw[Xc h,Xc h];exact ztl f r t
def zCM(n:Nat){O:St}:Sub O ⟨O.L.map λp=>(p.1,frz (zO O.M) n p.2),[],O.nk,O.nt,O.n0⟩:=λE Z a w c=>by
 have g:=c.stp;refine⟨Z,c.size,c.defers,λt s f=>?_,qu c.mem.kp λ_ _ h=>c.mem.glc h,c.fresh,⟨g.os,g.tape,g.output,g.size,g.block,λb j=>absurd j zK,g.rho⟩,c.keep,c.low⟩;have f:kw (O.L.map λp=>(p.1,frz (zO O.M) n p.2)) t=some s:=f;rw[ztl (frz (zO O.M) n)]at f
 cases o:kw O.L t with
 |none=>rw[o]at f;cases f
 |some u=>
  rw[o]at f
  cases f
  obtain⟨q,r⟩:=c.regs t u o;exact⟨q,.d _ _ ((zlZ (λk m h=>zu h) c.mem n r).less λb j=>j.resolve_right zK)⟩
def ndK(s:Sc)(i:Nat):Int:=match s.ns[i]? with
 |some n=>n.k
 |none=>0
def ndI(s:Sc)(i:Int):Int:=match s.ns[i.toNat]? with
 |some n=>n.id
 |none=>0
def zmQ{s:Sc}{n:Nd}(h:s.ns[i]?=some n):ndK s i=n.k:=by unfold ndK;rw[h]
def zjj{s:Sc}{i:Int}{n:Nd}(h:s.ns[i.toNat]?=some n):ndI s i=n.id:=by unfold ndI;rw[h]
def atL(s:Sc)(p:Pt):Nat->LV
 |0=>[]
 |n+1=>if ndK s n≠1/\onS s p n=true then(n:Int)::atL s p n else atL s p n
def atA(s:Sc)(p:Pt):LV:=atL s p s.ns.length
def zaK(s:Sc)(p:Pt):LV:=(atA s p).map (ndI s)
def zjk{s:Sc}{n:Nat}(h:ndK s n≠1/\onS s p n=true):atL s p (n+1)=(n:Int)::atL s p n:=Xe h
def ztm{s:Sc}{n:Nat}(h:¬(ndK s n≠1/\onS s p n=true)):atL s p (n+1)=atL s p n:=Xc h
def zwZ{s:Sc}{p:Pt}:∀{n:Nat} {i:Int},i∈atL s p n->0<=i/\i<n
 |n+1,i,h=>by
  unfold atL at h
  split at h
  .rcases XA.1 h with rfl|h
   .omega
   have:=zwZ h;omega
  have:=zwZ h;omega
def zw0(s:Sc)(p:Pt):∀(m n:Nat),(atL s p (n+m)).drop ((atL s p (n+m)).length-(atL s p n).length)=atL s p n/\(atL s p n).length<=(atL s p (n+m)).length
 |0,n=>by rw[XX,QT];exact⟨rfl,Xj _⟩
 |m+1,n=>by
  obtain⟨a,d⟩:=zw0 s p m n;rw[←KL]
  by_cases c:ndK s (n+m)≠1/\onS s p (n+m:Nat)=true
  .rw[zjk c,Xm,show(atL s p (n+m)).length+1-(atL s p n).length=(atL s p (n+m)).length-(atL s p n).length+1 by omega,List.drop_succ_cons];exact⟨a,oM⟩
  rw[ztm c];exact⟨a,d⟩
def atT(s:Sc)(p:Pt)(n:Nat):Nat:=(atA s p).length-(atL s p n).length
def zw1{s:Sc}{n:Nat}(d:n+1<=s.ns.length)(h:ndK s n≠1/\onS s p n=true):(atA s p)[atT s p (n+1)]?=some (n:Int)/\atT s p (n+1)+1=atT s p n:=by
 obtain⟨c,a⟩:=zw0 s p (s.ns.length-(n+1)) (n+1);rw[show n+1+(s.ns.length-(n+1))=s.ns.length by omega]at c a;have e:=Xg (λl=>l[0]?) c;rw[KK,XX,zjk h]at e;rw[zjk h]at a;refine⟨?_,?_⟩
 .unfold atT;rw[zjk h];exact e
 unfold atT atA;rw[zjk h];rw[Xm]at a ⊢;omega
def zqC{s:Sc}{n:Nat}(h:¬(ndK s n≠1/\onS s p n=true)):atT s p (n+1)=atT s p n:=by unfold atT;rw[ztm h]
def zoU(s:Sc)(p:Pt):CX 47 [wq s,wk p] (.dfn 85 [.dptr (scE s),.dptr (ptE p)]):=by
 exact yJ 1 tok mix func47 rfl rfl rfl<|.refl
def zoV(s:Sc)(p:Pt):CX 46 [wq s,wk p] (.dfn 84 [.dptr (scE s),.dptr (ptE p)]):=by
 exact yJ 1 tok mix func46 rfl rfl rfl<|.refl
def zGf(s:Sc)(p:Pt)(ht:ji s):zfY prog 85 [.dptr (scE s),.dptr (ptE p)] zN (atA s p):=by
 refine zkj (caps:=[.dptr (scE s),.dptr (ptE p)]) (enc:=zN) (xs:=atA s p) tok mix func85 rfl rfl rfl rfl (λl=>?_);intro u;refine wa<|⟨Nat,λj=>⟨[(4,i64 ((j:Int)-1)),(2,.dptr (ptE p)),(1,.dptr (scE s)),(0,.val (.func (.yield l) #[] #[]))],[],0,32,0⟩,λj=>atT s p j,λj=>j<=s.ns.length,λj=>j,s.ns.length,Xj _,?_,(QT _).symm,rfl,?_⟩
 .exact zB []
 rintro j o
 have o:j<=s.ns.length:=o;refine⟨λg:0<=(j:Int)-1=>?_,λg=>?_⟩
 .obtain⟨k,rfl⟩:∃k,j=k+1:=⟨j-1,oM⟩;have ek:((k+1:Nat):Int)-1=(k:Int):=oM;have a:some (i64 (((k+1:Nat):Int)-1-1))=some (i64 ((k:Int)-1)):=by rw[ek]
  refine wb λn v=>?_;have q:=zmQ (show s.ns[k]?=some n by rw[←v,ek];rfl);refine⟨λc:¬n.k=1=>?_,λc=>?_⟩
  .refine wg (g_on s p (((k+1:Nat):Int)-1) ht)<|⟨λd=>?_,λd=>?_⟩
   .have f:ndK s k≠1/\onS s p k=true:=⟨by rw[q];exact c,by rw[ek]at d;exact d⟩;obtain⟨r,t⟩:=zw1 o f;refine⟨rfl,(k:Int),r,rfl,.cons (ze ek) .nil,(λk m h=>by cases h),?_⟩;refine Br.mk ?_ (.inl rfl);exact wa<|⟨k,oM,jv [] ⟨a,rfl,rfl,rfl,tV⟩ trivial,t,rfl,oN⟩
   have f:¬(ndK s k≠1/\onS s p k=true):=λh=>d (by rw[ek];exact h.2)
   exact wa<|⟨k,oM,jv [] ⟨a,rfl,rfl,rfl,tV⟩ trivial,zqC f,rfl,oN⟩
  have f:¬(ndK s k≠1/\onS s p k=true):=λh=>c (by rw[←q];exact h.1)
  exact wa<|⟨k,oM,jv [] ⟨a,rfl,rfl,rfl,tV⟩ trivial,zqC f,rfl,oN⟩
 obtain rfl:j=0:=by have g:¬0<=(j:Int)-1:=g;omega
 exact .inr (by unfold atT;rfl)
def zCN(s:Sc)(p:Pt)(ht:ji s):zfY prog 84 [.dptr (scE s),.dptr (ptE p)] zN (zaK s p):=by
 refine zCL (caps:=[.dptr (scE s),.dptr (ptE p)]) (enc:=zN) (xs:=zaK s p) tok mix func84 rfl rfl rfl rfl (λl=>?_);refine wg (zoU s p)<|⟨rfl,rfl,Int,zN,atA s p,[(3,.dptr [.val (.func (.yield l) #[] #[])]),(1,.dptr (scE s))],1,zGf s p ht,λ_=>rfl,⟨rfl,rfl,rfl⟩,(Xv _).symm,(zCM 1).trans (zB []),?_⟩;intro j y a;have c:=zwZ (Xf a);refine .split 7 (Ob.mk (by decide +kernel) ?_);refine Ob.mk c λn d=>?_
 refine⟨rfl,ndI s y,by unfold zaK;rw[XD,a];rfl,rfl,.cons (ze (zjj d).symm) .nil,(λk m h=>by cases h),?_⟩;exact Br.mk ⟨rfl,rfl⟩ rfl
abbrev zCO(T:TypeId):Mem:=.box T [.sl ptE (List.replicate 9223372036854775808 zp)]
def zkw{O:St}{k:Nat}{T:TypeId}(h:(k,zCO T)∈O.M):¬zBi O:=λ⟨E,Z,a,w,f⟩=>by
 obtain⟨b,vs,_,_,d,_,c⟩:=f.mem.rel k _ h
 cases vs with
 |nil=>cases d
 |cons v vs=>exact zwl (c 0 _ v rfl rfl)
def firE(l:LV):SV:=.tup [i64 (l.headD 0),pr (0<l.length)]
def firS(j:Nat):LT:=match j with
 |0=>[(0,.box 3 [i64 0]),(1,.box 4 [bl false])]
 |_+1=>[(0,.box 3 [i64 0]),(1,.box 4 [bl false]),(2,zCO 3)]
def zGg(s:Sc)(p:Pt)(ht:ji s):CX 19 [wq s,wk p] (firE (zaK s p)):=by
 refine vn 1 tok mix func19 rfl rfl rfl<|wg (zoV s p) ?_
 refine⟨Int,zN,zaK s p,2,[(4,.loc 0 0),(5,.loc 1 0)],firS,λ_=>3,zCN s p ht,λ_=>rfl,⟨rfl,rfl,rfl,rfl⟩,
  zf [2,3],⟨Xh _,rfl⟩,λj=>?_,?_,?_⟩
 .intro k m c
  cases j <;> (unfold firS at c;simp only[XA,XW,or_false,KN]at c)
  .obtain⟨_,rfl⟩|⟨_,rfl⟩:=c <;> rfl
  obtain⟨_,rfl⟩|⟨_,rfl⟩|⟨_,rfl⟩:=c <;> rfl
 .intro j y d hL
  cases j with
  |succ j=>exact absurd hL (zkw (k:=2) (T:=3) (.tail _ (.tail _ (.head _))))
  |zero=>
   cases h:zaK s p with
   |nil=>rw[h]at d;cases d
   |cons a r=>
    rw[h]at d;obtain rfl:a=y:=Xl d;refine⟨[(0,.box 3 [i64 a]),(1,.box 4 [bl true])],3,zf [0,1],λk m c=>?_,zP .refl (zH (YZ _))⟩;simp only[XA,XW,or_false,KN]at c
    obtain⟨_,rfl⟩|⟨_,rfl⟩:=c <;> rfl
 intro hL
 cases h:zaK s p with
 |nil=>exact zP .refl (zd dC)
 |cons a r=>rw[h]at hL;exact absurd hL (zkw (k:=2) (T:=3) (.tail _ (.tail _ (.head _))))
def zqD(s:Sc)(p:Pt):LV:=match atA s p with
 |[]=>[]
 |i::_=>(jq s i).map (ndI s)
def wayS(s:Sc)(j:Nat):LT:=match j with
 |0=>[(0,.box 26 (scE s)),(1,.box 32 [.own 2]),(2,.arr 3 zN 1 [])]
 |_+1=>[(0,.box 26 (scE s)),(1,.box 32 [.own 2]),(2,.arr 3 zN 1 []),(3,zCO 3)]
def zyZ(s:Sc)(i:Int):(jq s i).length<=64:=by
 unfold jq;split
 .rename_i h;obtain⟨n,a⟩:=uT h;obtain⟨i,rfl⟩:∃q:Nat,i=(q:Int):=⟨i.toNat,by have:=h.2.1;omega⟩;have a:s.ns[i]?=some n:=a;have c:=yK h.1 n (Xf a);have:=zfB (zaH h.1) (d:=n.d.toNat) (i:=i) (by rw[yY a];congr 1;omega);rw[Xv,Qa,this];omega
 exact Xh _
def zGh(s:Sc)(p:Pt)(ht:ji s):CX 21 [wq s,wk p] (.sl zN (zqD s p)):=by
 refine vn 1 tok mix func21 rfl rfl rfl<|wg (zoU s p) ?_
 refine⟨Int,zN,atA s p,2,[(2,.loc 0 0),(5,.loc 1 0)],wayS s,λ_=>4,zGf s p ht,λ_=>rfl,⟨rfl,rfl,rfl,rfl⟩,
  zB [(0,some 0),(1,some 2),(2,none)],⟨Xh _,rfl⟩,λj=>?_,?_,?_⟩
 .intro k m c
  cases j <;> (unfold wayS at c;simp only[XA,XW,or_false,KN]at c)
  .obtain⟨_,rfl⟩|⟨_,rfl⟩|⟨_,rfl⟩:=c <;> first|rfl|trivial
  obtain⟨_,rfl⟩|⟨_,rfl⟩|⟨_,rfl⟩|⟨_,rfl⟩:=c <;> first|rfl|trivial
 .intro j y d hL
  cases j with
  |succ j=>exact absurd hL (zkw (k:=3) (T:=3) (.tail _ (.tail _ (.tail _ (.head _)))))
  |zero=>
  have z:=zyZ s y;refine wg (zGa s y ht.tame) λw=>?_
  have e:zqD s p=(jq s y).map (ndI s):=by
   unfold zqD
   cases hL:atA s p with
   |nil=>rw[hL]at d;cases d
   |cons a r=>rw[hL]at d;rw[show y=a from(Xl d).symm]
  refine⟨Nat,λq=>⟨[(17,i64 q),(16,i64 ((jq s y).length:Int)),(15,.sl zN (jq s y)),(5,.loc 1 0),(2,.loc 0 0)],[(0,.box 26 (scE s)),(1,.box 32 [.own 2]),(2,.arr 3 zN 1 (((jq s y).take q).map (ndI s)))],4,32,2⟩,
   λq=>q<=(jq s y).length,λq=>(jq s y).length-q,0,Xh _,zf [0,1,2],?_⟩
  rintro q t
  have t:q<=(jq s y).length:=t;refine⟨λg:(q:Int)<(jq s y).length=>?_,λg=>?_⟩
  .refine wb λk(f:(jq s y)[q]?=some k)=>?_;obtain⟨_,hi⟩:=zqA (Xf f);have o:(((jq s y).take q).map (ndI s)).length<=64:=by rw[Xv,Xp];omega
   refine wd<|Ob.mk hi.2 λn u=>?_;refine⟨Int,zN,[n.id],rfl,wb3 ?_⟩;refine⟨[n.id],rfl,Ob.mk ⟨by show(((((jq s y).take q).map (ndI s)).length:Int)+1)*8<=_;omega,by rw[X2];omega,dC,λx v=>by rw[Xt.1 v];rfl⟩ ?_⟩;exact wh<|wa<|⟨q+1,by show q+1<=(jq s y).length;omega,zt [0,1,5] ⟨rfl,rfl,aR (by rw[Xn,f,Xz,←zjj u];rfl),tV⟩,oN⟩
  obtain rfl:q=(jq s y).length:=by have g:¬(q:Int)<(jq s y).length:=g;omega
  refine⟨[(0,.box 26 (scE s)),(1,.box 32 [.own 2]),(2,.arr 3 zN 1 (zqD s p))],4,zt [0,1,2] ⟨rfl,rfl,aR (by rw[e,Kc]),tV⟩,λk m c=>?_,.refl⟩;simp only[XA,XW,or_false,KN]at c
  obtain⟨_,rfl⟩|⟨_,rfl⟩|⟨_,rfl⟩:=c <;> first|rfl|trivial
 intro hL;unfold zqD
 cases h:atA s p with
 |nil=>exact .refl
 |cons a r=>rw[h]at hL;exact absurd hL (zkw (k:=3) (T:=3) (.tail _ (.tail _ (.tail _ (.head _)))))
def zoW{s:Sc}{n:Nat}(f:qy s)(a:n<s.ns.length)(d:∀m∈s.ns,1<=m.k/\m.k<=3)(h:ndK s n≠1):(zT s n).k=2∨(zT s n).k=3:=by
 have e:s.ns[n]?=some s.ns[n]:=Xb a;have hi:inS s (n:Int):=⟨f,oM,oM⟩
 have c:zT s n=s.ns[n]:=by
  unfold zT;rw[Xe hi,XU,e];rfl
 rw[zmQ e]at h;have:=d _ (X5 a);rw[c];omega
def ztn{s:Sc}(h:qy s):∀m∈s.ns,1<=m.k/\m.k<=3:=λm a=>by
 obtain⟨i,hi⟩:=JE.1 a;exact(zcR (zbP h hi).1).1
def zto(s:Sc)(p:Pt):∀n,(atL s p n).length<=n
 |0=>Xj _
 |n+1=>by
  have:=zto s p n;unfold atL;split <;> (try rw[Xm]) <;> omega
def zw2{s:Sc}{p:Pt}(h:¬qy s):∀n,atL s p n=[]
 |0=>rfl
 |n+1=>by rw[ztm λc=>zkv (f:=7) (λk=>h k.1.1) c.2];exact zw2 h n
def zmR(s:Sc)(p:Pt):(atA s p).length<=64:=by
 by_cases h:qy s
 .have:=zto s p s.ns.length;have:=yR h;unfold atA;omega
 unfold atA;rw[zw2 h];decide
def zy0(s:Sc)(p:Pt):(zaK s p).length<=64:=by
 unfold zaK;rw[Xv];exact zmR s p
def l_got(s:Sc)(p:Pt)(ht:ji s):CX 20 [wq s,wk p] (.sl zN (zaK s p)):=by
 refine vn 1 tok mix func20 rfl rfl rfl ?_;have g:=zy0 s p;refine wg (zoV s p) ?_
 refine⟨Int,zN,zaK s p,1,[(5,.loc 0 0)],λj=>[(0,.box 32 [.own 1]),(1,.arr 3 zN 1 ((zaK s p).take j))],λ_=>2,zCN s p ht,λ_=>rfl,⟨rfl,rfl,rfl,rfl⟩,
  zB [(0,some 2),(1,none)],⟨Xh _,rfl⟩,λj=>?_,?_,?_⟩
 .intro k m a;simp only[XA,XW,or_false,KN]at a
  obtain⟨_,rfl⟩|⟨_,rfl⟩:=a <;> first|rfl|trivial
 .intro j y f _;have c:((zaK s p).take j).length<=1000:=by rw[Xp];omega
  refine⟨Int,zN,[y],rfl,wb3 ?_⟩;refine⟨[y],rfl,Ob.mk ⟨by show((((zaK s p).take j).length:Int)+1)*8<=_;omega,by rw[X2];omega,dC,λx d=>by rw[Xt.1 d];rfl⟩ ?_⟩;exact zt [0,3] ⟨rfl,aR (by rw[Xn,f];rfl),tV⟩
 exact λ_=>z6 Kc
def zFl{a b:LV}{y:Int}(c:a[i]?=some x)(d:b[i]?=some y)(h:a.take i=b.take i):a.take (i+1)=b.take (i+1)↔x=y:=by
 rw[Xn,Xn,c,d,h];simp
def zjl(a b:LV):CX 11 [.sl zN a,.sl zN b] (pr (a=b)):=by
 refine zc func11 λm=>?_;intro n;refine⟨λh=>zd λk=>h (by rw[k]),λh=>?_⟩;have h:¬¬(a.length:Int)=b.length:=h;refine⟨Nat,λi=>⟨[(5,i64 i),(1,.sl zN b),(0,.sl zN a)],[],0,26,0⟩,λi=>i<=a.length/\a.take i=b.take i,λi=>a.length-i,0,⟨Xh _,rfl⟩,zB [],?_⟩
 rintro i ⟨hi,d⟩
 intro o;refine⟨λg:(i:Int)<a.length=>?_,λg:¬(i:Int)<a.length=>?_⟩
 .refine wc<|wb λx f=>wb λy j=>?_;have e:=zFl f j d;refine⟨λc=>zd λk=>c (e.1 (by rw[k])),λc=>?_⟩;exact wa<|⟨i+1,⟨oM,e.2 (Xa.1 c)⟩,zB [],oN⟩
 rw[Xi oM,Xi oM]at d;exact zH d
def cN(id k d op mode:Int)(pa:SV)(rule:Int)(f:SV):LR:=
 i64 id::i64 k::i64 d::(afE idA++([nS,i64 0,u8 op,i64 mode,bl false,bl false,pa,i64 rule,f]++zCv))
def nN(id k d op mode:Int)(p:LX)(rule:Int)(f:LY):Nd:={ zNd with id:=id,k:=k,d:=d,t:=idA,op:=op,mode:=mode,path:=p,rule:=rule,fill:=f }
variable{mode:Int}{rule:Int}{pa:SV}
def zCP{id k d op:Int}{f:SV}{p:LX}{fl:LY}(c:LE pa (.sl sgE p))(a:LE f (.sl qD fl)):LEs (cN id k d op mode pa rule f) (ndE (nN id k d op mode p rule fl)):=
 .C (.C (.C (LEs.append .refl (.cons zD (.C (.C (.C (.cons (zd λh=>absurd (show false=true from h) dC) (.cons (zd λh=>absurd (show false=true from h) dC) (.cons c (.C (.cons a zE8))))))))))))
def zGi{id k d op:Int}(f g:SV)(j:Nat)(s':SV)(h:(cN id k d op mode pa rule g)[j]?=some s'):∃s,(cN id k d op mode pa rule f)[j]?=some s/\(s'=s∨(s=f/\s'=g)):=by
 have e:cN id k d op mode pa rule g=(cN id k d op mode pa rule f).set 35 g:=rfl;have a:(cN id k d op mode pa rule f).length=47:=rfl;rw[e,KB]at h
 by_cases c:35=j
 .subst c;rw[Xe rfl,Xe (by rw[a];decide)]at h;exact⟨f,rfl,.inr ⟨rfl,(Xl h).symm⟩⟩
 rw[Xc c]at h;exact⟨s',h,.inl rfl⟩
abbrev box1:LX:=za2 0 0 1 1
def pgH:Sc:=⟨4,4,⟨0,0,0,0⟩,[nN 7 2 0 0 0 box1 1 [za3 1],nN 3 1 0 9 1 [] 0 [],nN 5 2 1 0 0 box1 2 [za3 1]]⟩
def zoX(f:SV):LN:=[cN 7 2 0 0 0 (.sl sgE box1) 1 f,cN 3 1 0 9 1 nS 0 nS,cN 5 2 1 0 0 (.sl sgE box1) 2 f]
def zoY(f:SV):∀x∈zoX f,x.length=47:=λx a=>by
 simp only[zoX,XA,XW,or_false]at a
 rcases a with rfl|rfl|rfl <;> rfl
def zFm:CG0 18 [] [] (.agg (scO pgH 0)) [(0,nArr pgH.ns)]:=by
 refine zch tok mix func18 rfl rfl rfl<|wg (zjH 0 0 1 1)<|⟨Unit,uE,[()],rfl,wb0 ?_⟩;refine wg za9<|wg za9<|wg za9<|⟨zoX (.own 1),rfl,Ob.mk ⟨rfl,dC,dC,dC,zoY _⟩ ?_⟩;have pf:LE (.sl uE [()]) (.sl qD [za3 1]):=zBK (e:=uE) (g:=qD) (λ_=>za3 1) (xs:=[()]) λ_ _=>LEs.d zHV rfl
 refine⟨_,((za6 (sz0:=47) (T0:=60) 1 2 (enc:=uE) (ys:=[()]) (xs:=zoX (.own 1)) rfl rfl (xs':=zoX (.sl uE [()])) rfl (zoY _) (λi j x' s' a h=>?_)).trans
  (ze8 2 (xs:=zoX (.sl uE [()])) (ys:=pgH.ns.map ndE) rfl (.cons (zCP .refl pf) (.cons (zCP zD zD) (.cons (zCP .refl pf) .nil))))).trans (zct 2 ndE pgH.ns rfl (λ_ _=>rfl)),some 2,?_,rfl,λ_ _=>rfl⟩
 .match i,a with
  |0,a=>cases a;obtain⟨s,c,f⟩:=zGi (.own 1) _ j s' h;exact⟨_,s,rfl,c,f⟩
  |1,a=>cases a;exact⟨_,s',rfl,h,.inl rfl⟩
  |2,a=>cases a;obtain⟨s,c,f⟩:=zGi (.own 1) _ j s' h;exact⟨_,s,rfl,c,f⟩
  |i+3,a=>cases a
 exact zzQ (.cons (zbx rfl) (.cons (zbx rfl) (.cons (zbx rfl) (.cons (zbx rfl) (.cons (zbx rfl) (.cons (zbx rfl) (.cons (.own 2 rfl) .nil)))))))
def zFn:CX 18 [] (wq pgH):=zFm.plain rfl
def bxK(s:Sc)(k:Nat):Rc:=if ndK s k≠1 then zao s k else qj
def bxN(s:Sc)(n:Nat):List Rc:=(List.range s.ns.length).map λk=>if k<n then bxK s k else qj
def arN(s:Sc):Nat->Rc
 |0=>qj
 |n+1=>if ndK s n≠1 then zbW (arN s n) (zao s n) else arN s n
def enN(b:List Rc)(n:Nat):LV:=((List.range n).filter λk=>decide (¬(b.getD k qj).mt)).map λk:Nat=>(k:Int)
def zdD(s:Sc)(n:Nat):(bxN s n).length=s.ns.length:=by unfold bxN;rw[Xv,Kk]
def zmS{s:Sc}{n k:Nat}(h:k<s.ns.length):(bxN s n)[k]?=some (if k<n then bxK s k else qj):=by
 unfold bxN;rw[XD,KV h];rfl
def zFo{s:Sc}{n:Nat}(h:n<s.ns.length)(d:ndK s n≠1):(bxN s n).set n (zao s n)=bxN s (n+1):=by
 refine KA λj=>?_
 by_cases a:j<s.ns.length
 .rw[KB,zmS a,zmS a,zdD]
  by_cases c:n=j
  .subst c;rw[Xe rfl,Xe h,Xe oM];unfold bxK;rw[Xe d]
  rw[Xc c]
  by_cases q:j<n
  .rw[Xe q,Xe oM]
  rw[Xc q,Xc oM]
 rw[XH (by rw[XO,zdD];omega),XH (by rw[zdD];omega)]
def zCQ{s:Sc}{n:Nat}(a:¬ndK s n≠1):bxN s (n+1)=bxN s n:=by
 unfold bxN;refine KW λk _=>?_
 by_cases c:k=n
 .subst c;rw[Xe oM,Xc oM];unfold bxK;rw[Xc a]
 by_cases q:k<n
 .rw[Xe oM,Xe q]
 rw[Xc oM,Xc q]
variable{b:List Rc}
def zmT{n:Nat}(h:¬(b.getD n qj).mt):enN b (n+1)=enN b n++[(n:Int)]:=by
 unfold enN;rw[KH,Km,Xz,KF,Xe (decide_eq_true h)];rfl
def zCR{n:Nat}(h:(b.getD n qj).mt):enN b (n+1)=enN b n:=by
 unfold enN;rw[KH,Km,Xz,KF,Xc (by simpa using h)];exact XE _
def zCS(b:List Rc)(n:Nat):(enN b n).length<=n:=by
 unfold enN;rw[Xv];have:=Qc (λk=>decide (¬(b.getD k qj).mt)) (List.range n)
 rwa [Kk]at this
def quE(a:Rc)(c:SV):LR:=rcE a++[c,nS]
end Go.Gs
