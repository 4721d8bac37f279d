/- Natural numbers, the program's: a multiple taken off a part of a row. -/
import Derived.Test.YtdkomlilfdbahaaGreatDoorMAM
import Derived.Laws.MathBits
set_option maxRecDepth 100000
set_option maxHeartbeats 80000000
set_option linter.all false
namespace Go.Gs
open Proofs.Tryz
open Go.Proofs
def yh(k n:Nat):LB:=(List.range k).map λi=>dof (n/4294967296^i)
def yB(k n:Nat):(yh k n).length=k:=by simp[yh]
def zAb{xs ys:LB}(c:xs.length=ys.length)(h:∀i,i<xs.length->dig xs i=dig ys i):xs=ys:=by
 refine List.ext_getElem c λi a b=>Fin.ext ?_
 have:=h i a
 rwa [zX (Xb a),zX (Xb b)]at this
def zvH(w:LB):yh w.length (val w)=w:=by
 refine zAb (yB _ _) λi hi=>?_
 rw[yB]at hi;rw[zDK w i];have:(yh w.length (val w))[i]?=some (dof (val w/4294967296^i)):=by simp[yh,hi]
 rw[zX this,kA]
def zvI{k n:Nat}(h:n<4294967296^k):val (yh k n)=n:=by
 have:=zeg (xs:=yh k n) (N:=n) (λj a=>by
  rw[yB]at a;have e:(yh k n)[j]?=some (dof (n/4294967296^j)):=by simp[yh,a]
  rw[zX e,kA])
 rw[yB,XB h]at this;exact this
def zkd{pre w post:LB}{i:Nat}(h:i<w.length):(pre++(w++post))[pre.length+i]?=w[i]? :=by
 rw[XG oM,Yr,XN h]
def zke{pre w post:LB}{i:Nat}{d:Dig}(h:i<w.length):(pre++(w++post)).set (pre.length+i) d=pre++(w.set i d++post):=by
 rw[YH _ _ oM,Yr,List.set_append_left _ _ h]
def zrB(W V:LB)(q:Nat):LB:=yh W.length (if val W<q*val V then val W+4294967296^W.length-q*val V else val W-q*val V)
def zGK{x:Nat}{e:Int}(h:e=x):vy .and .u64 e 4294967295=((x%4294967296:Nat):Int):=by rw[h];exact zvF x
def zlp{u lo b:Nat}(d:u<4294967296)(c:lo<4294967296)(a:b<=1):
  ((dof (8589934592+u-lo-b)).val:Int)=IntKind.u32.wrap (IntKind.u64.wrap (IntKind.u64.wrap ((u:Int)-lo)-b))/\
  IntKind.u64.wrap (IntKind.u64.wrap ((u:Int)-lo)-b)/2^63=(((if u<lo+b then 1 else 0:Nat)):Int)/\
  (8589934592+u-lo-b)%4294967296+lo+b=u+4294967296*(if u<lo+b then 1 else 0):=by
 rw[zlj,yr,yr,kA];simp only[Int.reducePow];refine⟨oM,?_,?_⟩
 .split <;> omega
 split <;> omega
def zGL(pre W post V:LB)(q:Nat)(hW:W.length=V.length+1)(M:q<=4294967296):
  CG0 470 [.win 0 1 (pre.length:Int) (W.length:Int),.sl dgE V,u64 q] [(0,qC (pre++(W++post)))] (pr (val W<q*val V)) [(0,qC (pre++(zrB W V q++post)))]:=by
 refine ux tok mix func470 rfl rfl rfl (qW _) rfl λK=>?_
 refine⟨Nat×LB×Nat×Nat,λ⟨i,w,c,b⟩=>⟨[(15,i64 i),(14,i64 V.length),(13,.sl dgE V),(7,u64 c),(8,u64 b),(0,.win 0 1 (pre.length:Int) (W.length:Int)),(1,.sl dgE V),(2,u64 q)],[(0,qC (pre++(w++post)))],1,65,1⟩,
  λs=>s.1<=V.length/\s.2.1.length=W.length/\s.2.2.1<4294967296/\s.2.2.2<=1/\(∀j,s.1<=j->dig s.2.1 j=dig W j)/\val (s.2.1.take s.1)+q*val (V.take s.1)=val (W.take s.1)+4294967296^s.1*(s.2.2.1+s.2.2.2),
  λs=>V.length-s.1,(0,W,0,0),?_,?_,?_⟩
 .exact⟨Xh _,rfl,oN,Xh _,λ_ _=>rfl,by simp[val]⟩
 .exact zf [0]
 rintro⟨i,w,c,b⟩ ⟨I,g,H,t,k,v⟩
 dsimp only at I g H t k v;have d:(pre++(w++post)).length=pre.length+W.length+post.length:=by simp[g];omega
 refine⟨λQ=>?_,λQ=>?_⟩
 .refine wb λy(N:V[i]?=some y)=>?_;have dy:=zX N;have O:=y.isLt;have U:q*y.val<=4294967296*4294967295:=QE M oM;refine wa<|Ar.fit (by rw[←Ke];omega)<|Ar.fit (by rw[←Ke];omega)<|wb6<|Ob.mk (by rw[d];omega) λu e=>?_;have e:w[i]?=some u:=by rw[←zkd (pre:=pre) (post:=post) oM,←e];congr 1
  have du:=zX e;have f:=u.isLt;refine wa ?_;have ex:(c:Int)+(q:Int)*(y.val:Int)=((c+q*y.val:Nat):Int):=by simp
  refine⟨_,(zGK ex).symm,?_⟩;rw[ex];generalize hX:c+q*y.val=X at*;obtain⟨o,r,B⟩:=zlp (u:=u.val) (lo:=X%4294967296) (b:=b) f (Kq _ dC) t;refine Ar.wrap<|Ar.wrap<|Ar.wrap<|wb6<|Ob.mk (by rw[d];omega) λz P=>?_;refine⟨dof (8589934592+u.val-X%4294967296-b),Xg (λn=>[u32 n]) o,?_⟩;refine wb1<|wb1<|wa ?_;generalize (if u.val<X%4294967296+b then 1 else 0)=m at*;have x:m<=1:=oM
  refine⟨(i+1,w.set i (dof (8589934592+u.val-X%4294967296-b)),X/4294967296,m),⟨oN,by simp[g],oN,x,λj J=>?_,?_⟩,
   kM [(0,some 0)] rfl rfl rfl ⟨rfl,rfl,rfl,Xg (λn=>some (u64 n)) (by simp only[Int.reducePow];omega),Xg (λn=>some (u64 n)) r,rfl,rfl,rfl,tV⟩
    ⟨Xg (λl=>some (qC l)) (by rw[←zke oM];congr 1),tV⟩,oN⟩
  .dsimp only at J ⊢;rw[jY,Xc oM];exact k j oM
  dsimp only;rw[zU,zU,zU,X4,dy,jY,Xe ⟨rfl,oM⟩,kA,←k i (Xj _),du];have ht:(w.set i (dof (8589934592+u.val-X%4294967296-b))).take i=w.take i:=by rw[Jg oM]
  rw[ht];have T:=Kh X 4294967296;exact zxH v oM B
 have hi:i=V.length:=by omega
 subst hi;intro L;refine wb6<|Ob.mk (by rw[d];omega) λu e=>?_;have e:w[V.length]?=some u:=by rw[←zkd (pre:=pre) (post:=post) oM,←e];congr 1
 have du:=zX e;have f:=u.isLt;refine wa ?_;obtain⟨o,r,B⟩:=zlp (u:=u.val) (lo:=c) (b:=b) f H t;refine Ar.wrap<|Ar.wrap λhl10=>Ar.wrap<|wb6<|Ob.mk (by rw[d];omega) λz P=>?_;refine⟨dof (8589934592+u.val-c-b),Xg (λn=>[u32 n]) o,?_⟩;refine wb1 ?_
 have ev:val (w.set V.length (dof (8589934592+u.val-c-b)))+q*val V=val W+4294967296^W.length*(if u.val<c+b then 1 else 0):=by
  have C:=zas w V.length (dof (8589934592+u.val-c-b)) oM;have D:=kX w V.length;have E:=zG w V.length;rw[kg (show w.length<=V.length+1 by omega),Ky,XX]at E;rw[E]at D;have F:=kX W V.length;have G:=zG W V.length;rw[kg (show W.length<=V.length+1 by omega),Ky,XX]at G;rw[G]at F;rw[kY (Xj V.length)]at v;rw[hW,X4,F,←k _ (Xj _),du];rw[du]at C D;rw[kA]at C;generalize (if u.val<c+b then 1 else 0)=m at*
  generalize (8589934592+u.val-c-b)%4294967296=R at*;generalize 4294967296^V.length=p at*;have S:p*(R+c+b)=p*(u.val+4294967296*m):=by rw[B]
  generalize u.val=u at*;generalize val (w.take V.length)=wt at*;generalize val (W.take V.length)=Wt at*;generalize q*val V=qv at*;clear k o r
  grind
 have A:=jm (w.set V.length (dof (8589934592+u.val-c-b)));rw[XO,g]at A
 have hneg:(u.val<c+b)↔val W<q*val V:=by
  constructor
  .intro h;rw[Xe h]at ev;omega
  intro h
  by_cases a:u.val<c+b
  .exact a
  rw[Xc a]at ev;omega
 have hfin:w.set V.length (dof (8589934592+u.val-c-b))=zrB W V q:=by
  rw[←zvH (w.set V.length (dof (8589934592+u.val-c-b)))];unfold zrB;rw[XO,g];congr 1
  by_cases a:val W<q*val V
  .rw[Xe a];rw[Xe (hneg.2 a)]at ev;omega
  rw[Xc a];rw[Xc (λh=>a (hneg.1 h))]at ev;omega
 refine⟨Xg (λl=>some (qC l)) ?_,zC ?_⟩
 .rw[←hfin,←zke oM];congr 1
 rw[r,←hneg]
 by_cases a:u.val<c+b
 .simp[a]
 simp[a]
def zrC{α:Type}{enc:α->LR}:LE nS (.full enc []):=λS Pm Z w v a=>by
 rw[a.val_inv];exact .d _ _ (.full enc [] none (.nil enc none))
def or32{x y:Nat}(a:x<4294967296)(b:y<4294967296):vy .or .u32 x y=((x|||y:Nat):Int):=by
 show IntKind.u32.wrap ((BitVec.ofInt 32 x|||BitVec.ofInt 32 y).toNat:Nat)=_;have h:x|||y<2^32:=Nat.or_lt_two_pow a b
 have e:(BitVec.ofInt 32 x|||BitVec.ofInt 32 y).toNat=x|||y:=by
  rw[BitVec.toNat_or,Qh,Qh];congr 1
  .omega
  omega
 rw[e,zlj];omega
def zGM{c x s p:Nat}(k:p<32)(e:2^p=s)(h:c<s):c|||(x*s%4294967296)=c+x*s%4294967296/\c+x*s%4294967296<4294967296:=by
 have a:4294967296=s*2^(32-p):=by rw[←e,←Kl,show p+(32-p)=32 by omega]
 have j:x*s%4294967296=s*(x%2^(32-p)):=by rw[a,KD x s,Nat.mul_mod_mul_left]
 have d:x%2^(32-p)<2^(32-p):=Kq _ (Qb dC);have f:=Qj (i:=p) (b:=c) (by rw[e];exact h) (x%2^(32-p));rw[e]at f;rw[j,Nat.or_comm,←f]
 have g:s*(x%2^(32-p))+s<=s*2^(32-p):=by
  rw[←YX];exact Kn _ d
 rw[←a]at g;exact⟨oM,oM⟩
def zDP{x y:Nat}{e:Int}(d:x<4294967296)(f:y<4294967296)(c:e=(y:Int)*2^32):vy .or .u64 x e=((y*4294967296+x:Nat):Int):=by
 have a:e=((y*4294967296:Nat):Int):=by rw[c];simp only[Int.reducePow];omega
 rw[a,zll oM oM,Nat.or_comm];have:=Qj (i:=32) (b:=x) (by rw[show 2^32=4294967296 by decide];exact d) y;rw[show 2^32=4294967296 by decide,KD]at this;rw[←this]
def zAc{p w s v x lo hi o a b q:Nat}(h:o=w*(s*v))(c:a+p*w*q=o+p*w*(q+lo))(d:b=a+p*w*4294967296*hi)(e:4294967296*hi+lo=x*s):b=w*(s*(v+p*x)):=by
 subst d;subst h
 have:a=w*(s*v)+p*w*lo:=by
  rw[KP (p*w) q lo]at c;omega
 subst this
 grind
def zAd(b:LB)(n:Nat)(N:b.length<=800000000)(P:n<=4096):
  CX 468 [.sl dgE b,i64 n] (.full dgE (zn (val b*2^n))):=by
 refine zc func468<|wg (jE b oM) ?_;have la:=zL b;have D:=zr (val b);generalize zn (val b)=a at*;rw[←D];clear D;have v:2^(n%32)<=2^31:=XJ dC oM;have e:0<2^(n%32):=Qb dC;generalize u:2^(n%32)=s at*;refine⟨λh=>by omega,λh=>?_⟩;have em:zcf (n:Int) [4096]=n:=by simp only[zcf];omega
 change Dv _ _ _ _;rw[em];refine Dv.pos ⟨oM,oM,by show _<=(9223372036854775807:Int);omega⟩<|Dv.pos ⟨oM,oM⟩ λH=>?_;(iterate 2 refine wa ?_);refine⟨Dig,dgE,0,rfl,wb7 ?_⟩;intro I
 refine⟨Nat×LB,λ⟨i,out⟩=>⟨[(76,i64 i),(75,i64 a.length),(74,.sl dgE a),(9,i64 (n/32:Nat)),(10,i64 (n%32:Nat)),(11,.own 0)],[(0,qC out)],1,107,0⟩,
  λq=>q.1<=a.length/\q.2.length=a.length+n/32+1/\(∀j,q.1+n/32<j->dig q.2 j=0)/\dig q.2 (q.1+n/32)<s/\val q.2=4294967296^(n/32)*(s*val (a.take q.1)),λq=>a.length-q.1,(0,List.replicate (a.length+n/32+1) 0),?_,?_,?_⟩
 .refine⟨Xh _,sI,λj _=>yV _ _,by dsimp only;rw[yV];exact e,by simp[zbf,val]⟩
 .exact zQ [0] ⟨rfl,rfl,rfl,iR oM,iR oM,rfl,tV⟩ ⟨Xg (λn=>some (qC (List.replicate n 0))) oM,tV⟩
 rintro⟨i,out⟩ ⟨E,y,k,m,f⟩
 dsimp only at E y k m f;refine⟨λF=>?_,λF=>?_⟩
 .refine wb λx(K:a[i]?=some x)=>?_;have dx:=zX K;have w:=x.isLt;refine wa<|wb12 ?_;have O:x.val*s<=4294967295*2^31:=QE oM v
  have d:(x.val:Int)*2^((n%32:Nat):Int).toNat=((x.val*s:Nat):Int):=by
   rw[←u,XU];simp
  have J:x.val*s<4294967296*s:=KZ w e;refine Ar.fit (by rw[d];omega) ?_;rw[d];refine wa<|wb<|wb λc A=>?_;rw[show((i:Int)+(n/32:Nat)).toNat=i+n/32 by omega]at A;have dc:=zX A;have o:=c.isLt;rw[dc]at m;obtain⟨M,B⟩:=zGM (c:=c.val) (x:=x.val) (s:=s) (p:=n%32) oM u m;refine Ar.wrap ?_;have ew:IntKind.u32.wrap ((x.val*s:Nat):Int)=((x.val*s%4294967296:Nat):Int):=by rw[zlj];omega
  rw[ew];refine⟨_,(or32 o (Kq _ dC)).symm,?_⟩;rw[M];refine wb<|wb λz Q=>?_;refine⟨dof (c.val+x.val*s%4294967296),Xg (λn=>[u32 n]) (by rw[kA,XB B]),?_⟩;(iterate 2 refine wa ?_);refine wb1<|Ar.wrap<|Ob.mk (by rw[XO];omega)<|Ob.mk (by rw[XO];omega) λR L=>?_;have r:x.val*s/4294967296<s:=by rw[X3 dC];omega
  refine⟨dof (x.val*s/4294967296),Xg (λn=>[u32 n]) (zbB (by simp only[Int.reducePow];omega)),?_⟩;refine wa ?_;have ei:((i:Int)+(n/32:Nat)).toNat=i+n/32:=oM;have g:((i:Int)+(n/32:Nat)+1).toNat=i+n/32+1:=oM
  refine⟨(i+1,(out.set (i+n/32) (dof (c.val+x.val*s%4294967296))).set (i+n/32+1) (dof (x.val*s/4294967296))),⟨oN,by simp[y],λj G=>?_,?_,?_⟩,
   zt [0] ⟨Xg (λl=>some (qC l)) (by rw[ei,g]),tV⟩,oN⟩
  .dsimp only at G ⊢;rw[jY,Xc oM,jY,Xc oM];exact k j oM
  .dsimp only;rw[show i+1+n/32=i+n/32+1 by omega,jY,Xe ⟨rfl,by rw[XO];omega⟩,kA,XB oM];exact r
  dsimp only;have s1:=zas out (i+n/32) (dof (c.val+x.val*s%4294967296)) oM;have C:=zas (out.set (i+n/32) (dof (c.val+x.val*s%4294967296))) (i+n/32+1) (dof (x.val*s/4294967296)) (by rw[XO];omega);rw[kA,XB B,dc,Kl]at s1;have t:x.val*s/4294967296%4294967296=x.val*s/4294967296:=XB oM;rw[jY,Xc oM,k _ oM,Ky,XX,kA,t,X4,Kl]at C;rw[zU,dx];exact zAc f s1 C (Kh _ _)
 have hi:i=a.length:=by omega
 subst hi;rw[kY (Xj _),←u,zbA,←KM,←Kl,show 32*(n/32)+n%32=n by omega,KD]at f;refine zb.see 0 _ (zpy out oM) rfl rfl rfl ?_;rw[f];exact .refl
def n_shr(b:LB)(n:Nat)(v:b.length<=800000000)(w:n<=1000000000000)(u:n≠0):
  CX 468 [.sl dgE b,i64 (-(n:Int))] (.full dgE (zn (val b/2^n))):=by
 refine zc func468<|wg (jE b oM) ?_;have la:=zL b;have g:=zr (val b);generalize zn (val b)=a at*;rw[←g];clear g;refine⟨λh=>?_,λh=>by omega⟩;intro r;refine wa<|Br.mk (λo=>?_) (λo=>?_)
 .have e:val a/2^n=0:=by
   refine Kr (Xx (jm a) ?_);rw[zbA];exact XJ dC oM
  rw[e,yd];exact zrC
 refine wa<|Dv.pos ⟨oM,oM,by show _<=(9223372036854775807:Int);omega⟩<|wa<|Dv.pos ⟨oM,oM⟩ λs=>wa<|⟨Dig,dgE,0,rfl,wb7 ?_⟩;intro t
 refine⟨Nat×LB,λ⟨i,out⟩=>⟨[(37,i64 i),(36,i64 (a.length-n/32:Nat)),(0,.sl dgE a),(5,i64 (n/32:Nat)),(6,i64 (n%32:Nat)),(7,.own 0)],[(0,qC out)],1,107,0⟩,
  λq=>q.1<=a.length-n/32/\q.2.length=a.length-n/32/\∀j,j<q.1->dig q.2 j=val a/2^n/4294967296^j%4294967296,λq=>a.length-n/32-q.1,(0,List.replicate (a.length-n/32) 0),?_,?_,?_⟩
 .exact⟨Xh _,sI,λj h=>by dsimp only at h;omega⟩
 .exact zQ [0] ⟨rfl,iR (by simp;omega),rfl,iR oM,iR oM,rfl,tV⟩ ⟨Xg (λn=>some (qC (List.replicate n 0))) oM,tV⟩
 rintro⟨i,out⟩ ⟨m,d,c⟩
 dsimp only at m d c;refine⟨λp=>?_,λp=>?_⟩
 .have k:=yZ a (n/32+i);have l:=yZ a (n/32+i+1);refine wa<|wg (zfc a _ oM) ?_;rw[show((i:Int)+(n/32:Nat)).toNat=n/32+i by omega];(iterate 2 refine wa ?_);refine wg (zfc a _ oM) ?_;rw[show((i:Int)+(n/32:Nat)+1).toNat=n/32+i+1 by omega];refine wb1<|Ar.fit (by simp only[Int.reducePow];omega)<|⟨_,(zDP k l rfl).symm,?_⟩;refine wb12<|Ar.wrap<|wb<|wb λz x=>?_
  refine⟨dof ((dig a (n/32+i+1)*4294967296+dig a (n/32+i))/2^(n%32)),Xg (λn=>[u32 n]) (zbB (by rw[XU];simp)),?_⟩;refine wa ?_
  refine⟨(i+1,out.set i (dof ((dig a (n/32+i+1)*4294967296+dig a (n/32+i))/2^(n%32)))),⟨oN,by simp[d],λj f=>?_⟩,
   zf [0],oN⟩
  dsimp only at f ⊢
  by_cases e:i=j
  .subst e;rw[jY,Xe ⟨rfl,oM⟩,kA];have:=zvB a (n/32) (n%32) i oM;rw[show 32*(n/32)+n%32=n by omega]at this;rw[this]
  rw[jY,Xc (λh=>e h.1)];exact c j oM
 have hi:i=a.length-n/32:=by omega
 have e:val out=val a/2^n:=by
  rw[zeg (λj f=>c j oM),XB];rw[X3 (Qb dC)];refine Xx (jm a) ?_;rw[zbA,zbA,←Kl];exact XJ dC oM
 refine zb.see 0 _ (zpy out oM) rfl rfl rfl ?_;rw[e];exact .refl
def zlq{s:ByteArray}{i:Nat}{b:UInt8}(a:s[i]?=some b)(hi:i<s.size)(key:∀h:i<s.size,(s[i]'h).toNat=bitLen i):b.toNat=kD i:=by
 have e:=getElem?_pos s i hi;rw[a]at e;rw[Xl e];exact key hi
def zei{x:Nat}(b:Nat)(h:2^b<=x):kD x=b+kD (x/2^b):=
 bitLen_shift x b (Nat.ne_of_gt (Nat.div_pos h (Qb dC)))
def zvJ(x:Nat)(p:x<4294967296):CX 115 [u32 x] (i64 (kD x)):=by
 refine zc func115 ?_;have j:∀(y:Nat) (k:Int),y<256->(kD x:Int)=k+kD y->∀b:UInt8,b.toNat=kD y->(k+(b.toNat:Int))=kD x:=λy k _ h b c=>by rw[h,c]
 have small:∀y:Nat,y<256->kD y<=8:=λy n=>bitLen_le8 y n
 refine⟨λl=>?_,λl=>?_⟩
 .refine wb1 ?_;have i:(x:Int)/2^16=((x/65536:Nat):Int):=by simp
  rw[i];have o:=zei (x:=x) 16 oM;rw[show(2:Nat)^16=65536 by decide]at o;have m:x/65536<65536:=oM;generalize x/65536=y at*;refine⟨λf=>?_,λf=>?_⟩
  .refine wb1 ?_;have e:(y:Int)/2^8=((y/256:Nat):Int):=by simp
   rw[e];have g:=zei (x:=y) 8 oM;rw[show(2:Nat)^8=256 by decide]at g;have a:y/256<256:=oM;generalize y/256=z at*;(iterate 2 refine wa ?_);refine wb10 λb c=>?_;have d:b.toNat=kD z:=zlq c (by show z<256;exact a) (λh=>len8tab_get z h);have:=small z a;(iterate 2 refine wa ?_);exact ze oM
  have a:y<256:=by omega
  refine wa<|wb10 λb c=>?_;have d:b.toNat=kD y:=zlq c (by show y<256;exact a) (λh=>len8tab_get y h);have:=small y a;(iterate 2 refine wa ?_);exact ze oM
 refine⟨λf=>?_,λf=>?_⟩
 .refine wb1 ?_;have e:(x:Int)/2^8=((x/256:Nat):Int):=by simp
  rw[e];have g:=zei (x:=x) 8 oM;rw[show(2:Nat)^8=256 by decide]at g;have a:x/256<256:=oM;generalize x/256=z at*;(iterate 2 refine wa ?_);refine wb10 λb c=>?_;have d:b.toNat=kD z:=zlq c (by show z<256;exact a) (λh=>len8tab_get z h);have:=small z a;(iterate 2 refine wa ?_);exact ze oM
 have a:x<256:=by omega
 refine wa<|wb10 λb c=>?_;have d:b.toNat=kD x:=zlq c (by show x<256;exact a) (λh=>len8tab_get x h);have:=small x a;(iterate 2 refine wa ?_);exact ze oM
def zpA{x:Nat}(a:x<4294967296):kD x<=32:=by
 by_cases h:x=0
 .subst h;decide
 have:=zcu h;have:=(QM (by decide:1<2)).1 (Qi this (show x<2^32 from a));omega
def zGN(x:Nat)(a:x<4294967296):CX 467 [u32 x] (i64 (32-kD x:Nat)):=by
 refine zc func467<|wg (zvJ x a) ?_;have:=zpA a;exact wa<|ze oM
def zrD(a:LB)(k:a.length<=900000000):CX 388 [.sl dgE a] (i64 (kD (val a))):=by
 refine zc func388<|wg (jE _ oM) λl=>?_;have d:=zL a;refine⟨λh=>?_,λh=>?_⟩
 .have:zn (val a)=[]:=XQ.1 oM;exact ze (by rw[yL.1 this];rfl)
 have c:zn (val a)≠[]:=λe=>h (by rw[e];rfl)
 have j:=(zac (val a)).resolve_left c;have htop:=zcw j;rw[zr]at htop;intro g;(iterate 2 refine wa ?_);intro i;refine wa<|wb λx f=>?_;rw[show(((zn (val a)).length:Int)-1).toNat=(zn (val a)).length-1 by omega]at f;have dx:=zX f;have b:=x.isLt;refine wg (zvJ x.val b) ?_;rw[dx]at htop;have:=zpA b;exact wa<|ze oM
def zGO(a:LB)(n:Nat)(b:a.length<=800000000)(c:n<=1000000000000):
  CX 468 [.sl dgE a,i64 (-(n:Int))] (.sl dgE (zn (val a/2^n))):=by
 by_cases h:n=0
 .subst h;have:=(zAd a 0 b oM).le (zdb rfl);rw[JA,Jq]at this;rw[JA,Nat.div_one];exact this
 exact(n_shr a n b c h).le (zdb rfl)
def zGP(a:LB)(n:Nat)(b:a.length<=800000000)(c:n<=4096):
  CX 468 [.sl dgE a,i64 n] (.sl dgE (zn (val a*2^n))):=(zAd a n b c).le (zdb rfl)
def zua{B s:Nat}(hB:B≠0)(l:s+kD (dig (zn B) ((zn B).length-1))=32):
  (zn (B*2^s)).length=(zn B).length/\2147483648<=dig (zn (B*2^s)) ((zn B).length-1):=by
 have b:zn B≠[]:=λe=>hB (yL.1 e)
 have htop:=zcw ((zac B).resolve_left b);rw[zr]at htop;have f:0<2^s:=Qb dC;have hV0:B*2^s≠0:=Yy hB oM;have g:=zef B;have h:=zcu hB;have hpos:=zcv.2 hB;have k:=jL.2 hB
 have e:kD (B*2^s)=kD B+s:=by
  refine zha ?_ hV0 ?_
  .rw[Kl];exact KZ g f
  rw[show kD B+s-1=kD B-1+s by omega,Kl];exact Xy _ h
 have e32:kD (B*2^s)=32*(zn B).length:=oM;have j:(zn (B*2^s)).length<=(zn B).length:=jU (by rw[zbA,←e32];exact zef _);have i:(zn B).length<=(zn (B*2^s)).length:=qw (QP _ f);have a:(zn (B*2^s)).length=(zn B).length:=oM;refine⟨a,?_⟩;have hnV:zn (B*2^s)≠[]:=λe=>hV0 (yL.1 e)
 have d:=(zac (B*2^s)).resolve_left hnV;have c:=zcw d;rw[zr,a]at c;rw[a]at d;have:=zcu d;rw[show kD (dig (zn (B*2^s)) ((zn B).length-1))-1=31 by omega]at this;exact this
def zAe{u q:LB}{k n V U:Nat}(s:k<q.length)(e:q.length+n=u.length)(hV:V<4294967296^n)(x:val (u.drop (k+1))<V)(r:U=V*(4294967296^(k+1)*val (q.drop (k+1)))+val u):
  ((u.drop k).take (n+1)).length=n+1/\val ((u.drop k).take (n+1))<4294967296*V/\u=u.take k++((u.drop k).take (n+1)++u.drop (k+n+1))/\
  ∀w:LB,w=yh (n+1) (val ((u.drop k).take (n+1))%V)->∀d:Dig,d.val=val ((u.drop k).take (n+1))/V->
   val ((u.take k++(w++u.drop (k+n+1))).drop k)<V/\U=V*(4294967296^k*val ((q.set k d).drop k))+val (u.take k++(w++u.drop (k+n+1))):=by
 have h:((u.drop k).take (n+1)).length=n+1:=by rw[Xp,KG];omega
 have z:=yZ u k;have j:=zG u k;have m:val (u.drop k)<4294967296*V:=oM;have a:=kX (u.drop k) (n+1);rw[J7,show k+(n+1)=k+n+1 by omega]at a
 have i:val (u.drop (k+n+1))=0:=by
  apply Nat.eq_zero_of_not_pos;intro y;have A:4294967296^(n+1)<=4294967296^(n+1)*val (u.drop (k+n+1)):=QP _ y;have B:4294967296^(n+1)=4294967296^n*4294967296:=X4 ..;omega
 rw[i,Ky,XX]at a
 have t:u=u.take k++((u.drop k).take (n+1)++u.drop (k+n+1)):=by
  have v:u.drop (k+n+1)=(u.drop k).drop (n+1):=by rw[J7];congr 1
  rw[v,Ku,Ku]
 refine⟨h,oM,t,?_⟩;intro w o d c
 have g:val w=val ((u.drop k).take (n+1))%V:=by
  rw[o];refine zvI<|Xx (Kq _ oM) ?_;rw[X4];omega
 have hwl2:w.length=n+1:=by rw[o,yB]
 have f:(u.take k).length=k:=by rw[Xp];omega
 have C:=Kq (val ((u.drop k).take (n+1))) (show V > 0 by omega);have l:=Kh (val ((u.drop k).take (n+1))) V;have b:=kX u k;rw[a]at b;constructor
 .rw[List.drop_append_of_le_length oM,Jv oM,QI,zab,i];omega
 rw[zab,zab,i,f,zci s,g,c,r,b,X4];generalize val ((u.drop k).take (n+1))=W at*;generalize W/V=D at*;generalize W%V=R at*;generalize 4294967296^k=p at*;generalize val (q.drop (k+1))=Q at*;generalize val (u.take k)=T at*;clear o g c a i t b r x j h hwl2 f m z e s;subst l
 grind
def zDQ{W V Bn g:Nat}(h:g=W/V∨g=W/V+1)(hV:0<V)(hVB:V<=Bn):
  (if W<g*V then W+Bn-g*V else W-g*V)=(if W<g*V then W%V+Bn-V else W%V)/\(W<g*V->g=W/V+1)/\(¬W<g*V->g=W/V):=by
 have a:=Kh W V;have b:=Kq W hV
 rcases h with rfl|rfl
 .have:¬W<W/V*V:=Nat.not_lt_of_le (JZ W V);rw[Xc this,Xc this];refine⟨?_,λh=>absurd h this,λ_=>rfl⟩;rw[KD];omega
 have e:(W/V+1)*V=V*(W/V)+V:=by rw[Kd,YO,KD]
 have:W<(W/V+1)*V:=oM;rw[Xe this,Xe this];refine⟨?_,λ_=>rfl,λh=>absurd this h⟩;omega
def zDR{t p d c R:Nat}(g:t<p)(f:d<4294967296)(b:c<=1)(e:t+p*(d+c)=R+p*4294967296):(d+c)%4294967296=0/\t=R:=by
 have h:d+c=4294967296:=by
  rcases Kf (d+c) 4294967296 with h|h
  .have a:p*(d+c+1)<=p*4294967296:=Kn _ h;rw[KP,Jq]at a;omega
  omega
 rw[h]at e ⊢;exact⟨rfl,oM⟩
def zGQ{a b d p c z y xq xr:Nat}(e:a+p*c=b+d)(f:4294967296*xq+xr=c+(z+y)):a+p*xr+p*4294967296*xq=b+p*z+(d+p*y):=by grind
def zlr(a b:LB)(ha:a.length<=400000000)(hb:b.length<=400000000)(E:val b≠0):
  CX 415 [.sl dgE a,.sl dgE b] (.tup [.sl dgE (zn (val a/val b)),.sl dgE (zn (val a%val b)),i64 0]):=by
 refine zc func415<|wg (jE _ oM)<|wg (jE _ oM) ?_;have hla:=zL a;have hlb:=zL b;generalize val a=A at*;generalize val b=B at*;intro hl;refine⟨λh=>?_,λh=>?_⟩
 .exact absurd (yL.1 (XQ.1 oM)) E
 refine wg (zFN _ _ oM oM) ?_;rw[zr,zr];refine⟨λv=>?_,λv=>?_⟩
 .have O:=ze9.1 v;refine wg (zpz _ oM) ?_;rw[Kr O,XB O,yd];exact zaQ (.cons zD (.C (.C .nil)))
 have hge:B<=A:=Ja λh=>v (ze9.2 h)
 intro hl2;refine⟨λh3=>?_,λh3=>?_⟩
 .refine wb λx o=>?_;have dx:=zX o;have p:=x.isLt
  have hx1:zn B=[x]:=by
   have o:(zn B)[0]?=some x:=o;obtain⟨y,hy⟩:=Yt.1 (show(zn B).length=1 by omega);rw[hy]at o ⊢;simp at o;rw[o]
  have hB:x.val=B:=by
   have:=zr B;rw[hx1,vF,zpt]at this;omega
  refine wg (n_one (zn A) x.val oM p oM) ?_;rw[zr,hB];have hm:=Kq A (show B > 0 by omega);exact wa<|wg (zfb (A%B) oM)<|.refl
 intro hl3;refine wa<|wb λx o=>?_;rw[show(((zn B).length:Int)-1).toNat=(zn B).length-1 by omega]at o;have dx:=zX o;have p:=x.isLt;refine wg (zGN x.val p) ?_;have hn32:=zpA p;obtain⟨s,hs⟩:∃s,32-kD x.val=s:=⟨_,rfl⟩;rw[hs];refine wg (zGP _ s oM oM)<|wg (zAd _ s oM oM) ?_;rw[zr,zr];obtain⟨hvl,F⟩:=zua (B:=B) (s:=s) E (by rw[dx];omega);refine⟨Dig,dgE,[0],rfl,Ob.mk (ziy 0) ?_⟩
 have hul:(zn (A*2^s)).length<=400000001:=XC (jU (k:=(zn A).length+1) (by
  have h1:=zdc (n:=A) (Xj _);have v:2^s<=4294967296^1:=by rw[zbA];exact XJ dC oM
  rw[Kl]
  exact Xx (KZ h1 (Qb dC)) (Kn _ v))) oM
 refine⟨_,rfl,Ob.mk ⟨List.cons_ne_nil _ _,(by show((_:Int)+((1:Nat):Int))*((4:Nat):Int)<=_;omega),(by show _+1<=_;omega),dC,λ_ _=>rfl,λ_ _=>rfl⟩ ?_⟩;have m:0<2^s:=Qb dC;have hmA:(zn A).length<=(zn (A*2^s)).length:=qw (QP _ m);have hmB:(zn (B*2^s)).length<=(zn (A*2^s)).length:=qw (Xy _ hge);have hV0:B*2^s≠0:=Yy E oM;have L:A/B=A*2^s/(B*2^s):=(YI _ _ m).symm
 have M:A%B=A*2^s%(B*2^s)/2^s:=by rw[YJ,Nat.mul_div_cancel _ m]
 rw[L,M];have hlb2:(zn B).length≠0/\(zn B).length≠1:=⟨oM,oM⟩;rw[←hvl]at F;clear L M m;generalize A*2^s=U at*;generalize B*2^s=V at*;refine⟨Unit,λ_=>⟨[(0,.sl dgE (zn A)),(9,i64 s),(10,.sl dgE (zn V)),(11,.own 0)],[(0,qC (zn U++[0]))],1,148,0⟩,λ_=>True,λ_=>0,(),tV,zf [1],?_⟩
 rintro⟨⟩ _
 intro hl4;intro hl5;have hll:(zn U++[0]).length=(zn U).length+1:=by simp
 refine⟨λh4=>?_,λ_=>?_⟩
 .omega
 intro hl6;intro hl7;refine wa ?_;obtain⟨nq,hnq⟩:∃nq:Nat,nq+(zn V).length=(zn U).length+1:=⟨(zn U).length+1-(zn V).length,oM⟩;refine⟨Dig,dgE,0,rfl,wb7 ?_⟩;intro hl8;refine wa ?_;have hVn:V<4294967296^(zn V).length:=zdc (Xj _)
 refine⟨Nat×LB×LB,λ⟨j,q,u⟩=>⟨[(13,i64 ((j:Int)-1)),(12,.own 1),(11,.own 0),(10,.sl dgE (zn V)),(9,i64 s)],[(1,qC q),(0,qC u)],2,148,0⟩,
  λx=>x.1<=nq/\x.2.1.length=nq/\x.2.2.length=(zn U).length+1/\val (x.2.2.drop x.1)<V/\U=V*(4294967296^x.1*val (x.2.1.drop x.1))+val x.2.2,λx=>x.1,
  (nq,List.replicate nq 0,zn U++[0]),?_,?_,?_⟩
 .refine⟨Xj _,sI,hll,?_,?_⟩
  .dsimp only;have r:val (zn U++[0])=U:=by rw[vG,zr];rfl
   rw[zli,r];have h1:=zdc (n:=U) (Xj _);have v:=zpu hV0;refine Xx ?_ v;rw[X3 (zed _),←Kl];refine Xx h1 (XJ dC oM)
  dsimp only;rw[kg sI,Ky,Ky,vG,zr];show U=0+(U+_*0);omega
 .exact zQ [0,1] ⟨iR (by simp only[Ks];omega),rfl,rfl,rfl,rfl,tV⟩ ⟨Xg (λn=>some (qC (List.replicate n 0))) oM,rfl,tV⟩
 rintro⟨j,q,u⟩ ⟨g1,H,Z,N,I⟩
 dsimp only at g1 H Z N I;refine⟨λk1=>?_,λk1=>?_⟩
 .obtain⟨k,rfl⟩:∃k,j=k+1:=⟨j-1,oM⟩;rw[show(((k+1:Nat):Int)-1)=k by omega];obtain⟨J,r2,r3,r4⟩:=zAe (k:=k) (n:=(zn V).length) oM oM hVn N I;intro hl9;(iterate 2 refine wa ?_);refine Sl.win (Ob.mk oM ?_);have P:(u.take k).length=k:=by rw[Xp];omega
  rw[show(((k+1:Nat):Int)-1+((zn V).length:Int)+1-(((k+1:Nat):Int)-1))=(((u.drop k).take ((zn V).length+1)).length:Nat) by rw[J];omega,
   show(((k+1:Nat):Int)-1)=((u.take k).length:Nat) by omega]
  have hW:(u.drop ((u.take k).length:Int).toNat).take (((u.drop k).take ((zn V).length+1)).length:Int).toNat=(u.drop k).take ((zn V).length+1):=by
   rw[XU,XU,J,P]
  obtain⟨post,hpost⟩:∃post,u.drop (k+(zn V).length+1)=post:=⟨_,rfl⟩;obtain⟨pre,hpre⟩:∃pre,u.take k=pre:=⟨_,rfl⟩;rw[hpost,hpre]at r3 r4;rw[hpre]at P hW;rw[hpre];obtain⟨e,_,_⟩:=znO (U:=(u.drop k).take ((zn V).length+1)) (V:=zn V) J oM F (by rw[zr];exact r2);rw[zr]at e;have cg:=zDO ((u.drop k).take ((zn V).length+1)) (zn V) oM J oM F (by rw[zr];exact r2);generalize ziC ((u.drop k).take ((zn V).length+1)) (zn V)=g at e cg;rw[←hW]at cg;refine wg cg ?_;clear cg hW
  generalize (u.drop k).take ((zn V).length+1)=W at*;have hD:val W/V<4294967296:=by rw[X3 oM];exact r2
  have hpn:4294967296^((zn V).length+1)=4294967296^(zn V).length*4294967296:=X4 ..;obtain⟨m1,m2,m3⟩:=zDQ (Bn:=4294967296^((zn V).length+1)) e (Ki hV0) oM;have hmod:=Kq (val W) (Ki hV0);have ct:=zGL pre W post (zn V) g J oM;rw[←r3,zr]at ct
  have Q:zrB W (zn V) g=yh ((zn V).length+1) (if val W<g*V then val W%V+4294967296^((zn V).length+1)-V else val W%V):=by
   unfold zrB;rw[zr,J,m1]
  rw[Q]at ct;clear Q m1;refine zb.hand 0 _ _ _ rfl ct (qW _) (qW _) rfl rfl ?_;clear ct e;generalize val W/V=D at*;generalize val W%V=R at*;have hul2:u.length=pre.length+(W.length+post.length):=by rw[r3];simp
  refine⟨λT=>?_,λT=>?_⟩
  .have hg:=m2 T;rw[Xe T];refine wa λhl10=>?_;obtain⟨d,G⟩:∃d,yh ((zn V).length+1) (R+4294967296^((zn V).length+1)-V)=d:=⟨_,rfl⟩;have hw0l:d.length=(zn V).length+1:=by rw[←G,yB]
   have hw0v:val d=R+4294967296^((zn V).length+1)-V:=by rw[←G];exact zvI oM
   rw[G]
   refine⟨Nat×LB×Nat,λ⟨i,w,c⟩=>⟨[(105,i64 i),(104,i64 (zn V).length),(103,.sl dgE (zn V)),(16,u64 c),(15,u64 ((g:Int)-1)),(14,.win 0 1 (pre.length:Nat) (W.length:Nat)),(13,i64 (pre.length:Nat)),(12,.own 1),(11,.own 0),(10,.sl dgE (zn V)),(9,i64 s)],
     [(1,qC q),(0,qC (pre++(w++post)))],2,148,0⟩,
    λx=>x.1<=(zn V).length/\x.2.1.length=(zn V).length+1/\x.2.2<=1/\(∀j,x.1<=j->dig x.2.1 j=dig d j)/\val (x.2.1.take x.1)+4294967296^x.1*x.2.2=val (d.take x.1)+val ((zn V).take x.1),
    λx=>(zn V).length-x.1,(0,d,0),?_,?_,?_⟩
   .exact⟨Xh _,hw0l,Xh _,λ_ _=>rfl,by simp[val]⟩
   .exact zQ [0,1] ⟨rfl,rfl,rfl,rfl,rfl,rfl,iR oM,rfl,rfl,rfl,rfl,tV⟩ ⟨rfl,rfl,tV⟩
   rintro⟨i,w,c⟩ ⟨f1,X,f3,Y,f5⟩
   dsimp only at f1 X f3 Y f5;have f:(pre++(w++post)).length=pre.length+(zn V).length+1+post.length:=by simp[X];omega
   refine⟨λk3=>?_,λk3=>?_⟩
   .refine wb λy(hy:(zn V)[i]?=some y)=>?_;have dy:=zX hy;have hyl:=y.isLt;refine wb6<|Ob.mk (by rw[f];omega) λz r=>?_;have r:w[i]?=some z:=by rw[←zkd (pre:=pre) (post:=post) oM,←r];congr 1
    have dz:=zX r;have S:=z.isLt;(iterate 4 refine wa ?_);refine Ar.wrap<|wb6<|Ob.mk (by rw[f];omega) λz' hz'=>?_;refine⟨dof (c+(z.val+y.val)),Xg (λn=>[u32 n]) (by rw[zbB rfl];simp),?_⟩;refine wb1<|wa ?_
    refine⟨(i+1,w.set i (dof (c+(z.val+y.val))),(c+(z.val+y.val))/4294967296),⟨oN,by simp[X],oN,λj hj=>?_,?_⟩,
     kM [(0,some 0),(1,some 1)] rfl rfl rfl ⟨rfl,rfl,rfl,Xg (λn=>some (u64 n)) (by simp only[Int.reducePow];omega),rfl,rfl,rfl,rfl,rfl,rfl,rfl,tV⟩
      ⟨rfl,Xg (λl=>some (qC l)) (by rw[←zke oM];congr 1),tV⟩,oN⟩
    .dsimp only at hj ⊢;rw[jY,Xc oM];exact Y j oM
    dsimp only;rw[zU,zU,zU,X4,dy,jY,Xe ⟨rfl,oM⟩,kA,←Y i (Xj _),dz];have ht:(w.set i (dof (c+(z.val+y.val)))).take i=w.take i:=by rw[Jg oM]
    rw[ht];have hd:=Kh (c+(z.val+y.val)) 4294967296;exact zGQ f5 hd
   have hi:i=(zn V).length:=by omega
   subst hi;intro hl11;refine wb6<|Ob.mk (by rw[f];omega) λz r=>?_;have r:w[(zn V).length]?=some z:=by rw[←zkd (pre:=pre) (post:=post) oM,←r];congr 1
   have dz:=zX r;have S:=z.isLt;refine wa<|Ar.wrap<|wb6<|Ob.mk (by rw[f];omega) λz' hz'=>?_;refine⟨dof (z.val+c),Xg (λn=>[u32 n]) (by rw[zbB rfl];simp),?_⟩
   have hw2:w.set (zn V).length (dof (z.val+c))=yh ((zn V).length+1) R:=by
    rw[←zvH (w.set _ _),XO,X];congr 1;have t:=kX d (zn V).length;have e3:=zG d (zn V).length;rw[kg (show d.length<=(zn V).length+1 by omega),Ky,XX]at e3;rw[e3,hw0v,hpn,←Y _ (Xj _),dz]at t;rw[kY (Xj (zn V).length),zr]at f5;have H:=kX (w.set (zn V).length (dof (z.val+c))) (zn V).length;have Z:=zG (w.set (zn V).length (dof (z.val+c))) (zn V).length;have g0:val ((w.set (zn V).length (dof (z.val+c))).drop ((zn V).length+1))=0:=kg (by rw[XO];omega)
    rw[g0,Ky,XX,jY,Xe ⟨rfl,oM⟩,kA]at Z;rw[Z,Jg (Xj _)]at H;rw[H];obtain⟨n1,n2⟩:=zDR (R:=R) (qZ w (zn V).length) S f3 (by rw[KP];omega);rw[n1,n2];rfl
   have hset:(pre++(w++post)).set (pre.length+(zn V).length) (dof (z.val+c))=pre++(yh ((zn V).length+1) R++post):=by
    rw[zke oM,hw2]
   obtain⟨t,K⟩:=r4 _ rfl (dof D) (by rw[kA,XB hD]);refine wa<|wb<|wb λz2 hz2=>?_;refine⟨dof D,Xg (λn=>[u32 n]) (by rw[kA,XB hD];omega),?_⟩;refine wa ?_
   refine⟨(k,q.set k (dof D),pre++(yh ((zn V).length+1) R++post)),⟨oN,by simp[H],by simp[yB];omega,t,K⟩,
    zQ [0,1] ⟨iR oM,rfl,rfl,rfl,rfl,tV⟩ ⟨Xg (λn=>some (qC (q.set n _))) oM,Xg (λl=>some (qC l)) (by rw[←hset];congr 1),tV⟩,oN⟩
  have hg:=m3 T;rw[Xc T];obtain⟨t,K⟩:=r4 _ rfl (dof D) (by rw[kA,XB hD]);refine wa<|wb<|wb λz2 hz2=>?_;refine⟨dof D,Xg (λn=>[u32 n]) (by rw[kA,XB hD];omega),?_⟩;refine wa ?_
  refine⟨(k,q.set k (dof D),pre++(yh ((zn V).length+1) R++post)),⟨oN,by simp[H],by simp[yB];omega,t,K⟩,
   zQ [0,1] ⟨iR oM,rfl,rfl,rfl,rfl,tV⟩ ⟨Xg (λn=>some (qC (q.set n _))) oM,rfl,tV⟩,oN⟩
 have hj:j=0:=by omega
 subst hj;rw[Qd]at N I;rw[JA,YO]at I;refine zb.see 1 _ (jE _ oM) rfl rfl rfl<|wa<|zb.see 0 _ (zGO u s oM oM) rfl rfl rfl ?_
 have t:val q=U/V:=by
  rw[I,QJ oM,Kr N,XX]
 have K:val u=U%V:=by
  rw[I,QK,XB N]
 exact zaQ (.cons (z6 (by rw[t])) (.cons (z6 (by rw[K])) (.C .nil)))
def n_gcd(a b:LB)(i:a.length<=400000000)(j:b.length<=400000000):
  CX 418 [.sl dgE a,.sl dgE b] (.sl dgE (zn (Nat.gcd (val a) (val b)))):=by
 refine zc func418<|wg (zaB _ oM)<|wg (zaB _ oM) ?_;have g:=zL a;have h:=zL b
 refine⟨Nat×Nat,λ⟨A,B⟩=>⟨[(0,.sl dgE (zn A)),(1,.sl dgE (zn B))],[],0,25,0⟩,
  λx=>(zn x.1).length<=400000000/\(zn x.2).length<=400000000/\Nat.gcd x.1 x.2=Nat.gcd (val a) (val b),λx=>x.2,(val a,val b),?_,?_,?_⟩
 .exact⟨oN,oN,rfl⟩
 .exact zB []
 rintro⟨A,B⟩ ⟨f,d,c⟩
 dsimp only at f d c;intro l;refine⟨λk=>?_,λk=>?_⟩
 .have hB:B≠0:=jL.1 oM;refine wg (zlr (zn A) (zn B) oM oM (by rw[zr];exact hB)) ?_;rw[zr,zr];have e:=Kq A (Ki hB);refine⟨(B,A%B),⟨d,XC (qw (YW e)) d,?_⟩,zB [],e⟩;dsimp only;rw[←c,Q7 B,Q7 A B,Nat.gcd_rec B A]
 have hB:B=0:=yL.1 (XQ.1 oM);subst hB;rw[Nat.gcd_zero_right]at c;exact z6 (by rw[c])
def zfS(p:Prop)[i:Decidable p](m:LB)(a:m.length<=1000000000):
  CX 392 [.pr p i,.sl dgE m] (wl (ofZ (if p then-(val m:Int) else val m))):=by
 refine zc func392<|wg (zaB m a) ?_;have b:=jL (n:=val m);refine⟨λh=>?_,λh=>?_⟩
 .intro c;refine jk (.cons (zC ?_) (.cons (z6 ?_) .nil))
  .rw[za8,Xe h];omega
  rw[jZ,Xe h];congr 1;omega
 refine jk (.cons (zd ?_) (.cons (z6 ?_) .nil))
 .rw[za8,Xc h];omega
 rw[jZ,Xc h];congr 1
def zGR(m:LB)(a:m.length<=1000000000):CX 392 [bl true,.sl dgE m] (wl (ofZ (-(val m:Int)))):=by
 have h:=(zfS True m a).args (.cons (zH trivial) LEs.refl)
 rwa [Xe trivial]at h
def zAf(m:LB)(a:m.length<=1000000000):CX 392 [bl false,.sl dgE m] (wl (ofZ (val m:Int))):=by
 have h:=(zfS False m a).args (.cons (zd not_false) LEs.refl)
 rwa [Xc not_false]at h
def zAg(a:BI)(b:a.mag.length<=1000000000):
  CX 392 [pr (a.neg=true),.sl dgE a.mag] (wl (ofZ a.v)):=zfS (a.neg=true) a.mag b
def zfd(n:Int)(a:R64 n):CX 332 [i64 n] (wl (ofZ n)):=by
 refine zc func332<|Br.mk (λh=>?_) (λh=>?_)
 .refine Ar.wrap<|Ar.wrap ?_;have e:IntKind.u64.wrap (-IntKind.u64.wrap n)=((n.natAbs:Nat):Int):=by rw[yr,yr];omega
  rw[e];refine wg (zfb n.natAbs oM)<|wg (zGR (zn n.natAbs) (by have:=jw a;unfold jx at this;omega)) ?_;rw[zr,show(-(n.natAbs:Int))=n by omega];exact .refl
 refine Ar.wrap ?_;have e:IntKind.u64.wrap n=((n.natAbs:Nat):Int):=by rw[yr];omega
 rw[e];refine wg (zfb n.natAbs oM)<|wg (zAf (zn n.natAbs) (by have:=jw a;unfold jx at this;omega)) ?_;rw[zr,show(n.natAbs:Int)=n by omega];exact .refl
def zls(a:BI)(f:a.mag.length<=900000000):CX 390 [wl a] (i64 a.v.sign):=by
 refine zc func390<|wg (zrD a.mag f) ?_;have g:=zcv (n:=val a.mag);have e:=a.v_eq;refine⟨λh=>?_,λh=>?_⟩
 .have:a.v=0:=by omega
  exact ze (by rw[this];rfl)
 refine⟨λc=>?_,λc=>?_⟩
 .refine ze (Ko ?_).symm
  obtain⟨b,d⟩|⟨b,d⟩:=e
  .omega
  rw[b]at c;cases c
 refine ze (Kx ?_).symm
 obtain⟨b,d⟩|⟨b,d⟩:=e
 .exact absurd b c
 omega
def z_neg(a:BI)(d:a.mag.length<=1000000000):CX 448 [wl a] (wl (ofZ (-a.v))):=by
 refine zc func448<|wg (zfS (¬a.neg=true) a.mag d) ?_
 have:(if¬a.neg=true then-(val a.mag:Int) else(val a.mag:Int))= -a.v:=by
  obtain⟨b,c⟩|⟨b,c⟩:=a.v_eq <;> simp[b,c]
 rw[this];exact .refl
def zFQ(a b:BI)(j:a.mag.length<=800000000)(k:b.mag.length<=800000000):CX 360 [wl a,wl b] (wl (ofZ (a.v+b.v))):=by
 refine zc func360<|Br.mk (λh=>?_) (λh=>?_)
 .refine wc<|wg (zFO a.mag b.mag oM oM) ?_;have i:=zcy j k;refine wg (zfS (a.neg=true) _ oM) ?_
  have:(if a.neg=true then-(val (zn (val a.mag+val b.mag)):Int) else(val (zn (val a.mag+val b.mag)):Int))=a.v+b.v:=by
   rw[zr]
   obtain⟨c,d⟩|⟨c,d⟩:=a.v_eq <;> obtain⟨e,f⟩|⟨e,f⟩:=b.v_eq <;> simp[c,e]at h <;> simp[c,d,f] <;> omega
  rw[this];exact .refl
 refine wg (zFP a.mag b.mag oM oM) ?_;have i:(zn (val a.mag-val b.mag)).length<=1000000000:=XC (qw (YU _ _)) (XC (zL _) oM);have g:(zn (val b.mag-val a.mag)).length<=1000000000:=XC (qw (YU _ _)) (XC (zL _) oM);refine⟨λd=>?_,λd=>?_⟩
 .refine wg (zfS (a.neg=true) _ i) ?_
  have:(if a.neg=true then-(val (zn (val a.mag-val b.mag)):Int) else(val (zn (val a.mag-val b.mag)):Int))=a.v+b.v:=by
   rw[zr]
   obtain⟨c,d⟩|⟨c,d⟩:=a.v_eq <;> obtain⟨e,f⟩|⟨e,f⟩:=b.v_eq <;> simp[c,e]at h <;> simp[c,d,f] <;> omega
  rw[this];exact .refl
 refine wg (zFP b.mag a.mag oM oM)<|wg (zfS (b.neg=true) _ g) ?_
 have:(if b.neg=true then-(val (zn (val b.mag-val a.mag)):Int) else(val (zn (val b.mag-val a.mag)):Int))=a.v+b.v:=by
  rw[zr]
  obtain⟨c,d⟩|⟨c,d⟩:=a.v_eq <;> obtain⟨e,f⟩|⟨e,f⟩:=b.v_eq <;> simp[c,e]at h <;> simp[e,d,f] <;> omega
 rw[this];exact .refl
def zW(z:Int):(ofZ z).mag.length=jx z:=rfl
def zrE(a b:BI)(d:a.mag.length<=800000000)(e:b.mag.length<=800000000):CX 391 [wl a,wl b] (wl (ofZ (a.v-b.v))):=by
 refine zc func391<|wc<|wg (z_neg b oM) ?_;have c:=zaR b;refine wg (zFQ a (ofZ (-b.v)) oM (by rw[zW,zaA];omega)) ?_;rw[z5,←Jn];exact .refl
def zjC(a b:BI)(c:a.mag.length<=400000000)(d:b.mag.length<=400000000):CX 389 [wl a,wl b] (wl (ofZ (a.v*b.v))):=by
 refine zc func389<|wc<|wg (n_mul a.mag b.mag c d) ?_
 have e:(zn (val a.mag*val b.mag)).length<=1000000000:=by
  refine XC (jU (k:=a.mag.length+b.mag.length) ?_) oM;rw[Kl];exact Qn (jm _) (jm _)
 refine wg (zfS (¬(a.neg=true↔b.neg=true)) _ e) ?_;rw[zr,zFM];exact .refl
def zrF(a:BI)(b:a.mag.length<=900000000):CX 327 [wl a] (i64 (kD a.v.natAbs)):=by
 refine zc func327<|wg (zrD a.mag b) ?_;rw[←a.v_abs];exact .refl
def zAh{a b:Int}(c:0<b):a/b=if a<0 then-((a.natAbs/b.natAbs+(if a.natAbs%b.natAbs=0 then 0 else 1):Nat):Int) else((a.natAbs/b.natAbs:Nat):Int):=by
 have f:=Kh a.natAbs b.natAbs;have g:=Kq a.natAbs (show b.natAbs > 0 by omega);generalize a.natAbs/b.natAbs=q at*;generalize a.natAbs%b.natAbs=r at*;have e:(b:Int)*(q:Int)=((b.natAbs*q:Nat):Int):=by rw[Ke];congr 1;omega
 by_cases h:a<0
 .rw[Xe h]
  by_cases d:r=0
  .rw[Xe d,XX];exact((Qv c).2 ⟨(by rw[QQ,e];omega:(0:Int)+b*(-(q:Int))=a),oM,c⟩).1
  rw[Xc d];exact((Qv c (r:=b-r)).2 ⟨by rw[QQ,QU,Jp,e];omega,oM,oM⟩).1
 rw[Xc h];exact((Qv c (r:=r)).2 ⟨by rw[e];omega,oM,oM⟩).1
def zlt(p:Prop)[i:Decidable p]:CG0 417 [.pr p i] [] (.fn 472 [.loc 0 0]) [(0,.box 4 [.pr p i])]:=by
 exact qf tok mix func417 rfl rfl rfl<|⟨some 0,zDH (.cons (.loc 0 0 rfl) .nil),rfl,rfl⟩
def ziD(p:Prop)[i:Decidable p](m:LB)(a:m.length<=1000000000):
  CX 472 [.sl dgE m,.ptr [.pr p i]] (wl (ofZ (if p then-(val m:Int) else val m))):=by
 exact zc func472<|wg (zfS p m a)<|.refl
def zAi(a b:BI)(l:a.mag.length<=200000000)(m:b.mag.length<=200000000)(j:0<b.v):
  CX 358 [wl a,wl b] (.tup [wl (ofZ (a.v/b.v)),wl (ofZ (a.v%b.v)),i64 0]):=by
 refine zc func358<|wc<|wg (zAg a oM)<|wg (zAg b oM) ?_;have la:=zaR a;have lb:=zaR b;refine wg (zlr (zn a.v.natAbs) (zn b.v.natAbs) (by unfold jx at la;omega) (by unfold jx at lb;omega) (by rw[zr];omega)) ?_;rw[zr,zr];refine⟨λh=>absurd rfl h,λ_=>?_⟩;have e:=za8 a.v;have f:=za8 b.v;have d:=zAh (a:=a.v) j;have g:=Int.emod_def a.v b.v
 have zq:jx (a.v/b.v)<=jx a.v:=zcx (by
  have:=Jb a.v b.v
  exact this)
 have zp:=qc (a.v/b.v) b.v;have neg1:a.v<0->¬((ofZ a.v).neg=true↔(ofZ b.v).neg=true):=λh=>by rw[e,f];omega
 have neg2:¬a.v<0->¬¬((ofZ a.v).neg=true↔(ofZ b.v).neg=true):=λh=>by rw[e,f];omega
 have q1:(zn (a.v.natAbs/b.v.natAbs)).length<=200000000:=XC (qw (Qg _ _)) (by unfold jx at la;omega);refine⟨λc=>?_,λc=>?_⟩
 .have hneg:a.v<0:=XS λh=>neg2 h c
  intro n;refine⟨λk=>?_,λk=>?_⟩
  .have i:a.v.natAbs%b.v.natAbs≠0:=jL.1 oM;refine wg (zfb 1 dC)<|wg (zFO _ _ oM (by decide +kernel)) ?_;rw[zr,zr];rw[Xe hneg,Xc i]at d;have ql:=zcy (a:=zn (a.v.natAbs/b.v.natAbs)) (b:=zn 1) q1 (by decide +kernel);rw[zr,zr]at ql;refine zb.fresh _ _ (zlt (¬((ofZ a.v).neg=true↔(ofZ b.v).neg=true))) rfl rfl (.inr rfl)<|wg (ziD _ (zn (a.v.natAbs/b.v.natAbs+1)) oM) ?_;rw[zr,Xe c,←d];refine wc<|wg (zjC (ofZ (a.v/b.v)) (ofZ b.v) (by rw[zW];omega) (by rw[zW];omega)) ?_
   refine wg (zrE (ofZ a.v) (ofZ ((ofZ (a.v/b.v)).v*(ofZ b.v).v)) (by rw[zW];omega) (by rw[zW,z5,z5];omega)) ?_;rw[z5,z5,z5,z5,QR (a.v/b.v),←g];exact .refl
  have i:a.v.natAbs%b.v.natAbs=0:=yL.1 (XQ.1 oM);rw[Xe hneg,Xe i,XX]at d;refine zb.fresh _ _ (zlt (¬((ofZ a.v).neg=true↔(ofZ b.v).neg=true))) rfl rfl (.inr rfl)<|wg (ziD _ (zn (a.v.natAbs/b.v.natAbs)) oM) ?_;rw[zr,Xe c,←d];refine wc<|wg (zjC (ofZ (a.v/b.v)) (ofZ b.v) (by rw[zW];omega) (by rw[zW];omega))<|wg (zrE (ofZ a.v) (ofZ ((ofZ (a.v/b.v)).v*(ofZ b.v).v)) (by rw[zW];omega) (by rw[zW,z5,z5];omega)) ?_;rw[z5,z5,z5,z5,QR (a.v/b.v),←g]
  exact .refl
 have hneg:¬a.v<0:=λh=>c (neg1 h)
 rw[Xc hneg]at d;refine zb.fresh _ _ (zlt (¬((ofZ a.v).neg=true↔(ofZ b.v).neg=true))) rfl rfl (.inr rfl)<|wg (ziD _ (zn (a.v.natAbs/b.v.natAbs)) oM) ?_;rw[zr,Xc c,←d];refine wc<|wg (zjC (ofZ (a.v/b.v)) (ofZ b.v) (by rw[zW];omega) (by rw[zW];omega))<|wg (zrE (ofZ a.v) (ofZ ((ofZ (a.v/b.v)).v*(ofZ b.v).v)) (by rw[zW];omega) (by rw[zW,z5,z5];omega)) ?_;rw[z5,z5,z5,z5,QR (a.v/b.v),←g];exact .refl
def zvK(a:BI)(E:a.mag.length<=1000000000):
  CX 304 [wl a] (.tup [i64 (ub a.v),pr (-9223372036854775808<=a.v/\a.v<=9223372036854775807)]):=by
 refine zc func304<|wg (zaB a.mag E) ?_;have o:=zL a.mag;have q:=a.v_eq;generalize N:a.v=z at*;have J:z= -(val a.mag:Int)∨z=(val a.mag:Int):=q.imp Vb Vb
 have b:¬(-9223372036854775808<=z/\z<=9223372036854775807)->LE (.tup [i64 0,bl false]) (.tup [i64 (ub z),pr (-9223372036854775808<=z/\z<=9223372036854775807)]):=λh=>
  zP (ze (by rw[ub,Xc h])) (zd h)
 have good:∀n:Int,n=z-> -9223372036854775808<=z/\z<=9223372036854775807->LE (.tup [i64 n,bl true]) (.tup [i64 (ub z),pr (-9223372036854775808<=z/\z<=9223372036854775807)]):=λn f h=>
  zP (ze (by rw[ub,Xe h,f])) (zH h)
 obtain⟨m,d⟩:∃m,zn (val a.mag)=m:=⟨_,rfl⟩;have e:val m=val a.mag:=by rw[←d,zr]
 have hbig:2<m.length->18446744073709551616<=val a.mag:=λh=>by
  have B:val a.mag≠0:=jL.1 (by rw[d];omega);have:=zpu B;rw[d]at this;exact XC (XC dC (XJ dC (show 2<=m.length-1 by omega))) this
 rw[d];rw[d]at o;intro G;refine wa ?_
 refine⟨Nat,λj=>⟨[(6,i64 ((j:Int)-1)),(5,u64 (val (m.drop j))),(4,.sl dgE m),(1,.loc 0 0)],[(0,.box 47 (biE a))],1,55,0⟩,
  λj=>j<=m.length/\(j<m.length->m.length<=2),λj=>j,m.length,?_,?_,?_⟩
 .exact⟨Xj _,λh=>absurd h (YT _)⟩
 .exact zQ [0] ⟨rfl,Xg (λn=>some (u64 n)) (by rw[kg (Xj _)];rfl),rfl,rfl,tV⟩ ⟨rfl,tV⟩
 rintro j ⟨K,L⟩
 refine⟨λC=>?_,λC=>?_⟩
 .intro H;refine⟨λD=>?_,λD=>?_⟩
  .have t:=zG m (j-1);rw[show j-1+1=j by omega]at t
   have l:val (m.drop j)<4294967296:=by
    have:=jm (m.drop j);rw[KG]at this;exact Xx this (XC (XJ dC (show m.length-j<=1 by omega)) dC)
   refine wb1<|Ar.fit (by simp only[Int.reducePow];omega)<|wb λx u=>?_;rw[show((j:Int)-1).toNat=j-1 by omega]at u;have dx:=zX u;have s:=x.isLt;refine wa<|⟨_,(zhg (x:=val (m.drop j)) (y:=x.val) l s rfl).symm,?_⟩;exact wa<|⟨j-1,⟨oM,λ_=>by omega⟩,zQ [0] ⟨iR oM,Xg (λn=>some (u64 n)) (by rw[t,dx];omega),rfl,rfl,tV⟩ ⟨rfl,tV⟩,oN⟩
  intro p;have:=hbig oM;refine⟨λ_=>?_,λh=>absurd h oM⟩;exact b oM
 have F:j=0:=by omega
 subst F;have k:val (m.drop 0)=val a.mag:=by rw[Qd,e]
 intro p
 have r:¬2<m.length->val a.mag<18446744073709551616:=λh=>by
  have:=jm m;rw[e]at this;exact Xx this (XC (XJ dC (show m.length<=2 by omega)) dC)
 refine⟨λh=>?_,λh=>?_⟩
 .have:=hbig oM;exact b oM
 have M:=r oM;have negz:a.neg=true->z= -(val a.mag:Int):=λh=>q.elim Vb λg=>by rw[h]at g;cases g.1
 have posz:¬a.neg=true->z=(val a.mag:Int):=λh=>q.elim (λg=>absurd g.1 h) Vb
 have hneg:a.neg=true->val a.mag<=9223372036854775808->IntKind.i64.wrap (IntKind.u64.wrap (-(val (m.drop 0):Int)))=z:=λh I=>by
  have:=negz h;rw[k,yr];show IntKind.i64.wrap _=_;simp only[IntKind.wrap,IntKind.bits,IntKind.signed];simp;omega
 refine⟨λw=>b oM,λw=>?_⟩;refine⟨λA=>?_,λA=>?_⟩
 .refine⟨λi=>b ?_,λi=>?_⟩
  .have:=posz i;omega
  have f:a.neg=true:=XS i;have:=negz f;refine⟨λ_=>?_,λc=>absurd f c⟩;exact Ar.wrap<|Ar.wrap<|good _ (hneg f oM) oM
 refine⟨λc=>?_,λc=>?_⟩
 .have:=negz c;exact Ar.wrap<|Ar.wrap<|good _ (hneg c oM) oM
 have:=posz c;exact wa<|good _ oM oM
structure BR where
 num:BI
 den:BI
 deriving DecidableEq
def BR.v(a:BR):Rat:=Rat.divInt a.num.v a.den.v
def ofQ(q:Rat):BR:=⟨ofZ q.num,ofZ q.den⟩
def ky(q:Rat):(ofQ q).v=q:=by unfold BR.v ofQ;rw[z5,z5,Qs]
def BR.len(a:BR):Nat:=max a.num.mag.length a.den.mag.length
def y4(q:Rat):Nat:=max (jx q.num) (jx q.den)
def zF(q:Rat):(ofQ q).len=y4 q:=rfl
def zlu{n d:Int}(j:d≠0):(if n.sign*d.sign<0 then-((n.natAbs/Nat.gcd n.natAbs d.natAbs:Nat):Int) else((n.natAbs/Nat.gcd n.natAbs d.natAbs:Nat):Int))=(Rat.divInt n d).num:=by
 have b:0<Nat.gcd n.natAbs d.natAbs:=Jj _ oM;rw[Rat.num_divInt,show d.gcd n=Nat.gcd n.natAbs d.natAbs from Q7 _ _];obtain⟨k,c⟩:((Nat.gcd n.natAbs d.natAbs:Nat):Int) ∣ n:=Int.ofNat_dvd_left.2 (Nat.gcd_dvd_left _ _);generalize Nat.gcd n.natAbs d.natAbs=g at*;have e:n.natAbs/g=k.natAbs:=by rw[c,QN,QS,Nat.mul_div_cancel_left _ b]
 have f:d.sign*n/(g:Int)=d.sign*k:=by
  rw[c,←Yj,QR d.sign,Yj,Int.mul_ediv_cancel_left _ oM]
 have i:n.sign=k.sign:=by rw[c,Int.sign_mul,Kx oM,Yh]
 rw[e,f,i]
 rcases Ql d 0 with h|h|h
 .rw[Ko h]
  rcases Ql k 0 with a|a|a
  .rw[Ko a,Xc dC];omega
  .subst a;rw[Xc dC];rfl
  rw[Kx a,Xe dC];omega
 .exact absurd h j
 rw[Kx h]
 rcases Ql k 0 with a|a|a
 .rw[Ko a,Xe dC];omega
 .subst a;rw[Xc dC];rfl
 rw[Kx a,Xc dC];omega
def zlv{n d:Int}(a:d≠0):(Rat.divInt n d).den=d.natAbs/Nat.gcd n.natAbs d.natAbs:=by
 rw[Rat.den_divInt,Xc a,show d.gcd n=Nat.gcd n.natAbs d.natAbs from Q7 _ _]
def zej{n d:Int}(a:d≠0):y4 (Rat.divInt n d)<=max (jx n) (jx d):=by
 have b:jx (Rat.divInt n d).num<=jx n:=zcx (by
  rw[←zlu a];have:=Qg n.natAbs (Nat.gcd n.natAbs d.natAbs);generalize n.natAbs/Nat.gcd n.natAbs d.natAbs=x at*
  split <;> omega)
 have c:jx (Rat.divInt n d).den<=jx d:=zcx (by
  rw[zlv a];have:=Qg d.natAbs (Nat.gcd n.natAbs d.natAbs);generalize d.natAbs/Nat.gcd n.natAbs d.natAbs=x at*
  omega)
 unfold y4;omega
def qE(q:Rat):jx q.num<=y4 q:=Jm _ _
def qT(q:Rat):jx q.den<=y4 q:=Q9 _ _
def zR(a:BR):y4 a.v<=max a.len 1:=by
 by_cases h:a.den.v=0
 .have:a.v=0:=by unfold BR.v;rw[h,YA]
  rw[this];have:y4 0<=1:=by decide +kernel
  omega
 have:=zej (n:=a.num.v) h;have b:=zaR a.num;have c:=zaR a.den;unfold BR.len BR.v;omega
def ziE(q:Rat):(q.den:Int)≠0:=by have:=q.den_nz;omega
def zlw(x y:Rat):Rat.divInt (x.num*y.den+y.num*x.den) (x.den*y.den)=x+y:=by
 have:=YL x.num y.num (ziE x) (ziE y);rw[Qs,Qs]at this;exact this.symm
def zlx(x y:Rat):Rat.divInt (x.num*y.num) (x.den*y.den)=x*y:=by
 have:=Rat.divInt_mul_divInt x.num y.num (d₁:=x.den) (d₂:=y.den);rw[Qs,Qs]at this;exact this.symm
def zAj(x y:Rat):Rat.divInt (x.num*y.den-y.num*x.den) (x.den*y.den)=x-y:=by
 have:=YL x.num (-y.num) (ziE x) (ziE y);rw[Qs,←Rat.neg_divInt,Qs,Int.neg_mul,←Jn]at this;rw[←this,Yc]
def u4(x y:Rat):(x.den:Int)*(y.den:Int)≠0:=Int.mul_ne_zero (ziE x) (ziE y)
def zbC(x y:Rat):y4 (x+y)<=y4 x+y4 y+1:=by
 rw[←zlw];have h:=zej (n:=x.num*y.den+y.num*x.den) (u4 x y);have e:=zhf (x.num*y.den) (y.num*x.den);have f:=qc x.num y.den;have g:=qc y.num x.den;have i:=qc x.den y.den;have a:=qE x;have b:=qE y;have c:=qT x;have d:=qT y;omega
def yN(x y:Rat):y4 (x*y)<=y4 x+y4 y:=by
 rw[←zlx];have h:=zej (n:=x.num*y.num) (u4 x y);have e:=qc x.num y.num;have f:=qc x.den y.den;have a:=qE x;have b:=qE y;have c:=qT x;have d:=qT y;omega
def zek(z:Int):y4 z<=max (jx z) 1:=by
 unfold y4;rw[YB,Yz];have:jx ((1:Nat):Int)=1:=by decide +kernel
 omega
def brE(a:BR):LR:=biE a.num++biE a.den
def znP(a:BI)(g:LB)(c:a.mag.length<=400000000)(d:g.length<=400000000)(b:val g≠0):
  CX 419 [wl a,.ptr [.sl dgE g]] (.sl dgE (zn (val a.mag/val g))):=by
 exact zc func419<|wg (zlr a.mag g c d b)<|.refl
def zhh(n d:BI)(j:n.mag.length<=400000000)(c:d.mag.length<=400000000)(i:d.v≠0):
  CX 359 [wl n,wl d] (.agg (brE (ofQ (Rat.divInt n.v d.v)))):=by
 refine zc func359<|wg (n_gcd n.mag d.mag j c) ?_;have e:=zlu (n:=n.v) i;have f:=zlv (n:=n.v) i;rw[n.v_abs,d.v_abs]at e f;have k:val d.mag≠0:=by rw[←d.v_abs];omega
 have l:0<Nat.gcd (val n.mag) (val d.mag):=Jj _ oM
 have a:(zn (Nat.gcd (val n.mag) (val d.mag))).length<=400000000:=by
  refine XC (qw (Nat.gcd_le_right _ oM)) (XC (zL _) c)
 have m:(zn (val n.mag/Nat.gcd (val n.mag) (val d.mag))).length<=1000000000:=XC (qw (Qg _ _)) (XC (zL _) oM);have o:(zn (val d.mag/Nat.gcd (val n.mag) (val d.mag))).length<=1000000000:=XC (qw (Qg _ _)) (XC (zL _) oM);generalize Nat.gcd (val n.mag) (val d.mag)=g at*
 have s1: -1<=n.v.sign*d.v.sign/\n.v.sign*d.v.sign<=1:=by
  rcases Ql n.v 0 with h|h|h <;> rcases Ql d.v 0 with b|b|b <;>
   simp[Ko,Kx,h,b]
 refine wc<|wg (zls n oM)<|wg (zls d oM)<|wa<|wg (znP n (zn g) j a (by rw[zr];omega)) ?_;rw[zr];refine wg (zfS (n.v.sign*d.v.sign<0) _ m)<|wg (znP d (zn g) c a (by rw[zr];omega))<|wg (zAf _ (by rw[zr];exact o)) ?_;rw[zr,zr,zr,e,←f];exact .refl
abbrev wm(x:BR):SV:=.agg (brE x)
end Go.Gs
