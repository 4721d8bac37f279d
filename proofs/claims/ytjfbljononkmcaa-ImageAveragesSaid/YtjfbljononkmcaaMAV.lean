/- Two sorted stretches of a row of one's own merged in place: the library's. -/
import Derived.Test.YtjfbljononkmcaaMA
import Derived.Test.YtjfbljononkmcaaMAU
set_option maxRecDepth 100000
set_option maxHeartbeats 8000000
set_option linter.all false
namespace Go.Gs
open Go.Proofs
variable {key:Int->Int}
theorem yJ(i j:Nat):((i:Int)+(j:Int)) / 2 ^ 1=(((i+j) / 2:Nat):Int):=by
 show ((i:Int)+(j:Int)) / 2=_;omega
theorem ziq{m:Img}{l:List Int}(h:InP m l){a d b:Nat}(h2:d<=b)(hb:b<=l.length):∀p,p < l.length->0<=gz (zU l a d b) p/\gz (zU l a d b) p < m.px.length:=fun p hp=>by
 rw [zP hp];unfold jL
 split
 ·exact h _ (yH oM)
 ·split
  ·exact h _ (yH oM)
  ·exact h _ (yH hp)
theorem zeY{m:Img}{l:List Int}(h:InP m l){a d b:Nat}(h2:d<=b)(hb:b<=l.length):InP m (zU l a d b):=fun x hx=>by
 obtain ⟨i,hi⟩:=List.mem_iff_getElem?.1 hx;have hl:=(List.getElem?_eq_some_iff.1 hi).1;rw [zH] at hl;have:=ziq h (a:=a) h2 hb i hl
 rwa [qm hi] at this
theorem zhW(m:Img)(c:Nat)(lo n:Nat)(hp:∀q∈m.px,P8 q)(hc:c < 4)(hn:n<=1000000):∀(k:Nat) (l:List Int) (a d b:Nat),InP m l->lo+n<=l.length->a < d->d < b->b<=n->b - a<=k->
  qc (zC m c) l (lo+a) (lo+d)->qc (zC m c) l (lo+d) (lo+b)->
  zf Try.prog 91 [.win 0 1 (lo:Int) (n:Int),i64 (a:Int),i64 (d:Int),i64 (b:Int),yZ m c] [(0,.arr 3 zq 1 l)] (.tup []) [(0,.arr 3 zq 1 (kf (zC m c) l (lo+a) (lo+b)))]:=by
 have hk:=qN hp c;intro k
 induction k with
 | zero=>intro l a d b _ _ h1 h2 _ h3;omega
 | succ k ih=>
 intro l a d b hin hl ha hd hb hab hs1 hs2;have lin:∀p,p < l.length->0<=gz l p/\gz l p < m.px.length:=fun p h=>hin _ (yH h)
 generalize hkey:zC m c=key at*;refine qA tok mix Try.func91 rfl rfl rfl (zk _ _) rfl ?_;refine Ar.o ?_;refine Br.mk (fun g=>?_) (fun g=>?_)
 -- one element ahead
 ·have g:(d:Int) - (a:Int)=1:=g;have gd:d=a+1:=oM
  refine ⟨Nat×Nat,fun ⟨i,j⟩=>⟨[(11,i64 (j:Int)),(10,i64 (i:Int)),(4,yZ m c),(3,i64 (b:Int)),(2,i64 (d:Int)),(1,i64 (a:Int)),(0,.win 0 1 (lo:Int) (n:Int))],[(0,.arr 3 zq 1 l)],1,220,1⟩,
   fun z=>(d<=z.1/\z.1<=z.2/\z.2<=b)/\(z.1=d∨key (gz l (lo+z.1 - 1)) < key (gz l (lo+a)))/\(z.2=b∨key (gz l (lo+a))<=key (gz l (lo+z.2))),fun z=>z.2 - z.1,(d,b),⟨by dsimp only;omega,.inl rfl,.inl rfl⟩,?_,?_⟩
  ·exact zo [(0,some 0)]
  rintro ⟨i,j⟩ ⟨⟨hi1,hi2,hi3⟩,hi4,hi5⟩
  have hi1:d<=i:=hi1;have hi2:i<=j:=hi2;have hi3:j<=b:=hi3;have hi4:i=d∨key (gz l (lo+i - 1)) < key (gz l (lo+a)):=hi4;have hi5:j=b∨key (gz l (lo+a))<=key (gz l (lo+j)):=hi5;refine Br.mk (fun h=>?_) (fun h=>?_)
  ·have h:(i:Int) < (j:Int):=h;(iterate 2 refine Ar.o ?_);refine Ob.o0 ?_;rw [yJ];refine Ar.o ?_;refine Dr.d ?_;refine Ob.o ?_;refine Ob.o ?_;intro x hx;refine Ob.o ?_;refine Ob.o ?_;intro y hy;rw [show ((lo:Int)+(((i+j) / 2:Nat):Int)).toNat=lo+(i+j) / 2 by omega] at hx;rw [show ((lo:Int)+(a:Int)).toNat=lo+a by omega] at hy;have x1:=qm hx;have y1:=qm hy;refine ze.t (zdw m c x y hp hc (hin.at hx) (hin.at hy)) ?_;refine Ob.mk (by kernel_rfl) ?_;rw [hkey];refine Br.mk (fun q=>?_) (fun q=>?_)
   ·have q:key x - key y < 0:=q;refine Ar.o ?_;exact ⟨((i+j) / 2+1,j),⟨by dsimp only;omega,.inr (by show key (gz l (lo+((i+j) / 2+1) - 1)) < _;rw [show lo+((i+j) / 2+1) - 1=lo+(i+j) / 2 by omega,x1,y1];omega),hi5⟩,zo [(0,some 0)],by dsimp only;omega⟩
   ·have q:¬key x - key y < 0:=q;exact ⟨(i,(i+j) / 2),⟨by dsimp only;omega,hi4,.inr (by show _<=key (gz l (lo+(i+j) / 2));rw [x1,y1];omega)⟩,zo [(0,some 0)],by dsimp only;omega⟩
  ·have h:¬(i:Int) < (j:Int):=h;obtain rfl:i=j:=oM
   refine ⟨Nat×List Int,fun ⟨q,t⟩=>⟨[(13,i64 (q:Int)),(10,i64 (i:Int)),(0,.win 0 1 (lo:Int) (n:Int))],[(0,.arr 3 zq 1 t)],1,220,1⟩,
    fun z=>a<=z.1/\z.1+1<=i/\z.2=zU l (lo+a) (lo+a+1) (lo+z.1+1),fun z=>i - z.1,(a,l),⟨Nat.le_refl _,by dsimp only;omega,(yI (.inr ⟨rfl,oM⟩)).symm⟩,?_,?_⟩
   ·exact zo [(0,some 0)]
   rintro ⟨q,t⟩ ⟨hq1,hq2,ht⟩
   have hq1:a<=q:=hq1;have hq2:q+1<=i:=hq2;have ht:t=zU l (lo+a) (lo+a+1) (lo+q+1):=ht;have htl:t.length=l.length:=by rw [ht,zH]
   refine Ar.o ?_;refine Br.mk (fun f=>?_) (fun f=>?_)
   ·have f:(q:Int) < (i:Int) - 1:=f;refine Dr.d ?_;(iterate 2 refine Ar.o ?_);refine Ob.o ?_;refine Ob.o ?_;intro y' hy';refine Ob.o ?_;refine Ob.o ?_;intro x' hx';refine Ob.o ?_;refine Ob.o ?_;intro _ _;refine ⟨y',rfl,?_⟩;refine Ob.o ?_;refine Ob.mk (by rw [List.length_set];omega) ?_;intro _ _;refine ⟨x',rfl,?_⟩;refine Ob.mk (by kernel_rfl) ?_;refine Ar.o ?_;refine ⟨(q+1,_),⟨by show a<=q+1;omega,by show q+1+1<=i;omega,?_⟩,zo [(0,some 0)],by dsimp only;omega⟩;have e1:((lo:Int)+(q:Int)).toNat=lo+q:=oM
    have e2:((lo:Int)+((q:Int)+1)).toNat=lo+q+1:=oM;rw [e2] at hy';rw [e1] at hx';show (t.set _ y').set _ x'=_;rw [e1,e2,← qm hy',← qm hx',ht,zio oM oM];congr 1
   ·have f:¬(q:Int) < (i:Int) - 1:=f;refine ⟨congrArg (fun q=>some (Mem.arr 3 zq 1 q)) ?_,.refl⟩;rw [ht,show lo+q+1=lo+i by omega];have e5:lo+d=lo+a+1:=oM;rw [e5] at hs2;exact sym_1 hk oM oM hs2 oM oM
 have g:¬(d:Int) - (a:Int)=1:=g;refine Ar.o ?_;refine Br.mk (fun g2=>?_) (fun g2=>?_)
 -- one element behind
 ·have g2:(b:Int) - (d:Int)=1:=g2;have gd:b=d+1:=oM
  refine ⟨Nat×Nat,fun ⟨i,j⟩=>⟨[(15,i64 (j:Int)),(14,i64 (i:Int)),(4,yZ m c),(3,i64 (b:Int)),(2,i64 (d:Int)),(1,i64 (a:Int)),(0,.win 0 1 (lo:Int) (n:Int))],[(0,.arr 3 zq 1 l)],1,220,1⟩,
   fun z=>(a<=z.1/\z.1<=z.2/\z.2<=d)/\(z.1=a∨key (gz l (lo+z.1 - 1))<=key (gz l (lo+d)))/\(z.2=d∨key (gz l (lo+d)) < key (gz l (lo+z.2))),fun z=>z.2 - z.1,(a,d),⟨by dsimp only;omega,.inl rfl,.inl rfl⟩,?_,?_⟩
  ·exact zo [(0,some 0)]
  rintro ⟨i,j⟩ ⟨⟨hi1,hi2,hi3⟩,hi4,hi5⟩
  have hi1:a<=i:=hi1;have hi2:i<=j:=hi2;have hi3:j<=d:=hi3;have hi4:i=a∨key (gz l (lo+i - 1))<=key (gz l (lo+d)):=hi4;have hi5:j=d∨key (gz l (lo+d)) < key (gz l (lo+j)):=hi5;refine Br.mk (fun h=>?_) (fun h=>?_)
  ·have h:(i:Int) < (j:Int):=h;(iterate 2 refine Ar.o ?_);refine Ob.o0 ?_;rw [yJ];refine Ar.o ?_;refine Dr.d ?_;refine Ob.o ?_;refine Ob.o ?_;intro x hx;refine Ob.o ?_;refine Ob.o ?_;intro y hy;rw [show ((lo:Int)+(d:Int)).toNat=lo+d by omega] at hx;rw [show ((lo:Int)+(((i+j) / 2:Nat):Int)).toNat=lo+(i+j) / 2 by omega] at hy;have x1:=qm hx;have y1:=qm hy;refine ze.t (zdw m c x y hp hc (hin.at hx) (hin.at hy)) ?_;refine Ob.mk (by kernel_rfl) ?_;rw [hkey];refine Br.mk (fun q=>?_) (fun q=>?_)
   ·have q:¬key x - key y < 0:=q;refine Ar.o ?_;exact ⟨((i+j) / 2+1,j),⟨by dsimp only;omega,.inr (by show key (gz l (lo+((i+j) / 2+1) - 1))<=_;rw [show lo+((i+j) / 2+1) - 1=lo+(i+j) / 2 by omega,x1,y1];omega),hi5⟩,zo [(0,some 0)],by dsimp only;omega⟩
   ·have q:¬¬key x - key y < 0:=q;exact ⟨(i,(i+j) / 2),⟨by dsimp only;omega,hi4,.inr (by show _ < key (gz l (lo+(i+j) / 2));rw [x1,y1];omega)⟩,zo [(0,some 0)],by dsimp only;omega⟩
  ·have h:¬(i:Int) < (j:Int):=h;obtain rfl:i=j:=oM
   refine ⟨Nat×List Int,fun ⟨q,t⟩=>⟨[(17,i64 (q:Int)),(14,i64 (i:Int)),(0,.win 0 1 (lo:Int) (n:Int))],[(0,.arr 3 zq 1 t)],1,220,1⟩,
    fun z=>i<=z.1/\z.1<=d/\z.2=zU l (lo+z.1) (lo+d) (lo+d+1),fun z=>z.1,(d,l),⟨hi3,Nat.le_refl _,(yI (.inl ⟨rfl,oM⟩)).symm⟩,?_,?_⟩
   ·exact zo [(0,some 0)]
   rintro ⟨q,t⟩ ⟨hq1,hq2,ht⟩
   have hq1:i<=q:=hq1;have hq2:q<=d:=hq2;have ht:t=zU l (lo+q) (lo+d) (lo+d+1):=ht;have htl:t.length=l.length:=by rw [ht,zH]
   refine Br.mk (fun f=>?_) (fun f=>?_)
   ·have f:(i:Int) < (q:Int):=f;refine Dr.d ?_;(iterate 2 refine Ar.o ?_);refine Ob.o ?_;refine Ob.o ?_;intro y' hy';refine Ob.o ?_;refine Ob.o ?_;intro x' hx';refine Ob.o ?_;refine Ob.o ?_;intro _ _;refine ⟨y',rfl,?_⟩;refine Ob.o ?_;refine Ob.mk (by rw [List.length_set];omega) ?_;intro _ _;refine ⟨x',rfl,?_⟩;refine Ob.mk (by kernel_rfl) ?_;refine Ar.o ?_;rw [show (q:Int) - 1=((q - 1:Nat):Int) by omega];refine ⟨(q - 1,_),⟨by show i<=q - 1;omega,by show q - 1<=d;omega,?_⟩,zo [(0,some 0)],by dsimp only;omega⟩
    have e1:((lo:Int)+(q:Int)).toNat=lo+q:=oM;have e2:((lo:Int)+((q:Int) - 1)).toNat=lo+q - 1:=oM;have e3:((lo:Int)+((q - 1:Nat):Int)).toNat=lo+q - 1:=oM;rw [e2] at hy';rw [e1] at hx';show (t.set _ y').set _ x'=_;rw [e1,e3,← qm hy',← qm hx',ht,zgP oM oM oM];congr 1;omega
   ·have f:¬(i:Int) < (q:Int):=f;obtain rfl:i=q:=oM;refine ⟨congrArg (fun q=>some (Mem.arr 3 zq 1 q)) ?_,.refl⟩;have e5:lo+b=lo+d+1:=oM;rw [ht,e5];exact zhQ hk oM oM hs1 oM oM
 have g2:¬(b:Int) - (d:Int)=1:=g2
 -- by halves
 (iterate 2 refine Ar.o ?_);refine Ob.o0 ?_;rw [yJ];obtain ⟨mid,hmid⟩:∃mid,mid=(a+b) / 2:=⟨_,rfl⟩;rw [← hmid];(iterate 2 refine Ar.o ?_)
 have low:∃s0 r0:Nat,(s0<=r0/\a<=s0/\s0<=d/\r0<=d/\r0<=mid/\mid+d - s0<=b/\(s0=a∨mid+d - s0=b)/\(r0=d∨mid+d - r0=d)/\∀s,s0<=s->s < r0->d<=mid+d - 1 - s)/\
   ((mid < d/\(mid:Int)+(d:Int) - (b:Int)=(s0:Int)/\r0=mid)∨(¬mid < d/\a=s0/\d=r0)):=by
  by_cases h:mid < d
  ·exact ⟨mid+d - b,mid,⟨oM,oM,oM,oM,oM,oM,oM,oM,fun s h1 h2=>by omega⟩,.inl ⟨h,oM,rfl⟩⟩
  ·exact ⟨a,d,⟨oM,oM,oM,oM,oM,oM,oM,oM,fun s h1 h2=>by omega⟩,.inr ⟨h,rfl,rfl⟩⟩
 obtain ⟨s0,r0,⟨l1,l2,l3,l4,l5,l6,l7,l8,l9⟩,lw⟩:=low;refine Br.mk (fun g3=>?_) (fun g3=>?_)
 ·have g3:(mid:Int) < (d:Int):=g3
  rcases lw with ⟨_,w2,rfl⟩ | ⟨w1,_,_⟩
  rotate_left
  ·exact absurd (show mid < d by omega) w1
  refine Ar.o ?_;rw [w2];refine Ar.o ?_
  refine ⟨Nat×Nat,fun ⟨s,r⟩=>⟨[(20,i64 (s:Int)),(21,i64 (r:Int)),(22,i64 ((r0:Int)+(d:Int) - 1)),(19,i64 ((r0:Int)+(d:Int))),(18,i64 (r0:Int)),(4,yZ m c),(3,i64 (b:Int)),(2,i64 (d:Int)),(1,i64 (a:Int)),(0,.win 0 1 (lo:Int) (n:Int))],[(0,.arr 3 zq 1 l)],1,220,1⟩,
   fun z=>(s0<=z.1/\z.1<=z.2/\z.2<=r0)/\(z.1=s0∨key (gz l (lo+z.1 - 1))<=key (gz l (lo+(r0+d - z.1))))/\(z.2=r0∨key (gz l (lo+(r0+d - z.2) - 1)) < key (gz l (lo+z.2))),fun z=>z.2 - z.1,(s0,r0),⟨by dsimp only;omega,.inl rfl,.inl rfl⟩,?_,?_⟩
  ·exact zo [(0,some 0)]
  rintro ⟨s,r⟩ ⟨⟨hi1,hi2,hi3⟩,hi4,hi5⟩
  have hi1:s0<=s:=hi1;have hi2:s<=r:=hi2;have hi3:r<=r0:=hi3;have hi4:s=s0∨key (gz l (lo+s - 1))<=key (gz l (lo+(r0+d - s))):=hi4;have hi5:r=r0∨key (gz l (lo+(r0+d - r) - 1)) < key (gz l (lo+r)):=hi5;refine Br.mk (fun h=>?_) (fun h=>?_)
  ·have h:(s:Int) < (r:Int):=h;(iterate 2 refine Ar.o ?_);refine Ob.o0 ?_;rw [yJ];obtain ⟨e,he⟩:∃e,e=(s+r) / 2:=⟨_,rfl⟩;rw [← he];have l9e:=l9 e oM oM;refine Ar.o ?_;refine Dr.d ?_;refine Ar.o ?_;refine Ob.o ?_;refine Ob.o ?_;intro x hx;refine Ob.o ?_;refine Ob.o ?_;intro y hy;rw [show ((lo:Int)+((r0:Int)+(d:Int) - 1 - (e:Int))).toNat=lo+(r0+d - (e+1)) by omega] at hx;rw [show ((lo:Int)+(e:Int)).toNat=lo+e by omega] at hy;have x1:=qm hx;have y1:=qm hy;refine ze.t (zdw m c x y hp hc (hin.at hx) (hin.at hy)) ?_
   refine Ob.mk (by kernel_rfl) ?_;rw [hkey];refine Br.mk (fun q=>?_) (fun q=>?_)
   ·have q:¬key x - key y < 0:=q;refine Ar.o ?_;exact ⟨(e+1,r),⟨by dsimp only;omega,.inr (by show key (gz l (lo+(e+1) - 1))<=key (gz l (lo+(r0+d - (e+1))));rw [show lo+(e+1) - 1=lo+e by omega,x1,y1];omega),hi5⟩,zo [(0,some 0)],by dsimp only;omega⟩
   ·have q:¬¬key x - key y < 0:=q;exact ⟨(s,e),⟨by dsimp only;omega,hi4,.inr (by show key (gz l (lo+(r0+d - e) - 1)) < key (gz l (lo+e));rw [show lo+(r0+d - e) - 1=lo+(r0+d - (e+1)) by omega,x1,y1];omega)⟩,zo [(0,some 0)],by dsimp only;omega⟩
  ·have h:¬(s:Int) < (r:Int):=h;obtain rfl:s=r:=oM;obtain ⟨e,he⟩:∃e,e=r0+d - s:=⟨_,rfl⟩;have hi6:s=s0∨key (gz l (lo+s - 1))<=key (gz l (lo+e)):=by rw [he];exact hi4
   have hi7:s=r0∨key (gz l (lo+e - 1)) < key (gz l (lo+s)):=by rw [he];exact hi5
   clear hi4 hi5;have f1:lo+s=lo+a∨lo+e=lo+b∨key (gz l (lo+s - 1))<=key (gz l (lo+e)):=oM;have f2:lo+s=lo+d∨lo+e=lo+d∨key (gz l (lo+e - 1)) < key (gz l (lo+s)):=oM;obtain ⟨m1,m2,m3,m4,m5⟩:=zhR hk (l:=l) (a:=lo+a) (m:=lo+d) (b:=lo+b) (s:=lo+s) (e:=lo+e) (mid:=lo+r0) oM oM oM hs1 hs2 f1 f2;clear hi6 hi7 f1 f2 l9;have in1:=zeY hin (a:=lo+s) (d:=lo+d) (b:=lo+e) oM oM;have len1:(zU l (lo+s) (lo+d) (lo+e)).length=l.length:=zH ..
   have nop1:¬(s < d/\d < e)->zU l (lo+s) (lo+d) (lo+e)=l:=fun h=>yI oM
   have run1:s < d->d < e->_:=fun h1 h2=>zgO m c l lo n s d e hn hl h1 h2 oM
   generalize zU l (lo+s) (lo+d) (lo+e)=t1 at*;have len2:(kf key t1 (lo+a) (lo+r0)).length=t1.length:=zdt hk oM oM;have in2:InP m (kf key t1 (lo+a) (lo+r0)):=in1.of (zit hk oM oM).1.same;have run2:a < s->s < r0->_:=fun h1 h2=>ih t1 a s r0 in1 oM h1 h2 oM oM m1 m2
   have nop2:¬(a < s/\s < r0)->kf key t1 (lo+a) (lo+r0)=t1:=fun h=>yV hk oM oM (by
    by_cases h1:a < s
    ·exact m1.up oM oM
    ·exact m2.up oM oM)
   generalize kf key t1 (lo+a) (lo+r0)=t2 at*;have run3:r0 < e->e < b->_:=fun h1 h2=>ih t2 r0 e b in2 oM h1 h2 oM oM m3 m4
   have nop3:¬(r0 < e/\e < b)->kf key t2 (lo+r0) (lo+b)=t2:=fun h=>yV hk oM oM (by
    by_cases h1:r0 < e
    ·exact m3.up oM oM
    ·exact m4.up oM oM)
   refine Ar.o ?_;rw [show (r0:Int)+(d:Int) - (s:Int)=(e:Int) by omega];rw [← m5];refine Br.mk (fun h1=>Br.mk (fun h2=>?_) (fun h2=>?_)) (fun h1=>?_)
   all_goals first
    | (have k1:(s:Int) < (d:Int):=h1;have k2:(d:Int) < (e:Int):=h2;refine ze.hand 0 _ _ _ rfl (run1 oM oM) (zk _ _) (zk _ _) rfl rfl ?_)
    | (have k2:¬(d:Int) < (e:Int):=h2;rw [← nop1 oM])
    | (have k1:¬(s:Int) < (d:Int):=h1;rw [← nop1 oM])
   all_goals
    clear nop1 run1;refine Br.mk (fun h3=>Br.mk (fun h4=>?_) (fun h4=>?_)) (fun h3=>?_)
    all_goals first
     | (have k1:(a:Int) < (s:Int):=h3;have k2:(s:Int) < (r0:Int):=h4;refine ze.hand 0 _ _ _ rfl (run2 oM oM) (zk _ _) (zk _ _) rfl rfl ?_)
     | (have k2:¬(s:Int) < (r0:Int):=h4;rw [← nop2 oM])
     | (have k1:¬(a:Int) < (s:Int):=h3;rw [← nop2 oM])
    all_goals
     clear nop2 run2;refine Br.mk (fun h5=>Br.mk (fun h6=>?_) (fun h6=>?_)) (fun h5=>?_)
     all_goals first
      | (have k1:(r0:Int) < (e:Int):=h5;have k2:(e:Int) < (b:Int):=h6;refine ze.hand 0 _ _ _ rfl (run3 oM oM) (zk _ _) (zk _ _) rfl rfl ?_;exact ⟨rfl,.refl⟩)
      | (have k2:¬(e:Int) < (b:Int):=h6;rw [nop3 oM];exact ⟨rfl,.refl⟩)
      | (have k1:¬(r0:Int) < (e:Int):=h5;rw [nop3 oM];exact ⟨rfl,.refl⟩)
 ·have g3:¬(mid:Int) < (d:Int):=g3
  rcases lw with ⟨w1,_,_⟩ | ⟨_,rfl,rfl⟩
  ·exact absurd w1 oM
  refine Ar.o ?_
  refine ⟨Nat×Nat,fun ⟨s,r⟩=>⟨[(20,i64 (s:Int)),(21,i64 (r:Int)),(22,i64 ((mid:Int)+(d:Int) - 1)),(19,i64 ((mid:Int)+(d:Int))),(18,i64 (mid:Int)),(4,yZ m c),(3,i64 (b:Int)),(2,i64 (d:Int)),(1,i64 (a:Int)),(0,.win 0 1 (lo:Int) (n:Int))],[(0,.arr 3 zq 1 l)],1,220,1⟩,
   fun z=>(a<=z.1/\z.1<=z.2/\z.2<=d)/\(z.1=a∨key (gz l (lo+z.1 - 1))<=key (gz l (lo+(mid+d - z.1))))/\(z.2=d∨key (gz l (lo+(mid+d - z.2) - 1)) < key (gz l (lo+z.2))),fun z=>z.2 - z.1,(a,d),⟨by dsimp only;omega,.inl rfl,.inl rfl⟩,?_,?_⟩
  ·exact zo [(0,some 0)]
  rintro ⟨s,r⟩ ⟨⟨hi1,hi2,hi3⟩,hi4,hi5⟩
  have hi1:a<=s:=hi1;have hi2:s<=r:=hi2;have hi3:r<=d:=hi3;have hi4:s=a∨key (gz l (lo+s - 1))<=key (gz l (lo+(mid+d - s))):=hi4;have hi5:r=d∨key (gz l (lo+(mid+d - r) - 1)) < key (gz l (lo+r)):=hi5;refine Br.mk (fun h=>?_) (fun h=>?_)
  ·have h:(s:Int) < (r:Int):=h;(iterate 2 refine Ar.o ?_);refine Ob.o0 ?_;rw [yJ];obtain ⟨e,he⟩:∃e,e=(s+r) / 2:=⟨_,rfl⟩;rw [← he];have l9e:=l9 e oM oM;refine Ar.o ?_;refine Dr.d ?_;refine Ar.o ?_;refine Ob.o ?_;refine Ob.o ?_;intro x hx;refine Ob.o ?_;refine Ob.o ?_;intro y hy;rw [show ((lo:Int)+((mid:Int)+(d:Int) - 1 - (e:Int))).toNat=lo+(mid+d - (e+1)) by omega] at hx;rw [show ((lo:Int)+(e:Int)).toNat=lo+e by omega] at hy;have x1:=qm hx;have y1:=qm hy;refine ze.t (zdw m c x y hp hc (hin.at hx) (hin.at hy)) ?_
   refine Ob.mk (by kernel_rfl) ?_;rw [hkey];refine Br.mk (fun q=>?_) (fun q=>?_)
   ·have q:¬key x - key y < 0:=q;refine Ar.o ?_;exact ⟨(e+1,r),⟨by dsimp only;omega,.inr (by show key (gz l (lo+(e+1) - 1))<=key (gz l (lo+(mid+d - (e+1))));rw [show lo+(e+1) - 1=lo+e by omega,x1,y1];omega),hi5⟩,zo [(0,some 0)],by dsimp only;omega⟩
   ·have q:¬¬key x - key y < 0:=q;exact ⟨(s,e),⟨by dsimp only;omega,hi4,.inr (by show key (gz l (lo+(mid+d - e) - 1)) < key (gz l (lo+e));rw [show lo+(mid+d - e) - 1=lo+(mid+d - (e+1)) by omega,x1,y1];omega)⟩,zo [(0,some 0)],by dsimp only;omega⟩
  ·have h:¬(s:Int) < (r:Int):=h;obtain rfl:s=r:=oM;obtain ⟨e,he⟩:∃e,e=mid+d - s:=⟨_,rfl⟩;have hi6:s=a∨key (gz l (lo+s - 1))<=key (gz l (lo+e)):=by rw [he];exact hi4
   have hi7:s=d∨key (gz l (lo+e - 1)) < key (gz l (lo+s)):=by rw [he];exact hi5
   clear hi4 hi5;have f1:lo+s=lo+a∨lo+e=lo+b∨key (gz l (lo+s - 1))<=key (gz l (lo+e)):=oM;have f2:lo+s=lo+d∨lo+e=lo+d∨key (gz l (lo+e - 1)) < key (gz l (lo+s)):=oM;obtain ⟨m1,m2,m3,m4,m5⟩:=zhR hk (l:=l) (a:=lo+a) (m:=lo+d) (b:=lo+b) (s:=lo+s) (e:=lo+e) (mid:=lo+mid) oM oM oM hs1 hs2 f1 f2;clear hi6 hi7 f1 f2 l9;have in1:=zeY hin (a:=lo+s) (d:=lo+d) (b:=lo+e) oM oM;have len1:(zU l (lo+s) (lo+d) (lo+e)).length=l.length:=zH ..
   have nop1:¬(s < d/\d < e)->zU l (lo+s) (lo+d) (lo+e)=l:=fun h=>yI oM
   have run1:s < d->d < e->_:=fun h1 h2=>zgO m c l lo n s d e hn hl h1 h2 oM
   generalize zU l (lo+s) (lo+d) (lo+e)=t1 at*;have len2:(kf key t1 (lo+a) (lo+mid)).length=t1.length:=zdt hk oM oM;have in2:InP m (kf key t1 (lo+a) (lo+mid)):=in1.of (zit hk oM oM).1.same;have run2:a < s->s < mid->_:=fun h1 h2=>ih t1 a s mid in1 oM h1 h2 oM oM m1 m2
   have nop2:¬(a < s/\s < mid)->kf key t1 (lo+a) (lo+mid)=t1:=fun h=>yV hk oM oM (by
    by_cases h1:a < s
    ·exact m1.up oM oM
    ·exact m2.up oM oM)
   generalize kf key t1 (lo+a) (lo+mid)=t2 at*;have run3:mid < e->e < b->_:=fun h1 h2=>ih t2 mid e b in2 oM h1 h2 oM oM m3 m4
   have nop3:¬(mid < e/\e < b)->kf key t2 (lo+mid) (lo+b)=t2:=fun h=>yV hk oM oM (by
    by_cases h1:mid < e
    ·exact m3.up oM oM
    ·exact m4.up oM oM)
   refine Ar.o ?_;rw [show (mid:Int)+(d:Int) - (s:Int)=(e:Int) by omega];rw [← m5];refine Br.mk (fun h1=>Br.mk (fun h2=>?_) (fun h2=>?_)) (fun h1=>?_)
   all_goals first
    | (have k1:(s:Int) < (d:Int):=h1;have k2:(d:Int) < (e:Int):=h2;refine ze.hand 0 _ _ _ rfl (run1 oM oM) (zk _ _) (zk _ _) rfl rfl ?_)
    | (have k2:¬(d:Int) < (e:Int):=h2;rw [← nop1 oM])
    | (have k1:¬(s:Int) < (d:Int):=h1;rw [← nop1 oM])
   all_goals
    clear nop1 run1;refine Br.mk (fun h3=>Br.mk (fun h4=>?_) (fun h4=>?_)) (fun h3=>?_)
    all_goals first
     | (have k1:(a:Int) < (s:Int):=h3;have k2:(s:Int) < (mid:Int):=h4;refine ze.hand 0 _ _ _ rfl (run2 oM oM) (zk _ _) (zk _ _) rfl rfl ?_)
     | (have k2:¬(s:Int) < (mid:Int):=h4;rw [← nop2 oM])
     | (have k1:¬(a:Int) < (s:Int):=h3;rw [← nop2 oM])
    all_goals
     clear nop2 run2;refine Br.mk (fun h5=>Br.mk (fun h6=>?_) (fun h6=>?_)) (fun h5=>?_)
     all_goals first
      | (have k1:(mid:Int) < (e:Int):=h5;have k2:(e:Int) < (b:Int):=h6;refine ze.hand 0 _ _ _ rfl (run3 oM oM) (zk _ _) (zk _ _) rfl rfl ?_;exact ⟨rfl,.refl⟩)
      | (have k2:¬(e:Int) < (b:Int):=h6;rw [nop3 oM];exact ⟨rfl,.refl⟩)
      | (have k1:¬(mid:Int) < (e:Int):=h5;rw [nop3 oM];exact ⟨rfl,.refl⟩)
variable {key:Int->Int}
theorem zgQ(m:Img)(c:Nat)(l:List Int)(lo n:Nat)(hp:∀q∈m.px,P8 q)(hc:c < 4)(hin:InP m l)(hn:n<=1000000)(hl:lo+n<=l.length):
  zf Try.prog 81 [.win 0 1 (lo:Int) (n:Int),i64 (n:Int),yZ m c] [(0,.arr 3 zq 1 l)] (.tup []) [(0,.arr 3 zq 1 (kf (zC m c) l lo (lo+n)))]:=by
 have hk:=qN hp c;obtain ⟨key,hkey⟩:∃key,key=zC m c:=⟨_,rfl⟩;rw [← hkey] at hk ⊢;refine qA tok mix Try.func81 rfl rfl rfl (zk _ _) rfl ?_
 refine ⟨Nat×List Int,fun ⟨k,s⟩=>⟨[(8,i64 (((k+1)*20:Nat):Int)),(7,i64 ((k*20:Nat):Int)),(6,i64 ((20:Nat):Int)),(2,yZ m c),(1,i64 (n:Int)),(0,.win 0 1 (lo:Int) (n:Int))],[(0,.arr 3 zq 1 s)],1,63,1⟩,
  fun z=>z.1*20<=n/\qn key l z.2 lo (lo+n)/\∀i,i < z.1->Bk key z.2 lo n 20 i,fun z=>n+20 - z.1*20,(0,l),⟨Nat.zero_le _,.refl,fun i hi=>absurd hi (Nat.not_lt_zero _)⟩,?_,?_⟩
 ·exact zo [(0,some 0)]
 rintro ⟨k,s⟩ ⟨h1,h2,h3⟩
 have h1:k*20<=n:=h1;have h2:qn key l s lo (lo+n):=h2;have h3:∀i,i < k->Bk key s lo n 20 i:=h3;have hsl:=h2.len;have e20:=jd k 20;refine Br.mk (fun g=>?_) (fun g=>?_)
 ·have g:(((k+1)*20:Nat):Int)<=(n:Int):=g;have cc:=zhV m c s lo n (k*20) ((k+1)*20) hp hc (hin.of h2.same) hn oM oM oM;rw [← hkey] at cc;refine ze.hand 0 _ _ _ rfl cc (zk _ _) (zk _ _) rfl rfl ?_;refine Ar.o ?_;have p:=zeg hk oM h1 h3;rw [show min (lo+(k+1)*20) (lo+n)=lo+(k+1)*20 by omega] at p;refine ⟨(k+1,kf key s (lo+k*20) (lo+(k+1)*20)),⟨by show (k+1)*20<=n;omega,h2.trans ((zit hk oM oM).1.up oM oM),p⟩,?_,by dsimp only;omega⟩
  exact ki [(0,some 0)] ⟨congrArg (fun x=>some (i64 x)) (by rw [jd (k+1)];omega),rfl,rfl,rfl,rfl,rfl,trivial⟩ ⟨rfl,trivial⟩
 have g:¬(((k+1)*20:Nat):Int)<=(n:Int):=g;have cc:=zhV m c s lo n (k*20) n hp hc (hin.of h2.same) hn oM oM oM;rw [← hkey] at cc;refine ze.hand 0 _ _ _ rfl cc (zk _ _) (zk _ _) rfl rfl ?_;have p:=zeg hk oM h1 h3;rw [show min (lo+(k+1)*20) (lo+n)=lo+n by omega] at p;have kp:=h2.trans ((zit hk (l:=s) (a:=lo+k*20) (b:=lo+n) oM oM).1.up oM (Nat.le_refl _));have p:=zgL p oM;clear cc g e20 hsl;generalize kf key s (lo+k*20) (lo+n)=s0 at*
 refine ⟨Nat×List Int,fun ⟨bs,s⟩=>⟨[(6,i64 (bs:Int)),(2,yZ m c),(1,i64 (n:Int)),(0,.win 0 1 (lo:Int) (n:Int))],[(0,.arr 3 zq 1 s)],1,63,1⟩,
  fun z=>(1<=z.1/\z.1<=2*n+20)/\qn key l z.2 lo (lo+n)/\∀i,Bk key z.2 lo n z.1 i,fun z=>n - z.1,(20,s0),⟨by dsimp only;omega,kp,p⟩,?_,?_⟩
 ·exact zo [(0,some 0)]
 rintro ⟨bs,s⟩ ⟨⟨h1,h1'⟩,h2,h3⟩
 have h1:1<=bs:=h1;have h1':bs<=2*n+20:=h1';have h2:qn key l s lo (lo+n):=h2;have h3:∀i,Bk key s lo n bs i:=h3;refine Br.mk (fun g=>?_) (fun g=>?_)
 ·have g:(bs:Int) < (n:Int):=g;refine Ar.o ?_
  refine ⟨Nat×List Int,fun ⟨k,t⟩=>⟨[(8,i64 (((k+1)*(2*bs):Nat):Int)),(7,i64 ((k*(2*bs):Nat):Int)),(6,i64 (bs:Int)),(2,yZ m c),(1,i64 (n:Int)),(0,.win 0 1 (lo:Int) (n:Int))],[(0,.arr 3 zq 1 t)],1,63,1⟩,
   fun z=>z.1*(2*bs)<=n/\qn key l z.2 lo (lo+n)/\(∀i,i < z.1->Bk key z.2 lo n (2*bs) i)/\∀i,2*z.1<=i->Bk key z.2 lo n bs i,fun z=>n+1 - z.1*(2*bs),(0,s),⟨by dsimp only;omega,h2,fun i hi=>absurd hi (Nat.not_lt_zero _),fun i _=>h3 i⟩,?_,?_⟩
  ·exact ki [(0,some 0)] ⟨congrArg (fun x=>some (i64 x)) oM,congrArg (fun x=>some (i64 x)) oM,rfl,rfl,rfl,rfl,trivial⟩ ⟨rfl,trivial⟩
  rintro ⟨k,t⟩ ⟨u1,u2,u3,u4⟩
  have u1:k*(2*bs)<=n:=u1;have u2:qn key l t lo (lo+n):=u2;have u3:∀i,i < k->Bk key t lo n (2*bs) i:=u3;have u4:∀i,2*k<=i->Bk key t lo n bs i:=u4;have htl:=u2.len;have e1:=jd k (2*bs);have e2:=jd (k+1) (2*bs);have p:=zeg hk oM u1 u3;refine Br.mk (fun f=>?_) (fun f=>?_)
  ·have f:(((k+1)*(2*bs):Nat):Int)<=(n:Int):=f;have f:(k+1)*(2*bs)<=n:=oM;obtain ⟨v1,v2⟩:=zgJ u4 oM;rw [show lo+k*(2*bs)+bs=lo+(k*(2*bs)+bs) by omega] at v1 v2;rw [show min (lo+(k+1)*(2*bs)) (lo+n)=lo+(k+1)*(2*bs) by omega] at v2 p;refine Ar.o ?_;rw [show ((k*(2*bs):Nat):Int)+(bs:Int)=((k*(2*bs)+bs:Nat):Int) by omega];have cc:=zhW m c lo n hp hc hn n t (k*(2*bs)) (k*(2*bs)+bs) ((k+1)*(2*bs)) (hin.of u2.same) oM oM oM f oM (hkey ▸ v1) (hkey ▸ v2);rw [← hkey] at cc
   refine ze.hand 0 _ _ _ rfl cc (zk _ _) (zk _ _) rfl rfl ?_;(iterate 2 refine Ar.o ?_);refine ⟨(k+1,kf key t (lo+k*(2*bs)) (lo+(k+1)*(2*bs))),⟨f,u2.trans ((zit hk oM oM).1.up oM oM),p,fun i hi=>zhv hk oM oM ?_ (u4 i (by dsimp only at hi;omega))⟩,?_,by dsimp only;omega⟩
   ·have hi:2*(k+1)<=i:=hi;have:=Nat.mul_le_mul_right bs hi;have e3:(k+1)*(2*bs)=2*(k+1)*bs:=by rw [← Nat.mul_assoc,Nat.mul_comm (k+1) 2]
    omega
   ·exact ki [(0,some 0)] ⟨congrArg (fun x=>some (i64 x)) oM,rfl,rfl,rfl,rfl,rfl,trivial⟩ ⟨rfl,trivial⟩
  have f:¬(((k+1)*(2*bs):Nat):Int)<=(n:Int):=f;rw [show min (lo+(k+1)*(2*bs)) (lo+n)=lo+n by omega] at p;refine Ar.o ?_;rw [show ((k*(2*bs):Nat):Int)+(bs:Int)=((k*(2*bs)+bs:Nat):Int) by omega];refine Br.mk (fun q=>?_) (fun q=>?_)
  ·have q:((k*(2*bs)+bs:Nat):Int) < (n:Int):=q;obtain ⟨v1,v2⟩:=zgJ u4 oM;rw [show lo+k*(2*bs)+bs=lo+(k*(2*bs)+bs) by omega] at v1 v2;rw [show min (lo+(k+1)*(2*bs)) (lo+n)=lo+n by omega] at v2;have cc:=zhW m c lo n hp hc hn n t (k*(2*bs)) (k*(2*bs)+bs) n (hin.of u2.same) oM oM oM (Nat.le_refl _) oM (hkey ▸ v1) (hkey ▸ v2);rw [← hkey] at cc;refine ze.hand 0 _ _ _ rfl cc (zk _ _) (zk _ _) rfl rfl ?_;refine Ar.o ?_;rw [show (bs:Int)*2=((2*bs:Nat):Int) by omega];have pa:=zgL p oM
   exact ⟨(2*bs,kf key t (lo+k*(2*bs)) (lo+n)),⟨by dsimp only;omega,u2.trans ((zit hk oM oM).1.up oM oM),pa⟩,zo [(0,some 0)],by dsimp only;omega⟩
  ·have q:¬((k*(2*bs)+bs:Nat):Int) < (n:Int):=q;have v:=zgK u4 oM;refine Ar.o ?_;rw [show (bs:Int)*2=((2*bs:Nat):Int) by omega];exact ⟨(2*bs,t),⟨by dsimp only;omega,u2,fun i=>(Nat.lt_or_ge i k).elim (u3 i) (v i)⟩,zo [(0,some 0)],by dsimp only;omega⟩
 ·have g:¬(bs:Int) < (n:Int):=g;refine ⟨congrArg (fun q=>some (Mem.arr 3 zq 1 q)) ?_,.refl⟩;exact zhw hk hl h2 (h3 0) oM
theorem zhx(m:Img)(c:Nat)(l:List Int)(lo n:Nat)(hp:∀q∈m.px,P8 q)(hc:c < 4)(hin:InP m l)(hn:n<=1000000)(hl:lo+n<=l.length):
  zf Try.prog 74 [.win 0 1 (lo:Int) (n:Int),yZ m c] [(0,.arr 3 zq 1 l)] (.tup []) [(0,.arr 3 zq 1 (kf (zC m c) l lo (lo+n)))]:=by
 refine qA tok mix Try.func74 rfl rfl rfl (zk _ _) rfl ?_;refine Ob.o ?_;refine ze.hand 0 _ _ _ rfl (zgQ m c l lo n hp hc hin hn hl) (zk _ _) (zk _ _) rfl rfl ?_;exact ⟨rfl,.refl⟩
end Go.Gs
