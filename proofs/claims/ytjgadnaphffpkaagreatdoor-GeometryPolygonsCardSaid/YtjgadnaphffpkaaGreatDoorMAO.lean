/- Natural numbers, the program's: a multiple taken off a part of a row. -/
import Derived.Test.YtjgadnaphffpkaaGreatDoorMA
import Derived.Test.YtjgadnaphffpkaaGreatDoorMAN
import Derived.Laws.MathBits
set_option maxRecDepth 100000
set_option maxHeartbeats 8000000
set_option linter.all false
namespace Go.Gs
open Go.Proofs
def ye(k n:Nat):List Dig:=(List.range k).map λi=>dof (n / 4294967296 ^ i)
theorem yA(k n:Nat):(ye k n).length=k:=by simp[ye]
theorem zvS{xs ys:List Dig}(hl:xs.length=ys.length)(h:∀i,i < xs.length->dig xs i=dig ys i):xs=ys:=by
 refine List.ext_getElem hl λi h1 h2=>Fin.ext ?_
 have:=h i h1
 rwa [zW (Xb h1),zW (Xb h2)]at this
theorem zsc(w:List Dig):ye w.length (val w)=w:=by
 refine zvS (yA _ _) λi hi=>?_
 rw[yA]at hi;rw[zyt w i];have:(ye w.length (val w))[i]? =some (dof (val w / 4294967296 ^ i)):=by simp[ye,hi]
 rw[zW this,kC]
theorem zsd{k n:Nat}(h:n < 4294967296 ^ k):val (ye k n)=n:=by
 have:=zdq (xs:=ye k n) (N:=n) (λj hj=>by
  rw[yA]at hj;have e:(ye k n)[j]? =some (dof (n / 4294967296 ^ j)):=by simp[ye,hj]
  rw[zW e,kC])
 rw[yA,Xu h]at this;exact this
theorem ziq{pre w post:List Dig}{i:Nat}(h:i < w.length):(pre++(w++post))[pre.length+i]? =w[i]? :=by
 rw[Xy oM,JR,XD h]
theorem zir{pre w post:List Dig}{i:Nat}{d:Dig}(h:i < w.length):(pre++(w++post)).set (pre.length+i) d=pre++(w.set i d++post):=by
 rw[J8 _ _ oM,JR,List.set_append_left _ _ h]
def zoN(W V:List Dig)(q:Nat):List Dig:=ye W.length (if val W < q*val V then val W+4294967296 ^ W.length - q*val V else val W - q*val V)
theorem zAO{x:Nat}{e:Int}(h:e=x):zau .and .u64 e 4294967295=((x % 4294967296:Nat):Int):=by rw[h];exact zr9 x
theorem zjx{u lo b:Nat}(hu:u < 4294967296)(hl:lo < 4294967296)(hb:b<=1):
  ((dof (8589934592+u - lo - b)).val:Int)=IntKind.u32.wrap (IntKind.u64.wrap (IntKind.u64.wrap ((u:Int) - lo) - b))/\
  IntKind.u64.wrap (IntKind.u64.wrap ((u:Int) - lo) - b) / 2 ^ 63=(((if u < lo+b then 1 else 0:Nat)):Int)/\
  (8589934592+u - lo - b) % 4294967296+lo+b=u+4294967296*(if u < lo+b then 1 else 0):=by
 rw[zjr,yp,yp,kC];simp only[Int.reducePow];refine⟨oM,?_,?_⟩
 ·split <;> omega
 ·split <;> omega
theorem zAP(pre W post V:List Dig)(q:Nat)(hW:W.length=V.length+1)(hq:q<=4294967296):
  CG0 277 [.win 0 1 (pre.length:Int) (W.length:Int),.sl dgE V,u64 q] [(0,qy (pre++(W++post)))] (pr (val W < q*val V)) [(0,qy (pre++(zoN W V q++post)))]:=by
 refine uq tok mix Tryz.func277 rfl rfl rfl (qT _) rfl ?_;intro hl0
 refine⟨Nat×List Dig×Nat×Nat,λ⟨i,w,c,b⟩=>⟨[(15,i64 i),(14,i64 V.length),(13,.sl dgE V),(7,u64 c),(8,u64 b),(0,.win 0 1 (pre.length:Int) (W.length:Int)),(1,.sl dgE V),(2,u64 q)],[(0,qy (pre++(w++post)))],1,65,1⟩,
  λs=>s.1<=V.length/\s.2.1.length=W.length/\s.2.2.1 < 4294967296/\s.2.2.2<=1/\(∀j,s.1<=j->dig s.2.1 j=dig W j)/\val (s.2.1.take s.1)+q*val (V.take s.1)=val (W.take s.1)+4294967296 ^ s.1*(s.2.2.1+s.2.2.2),
  λs=>V.length - s.1,(0,W,0,0),?_,?_,?_⟩
 ·exact⟨Xe _,rfl,by dsimp only;omega,Xe _,λ_ _=>rfl,by simp[val]⟩
 ·exact zf [0]
 rintro⟨i,w,c,b⟩ ⟨h1,h2,h3,h4,h5,h6⟩
 dsimp only at h1 h2 h3 h4 h5 h6;have hll:(pre++(w++post)).length=pre.length+W.length+post.length:=by simp[h2];omega
 refine⟨λk1=>?_,λk1=>?_⟩
 ·refine Ob.o ?_;intro y hy;have hy:V[i]? =some y:=hy;have dy:=zW hy;have hyl:=y.isLt;have hm:q*y.val<=4294967296*4294967295:=Qe hq oM;refine Ar.o<|Ar.fit (by rw[← X0];omega)<|Ar.fit (by rw[← X0];omega)<|Ob.o5<|Ob.mk (by rw[hll];omega) ?_;intro u hu;have hu:w[i]? =some u:=by rw[← ziq (pre:=pre) (post:=post) oM,← hu];congr 1
  have du:=zW hu;have hul:=u.isLt;refine Ar.o ?_;have ex:(c:Int)+(q:Int)*(y.val:Int)=((c+q*y.val:Nat):Int):=by simp
  refine⟨_,(zAO ex).symm,?_⟩;rw[ex];generalize hX:c+q*y.val=X at*;obtain⟨t1,t2,t3⟩:=zjx (u:=u.val) (lo:=X % 4294967296) (b:=b) hul (Kl _ dC) h4;refine Ar.wrap<|Ar.wrap<|Ar.wrap<|Ob.o5<|Ob.mk (by rw[hll];omega) ?_;intro z hz;refine⟨dof (8589934592+u.val - X % 4294967296 - b),congrArg (λn=>[u32 n]) t1,?_⟩;refine Ob.o1<|Ob.o1<|Ar.o ?_;generalize (if u.val < X % 4294967296+b then 1 else 0)=b' at*;have hb':b'<=1:=oM
  refine⟨(i+1,w.set i (dof (8589934592+u.val - X % 4294967296 - b)),X / 4294967296,b'),⟨by dsimp only;omega,by simp[h2],by dsimp only;omega,hb',λj hj=>?_,?_⟩,
   qw [(0,some 0)] rfl rfl rfl ⟨rfl,rfl,rfl,congrArg (λn=>some (u64 n)) (by simp only[Int.reducePow];omega),congrArg (λn=>some (u64 n)) t2,rfl,rfl,rfl,trivial⟩
    ⟨congrArg (λl=>some (qy l)) (by rw[← zir oM];congr 1),trivial⟩,by dsimp only;omega⟩
  ·dsimp only at hj ⊢;rw[jR,if_neg oM];exact h5 j oM
  ·dsimp only;rw[zU,zU,zU,XR,dy,jR,if_pos ⟨rfl,oM⟩,kC,← h5 i (Xh _),du];have ht:(w.set i (dof (8589934592+u.val - X % 4294967296 - b))).take i=w.take i:=by rw[QP oM]
   rw[ht];have hd:=X3 X 4294967296;exact ztM h6 oM t3
 ·have hi:i=V.length:=by omega
  subst hi;intro hl9;refine Ob.o5<|Ob.mk (by rw[hll];omega) ?_;intro u hu;have hu:w[V.length]? =some u:=by rw[← ziq (pre:=pre) (post:=post) oM,← hu];congr 1
  have du:=zW hu;have hul:=u.isLt;refine Ar.o ?_;obtain⟨t1,t2,t3⟩:=zjx (u:=u.val) (lo:=c) (b:=b) hul h3 h4;refine Ar.wrap<|Ar.wrap ?_;intro hl10;refine Ar.wrap<|Ob.o5<|Ob.mk (by rw[hll];omega) ?_;intro z hz;refine⟨dof (8589934592+u.val - c - b),congrArg (λn=>[u32 n]) t1,?_⟩;refine Ob.o1 ?_
  have ev:val (w.set V.length (dof (8589934592+u.val - c - b)))+q*val V=val W+4294967296 ^ W.length*(if u.val < c+b then 1 else 0):=by
   have e1:=vX w V.length (dof (8589934592+u.val - c - b)) oM;have e2:=kU w V.length;have e3:=zG w V.length;rw[ki (show w.length<=V.length+1 by omega),Km,XN]at e3;rw[e3]at e2;have f2:=kU W V.length;have f3:=zG W V.length;rw[ki (show W.length<=V.length+1 by omega),Km,XN]at f3;rw[f3]at f2;rw[kX (Xh V.length)]at h6;rw[hW,XR,f2,← h5 _ (Xh _),du];rw[du]at e1 e2;rw[kC]at e1;generalize (if u.val < c+b then 1 else 0)=b' at*
   generalize (8589934592+u.val - c - b) % 4294967296=u' at*;generalize 4294967296 ^ V.length=p at*;have e4:p*(u'+c+b)=p*(u.val+4294967296*b'):=by rw[t3]
   generalize u.val=u at*;generalize val (w.take V.length)=wt at*;generalize val (W.take V.length)=Wt at*;generalize q*val V=qv at*;clear h5 t1 t2
   grind
  have hvl:=je (w.set V.length (dof (8589934592+u.val - c - b)));rw[X1,h2]at hvl
  have hneg:(u.val < c+b)↔val W < q*val V:=by
   constructor
   ·intro h;rw[if_pos h]at ev;omega
   ·intro h
    by_cases hh:u.val < c+b
    ·exact hh
    ·rw[if_neg hh]at ev;omega
  have hfin:w.set V.length (dof (8589934592+u.val - c - b))=zoN W V q:=by
   rw[← zsc (w.set V.length (dof (8589934592+u.val - c - b)))];unfold zoN;rw[X1,h2];congr 1
   by_cases hh:val W < q*val V
   ·rw[if_pos hh];rw[if_pos (hneg.2 hh)]at ev;omega
   ·rw[if_neg hh];rw[if_neg (λh=>hh (hneg.1 h))]at ev;omega
  refine⟨congrArg (λl=>some (qy l)) ?_,zF ?_⟩
  ·rw[← hfin,← zir oM];congr 1
  ·rw[t2,← hneg]
   by_cases hh:u.val < c+b
   ·simp[hh]
   ·simp[hh]
theorem zoO{α:Type}{enc:α->List SV}:LE (.val (.slice none 0 0)) (.full enc []):=λS Pm ρ w v hg=>by
 rw[hg.val_inv];exact .d _ _ (.full enc [] none (.nil enc none))
theorem or32{x y:Nat}(hx:x < 4294967296)(hy:y < 4294967296):zau .or .u32 x y=((x|||y:Nat):Int):=by
 show IntKind.u32.wrap ((BitVec.ofInt 32 x|||BitVec.ofInt 32 y).toNat:Nat)=_;have h:x|||y < 2 ^ 32:=Nat.or_lt_two_pow hx hy
 have e:(BitVec.ofInt 32 x|||BitVec.ofInt 32 y).toNat=x|||y:=by
  rw[BitVec.toNat_or,Qw,Qw];congr 1
  ·omega
  ·omega
 rw[e,zjr];omega
theorem zAQ{c x s p:Nat}(hp:p < 32)(hs:2 ^ p=s)(hc:c < s):c|||(x*s % 4294967296)=c+x*s % 4294967296/\c+x*s % 4294967296 < 4294967296:=by
 have h32:4294967296=s*2 ^ (32 - p):=by rw[← hs,← X7,show p+(32 - p)=32 by omega]
 have hm:x*s % 4294967296=s*(x % 2 ^ (32 - p)):=by rw[h32,Ks x s,Nat.mul_mod_mul_left]
 have hlt:x % 2 ^ (32 - p) < 2 ^ (32 - p):=Kl _ (KQ dC);have h1:=KX (i:=p) (b:=c) (by rw[hs];exact hc) (x % 2 ^ (32 - p));rw[hs]at h1;rw[hm,Nat.or_comm,← h1]
 have h2:s*(x % 2 ^ (32 - p))+s<=s*2 ^ (32 - p):=by
  rw[← Yn];exact Ka _ hlt
 rw[← h32]at h2;exact⟨oM,oM⟩
theorem zyy{x y:Nat}{e:Int}(hx:x < 4294967296)(hy:y < 4294967296)(he:e=(y:Int)*2 ^ 32):zau .or .u64 x e=((y*4294967296+x:Nat):Int):=by
 have h1:e=((y*4294967296:Nat):Int):=by rw[he];simp only[Int.reducePow];omega
 rw[h1,zjt oM oM,Nat.or_comm];have:=KX (i:=32) (b:=x) (by rw[show 2 ^ 32=4294967296 by decide];exact hx) y;rw[show 2 ^ 32=4294967296 by decide,Ks]at this;rw[← this]
theorem zvT{p w s v x lo hi o o1 o2 q:Nat}(h:o=w*(s*v))(h1:o1+p*w*q=o+p*w*(q+lo))(h2:o2=o1+p*w*4294967296*hi)(e:4294967296*hi+lo=x*s):o2=w*(s*(v+p*x)):=by
 subst h2;subst h
 have:o1=w*(s*v)+p*w*lo:=by
  rw[KC (p*w) q lo]at h1;omega
 subst this
 grind
theorem zvU(a0:List Dig)(n:Nat)(ha:a0.length<=800000000)(hn:n<=4096):
  CG0 275 [.sl dgE a0,i64 n] [] (.full dgE (zm (val a0*2 ^ n))) []:=by
 refine zc Tryz.func275 ?_;refine zb.t (jv a0 oM) ?_;have la:=zJ a0;have va:=zo (val a0);generalize zm (val a0)=a at*;rw[← va];clear va;have hs0:2 ^ (n % 32)<=2 ^ 31:=XH dC oM;have hs1:0 < 2 ^ (n % 32):=KQ dC;generalize hs:2 ^ (n % 32)=s at*;refine⟨λh=>by omega,λh=>?_⟩;have em:zbA (n:Int) [4096]=n:=by simp only[zbA];omega
 change Dv _ _ _ _;rw[em];refine Dv.pos ⟨oM,oM,by show _<=(9223372036854775807:Int);omega⟩<|Dv.pos ⟨oM,oM⟩ ?_;intro hl7;(iterate 2 refine Ar.o ?_);refine⟨Dig,dgE,0,rfl,Ob.o6 ?_⟩;intro hl8
 refine⟨Nat×List Dig,λ⟨i,out⟩=>⟨[(76,i64 i),(75,i64 a.length),(74,.sl dgE a),(9,i64 (n / 32:Nat)),(10,i64 (n % 32:Nat)),(11,.own 0)],[(0,qy out)],1,107,0⟩,
  λq=>q.1<=a.length/\q.2.length=a.length+n / 32+1/\(∀j,q.1+n / 32 < j->dig q.2 j=0)/\dig q.2 (q.1+n / 32) < s/\val q.2=4294967296 ^ (n / 32)*(s*val (a.take q.1)),λq=>a.length - q.1,(0,List.replicate (a.length+n / 32+1) 0),?_,?_,?_⟩
 ·refine⟨Xe _,by simp,λj _=>yR _ _,by dsimp only;rw[yR];exact hs1,by simp[zaG,val]⟩
 ·exact zL [0] ⟨rfl,rfl,rfl,congrArg (λn=>some (i64 n)) oM,congrArg (λn=>some (i64 n)) oM,rfl,trivial⟩ ⟨congrArg (λn=>some (qy (List.replicate n 0))) oM,trivial⟩
 rintro⟨i,out⟩ ⟨h1,h2,h3,h4,h5⟩
 dsimp only at h1 h2 h3 h4 h5;refine⟨λh9=>?_,λh9=>?_⟩
 ·refine Ob.o ?_;intro x hx;have hx:a[i]? =some x:=hx;have dx:=zW hx;have hxl:=x.isLt;refine Ar.o<|Ob.o11 ?_;have hm:x.val*s<=4294967295*2 ^ 31:=Qe oM hs0
  have hm2:(x.val:Int)*2 ^ ((n % 32:Nat):Int).toNat=((x.val*s:Nat):Int):=by
   rw[← hs,XX];simp
  have hm3:x.val*s < 4294967296*s:=KG hxl hs1;refine Ar.fit (by rw[hm2];omega) ?_;rw[hm2];refine Ar.o<|Ob.o<|Ob.o ?_;intro c hc;rw[show((i:Int)+(n / 32:Nat)).toNat=i+n / 32 by omega]at hc;have dc:=zW hc;have hcl:=c.isLt;rw[dc]at h4;obtain⟨o1,o2⟩:=zAQ (c:=c.val) (x:=x.val) (s:=s) (p:=n % 32) oM hs h4;refine Ar.wrap ?_;have ew:IntKind.u32.wrap ((x.val*s:Nat):Int)=((x.val*s % 4294967296:Nat):Int):=by rw[zjr];omega
  rw[ew];refine⟨_,(or32 hcl (Kl _ dC)).symm,?_⟩;rw[o1];refine Ob.o<|Ob.o ?_;intro z hz;refine⟨dof (c.val+x.val*s % 4294967296),congrArg (λn=>[u32 n]) (by rw[kC,Xu o2]),?_⟩;(iterate 2 refine Ar.o ?_);refine Ob.o1<|Ar.wrap<|Ob.mk (by rw[X1];omega)<|Ob.mk (by rw[X1];omega) ?_;intro z2 hz2;have hhi:x.val*s / 4294967296 < s:=by rw[XQ dC];omega
  refine⟨dof (x.val*s / 4294967296),congrArg (λn=>[u32 n]) (zaZ (by simp only[Int.reducePow];omega)),?_⟩;refine Ar.o ?_;have ei:((i:Int)+(n / 32:Nat)).toNat=i+n / 32:=oM;have ei1:((i:Int)+(n / 32:Nat)+1).toNat=i+n / 32+1:=oM
  refine⟨(i+1,(out.set (i+n / 32) (dof (c.val+x.val*s % 4294967296))).set (i+n / 32+1) (dof (x.val*s / 4294967296))),⟨by dsimp only;omega,by simp[h2],λj hj=>?_,?_,?_⟩,
   zC [0] ⟨congrArg (λl=>some (qy l)) (by rw[ei,ei1]),trivial⟩,by dsimp only;omega⟩
  ·dsimp only at hj ⊢;rw[jR,if_neg oM,jR,if_neg oM];exact h3 j oM
  ·dsimp only;rw[show i+1+n / 32=i+n / 32+1 by omega,jR,if_pos ⟨rfl,by rw[X1];omega⟩,kC,Xu oM];exact hhi
  ·dsimp only;have s1:=vX out (i+n / 32) (dof (c.val+x.val*s % 4294967296)) oM;have s2:=vX (out.set (i+n / 32) (dof (c.val+x.val*s % 4294967296))) (i+n / 32+1) (dof (x.val*s / 4294967296)) (by rw[X1];omega);rw[kC,Xu o2,dc,X7]at s1;have hmm:x.val*s / 4294967296 % 4294967296=x.val*s / 4294967296:=Xu oM;rw[jR,if_neg oM,h3 _ oM,Km,XN,kC,hmm,XR,X7]at s2;rw[zU,dx];exact zvT h5 s1 s2 (X3 _ _)
 ·have hi:i=a.length:=by omega
  subst hi;rw[kX (Xh _),← hs,zaY,← KA,← X7,show 32*(n / 32)+n % 32=n by omega,Ks]at h5;refine zb.see 0 _ (zmZ out oM) rfl rfl rfl ?_;rw[h5];exact .refl
theorem n_shr(a0:List Dig)(n:Nat)(ha:a0.length<=800000000)(hn:n<=1000000000000)(hn0:n≠0):
  CG0 275 [.sl dgE a0,i64 (-(n:Int))] [] (.full dgE (zm (val a0 / 2 ^ n))) []:=by
 refine zc Tryz.func275 ?_;refine zb.t (jv a0 oM) ?_;have la:=zJ a0;have va:=zo (val a0);generalize zm (val a0)=a at*;rw[← va];clear va;refine⟨λh=>?_,λh=>by omega⟩;intro hl2;refine Ar.o<|Br.mk (λh3=>?_) (λh3=>?_)
 ·have e:val a / 2 ^ n=0:=by
   refine Kd (Xq (je a) ?_);rw[zaY];exact XH dC oM
  rw[e,jr];exact zoO
 refine Ar.o<|Dv.pos ⟨oM,oM,by show _<=(9223372036854775807:Int);omega⟩<|Ar.o<|Dv.pos ⟨oM,oM⟩ ?_;intro hl4;refine Ar.o<|⟨Dig,dgE,0,rfl,Ob.o6 ?_⟩;intro hl5
 refine⟨Nat×List Dig,λ⟨i,out⟩=>⟨[(37,i64 i),(36,i64 (a.length - n / 32:Nat)),(0,.sl dgE a),(5,i64 (n / 32:Nat)),(6,i64 (n % 32:Nat)),(7,.own 0)],[(0,qy out)],1,107,0⟩,
  λq=>q.1<=a.length - n / 32/\q.2.length=a.length - n / 32/\∀j,j < q.1->dig q.2 j=val a / 2 ^ n / 4294967296 ^ j % 4294967296,λq=>a.length - n / 32 - q.1,(0,List.replicate (a.length - n / 32) 0),?_,?_,?_⟩
 ·exact⟨Xe _,by simp,λj h=>by dsimp only at h;omega⟩
 ·exact zL [0] ⟨rfl,congrArg (λn=>some (i64 n)) (by simp;omega),rfl,congrArg (λn=>some (i64 n)) oM,congrArg (λn=>some (i64 n)) oM,rfl,trivial⟩ ⟨congrArg (λn=>some (qy (List.replicate n 0))) oM,trivial⟩
 rintro⟨i,out⟩ ⟨g1,g2,g3⟩
 dsimp only at g1 g2 g3;refine⟨λh6=>?_,λh6=>?_⟩
 ·have d1:=yT a (n / 32+i);have d2:=yT a (n / 32+i+1);refine Ar.o<|zb.t (zec a _ oM) ?_;rw[show((i:Int)+(n / 32:Nat)).toNat=n / 32+i by omega];(iterate 2 refine Ar.o ?_);refine zb.t (zec a _ oM) ?_;rw[show((i:Int)+(n / 32:Nat)+1).toNat=n / 32+i+1 by omega];refine Ob.o1<|Ar.fit (by simp only[Int.reducePow];omega)<|⟨_,(zyy d1 d2 rfl).symm,?_⟩;refine Ob.o11<|Ar.wrap<|Ob.o<|Ob.o ?_;intro z hz
  refine⟨dof ((dig a (n / 32+i+1)*4294967296+dig a (n / 32+i)) / 2 ^ (n % 32)),congrArg (λn=>[u32 n]) (zaZ (by rw[XX];simp)),?_⟩;refine Ar.o ?_
  refine⟨(i+1,out.set i (dof ((dig a (n / 32+i+1)*4294967296+dig a (n / 32+i)) / 2 ^ (n % 32)))),⟨by dsimp only;omega,by simp[g2],λj hj=>?_⟩,
   zf [0],by dsimp only;omega⟩
  dsimp only at hj ⊢
  by_cases e:i=j
  ·subst e;rw[jR,if_pos ⟨rfl,oM⟩,kC];have:=zr5 a (n / 32) (n % 32) i oM;rw[show 32*(n / 32)+n % 32=n by omega]at this;rw[this]
  ·rw[jR,if_neg (λh=>e h.1)];exact g3 j oM
 ·have hi:i=a.length - n / 32:=by omega
  have e:val out=val a / 2 ^ n:=by
   rw[zdq (λj hj=>g3 j oM),Xu];rw[XQ (KQ dC)];refine Xq (je a) ?_;rw[zaY,zaY,← X7];exact XH dC oM
  refine zb.see 0 _ (zmZ out oM) rfl rfl rfl ?_;rw[e];exact .refl
theorem zm0{s:ByteArray}{i:Nat}{b:UInt8}(hb:s[i]? =some b)(hi:i < s.size)(key:∀h:i < s.size,(s[i]'h).toNat=bitLen i):b.toNat=kL i:=by
 have e:=getElem?_pos s i hi;rw[hb]at e;rw[Xj e];exact key hi
theorem zds{x:Nat}(b:Nat)(h:2 ^ b<=x):kL x=b+kL (x / 2 ^ b):=
 bitLen_shift x b (Nat.ne_of_gt (Nat.div_pos h (KQ dC)))
theorem zse(x:Nat)(hx:x < 4294967296):CG0 331 [u32 x] [] (i64 (kL x)) []:=by
 refine zc Tryz.func331 ?_;have fin:∀(y:Nat) (k:Int),y < 256->(kL x:Int)=k+kL y->∀b:UInt8,b.toNat=kL y->(k+(b.toNat:Int))=kL x:=λy k _ h b hb=>by rw[h,hb]
 have small:∀y:Nat,y < 256->kL y<=8:=λy hy=>bitLen_le8 y hy
 refine⟨λh1=>?_,λh1=>?_⟩
 ·refine Ob.o1 ?_;have e1:(x:Int) / 2 ^ 16=((x / 65536:Nat):Int):=by simp
  rw[e1];have n1:=zds (x:=x) 16 oM;rw[show(2:Nat) ^ 16=65536 by decide]at n1;have hx1:x / 65536 < 65536:=oM;generalize x / 65536=y at*;refine⟨λh2=>?_,λh2=>?_⟩
  ·refine Ob.o1 ?_;have e2:(y:Int) / 2 ^ 8=((y / 256:Nat):Int):=by simp
   rw[e2];have n2:=zds (x:=y) 8 oM;rw[show(2:Nat) ^ 8=256 by decide]at n2;have hy1:y / 256 < 256:=oM;generalize y / 256=z at*;(iterate 2 refine Ar.o ?_);refine Ob.o12 ?_;intro b hb;have hb':b.toNat=kL z:=zm0 hb (by show z < 256;exact hy1) (λh=>len8tab_get z h);have:=small z hy1;(iterate 2 refine Ar.o ?_);exact zi oM
  ·have hy1:y < 256:=by omega
   refine Ar.o<|Ob.o12 ?_;intro b hb;have hb':b.toNat=kL y:=zm0 hb (by show y < 256;exact hy1) (λh=>len8tab_get y h);have:=small y hy1;(iterate 2 refine Ar.o ?_);exact zi oM
 ·refine⟨λh2=>?_,λh2=>?_⟩
  ·refine Ob.o1 ?_;have e2:(x:Int) / 2 ^ 8=((x / 256:Nat):Int):=by simp
   rw[e2];have n2:=zds (x:=x) 8 oM;rw[show(2:Nat) ^ 8=256 by decide]at n2;have hy1:x / 256 < 256:=oM;generalize x / 256=z at*;(iterate 2 refine Ar.o ?_);refine Ob.o12 ?_;intro b hb;have hb':b.toNat=kL z:=zm0 hb (by show z < 256;exact hy1) (λh=>len8tab_get z h);have:=small z hy1;(iterate 2 refine Ar.o ?_);exact zi oM
  ·have hy1:x < 256:=by omega
   refine Ar.o<|Ob.o12 ?_;intro b hb;have hb':b.toNat=kL x:=zm0 hb (by show x < 256;exact hy1) (λh=>len8tab_get x h);have:=small x hy1;(iterate 2 refine Ar.o ?_);exact zi oM
theorem zm1{x:Nat}(hx:x < 4294967296):kL x<=32:=by
 by_cases h:x=0
 ·subst h;decide
 ·have:=zbN h;have:=(Qp (by decide:1 < 2)).1 (KV this (show x < 2 ^ 32 from hx));omega
theorem zAR(x:Nat)(hx:x < 4294967296):CG0 274 [u32 x] [] (i64 (32 - kL x:Nat)) []:=by
 refine zc Tryz.func274 ?_;refine zb.t (zse x hx) ?_;have:=zm1 hx;exact Ar.o<|zi oM
theorem zoP(a:List Dig)(ha:a.length<=900000000):CG0 271 [.sl dgE a] [] (i64 (kL (val a))) []:=by
 refine zc Tryz.func271 ?_;refine zb.t (jv _ oM) ?_;intro hl;have hlen:=zJ a;refine⟨λh=>?_,λh=>?_⟩
 ·have:zm (val a)=[]:=XJ.1 oM;exact zi (by rw[yI.1 this];rfl)
 have hne:zm (val a)≠[]:=λe=>h (by rw[e];rfl)
 have hn:=(vJ (val a)).resolve_left hne;have htop:=zbP hn;rw[zo]at htop;intro hl2;(iterate 2 refine Ar.o ?_);intro hl3;refine Ar.o<|Ob.o ?_;intro x hx;rw[show(((zm (val a)).length:Int) - 1).toNat=(zm (val a)).length - 1 by omega]at hx;have dx:=zW hx;have hxl:=x.isLt;refine zb.t (zse x.val hxl) ?_;rw[dx]at htop;have:=zm1 hxl;exact Ar.o<|zi oM
theorem zAS(a:List Dig)(n:Nat)(ha:a.length<=800000000)(hn:n<=1000000000000):
  CG0 275 [.sl dgE a,i64 (-(n:Int))] [] (.sl dgE (zm (val a / 2 ^ n))) []:=by
 by_cases h:n=0
 ·subst h;have:=(zvU a 0 ha oM).le (zcp rfl);rw[Q5,QX]at this;rw[Q5,Nat.div_one];exact this
 ·exact(n_shr a n ha hn h).le (zcp rfl)
theorem zAT(a:List Dig)(n:Nat)(ha:a.length<=800000000)(hn:n<=4096):
  CG0 275 [.sl dgE a,i64 n] [] (.sl dgE (zm (val a*2 ^ n))) []:=(zvU a n ha hn).le (zcp rfl)
theorem zqY{B s:Nat}(hB:B≠0)(hs:s+kL (dig (zm B) ((zm B).length - 1))=32):
  (zm (B*2 ^ s)).length=(zm B).length/\2147483648<=dig (zm (B*2 ^ s)) ((zm B).length - 1):=by
 have hne:zm B≠[]:=λe=>hB (yI.1 e)
 have htop:=zbP ((vJ B).resolve_left hne);rw[zo]at htop;have hp:0 < 2 ^ s:=KQ dC;have hV0:B*2 ^ s≠0:=JZ hB oM;have h1:=zdp B;have h2:=zbN hB;have hpos:=zbO.2 hB;have hl:=jB.2 hB
 have e:kL (B*2 ^ s)=kL B+s:=by
  refine zfR ?_ hV0 ?_
  ·rw[X7];exact KG h1 hp
  ·rw[show kL B+s - 1=kL B - 1+s by omega,X7];exact Xp _ h2
 have e32:kL (B*2 ^ s)=32*(zm B).length:=oM;have hle:(zm (B*2 ^ s)).length<=(zm B).length:=jN (by rw[zaY,← e32];exact zdp _);have hge:(zm B).length<=(zm (B*2 ^ s)).length:=qr (Qu _ hp);have hlen:(zm (B*2 ^ s)).length=(zm B).length:=oM;refine⟨hlen,?_⟩;have hnV:zm (B*2 ^ s)≠[]:=λe=>hV0 (yI.1 e)
 have hz:=(vJ (B*2 ^ s)).resolve_left hnV;have ht2:=zbP hz;rw[zo,hlen]at ht2;rw[hlen]at hz;have:=zbN hz;rw[show kL (dig (zm (B*2 ^ s)) ((zm B).length - 1)) - 1=31 by omega]at this;exact this
theorem zvV {u q:List Dig} {k n V U:Nat} (hk:k < q.length) (hlen:q.length+n=u.length) (hV:V < 4294967296 ^ n) (g3:val (u.drop (k+1)) < V)
  (g4:U=V*(4294967296 ^ (k+1)*val (q.drop (k+1)))+val u):
  ((u.drop k).take (n+1)).length=n+1/\val ((u.drop k).take (n+1)) < 4294967296*V/\u=u.take k++((u.drop k).take (n+1)++u.drop (k+n+1))/\
  ∀w:List Dig,w=ye (n+1) (val ((u.drop k).take (n+1)) % V)->∀d:Dig,d.val=val ((u.drop k).take (n+1)) / V->
   val ((u.take k++(w++u.drop (k+n+1))).drop k) < V/\U=V*(4294967296 ^ k*val ((q.set k d).drop k))+val (u.take k++(w++u.drop (k+n+1))):=by
 have hwl:((u.drop k).take (n+1)).length=n+1:=by rw[Xk,XO];omega
 have hd:=yT u k;have hdk:=zG u k;have hlt:val (u.drop k) < 4294967296*V:=oM;have hsp:=kU (u.drop k) (n+1);rw[JA,show k+(n+1)=k+n+1 by omega]at hsp
 have hz:val (u.drop (k+n+1))=0:=by
  apply Nat.eq_zero_of_not_pos;intro h0;have h1:4294967296 ^ (n+1)<=4294967296 ^ (n+1)*val (u.drop (k+n+1)):=Qu _ h0;have h2:4294967296 ^ (n+1)=4294967296 ^ n*4294967296:=XR ..;omega
 rw[hz,Km,XN]at hsp
 have hu:u=u.take k++((u.drop k).take (n+1)++u.drop (k+n+1)):=by
  have e1:u.drop (k+n+1)=(u.drop k).drop (n+1):=by rw[JA];congr 1
  rw[e1,Kf,Kf]
 refine⟨hwl,oM,hu,?_⟩;intro w hw d hdv
 have hw0:val w=val ((u.drop k).take (n+1)) % V:=by
  rw[hw];refine zsd<|Xq (Kl _ oM) ?_;rw[XR];omega
 have hwl2:w.length=n+1:=by rw[hw,yA]
 have htl:(u.take k).length=k:=by rw[Xk];omega
 have hm:=Kl (val ((u.drop k).take (n+1))) (show V > 0 by omega);have hdm:=X3 (val ((u.drop k).take (n+1))) V;have hu2:=kU u k;rw[hsp]at hu2;constructor
 ·rw[List.drop_append_of_le_length oM,Q2 oM,Qi,vI,hz];omega
 ·rw[vI,vI,hz,htl,zbD hk,hw0,hdv,g4,hu2,XR];generalize val ((u.drop k).take (n+1))=W at*;generalize W / V=D at*;generalize W % V=R at*;generalize 4294967296 ^ k=p at*;generalize val (q.drop (k+1))=Q at*;generalize val (u.take k)=T at*;clear hw hw0 hdv hsp hz hu hu2 g4 g3 hdk hwl hwl2 htl hlt hd hlen hk;subst hdm
  grind
theorem zyz{W V Bn g:Nat}(h:g=W / V∨g=W / V+1)(hV:0 < V)(hVB:V<=Bn):
  (if W < g*V then W+Bn - g*V else W - g*V)=(if W < g*V then W % V+Bn - V else W % V)/\(W < g*V->g=W / V+1)/\(¬W < g*V->g=W / V):=by
 have hdm:=X3 W V;have hm:=Kl W hV
 rcases h with rfl | rfl
 ·have:¬W < W / V*V:=Nat.not_lt_of_le (Js W V);rw[if_neg this,if_neg this];refine⟨?_,λh=>absurd h this,λ_=>rfl⟩;rw[Ks];omega
 ·have e:(W / V+1)*V=V*(W / V)+V:=by rw[XW,Yh,Ks]
  have:W < (W / V+1)*V:=oM;rw[if_pos this,if_pos this];refine⟨?_,λ_=>rfl,λh=>absurd this h⟩;omega
theorem zyA{t p d c R:Nat}(hp:t < p)(hd:d < 4294967296)(hc:c<=1)(e:t+p*(d+c)=R+p*4294967296):(d+c) % 4294967296=0/\t=R:=by
 have h:d+c=4294967296:=by
  rcases Qa (d+c) 4294967296 with h | h
  ·have h1:p*(d+c+1)<=p*4294967296:=Ka _ h;rw[KC,QX]at h1;omega
  ·omega
 rw[h]at e ⊢;exact⟨rfl,oM⟩
theorem zAU{t1 t2 t3 p c z y xq xr:Nat}(f5:t1+p*c=t2+t3)(hd:4294967296*xq+xr=c+(z+y)):t1+p*xr+p*4294967296*xq=t2+p*z+(t3+p*y):=by grind
theorem zjy(a b:List Dig)(ha:a.length<=400000000)(hb:b.length<=400000000)(hb0:val b≠0):
  CG0 217 [.sl dgE a,.sl dgE b] [] (.tup [.sl dgE (zm (val a / val b)),.sl dgE (zm (val a % val b)),i64 0]) []:=by
 refine zc Tryz.func217 ?_;refine zb.t (jv _ oM)<|zb.t (jv _ oM) ?_;have hla:=zJ a;have hlb:=zJ b;generalize val a=A at*;generalize val b=B at*;intro hl;refine⟨λh=>?_,λh=>?_⟩
 ·exact absurd (yI.1 (XJ.1 oM)) hb0
 refine zb.t (zz4 _ _ oM oM) ?_;rw[zo,zo];refine⟨λh2=>?_,λh2=>?_⟩
 ·have hlt:=zd9.1 h2;refine zb.t (zsb _ oM) ?_;rw[Kd hlt,Xu hlt,jr];exact zam (.cons zD (.cons .refl (.cons .refl .nil)))
 have hge:B<=A:=QH λh=>h2 (zd9.2 h)
 intro hl2;refine⟨λh3=>?_,λh3=>?_⟩
 ·refine Ob.o ?_;intro x hx;have dx:=zW hx;have hxl:=x.isLt
  have hx1:zm B=[x]:=by
   have hx:(zm B)[0]? =some x:=hx;obtain⟨y,hy⟩:=JS.1 (show(zm B).length=1 by omega);rw[hy]at hx ⊢;simp at hx;rw[hx]
  have hB:x.val=B:=by
   have:=zo B;rw[hx1,vl,zmU]at this;omega
  refine zb.t (n_one (zm A) x.val oM hxl oM) ?_;rw[zo,hB];have hm:=Kl A (show B > 0 by omega);exact Ar.o<|zb.t (zeb (A % B) oM)<|.refl
 intro hl3;refine Ar.o<|Ob.o ?_;intro x hx;rw[show(((zm B).length:Int) - 1).toNat=(zm B).length - 1 by omega]at hx;have dx:=zW hx;have hxl:=x.isLt;refine zb.t (zAR x.val hxl) ?_;have hn32:=zm1 hxl;obtain⟨s,hs⟩:∃s,32 - kL x.val=s:=⟨_,rfl⟩;rw[hs];refine zb.t (zAT _ s oM oM)<|zb.t (zvU _ s oM oM) ?_;rw[zo,zo];obtain⟨hvl,hvt⟩:=zqY (B:=B) (s:=s) hb0 (by rw[dx];omega);refine⟨Dig,dgE,[0],rfl,Ob.mk (zgZ 0) ?_⟩
 have hul:(zm (A*2 ^ s)).length<=400000001:=Xz (jN (k:=(zm A).length+1) (by
  have h1:=zcr (n:=A) (Xh _);have h2:2 ^ s<=4294967296 ^ 1:=by rw[zaY];exact XH dC oM
  rw[X7]
  exact Xq (KG h1 (KQ dC)) (Ka _ h2))) oM
 refine⟨_,rfl,Ob.mk ⟨List.cons_ne_nil _ _,(by show((_:Int)+((1:Nat):Int))*((4:Nat):Int)<=_;omega),(by show _+1<=_;omega),dC,λ_ _=>rfl,λ_ _=>rfl⟩ ?_⟩;have hp0:0 < 2 ^ s:=KQ dC;have hmA:(zm A).length<=(zm (A*2 ^ s)).length:=qr (Qu _ hp0);have hmB:(zm (B*2 ^ s)).length<=(zm (A*2 ^ s)).length:=qr (Xp _ hge);have hV0:B*2 ^ s≠0:=JZ hb0 oM;have eq1:A / B=A*2 ^ s / (B*2 ^ s):=(J9 _ _ hp0).symm
 have eq2:A % B=A*2 ^ s % (B*2 ^ s) / 2 ^ s:=by rw[Ya,Nat.mul_div_cancel _ hp0]
 rw[eq1,eq2];have hlb2:(zm B).length≠0/\(zm B).length≠1:=⟨oM,oM⟩;rw[← hvl]at hvt;clear eq1 eq2 hp0;generalize A*2 ^ s=U at*;generalize B*2 ^ s=V at*;refine⟨Unit,λ_=>⟨[(0,.sl dgE (zm A)),(9,i64 s),(10,.sl dgE (zm V)),(11,.own 0)],[(0,qy (zm U++[0]))],1,148,0⟩,λ_=>True,λ_=>0,(),trivial,?_,?_⟩
 ·exact zf [1]
 rintro⟨⟩ _
 intro hl4;intro hl5;have hll:(zm U++[0]).length=(zm U).length+1:=by simp
 refine⟨λh4=>?_,λ_=>?_⟩
 ·omega
 intro hl6;intro hl7;refine Ar.o ?_;obtain⟨nq,hnq⟩:∃nq:Nat,nq+(zm V).length=(zm U).length+1:=⟨(zm U).length+1 - (zm V).length,oM⟩;refine⟨Dig,dgE,0,rfl,Ob.o6 ?_⟩;intro hl8;refine Ar.o ?_;have hVn:V < 4294967296 ^ (zm V).length:=zcr (Xh _)
 refine⟨Nat×List Dig×List Dig,λ⟨j,q,u⟩=>⟨[(13,i64 ((j:Int) - 1)),(12,.own 1),(11,.own 0),(10,.sl dgE (zm V)),(9,i64 s)],[(1,qy q),(0,qy u)],2,148,0⟩,
  λx=>x.1<=nq/\x.2.1.length=nq/\x.2.2.length=(zm U).length+1/\val (x.2.2.drop x.1) < V/\U=V*(4294967296 ^ x.1*val (x.2.1.drop x.1))+val x.2.2,λx=>x.1,
  (nq,List.replicate nq 0,zm U++[0]),?_,?_,?_⟩
 ·refine⟨Xh _,by simp,hll,?_,?_⟩
  ·dsimp only;have hz:val (zm U++[0])=U:=by rw[vm,zo];rfl
   rw[zjq,hz];have h1:=zcr (n:=U) (Xh _);have h2:=zmV hV0;refine Xq ?_ h2;rw[XQ (zdm _),← X7];refine Xq h1 (XH dC oM)
  ·dsimp only;rw[ki (by simp),Km,Km,vm,zo];show U=0+(U+_*0);omega
 ·exact zL [0,1] ⟨congrArg (λn=>some (i64 n)) (by simp only[Ke];omega),rfl,rfl,rfl,rfl,trivial⟩ ⟨congrArg (λn=>some (qy (List.replicate n 0))) oM,rfl,trivial⟩
 rintro⟨j,q,u⟩ ⟨g1,g2,g3,g4,g5⟩
 dsimp only at g1 g2 g3 g4 g5;refine⟨λk1=>?_,λk1=>?_⟩
 ·obtain⟨k,rfl⟩:∃k,j=k+1:=⟨j - 1,oM⟩;rw[show(((k+1:Nat):Int) - 1)=k by omega];obtain⟨r1,r2,r3,r4⟩:=zvV (k:=k) (n:=(zm V).length) oM oM hVn g4 g5;intro hl9;(iterate 2 refine Ar.o ?_);refine Sl.win (Ob.mk oM ?_);have htl:(u.take k).length=k:=by rw[Xk];omega
  rw[show(((k+1:Nat):Int) - 1+((zm V).length:Int)+1 - (((k+1:Nat):Int) - 1))=(((u.drop k).take ((zm V).length+1)).length:Nat) by rw[r1];omega,
   show(((k+1:Nat):Int) - 1)=((u.take k).length:Nat) by omega]
  have hW:(u.drop ((u.take k).length:Int).toNat).take (((u.drop k).take ((zm V).length+1)).length:Int).toNat=(u.drop k).take ((zm V).length+1):=by
   rw[XX,XX,r1,htl]
  obtain⟨post,hpost⟩:∃post,u.drop (k+(zm V).length+1)=post:=⟨_,rfl⟩;obtain⟨pre,hpre⟩:∃pre,u.take k=pre:=⟨_,rfl⟩;rw[hpost,hpre]at r3 r4;rw[hpre]at htl hW;rw[hpre];obtain⟨hgc,_,_⟩:=zlx (U:=(u.drop k).take ((zm V).length+1)) (V:=zm V) r1 oM hvt (by rw[zo];exact r2);rw[zo]at hgc;have cg:=zyx ((u.drop k).take ((zm V).length+1)) (zm V) oM r1 oM hvt (by rw[zo];exact r2);generalize zg3 ((u.drop k).take ((zm V).length+1)) (zm V)=g at hgc cg;rw[← hW]at cg;refine zb.t cg ?_;clear cg hW
  generalize (u.drop k).take ((zm V).length+1)=W at*;have hD:val W / V < 4294967296:=by rw[XQ oM];exact r2
  have hpn:4294967296 ^ ((zm V).length+1)=4294967296 ^ (zm V).length*4294967296:=XR ..;obtain⟨m1,m2,m3⟩:=zyz (Bn:=4294967296 ^ ((zm V).length+1)) hgc (X5 hV0) oM;have hmod:=Kl (val W) (X5 hV0);have ct:=zAP pre W post (zm V) g r1 oM;rw[← r3,zo]at ct
  have htw:zoN W (zm V) g=ye ((zm V).length+1) (if val W < g*V then val W % V+4294967296 ^ ((zm V).length+1) - V else val W % V):=by
   unfold zoN;rw[zo,r1,m1]
  rw[htw]at ct;clear htw m1;refine zb.hand 0 _ _ _ rfl ct (qT _) (qT _) rfl rfl ?_;clear ct hgc;generalize val W / V=D at*;generalize val W % V=R at*;have hul2:u.length=pre.length+(W.length+post.length):=by rw[r3];simp
  refine⟨λk2=>?_,λk2=>?_⟩
  ·have hg:=m2 k2;rw[if_pos k2];refine Ar.o ?_;intro hl10;obtain⟨w0,hw0⟩:∃w0,ye ((zm V).length+1) (R+4294967296 ^ ((zm V).length+1) - V)=w0:=⟨_,rfl⟩;have hw0l:w0.length=(zm V).length+1:=by rw[← hw0,yA]
   have hw0v:val w0=R+4294967296 ^ ((zm V).length+1) - V:=by rw[← hw0];exact zsd oM
   rw[hw0]
   refine⟨Nat×List Dig×Nat,λ⟨i,w,c⟩=>⟨[(105,i64 i),(104,i64 (zm V).length),(103,.sl dgE (zm V)),(16,u64 c),(15,u64 ((g:Int) - 1)),(14,.win 0 1 (pre.length:Nat) (W.length:Nat)),(13,i64 (pre.length:Nat)),(12,.own 1),(11,.own 0),(10,.sl dgE (zm V)),(9,i64 s)],
     [(1,qy q),(0,qy (pre++(w++post)))],2,148,0⟩,
    λx=>x.1<=(zm V).length/\x.2.1.length=(zm V).length+1/\x.2.2<=1/\(∀j,x.1<=j->dig x.2.1 j=dig w0 j)/\val (x.2.1.take x.1)+4294967296 ^ x.1*x.2.2=val (w0.take x.1)+val ((zm V).take x.1),
    λx=>(zm V).length - x.1,(0,w0,0),?_,?_,?_⟩
   ·exact⟨Xe _,hw0l,Xe _,λ_ _=>rfl,by simp[val]⟩
   ·exact zL [0,1] ⟨rfl,rfl,rfl,rfl,rfl,rfl,congrArg (λn=>some (i64 n)) oM,rfl,rfl,rfl,rfl,trivial⟩ ⟨rfl,rfl,trivial⟩
   rintro⟨i,w,c⟩ ⟨f1,f2,f3,f4,f5⟩
   dsimp only at f1 f2 f3 f4 f5;have hlw:(pre++(w++post)).length=pre.length+(zm V).length+1+post.length:=by simp[f2];omega
   refine⟨λk3=>?_,λk3=>?_⟩
   ·refine Ob.o ?_;intro y hy;have hy:(zm V)[i]? =some y:=hy;have dy:=zW hy;have hyl:=y.isLt;refine Ob.o5<|Ob.mk (by rw[hlw];omega) ?_;intro z hz;have hz:w[i]? =some z:=by rw[← ziq (pre:=pre) (post:=post) oM,← hz];congr 1
    have dz:=zW hz;have hzl:=z.isLt;(iterate 4 refine Ar.o ?_);refine Ar.wrap<|Ob.o5<|Ob.mk (by rw[hlw];omega) ?_;intro z' hz';refine⟨dof (c+(z.val+y.val)),congrArg (λn=>[u32 n]) (by rw[zaZ rfl];simp),?_⟩;refine Ob.o1<|Ar.o ?_
    refine⟨(i+1,w.set i (dof (c+(z.val+y.val))),(c+(z.val+y.val)) / 4294967296),⟨by dsimp only;omega,by simp[f2],by dsimp only;omega,λj hj=>?_,?_⟩,
     qw [(0,some 0),(1,some 1)] rfl rfl rfl ⟨rfl,rfl,rfl,congrArg (λn=>some (u64 n)) (by simp only[Int.reducePow];omega),rfl,rfl,rfl,rfl,rfl,rfl,rfl,trivial⟩
      ⟨rfl,congrArg (λl=>some (qy l)) (by rw[← zir oM];congr 1),trivial⟩,by dsimp only;omega⟩
    ·dsimp only at hj ⊢;rw[jR,if_neg oM];exact f4 j oM
    ·dsimp only;rw[zU,zU,zU,XR,dy,jR,if_pos ⟨rfl,oM⟩,kC,← f4 i (Xh _),dz];have ht:(w.set i (dof (c+(z.val+y.val)))).take i=w.take i:=by rw[QP oM]
     rw[ht];have hd:=X3 (c+(z.val+y.val)) 4294967296;exact zAU f5 hd
   ·have hi:i=(zm V).length:=by omega
    subst hi;intro hl11;refine Ob.o5<|Ob.mk (by rw[hlw];omega) ?_;intro z hz;have hz:w[(zm V).length]? =some z:=by rw[← ziq (pre:=pre) (post:=post) oM,← hz];congr 1
    have dz:=zW hz;have hzl:=z.isLt;refine Ar.o<|Ar.wrap<|Ob.o5<|Ob.mk (by rw[hlw];omega) ?_;intro z' hz';refine⟨dof (z.val+c),congrArg (λn=>[u32 n]) (by rw[zaZ rfl];simp),?_⟩
    have hw2:w.set (zm V).length (dof (z.val+c))=ye ((zm V).length+1) R:=by
     rw[← zsc (w.set _ _),X1,f2];congr 1;have e1:=kU w0 (zm V).length;have e3:=zG w0 (zm V).length;rw[ki (show w0.length<=(zm V).length+1 by omega),Km,XN]at e3;rw[e3,hw0v,hpn,← f4 _ (Xh _),dz]at e1;rw[kX (Xh (zm V).length),zo]at f5;have g2:=kU (w.set (zm V).length (dof (z.val+c))) (zm V).length;have g3:=zG (w.set (zm V).length (dof (z.val+c))) (zm V).length;have g0:val ((w.set (zm V).length (dof (z.val+c))).drop ((zm V).length+1))=0:=ki (by rw[X1];omega)
     rw[g0,Km,XN,jR,if_pos ⟨rfl,oM⟩,kC]at g3;rw[g3,QP (Xh _)]at g2;rw[g2];obtain⟨n1,n2⟩:=zyA (R:=R) (qV w (zm V).length) hzl f3 (by rw[KC];omega);rw[n1,n2];rfl
    have hset:(pre++(w++post)).set (pre.length+(zm V).length) (dof (z.val+c))=pre++(ye ((zm V).length+1) R++post):=by
     rw[zir oM,hw2]
    obtain⟨e1,e2⟩:=r4 _ rfl (dof D) (by rw[kC,Xu hD]);refine Ar.o<|Ob.o<|Ob.o ?_;intro z2 hz2;refine⟨dof D,congrArg (λn=>[u32 n]) (by rw[kC,Xu hD];omega),?_⟩;refine Ar.o ?_
    refine⟨(k,q.set k (dof D),pre++(ye ((zm V).length+1) R++post)),⟨by dsimp only;omega,by simp[g2],by simp[yA];omega,e1,e2⟩,
     zL [0,1] ⟨congrArg (λn=>some (i64 n)) oM,rfl,rfl,rfl,rfl,trivial⟩ ⟨congrArg (λn=>some (qy (q.set n _))) oM,congrArg (λl=>some (qy l)) (by rw[← hset];congr 1),trivial⟩,by dsimp only;omega⟩
  ·have hg:=m3 k2;rw[if_neg k2];obtain⟨e1,e2⟩:=r4 _ rfl (dof D) (by rw[kC,Xu hD]);refine Ar.o<|Ob.o<|Ob.o ?_;intro z2 hz2;refine⟨dof D,congrArg (λn=>[u32 n]) (by rw[kC,Xu hD];omega),?_⟩;refine Ar.o ?_
   refine⟨(k,q.set k (dof D),pre++(ye ((zm V).length+1) R++post)),⟨by dsimp only;omega,by simp[g2],by simp[yA];omega,e1,e2⟩,
    zL [0,1] ⟨congrArg (λn=>some (i64 n)) oM,rfl,rfl,rfl,rfl,trivial⟩ ⟨congrArg (λn=>some (qy (q.set n _))) oM,rfl,trivial⟩,by dsimp only;omega⟩
 ·have hj:j=0:=by omega
  subst hj;rw[KR]at g4 g5;rw[Q5,Yh]at g5;refine zb.see 1 _ (jv _ oM) rfl rfl rfl<|Ar.o<|zb.see 0 _ (zAS u s oM oM) rfl rfl rfl ?_
  have e1:val q=U / V:=by
   rw[g5,Qj oM,Kd g4,XN]
  have e2:val u=U % V:=by
   rw[g5,Qk,Xu g4]
  exact zam (.cons (z9 (by rw[e1])) (.cons (z9 (by rw[e2])) (.cons .refl .nil)))
theorem n_gcd(a b:List Dig)(ha:a.length<=400000000)(hb:b.length<=400000000):
  CG0 215 [.sl dgE a,.sl dgE b] [] (.sl dgE (zm (Nat.gcd (val a) (val b)))) []:=by
 refine zc Tryz.func215 ?_;refine zb.t (v8 _ oM)<|zb.t (v8 _ oM) ?_;have hla:=zJ a;have hlb:=zJ b
 refine⟨Nat×Nat,λ⟨A,B⟩=>⟨[(0,.sl dgE (zm A)),(1,.sl dgE (zm B))],[],0,25,0⟩,
  λx=>(zm x.1).length<=400000000/\(zm x.2).length<=400000000/\Nat.gcd x.1 x.2=Nat.gcd (val a) (val b),λx=>x.2,(val a,val b),?_,?_,?_⟩
 ·exact⟨by dsimp only;omega,by dsimp only;omega,rfl⟩
 ·exact zE []
 rintro⟨A,B⟩ ⟨h1,h2,h3⟩
 dsimp only at h1 h2 h3;intro hl;refine⟨λk=>?_,λk=>?_⟩
 ·have hB:B≠0:=jB.1 oM;refine zb.t (zjy (zm A) (zm B) oM oM (by rw[zo];exact hB)) ?_;rw[zo,zo];have hm:=Kl A (X5 hB);refine⟨(B,A % B),⟨h2,Xz (qr (Ym hm)) h2,?_⟩,zE [],hm⟩;dsimp only;rw[← h3,QF B,QF A B,Nat.gcd_rec B A]
 ·have hB:B=0:=yI.1 (XJ.1 oM);subst hB;rw[Nat.gcd_zero_right]at h3;exact z9 (by rw[h3])
theorem zeL(p:Prop)[i:Decidable p](m:List Dig)(hm:m.length<=1000000000):
  CG0 212 [.pr p i,.sl dgE m] [] (.agg (biE (ofZ (if p then -(val m:Int) else val m)))) []:=by
 refine zc Tryz.func212 ?_;refine zb.t (v8 m hm) ?_;have hd:=jB (n:=val m);refine⟨λh=>?_,λh=>?_⟩
 ·intro hl;refine qA (.cons (zF ?_) (.cons (z9 ?_) .nil))
  ·rw[zaz,if_pos h];omega
  ·rw[jS,if_pos h];congr 1;omega
 ·refine qA (.cons (zd ?_) (.cons (z9 ?_) .nil))
  ·rw[zaz,if_neg h];omega
  ·rw[jS,if_neg h];congr 1
theorem zAV(m:List Dig)(hm:m.length<=1000000000):CG0 212 [bl true,.sl dgE m] [] (.agg (biE (ofZ (-(val m:Int))))) []:=by
 have h:=(zeL True m hm).args (.cons (zT trivial) LEs.refl)
 rwa [if_pos trivial]at h
theorem zvW(m:List Dig)(hm:m.length<=1000000000):CG0 212 [bl false,.sl dgE m] [] (.agg (biE (ofZ (val m:Int)))) []:=by
 have h:=(zeL False m hm).args (.cons (zd not_false) LEs.refl)
 rwa [if_neg not_false]at h
theorem zvX(a:BI)(hm:a.mag.length<=1000000000):
  CG0 212 [pr (a.neg=true),.sl dgE a.mag] [] (.agg (biE (ofZ a.v))) []:=zeL (a.neg=true) a.mag hm
theorem zed(n:Int)(hn:R64 n):CG0 155 [i64 n] [] (.agg (biE (ofZ n))) []:=by
 refine zc Tryz.func155 ?_;refine⟨λh=>?_,λh=>?_⟩
 ·refine Ar.wrap<|Ar.wrap ?_;have e:IntKind.u64.wrap (-IntKind.u64.wrap n)=((n.natAbs:Nat):Int):=by rw[yp,yp];omega
  rw[e];refine zb.t (zeb n.natAbs oM)<|zb.t (zAV (zm n.natAbs) (by have:=qO hn;unfold jp at this;omega)) ?_;rw[zo,show(-(n.natAbs:Int))=n by omega];exact .refl
 ·refine Ar.wrap ?_;have e:IntKind.u64.wrap n=((n.natAbs:Nat):Int):=by rw[yp];omega
  rw[e];refine zb.t (zeb n.natAbs oM)<|zb.t (zvW (zm n.natAbs) (by have:=qO hn;unfold jp at this;omega)) ?_;rw[zo,show(n.natAbs:Int)=n by omega];exact .refl
theorem zjz(a:BI)(ha:a.mag.length<=900000000):CG0 211 [.agg (biE a)] [] (i64 a.v.sign) []:=by
 refine zc Tryz.func211 ?_;refine zb.t (zoP a.mag ha) ?_;have h1:=zbO (n:=val a.mag);have h2:=a.v_eq;refine⟨λh=>?_,λh=>?_⟩
 ·have:a.v=0:=by omega
  exact zi (by rw[this];rfl)
 refine⟨λh3=>?_,λh3=>?_⟩
 ·refine zi (Kb ?_).symm
  rcases h2 with⟨e1,e2⟩ | ⟨e1,e2⟩
  ·omega
  ·rw[e1]at h3;cases h3
 ·refine zi (Kk ?_).symm
  rcases h2 with⟨e1,e2⟩ | ⟨e1,e2⟩
  ·exact absurd e1 h3
  ·omega
theorem zz7(a:BI)(ha:a.mag.length<=1000000000):CG0 156 [.agg (biE a)] [] (.agg (biE (ofZ (-a.v)))) []:=by
 refine zc Tryz.func156 ?_;refine zb.t (zeL (¬a.neg=true) a.mag ha) ?_
 have:(if ¬a.neg=true then -(val a.mag:Int) else(val a.mag:Int))= -a.v:=by
  rcases a.v_eq with⟨h1,h2⟩ | ⟨h1,h2⟩ <;> simp[h1,h2]
 rw[this];exact .refl
theorem zz8(a b:BI)(ha:a.mag.length<=800000000)(hb:b.mag.length<=800000000):CG0 158 [.agg (biE a),.agg (biE b)] [] (.agg (biE (ofZ (a.v+b.v)))) []:=by
 refine zc Tryz.func158 ?_;refine⟨λh=>?_,λh=>?_⟩
 ·refine Dr.k<|zb.t (zz5 a.mag b.mag oM oM) ?_;have hl:=zbR ha hb;refine zb.t (zeL (a.neg=true) _ oM) ?_
  have:(if a.neg=true then -(val (zm (val a.mag+val b.mag)):Int) else(val (zm (val a.mag+val b.mag)):Int))=a.v+b.v:=by
   rw[zo]
   rcases a.v_eq with⟨h1,h2⟩ | ⟨h1,h2⟩ <;> rcases b.v_eq with⟨h3,h4⟩ | ⟨h3,h4⟩ <;> simp[h1,h3]at h <;> simp[h1,h2,h4] <;> omega
  rw[this];exact .refl
 ·refine zb.t (zz6 a.mag b.mag oM oM) ?_;have hl:(zm (val a.mag - val b.mag)).length<=1000000000:=Xz (qr (Yl _ _)) (Xz (zJ _) oM);have hl2:(zm (val b.mag - val a.mag)).length<=1000000000:=Xz (qr (Yl _ _)) (Xz (zJ _) oM);refine⟨λh2=>?_,λh2=>?_⟩
  ·refine zb.t (zeL (a.neg=true) _ hl) ?_
   have:(if a.neg=true then -(val (zm (val a.mag - val b.mag)):Int) else(val (zm (val a.mag - val b.mag)):Int))=a.v+b.v:=by
    rw[zo]
    rcases a.v_eq with⟨h1,h2⟩ | ⟨h1,h2⟩ <;> rcases b.v_eq with⟨h3,h4⟩ | ⟨h3,h4⟩ <;> simp[h1,h3]at h <;> simp[h1,h2,h4] <;> omega
   rw[this];exact .refl
  ·refine zb.t (zz6 b.mag a.mag oM oM)<|zb.t (zeL (b.neg=true) _ hl2) ?_
   have:(if b.neg=true then -(val (zm (val b.mag - val a.mag)):Int) else(val (zm (val b.mag - val a.mag)):Int))=a.v+b.v:=by
    rw[zo]
    rcases a.v_eq with⟨h1,h2⟩ | ⟨h1,h2⟩ <;> rcases b.v_eq with⟨h3,h4⟩ | ⟨h3,h4⟩ <;> simp[h1,h3]at h <;> simp[h3,h2,h4] <;> omega
   rw[this];exact .refl
theorem zS(z:Int):(ofZ z).mag.length=jp z:=rfl
theorem zoQ(a b:BI)(ha:a.mag.length<=800000000)(hb:b.mag.length<=800000000):CG0 210 [.agg (biE a),.agg (biE b)] [] (.agg (biE (ofZ (a.v - b.v)))) []:=by
 refine zc Tryz.func210 ?_;refine Dr.k<|zb.t (zz7 b oM) ?_;have h1:=zan b;refine zb.t (zz8 a (ofZ (-b.v)) oM (by rw[zS,v7];omega)) ?_;rw[zV,← QS];exact .refl
theorem zeM(a b:BI)(ha:a.mag.length<=400000000)(hb:b.mag.length<=400000000):CG0 152 [.agg (biE a),.agg (biE b)] [] (.agg (biE (ofZ (a.v*b.v)))) []:=by
 refine zc Tryz.func152 ?_;refine Dr.k<|zb.t (n_mul a.mag b.mag ha hb) ?_
 have hl:(zm (val a.mag*val b.mag)).length<=1000000000:=by
  refine Xz (jN (k:=a.mag.length+b.mag.length) ?_) oM;rw[X7];exact KZ (je _) (je _)
 refine zb.t (zeL (¬(a.neg=true↔b.neg=true)) _ hl) ?_;rw[zo,zz3];exact .refl
theorem zoR(a:BI)(ha:a.mag.length<=900000000):CG0 209 [.agg (biE a)] [] (i64 (kL a.v.natAbs)) []:=by
 refine zc Tryz.func209 ?_;refine zb.t (zoP a.mag ha) ?_;rw[← a.v_abs];exact .refl
theorem zvY{a b:Int}(hb:0 < b):a / b=if a < 0 then -((a.natAbs / b.natAbs+(if a.natAbs % b.natAbs=0 then 0 else 1):Nat):Int) else((a.natAbs / b.natAbs:Nat):Int):=by
 have hdm:=X3 a.natAbs b.natAbs;have hm:=Kl a.natAbs (show b.natAbs > 0 by omega);generalize a.natAbs / b.natAbs=q at*;generalize a.natAbs % b.natAbs=r at*;have e:(b:Int)*(q:Int)=((b.natAbs*q:Nat):Int):=by rw[X0];congr 1;omega
 by_cases h:a < 0
 ·rw[if_pos h]
  by_cases h0:r=0
  ·rw[if_pos h0,XN];exact((K6 hb).2 ⟨(by rw[QC,e];omega:(0:Int)+b*(-(q:Int))=a),oM,hb⟩).1
  ·rw[if_neg h0];exact((K6 hb (r:=b - r)).2 ⟨by rw[QC,Qy,QV,e];omega,oM,oM⟩).1
 ·rw[if_neg h];exact((K6 hb (r:=r)).2 ⟨by rw[e];omega,oM,oM⟩).1
theorem zjA(p:Prop)[i:Decidable p]:CG0 222 [.pr p i] [] (.fn 279 [.loc 0 0]) [(0,.box 4 [.pr p i])]:=by
 exact qS tok mix Tryz.func222 rfl rfl rfl<|⟨some 0,zyq (.cons (.loc 0 0 rfl) .nil),rfl,rfl⟩
theorem zg4(p:Prop)[i:Decidable p](m:List Dig)(hm:m.length<=1000000000):
  CG0 279 [.sl dgE m,.ptr [.pr p i]] [] (.agg (biE (ofZ (if p then -(val m:Int) else val m)))) []:=by
 refine zc Tryz.func279 ?_;exact zb.t (zeL p m hm)<|.refl
theorem zvZ(a b:BI)(ha:a.mag.length<=200000000)(hb:b.mag.length<=200000000)(h0:0 < b.v):
  CG0 160 [.agg (biE a),.agg (biE b)] [] (.tup [.agg (biE (ofZ (a.v / b.v))),.agg (biE (ofZ (a.v % b.v))),i64 0]) []:=by
 refine zc Tryz.func160 ?_;refine Dr.k<|zb.t (zvX a oM)<|zb.t (zvX b oM) ?_;have la:=zan a;have lb:=zan b;refine zb.t (zjy (zm a.v.natAbs) (zm b.v.natAbs) (by unfold jp at la;omega) (by unfold jp at lb;omega) (by rw[zo];omega)) ?_;rw[zo,zo];refine⟨λh=>absurd rfl h,λ_=>?_⟩;have hza:=zaz a.v;have hzb:=zaz b.v;have hq:=zvY (a:=a.v) h0;have hm:=Int.emod_def a.v b.v
 have zq:jp (a.v / b.v)<=jp a.v:=zbQ (by
  have:=QJ a.v b.v
  exact this)
 have zp:=kM (a.v / b.v) b.v;have neg1:a.v < 0->¬((ofZ a.v).neg=true↔(ofZ b.v).neg=true):=λh=>by rw[hza,hzb];omega
 have neg2:¬a.v < 0->¬¬((ofZ a.v).neg=true↔(ofZ b.v).neg=true):=λh=>by rw[hza,hzb];omega
 have q1:(zm (a.v.natAbs / b.v.natAbs)).length<=200000000:=Xz (qr (KT _ _)) (by unfold jp at la;omega);refine⟨λh1=>?_,λh1=>?_⟩
 ·have hneg:a.v < 0:=XK λh=>neg2 h h1
  intro hl;refine⟨λh2=>?_,λh2=>?_⟩
  ·have hr:a.v.natAbs % b.v.natAbs≠0:=jB.1 oM;refine zb.t (zeb 1 dC)<|zb.t (zz5 _ _ oM (by decide +kernel)) ?_;rw[zo,zo];rw[if_pos hneg,if_neg hr]at hq;have ql:=zbR (a:=zm (a.v.natAbs / b.v.natAbs)) (b:=zm 1) q1 (by decide +kernel);rw[zo,zo]at ql;refine zb.fresh _ _ (zjA (¬((ofZ a.v).neg=true↔(ofZ b.v).neg=true))) rfl rfl (.inr rfl)<|zb.t (zg4 _ (zm (a.v.natAbs / b.v.natAbs+1)) oM) ?_;rw[zo,if_pos h1,← hq];refine Dr.k<|zb.t (zeM (ofZ (a.v / b.v)) (ofZ b.v) (by rw[zS];omega) (by rw[zS];omega)) ?_
   refine zb.t (zoQ (ofZ a.v) (ofZ ((ofZ (a.v / b.v)).v*(ofZ b.v).v)) (by rw[zS];omega) (by rw[zS,zV,zV];omega)) ?_;rw[zV,zV,zV,zV,QE (a.v / b.v),← hm];exact .refl
  ·have hr:a.v.natAbs % b.v.natAbs=0:=yI.1 (XJ.1 oM);rw[if_pos hneg,if_pos hr,XN]at hq;refine zb.fresh _ _ (zjA (¬((ofZ a.v).neg=true↔(ofZ b.v).neg=true))) rfl rfl (.inr rfl)<|zb.t (zg4 _ (zm (a.v.natAbs / b.v.natAbs)) oM) ?_;rw[zo,if_pos h1,← hq];refine Dr.k<|zb.t (zeM (ofZ (a.v / b.v)) (ofZ b.v) (by rw[zS];omega) (by rw[zS];omega))<|zb.t (zoQ (ofZ a.v) (ofZ ((ofZ (a.v / b.v)).v*(ofZ b.v).v)) (by rw[zS];omega) (by rw[zS,zV,zV];omega)) ?_;rw[zV,zV,zV,zV,QE (a.v / b.v),← hm]
   exact .refl
 ·have hneg:¬a.v < 0:=λh=>h1 (neg1 h)
  rw[if_neg hneg]at hq;refine zb.fresh _ _ (zjA (¬((ofZ a.v).neg=true↔(ofZ b.v).neg=true))) rfl rfl (.inr rfl)<|zb.t (zg4 _ (zm (a.v.natAbs / b.v.natAbs)) oM) ?_;rw[zo,if_neg h1,← hq];refine Dr.k<|zb.t (zeM (ofZ (a.v / b.v)) (ofZ b.v) (by rw[zS];omega) (by rw[zS];omega))<|zb.t (zoQ (ofZ a.v) (ofZ ((ofZ (a.v / b.v)).v*(ofZ b.v).v)) (by rw[zS];omega) (by rw[zS,zV,zV];omega)) ?_;rw[zV,zV,zV,zV,QE (a.v / b.v),← hm];exact .refl
theorem zsf(a:BI)(ha:a.mag.length<=1000000000):
  CG0 96 [.agg (biE a)] [] (.tup [i64 (y4 a.v),pr (-9223372036854775808<=a.v/\a.v<=9223372036854775807)]) []:=by
 refine zc Tryz.func96 ?_;refine zb.t (v8 a.mag ha) ?_;have hl0:=zJ a.mag;have hv:=a.v_eq;generalize hz:a.v=z at*;have hv':z= -(val a.mag:Int)∨z=(val a.mag:Int):=hv.imp Yp Yp
 have bad:¬(-9223372036854775808<=z/\z<=9223372036854775807)->LE (.tup [i64 0,bl false]) (.tup [i64 (y4 z),pr (-9223372036854775808<=z/\z<=9223372036854775807)]):=λh=>
  zI (zi (by rw[y4,if_neg h])) (zd h)
 have good:∀n:Int,n=z-> -9223372036854775808<=z/\z<=9223372036854775807->LE (.tup [i64 n,bl true]) (.tup [i64 (y4 z),pr (-9223372036854775808<=z/\z<=9223372036854775807)]):=λn hn h=>
  zI (zi (by rw[y4,if_pos h,hn])) (zT h)
 obtain⟨m,hm⟩:∃m,zm (val a.mag)=m:=⟨_,rfl⟩;have hmv:val m=val a.mag:=by rw[← hm,zo]
 have hbig:2 < m.length->18446744073709551616<=val a.mag:=λh=>by
  have h0:val a.mag≠0:=jB.1 (by rw[hm];omega);have:=zmV h0;rw[hm]at this;exact Xz (Xz dC (XH dC (show 2<=m.length - 1 by omega))) this
 rw[hm];rw[hm]at hl0;intro hl1;refine Ar.o ?_
 refine⟨Nat,λj=>⟨[(6,i64 ((j:Int) - 1)),(5,u64 (val (m.drop j))),(4,.sl dgE m),(1,.loc 0 0)],[(0,.box 41 (biE a))],1,55,0⟩,
  λj=>j<=m.length/\(j < m.length->m.length<=2),λj=>j,m.length,?_,?_,?_⟩
 ·exact⟨Xh _,λh=>absurd h (Yk _)⟩
 ·exact zL [0] ⟨rfl,congrArg (λn=>some (u64 n)) (by rw[ki (Xh _)];rfl),rfl,rfl,trivial⟩ ⟨rfl,trivial⟩
 rintro j ⟨h1,h2⟩
 refine⟨λh3=>?_,λh3=>?_⟩
 ·intro hl2;refine⟨λh4=>?_,λh4=>?_⟩
  ·have hd:=zG m (j - 1);rw[show j - 1+1=j by omega]at hd
   have hdl:val (m.drop j) < 4294967296:=by
    have:=je (m.drop j);rw[XO]at this;exact Xq this (Xz (XH dC (show m.length - j<=1 by omega)) dC)
   refine Ob.o1<|Ar.fit (by simp only[Int.reducePow];omega)<|Ob.o ?_;intro x hx;rw[show((j:Int) - 1).toNat=j - 1 by omega]at hx;have dx:=zW hx;have hxl:=x.isLt;refine Ar.o<|⟨_,(zfX (x:=val (m.drop j)) (y:=x.val) hdl hxl rfl).symm,?_⟩;exact Ar.o<|⟨j - 1,⟨oM,λ_=>by omega⟩,zL [0] ⟨congrArg (λn=>some (i64 n)) oM,congrArg (λn=>some (u64 n)) (by rw[hd,dx];omega),rfl,rfl,trivial⟩ ⟨rfl,trivial⟩,by dsimp only;omega⟩
  ·intro hl3;have:=hbig oM;refine⟨λ_=>?_,λh=>absurd h oM⟩;exact bad oM
 ·have hj:j=0:=by omega
  subst hj;have hd0:val (m.drop 0)=val a.mag:=by rw[KR,hmv]
  intro hl3
  have hv2:¬2 < m.length->val a.mag < 18446744073709551616:=λh=>by
   have:=je m;rw[hmv]at this;exact Xq this (Xz (XH dC (show m.length<=2 by omega)) dC)
  refine⟨λh=>?_,λh=>?_⟩
  ·have:=hbig oM;exact bad oM
  have hs:=hv2 oM;have negz:a.neg=true->z= -(val a.mag:Int):=λh=>hv.elim Yp λg=>by rw[h]at g;cases g.1
  have posz:¬a.neg=true->z=(val a.mag:Int):=λh=>hv.elim (λg=>absurd g.1 h) Yp
  have hneg:a.neg=true->val a.mag<=9223372036854775808->IntKind.i64.wrap (IntKind.u64.wrap (-(val (m.drop 0):Int)))=z:=λh hle=>by
   have:=negz h;rw[hd0,yp];show IntKind.i64.wrap _=_;simp only[IntKind.wrap,IntKind.bits,IntKind.signed];simp;omega
  refine⟨λg1=>bad oM,λg1=>?_⟩;refine⟨λg2=>?_,λg2=>?_⟩
  ·refine⟨λg3=>bad ?_,λg3=>?_⟩
   ·have:=posz g3;omega
   have hn:a.neg=true:=XK g3;have:=negz hn;refine⟨λ_=>?_,λg4=>absurd hn g4⟩;exact Ar.wrap<|Ar.wrap<|good _ (hneg hn oM) oM
  ·refine⟨λg4=>?_,λg4=>?_⟩
   ·have:=negz g4;exact Ar.wrap<|Ar.wrap<|good _ (hneg g4 oM) oM
   ·have:=posz g4;exact Ar.o<|good _ oM oM
structure BR where
 num:BI
 den:BI
 deriving DecidableEq
def BR.v(a:BR):Rat:=Rat.divInt a.num.v a.den.v
def ofQ(q:Rat):BR:=⟨ofZ q.num,ofZ q.den⟩
theorem z6(q:Rat):(ofQ q).v=q:=by unfold BR.v ofQ;rw[zV,zV,KW]
def BR.len(a:BR):Nat:=max a.num.mag.length a.den.mag.length
def jY(q:Rat):Nat:=max (jp q.num) (jp q.den)
theorem zB(q:Rat):(ofQ q).len=jY q:=rfl
theorem zjB{n d:Int}(hd:d≠0):(if n.sign*d.sign < 0 then -((n.natAbs / Nat.gcd n.natAbs d.natAbs:Nat):Int) else((n.natAbs / Nat.gcd n.natAbs d.natAbs:Nat):Int))=(Rat.divInt n d).num:=by
 have hg0:0 < Nat.gcd n.natAbs d.natAbs:=QQ _ oM;rw[Rat.num_divInt,show d.gcd n=Nat.gcd n.natAbs d.natAbs from QF _ _];obtain⟨k,hk⟩:((Nat.gcd n.natAbs d.natAbs:Nat):Int) ∣ n:=Int.ofNat_dvd_left.2 (Nat.gcd_dvd_left _ _);generalize Nat.gcd n.natAbs d.natAbs=g at*;have e1:n.natAbs / g=k.natAbs:=by rw[hk,Qs,Qx,Nat.mul_div_cancel_left _ hg0]
 have e2:d.sign*n / (g:Int)=d.sign*k:=by
  rw[hk,← JK,QE d.sign,JK,Int.mul_ediv_cancel_left _ oM]
 have e3:n.sign=k.sign:=by rw[hk,Int.sign_mul,Kk oM,JI]
 rw[e1,e2,e3]
 rcases KY d 0 with h | h | h
 ·rw[Kb h]
  rcases KY k 0 with h' | h' | h'
  ·rw[Kb h',if_neg dC];omega
  ·subst h';rw[if_neg dC];rfl
  ·rw[Kk h',if_pos dC];omega
 ·exact absurd h hd
 ·rw[Kk h]
  rcases KY k 0 with h' | h' | h'
  ·rw[Kb h',if_pos dC];omega
  ·subst h';rw[if_neg dC];rfl
  ·rw[Kk h',if_neg dC];omega
theorem zjC{n d:Int}(hd:d≠0):(Rat.divInt n d).den=d.natAbs / Nat.gcd n.natAbs d.natAbs:=by
 rw[Rat.den_divInt,if_neg hd,show d.gcd n=Nat.gcd n.natAbs d.natAbs from QF _ _]
theorem zbo{n d:Int}(hd:d≠0):jY (Rat.divInt n d)<=max (jp n) (jp d):=by
 have h1:jp (Rat.divInt n d).num<=jp n:=zbQ (by
  rw[← zjB hd];have:=KT n.natAbs (Nat.gcd n.natAbs d.natAbs);generalize n.natAbs / Nat.gcd n.natAbs d.natAbs=x at*
  split <;> omega)
 have h2:jp (Rat.divInt n d).den<=jp d:=zbQ (by
  rw[zjC hd];have:=KT d.natAbs (Nat.gcd n.natAbs d.natAbs);generalize d.natAbs / Nat.gcd n.natAbs d.natAbs=x at*
  omega)
 unfold jY;omega
theorem qa(q:Rat):jp q.num<=jY q:=QR _ _
theorem qk(q:Rat):jp q.den<=jY q:=QG _ _
theorem zH(a:BR):jY a.v<=max a.len 1:=by
 by_cases h:a.den.v=0
 ·have:a.v=0:=by unfold BR.v;rw[h,J0]
  rw[this];have:jY 0<=1:=by decide +kernel
  omega
 ·have:=zbo (n:=a.num.v) h;have h1:=zan a.num;have h2:=zan a.den;unfold BR.len BR.v;omega
theorem zdt(q:Rat):(q.den:Int)≠0:=by have:=q.den_nz;omega
theorem zjD(x y:Rat):Rat.divInt (x.num*y.den+y.num*x.den) (x.den*y.den)=x+y:=by
 have:=Yc x.num y.num (zdt x) (zdt y);rw[KW,KW]at this;exact this.symm
theorem zjE(x y:Rat):Rat.divInt (x.num*y.num) (x.den*y.den)=x*y:=by
 have:=Yd x.num y.num (d₁:=x.den) (d₂:=y.den);rw[KW,KW]at this;exact this.symm
theorem zv0(x y:Rat):Rat.divInt (x.num*y.den - y.num*x.den) (x.den*y.den)=x - y:=by
 have:=Yc x.num (-y.num) (zdt x) (zdt y);rw[KW,← Rat.neg_divInt,KW,Int.neg_mul,← QS]at this;rw[← this,JE]
theorem uY(x y:Rat):(x.den:Int)*(y.den:Int)≠0:=JX (zdt x) (zdt y)
theorem za0(x y:Rat):jY (x+y)<=jY x+jY y+1:=by
 rw[← zjD];have h:=zbo (n:=x.num*y.den+y.num*x.den) (uY x y);have h1:=zfW (x.num*y.den) (y.num*x.den);have h2:=kM x.num y.den;have h3:=kM y.num x.den;have h4:=kM x.den y.den;have a1:=qa x;have a2:=qa y;have a3:=qk x;have a4:=qk y;omega
theorem yf(x y:Rat):jY (x*y)<=jY x+jY y:=by
 rw[← zjE];have h:=zbo (n:=x.num*y.num) (uY x y);have h2:=kM x.num y.num;have h4:=kM x.den y.den;have a1:=qa x;have a2:=qa y;have a3:=qk x;have a4:=qk y;omega
theorem zdu(z:Int):jY z<=max (jp z) 1:=by
 unfold jY;rw[Jq,Jp];have:jp ((1:Nat):Int)=1:=by decide +kernel
 omega
def brE(a:BR):List SV:=biE a.num++biE a.den
theorem zly(a:BI)(g:List Dig)(ha:a.mag.length<=400000000)(hg:g.length<=400000000)(h0:val g≠0):
  CG0 216 [.agg (biE a),.ptr [.sl dgE g]] [] (.sl dgE (zm (val a.mag / val g))) []:=by
 refine zc Tryz.func216 ?_;exact zb.t (zjy a.mag g ha hg h0)<|.refl
theorem zfY(n d:BI)(hn:n.mag.length<=400000000)(hd:d.mag.length<=400000000)(h0:d.v≠0):
  CG0 157 [.agg (biE n),.agg (biE d)] [] (.agg (brE (ofQ (Rat.divInt n.v d.v)))) []:=by
 refine zc Tryz.func157 ?_;refine zb.t (n_gcd n.mag d.mag hn hd) ?_;have e1:=zjB (n:=n.v) h0;have e2:=zjC (n:=n.v) h0;rw[n.v_abs,d.v_abs]at e1 e2;have hdz:val d.mag≠0:=by rw[← d.v_abs];omega
 have hg0:0 < Nat.gcd (val n.mag) (val d.mag):=QQ _ oM
 have hgl:(zm (Nat.gcd (val n.mag) (val d.mag))).length<=400000000:=by
  refine Xz (qr (Nat.gcd_le_right _ oM)) (Xz (zJ _) hd)
 have l1:(zm (val n.mag / Nat.gcd (val n.mag) (val d.mag))).length<=1000000000:=Xz (qr (KT _ _)) (Xz (zJ _) oM);have l2:(zm (val d.mag / Nat.gcd (val n.mag) (val d.mag))).length<=1000000000:=Xz (qr (KT _ _)) (Xz (zJ _) oM);generalize Nat.gcd (val n.mag) (val d.mag)=g at*
 have s1: -1<=n.v.sign*d.v.sign/\n.v.sign*d.v.sign<=1:=by
  rcases KY n.v 0 with h | h | h <;> rcases KY d.v 0 with h' | h' | h' <;>
   simp[Kb,Kk,h,h']
 refine Dr.k<|zb.t (zjz n oM)<|zb.t (zjz d oM)<|Ar.o<|zb.t (zly n (zm g) hn hgl (by rw[zo];omega)) ?_;rw[zo];refine zb.t (zeL (n.v.sign*d.v.sign < 0) _ l1)<|zb.t (zly d (zm g) hd hgl (by rw[zo];omega))<|zb.t (zvW _ (by rw[zo];exact l2)) ?_;rw[zo,zo,zo,e1,← e2];exact .refl
end Go.Gs
