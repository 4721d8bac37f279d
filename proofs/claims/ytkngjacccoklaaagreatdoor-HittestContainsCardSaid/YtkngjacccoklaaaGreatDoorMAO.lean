/- Natural numbers, the program's: a multiple taken off a part of a row. -/
import Derived.Test.YtkngjacccoklaaaGreatDoorMA
import Derived.Test.YtkngjacccoklaaaGreatDoorMAN
import Derived.Laws.MathBits
set_option maxRecDepth 100000
set_option maxHeartbeats 8000000
set_option linter.all false
namespace Go.Gs
open Go.Proofs
def yb(k n:Nat):List Dig:=(List.range k).map λi=>dof (n/4294967296^i)
def yq(k n:Nat):(yb k n).length=k:=by simp[yb]
def zxm{xs ys:List Dig}(hl:xs.length=ys.length)(h:∀i,i<xs.length->dig xs i=dig ys i):xs=ys:=by
 refine List.ext_getElem hl λi h1 h2=>Fin.ext ?_
 have:=h i h1
 rwa [zU (Xb h1),zU (Xb h2)]at this
def ztv(w:List Dig):yb w.length (val w)=w:=by
 refine zxm (yq _ _) λi hi=>?_
 rw[yq]at hi;rw[zAt w i];have:(yb w.length (val w))[i]?=some (dof (val w/4294967296^i)):=by simp[yb,hi]
 rw[zU this,ky]
def ztw{k n:Nat}(h:n<4294967296^k):val (yb k n)=n:=by
 have:=zdC (xs:=yb k n) (N:=n) (λj hj=>by
  rw[yq]at hj;have e:(yb k n)[j]?=some (dof (n/4294967296^j)):=by simp[yb,hj]
  rw[zU e,ky])
 rw[yq,Xy h]at this;exact this
def ziW{pre w post:List Dig}{i:Nat}(h:i<w.length):(pre++(w++post))[pre.length+i]?=w[i]? :=by
 rw[XF oM,J4,XK h]
def ziX{pre w post:List Dig}{i:Nat}{d:Dig}(h:i<w.length):(pre++(w++post)).set (pre.length+i) d=pre++(w.set i d++post):=by
 rw[Yn _ _ oM,J4,List.set_append_left _ _ h]
def zpR(W V:List Dig)(q:Nat):List Dig:=yb W.length (if val W<q*val V then val W+4294967296^W.length-q*val V else val W-q*val V)
def zDi{x:Nat}{e:Int}(h:e=x):vk .and .u64 e 4294967295=((x%4294967296:Nat):Int):=by rw[h];exact ztt x
def zj6{u lo b:Nat}(hu:u<4294967296)(hl:lo<4294967296)(hb:b<=1):
  ((dof (8589934592+u-lo-b)).val:Int)=IntKind.u32.wrap (IntKind.u64.wrap (IntKind.u64.wrap ((u:Int)-lo)-b))/\
  IntKind.u64.wrap (IntKind.u64.wrap ((u:Int)-lo)-b)/2^63=(((if u<lo+b then 1 else 0:Nat)):Int)/\
  (8589934592+u-lo-b)%4294967296+lo+b=u+4294967296*(if u<lo+b then 1 else 0):=by
 rw[zj0,yk,yk,ky];simp only[Int.reducePow];refine⟨oM,?_,?_⟩
 ·split <;> omega
 split <;> omega
def zDj(pre W post V:List Dig)(q:Nat)(hW:W.length=V.length+1)(hq:q<=4294967296):
  CG0 445 [.win 0 1 (pre.length:Int) (W.length:Int),.sl dgE V,u64 q] [(0,qq (pre++(W++post)))] (pr (val W<q*val V)) [(0,qq (pre++(zpR W V q++post)))]:=by
 refine uo tok mix Tryz.func445 rfl rfl rfl (qP _) rfl ?_;intro hl0
 refine⟨Nat×List Dig×Nat×Nat,λ⟨i,w,c,b⟩=>⟨[(15,i64 i),(14,i64 V.length),(13,.sl dgE V),(7,u64 c),(8,u64 b),(0,.win 0 1 (pre.length:Int) (W.length:Int)),(1,.sl dgE V),(2,u64 q)],[(0,qq (pre++(w++post)))],1,65,1⟩,
  λs=>s.1<=V.length/\s.2.1.length=W.length/\s.2.2.1<4294967296/\s.2.2.2<=1/\(∀j,s.1<=j->dig s.2.1 j=dig W j)/\val (s.2.1.take s.1)+q*val (V.take s.1)=val (W.take s.1)+4294967296^s.1*(s.2.2.1+s.2.2.2),
  λs=>V.length-s.1,(0,W,0,0),?_,?_,?_⟩
 ·exact⟨Xh _,rfl,by dsimp only;omega,Xh _,λ_ _=>rfl,by simp[val]⟩
 ·exact zf [0]
 rintro⟨i,w,c,b⟩ ⟨h1,h2,h3,h4,h5,h6⟩
 dsimp only at h1 h2 h3 h4 h5 h6;have hll:(pre++(w++post)).length=pre.length+W.length+post.length:=by simp[h2];omega
 refine⟨λk1=>?_,λk1=>?_⟩
 ·refine Ob.o ?_;intro y hy;have hy:V[i]?=some y:=hy;have dy:=zU hy;have hyl:=y.isLt;have hm:q*y.val<=4294967296*4294967295:=Qs hq oM;refine Ar.o<|Ar.fit (by rw[←X1];omega)<|Ar.fit (by rw[←X1];omega)<|Ob.o6<|Ob.mk (by rw[hll];omega) ?_;intro u hu;have hu:w[i]?=some u:=by rw[←ziW (pre:=pre) (post:=post) oM,←hu];congr 1
  have du:=zU hu;have hul:=u.isLt;refine Ar.o ?_;have ex:(c:Int)+(q:Int)*(y.val:Int)=((c+q*y.val:Nat):Int):=by simp
  refine⟨_,(zDi ex).symm,?_⟩;rw[ex];generalize hX:c+q*y.val=X at*;obtain⟨t1,t2,t3⟩:=zj6 (u:=u.val) (lo:=X%4294967296) (b:=b) hul (Kk _ dC) h4;refine Ar.wrap<|Ar.wrap<|Ar.wrap<|Ob.o6<|Ob.mk (by rw[hll];omega) ?_;intro z hz;refine⟨dof (8589934592+u.val-X%4294967296-b),Xg (λn=>[u32 n]) t1,?_⟩;refine Ob.o1<|Ob.o1<|Ar.o ?_;generalize (if u.val<X%4294967296+b then 1 else 0)=b' at*;have hb':b'<=1:=oM
  refine⟨(i+1,w.set i (dof (8589934592+u.val-X%4294967296-b)),X/4294967296,b'),⟨by dsimp only;omega,by simp[h2],by dsimp only;omega,hb',λj hj=>?_,?_⟩,
   qI [(0,some 0)] rfl rfl rfl ⟨rfl,rfl,rfl,Xg (λn=>some (u64 n)) (by simp only[Int.reducePow];omega),Xg (λn=>some (u64 n)) t2,rfl,rfl,rfl,trivial⟩
    ⟨Xg (λl=>some (qq l)) (by rw[←ziX oM];congr 1),trivial⟩,by dsimp only;omega⟩
  ·dsimp only at hj ⊢;rw[jQ,Xc oM];exact h5 j oM
  dsimp only;rw[zQ,zQ,zQ,XU,dy,jQ,Xe ⟨rfl,oM⟩,ky,←h5 i (Xk _),du];have ht:(w.set i (dof (8589934592+u.val-X%4294967296-b))).take i=w.take i:=by rw[Q5 oM]
  rw[ht];have hd:=X7 X 4294967296;exact zu5 h6 oM t3
 have hi:i=V.length:=by omega
 subst hi;intro hl9;refine Ob.o6<|Ob.mk (by rw[hll];omega) ?_;intro u hu;have hu:w[V.length]?=some u:=by rw[←ziW (pre:=pre) (post:=post) oM,←hu];congr 1
 have du:=zU hu;have hul:=u.isLt;refine Ar.o ?_;obtain⟨t1,t2,t3⟩:=zj6 (u:=u.val) (lo:=c) (b:=b) hul h3 h4;refine Ar.wrap<|Ar.wrap ?_;intro hl10;refine Ar.wrap<|Ob.o6<|Ob.mk (by rw[hll];omega) ?_;intro z hz;refine⟨dof (8589934592+u.val-c-b),Xg (λn=>[u32 n]) t1,?_⟩;refine Ob.o1 ?_
 have ev:val (w.set V.length (dof (8589934592+u.val-c-b)))+q*val V=val W+4294967296^W.length*(if u.val<c+b then 1 else 0):=by
  have e1:=v6 w V.length (dof (8589934592+u.val-c-b)) oM;have e2:=kT w V.length;have e3:=zG w V.length;rw[z8 (show w.length<=V.length+1 by omega),Ko,XQ]at e3;rw[e3]at e2;have f2:=kT W V.length;have f3:=zG W V.length;rw[z8 (show W.length<=V.length+1 by omega),Ko,XQ]at f3;rw[f3]at f2;rw[kU (Xk V.length)]at h6;rw[hW,XU,f2,←h5 _ (Xk _),du];rw[du]at e1 e2;rw[ky]at e1;generalize (if u.val<c+b then 1 else 0)=b' at*
  generalize (8589934592+u.val-c-b)%4294967296=u' at*;generalize 4294967296^V.length=p at*;have e4:p*(u'+c+b)=p*(u.val+4294967296*b'):=by rw[t3]
  generalize u.val=u at*;generalize val (w.take V.length)=wt at*;generalize val (W.take V.length)=Wt at*;generalize q*val V=qv at*;clear h5 t1 t2
  grind
 have hvl:=q9 (w.set V.length (dof (8589934592+u.val-c-b)));rw[XV,h2]at hvl
 have hneg:(u.val<c+b)↔val W<q*val V:=by
  constructor
  ·intro h;rw[Xe h]at ev;omega
  intro h
  by_cases hh:u.val<c+b
  ·exact hh
  rw[Xc hh]at ev;omega
 have hfin:w.set V.length (dof (8589934592+u.val-c-b))=zpR W V q:=by
  rw[←ztv (w.set V.length (dof (8589934592+u.val-c-b)))];unfold zpR;rw[XV,h2];congr 1
  by_cases hh:val W<q*val V
  ·rw[Xe hh];rw[Xe (hneg.2 hh)]at ev;omega
  rw[Xc hh];rw[Xc (λh=>hh (hneg.1 h))]at ev;omega
 refine⟨Xg (λl=>some (qq l)) ?_,zE ?_⟩
 ·rw[←hfin,←ziX oM];congr 1
 rw[t2,←hneg]
 by_cases hh:u.val<c+b
 ·simp[hh]
 simp[hh]
def zpS{α:Type}{enc:α->List SV}:LE (.val (.slice none 0 0)) (.full enc []):=λS Pm ρ w v hg=>by
 rw[hg.val_inv];exact .d _ _ (.full enc [] none (.nil enc none))
def or32{x y:Nat}(hx:x<4294967296)(hy:y<4294967296):vk .or .u32 x y=((x|||y:Nat):Int):=by
 show IntKind.u32.wrap ((BitVec.ofInt 32 x|||BitVec.ofInt 32 y).toNat:Nat)=_;have h:x|||y<2^32:=Nat.or_lt_two_pow hx hy
 have e:(BitVec.ofInt 32 x|||BitVec.ofInt 32 y).toNat=x|||y:=by
  rw[BitVec.toNat_or,K5,K5];congr 1
  ·omega
  omega
 rw[e,zj0];omega
def zDk{c x s p:Nat}(hp:p<32)(hs:2^p=s)(hc:c<s):c|||(x*s%4294967296)=c+x*s%4294967296/\c+x*s%4294967296<4294967296:=by
 have h32:4294967296=s*2^(32-p):=by rw[←hs,←Ke,show p+(32-p)=32 by omega]
 have hm:x*s%4294967296=s*(x%2^(32-p)):=by rw[h32,Kt x s,Nat.mul_mod_mul_left]
 have hlt:x%2^(32-p)<2^(32-p):=Kk _ (KX dC);have h1:=K8 (i:=p) (b:=c) (by rw[hs];exact hc) (x%2^(32-p));rw[hs]at h1;rw[hm,Nat.or_comm,←h1]
 have h2:s*(x%2^(32-p))+s<=s*2^(32-p):=by
  rw[←YB];exact Kf _ hlt
 rw[←h32]at h2;exact⟨oM,oM⟩
def zAy{x y:Nat}{e:Int}(hx:x<4294967296)(hy:y<4294967296)(he:e=(y:Int)*2^32):vk .or .u64 x e=((y*4294967296+x:Nat):Int):=by
 have h1:e=((y*4294967296:Nat):Int):=by rw[he];simp only[Int.reducePow];omega
 rw[h1,zj2 oM oM,Nat.or_comm];have:=K8 (i:=32) (b:=x) (by rw[show 2^32=4294967296 by decide];exact hx) y;rw[show 2^32=4294967296 by decide,Kt]at this;rw[←this]
def zxn{p w s v x lo hi o o1 o2 q:Nat}(h:o=w*(s*v))(h1:o1+p*w*q=o+p*w*(q+lo))(h2:o2=o1+p*w*4294967296*hi)(e:4294967296*hi+lo=x*s):o2=w*(s*(v+p*x)):=by
 subst h2;subst h
 have:o1=w*(s*v)+p*w*lo:=by
  rw[KF (p*w) q lo]at h1;omega
 subst this
 grind
def zxo(a0:List Dig)(n:Nat)(ha:a0.length<=800000000)(hn:n<=4096):
  CG0 443 [.sl dgE a0,i64 n] [] (.full dgE (zm (val a0*2^n))) []:=by
 refine zc Tryz.func443 ?_;refine zb.t (jr a0 oM) ?_;have la:=zJ a0;have va:=zo (val a0);generalize zm (val a0)=a at*;rw[←va];clear va;have hs0:2^(n%32)<=2^31:=XH dC oM;have hs1:0<2^(n%32):=KX dC;generalize hs:2^(n%32)=s at*;refine⟨λh=>by omega,λh=>?_⟩;have em:zbM (n:Int) [4096]=n:=by simp only[zbM];omega
 change Dv _ _ _ _;rw[em];refine Dv.pos ⟨oM,oM,by show _<=(9223372036854775807:Int);omega⟩<|Dv.pos ⟨oM,oM⟩ ?_;intro hl7;(iterate 2 refine Ar.o ?_);refine⟨Dig,dgE,0,rfl,Ob.o7 ?_⟩;intro hl8
 refine⟨Nat×List Dig,λ⟨i,out⟩=>⟨[(76,i64 i),(75,i64 a.length),(74,.sl dgE a),(9,i64 (n/32:Nat)),(10,i64 (n%32:Nat)),(11,.own 0)],[(0,qq out)],1,107,0⟩,
  λq=>q.1<=a.length/\q.2.length=a.length+n/32+1/\(∀j,q.1+n/32<j->dig q.2 j=0)/\dig q.2 (q.1+n/32)<s/\val q.2=4294967296^(n/32)*(s*val (a.take q.1)),λq=>a.length-q.1,(0,List.replicate (a.length+n/32+1) 0),?_,?_,?_⟩
 ·refine⟨Xh _,by simp,λj _=>yN _ _,by dsimp only;rw[yN];exact hs1,by simp[zaT,val]⟩
 ·exact zT [0] ⟨rfl,rfl,rfl,Xg (λn=>some (i64 n)) oM,Xg (λn=>some (i64 n)) oM,rfl,trivial⟩ ⟨Xg (λn=>some (qq (List.replicate n 0))) oM,trivial⟩
 rintro⟨i,out⟩ ⟨h1,h2,h3,h4,h5⟩
 dsimp only at h1 h2 h3 h4 h5;refine⟨λh9=>?_,λh9=>?_⟩
 ·refine Ob.o ?_;intro x hx;have hx:a[i]?=some x:=hx;have dx:=zU hx;have hxl:=x.isLt;refine Ar.o<|Ob.o12 ?_;have hm:x.val*s<=4294967295*2^31:=Qs oM hs0
  have hm2:(x.val:Int)*2^((n%32:Nat):Int).toNat=((x.val*s:Nat):Int):=by
   rw[←hs,XT];simp
  have hm3:x.val*s<4294967296*s:=KL hxl hs1;refine Ar.fit (by rw[hm2];omega) ?_;rw[hm2];refine Ar.o<|Ob.o<|Ob.o ?_;intro c hc;rw[show((i:Int)+(n/32:Nat)).toNat=i+n/32 by omega]at hc;have dc:=zU hc;have hcl:=c.isLt;rw[dc]at h4;obtain⟨o1,o2⟩:=zDk (c:=c.val) (x:=x.val) (s:=s) (p:=n%32) oM hs h4;refine Ar.wrap ?_;have ew:IntKind.u32.wrap ((x.val*s:Nat):Int)=((x.val*s%4294967296:Nat):Int):=by rw[zj0];omega
  rw[ew];refine⟨_,(or32 hcl (Kk _ dC)).symm,?_⟩;rw[o1];refine Ob.o<|Ob.o ?_;intro z hz;refine⟨dof (c.val+x.val*s%4294967296),Xg (λn=>[u32 n]) (by rw[ky,Xy o2]),?_⟩;(iterate 2 refine Ar.o ?_);refine Ob.o1<|Ar.wrap<|Ob.mk (by rw[XV];omega)<|Ob.mk (by rw[XV];omega) ?_;intro z2 hz2;have hhi:x.val*s/4294967296<s:=by rw[XS dC];omega
  refine⟨dof (x.val*s/4294967296),Xg (λn=>[u32 n]) (zbe (by simp only[Int.reducePow];omega)),?_⟩;refine Ar.o ?_;have ei:((i:Int)+(n/32:Nat)).toNat=i+n/32:=oM;have ei1:((i:Int)+(n/32:Nat)+1).toNat=i+n/32+1:=oM
  refine⟨(i+1,(out.set (i+n/32) (dof (c.val+x.val*s%4294967296))).set (i+n/32+1) (dof (x.val*s/4294967296))),⟨by dsimp only;omega,by simp[h2],λj hj=>?_,?_,?_⟩,
   zu [0] ⟨Xg (λl=>some (qq l)) (by rw[ei,ei1]),trivial⟩,by dsimp only;omega⟩
  ·dsimp only at hj ⊢;rw[jQ,Xc oM,jQ,Xc oM];exact h3 j oM
  ·dsimp only;rw[show i+1+n/32=i+n/32+1 by omega,jQ,Xe ⟨rfl,by rw[XV];omega⟩,ky,Xy oM];exact hhi
  dsimp only;have s1:=v6 out (i+n/32) (dof (c.val+x.val*s%4294967296)) oM;have s2:=v6 (out.set (i+n/32) (dof (c.val+x.val*s%4294967296))) (i+n/32+1) (dof (x.val*s/4294967296)) (by rw[XV];omega);rw[ky,Xy o2,dc,Ke]at s1;have hmm:x.val*s/4294967296%4294967296=x.val*s/4294967296:=Xy oM;rw[jQ,Xc oM,h3 _ oM,Ko,XQ,ky,hmm,XU,Ke]at s2;rw[zQ,dx];exact zxn h5 s1 s2 (X7 _ _)
 have hi:i=a.length:=by omega
 subst hi;rw[kU (Xk _),←hs,zbd,←KC,←Ke,show 32*(n/32)+n%32=n by omega,Kt]at h5;refine zb.see 0 _ (znZ out oM) rfl rfl rfl ?_;rw[h5];exact .refl
def n_shr(a0:List Dig)(n:Nat)(ha:a0.length<=800000000)(hn:n<=1000000000000)(hn0:n≠0):
  CG0 443 [.sl dgE a0,i64 (-(n:Int))] [] (.full dgE (zm (val a0/2^n))) []:=by
 refine zc Tryz.func443 ?_;refine zb.t (jr a0 oM) ?_;have la:=zJ a0;have va:=zo (val a0);generalize zm (val a0)=a at*;rw[←va];clear va;refine⟨λh=>?_,λh=>by omega⟩;intro hl2;refine Ar.o<|Br.mk (λh3=>?_) (λh3=>?_)
 ·have e:val a/2^n=0:=by
   refine Kh (Xw (q9 a) ?_);rw[zbd];exact XH dC oM
  rw[e,jZ];exact zpS
 refine Ar.o<|Dv.pos ⟨oM,oM,by show _<=(9223372036854775807:Int);omega⟩<|Ar.o<|Dv.pos ⟨oM,oM⟩ ?_;intro hl4;refine Ar.o<|⟨Dig,dgE,0,rfl,Ob.o7 ?_⟩;intro hl5
 refine⟨Nat×List Dig,λ⟨i,out⟩=>⟨[(37,i64 i),(36,i64 (a.length-n/32:Nat)),(0,.sl dgE a),(5,i64 (n/32:Nat)),(6,i64 (n%32:Nat)),(7,.own 0)],[(0,qq out)],1,107,0⟩,
  λq=>q.1<=a.length-n/32/\q.2.length=a.length-n/32/\∀j,j<q.1->dig q.2 j=val a/2^n/4294967296^j%4294967296,λq=>a.length-n/32-q.1,(0,List.replicate (a.length-n/32) 0),?_,?_,?_⟩
 ·exact⟨Xh _,by simp,λj h=>by dsimp only at h;omega⟩
 ·exact zT [0] ⟨rfl,Xg (λn=>some (i64 n)) (by simp;omega),rfl,Xg (λn=>some (i64 n)) oM,Xg (λn=>some (i64 n)) oM,rfl,trivial⟩ ⟨Xg (λn=>some (qq (List.replicate n 0))) oM,trivial⟩
 rintro⟨i,out⟩ ⟨g1,g2,g3⟩
 dsimp only at g1 g2 g3;refine⟨λh6=>?_,λh6=>?_⟩
 ·have d1:=yR a (n/32+i);have d2:=yR a (n/32+i+1);refine Ar.o<|zb.t (zer a _ oM) ?_;rw[show((i:Int)+(n/32:Nat)).toNat=n/32+i by omega];(iterate 2 refine Ar.o ?_);refine zb.t (zer a _ oM) ?_;rw[show((i:Int)+(n/32:Nat)+1).toNat=n/32+i+1 by omega];refine Ob.o1<|Ar.fit (by simp only[Int.reducePow];omega)<|⟨_,(zAy d1 d2 rfl).symm,?_⟩;refine Ob.o12<|Ar.wrap<|Ob.o<|Ob.o ?_;intro z hz
  refine⟨dof ((dig a (n/32+i+1)*4294967296+dig a (n/32+i))/2^(n%32)),Xg (λn=>[u32 n]) (zbe (by rw[XT];simp)),?_⟩;refine Ar.o ?_
  refine⟨(i+1,out.set i (dof ((dig a (n/32+i+1)*4294967296+dig a (n/32+i))/2^(n%32)))),⟨by dsimp only;omega,by simp[g2],λj hj=>?_⟩,
   zf [0],by dsimp only;omega⟩
  dsimp only at hj ⊢
  by_cases e:i=j
  ·subst e;rw[jQ,Xe ⟨rfl,oM⟩,ky];have:=ztp a (n/32) (n%32) i oM;rw[show 32*(n/32)+n%32=n by omega]at this;rw[this]
  rw[jQ,Xc (λh=>e h.1)];exact g3 j oM
 have hi:i=a.length-n/32:=by omega
 have e:val out=val a/2^n:=by
  rw[zdC (λj hj=>g3 j oM),Xy];rw[XS (KX dC)];refine Xw (q9 a) ?_;rw[zbd,zbd,←Ke];exact XH dC oM
 refine zb.see 0 _ (znZ out oM) rfl rfl rfl ?_;rw[e];exact .refl
def zj7{s:ByteArray}{i:Nat}{b:UInt8}(hb:s[i]?=some b)(hi:i<s.size)(key:∀h:i<s.size,(s[i]'h).toNat=bitLen i):b.toNat=kA i:=by
 have e:=getElem?_pos s i hi;rw[hb]at e;rw[Xm e];exact key hi
def zdE{x:Nat}(b:Nat)(h:2^b<=x):kA x=b+kA (x/2^b):=
 bitLen_shift x b (Nat.ne_of_gt (Nat.div_pos h (KX dC)))
def ztx(x:Nat)(hx:x<4294967296):CG0 176 [u32 x] [] (i64 (kA x)) []:=by
 refine zc Tryz.func176 ?_;have fin:∀(y:Nat) (k:Int),y<256->(kA x:Int)=k+kA y->∀b:UInt8,b.toNat=kA y->(k+(b.toNat:Int))=kA x:=λy k _ h b hb=>by rw[h,hb]
 have small:∀y:Nat,y<256->kA y<=8:=λy hy=>bitLen_le8 y hy
 refine⟨λh1=>?_,λh1=>?_⟩
 ·refine Ob.o1 ?_;have e1:(x:Int)/2^16=((x/65536:Nat):Int):=by simp
  rw[e1];have n1:=zdE (x:=x) 16 oM;rw[show(2:Nat)^16=65536 by decide]at n1;have hx1:x/65536<65536:=oM;generalize x/65536=y at*;refine⟨λh2=>?_,λh2=>?_⟩
  ·refine Ob.o1 ?_;have e2:(y:Int)/2^8=((y/256:Nat):Int):=by simp
   rw[e2];have n2:=zdE (x:=y) 8 oM;rw[show(2:Nat)^8=256 by decide]at n2;have hy1:y/256<256:=oM;generalize y/256=z at*;(iterate 2 refine Ar.o ?_);refine Ob.o10 ?_;intro b hb;have hb':b.toNat=kA z:=zj7 hb (by show z<256;exact hy1) (λh=>len8tab_get z h);have:=small z hy1;(iterate 2 refine Ar.o ?_);exact ze oM
  have hy1:y<256:=by omega
  refine Ar.o<|Ob.o10 ?_;intro b hb;have hb':b.toNat=kA y:=zj7 hb (by show y<256;exact hy1) (λh=>len8tab_get y h);have:=small y hy1;(iterate 2 refine Ar.o ?_);exact ze oM
 refine⟨λh2=>?_,λh2=>?_⟩
 ·refine Ob.o1 ?_;have e2:(x:Int)/2^8=((x/256:Nat):Int):=by simp
  rw[e2];have n2:=zdE (x:=x) 8 oM;rw[show(2:Nat)^8=256 by decide]at n2;have hy1:x/256<256:=oM;generalize x/256=z at*;(iterate 2 refine Ar.o ?_);refine Ob.o10 ?_;intro b hb;have hb':b.toNat=kA z:=zj7 hb (by show z<256;exact hy1) (λh=>len8tab_get z h);have:=small z hy1;(iterate 2 refine Ar.o ?_);exact ze oM
 have hy1:x<256:=by omega
 refine Ar.o<|Ob.o10 ?_;intro b hb;have hb':b.toNat=kA x:=zj7 hb (by show x<256;exact hy1) (λh=>len8tab_get x h);have:=small x hy1;(iterate 2 refine Ar.o ?_);exact ze oM
def zn1{x:Nat}(hx:x<4294967296):kA x<=32:=by
 by_cases h:x=0
 ·subst h;decide
 have:=zb0 h;have:=(QE (by decide:1<2)).1 (K6 this (show x<2^32 from hx));omega
def zDl(x:Nat)(hx:x<4294967296):CG0 442 [u32 x] [] (i64 (32-kA x:Nat)) []:=by
 refine zc Tryz.func442 ?_;refine zb.t (ztx x hx) ?_;have:=zn1 hx;exact Ar.o<|ze oM
def zpT(a:List Dig)(ha:a.length<=900000000):CG0 378 [.sl dgE a] [] (i64 (kA (val a))) []:=by
 refine zc Tryz.func378 ?_;refine zb.t (jr _ oM) ?_;intro hl;have hlen:=zJ a;refine⟨λh=>?_,λh=>?_⟩
 ·have:zm (val a)=[]:=XM.1 oM;exact ze (by rw[yF.1 this];rfl)
 have hne:zm (val a)≠[]:=λe=>h (by rw[e];rfl)
 have hn:=(vN (val a)).resolve_left hne;have htop:=zb2 hn;rw[zo]at htop;intro hl2;(iterate 2 refine Ar.o ?_);intro hl3;refine Ar.o<|Ob.o ?_;intro x hx;rw[show(((zm (val a)).length:Int)-1).toNat=(zm (val a)).length-1 by omega]at hx;have dx:=zU hx;have hxl:=x.isLt;refine zb.t (ztx x.val hxl) ?_;rw[dx]at htop;have:=zn1 hxl;exact Ar.o<|ze oM
def zDm(a:List Dig)(n:Nat)(ha:a.length<=800000000)(hn:n<=1000000000000):
  CG0 443 [.sl dgE a,i64 (-(n:Int))] [] (.sl dgE (zm (val a/2^n))) []:=by
 by_cases h:n=0
 ·subst h;have:=(zxo a 0 ha oM).le (zcE rfl);rw[Jn,Je]at this;rw[Jn,Nat.div_one];exact this
 exact(n_shr a n ha hn h).le (zcE rfl)
def zDn(a:List Dig)(n:Nat)(ha:a.length<=800000000)(hn:n<=4096):
  CG0 443 [.sl dgE a,i64 n] [] (.sl dgE (zm (val a*2^n))) []:=(zxo a n ha hn).le (zcE rfl)
def zr7{B s:Nat}(hB:B≠0)(hs:s+kA (dig (zm B) ((zm B).length-1))=32):
  (zm (B*2^s)).length=(zm B).length/\2147483648<=dig (zm (B*2^s)) ((zm B).length-1):=by
 have hne:zm B≠[]:=λe=>hB (yF.1 e)
 have htop:=zb2 ((vN B).resolve_left hne);rw[zo]at htop;have hp:0<2^s:=KX dC;have hV0:B*2^s≠0:=Yd hB oM;have h1:=zdB B;have h2:=zb0 hB;have hpos:=zb1.2 hB;have hl:=jy.2 hB
 have e:kA (B*2^s)=kA B+s:=by
  refine zgi ?_ hV0 ?_
  ·rw[Ke];exact KL h1 hp
  rw[show kA B+s-1=kA B-1+s by omega,Ke];exact Xu _ h2
 have e32:kA (B*2^s)=32*(zm B).length:=oM;have hle:(zm (B*2^s)).length<=(zm B).length:=jL (by rw[zbd,←e32];exact zdB _);have hge:(zm B).length<=(zm (B*2^s)).length:=qm (QH _ hp);have hlen:(zm (B*2^s)).length=(zm B).length:=oM;refine⟨hlen,?_⟩;have hnV:zm (B*2^s)≠[]:=λe=>hV0 (yF.1 e)
 have hz:=(vN (B*2^s)).resolve_left hnV;have ht2:=zb2 hz;rw[zo,hlen]at ht2;rw[hlen]at hz;have:=zb0 hz;rw[show kA (dig (zm (B*2^s)) ((zm B).length-1))-1=31 by omega]at this;exact this
def zxp{u q:List Dig}{k n V U:Nat}(hk:k<q.length)(hlen:q.length+n=u.length)(hV:V<4294967296^n)(g3:val (u.drop (k+1))<V)(g4:U=V*(4294967296^(k+1)*val (q.drop (k+1)))+val u):
  ((u.drop k).take (n+1)).length=n+1/\val ((u.drop k).take (n+1))<4294967296*V/\u=u.take k++((u.drop k).take (n+1)++u.drop (k+n+1))/\
  ∀w:List Dig,w=yb (n+1) (val ((u.drop k).take (n+1))%V)->∀d:Dig,d.val=val ((u.drop k).take (n+1))/V->
   val ((u.take k++(w++u.drop (k+n+1))).drop k)<V/\U=V*(4294967296^k*val ((q.set k d).drop k))+val (u.take k++(w++u.drop (k+n+1))):=by
 have hwl:((u.drop k).take (n+1)).length=n+1:=by rw[Xo,Kw];omega
 have hd:=yR u k;have hdk:=zG u k;have hlt:val (u.drop k)<4294967296*V:=oM;have hsp:=kT (u.drop k) (n+1);rw[JM,show k+(n+1)=k+n+1 by omega]at hsp
 have hz:val (u.drop (k+n+1))=0:=by
  apply Nat.eq_zero_of_not_pos;intro h0;have h1:4294967296^(n+1)<=4294967296^(n+1)*val (u.drop (k+n+1)):=QH _ h0;have h2:4294967296^(n+1)=4294967296^n*4294967296:=XU ..;omega
 rw[hz,Ko,XQ]at hsp
 have hu:u=u.take k++((u.drop k).take (n+1)++u.drop (k+n+1)):=by
  have e1:u.drop (k+n+1)=(u.drop k).drop (n+1):=by rw[JM];congr 1
  rw[e1,Kj,Kj]
 refine⟨hwl,oM,hu,?_⟩;intro w hw d hdv
 have hw0:val w=val ((u.drop k).take (n+1))%V:=by
  rw[hw];refine ztw<|Xw (Kk _ oM) ?_;rw[XU];omega
 have hwl2:w.length=n+1:=by rw[hw,yq]
 have htl:(u.take k).length=k:=by rw[Xo];omega
 have hm:=Kk (val ((u.drop k).take (n+1))) (show V > 0 by omega);have hdm:=X7 (val ((u.drop k).take (n+1))) V;have hu2:=kT u k;rw[hsp]at hu2;constructor
 ·rw[List.drop_append_of_le_length oM,Jj oM,Qy,vM,hz];omega
 rw[vM,vM,hz,htl,zbQ hk,hw0,hdv,g4,hu2,XU];generalize val ((u.drop k).take (n+1))=W at*;generalize W/V=D at*;generalize W%V=R at*;generalize 4294967296^k=p at*;generalize val (q.drop (k+1))=Q at*;generalize val (u.take k)=T at*;clear hw hw0 hdv hsp hz hu hu2 g4 g3 hdk hwl hwl2 htl hlt hd hlen hk;subst hdm
 grind
def zAz{W V Bn g:Nat}(h:g=W/V∨g=W/V+1)(hV:0<V)(hVB:V<=Bn):
  (if W<g*V then W+Bn-g*V else W-g*V)=(if W<g*V then W%V+Bn-V else W%V)/\(W<g*V->g=W/V+1)/\(¬W<g*V->g=W/V):=by
 have hdm:=X7 W V;have hm:=Kk W hV
 rcases h with rfl|rfl
 ·have:¬W<W/V*V:=Nat.not_lt_of_le (JG W V);rw[Xc this,Xc this];refine⟨?_,λh=>absurd h this,λ_=>rfl⟩;rw[Kt];omega
 have e:(W/V+1)*V=V*(W/V)+V:=by rw[X0,Yu,Kt]
 have:W<(W/V+1)*V:=oM;rw[Xe this,Xe this];refine⟨?_,λ_=>rfl,λh=>absurd this h⟩;omega
def zAA{t p d c R:Nat}(hp:t<p)(hd:d<4294967296)(hc:c<=1)(e:t+p*(d+c)=R+p*4294967296):(d+c)%4294967296=0/\t=R:=by
 have h:d+c=4294967296:=by
  rcases Qe (d+c) 4294967296 with h|h
  ·have h1:p*(d+c+1)<=p*4294967296:=Kf _ h;rw[KF,Je]at h1;omega
  omega
 rw[h]at e ⊢;exact⟨rfl,oM⟩
def zDo{t1 t2 t3 p c z y xq xr:Nat}(f5:t1+p*c=t2+t3)(hd:4294967296*xq+xr=c+(z+y)):t1+p*xr+p*4294967296*xq=t2+p*z+(t3+p*y):=by grind
def zj8(a b:List Dig)(ha:a.length<=400000000)(hb:b.length<=400000000)(hb0:val b≠0):
  CG0 384 [.sl dgE a,.sl dgE b] [] (.tup [.sl dgE (zm (val a/val b)),.sl dgE (zm (val a%val b)),i64 0]) []:=by
 refine zc Tryz.func384 ?_;refine zb.t (jr _ oM)<|zb.t (jr _ oM) ?_;have hla:=zJ a;have hlb:=zJ b;generalize val a=A at*;generalize val b=B at*;intro hl;refine⟨λh=>?_,λh=>?_⟩
 ·exact absurd (yF.1 (XM.1 oM)) hb0
 refine zb.t (zCo _ _ oM oM) ?_;rw[zo,zo];refine⟨λh2=>?_,λh2=>?_⟩
 ·have hlt:=zeo.1 h2;refine zb.t (zn0 _ oM) ?_;rw[Kh hlt,Xy hlt,jZ];exact zbP (.cons zD (.C (.C .nil)))
 have hge:B<=A:=QX λh=>h2 (zeo.2 h)
 intro hl2;refine⟨λh3=>?_,λh3=>?_⟩
 ·refine Ob.o ?_;intro x hx;have dx:=zU hx;have hxl:=x.isLt
  have hx1:zm B=[x]:=by
   have hx:(zm B)[0]?=some x:=hx;obtain⟨y,hy⟩:=J6.1 (show(zm B).length=1 by omega);rw[hy]at hx ⊢;simp at hx;rw[hx]
  have hB:x.val=B:=by
   have:=zo B;rw[hx1,vn,znU]at this;omega
  refine zb.t (n_one (zm A) x.val oM hxl oM) ?_;rw[zo,hB];have hm:=Kk A (show B > 0 by omega);exact Ar.o<|zb.t (zeq (A%B) oM)<|.refl
 intro hl3;refine Ar.o<|Ob.o ?_;intro x hx;rw[show(((zm B).length:Int)-1).toNat=(zm B).length-1 by omega]at hx;have dx:=zU hx;have hxl:=x.isLt;refine zb.t (zDl x.val hxl) ?_;have hn32:=zn1 hxl;obtain⟨s,hs⟩:∃s,32-kA x.val=s:=⟨_,rfl⟩;rw[hs];refine zb.t (zDn _ s oM oM)<|zb.t (zxo _ s oM oM) ?_;rw[zo,zo];obtain⟨hvl,hvt⟩:=zr7 (B:=B) (s:=s) hb0 (by rw[dx];omega);refine⟨Dig,dgE,[0],rfl,Ob.mk (zhq 0) ?_⟩
 have hul:(zm (A*2^s)).length<=400000001:=XC (jL (k:=(zm A).length+1) (by
  have h1:=zcG (n:=A) (Xk _);have h2:2^s<=4294967296^1:=by rw[zbd];exact XH dC oM
  rw[Ke]
  exact Xw (KL h1 (KX dC)) (Kf _ h2))) oM
 refine⟨_,rfl,Ob.mk ⟨List.cons_ne_nil _ _,(by show((_:Int)+((1:Nat):Int))*((4:Nat):Int)<=_;omega),(by show _+1<=_;omega),dC,λ_ _=>rfl,λ_ _=>rfl⟩ ?_⟩;have hp0:0<2^s:=KX dC;have hmA:(zm A).length<=(zm (A*2^s)).length:=qm (QH _ hp0);have hmB:(zm (B*2^s)).length<=(zm (A*2^s)).length:=qm (Xu _ hge);have hV0:B*2^s≠0:=Yd hb0 oM;have eq1:A/B=A*2^s/(B*2^s):=(Yo _ _ hp0).symm
 have eq2:A%B=A*2^s%(B*2^s)/2^s:=by rw[Yp,Nat.mul_div_cancel _ hp0]
 rw[eq1,eq2];have hlb2:(zm B).length≠0/\(zm B).length≠1:=⟨oM,oM⟩;rw[←hvl]at hvt;clear eq1 eq2 hp0;generalize A*2^s=U at*;generalize B*2^s=V at*;refine⟨Unit,λ_=>⟨[(0,.sl dgE (zm A)),(9,i64 s),(10,.sl dgE (zm V)),(11,.own 0)],[(0,qq (zm U++[0]))],1,148,0⟩,λ_=>True,λ_=>0,(),trivial,?_,?_⟩
 ·exact zf [1]
 rintro⟨⟩ _
 intro hl4;intro hl5;have hll:(zm U++[0]).length=(zm U).length+1:=by simp
 refine⟨λh4=>?_,λ_=>?_⟩
 ·omega
 intro hl6;intro hl7;refine Ar.o ?_;obtain⟨nq,hnq⟩:∃nq:Nat,nq+(zm V).length=(zm U).length+1:=⟨(zm U).length+1-(zm V).length,oM⟩;refine⟨Dig,dgE,0,rfl,Ob.o7 ?_⟩;intro hl8;refine Ar.o ?_;have hVn:V<4294967296^(zm V).length:=zcG (Xk _)
 refine⟨Nat×List Dig×List Dig,λ⟨j,q,u⟩=>⟨[(13,i64 ((j:Int)-1)),(12,.own 1),(11,.own 0),(10,.sl dgE (zm V)),(9,i64 s)],[(1,qq q),(0,qq u)],2,148,0⟩,
  λx=>x.1<=nq/\x.2.1.length=nq/\x.2.2.length=(zm U).length+1/\val (x.2.2.drop x.1)<V/\U=V*(4294967296^x.1*val (x.2.1.drop x.1))+val x.2.2,λx=>x.1,
  (nq,List.replicate nq 0,zm U++[0]),?_,?_,?_⟩
 ·refine⟨Xk _,by simp,hll,?_,?_⟩
  ·dsimp only;have hz:val (zm U++[0])=U:=by rw[vo,zo];rfl
   rw[zjZ,hz];have h1:=zcG (n:=U) (Xk _);have h2:=znV hV0;refine Xw ?_ h2;rw[XS (zdz _),←Ke];refine Xw h1 (XH dC oM)
  dsimp only;rw[z8 (by simp),Ko,Ko,vo,zo];show U=0+(U+_*0);omega
 ·exact zT [0,1] ⟨Xg (λn=>some (i64 n)) (by simp only[Ki];omega),rfl,rfl,rfl,rfl,trivial⟩ ⟨Xg (λn=>some (qq (List.replicate n 0))) oM,rfl,trivial⟩
 rintro⟨j,q,u⟩ ⟨g1,g2,g3,g4,g5⟩
 dsimp only at g1 g2 g3 g4 g5;refine⟨λk1=>?_,λk1=>?_⟩
 ·obtain⟨k,rfl⟩:∃k,j=k+1:=⟨j-1,oM⟩;rw[show(((k+1:Nat):Int)-1)=k by omega];obtain⟨r1,r2,r3,r4⟩:=zxp (k:=k) (n:=(zm V).length) oM oM hVn g4 g5;intro hl9;(iterate 2 refine Ar.o ?_);refine Sl.win (Ob.mk oM ?_);have htl:(u.take k).length=k:=by rw[Xo];omega
  rw[show(((k+1:Nat):Int)-1+((zm V).length:Int)+1-(((k+1:Nat):Int)-1))=(((u.drop k).take ((zm V).length+1)).length:Nat) by rw[r1];omega,
   show(((k+1:Nat):Int)-1)=((u.take k).length:Nat) by omega]
  have hW:(u.drop ((u.take k).length:Int).toNat).take (((u.drop k).take ((zm V).length+1)).length:Int).toNat=(u.drop k).take ((zm V).length+1):=by
   rw[XT,XT,r1,htl]
  obtain⟨post,hpost⟩:∃post,u.drop (k+(zm V).length+1)=post:=⟨_,rfl⟩;obtain⟨pre,hpre⟩:∃pre,u.take k=pre:=⟨_,rfl⟩;rw[hpost,hpre]at r3 r4;rw[hpre]at htl hW;rw[hpre];obtain⟨hgc,_,_⟩:=zmg (U:=(u.drop k).take ((zm V).length+1)) (V:=zm V) r1 oM hvt (by rw[zo];exact r2);rw[zo]at hgc;have cg:=zAx ((u.drop k).take ((zm V).length+1)) (zm V) oM r1 oM hvt (by rw[zo];exact r2);generalize zhu ((u.drop k).take ((zm V).length+1)) (zm V)=g at hgc cg;rw[←hW]at cg;refine zb.t cg ?_;clear cg hW
  generalize (u.drop k).take ((zm V).length+1)=W at*;have hD:val W/V<4294967296:=by rw[XS oM];exact r2
  have hpn:4294967296^((zm V).length+1)=4294967296^(zm V).length*4294967296:=XU ..;obtain⟨m1,m2,m3⟩:=zAz (Bn:=4294967296^((zm V).length+1)) hgc (X9 hV0) oM;have hmod:=Kk (val W) (X9 hV0);have ct:=zDj pre W post (zm V) g r1 oM;rw[←r3,zo]at ct
  have htw:zpR W (zm V) g=yb ((zm V).length+1) (if val W<g*V then val W%V+4294967296^((zm V).length+1)-V else val W%V):=by
   unfold zpR;rw[zo,r1,m1]
  rw[htw]at ct;clear htw m1;refine zb.hand 0 _ _ _ rfl ct (qP _) (qP _) rfl rfl ?_;clear ct hgc;generalize val W/V=D at*;generalize val W%V=R at*;have hul2:u.length=pre.length+(W.length+post.length):=by rw[r3];simp
  refine⟨λk2=>?_,λk2=>?_⟩
  ·have hg:=m2 k2;rw[Xe k2];refine Ar.o ?_;intro hl10;obtain⟨w0,hw0⟩:∃w0,yb ((zm V).length+1) (R+4294967296^((zm V).length+1)-V)=w0:=⟨_,rfl⟩;have hw0l:w0.length=(zm V).length+1:=by rw[←hw0,yq]
   have hw0v:val w0=R+4294967296^((zm V).length+1)-V:=by rw[←hw0];exact ztw oM
   rw[hw0]
   refine⟨Nat×List Dig×Nat,λ⟨i,w,c⟩=>⟨[(105,i64 i),(104,i64 (zm V).length),(103,.sl dgE (zm V)),(16,u64 c),(15,u64 ((g:Int)-1)),(14,.win 0 1 (pre.length:Nat) (W.length:Nat)),(13,i64 (pre.length:Nat)),(12,.own 1),(11,.own 0),(10,.sl dgE (zm V)),(9,i64 s)],
     [(1,qq q),(0,qq (pre++(w++post)))],2,148,0⟩,
    λx=>x.1<=(zm V).length/\x.2.1.length=(zm V).length+1/\x.2.2<=1/\(∀j,x.1<=j->dig x.2.1 j=dig w0 j)/\val (x.2.1.take x.1)+4294967296^x.1*x.2.2=val (w0.take x.1)+val ((zm V).take x.1),
    λx=>(zm V).length-x.1,(0,w0,0),?_,?_,?_⟩
   ·exact⟨Xh _,hw0l,Xh _,λ_ _=>rfl,by simp[val]⟩
   ·exact zT [0,1] ⟨rfl,rfl,rfl,rfl,rfl,rfl,Xg (λn=>some (i64 n)) oM,rfl,rfl,rfl,rfl,trivial⟩ ⟨rfl,rfl,trivial⟩
   rintro⟨i,w,c⟩ ⟨f1,f2,f3,f4,f5⟩
   dsimp only at f1 f2 f3 f4 f5;have hlw:(pre++(w++post)).length=pre.length+(zm V).length+1+post.length:=by simp[f2];omega
   refine⟨λk3=>?_,λk3=>?_⟩
   ·refine Ob.o ?_;intro y hy;have hy:(zm V)[i]?=some y:=hy;have dy:=zU hy;have hyl:=y.isLt;refine Ob.o6<|Ob.mk (by rw[hlw];omega) ?_;intro z hz;have hz:w[i]?=some z:=by rw[←ziW (pre:=pre) (post:=post) oM,←hz];congr 1
    have dz:=zU hz;have hzl:=z.isLt;(iterate 4 refine Ar.o ?_);refine Ar.wrap<|Ob.o6<|Ob.mk (by rw[hlw];omega) ?_;intro z' hz';refine⟨dof (c+(z.val+y.val)),Xg (λn=>[u32 n]) (by rw[zbe rfl];simp),?_⟩;refine Ob.o1<|Ar.o ?_
    refine⟨(i+1,w.set i (dof (c+(z.val+y.val))),(c+(z.val+y.val))/4294967296),⟨by dsimp only;omega,by simp[f2],by dsimp only;omega,λj hj=>?_,?_⟩,
     qI [(0,some 0),(1,some 1)] rfl rfl rfl ⟨rfl,rfl,rfl,Xg (λn=>some (u64 n)) (by simp only[Int.reducePow];omega),rfl,rfl,rfl,rfl,rfl,rfl,rfl,trivial⟩
      ⟨rfl,Xg (λl=>some (qq l)) (by rw[←ziX oM];congr 1),trivial⟩,by dsimp only;omega⟩
    ·dsimp only at hj ⊢;rw[jQ,Xc oM];exact f4 j oM
    dsimp only;rw[zQ,zQ,zQ,XU,dy,jQ,Xe ⟨rfl,oM⟩,ky,←f4 i (Xk _),dz];have ht:(w.set i (dof (c+(z.val+y.val)))).take i=w.take i:=by rw[Q5 oM]
    rw[ht];have hd:=X7 (c+(z.val+y.val)) 4294967296;exact zDo f5 hd
   have hi:i=(zm V).length:=by omega
   subst hi;intro hl11;refine Ob.o6<|Ob.mk (by rw[hlw];omega) ?_;intro z hz;have hz:w[(zm V).length]?=some z:=by rw[←ziW (pre:=pre) (post:=post) oM,←hz];congr 1
   have dz:=zU hz;have hzl:=z.isLt;refine Ar.o<|Ar.wrap<|Ob.o6<|Ob.mk (by rw[hlw];omega) ?_;intro z' hz';refine⟨dof (z.val+c),Xg (λn=>[u32 n]) (by rw[zbe rfl];simp),?_⟩
   have hw2:w.set (zm V).length (dof (z.val+c))=yb ((zm V).length+1) R:=by
    rw[←ztv (w.set _ _),XV,f2];congr 1;have e1:=kT w0 (zm V).length;have e3:=zG w0 (zm V).length;rw[z8 (show w0.length<=(zm V).length+1 by omega),Ko,XQ]at e3;rw[e3,hw0v,hpn,←f4 _ (Xk _),dz]at e1;rw[kU (Xk (zm V).length),zo]at f5;have g2:=kT (w.set (zm V).length (dof (z.val+c))) (zm V).length;have g3:=zG (w.set (zm V).length (dof (z.val+c))) (zm V).length;have g0:val ((w.set (zm V).length (dof (z.val+c))).drop ((zm V).length+1))=0:=z8 (by rw[XV];omega)
    rw[g0,Ko,XQ,jQ,Xe ⟨rfl,oM⟩,ky]at g3;rw[g3,Q5 (Xk _)]at g2;rw[g2];obtain⟨n1,n2⟩:=zAA (R:=R) (qR w (zm V).length) hzl f3 (by rw[KF];omega);rw[n1,n2];rfl
   have hset:(pre++(w++post)).set (pre.length+(zm V).length) (dof (z.val+c))=pre++(yb ((zm V).length+1) R++post):=by
    rw[ziX oM,hw2]
   obtain⟨e1,e2⟩:=r4 _ rfl (dof D) (by rw[ky,Xy hD]);refine Ar.o<|Ob.o<|Ob.o ?_;intro z2 hz2;refine⟨dof D,Xg (λn=>[u32 n]) (by rw[ky,Xy hD];omega),?_⟩;refine Ar.o ?_
   refine⟨(k,q.set k (dof D),pre++(yb ((zm V).length+1) R++post)),⟨by dsimp only;omega,by simp[g2],by simp[yq];omega,e1,e2⟩,
    zT [0,1] ⟨Xg (λn=>some (i64 n)) oM,rfl,rfl,rfl,rfl,trivial⟩ ⟨Xg (λn=>some (qq (q.set n _))) oM,Xg (λl=>some (qq l)) (by rw[←hset];congr 1),trivial⟩,by dsimp only;omega⟩
  have hg:=m3 k2;rw[Xc k2];obtain⟨e1,e2⟩:=r4 _ rfl (dof D) (by rw[ky,Xy hD]);refine Ar.o<|Ob.o<|Ob.o ?_;intro z2 hz2;refine⟨dof D,Xg (λn=>[u32 n]) (by rw[ky,Xy hD];omega),?_⟩;refine Ar.o ?_
  refine⟨(k,q.set k (dof D),pre++(yb ((zm V).length+1) R++post)),⟨by dsimp only;omega,by simp[g2],by simp[yq];omega,e1,e2⟩,
   zT [0,1] ⟨Xg (λn=>some (i64 n)) oM,rfl,rfl,rfl,rfl,trivial⟩ ⟨Xg (λn=>some (qq (q.set n _))) oM,rfl,trivial⟩,by dsimp only;omega⟩
 have hj:j=0:=by omega
 subst hj;rw[KZ]at g4 g5;rw[Jn,Yu]at g5;refine zb.see 1 _ (jr _ oM) rfl rfl rfl<|Ar.o<|zb.see 0 _ (zDm u s oM oM) rfl rfl rfl ?_
 have e1:val q=U/V:=by
  rw[g5,Qz oM,Kh g4,XQ]
 have e2:val u=U%V:=by
  rw[g5,QA,Xy g4]
 exact zbP (.cons (z0 (by rw[e1])) (.cons (z0 (by rw[e2])) (.C .nil)))
def n_gcd(a b:List Dig)(ha:a.length<=400000000)(hb:b.length<=400000000):
  CG0 388 [.sl dgE a,.sl dgE b] [] (.sl dgE (zm (Nat.gcd (val a) (val b)))) []:=by
 refine zc Tryz.func388 ?_;refine zb.t (zad _ oM)<|zb.t (zad _ oM) ?_;have hla:=zJ a;have hlb:=zJ b
 refine⟨Nat×Nat,λ⟨A,B⟩=>⟨[(0,.sl dgE (zm A)),(1,.sl dgE (zm B))],[],0,25,0⟩,
  λx=>(zm x.1).length<=400000000/\(zm x.2).length<=400000000/\Nat.gcd x.1 x.2=Nat.gcd (val a) (val b),λx=>x.2,(val a,val b),?_,?_,?_⟩
 ·exact⟨by dsimp only;omega,by dsimp only;omega,rfl⟩
 ·exact zC []
 rintro⟨A,B⟩ ⟨h1,h2,h3⟩
 dsimp only at h1 h2 h3;intro hl;refine⟨λk=>?_,λk=>?_⟩
 ·have hB:B≠0:=jy.1 oM;refine zb.t (zj8 (zm A) (zm B) oM oM (by rw[zo];exact hB)) ?_;rw[zo,zo];have hm:=Kk A (X9 hB);refine⟨(B,A%B),⟨h2,XC (qm (YA hm)) h2,?_⟩,zC [],hm⟩;dsimp only;rw[←h3,QV B,QV A B,Nat.gcd_rec B A]
 have hB:B=0:=yF.1 (XM.1 oM);subst hB;rw[Nat.gcd_zero_right]at h3;exact z0 (by rw[h3])
def ze6(p:Prop)[i:Decidable p](m:List Dig)(hm:m.length<=1000000000):
  CG0 380 [.pr p i,.sl dgE m] [] (.agg (biE (ofZ (if p then-(val m:Int) else val m)))) []:=by
 refine zc Tryz.func380 ?_;refine zb.t (zad m hm) ?_;have hd:=jy (n:=val m);refine⟨λh=>?_,λh=>?_⟩
 ·intro hl;refine ji (.cons (zE ?_) (.cons (z0 ?_) .nil))
  ·rw[zaM,Xe h];omega
  rw[jR,Xe h];congr 1;omega
 refine ji (.cons (zd ?_) (.cons (z0 ?_) .nil))
 ·rw[zaM,Xc h];omega
 rw[jR,Xc h];congr 1
def zDp(m:List Dig)(hm:m.length<=1000000000):CG0 380 [bl true,.sl dgE m] [] (.agg (biE (ofZ (-(val m:Int))))) []:=by
 have h:=(ze6 True m hm).args (.cons (zI trivial) LEs.refl)
 rwa [Xe trivial]at h
def zxq(m:List Dig)(hm:m.length<=1000000000):CG0 380 [bl false,.sl dgE m] [] (.agg (biE (ofZ (val m:Int)))) []:=by
 have h:=(ze6 False m hm).args (.cons (zd not_false) LEs.refl)
 rwa [Xc not_false]at h
def zxr(a:BI)(hm:a.mag.length<=1000000000):
  CG0 380 [pr (a.neg=true),.sl dgE a.mag] [] (.agg (biE (ofZ a.v))) []:=ze6 (a.neg=true) a.mag hm
def zes(n:Int)(hn:R64 n):CG0 323 [i64 n] [] (.agg (biE (ofZ n))) []:=by
 refine zc Tryz.func323 ?_;refine⟨λh=>?_,λh=>?_⟩
 ·refine Ar.wrap<|Ar.wrap ?_;have e:IntKind.u64.wrap (-IntKind.u64.wrap n)=((n.natAbs:Nat):Int):=by rw[yk,yk];omega
  rw[e];refine zb.t (zeq n.natAbs oM)<|zb.t (zDp (zm n.natAbs) (by have:=jj hn;unfold jk at this;omega)) ?_;rw[zo,show(-(n.natAbs:Int))=n by omega];exact .refl
 refine Ar.wrap ?_;have e:IntKind.u64.wrap n=((n.natAbs:Nat):Int):=by rw[yk];omega
 rw[e];refine zb.t (zeq n.natAbs oM)<|zb.t (zxq (zm n.natAbs) (by have:=jj hn;unfold jk at this;omega)) ?_;rw[zo,show(n.natAbs:Int)=n by omega];exact .refl
def zj9(a:BI)(ha:a.mag.length<=900000000):CG0 382 [.agg (biE a)] [] (i64 a.v.sign) []:=by
 refine zc Tryz.func382 ?_;refine zb.t (zpT a.mag ha) ?_;have h1:=zb1 (n:=val a.mag);have h2:=a.v_eq;refine⟨λh=>?_,λh=>?_⟩
 ·have:a.v=0:=by omega
  exact ze (by rw[this];rfl)
 refine⟨λh3=>?_,λh3=>?_⟩
 ·refine ze (Kg ?_).symm
  obtain⟨e1,e2⟩|⟨e1,e2⟩:=h2
  ·omega
  rw[e1]at h3;cases h3
 refine ze (Kn ?_).symm
 obtain⟨e1,e2⟩|⟨e1,e2⟩:=h2
 ·exact absurd e1 h3
 omega
def z_neg(a:BI)(ha:a.mag.length<=1000000000):CG0 448 [.agg (biE a)] [] (.agg (biE (ofZ (-a.v)))) []:=by
 refine zc Tryz.func448 ?_;refine zb.t (ze6 (¬a.neg=true) a.mag ha) ?_
 have:(if¬a.neg=true then-(val a.mag:Int) else(val a.mag:Int))= -a.v:=by
  obtain⟨h1,h2⟩|⟨h1,h2⟩:=a.v_eq <;> simp[h1,h2]
 rw[this];exact .refl
def zCr(a b:BI)(ha:a.mag.length<=800000000)(hb:b.mag.length<=800000000):CG0 329 [.agg (biE a),.agg (biE b)] [] (.agg (biE (ofZ (a.v+b.v)))) []:=by
 refine zc Tryz.func329 ?_;refine⟨λh=>?_,λh=>?_⟩
 ·refine Dr.k<|zb.t (zCp a.mag b.mag oM oM) ?_;have hl:=zb4 ha hb;refine zb.t (ze6 (a.neg=true) _ oM) ?_
  have:(if a.neg=true then-(val (zm (val a.mag+val b.mag)):Int) else(val (zm (val a.mag+val b.mag)):Int))=a.v+b.v:=by
   rw[zo]
   obtain⟨h1,h2⟩|⟨h1,h2⟩:=a.v_eq <;> obtain⟨h3,h4⟩|⟨h3,h4⟩:=b.v_eq <;> simp[h1,h3]at h <;> simp[h1,h2,h4] <;> omega
  rw[this];exact .refl
 refine zb.t (zCq a.mag b.mag oM oM) ?_;have hl:(zm (val a.mag-val b.mag)).length<=1000000000:=XC (qm (Yz _ _)) (XC (zJ _) oM);have hl2:(zm (val b.mag-val a.mag)).length<=1000000000:=XC (qm (Yz _ _)) (XC (zJ _) oM);refine⟨λh2=>?_,λh2=>?_⟩
 ·refine zb.t (ze6 (a.neg=true) _ hl) ?_
  have:(if a.neg=true then-(val (zm (val a.mag-val b.mag)):Int) else(val (zm (val a.mag-val b.mag)):Int))=a.v+b.v:=by
   rw[zo]
   obtain⟨h1,h2⟩|⟨h1,h2⟩:=a.v_eq <;> obtain⟨h3,h4⟩|⟨h3,h4⟩:=b.v_eq <;> simp[h1,h3]at h <;> simp[h1,h2,h4] <;> omega
  rw[this];exact .refl
 refine zb.t (zCq b.mag a.mag oM oM)<|zb.t (ze6 (b.neg=true) _ hl2) ?_
 have:(if b.neg=true then-(val (zm (val b.mag-val a.mag)):Int) else(val (zm (val b.mag-val a.mag)):Int))=a.v+b.v:=by
  rw[zo]
  obtain⟨h1,h2⟩|⟨h1,h2⟩:=a.v_eq <;> obtain⟨h3,h4⟩|⟨h3,h4⟩:=b.v_eq <;> simp[h1,h3]at h <;> simp[h3,h2,h4] <;> omega
 rw[this];exact .refl
def zR(z:Int):(ofZ z).mag.length=jk z:=rfl
def zpU(a b:BI)(ha:a.mag.length<=800000000)(hb:b.mag.length<=800000000):CG0 387 [.agg (biE a),.agg (biE b)] [] (.agg (biE (ofZ (a.v-b.v)))) []:=by
 refine zc Tryz.func387 ?_;refine Dr.k<|zb.t (z_neg b oM) ?_;have h1:=zau b;refine zb.t (zCr a (ofZ (-b.v)) oM (by rw[zR,zac];omega)) ?_;rw[zY,←Q9];exact .refl
def zik(a b:BI)(ha:a.mag.length<=400000000)(hb:b.mag.length<=400000000):CG0 379 [.agg (biE a),.agg (biE b)] [] (.agg (biE (ofZ (a.v*b.v)))) []:=by
 refine zc Tryz.func379 ?_;refine Dr.k<|zb.t (n_mul a.mag b.mag ha hb) ?_
 have hl:(zm (val a.mag*val b.mag)).length<=1000000000:=by
  refine XC (jL (k:=a.mag.length+b.mag.length) ?_) oM;rw[Ke];exact Qa (q9 _) (q9 _)
 refine zb.t (ze6 (¬(a.neg=true↔b.neg=true)) _ hl) ?_;rw[zo,zCn];exact .refl
def zpV(a:BI)(ha:a.mag.length<=900000000):CG0 320 [.agg (biE a)] [] (i64 (kA a.v.natAbs)) []:=by
 refine zc Tryz.func320 ?_;refine zb.t (zpT a.mag ha) ?_;rw[←a.v_abs];exact .refl
def zxs{a b:Int}(hb:0<b):a/b=if a<0 then-((a.natAbs/b.natAbs+(if a.natAbs%b.natAbs=0 then 0 else 1):Nat):Int) else((a.natAbs/b.natAbs:Nat):Int):=by
 have hdm:=X7 a.natAbs b.natAbs;have hm:=Kk a.natAbs (show b.natAbs > 0 by omega);generalize a.natAbs/b.natAbs=q at*;generalize a.natAbs%b.natAbs=r at*;have e:(b:Int)*(q:Int)=((b.natAbs*q:Nat):Int):=by rw[X1];congr 1;omega
 by_cases h:a<0
 ·rw[Xe h]
  by_cases h0:r=0
  ·rw[Xe h0,XQ];exact((Qf hb).2 ⟨(by rw[QR,e];omega:(0:Int)+b*(-(q:Int))=a),oM,hb⟩).1
  rw[Xc h0];exact((Qf hb (r:=b-r)).2 ⟨by rw[QR,QK,Jb,e];omega,oM,oM⟩).1
 rw[Xc h];exact((Qf hb (r:=r)).2 ⟨by rw[e];omega,oM,oM⟩).1
def zka(p:Prop)[i:Decidable p]:CG0 386 [.pr p i] [] (.fn 447 [.loc 0 0]) [(0,.box 4 [.pr p i])]:=by
 exact qE tok mix Tryz.func386 rfl rfl rfl<|⟨some 0,zAp (.cons (.loc 0 0 rfl) .nil),rfl,rfl⟩
def zhv(p:Prop)[i:Decidable p](m:List Dig)(hm:m.length<=1000000000):
  CG0 447 [.sl dgE m,.ptr [.pr p i]] [] (.agg (biE (ofZ (if p then-(val m:Int) else val m)))) []:=by
 refine zc Tryz.func447 ?_;exact zb.t (ze6 p m hm)<|.refl
def zxt(a b:BI)(ha:a.mag.length<=200000000)(hb:b.mag.length<=200000000)(h0:0<b.v):
  CG0 326 [.agg (biE a),.agg (biE b)] [] (.tup [.agg (biE (ofZ (a.v/b.v))),.agg (biE (ofZ (a.v%b.v))),i64 0]) []:=by
 refine zc Tryz.func326 ?_;refine Dr.k<|zb.t (zxr a oM)<|zb.t (zxr b oM) ?_;have la:=zau a;have lb:=zau b;refine zb.t (zj8 (zm a.v.natAbs) (zm b.v.natAbs) (by unfold jk at la;omega) (by unfold jk at lb;omega) (by rw[zo];omega)) ?_;rw[zo,zo];refine⟨λh=>absurd rfl h,λ_=>?_⟩;have hza:=zaM a.v;have hzb:=zaM b.v;have hq:=zxs (a:=a.v) h0;have hm:=Int.emod_def a.v b.v
 have zq:jk (a.v/b.v)<=jk a.v:=zb3 (by
  have:=Q0 a.v b.v
  exact this)
 have zp:=k7 (a.v/b.v) b.v;have neg1:a.v<0->¬((ofZ a.v).neg=true↔(ofZ b.v).neg=true):=λh=>by rw[hza,hzb];omega
 have neg2:¬a.v<0->¬¬((ofZ a.v).neg=true↔(ofZ b.v).neg=true):=λh=>by rw[hza,hzb];omega
 have q1:(zm (a.v.natAbs/b.v.natAbs)).length<=200000000:=XC (qm (K3 _ _)) (by unfold jk at la;omega);refine⟨λh1=>?_,λh1=>?_⟩
 ·have hneg:a.v<0:=XN λh=>neg2 h h1
  intro hl;refine⟨λh2=>?_,λh2=>?_⟩
  ·have hr:a.v.natAbs%b.v.natAbs≠0:=jy.1 oM;refine zb.t (zeq 1 dC)<|zb.t (zCp _ _ oM (by decide +kernel)) ?_;rw[zo,zo];rw[Xe hneg,Xc hr]at hq;have ql:=zb4 (a:=zm (a.v.natAbs/b.v.natAbs)) (b:=zm 1) q1 (by decide +kernel);rw[zo,zo]at ql;refine zb.fresh _ _ (zka (¬((ofZ a.v).neg=true↔(ofZ b.v).neg=true))) rfl rfl (.inr rfl)<|zb.t (zhv _ (zm (a.v.natAbs/b.v.natAbs+1)) oM) ?_;rw[zo,Xe h1,←hq];refine Dr.k<|zb.t (zik (ofZ (a.v/b.v)) (ofZ b.v) (by rw[zR];omega) (by rw[zR];omega)) ?_
   refine zb.t (zpU (ofZ a.v) (ofZ ((ofZ (a.v/b.v)).v*(ofZ b.v).v)) (by rw[zR];omega) (by rw[zR,zY,zY];omega)) ?_;rw[zY,zY,zY,zY,QT (a.v/b.v),←hm];exact .refl
  have hr:a.v.natAbs%b.v.natAbs=0:=yF.1 (XM.1 oM);rw[Xe hneg,Xe hr,XQ]at hq;refine zb.fresh _ _ (zka (¬((ofZ a.v).neg=true↔(ofZ b.v).neg=true))) rfl rfl (.inr rfl)<|zb.t (zhv _ (zm (a.v.natAbs/b.v.natAbs)) oM) ?_;rw[zo,Xe h1,←hq];refine Dr.k<|zb.t (zik (ofZ (a.v/b.v)) (ofZ b.v) (by rw[zR];omega) (by rw[zR];omega))<|zb.t (zpU (ofZ a.v) (ofZ ((ofZ (a.v/b.v)).v*(ofZ b.v).v)) (by rw[zR];omega) (by rw[zR,zY,zY];omega)) ?_;rw[zY,zY,zY,zY,QT (a.v/b.v),←hm]
  exact .refl
 have hneg:¬a.v<0:=λh=>h1 (neg1 h)
 rw[Xc hneg]at hq;refine zb.fresh _ _ (zka (¬((ofZ a.v).neg=true↔(ofZ b.v).neg=true))) rfl rfl (.inr rfl)<|zb.t (zhv _ (zm (a.v.natAbs/b.v.natAbs)) oM) ?_;rw[zo,Xc h1,←hq];refine Dr.k<|zb.t (zik (ofZ (a.v/b.v)) (ofZ b.v) (by rw[zR];omega) (by rw[zR];omega))<|zb.t (zpU (ofZ a.v) (ofZ ((ofZ (a.v/b.v)).v*(ofZ b.v).v)) (by rw[zR];omega) (by rw[zR,zY,zY];omega)) ?_;rw[zY,zY,zY,zY,QT (a.v/b.v),←hm];exact .refl
def zty(a:BI)(ha:a.mag.length<=1000000000):
  CG0 260 [.agg (biE a)] [] (.tup [i64 (yZ a.v),pr (-9223372036854775808<=a.v/\a.v<=9223372036854775807)]) []:=by
 refine zc Tryz.func260 ?_;refine zb.t (zad a.mag ha) ?_;have hl0:=zJ a.mag;have hv:=a.v_eq;generalize hz:a.v=z at*;have hv':z= -(val a.mag:Int)∨z=(val a.mag:Int):=hv.imp YD YD
 have bad:¬(-9223372036854775808<=z/\z<=9223372036854775807)->LE (.tup [i64 0,bl false]) (.tup [i64 (yZ z),pr (-9223372036854775808<=z/\z<=9223372036854775807)]):=λh=>
  zM (ze (by rw[yZ,Xc h])) (zd h)
 have good:∀n:Int,n=z-> -9223372036854775808<=z/\z<=9223372036854775807->LE (.tup [i64 n,bl true]) (.tup [i64 (yZ z),pr (-9223372036854775808<=z/\z<=9223372036854775807)]):=λn hn h=>
  zM (ze (by rw[yZ,Xe h,hn])) (zI h)
 obtain⟨m,hm⟩:∃m,zm (val a.mag)=m:=⟨_,rfl⟩;have hmv:val m=val a.mag:=by rw[←hm,zo]
 have hbig:2<m.length->18446744073709551616<=val a.mag:=λh=>by
  have h0:val a.mag≠0:=jy.1 (by rw[hm];omega);have:=znV h0;rw[hm]at this;exact XC (XC dC (XH dC (show 2<=m.length-1 by omega))) this
 rw[hm];rw[hm]at hl0;intro hl1;refine Ar.o ?_
 refine⟨Nat,λj=>⟨[(6,i64 ((j:Int)-1)),(5,u64 (val (m.drop j))),(4,.sl dgE m),(1,.loc 0 0)],[(0,.box 34 (biE a))],1,55,0⟩,
  λj=>j<=m.length/\(j<m.length->m.length<=2),λj=>j,m.length,?_,?_,?_⟩
 ·exact⟨Xk _,λh=>absurd h (Yy _)⟩
 ·exact zT [0] ⟨rfl,Xg (λn=>some (u64 n)) (by rw[z8 (Xk _)];rfl),rfl,rfl,trivial⟩ ⟨rfl,trivial⟩
 rintro j ⟨h1,h2⟩
 refine⟨λh3=>?_,λh3=>?_⟩
 ·intro hl2;refine⟨λh4=>?_,λh4=>?_⟩
  ·have hd:=zG m (j-1);rw[show j-1+1=j by omega]at hd
   have hdl:val (m.drop j)<4294967296:=by
    have:=q9 (m.drop j);rw[Kw]at this;exact Xw this (XC (XH dC (show m.length-j<=1 by omega)) dC)
   refine Ob.o1<|Ar.fit (by simp only[Int.reducePow];omega)<|Ob.o ?_;intro x hx;rw[show((j:Int)-1).toNat=j-1 by omega]at hx;have dx:=zU hx;have hxl:=x.isLt;refine Ar.o<|⟨_,(zgo (x:=val (m.drop j)) (y:=x.val) hdl hxl rfl).symm,?_⟩;exact Ar.o<|⟨j-1,⟨oM,λ_=>by omega⟩,zT [0] ⟨Xg (λn=>some (i64 n)) oM,Xg (λn=>some (u64 n)) (by rw[hd,dx];omega),rfl,rfl,trivial⟩ ⟨rfl,trivial⟩,by dsimp only;omega⟩
  intro hl3;have:=hbig oM;refine⟨λ_=>?_,λh=>absurd h oM⟩;exact bad oM
 have hj:j=0:=by omega
 subst hj;have hd0:val (m.drop 0)=val a.mag:=by rw[KZ,hmv]
 intro hl3
 have hv2:¬2<m.length->val a.mag<18446744073709551616:=λh=>by
  have:=q9 m;rw[hmv]at this;exact Xw this (XC (XH dC (show m.length<=2 by omega)) dC)
 refine⟨λh=>?_,λh=>?_⟩
 ·have:=hbig oM;exact bad oM
 have hs:=hv2 oM;have negz:a.neg=true->z= -(val a.mag:Int):=λh=>hv.elim YD λg=>by rw[h]at g;cases g.1
 have posz:¬a.neg=true->z=(val a.mag:Int):=λh=>hv.elim (λg=>absurd g.1 h) YD
 have hneg:a.neg=true->val a.mag<=9223372036854775808->IntKind.i64.wrap (IntKind.u64.wrap (-(val (m.drop 0):Int)))=z:=λh hle=>by
  have:=negz h;rw[hd0,yk];show IntKind.i64.wrap _=_;simp only[IntKind.wrap,IntKind.bits,IntKind.signed];simp;omega
 refine⟨λg1=>bad oM,λg1=>?_⟩;refine⟨λg2=>?_,λg2=>?_⟩
 ·refine⟨λg3=>bad ?_,λg3=>?_⟩
  ·have:=posz g3;omega
  have hn:a.neg=true:=XN g3;have:=negz hn;refine⟨λ_=>?_,λg4=>absurd hn g4⟩;exact Ar.wrap<|Ar.wrap<|good _ (hneg hn oM) oM
 refine⟨λg4=>?_,λg4=>?_⟩
 ·have:=negz g4;exact Ar.wrap<|Ar.wrap<|good _ (hneg g4 oM) oM
 have:=posz g4;exact Ar.o<|good _ oM oM
structure BR where
 num:BI
 den:BI
 deriving DecidableEq
def BR.v(a:BR):Rat:=Rat.divInt a.num.v a.den.v
def ofQ(q:Rat):BR:=⟨ofZ q.num,ofZ q.den⟩
def kv(q:Rat):(ofQ q).v=q:=by unfold BR.v ofQ;rw[zY,zY,Qd]
def BR.len(a:BR):Nat:=max a.num.mag.length a.den.mag.length
def yS(q:Rat):Nat:=max (jk q.num) (jk q.den)
def zF(q:Rat):(ofQ q).len=yS q:=rfl
def zkb{n d:Int}(hd:d≠0):(if n.sign*d.sign<0 then-((n.natAbs/Nat.gcd n.natAbs d.natAbs:Nat):Int) else((n.natAbs/Nat.gcd n.natAbs d.natAbs:Nat):Int))=(Rat.divInt n d).num:=by
 have hg0:0<Nat.gcd n.natAbs d.natAbs:=Q7 _ oM;rw[Rat.num_divInt,show d.gcd n=Nat.gcd n.natAbs d.natAbs from QV _ _];obtain⟨k,hk⟩:((Nat.gcd n.natAbs d.natAbs:Nat):Int) ∣ n:=Int.ofNat_dvd_left.2 (Nat.gcd_dvd_left _ _);generalize Nat.gcd n.natAbs d.natAbs=g at*;have e1:n.natAbs/g=k.natAbs:=by rw[hk,QF,QJ,Nat.mul_div_cancel_left _ hg0]
 have e2:d.sign*n/(g:Int)=d.sign*k:=by
  rw[hk,←JW,QT d.sign,JW,Int.mul_ediv_cancel_left _ oM]
 have e3:n.sign=k.sign:=by rw[hk,Int.sign_mul,Kn oM,JT]
 rw[e1,e2,e3]
 rcases K9 d 0 with h|h|h
 ·rw[Kg h]
  rcases K9 k 0 with h'|h'|h'
  ·rw[Kg h',Xc dC];omega
  ·subst h';rw[Xc dC];rfl
  rw[Kn h',Xe dC];omega
 ·exact absurd h hd
 rw[Kn h]
 rcases K9 k 0 with h'|h'|h'
 ·rw[Kg h',Xe dC];omega
 ·subst h';rw[Xc dC];rfl
 rw[Kn h',Xc dC];omega
def zkc{n d:Int}(hd:d≠0):(Rat.divInt n d).den=d.natAbs/Nat.gcd n.natAbs d.natAbs:=by
 rw[Rat.den_divInt,Xc hd,show d.gcd n=Nat.gcd n.natAbs d.natAbs from QV _ _]
def zdF{n d:Int}(hd:d≠0):yS (Rat.divInt n d)<=max (jk n) (jk d):=by
 have h1:jk (Rat.divInt n d).num<=jk n:=zb3 (by
  rw[←zkb hd];have:=K3 n.natAbs (Nat.gcd n.natAbs d.natAbs);generalize n.natAbs/Nat.gcd n.natAbs d.natAbs=x at*
  split <;> omega)
 have h2:jk (Rat.divInt n d).den<=jk d:=zb3 (by
  rw[zkc hd];have:=K3 d.natAbs (Nat.gcd n.natAbs d.natAbs);generalize d.natAbs/Nat.gcd n.natAbs d.natAbs=x at*
  omega)
 unfold yS;omega
def qt(q:Rat):jk q.num<=yS q:=Q8 _ _
def qM(q:Rat):jk q.den<=yS q:=QW _ _
def zO(a:BR):yS a.v<=max a.len 1:=by
 by_cases h:a.den.v=0
 ·have:a.v=0:=by unfold BR.v;rw[h,Yf]
  rw[this];have:yS 0<=1:=by decide +kernel
  omega
 have:=zdF (n:=a.num.v) h;have h1:=zau a.num;have h2:=zau a.den;unfold BR.len BR.v;omega
def zhw(q:Rat):(q.den:Int)≠0:=by have:=q.den_nz;omega
def zkd(x y:Rat):Rat.divInt (x.num*y.den+y.num*x.den) (x.den*y.den)=x+y:=by
 have:=Yr x.num y.num (zhw x) (zhw y);rw[Qd,Qd]at this;exact this.symm
def zke(x y:Rat):Rat.divInt (x.num*y.num) (x.den*y.den)=x*y:=by
 have:=Rat.divInt_mul_divInt x.num y.num (d₁:=x.den) (d₂:=y.den);rw[Qd,Qd]at this;exact this.symm
def zxu(x y:Rat):Rat.divInt (x.num*y.den-y.num*x.den) (x.den*y.den)=x-y:=by
 have:=Yr x.num (-y.num) (zhw x) (zhw y);rw[Qd,←Rat.neg_divInt,Qd,Int.neg_mul,←Q9]at this;rw[←this,JP]
def uW(x y:Rat):(x.den:Int)*(y.den:Int)≠0:=Int.mul_ne_zero (zhw x) (zhw y)
def zbf(x y:Rat):yS (x+y)<=yS x+yS y+1:=by
 rw[←zkd];have h:=zdF (n:=x.num*y.den+y.num*x.den) (uW x y);have h1:=zgn (x.num*y.den) (y.num*x.den);have h2:=k7 x.num y.den;have h3:=k7 y.num x.den;have h4:=k7 x.den y.den;have a1:=qt x;have a2:=qt y;have a3:=qM x;have a4:=qM y;omega
def yH(x y:Rat):yS (x*y)<=yS x+yS y:=by
 rw[←zke];have h:=zdF (n:=x.num*y.num) (uW x y);have h2:=k7 x.num y.num;have h4:=k7 x.den y.den;have a1:=qt x;have a2:=qt y;have a3:=qM x;have a4:=qM y;omega
def zdG(z:Int):yS z<=max (jk z) 1:=by
 unfold yS;rw[Yg,Ye];have:jk ((1:Nat):Int)=1:=by decide +kernel
 omega
def brE(a:BR):List SV:=biE a.num++biE a.den
def zmh(a:BI)(g:List Dig)(ha:a.mag.length<=400000000)(hg:g.length<=400000000)(h0:val g≠0):
  CG0 389 [.agg (biE a),.ptr [.sl dgE g]] [] (.sl dgE (zm (val a.mag/val g))) []:=by
 refine zc Tryz.func389 ?_;exact zb.t (zj8 a.mag g ha hg h0)<|.refl
def zgp(n d:BI)(hn:n.mag.length<=400000000)(hd:d.mag.length<=400000000)(h0:d.v≠0):
  CG0 328 [.agg (biE n),.agg (biE d)] [] (.agg (brE (ofQ (Rat.divInt n.v d.v)))) []:=by
 refine zc Tryz.func328 ?_;refine zb.t (n_gcd n.mag d.mag hn hd) ?_;have e1:=zkb (n:=n.v) h0;have e2:=zkc (n:=n.v) h0;rw[n.v_abs,d.v_abs]at e1 e2;have hdz:val d.mag≠0:=by rw[←d.v_abs];omega
 have hg0:0<Nat.gcd (val n.mag) (val d.mag):=Q7 _ oM
 have hgl:(zm (Nat.gcd (val n.mag) (val d.mag))).length<=400000000:=by
  refine XC (qm (Nat.gcd_le_right _ oM)) (XC (zJ _) hd)
 have l1:(zm (val n.mag/Nat.gcd (val n.mag) (val d.mag))).length<=1000000000:=XC (qm (K3 _ _)) (XC (zJ _) oM);have l2:(zm (val d.mag/Nat.gcd (val n.mag) (val d.mag))).length<=1000000000:=XC (qm (K3 _ _)) (XC (zJ _) oM);generalize Nat.gcd (val n.mag) (val d.mag)=g at*
 have s1: -1<=n.v.sign*d.v.sign/\n.v.sign*d.v.sign<=1:=by
  rcases K9 n.v 0 with h|h|h <;> rcases K9 d.v 0 with h'|h'|h' <;>
   simp[Kg,Kn,h,h']
 refine Dr.k<|zb.t (zj9 n oM)<|zb.t (zj9 d oM)<|Ar.o<|zb.t (zmh n (zm g) hn hgl (by rw[zo];omega)) ?_;rw[zo];refine zb.t (ze6 (n.v.sign*d.v.sign<0) _ l1)<|zb.t (zmh d (zm g) hd hgl (by rw[zo];omega))<|zb.t (zxq _ (by rw[zo];exact l2)) ?_;rw[zo,zo,zo,e1,←e2];exact .refl
end Go.Gs
