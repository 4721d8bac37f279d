/- Natural numbers, the program's: copies, comparing, sums, differences. -/
import Derived.Test.YtjgadnaphffpkaaGreatDoorNA
import Derived.Test.YtjgadnaphffpkaaGreatDoorNAI
import Derived.Laws.MathBits
set_option maxRecDepth 100000
set_option maxHeartbeats 8000000
set_option linter.all false
namespace Go.Gs
open Go.Proofs
theorem znv(a:List Dig)(ha:a.length<=1000000000):CG0 221 [.sl dgE a] [] (.full dgE (zm (val a))) []:=by
 refine zc Tryz.func221 ?_;intro hl0;refine⟨Nat,λn=>⟨[(3,i64 n),(0,.sl dgE a)],[],0,22,0⟩,λn=>n<=a.length/\∀i,n<=i->dig a i=0,λn=>n,a.length,?_,?_,?_⟩
 ·exact⟨Xh _,λi h=>zaF h⟩
 ·exact zE []
 rintro n ⟨h1,h2⟩
 have post:(n=0∨dig a (n - 1)≠0)->((a.drop (0:Int).toNat).take ((n:Int) - 0).toNat)=zm (val a):=λh3=>by
  rw[← zjH h3 h1 h2];simp
 refine⟨λh3=>?_,λh3=>?_⟩
 ·refine Ar.o<|Ob.o ?_;intro x hx;rw[show((n:Int) - 1).toNat=n - 1 by omega]at hx;have dx:=zY hx;refine⟨λh4=>?_,λh4=>?_⟩
  ·refine Ar.o<|⟨n - 1,⟨oM,λi hi=>?_⟩,jL [] ⟨congrArg (λn=>some (i64 n)) oM,rfl,trivial⟩ trivial,by dsimp only;omega⟩
   by_cases e:i=n - 1
   ·subst e;rw[dx];omega
   ·exact h2 i oM
  ·refine zv7.full (Ob.mk ⟨⟨oM,oM,rfl,oM⟩,λ_ _=>rfl⟩ ?_);exact zsP (post (.inr oM))
 ·refine zv7.full (Ob.mk ⟨⟨oM,oM,rfl,oM⟩,λ_ _=>rfl⟩ ?_);exact zsP (post (.inl oM))
theorem jy(a:List Dig)(ha:a.length<=1000000000):CG0 221 [.sl dgE a] [] (.sl dgE (zm (val a))) []:=(znv a ha).le (zcy rfl)
theorem zsW(q:List Dig)(hq:q.length<=1000000000):CG0 220 [.sl dgE q] [] (.sl dgE q) []:=by
 refine zc Tryz.func220 ?_
 by_cases h0:q=[]
 ·refine zuf.any (Br.mk ?_ ?_)
  ·subst h0;exact zD
  ·refine⟨Dig,dgE,[],rfl,Ob.mk zeV ?_⟩;refine⟨q,rfl,Ob.mk (zhc (by simp only[Xs];omega)) ?_⟩;exact z9 rfl
 ·refine zuf.some (λh=>h0 (Xn h))<|⟨Dig,dgE,[],rfl,Ob.mk zeV ?_⟩;refine⟨q,rfl,Ob.mk (zhc (by simp only[Xs];omega)) ?_⟩;exact z9 rfl
theorem zag(a:List Dig)(ha:a.length<=1000000000):CG0 159 [.sl dgE a] [] (.sl dgE (zm (val a))) []:=by
 refine zc Tryz.func159 ?_;exact zb.t (jy a ha)<|zb.t (zsW _ (by have:=zJ a;omega))<|.refl
theorem zen(n:Nat)(hn:n < 18446744073709551616):CG0 214 [u64 n] [] (.sl dgE (zm n)) []:=by
 refine zc Tryz.func214 ?_;refine Ar.wrap<|Ob.o1<|Ar.wrap<|⟨Dig,dgE,[dof n,dof (n / 4294967296)],congr (congrArg (λn m=>[u32 n,u32 m]) (za8 rfl)) (za8 (by simp only[Int.reducePow];omega)),Ob.mk (dTwo _ _) ?_⟩;refine zb.see 0 _ (zag [dof n,dof (n / 4294967296)] (by simp)) rfl rfl rfl ?_;rw[znu _ hn];exact .refl
theorem zeo(a:List Dig)(i:Int)(hi:0<=i):CG0 278 [.sl dgE a,i64 i] [] (u64 (dig a i.toNat)) []:=by
 refine zc Tryz.func278 ?_;intro hl;refine⟨λh=>?_,λh=>?_⟩
 ·refine Ob.o ?_;intro x hx;have:=x.isLt;exact Ar.o<|zj (by rw[zY hx])
 ·exact zj (by rw[zaF oM];rfl)
theorem zjO{A B:Nat}(h:(zm A).length < (zm B).length):A < B:=by
 have h1:=zcA (n:=A) (Xh _);have h2:=znr (n:=B) (λe=>by rw[e,ju]at h;simp at h);exact Xr h1 (XB (XI dC oM) h2)
theorem zBb(a b:List Dig)(ha:a.length<=1000000000)(hb:b.length<=1000000000):
  CG0 272 [.sl dgE a,.sl dgE b] [] (i64 (zf5 (val a) (val b))) []:=by
 refine zc Tryz.func272 ?_;refine zb.t (jy a ha)<|zb.t (jy b hb) ?_;have la:=zJ a;have lb:=zJ b;generalize val a=A at*;generalize val b=B at*;intro hl1 hl2;refine⟨λh3=>?_,λh3=>?_⟩
 ·intro hl4 hl5;refine⟨λh6=>?_,λh6=>?_⟩
  ·have:=zjO (A:=A) (B:=B) oM;exact zj (by rw[zf5,if_pos this])
  ·have:=zjO (A:=B) (B:=A) oM;exact zj (by rw[zf5,if_neg oM,if_pos this])
 have h3:(zm A).length=(zm B).length:=oM;intro hl7;refine Ar.o<|⟨Nat,λj=>⟨[(5,i64 ((j:Int) - 1)),(0,.sl dgE (zm A)),(1,.sl dgE (zm B))],[],0,45,0⟩,λj=>j<=(zm A).length/\∀i,j<=i->dig (zm A) i=dig (zm B) i,λj=>j,(zm A).length,?_,?_,?_⟩
 ·exact⟨oM,λi hi=>by rw[zaF oM,zaF oM]⟩
 ·exact zE []
 rintro j ⟨h1,h2⟩
 refine⟨λh8=>?_,λh8=>?_⟩
 ·have h2':∀i,j - 1+1<=i->dig (zm A) i=dig (zm B) i:=λi hi=>h2 i oM
  refine Dr.k<|Ob.o ?_;intro x hx;rw[show((j:Int) - 1).toNat=j - 1 by omega]at hx;have dx:=zY hx;refine Ob.o ?_;intro y hy;rw[show((j:Int) - 1).toNat=j - 1 by omega]at hy;have dy:=zY hy;refine⟨λh4=>?_,λh4=>?_⟩
  ·have:=zf6 h2' oM;rw[zr,zr]at this;exact zj (by rw[zf5,if_pos this])
  refine Dr.k<|Ob.o ?_;intro x' hx';rw[show((j:Int) - 1).toNat=j - 1 by omega,hx]at hx'
  cases hx'
  refine Ob.o ?_;intro y' hy';rw[show((j:Int) - 1).toNat=j - 1 by omega,hy]at hy'
  cases hy'
  refine⟨λh5=>?_,λh5=>?_⟩
  ·have:=zf6 (λi hi=>(h2' i hi).symm) oM;rw[zr,zr]at this;exact zj (by rw[zf5,if_neg oM,if_pos this])
  refine Ar.o<|⟨j - 1,⟨oM,λi hi=>?_⟩,jL [] ⟨congrArg (λn=>some (i64 n)) oM,rfl,rfl,trivial⟩ trivial,by dsimp only;omega⟩
  by_cases hij:i=j - 1
  ·subst hij;omega
  ·exact h2 i oM
 ·have hj:j=0:=by omega
  subst hj;have:=zlU λi=>h2 i (Xe _)
  rw[zr,zr]at this;exact zj (by rw[zf5,if_neg oM,if_neg oM])
theorem zBc(a b:List Dig)(ha:a.length<=900000000)(hb:b.length<=900000000):
  CG0 218 [.sl dgE a,.sl dgE b] [] (.sl dgE (zm (val a+val b))) []:=by
 refine zc Tryz.func218 ?_;intro hl1 hl2;refine Ar.fit (by simp only[zc7];omega) ?_;have en:zc7 (a.length:Int) [(b.length:Int)]+1=((max a.length b.length+1:Nat):Int):=by simp only[zc7];omega
 change ∃_,_;rw[en];generalize hn:max a.length b.length+1=n at*;refine⟨Dig,dgE,0,rfl,Ob.o6 ?_⟩;intro hl3
 refine⟨Nat×List Dig×Nat,λ⟨i,out,c⟩=>⟨[(17,i64 i),(16,i64 n),(6,u64 c),(5,.own 0),(0,.sl dgE a),(1,.sl dgE b)],[(0,qD out)],1,39,0⟩,
  λq=>q.1<=n/\q.2.1.length=n/\q.2.2<=1/\(∀j,q.1<=j->dig q.2.1 j=0)/\val q.2.1+4294967296 ^ q.1*q.2.2=val (a.take q.1)+val (b.take q.1),λq=>n - q.1,(0,List.replicate n 0,0),?_,?_,?_⟩
 ·exact⟨Xe _,by simp,Xe _,λj _=>yU _ _,by simp[zaN,val]⟩
 ·exact zL [0] ⟨rfl,congrArg (λn=>some (i64 n)) (by simp),rfl,rfl,rfl,rfl,trivial⟩ ⟨rfl,trivial⟩
 rintro⟨i,out,c⟩ ⟨h1,h2,h3,h4,h5⟩
 dsimp only at h1 h2 h3 h4 h5;refine⟨λh6=>?_,λh6=>?_⟩
 ·have d1:=yW a i;have d2:=yW b i;refine zb.t (zeo a _ oM)<|zb.t (zeo b _ oM) ?_;simp only[XW];(iterate 2 refine Ar.o ?_);refine Ar.wrap<|Ob.o<|Ob.o ?_;intro z hz;refine⟨dof (dig a i+dig b i+c),congrArg (λn=>[u32 n]) (za8 oM),?_⟩;refine Ob.o1<|Ar.o ?_
  refine⟨(i+1,out.set i (dof (dig a i+dig b i+c)),(dig a i+dig b i+c) / 4294967296),⟨by dsimp only;omega,by simp[h2],by dsimp only;omega,λj hj=>?_,?_⟩,
   zL [0] ⟨rfl,rfl,congrArg (λn=>some (u64 n)) (by simp only[Int.reducePow];omega),rfl,rfl,rfl,trivial⟩ ⟨rfl,trivial⟩,by dsimp only;omega⟩
  ·dsimp only at hj ⊢;rw[jW,if_neg oM];exact h4 j oM
  ·dsimp only;have hs:=zab out i (dof (dig a i+dig b i+c)) oM;rw[h4 i (Xh _),kE,Ko,XP]at hs;rw[hs,zU,zU,XS];have e:=X3 (dig a i+dig b i+c) 4294967296;generalize (dig a i+dig b i+c) / 4294967296=x at*;generalize (dig a i+dig b i+c) % 4294967296=y at*;generalize 4294967296 ^ i=p at*;clear hs h4
   grind
 ·have hi:i=n:=by omega
  subst hi;rw[kY oM,kY oM]at h5
  have hc:c=0:=by
   have l1:=Xr (jk a) (XI (show 0 < 4294967296 by decide) (show a.length<=i - 1 by omega));have l2:=Xr (jk b) (XI (show 0 < 4294967296 by decide) (show b.length<=i - 1 by omega));have e:4294967296 ^ i=4294967296 ^ (i - 1)*4294967296:=by rw[← XS];congr 1;omega
   have:c=0∨c=1:=oM
   rcases this with h | h
   ·exact h
   ·subst h;omega
  subst hc;refine zb.see 0 _ (jy out oM) rfl rfl rfl ?_;rw[show val out=val a+val b by omega];exact .refl
theorem zBd(a b:List Dig)(ha:a.length<=900000000)(hb:b.length<=900000000):
  CG0 219 [.sl dgE a,.sl dgE b] [] (.tup [.sl dgE (zm (val a - val b)),pr (val b<=val a)]) []:=by
 refine zc Tryz.func219 ?_;refine zb.t (zBb a b oM oM)<|⟨λh=>?_,λh=>?_⟩
 ·have hlt:=zel.1 h;refine zI ?_ (zd oM);rw[Yn oM,ju];exact zD
 have hle:val b<=val a:=QR λh'=>h (zel.2 h')
 refine zb.t (jy a oM) ?_;have la:=zJ a;have ldef:=zcA (n:=val a) (Xh _);intro hl2;generalize hn:(zm (val a)).length=n at*;refine⟨Dig,dgE,0,rfl,Ob.o6 ?_⟩;intro hl3
 refine⟨Nat×List Dig×Nat,λ⟨i,out,c⟩=>⟨[(20,i64 i),(19,i64 n),(7,u64 c),(6,.own 0),(0,.sl dgE a),(1,.sl dgE b)],[(0,qD out)],1,42,0⟩,
  λq=>q.1<=n/\q.2.1.length=n/\q.2.2<=1/\(∀j,q.1<=j->dig q.2.1 j=0)/\val q.2.1+val (b.take q.1)=val (a.take q.1)+4294967296 ^ q.1*q.2.2,λq=>n - q.1,(0,List.replicate n 0,0),?_,?_,?_⟩
 ·exact⟨Xe _,by simp,Xe _,λj _=>yU _ _,by simp[zaN,val]⟩
 ·exact zL [0] ⟨rfl,congrArg (λn=>some (i64 n)) (by simp),rfl,rfl,rfl,rfl,trivial⟩ ⟨rfl,trivial⟩
 rintro⟨i,out,c⟩ ⟨h1,h2,h3,h4,h5⟩
 dsimp only at h1 h2 h3 h4 h5;refine⟨λh6=>?_,λh6=>?_⟩
 ·have d1:=yW a i;have d2:=yW b i;refine zb.t (zeo a _ oM)<|zb.t (zeo b _ oM) ?_;simp only[XW];refine Ar.wrap<|Ar.wrap<|Ar.wrap<|Ob.o<|Ob.o ?_;intro z hz;refine⟨dof (4294967296+dig a i - dig b i - c),congrArg (λn=>[u32 n]) (by rw[zjJ,yx,yx,kE];omega),?_⟩;refine Ob.o1<|Ar.o ?_
  refine⟨(i+1,out.set i (dof (4294967296+dig a i - dig b i - c)),1 - (4294967296+dig a i - dig b i - c) / 4294967296),⟨by dsimp only;omega,by simp[h2],by dsimp only;omega,λj hj=>?_,?_⟩,
   zL [0] ⟨rfl,rfl,congrArg (λn=>some (u64 n)) (by rw[yx,yx];simp only[Int.reducePow];omega),rfl,rfl,rfl,trivial⟩ ⟨rfl,trivial⟩,by dsimp only;omega⟩
  ·dsimp only at hj ⊢;rw[jW,if_neg oM];exact h4 j oM
  ·dsimp only;have hs:=zab out i (dof (4294967296+dig a i - dig b i - c)) oM;rw[h4 i (Xh _),kE,Ko,XP]at hs;rw[hs,zU,zU,XS];have e:(4294967296+dig a i - dig b i - c) % 4294967296+dig b i+c=dig a i+4294967296*(1 - (4294967296+dig a i - dig b i - c) / 4294967296):=oM;generalize 1 - (4294967296+dig a i - dig b i - c) / 4294967296=x at*;generalize (4294967296+dig a i - dig b i - c) % 4294967296=y at*;generalize 4294967296 ^ i=p at*
   have e2:p*y+p*dig b i+p*c=p*dig a i+p*4294967296*x:=by
    rw[← KF,← KF,e,KF,KD]
   omega
 ·have hi:i=n:=by omega
  subst hi;have ea:val (a.take i)=val a:=by rw[zpe,Xu ldef]
  have eb:val (b.take i)=val b:=by rw[zpe,Xu (KX hle ldef)]
  rw[ea,eb]at h5;have e4:=jk out;rw[h2]at e4
  have e:val out=val a - val b:=by
   have:c=0∨c=1:=oM
   rcases this with rfl | rfl <;> omega
  refine zb.see 0 _ (jy out oM) rfl rfl rfl ?_;rw[e];exact zI .refl (zR hle)
theorem zpi(xs:List Dig)(n:Nat)(h:xs.length=n+2):∃r,r < 4294967296 ^ n/\val xs=(dig xs (n+1)*4294967296+dig xs n)*4294967296 ^ n+r:=by
 refine⟨val (xs.take n),ja xs n,?_⟩;have e1:=kV xs n;have e2:=zG xs n;have e3:=zG xs (n+1);rw[kj (show xs.length<=n+1+1 by omega),Ko,XP]at e3;rw[e3]at e2;rw[e1,e2];generalize dig xs (n+1)=a;generalize dig xs n=b;generalize 4294967296 ^ n=p
 grind
theorem zpj {P v1 v2 rv top u2 ru q r:Nat} (hrv:rv < P) (hru:ru < P) (hv1:2147483648<=v1) (hv2:v2 < 4294967296) (e:q*v1+r=top) (hq:q<=4294967296)
  (hle:q*v2<=r*4294967296+u2) (hQ:((top*4294967296+u2)*P+ru) / ((v1*4294967296+v2)*P+rv)<=q):
  q=((top*4294967296+u2)*P+ru) / ((v1*4294967296+v2)*P+rv)∨q=((top*4294967296+u2)*P+ru) / ((v1*4294967296+v2)*P+rv)+1:=by
 have hP:0 < P:=oM
 have hV:0 < (v1*4294967296+v2)*P+rv:=by
  have:0 < (v1*4294967296+v2)*P:=Nat.mul_pos oM hP;omega
 have key:(q - 1)*((v1*4294967296+v2)*P+rv)<=(top*4294967296+u2)*P+ru:=by
  rcases Kr q with h0 | h0
  ·subst h0;simp
  ·obtain⟨p,rfl⟩:∃p,q=p+1:=⟨q - 1,oM⟩;rw[Qg]
   have h1:p*((v1*4294967296+v2)*P+rv)<=p*((v1*4294967296+v2+1)*P):=by
    refine Kb _ ?_;rw[XY _ 1 P];omega
   have h2:p*(v1*4294967296+v2+1)<=top*4294967296+u2:=by
    have a1:(p+1)*v1=p*v1+v1:=by rw[XY];omega
    have a2:(p+1)*v2=p*v2+v2:=by rw[XY];omega
    have a3:p*(v1*4294967296+v2+1)=(p*v1)*4294967296+p*v2+p:=by
     rw[KF,KF,KD];omega
    rw[a1]at e;rw[a2]at hle;rw[a3];omega
   have h3:p*((v1*4294967296+v2+1)*P)<=(top*4294967296+u2)*P:=by
    rw[← KD];exact Xp _ h2
   omega
 have:=(Jm hV).2 key;omega
theorem zuE{P v1 v2 rv top u2 ru q r:Nat}(hru:ru < P)(e:q*v1+r=top)(hgt:r*4294967296+u2 < q*v2):
  ((top*4294967296+u2)*P+ru) / ((v1*4294967296+v2)*P+rv) < q:=by
 have hP:0 < P:=oM
 have hq:0 < q:=by
  rcases Kr q with h | h
  ·subst h;omega
  ·exact h
 have h1:top*4294967296+u2+1<=q*(v1*4294967296+v2):=by
  have a3:q*(v1*4294967296+v2)=(q*v1)*4294967296+q*v2:=by rw[KF,KD]
  rw[a3];omega
 have h2:(top*4294967296+u2)*P+ru < q*((v1*4294967296+v2)*P+rv):=by
  have a1:(top*4294967296+u2+1)*P<=q*(v1*4294967296+v2)*P:=Xp _ h1
  have a2:q*(v1*4294967296+v2)*P<=q*((v1*4294967296+v2)*P+rv):=by
   rw[KD];exact Kb _ (Jp _ _)
  rw[XY _ 1 P]at a1;omega
 have hV:0 < (v1*4294967296+v2)*P+rv:=by
  rcases Kr ((v1*4294967296+v2)*P+rv) with h | h
  ·rw[h]at h2;omega
  ·exact h
 exact(XR hV).2 h2
theorem zuF{p q c b ui y lo c' ui' b' U V R:Nat}(h:R+q*V=U+p*(c+b))(hl:lo+4294967296*c'=c+q*y)(hu:ui'+lo+b=ui+4294967296*b'):
  R+p*ui'+q*(V+p*y)=U+p*ui+p*4294967296*(c'+b'):=by
 have e1:ui'+(c+q*y)+b=ui+4294967296*(c'+b'):=oM;have e2:p*(ui'+(c+q*y)+b)=p*(ui+4294967296*(c'+b')):=by rw[e1]
 grind
theorem n_mul(a0 b0:List Dig)(ha:a0.length<=400000000)(hb:b0.length<=400000000):
  CG0 213 [.sl dgE a0,.sl dgE b0] [] (.sl dgE (zm (val a0*val b0))) []:=by
 refine zc Tryz.func213 ?_;refine zb.t (jy a0 oM)<|zb.t (jy b0 oM) ?_;have la:=zJ a0;have lb:=zJ b0;have va:=zr (val a0);have vb:=zr (val b0);generalize zm (val a0)=a at*;generalize zm (val b0)=b at*;rw[← va,← vb];clear va vb;intro hl1 hl2;refine Ar.o<|⟨Dig,dgE,0,rfl,Ob.o6 ?_⟩;intro hl3
 refine⟨Nat×List Dig,λ⟨i,out⟩=>⟨[(23,i64 i),(22,i64 a.length),(21,.sl dgE a),(5,.own 0),(1,.sl dgE b)],[(0,qD out)],1,73,0⟩,
  λq=>q.1<=a.length/\q.2.length=a.length+b.length/\val q.2=val (a.take q.1)*val b/\∀j,q.1+b.length<=j->dig q.2 j=0,λq=>a.length - q.1,(0,List.replicate (a.length+b.length) 0),?_,?_,?_⟩
 ·exact⟨Xe _,by simp,by simp[zaN,val],λj _=>yU _ _⟩
 ·exact zC [0] ⟨congrArg (λn=>some (qD (List.replicate n 0))) oM,trivial⟩
 rintro⟨i,out0⟩ ⟨h1,h2,h3,h4⟩
 dsimp only at h1 h2 h3 h4;refine⟨λh5=>?_,λh5=>?_⟩
 ·refine Ob.o ?_;intro x hx;have hx:a[i]? =some x:=hx;have dx:=zY hx;have hxl:=x.isLt;refine⟨λh6=>?_,λh6=>?_⟩
  ·refine Ar.o<|⟨(i+1,out0),⟨by dsimp only;omega,h2,?_,λj hj=>h4 j (by dsimp only at hj;omega)⟩,zf [0],by dsimp only;omega⟩;dsimp only;rw[zU,dx,show x.val=0 by omega,Ko,XP];exact h3
  intro hl6
  refine⟨Nat×List Dig×Nat,λ⟨k,out,c⟩=>⟨[(32,i64 k),(31,i64 b.length),(30,.sl dgE b),(8,u64 c),(7,u32 x.val),(6,i64 i),(23,i64 i),(22,i64 a.length),(21,.sl dgE a),(5,.own 0),(1,.sl dgE b)],[(0,qD out)],1,73,0⟩,
   λq=>q.1<=b.length/\q.2.1.length=a.length+b.length/\q.2.2 < 4294967296/\val q.2.1+4294967296 ^ (i+q.1)*q.2.2=val out0+4294967296 ^ i*(x.val*val (b.take q.1))/\∀j,i+b.length<=j->dig q.2.1 j=0,λq=>b.length - q.1,(0,out0,0),?_,?_,?_⟩
  ·exact⟨Xe _,h2,by dsimp only;omega,by simp[val],h4⟩
  ·exact zf [0]
  rintro⟨k,out,c⟩ ⟨g1,g2,g3,g4,g5⟩
  dsimp only at g1 g2 g3 g4 g5;refine⟨λg6=>?_,λg6=>?_⟩
  ·refine Ob.o ?_;intro y hy;have hy:b[k]? =some y:=hy;have dy:=zY hy;have hyl:=y.isLt;have hm0:=zem hxl hyl;(iterate 4 refine Ar.o ?_);refine Ob.o<|Ob.o ?_;intro z hz;rw[show((i:Int)+k).toNat=i+k by omega]at hz;have dz:=zY hz;have hzl:=z.isLt;(iterate 4 refine Ar.o ?_);refine Ar.wrap<|Ob.o<|Ob.o ?_;intro z' hz';refine⟨dof (x.val*y.val+z.val+c),congrArg (λn=>[u32 n]) (za8 oM),?_⟩;refine Ob.o1<|Ar.o ?_
   refine⟨(k+1,out.set (i+k) (dof (x.val*y.val+z.val+c)),(x.val*y.val+z.val+c) / 4294967296),⟨by dsimp only;omega,by simp[g2],by dsimp only;omega,?_,?_⟩,
    zL [0] ⟨rfl,rfl,rfl,congrArg (λn=>some (u64 n)) (by simp only[Int.reducePow];omega),rfl,rfl,rfl,rfl,rfl,rfl,rfl,trivial⟩ ⟨congrArg (λn=>some (qD (out.set n _))) oM,trivial⟩,by dsimp only;omega⟩
   ·dsimp only;have hs:=zab out (i+k) (dof (x.val*y.val+z.val+c)) oM;rw[kE,dz]at hs;rw[zU,dy,← KN i k 1,XS];have e:=X3 (x.val*y.val+z.val+c) 4294967296;rw[X7]at g4 hs ⊢;exact zpf g4 hs e
   ·intro j hj;dsimp only;rw[jW,if_neg oM];exact g5 j hj
  ·have hk:k=b.length:=by omega
   intro hl8;refine Ar.o<|Ar.wrap<|Ob.o<|Ob.o ?_;intro z' hz';refine⟨dof c,congrArg (λn=>[u32 n]) (za8 rfl),?_⟩;refine Ar.o ?_
   refine⟨(i+1,out.set (i+b.length) (dof c)),⟨by dsimp only;omega,by simp[g2],?_,?_⟩,
    zC [0] ⟨congrArg (λn=>some (qD (out.set n _))) oM,trivial⟩,by dsimp only;omega⟩
   ·dsimp only;have hs:=zab out (i+b.length) (dof c) oM;rw[kE,g5 _ (Xh _),Xu g3]at hs;rw[hk,kY (Xh _),h3]at g4;rw[zU,dx];generalize val (out.set (i+b.length) _)=r at*;generalize 4294967296 ^ i=p at*;generalize 4294967296 ^ (i+b.length)=q at*;generalize val (a.take i)=w at*;generalize x.val=x at*;generalize val out=o at*;clear h4 g5
    grind
   ·intro j hj;dsimp only;rw[jW,if_neg oM];exact g5 j oM
 ·have hi:i=a.length:=by omega
  rw[hi,kY (Xh _)]at h3;refine zb.see 0 _ (jy out0 oM) rfl rfl rfl ?_;rw[h3];exact .refl
theorem zga{x y:Nat}{e:Int}(hx:x < 4294967296)(hy:y < 4294967296)(he:e=(x:Int)*2 ^ 32):zaA .or .u64 e y=((x*4294967296+y:Nat):Int):=by
 have h1:e=((x*4294967296:Nat):Int):=by rw[he];simp only[Int.reducePow];omega
 rw[h1,zjL oM oM];have:=KZ (i:=32) (b:=y) (by rw[show 2 ^ 32=4294967296 by decide];exact hy) x;rw[show 2 ^ 32=4294967296 by decide,Ks]at this;rw[← this]
theorem n_one(a:List Dig)(d:Nat)(ha:a.length<=900000000)(hd:d < 4294967296)(h0:d≠0):
  CG0 273 [.sl dgE a,u32 d] [] (.tup [.sl dgE (zm (val a / d)),u32 (val a % d:Nat)]) []:=by
 refine zc Tryz.func273 ?_;intro hl1;refine⟨Dig,dgE,0,rfl,Ob.o6 ?_⟩;intro hl2;refine Ar.o ?_
 refine⟨Nat×List Dig×Nat,λ⟨j,out,r⟩=>⟨[(8,i64 ((j:Int) - 1)),(7,u64 r),(6,.own 0),(0,.sl dgE a),(1,u32 d)],[(0,qD out)],1,43,0⟩,
  λq=>q.1<=a.length/\q.2.1.length=a.length/\q.2.2 < d/\val (a.drop q.1)=d*val (q.2.1.drop q.1)+q.2.2,λq=>q.1,(a.length,List.replicate a.length 0,0),?_,?_,?_⟩
 ·refine⟨Xh _,by simp,by dsimp only;omega,?_⟩;dsimp only;rw[kj (Xh _),kj (by simp),Ko]
 ·exact zC [0] ⟨congrArg (λn=>some (qD (List.replicate n 0))) oM,trivial⟩
 rintro⟨j,out,r⟩ ⟨h1,h2,h3,h4⟩
 dsimp only at h1 h2 h3 h4;refine⟨λh5=>?_,λh5=>?_⟩
 ·refine Ob.o1<|Ar.fit (by simp only[Int.reducePow];omega)<|Ob.o ?_;intro x hx;rw[show((j:Int) - 1).toNat=j - 1 by omega]at hx;have dx:=zY hx;have hxl:=x.isLt;refine Ar.o<|⟨_,(zga oM hxl rfl).symm,?_⟩
  have hq:(r*4294967296+x.val) / d < 4294967296:=by
   rw[XR oM];have:r*4294967296+4294967296<=4294967296*d:=oM;omega
  have hm:(r*4294967296+x.val) % d < d:=Kn _ oM;have hdm:=X3 (r*4294967296+x.val) d;refine Ar.o<|Dv.pos ⟨oM,oM,by show _<=(18446744073709551615:Int);omega⟩ ?_;have e1:((r*4294967296+x.val:Nat):Int) / (d:Int)=(((r*4294967296+x.val) / d:Nat):Int):=by simp
  have e2:((r*4294967296+x.val:Nat):Int) % (d:Int)=(((r*4294967296+x.val) % d:Nat):Int):=by simp
  rw[e1];generalize (r*4294967296+x.val) / d=qd at*;refine Ar.o<|Ob.o<|Ob.o ?_;intro z hz;refine⟨dof qd,congrArg (λn=>[u32 n]) (by rw[kE,Xu hq]),?_⟩;refine Ar.o<|Dv.pos ⟨oM,oM⟩ ?_;rw[e2];generalize (r*4294967296+x.val) % d=rd at*;refine Ar.o ?_
  refine⟨(j - 1,out.set (j - 1) (dof qd),rd),⟨by dsimp only;omega,by simp[h2],hm,?_⟩,
   zL [0] ⟨congrArg (λn=>some (i64 n)) oM,rfl,rfl,rfl,rfl,trivial⟩ ⟨congrArg (λn=>some (qD (out.set n _))) oM,trivial⟩,by dsimp only;omega⟩
  dsimp only;rw[zG a,dx,show j - 1+1=j by omega];refine zpg h4 oM hdm ?_;rw[zbM oM,kE,Xu hq,show j - 1+1=j by omega]
 ·have hj:j=0:=by omega
  subst hj;rw[KT,KT]at h4
  have e1:val out=val a / d:=by
   rw[h4,Qk oM,Kg h3,XP]
  have e2:r=val a % d:=by
   rw[h4,Ql,Xu h3]
  refine zb.see 0 _ (jy out oM) rfl rfl rfl<|Ar.o ?_;rw[e1];exact zI .refl (zj (by rw[e2]))
def zh3(v1 v2 u2 top:Nat):Nat->Nat->Nat
 | 0,q=>q
 | f+1,q=>if 4294967296<=q∨(top - q*v1)*4294967296+u2 < q*v2 then(if 4294967296<=top - (q - 1)*v1 then q - 1 else zh3 v1 v2 u2 top f (q - 1)) else q
theorem zpk {P v1 v2 rv top u2 ru Q:Nat} (hrv:rv < P) (hru:ru < P) (hv1:2147483648<=v1) (hv2:v2 < 4294967296)
  (hQd:((top*4294967296+u2)*P+ru) / ((v1*4294967296+v2)*P+rv)=Q) (hQ:Q < 4294967296):∀(f q:Nat),q < f->q<=4294967297->q*v1<=top->Q<=q->
   zh3 v1 v2 u2 top f q=Q∨zh3 v1 v2 u2 top f q=Q+1
 | 0,q,h,_,_,_=>oM
 | f+1,q,h,hq,hle,hge=>by
  unfold zh3;have hr:q*v1+(top - q*v1)=top:=oM
  by_cases hc:4294967296<=q∨(top - q*v1)*4294967296+u2 < q*v2
  ·rw[if_pos hc]
   have hlt:Q < q:=by
    rcases hc with hc | hc
    ·omega
    ·rw[← hQd];exact zuE hru hr hc
   have hq1:(q - 1)*v1+v1=q*v1:=by
    have:q=(q - 1)+1:=oM;rw[this,XY];simp
   by_cases hb:4294967296<=top - (q - 1)*v1
   ·rw[if_pos hb];have h1:(q - 1)*v2<=4294967296*4294967295:=Qh oM oM;have:=zpj hrv hru hv1 hv2 (q:=q - 1) (r:=top - (q - 1)*v1) (top:=top) (u2:=u2) oM oM oM (by rw[hQd];omega)
    rwa [hQd]at this
   ·rw[if_neg hb];exact zpk hrv hru hv1 hv2 hQd hQ f (q - 1) oM oM oM oM
  ·rw[if_neg hc];have:=zpj hrv hru hv1 hv2 hr (u2:=u2) oM oM (by rw[hQd];exact hge)
   rwa [hQd]at this
def uQ(U V:List Dig):Nat:=dig U V.length*4294967296+dig U (V.length - 1)
def zhf(U V:List Dig):Nat:=zh3 (dig V (V.length - 1)) (dig V (V.length - 2)) (dig U (V.length - 2)) (uQ U V) (uQ U V / dig V (V.length - 1)+1) (uQ U V / dig V (V.length - 1))
theorem zBU{U V:List Dig}(hU:U.length=V.length+1)(hn:2<=V.length)(hlt:val U < 4294967296*val V):uQ U V < (dig V (V.length - 1)+1)*4294967296:=by
 obtain⟨n,hn'⟩:∃n,V.length=n+1:=⟨V.length - 1,oM⟩;have e1:=kV U n;have e2:=zG U n;have e3:=zG U (n+1);rw[kj (show U.length<=n+1+1 by omega),Ko,XP]at e3;have f1:=kV V n;have f2:=zG V n;rw[kj (show V.length<=n+1 by omega),Ko,XP]at f2;have f3:=ja V n;unfold uQ;rw[hn',Qg];rw[e3]at e2;rw[e2]at e1;rw[f2]at f1;have hp:=zdy n;generalize 4294967296 ^ n=p at*;generalize dig U n=a at*;generalize dig U (n+1)=b at*;generalize dig V n=v at*
 have h1:p*(a+4294967296*b) < p*(4294967296*(v+1)):=by
  have h2:p*(4294967296*(v+1))=4294967296*(p*v+p):=by
   rw[Nat.mul_left_comm,KF p v 1,Jb]
  rw[h2];generalize p*(a+4294967296*b)=X at*;generalize p*v=Y at*;omega
 have:=JS h1;omega
theorem zlW{U V:List Dig}(hU:U.length=V.length+1)(hn:2<=V.length)(hv:2147483648<=dig V (V.length - 1))(hlt:val U < 4294967296*val V):
  (zhf U V=val U / val V∨zhf U V=val U / val V+1)/\val U / val V<=uQ U V / dig V (V.length - 1)/\uQ U V / dig V (V.length - 1)<=4294967297:=by
 have hest:=zwK (r:=U) (b:=V) oM hlt;have htop:=zBU hU hn hlt
 have hVp:0 < val V:=by
  rcases Kr (val V) with h | h
  ·rw[h]at hlt;omega
  ·exact h
 have hQ:val U / val V < 4294967296:=(XR hVp).2 hlt
 have hq1:uQ U V / dig V (V.length - 1)<=4294967297:=by
  have:uQ U V / dig V (V.length - 1) < 4294967298:=by
   rw[XR oM];omega
  omega
 refine⟨?_,hest,hq1⟩;obtain⟨n,hn'⟩:∃n,V.length=n+2:=⟨V.length - 2,oM⟩;have e1:=kV U n;have e2:=zG U n;have e3:=zG U (n+1);have e4:=zG U (n+1+1);rw[kj (show U.length<=n+1+1+1 by omega),Ko,XP]at e4;have e5:=ja U n;obtain⟨rv,r1,r2⟩:=zpi V n hn'
 have eU:val U=(uQ U V*4294967296+dig U (V.length - 2))*4294967296 ^ n+val (U.take n):=by
  unfold uQ;rw[hn',show n+2 - 1=n+1 by omega,show n+2 - 2=n by omega,e1,e2,e3,e4];generalize 4294967296 ^ n=p
  grind
 have eV:val V=(dig V (V.length - 1)*4294967296+dig V (V.length - 2))*4294967296 ^ n+rv:=by
  rw[hn',show n+2 - 1=n+1 by omega,show n+2 - 2=n by omega];exact r2
 have key:=zpk (P:=4294967296 ^ n) (v1:=dig V (V.length - 1)) (v2:=dig V (V.length - 2)) (top:=uQ U V) (u2:=dig U (V.length - 2)) (Q:=val U / val V) r1 e5 hv (yW _ _) (by rw[← eU,← eV]) hQ
  (uQ U V / dig V (V.length - 1)+1) (uQ U V / dig V (V.length - 1)) oM hq1 (JE _ _) hest
 exact key
theorem zzB(U V:List Dig)(hl:V.length<=900000000)(hU:U.length=V.length+1)(hn:2<=V.length)(hv:2147483648<=dig V (V.length - 1))(hlt:val U < 4294967296*val V):
  CG0 276 [.sl dgE U,.sl dgE V] [] (u64 (zhf U V:Nat)) []:=by
 obtain⟨_,hQ,hq⟩:=zlW hU hn hv hlt;have hG:zhf U V=zh3 (dig V (V.length - 1)) (dig V (V.length - 2)) (dig U (V.length - 2)) (uQ U V) (uQ U V / dig V (V.length - 1)+1) (uQ U V / dig V (V.length - 1)):=rfl;refine zc Tryz.func276 ?_;intro hl1;refine Dr.k<|Ob.o ?_;intro x hx;have hx:U[V.length]? =some x:=hx;have dx:=zY hx;have hxl:=x.isLt;refine Ar.o<|Ob.o1<|Ar.fit (by simp only[Int.reducePow];omega)<|Ar.o<|Ob.o ?_;intro y hy;rw[show((V.length:Int) - 1).toNat=V.length - 1 by omega]at hy;have dy:=zY hy
 have hyl:=y.isLt;refine Ar.o<|⟨_,(zga hxl hyl rfl).symm,?_⟩;have ht:uQ U V=x.val*4294967296+y.val:=by unfold uQ;rw[dx,dy]
 rw[← ht];have ht2:uQ U V < 18446744073709551616:=oM;generalize uQ U V=T at*;refine Dr.k<|Ar.o<|Ob.o ?_;intro v1 hv1;rw[show((V.length:Int) - 1).toNat=V.length - 1 by omega]at hv1;have d1:=zY hv1;have h1l:=v1.isLt;rw[d1]at hv hQ hq hG;refine Ar.o<|Dv.pos ⟨oM,oM,by show _<=(18446744073709551615:Int);omega⟩<|Ar.o<|Ob.o ?_;intro v1' hv1';rw[show((V.length:Int) - 1).toNat=V.length - 1 by omega,hv1]at hv1'
 cases hv1'
 refine Ar.o<|Dv.pos ⟨oM,oM⟩ ?_;have hdm:=X3 T v1.val;have hml:T % v1.val < v1.val:=Kn _ oM
 refine⟨Nat×Nat×Nat,λ⟨f,q,r⟩=>⟨[(7,u64 q),(8,u64 r),(0,.sl dgE U),(1,.sl dgE V),(5,i64 V.length)],[],0,77,0⟩,
  λs=>s.2.1 < s.1/\s.2.1<=4294967297/\s.2.2 < 4294967296/\s.2.1*v1.val+s.2.2=T/\zhf U V=zh3 v1.val (dig V (V.length - 2)) (dig U (V.length - 2)) T s.1 s.2.1,λs=>s.1,
  (T / v1.val+1,T / v1.val,T % v1.val),?_,?_,?_⟩
 ·exact⟨by dsimp only;omega,hq,by dsimp only;omega,by dsimp only;rw[Ks];exact hdm,hG⟩
 ·exact jL [] ⟨congrArg (λn=>some (u64 n)) (by simp),congrArg (λn=>some (u64 n)) (by simp),rfl,rfl,rfl,trivial⟩ trivial
 clear hG hQ hq hdm hml ht
 rintro⟨f,q,r⟩ ⟨g1,g2,g3,g4,g5⟩
 dsimp only at g1 g2 g3 g4 g5;obtain⟨f',rfl⟩:∃f',f=f'+1:=⟨f - 1,oM⟩;unfold zh3 at g5;have er:T - q*v1.val=r:=oM;rw[er]at g5
 have dec:1<=q->(q - 1)*v1.val+v1.val=q*v1.val:=λh=>by
  have:q=(q - 1)+1:=oM;rw[this,XY];simp
 refine Dr.k<|Ob.o1<|Br.mk (λk1=>?_) (λk1=>?_)
 ·have k1:4294967296<=q:=by simp only[Int.reducePow]at k1;omega
  rw[if_pos (.inl k1)]at g5;have hd:=dec oM;have er2:T - (q - 1)*v1.val=r+v1.val:=oM;rw[er2]at g5;(iterate 2 refine Ar.o ?_);refine Ob.o ?_;intro z hz;rw[show((V.length:Int) - 1).toNat=V.length - 1 by omega,hv1]at hz
  cases hz
  (iterate 2 refine Ar.o ?_);refine Ob.o1<|Br.mk (λk3=>?_) (λk3=>?_)
  ·rw[if_pos (by simp only[Int.reducePow]at k3;omega)]at g5;exact zj oM
  ·rw[if_neg (by simp only[Int.reducePow]at k3;omega)]at g5
   exact⟨(f',q - 1,r+v1.val),⟨by dsimp only;omega,by dsimp only;omega,by dsimp only;simp only[Int.reducePow]at k3;omega,by dsimp only;omega,g5⟩,
    jL [] ⟨congrArg (λn=>some (u64 n)) oM,rfl,rfl,rfl,rfl,trivial⟩ trivial,by dsimp only;omega⟩
 ·have k1:q < 4294967296:=by simp only[Int.reducePow]at k1;omega
  refine Ar.o<|Ob.o ?_;intro v2 hv2;rw[show((V.length:Int) - 2).toNat=V.length - 2 by omega]at hv2;have d2:=zY hv2;have h2l:=v2.isLt;have hm:=zem k1 h2l;(iterate 2 refine Ar.o ?_);refine Ob.o1<|Ar.fit (by simp only[Int.reducePow];omega)<|Ar.o<|Ob.o ?_;intro w hw;rw[show((V.length:Int) - 2).toNat=V.length - 2 by omega]at hw;have dw:=zY hw;have hwl:=w.isLt;refine Ar.o<|⟨_,(zga g3 hwl rfl).symm,?_⟩;rw[d2,dw]at g5;refine⟨λk2=>?_,λk2=>?_⟩
  ·have k2:r*4294967296+w.val < q*v2.val:=by
    rw[← XZ]at k2;omega
   have hq0:1<=q:=by
    rcases Kr q with h | h
    ·subst h;omega
    ·exact h
   rw[if_pos (.inr k2)]at g5;have hd:=dec hq0;have er2:T - (q - 1)*v1.val=r+v1.val:=oM;rw[er2]at g5;rw[← d2,← dw]at g5;(iterate 2 refine Ar.o ?_);refine Ob.o ?_;intro z hz;rw[show((V.length:Int) - 1).toNat=V.length - 1 by omega,hv1]at hz
   cases hz
   (iterate 2 refine Ar.o ?_);refine Ob.o1<|Br.mk (λk3=>?_) (λk3=>?_)
   ·rw[if_pos (by simp only[Int.reducePow]at k3;omega)]at g5;exact zj oM
   ·rw[if_neg (by simp only[Int.reducePow]at k3;omega)]at g5
    exact⟨(f',q - 1,r+v1.val),⟨by dsimp only;omega,by dsimp only;omega,by dsimp only;simp only[Int.reducePow]at k3;omega,by dsimp only;omega,g5⟩,
     jL [] ⟨congrArg (λn=>some (u64 n)) oM,rfl,rfl,rfl,rfl,trivial⟩ trivial,by dsimp only;omega⟩
  ·have k2:¬(4294967296<=q∨r*4294967296+w.val < q*v2.val):=by
    rw[← XZ]at k2;omega
   rw[if_neg k2]at g5;exact zj (by rw[g5])
def yi(k n:Nat):List Dig:=(List.range k).map λi=>dof (n / 4294967296 ^ i)
theorem yE(k n:Nat):(yi k n).length=k:=by simp[yi]
theorem zwQ{xs ys:List Dig}(hl:xs.length=ys.length)(h:∀i,i < xs.length->dig xs i=dig ys i):xs=ys:=by
 refine List.ext_getElem hl λi h1 h2=>Fin.ext ?_
 have:=h i h1
 rwa [zY (Xb h1),zY (Xb h2)]at this
theorem zsX(w:List Dig):yi w.length (val w)=w:=by
 refine zwQ (yE _ _) λi hi=>?_
 rw[yE]at hi;rw[zzx w i];have:(yi w.length (val w))[i]? =some (dof (val w / 4294967296 ^ i)):=by simp[yi,hi]
 rw[zY this,kE]
theorem zsY{k n:Nat}(h:n < 4294967296 ^ k):val (yi k n)=n:=by
 have:=zdC (xs:=yi k n) (N:=n) (λj hj=>by
  rw[yE]at hj;have e:(yi k n)[j]? =some (dof (n / 4294967296 ^ j)):=by simp[yi,hj]
  rw[zY e,kE])
 rw[yE,Xu h]at this;exact this
theorem ziG{pre w post:List Dig}{i:Nat}(h:i < w.length):(pre++(w++post))[pre.length+i]? =w[i]? :=by
 rw[XA oM,J3,XF h]
theorem ziH{pre w post:List Dig}{i:Nat}{d:Dig}(h:i < w.length):(pre++(w++post)).set (pre.length+i) d=pre++(w.set i d++post):=by
 rw[Yk _ _ oM,J3,List.set_append_left _ _ h]
def zpl(W V:List Dig)(q:Nat):List Dig:=yi W.length (if val W < q*val V then val W+4294967296 ^ W.length - q*val V else val W - q*val V)
theorem zBV{x:Nat}{e:Int}(h:e=x):zaA .and .u64 e 4294967295=((x % 4294967296:Nat):Int):=by rw[h];exact zsU x
theorem zjP{u lo b:Nat}(hu:u < 4294967296)(hl:lo < 4294967296)(hb:b<=1):
  ((dof (8589934592+u - lo - b)).val:Int)=IntKind.u32.wrap (IntKind.u64.wrap (IntKind.u64.wrap ((u:Int) - lo) - b))/\
  IntKind.u64.wrap (IntKind.u64.wrap ((u:Int) - lo) - b) / 2 ^ 63=(((if u < lo+b then 1 else 0:Nat)):Int)/\
  (8589934592+u - lo - b) % 4294967296+lo+b=u+4294967296*(if u < lo+b then 1 else 0):=by
 rw[zjJ,yx,yx,kE];simp only[Int.reducePow];refine⟨oM,?_,?_⟩
 ·split <;> omega
 ·split <;> omega
theorem zBW(pre W post V:List Dig)(q:Nat)(hW:W.length=V.length+1)(hq:q<=4294967296):
  CG0 277 [.win 0 1 (pre.length:Int) (W.length:Int),.sl dgE V,u64 q] [(0,qD (pre++(W++post)))] (pr (val W < q*val V)) [(0,qD (pre++(zpl W V q++post)))]:=by
 refine uw tok mix Tryz.func277 rfl rfl rfl (qZ _) rfl ?_;intro hl0
 refine⟨Nat×List Dig×Nat×Nat,λ⟨i,w,c,b⟩=>⟨[(15,i64 i),(14,i64 V.length),(13,.sl dgE V),(7,u64 c),(8,u64 b),(0,.win 0 1 (pre.length:Int) (W.length:Int)),(1,.sl dgE V),(2,u64 q)],[(0,qD (pre++(w++post)))],1,65,1⟩,
  λs=>s.1<=V.length/\s.2.1.length=W.length/\s.2.2.1 < 4294967296/\s.2.2.2<=1/\(∀j,s.1<=j->dig s.2.1 j=dig W j)/\val (s.2.1.take s.1)+q*val (V.take s.1)=val (W.take s.1)+4294967296 ^ s.1*(s.2.2.1+s.2.2.2),
  λs=>V.length - s.1,(0,W,0,0),?_,?_,?_⟩
 ·exact⟨Xe _,rfl,by dsimp only;omega,Xe _,λ_ _=>rfl,by simp[val]⟩
 ·exact zf [0]
 rintro⟨i,w,c,b⟩ ⟨h1,h2,h3,h4,h5,h6⟩
 dsimp only at h1 h2 h3 h4 h5 h6;have hll:(pre++(w++post)).length=pre.length+W.length+post.length:=by simp[h2];omega
 refine⟨λk1=>?_,λk1=>?_⟩
 ·refine Ob.o ?_;intro y hy;have hy:V[i]? =some y:=hy;have dy:=zY hy;have hyl:=y.isLt;have hm:q*y.val<=4294967296*4294967295:=Qh hq oM;refine Ar.o<|Ar.fit (by rw[← XZ];omega)<|Ar.fit (by rw[← XZ];omega)<|Ob.o5<|Ob.mk (by rw[hll];omega) ?_;intro u hu;have hu:w[i]? =some u:=by rw[← ziG (pre:=pre) (post:=post) oM,← hu];congr 1
  have du:=zY hu;have hul:=u.isLt;refine Ar.o ?_;have ex:(c:Int)+(q:Int)*(y.val:Int)=((c+q*y.val:Nat):Int):=by simp
  refine⟨_,(zBV ex).symm,?_⟩;rw[ex];generalize hX:c+q*y.val=X at*;obtain⟨t1,t2,t3⟩:=zjP (u:=u.val) (lo:=X % 4294967296) (b:=b) hul (Kn _ dC) h4;refine Ar.wrap<|Ar.wrap<|Ar.wrap<|Ob.o5<|Ob.mk (by rw[hll];omega) ?_;intro z hz;refine⟨dof (8589934592+u.val - X % 4294967296 - b),congrArg (λn=>[u32 n]) t1,?_⟩;refine Ob.o1<|Ob.o1<|Ar.o ?_;generalize (if u.val < X % 4294967296+b then 1 else 0)=b' at*;have hb':b'<=1:=oM
  refine⟨(i+1,w.set i (dof (8589934592+u.val - X % 4294967296 - b)),X / 4294967296,b'),⟨by dsimp only;omega,by simp[h2],by dsimp only;omega,hb',λj hj=>?_,?_⟩,
   qA [(0,some 0)] rfl rfl rfl ⟨rfl,rfl,rfl,congrArg (λn=>some (u64 n)) (by simp only[Int.reducePow];omega),congrArg (λn=>some (u64 n)) t2,rfl,rfl,rfl,trivial⟩
    ⟨congrArg (λl=>some (qD l)) (by rw[← ziH oM];congr 1),trivial⟩,by dsimp only;omega⟩
  ·dsimp only at hj ⊢;rw[jW,if_neg oM];exact h5 j oM
  ·dsimp only;rw[zU,zU,zU,XS,dy,jW,if_pos ⟨rfl,oM⟩,kE,← h5 i (Xh _),du];have ht:(w.set i (dof (8589934592+u.val - X % 4294967296 - b))).take i=w.take i:=by rw[Q0 oM]
   rw[ht];have hd:=X3 X 4294967296;exact zuF h6 oM t3
 ·have hi:i=V.length:=by omega
  subst hi;intro hl9;refine Ob.o5<|Ob.mk (by rw[hll];omega) ?_;intro u hu;have hu:w[V.length]? =some u:=by rw[← ziG (pre:=pre) (post:=post) oM,← hu];congr 1
  have du:=zY hu;have hul:=u.isLt;refine Ar.o ?_;obtain⟨t1,t2,t3⟩:=zjP (u:=u.val) (lo:=c) (b:=b) hul h3 h4;refine Ar.wrap<|Ar.wrap ?_;intro hl10;refine Ar.wrap<|Ob.o5<|Ob.mk (by rw[hll];omega) ?_;intro z hz;refine⟨dof (8589934592+u.val - c - b),congrArg (λn=>[u32 n]) t1,?_⟩;refine Ob.o1 ?_
  have ev:val (w.set V.length (dof (8589934592+u.val - c - b)))+q*val V=val W+4294967296 ^ W.length*(if u.val < c+b then 1 else 0):=by
   have e1:=zab w V.length (dof (8589934592+u.val - c - b)) oM;have e2:=kV w V.length;have e3:=zG w V.length;rw[kj (show w.length<=V.length+1 by omega),Ko,XP]at e3;rw[e3]at e2;have f2:=kV W V.length;have f3:=zG W V.length;rw[kj (show W.length<=V.length+1 by omega),Ko,XP]at f3;rw[f3]at f2;rw[kY (Xh V.length)]at h6;rw[hW,XS,f2,← h5 _ (Xh _),du];rw[du]at e1 e2;rw[kE]at e1;generalize (if u.val < c+b then 1 else 0)=b' at*
   generalize (8589934592+u.val - c - b) % 4294967296=u' at*;generalize 4294967296 ^ V.length=p at*;have e4:p*(u'+c+b)=p*(u.val+4294967296*b'):=by rw[t3]
   generalize u.val=u at*;generalize val (w.take V.length)=wt at*;generalize val (W.take V.length)=Wt at*;generalize q*val V=qv at*;clear h5 t1 t2
   grind
  have hvl:=jk (w.set V.length (dof (8589934592+u.val - c - b)));rw[X0,h2]at hvl
  have hneg:(u.val < c+b)↔val W < q*val V:=by
   constructor
   ·intro h;rw[if_pos h]at ev;omega
   ·intro h
    by_cases hh:u.val < c+b
    ·exact hh
    ·rw[if_neg hh]at ev;omega
  have hfin:w.set V.length (dof (8589934592+u.val - c - b))=zpl W V q:=by
   rw[← zsX (w.set V.length (dof (8589934592+u.val - c - b)))];unfold zpl;rw[X0,h2];congr 1
   by_cases hh:val W < q*val V
   ·rw[if_pos hh];rw[if_pos (hneg.2 hh)]at ev;omega
   ·rw[if_neg hh];rw[if_neg (λh=>hh (hneg.1 h))]at ev;omega
  refine⟨congrArg (λl=>some (qD l)) ?_,zF ?_⟩
  ·rw[← hfin,← ziH oM];congr 1
  ·rw[t2,← hneg]
   by_cases hh:u.val < c+b
   ·simp[hh]
   ·simp[hh]
theorem zpm{α:Type}{enc:α->List SV}:LE (.val (.slice none 0 0)) (.full enc []):=λS Pm ρ w v hg=>by
 rw[hg.val_inv];exact .d _ _ (.full enc [] none (.nil enc none))
theorem or32{x y:Nat}(hx:x < 4294967296)(hy:y < 4294967296):zaA .or .u32 x y=((x|||y:Nat):Int):=by
 show IntKind.u32.wrap ((BitVec.ofInt 32 x|||BitVec.ofInt 32 y).toNat:Nat)=_;have h:x|||y < 2 ^ 32:=Nat.or_lt_two_pow hx hy
 have e:(BitVec.ofInt 32 x|||BitVec.ofInt 32 y).toNat=x|||y:=by
  rw[BitVec.toNat_or,QB,QB];congr 1
  ·omega
  ·omega
 rw[e,zjJ];omega
theorem zBX{c x s p:Nat}(hp:p < 32)(hs:2 ^ p=s)(hc:c < s):c|||(x*s % 4294967296)=c+x*s % 4294967296/\c+x*s % 4294967296 < 4294967296:=by
 have h32:4294967296=s*2 ^ (32 - p):=by rw[← hs,← X7,show p+(32 - p)=32 by omega]
 have hm:x*s % 4294967296=s*(x % 2 ^ (32 - p)):=by rw[h32,Ks x s,Nat.mul_mod_mul_left]
 have hlt:x % 2 ^ (32 - p) < 2 ^ (32 - p):=Kn _ (KS dC);have h1:=KZ (i:=p) (b:=c) (by rw[hs];exact hc) (x % 2 ^ (32 - p));rw[hs]at h1;rw[hm,Nat.or_comm,← h1]
 have h2:s*(x % 2 ^ (32 - p))+s<=s*2 ^ (32 - p):=by
  rw[← Yz];exact Kb _ hlt
 rw[← h32]at h2;exact⟨oM,oM⟩
theorem zzC{x y:Nat}{e:Int}(hx:x < 4294967296)(hy:y < 4294967296)(he:e=(y:Int)*2 ^ 32):zaA .or .u64 x e=((y*4294967296+x:Nat):Int):=by
 have h1:e=((y*4294967296:Nat):Int):=by rw[he];simp only[Int.reducePow];omega
 rw[h1,zjL oM oM,Nat.or_comm];have:=KZ (i:=32) (b:=x) (by rw[show 2 ^ 32=4294967296 by decide];exact hx) y;rw[show 2 ^ 32=4294967296 by decide,Ks]at this;rw[← this]
theorem zwR{p w s v x lo hi o o1 o2 q:Nat}(h:o=w*(s*v))(h1:o1+p*w*q=o+p*w*(q+lo))(h2:o2=o1+p*w*4294967296*hi)(e:4294967296*hi+lo=x*s):o2=w*(s*(v+p*x)):=by
 subst h2;subst h
 have:o1=w*(s*v)+p*w*lo:=by
  rw[KF (p*w) q lo]at h1;omega
 subst this
 grind
theorem zwS(a0:List Dig)(n:Nat)(ha:a0.length<=800000000)(hn:n<=4096):
  CG0 275 [.sl dgE a0,i64 n] [] (.full dgE (zm (val a0*2 ^ n))) []:=by
 refine zc Tryz.func275 ?_;refine zb.t (jy a0 oM) ?_;have la:=zJ a0;have va:=zr (val a0);generalize zm (val a0)=a at*;rw[← va];clear va;have hs0:2 ^ (n % 32)<=2 ^ 31:=XI dC oM;have hs1:0 < 2 ^ (n % 32):=KS dC;generalize hs:2 ^ (n % 32)=s at*;refine⟨λh=>by omega,λh=>?_⟩;have em:zbJ (n:Int) [4096]=n:=by simp only[zbJ];omega
 change Dv _ _ _ _;rw[em];refine Dv.pos ⟨oM,oM,by show _<=(9223372036854775807:Int);omega⟩<|Dv.pos ⟨oM,oM⟩ ?_;intro hl7;(iterate 2 refine Ar.o ?_);refine⟨Dig,dgE,0,rfl,Ob.o6 ?_⟩;intro hl8
 refine⟨Nat×List Dig,λ⟨i,out⟩=>⟨[(76,i64 i),(75,i64 a.length),(74,.sl dgE a),(9,i64 (n / 32:Nat)),(10,i64 (n % 32:Nat)),(11,.own 0)],[(0,qD out)],1,107,0⟩,
  λq=>q.1<=a.length/\q.2.length=a.length+n / 32+1/\(∀j,q.1+n / 32 < j->dig q.2 j=0)/\dig q.2 (q.1+n / 32) < s/\val q.2=4294967296 ^ (n / 32)*(s*val (a.take q.1)),λq=>a.length - q.1,(0,List.replicate (a.length+n / 32+1) 0),?_,?_,?_⟩
 ·refine⟨Xe _,by simp,λj _=>yU _ _,by dsimp only;rw[yU];exact hs1,by simp[zaN,val]⟩
 ·exact zL [0] ⟨rfl,rfl,rfl,congrArg (λn=>some (i64 n)) oM,congrArg (λn=>some (i64 n)) oM,rfl,trivial⟩ ⟨congrArg (λn=>some (qD (List.replicate n 0))) oM,trivial⟩
 rintro⟨i,out⟩ ⟨h1,h2,h3,h4,h5⟩
 dsimp only at h1 h2 h3 h4 h5;refine⟨λh9=>?_,λh9=>?_⟩
 ·refine Ob.o ?_;intro x hx;have hx:a[i]? =some x:=hx;have dx:=zY hx;have hxl:=x.isLt;refine Ar.o<|Ob.o11 ?_;have hm:x.val*s<=4294967295*2 ^ 31:=Qh oM hs0
  have hm2:(x.val:Int)*2 ^ ((n % 32:Nat):Int).toNat=((x.val*s:Nat):Int):=by
   rw[← hs,XW];simp
  have hm3:x.val*s < 4294967296*s:=KK hxl hs1;refine Ar.fit (by rw[hm2];omega) ?_;rw[hm2];refine Ar.o<|Ob.o<|Ob.o ?_;intro c hc;rw[show((i:Int)+(n / 32:Nat)).toNat=i+n / 32 by omega]at hc;have dc:=zY hc;have hcl:=c.isLt;rw[dc]at h4;obtain⟨o1,o2⟩:=zBX (c:=c.val) (x:=x.val) (s:=s) (p:=n % 32) oM hs h4;refine Ar.wrap ?_;have ew:IntKind.u32.wrap ((x.val*s:Nat):Int)=((x.val*s % 4294967296:Nat):Int):=by rw[zjJ];omega
  rw[ew];refine⟨_,(or32 hcl (Kn _ dC)).symm,?_⟩;rw[o1];refine Ob.o<|Ob.o ?_;intro z hz;refine⟨dof (c.val+x.val*s % 4294967296),congrArg (λn=>[u32 n]) (by rw[kE,Xu o2]),?_⟩;(iterate 2 refine Ar.o ?_);refine Ob.o1<|Ar.wrap<|Ob.mk (by rw[X0];omega)<|Ob.mk (by rw[X0];omega) ?_;intro z2 hz2;have hhi:x.val*s / 4294967296 < s:=by rw[XR dC];omega
  refine⟨dof (x.val*s / 4294967296),congrArg (λn=>[u32 n]) (za8 (by simp only[Int.reducePow];omega)),?_⟩;refine Ar.o ?_;have ei:((i:Int)+(n / 32:Nat)).toNat=i+n / 32:=oM;have ei1:((i:Int)+(n / 32:Nat)+1).toNat=i+n / 32+1:=oM
  refine⟨(i+1,(out.set (i+n / 32) (dof (c.val+x.val*s % 4294967296))).set (i+n / 32+1) (dof (x.val*s / 4294967296))),⟨by dsimp only;omega,by simp[h2],λj hj=>?_,?_,?_⟩,
   zC [0] ⟨congrArg (λl=>some (qD l)) (by rw[ei,ei1]),trivial⟩,by dsimp only;omega⟩
  ·dsimp only at hj ⊢;rw[jW,if_neg oM,jW,if_neg oM];exact h3 j oM
  ·dsimp only;rw[show i+1+n / 32=i+n / 32+1 by omega,jW,if_pos ⟨rfl,by rw[X0];omega⟩,kE,Xu oM];exact hhi
  ·dsimp only;have s1:=zab out (i+n / 32) (dof (c.val+x.val*s % 4294967296)) oM;have s2:=zab (out.set (i+n / 32) (dof (c.val+x.val*s % 4294967296))) (i+n / 32+1) (dof (x.val*s / 4294967296)) (by rw[X0];omega);rw[kE,Xu o2,dc,X7]at s1;have hmm:x.val*s / 4294967296 % 4294967296=x.val*s / 4294967296:=Xu oM;rw[jW,if_neg oM,h3 _ oM,Ko,XP,kE,hmm,XS,X7]at s2;rw[zU,dx];exact zwR h5 s1 s2 (X3 _ _)
 ·have hi:i=a.length:=by omega
  subst hi;rw[kY (Xh _),← hs,za7,← KD,← X7,show 32*(n / 32)+n % 32=n by omega,Ks]at h5;refine zb.see 0 _ (znv out oM) rfl rfl rfl ?_;rw[h5];exact .refl
theorem n_shr(a0:List Dig)(n:Nat)(ha:a0.length<=800000000)(hn:n<=1000000000000)(hn0:n≠0):
  CG0 275 [.sl dgE a0,i64 (-(n:Int))] [] (.full dgE (zm (val a0 / 2 ^ n))) []:=by
 refine zc Tryz.func275 ?_;refine zb.t (jy a0 oM) ?_;have la:=zJ a0;have va:=zr (val a0);generalize zm (val a0)=a at*;rw[← va];clear va;refine⟨λh=>?_,λh=>by omega⟩;intro hl2;refine Ar.o<|Br.mk (λh3=>?_) (λh3=>?_)
 ·have e:val a / 2 ^ n=0:=by
   refine Kg (Xr (jk a) ?_);rw[za7];exact XI dC oM
  rw[e,ju];exact zpm
 refine Ar.o<|Dv.pos ⟨oM,oM,by show _<=(9223372036854775807:Int);omega⟩<|Ar.o<|Dv.pos ⟨oM,oM⟩ ?_;intro hl4;refine Ar.o<|⟨Dig,dgE,0,rfl,Ob.o6 ?_⟩;intro hl5
 refine⟨Nat×List Dig,λ⟨i,out⟩=>⟨[(37,i64 i),(36,i64 (a.length - n / 32:Nat)),(0,.sl dgE a),(5,i64 (n / 32:Nat)),(6,i64 (n % 32:Nat)),(7,.own 0)],[(0,qD out)],1,107,0⟩,
  λq=>q.1<=a.length - n / 32/\q.2.length=a.length - n / 32/\∀j,j < q.1->dig q.2 j=val a / 2 ^ n / 4294967296 ^ j % 4294967296,λq=>a.length - n / 32 - q.1,(0,List.replicate (a.length - n / 32) 0),?_,?_,?_⟩
 ·exact⟨Xe _,by simp,λj h=>by dsimp only at h;omega⟩
 ·exact zL [0] ⟨rfl,congrArg (λn=>some (i64 n)) (by simp;omega),rfl,congrArg (λn=>some (i64 n)) oM,congrArg (λn=>some (i64 n)) oM,rfl,trivial⟩ ⟨congrArg (λn=>some (qD (List.replicate n 0))) oM,trivial⟩
 rintro⟨i,out⟩ ⟨g1,g2,g3⟩
 dsimp only at g1 g2 g3;refine⟨λh6=>?_,λh6=>?_⟩
 ·have d1:=yW a (n / 32+i);have d2:=yW a (n / 32+i+1);refine Ar.o<|zb.t (zeo a _ oM) ?_;rw[show((i:Int)+(n / 32:Nat)).toNat=n / 32+i by omega];(iterate 2 refine Ar.o ?_);refine zb.t (zeo a _ oM) ?_;rw[show((i:Int)+(n / 32:Nat)+1).toNat=n / 32+i+1 by omega];refine Ob.o1<|Ar.fit (by simp only[Int.reducePow];omega)<|⟨_,(zzC d1 d2 rfl).symm,?_⟩;refine Ob.o11<|Ar.wrap<|Ob.o<|Ob.o ?_;intro z hz
  refine⟨dof ((dig a (n / 32+i+1)*4294967296+dig a (n / 32+i)) / 2 ^ (n % 32)),congrArg (λn=>[u32 n]) (za8 (by rw[XW];simp)),?_⟩;refine Ar.o ?_
  refine⟨(i+1,out.set i (dof ((dig a (n / 32+i+1)*4294967296+dig a (n / 32+i)) / 2 ^ (n % 32)))),⟨by dsimp only;omega,by simp[g2],λj hj=>?_⟩,
   zf [0],by dsimp only;omega⟩
  dsimp only at hj ⊢
  by_cases e:i=j
  ·subst e;rw[jW,if_pos ⟨rfl,oM⟩,kE];have:=zsQ a (n / 32) (n % 32) i oM;rw[show 32*(n / 32)+n % 32=n by omega]at this;rw[this]
  ·rw[jW,if_neg (λh=>e h.1)];exact g3 j oM
 ·have hi:i=a.length - n / 32:=by omega
  have e:val out=val a / 2 ^ n:=by
   rw[zdC (λj hj=>g3 j oM),Xu];rw[XR (KS dC)];refine Xr (jk a) ?_;rw[za7,za7,← X7];exact XI dC oM
  refine zb.see 0 _ (znv out oM) rfl rfl rfl ?_;rw[e];exact .refl
theorem znw{s:ByteArray}{i:Nat}{b:UInt8}(hb:s[i]? =some b)(hi:i < s.size)(key:∀h:i < s.size,(s[i]'h).toNat=bitLen i):b.toNat=kN i:=by
 have e:=getElem?_pos s i hi;rw[hb]at e;rw[Xi e];exact key hi
theorem zdE{x:Nat}(b:Nat)(h:2 ^ b<=x):kN x=b+kN (x / 2 ^ b):=
 bitLen_shift x b (Nat.ne_of_gt (Nat.div_pos h (KS dC)))
theorem zsZ(x:Nat)(hx:x < 4294967296):CG0 331 [u32 x] [] (i64 (kN x)) []:=by
 refine zc Tryz.func331 ?_;have fin:∀(y:Nat) (k:Int),y < 256->(kN x:Int)=k+kN y->∀b:UInt8,b.toNat=kN y->(k+(b.toNat:Int))=kN x:=λy k _ h b hb=>by rw[h,hb]
 have small:∀y:Nat,y < 256->kN y<=8:=λy hy=>bitLen_le8 y hy
 refine⟨λh1=>?_,λh1=>?_⟩
 ·refine Ob.o1 ?_;have e1:(x:Int) / 2 ^ 16=((x / 65536:Nat):Int):=by simp
  rw[e1];have n1:=zdE (x:=x) 16 oM;rw[show(2:Nat) ^ 16=65536 by decide]at n1;have hx1:x / 65536 < 65536:=oM;generalize x / 65536=y at*;refine⟨λh2=>?_,λh2=>?_⟩
  ·refine Ob.o1 ?_;have e2:(y:Int) / 2 ^ 8=((y / 256:Nat):Int):=by simp
   rw[e2];have n2:=zdE (x:=y) 8 oM;rw[show(2:Nat) ^ 8=256 by decide]at n2;have hy1:y / 256 < 256:=oM;generalize y / 256=z at*;(iterate 2 refine Ar.o ?_);refine Ob.o12 ?_;intro b hb;have hb':b.toNat=kN z:=znw hb (by show z < 256;exact hy1) (λh=>len8tab_get z h);have:=small z hy1;(iterate 2 refine Ar.o ?_);exact zj oM
  ·have hy1:y < 256:=by omega
   refine Ar.o<|Ob.o12 ?_;intro b hb;have hb':b.toNat=kN y:=znw hb (by show y < 256;exact hy1) (λh=>len8tab_get y h);have:=small y hy1;(iterate 2 refine Ar.o ?_);exact zj oM
 ·refine⟨λh2=>?_,λh2=>?_⟩
  ·refine Ob.o1 ?_;have e2:(x:Int) / 2 ^ 8=((x / 256:Nat):Int):=by simp
   rw[e2];have n2:=zdE (x:=x) 8 oM;rw[show(2:Nat) ^ 8=256 by decide]at n2;have hy1:x / 256 < 256:=oM;generalize x / 256=z at*;(iterate 2 refine Ar.o ?_);refine Ob.o12 ?_;intro b hb;have hb':b.toNat=kN z:=znw hb (by show z < 256;exact hy1) (λh=>len8tab_get z h);have:=small z hy1;(iterate 2 refine Ar.o ?_);exact zj oM
  ·have hy1:x < 256:=by omega
   refine Ar.o<|Ob.o12 ?_;intro b hb;have hb':b.toNat=kN x:=znw hb (by show x < 256;exact hy1) (λh=>len8tab_get x h);have:=small x hy1;(iterate 2 refine Ar.o ?_);exact zj oM
theorem znx{x:Nat}(hx:x < 4294967296):kN x<=32:=by
 by_cases h:x=0
 ·subst h;decide
 ·have:=zbV h;have:=(Qr (by decide:1 < 2)).1 (KX this (show x < 2 ^ 32 from hx));omega
theorem zBY(x:Nat)(hx:x < 4294967296):CG0 274 [u32 x] [] (i64 (32 - kN x:Nat)) []:=by
 refine zc Tryz.func274 ?_;refine zb.t (zsZ x hx) ?_;have:=znx hx;exact Ar.o<|zj oM
theorem zpn(a:List Dig)(ha:a.length<=900000000):CG0 271 [.sl dgE a] [] (i64 (kN (val a))) []:=by
 refine zc Tryz.func271 ?_;refine zb.t (jy _ oM) ?_;intro hl;have hlen:=zJ a;refine⟨λh=>?_,λh=>?_⟩
 ·have:zm (val a)=[]:=XJ.1 oM;exact zj (by rw[yM.1 this];rfl)
 have hne:zm (val a)≠[]:=λe=>h (by rw[e];rfl)
 have hn:=(vR (val a)).resolve_left hne;have htop:=zbX hn;rw[zr]at htop;intro hl2;(iterate 2 refine Ar.o ?_);intro hl3;refine Ar.o<|Ob.o ?_;intro x hx;rw[show(((zm (val a)).length:Int) - 1).toNat=(zm (val a)).length - 1 by omega]at hx;have dx:=zY hx;have hxl:=x.isLt;refine zb.t (zsZ x.val hxl) ?_;rw[dx]at htop;have:=znx hxl;exact Ar.o<|zj oM
theorem zBZ(a:List Dig)(n:Nat)(ha:a.length<=800000000)(hn:n<=1000000000000):
  CG0 275 [.sl dgE a,i64 (-(n:Int))] [] (.sl dgE (zm (val a / 2 ^ n))) []:=by
 by_cases h:n=0
 ·subst h;have:=(zwS a 0 ha oM).le (zcy rfl);rw[Jk,Jb]at this;rw[Jk,Nat.div_one];exact this
 ·exact(n_shr a n ha hn h).le (zcy rfl)
theorem zB0(a:List Dig)(n:Nat)(ha:a.length<=800000000)(hn:n<=4096):
  CG0 275 [.sl dgE a,i64 n] [] (.sl dgE (zm (val a*2 ^ n))) []:=(zwS a n ha hn).le (zcy rfl)
theorem zrE{B s:Nat}(hB:B≠0)(hs:s+kN (dig (zm B) ((zm B).length - 1))=32):
  (zm (B*2 ^ s)).length=(zm B).length/\2147483648<=dig (zm (B*2 ^ s)) ((zm B).length - 1):=by
 have hne:zm B≠[]:=λe=>hB (yM.1 e)
 have htop:=zbX ((vR B).resolve_left hne);rw[zr]at htop;have hp:0 < 2 ^ s:=KS dC;have hV0:B*2 ^ s≠0:=Yc hB oM;have h1:=zdB B;have h2:=zbV hB;have hpos:=zbW.2 hB;have hl:=jG.2 hB
 have e:kN (B*2 ^ s)=kN B+s:=by
  refine zf4 ?_ hV0 ?_
  ·rw[X7];exact KK h1 hp
  ·rw[show kN B+s - 1=kN B - 1+s by omega,X7];exact Xp _ h2
 have e32:kN (B*2 ^ s)=32*(zm B).length:=oM;have hle:(zm (B*2 ^ s)).length<=(zm B).length:=jS (by rw[za7,← e32];exact zdB _);have hge:(zm B).length<=(zm (B*2 ^ s)).length:=qx (Qz _ hp);have hlen:(zm (B*2 ^ s)).length=(zm B).length:=oM;refine⟨hlen,?_⟩;have hnV:zm (B*2 ^ s)≠[]:=λe=>hV0 (yM.1 e)
 have hz:=(vR (B*2 ^ s)).resolve_left hnV;have ht2:=zbX hz;rw[zr,hlen]at ht2;rw[hlen]at hz;have:=zbV hz;rw[show kN (dig (zm (B*2 ^ s)) ((zm B).length - 1)) - 1=31 by omega]at this;exact this
theorem zwT {u q:List Dig} {k n V U:Nat} (hk:k < q.length) (hlen:q.length+n=u.length) (hV:V < 4294967296 ^ n) (g3:val (u.drop (k+1)) < V)
  (g4:U=V*(4294967296 ^ (k+1)*val (q.drop (k+1)))+val u):
  ((u.drop k).take (n+1)).length=n+1/\val ((u.drop k).take (n+1)) < 4294967296*V/\u=u.take k++((u.drop k).take (n+1)++u.drop (k+n+1))/\
  ∀w:List Dig,w=yi (n+1) (val ((u.drop k).take (n+1)) % V)->∀d:Dig,d.val=val ((u.drop k).take (n+1)) / V->
   val ((u.take k++(w++u.drop (k+n+1))).drop k) < V/\U=V*(4294967296 ^ k*val ((q.set k d).drop k))+val (u.take k++(w++u.drop (k+n+1))):=by
 have hwl:((u.drop k).take (n+1)).length=n+1:=by rw[Xk,XQ];omega
 have hd:=yW u k;have hdk:=zG u k;have hlt:val (u.drop k) < 4294967296*V:=oM;have hsp:=kV (u.drop k) (n+1);rw[JJ,show k+(n+1)=k+n+1 by omega]at hsp
 have hz:val (u.drop (k+n+1))=0:=by
  apply Nat.eq_zero_of_not_pos;intro h0;have h1:4294967296 ^ (n+1)<=4294967296 ^ (n+1)*val (u.drop (k+n+1)):=Qz _ h0;have h2:4294967296 ^ (n+1)=4294967296 ^ n*4294967296:=XS ..;omega
 rw[hz,Ko,XP]at hsp
 have hu:u=u.take k++((u.drop k).take (n+1)++u.drop (k+n+1)):=by
  have e1:u.drop (k+n+1)=(u.drop k).drop (n+1):=by rw[JJ];congr 1
  rw[e1,Ki,Ki]
 refine⟨hwl,oM,hu,?_⟩;intro w hw d hdv
 have hw0:val w=val ((u.drop k).take (n+1)) % V:=by
  rw[hw];refine zsY<|Xr (Kn _ oM) ?_;rw[XS];omega
 have hwl2:w.length=n+1:=by rw[hw,yE]
 have htl:(u.take k).length=k:=by rw[Xk];omega
 have hm:=Kn (val ((u.drop k).take (n+1))) (show V > 0 by omega);have hdm:=X3 (val ((u.drop k).take (n+1))) V;have hu2:=kV u k;rw[hsp]at hu2;constructor
 ·rw[List.drop_append_of_le_length oM,Jh oM,K5,vQ,hz];omega
 ·rw[vQ,vQ,hz,htl,zbM hk,hw0,hdv,g4,hu2,XS];generalize val ((u.drop k).take (n+1))=W at*;generalize W / V=D at*;generalize W % V=R at*;generalize 4294967296 ^ k=p at*;generalize val (q.drop (k+1))=Q at*;generalize val (u.take k)=T at*;clear hw hw0 hdv hsp hz hu hu2 g4 g3 hdk hwl hwl2 htl hlt hd hlen hk;subst hdm
  grind
theorem zzD{W V Bn g:Nat}(h:g=W / V∨g=W / V+1)(hV:0 < V)(hVB:V<=Bn):
  (if W < g*V then W+Bn - g*V else W - g*V)=(if W < g*V then W % V+Bn - V else W % V)/\(W < g*V->g=W / V+1)/\(¬W < g*V->g=W / V):=by
 have hdm:=X3 W V;have hm:=Kn W hV
 rcases h with rfl | rfl
 ·have:¬W < W / V*V:=Nat.not_lt_of_le (JE W V);rw[if_neg this,if_neg this];refine⟨?_,λh=>absurd h this,λ_=>rfl⟩;rw[Ks];omega
 ·have e:(W / V+1)*V=V*(W / V)+V:=by rw[XY,Ys,Ks]
  have:W < (W / V+1)*V:=oM;rw[if_pos this,if_pos this];refine⟨?_,λ_=>rfl,λh=>absurd this h⟩;omega
theorem zzE{t p d c R:Nat}(hp:t < p)(hd:d < 4294967296)(hc:c<=1)(e:t+p*(d+c)=R+p*4294967296):(d+c) % 4294967296=0/\t=R:=by
 have h:d+c=4294967296:=by
  rcases Qe (d+c) 4294967296 with h | h
  ·have h1:p*(d+c+1)<=p*4294967296:=Kb _ h;rw[KF,Jb]at h1;omega
  ·omega
 rw[h]at e ⊢;exact⟨rfl,oM⟩
theorem zB1{t1 t2 t3 p c z y xq xr:Nat}(f5:t1+p*c=t2+t3)(hd:4294967296*xq+xr=c+(z+y)):t1+p*xr+p*4294967296*xq=t2+p*z+(t3+p*y):=by grind
theorem zjQ(a b:List Dig)(ha:a.length<=400000000)(hb:b.length<=400000000)(hb0:val b≠0):
  CG0 217 [.sl dgE a,.sl dgE b] [] (.tup [.sl dgE (zm (val a / val b)),.sl dgE (zm (val a % val b)),i64 0]) []:=by
 refine zc Tryz.func217 ?_;refine zb.t (jy _ oM)<|zb.t (jy _ oM) ?_;have hla:=zJ a;have hlb:=zJ b;generalize val a=A at*;generalize val b=B at*;intro hl;refine⟨λh=>?_,λh=>?_⟩
 ·exact absurd (yM.1 (XJ.1 oM)) hb0
 refine zb.t (zBb _ _ oM oM) ?_;rw[zr,zr];refine⟨λh2=>?_,λh2=>?_⟩
 ·have hlt:=zel.1 h2;refine zb.t (zsW _ oM) ?_;rw[Kg hlt,Xu hlt,ju];exact vt (.cons zD (.cons .refl (.cons .refl .nil)))
 have hge:B<=A:=QR λh=>h2 (zel.2 h)
 intro hl2;refine⟨λh3=>?_,λh3=>?_⟩
 ·refine Ob.o ?_;intro x hx;have dx:=zY hx;have hxl:=x.isLt
  have hx1:zm B=[x]:=by
   have hx:(zm B)[0]? =some x:=hx;obtain⟨y,hy⟩:=J5.1 (show(zm B).length=1 by omega);rw[hy]at hx ⊢;simp at hx;rw[hx]
  have hB:x.val=B:=by
   have:=zr B;rw[hx1,vu,znq]at this;omega
  refine zb.t (n_one (zm A) x.val oM hxl oM) ?_;rw[zr,hB];have hm:=Kn A (show B > 0 by omega);exact Ar.o<|zb.t (zen (A % B) oM)<|.refl
 intro hl3;refine Ar.o<|Ob.o ?_;intro x hx;rw[show(((zm B).length:Int) - 1).toNat=(zm B).length - 1 by omega]at hx;have dx:=zY hx;have hxl:=x.isLt;refine zb.t (zBY x.val hxl) ?_;have hn32:=znx hxl;obtain⟨s,hs⟩:∃s,32 - kN x.val=s:=⟨_,rfl⟩;rw[hs];refine zb.t (zB0 _ s oM oM)<|zb.t (zwS _ s oM oM) ?_;rw[zr,zr];obtain⟨hvl,hvt⟩:=zrE (B:=B) (s:=s) hb0 (by rw[dx];omega);refine⟨Dig,dgE,[0],rfl,Ob.mk (zhb 0) ?_⟩
 have hul:(zm (A*2 ^ s)).length<=400000001:=XB (jS (k:=(zm A).length+1) (by
  have h1:=zcA (n:=A) (Xh _);have h2:2 ^ s<=4294967296 ^ 1:=by rw[za7];exact XI dC oM
  rw[X7]
  exact Xr (KK h1 (KS dC)) (Kb _ h2))) oM
 refine⟨_,rfl,Ob.mk ⟨List.cons_ne_nil _ _,(by show((_:Int)+((1:Nat):Int))*((4:Nat):Int)<=_;omega),(by show _+1<=_;omega),dC,λ_ _=>rfl,λ_ _=>rfl⟩ ?_⟩;have hp0:0 < 2 ^ s:=KS dC;have hmA:(zm A).length<=(zm (A*2 ^ s)).length:=qx (Qz _ hp0);have hmB:(zm (B*2 ^ s)).length<=(zm (A*2 ^ s)).length:=qx (Xp _ hge);have hV0:B*2 ^ s≠0:=Yc hb0 oM;have eq1:A / B=A*2 ^ s / (B*2 ^ s):=(Yl _ _ hp0).symm
 have eq2:A % B=A*2 ^ s % (B*2 ^ s) / 2 ^ s:=by rw[Ym,Nat.mul_div_cancel _ hp0]
 rw[eq1,eq2];have hlb2:(zm B).length≠0/\(zm B).length≠1:=⟨oM,oM⟩;rw[← hvl]at hvt;clear eq1 eq2 hp0;generalize A*2 ^ s=U at*;generalize B*2 ^ s=V at*;refine⟨Unit,λ_=>⟨[(0,.sl dgE (zm A)),(9,i64 s),(10,.sl dgE (zm V)),(11,.own 0)],[(0,qD (zm U++[0]))],1,148,0⟩,λ_=>True,λ_=>0,(),trivial,?_,?_⟩
 ·exact zf [1]
 rintro⟨⟩ _
 intro hl4;intro hl5;have hll:(zm U++[0]).length=(zm U).length+1:=by simp
 refine⟨λh4=>?_,λ_=>?_⟩
 ·omega
 intro hl6;intro hl7;refine Ar.o ?_;obtain⟨nq,hnq⟩:∃nq:Nat,nq+(zm V).length=(zm U).length+1:=⟨(zm U).length+1 - (zm V).length,oM⟩;refine⟨Dig,dgE,0,rfl,Ob.o6 ?_⟩;intro hl8;refine Ar.o ?_;have hVn:V < 4294967296 ^ (zm V).length:=zcA (Xh _)
 refine⟨Nat×List Dig×List Dig,λ⟨j,q,u⟩=>⟨[(13,i64 ((j:Int) - 1)),(12,.own 1),(11,.own 0),(10,.sl dgE (zm V)),(9,i64 s)],[(1,qD q),(0,qD u)],2,148,0⟩,
  λx=>x.1<=nq/\x.2.1.length=nq/\x.2.2.length=(zm U).length+1/\val (x.2.2.drop x.1) < V/\U=V*(4294967296 ^ x.1*val (x.2.1.drop x.1))+val x.2.2,λx=>x.1,
  (nq,List.replicate nq 0,zm U++[0]),?_,?_,?_⟩
 ·refine⟨Xh _,by simp,hll,?_,?_⟩
  ·dsimp only;have hz:val (zm U++[0])=U:=by rw[vv,zr];rfl
   rw[zjI,hz];have h1:=zcA (n:=U) (Xh _);have h2:=znr hV0;refine Xr ?_ h2;rw[XR (zdy _),← X7];refine Xr h1 (XI dC oM)
  ·dsimp only;rw[kj (by simp),Ko,Ko,vv,zr];show U=0+(U+_*0);omega
 ·exact zL [0,1] ⟨congrArg (λn=>some (i64 n)) (by simp only[Kh];omega),rfl,rfl,rfl,rfl,trivial⟩ ⟨congrArg (λn=>some (qD (List.replicate n 0))) oM,rfl,trivial⟩
 rintro⟨j,q,u⟩ ⟨g1,g2,g3,g4,g5⟩
 dsimp only at g1 g2 g3 g4 g5;refine⟨λk1=>?_,λk1=>?_⟩
 ·obtain⟨k,rfl⟩:∃k,j=k+1:=⟨j - 1,oM⟩;rw[show(((k+1:Nat):Int) - 1)=k by omega];obtain⟨r1,r2,r3,r4⟩:=zwT (k:=k) (n:=(zm V).length) oM oM hVn g4 g5;intro hl9;(iterate 2 refine Ar.o ?_);refine Sl.win (Ob.mk oM ?_);have htl:(u.take k).length=k:=by rw[Xk];omega
  rw[show(((k+1:Nat):Int) - 1+((zm V).length:Int)+1 - (((k+1:Nat):Int) - 1))=(((u.drop k).take ((zm V).length+1)).length:Nat) by rw[r1];omega,
   show(((k+1:Nat):Int) - 1)=((u.take k).length:Nat) by omega]
  have hW:(u.drop ((u.take k).length:Int).toNat).take (((u.drop k).take ((zm V).length+1)).length:Int).toNat=(u.drop k).take ((zm V).length+1):=by
   rw[XW,XW,r1,htl]
  obtain⟨post,hpost⟩:∃post,u.drop (k+(zm V).length+1)=post:=⟨_,rfl⟩;obtain⟨pre,hpre⟩:∃pre,u.take k=pre:=⟨_,rfl⟩;rw[hpost,hpre]at r3 r4;rw[hpre]at htl hW;rw[hpre];obtain⟨hgc,_,_⟩:=zlW (U:=(u.drop k).take ((zm V).length+1)) (V:=zm V) r1 oM hvt (by rw[zr];exact r2);rw[zr]at hgc;have cg:=zzB ((u.drop k).take ((zm V).length+1)) (zm V) oM r1 oM hvt (by rw[zr];exact r2);generalize zhf ((u.drop k).take ((zm V).length+1)) (zm V)=g at hgc cg;rw[← hW]at cg;refine zb.t cg ?_;clear cg hW
  generalize (u.drop k).take ((zm V).length+1)=W at*;have hD:val W / V < 4294967296:=by rw[XR oM];exact r2
  have hpn:4294967296 ^ ((zm V).length+1)=4294967296 ^ (zm V).length*4294967296:=XS ..;obtain⟨m1,m2,m3⟩:=zzD (Bn:=4294967296 ^ ((zm V).length+1)) hgc (X5 hV0) oM;have hmod:=Kn (val W) (X5 hV0);have ct:=zBW pre W post (zm V) g r1 oM;rw[← r3,zr]at ct
  have htw:zpl W (zm V) g=yi ((zm V).length+1) (if val W < g*V then val W % V+4294967296 ^ ((zm V).length+1) - V else val W % V):=by
   unfold zpl;rw[zr,r1,m1]
  rw[htw]at ct;clear htw m1;refine zb.hand 0 _ _ _ rfl ct (qZ _) (qZ _) rfl rfl ?_;clear ct hgc;generalize val W / V=D at*;generalize val W % V=R at*;have hul2:u.length=pre.length+(W.length+post.length):=by rw[r3];simp
  refine⟨λk2=>?_,λk2=>?_⟩
  ·have hg:=m2 k2;rw[if_pos k2];refine Ar.o ?_;intro hl10;obtain⟨w0,hw0⟩:∃w0,yi ((zm V).length+1) (R+4294967296 ^ ((zm V).length+1) - V)=w0:=⟨_,rfl⟩;have hw0l:w0.length=(zm V).length+1:=by rw[← hw0,yE]
   have hw0v:val w0=R+4294967296 ^ ((zm V).length+1) - V:=by rw[← hw0];exact zsY oM
   rw[hw0]
   refine⟨Nat×List Dig×Nat,λ⟨i,w,c⟩=>⟨[(105,i64 i),(104,i64 (zm V).length),(103,.sl dgE (zm V)),(16,u64 c),(15,u64 ((g:Int) - 1)),(14,.win 0 1 (pre.length:Nat) (W.length:Nat)),(13,i64 (pre.length:Nat)),(12,.own 1),(11,.own 0),(10,.sl dgE (zm V)),(9,i64 s)],
     [(1,qD q),(0,qD (pre++(w++post)))],2,148,0⟩,
    λx=>x.1<=(zm V).length/\x.2.1.length=(zm V).length+1/\x.2.2<=1/\(∀j,x.1<=j->dig x.2.1 j=dig w0 j)/\val (x.2.1.take x.1)+4294967296 ^ x.1*x.2.2=val (w0.take x.1)+val ((zm V).take x.1),
    λx=>(zm V).length - x.1,(0,w0,0),?_,?_,?_⟩
   ·exact⟨Xe _,hw0l,Xe _,λ_ _=>rfl,by simp[val]⟩
   ·exact zL [0,1] ⟨rfl,rfl,rfl,rfl,rfl,rfl,congrArg (λn=>some (i64 n)) oM,rfl,rfl,rfl,rfl,trivial⟩ ⟨rfl,rfl,trivial⟩
   rintro⟨i,w,c⟩ ⟨f1,f2,f3,f4,f5⟩
   dsimp only at f1 f2 f3 f4 f5;have hlw:(pre++(w++post)).length=pre.length+(zm V).length+1+post.length:=by simp[f2];omega
   refine⟨λk3=>?_,λk3=>?_⟩
   ·refine Ob.o ?_;intro y hy;have hy:(zm V)[i]? =some y:=hy;have dy:=zY hy;have hyl:=y.isLt;refine Ob.o5<|Ob.mk (by rw[hlw];omega) ?_;intro z hz;have hz:w[i]? =some z:=by rw[← ziG (pre:=pre) (post:=post) oM,← hz];congr 1
    have dz:=zY hz;have hzl:=z.isLt;(iterate 4 refine Ar.o ?_);refine Ar.wrap<|Ob.o5<|Ob.mk (by rw[hlw];omega) ?_;intro z' hz';refine⟨dof (c+(z.val+y.val)),congrArg (λn=>[u32 n]) (by rw[za8 rfl];simp),?_⟩;refine Ob.o1<|Ar.o ?_
    refine⟨(i+1,w.set i (dof (c+(z.val+y.val))),(c+(z.val+y.val)) / 4294967296),⟨by dsimp only;omega,by simp[f2],by dsimp only;omega,λj hj=>?_,?_⟩,
     qA [(0,some 0),(1,some 1)] rfl rfl rfl ⟨rfl,rfl,rfl,congrArg (λn=>some (u64 n)) (by simp only[Int.reducePow];omega),rfl,rfl,rfl,rfl,rfl,rfl,rfl,trivial⟩
      ⟨rfl,congrArg (λl=>some (qD l)) (by rw[← ziH oM];congr 1),trivial⟩,by dsimp only;omega⟩
    ·dsimp only at hj ⊢;rw[jW,if_neg oM];exact f4 j oM
    ·dsimp only;rw[zU,zU,zU,XS,dy,jW,if_pos ⟨rfl,oM⟩,kE,← f4 i (Xh _),dz];have ht:(w.set i (dof (c+(z.val+y.val)))).take i=w.take i:=by rw[Q0 oM]
     rw[ht];have hd:=X3 (c+(z.val+y.val)) 4294967296;exact zB1 f5 hd
   ·have hi:i=(zm V).length:=by omega
    subst hi;intro hl11;refine Ob.o5<|Ob.mk (by rw[hlw];omega) ?_;intro z hz;have hz:w[(zm V).length]? =some z:=by rw[← ziG (pre:=pre) (post:=post) oM,← hz];congr 1
    have dz:=zY hz;have hzl:=z.isLt;refine Ar.o<|Ar.wrap<|Ob.o5<|Ob.mk (by rw[hlw];omega) ?_;intro z' hz';refine⟨dof (z.val+c),congrArg (λn=>[u32 n]) (by rw[za8 rfl];simp),?_⟩
    have hw2:w.set (zm V).length (dof (z.val+c))=yi ((zm V).length+1) R:=by
     rw[← zsX (w.set _ _),X0,f2];congr 1;have e1:=kV w0 (zm V).length;have e3:=zG w0 (zm V).length;rw[kj (show w0.length<=(zm V).length+1 by omega),Ko,XP]at e3;rw[e3,hw0v,hpn,← f4 _ (Xh _),dz]at e1;rw[kY (Xh (zm V).length),zr]at f5;have g2:=kV (w.set (zm V).length (dof (z.val+c))) (zm V).length;have g3:=zG (w.set (zm V).length (dof (z.val+c))) (zm V).length;have g0:val ((w.set (zm V).length (dof (z.val+c))).drop ((zm V).length+1))=0:=kj (by rw[X0];omega)
     rw[g0,Ko,XP,jW,if_pos ⟨rfl,oM⟩,kE]at g3;rw[g3,Q0 (Xh _)]at g2;rw[g2];obtain⟨n1,n2⟩:=zzE (R:=R) (ja w (zm V).length) hzl f3 (by rw[KF];omega);rw[n1,n2];rfl
    have hset:(pre++(w++post)).set (pre.length+(zm V).length) (dof (z.val+c))=pre++(yi ((zm V).length+1) R++post):=by
     rw[ziH oM,hw2]
    obtain⟨e1,e2⟩:=r4 _ rfl (dof D) (by rw[kE,Xu hD]);refine Ar.o<|Ob.o<|Ob.o ?_;intro z2 hz2;refine⟨dof D,congrArg (λn=>[u32 n]) (by rw[kE,Xu hD];omega),?_⟩;refine Ar.o ?_
    refine⟨(k,q.set k (dof D),pre++(yi ((zm V).length+1) R++post)),⟨by dsimp only;omega,by simp[g2],by simp[yE];omega,e1,e2⟩,
     zL [0,1] ⟨congrArg (λn=>some (i64 n)) oM,rfl,rfl,rfl,rfl,trivial⟩ ⟨congrArg (λn=>some (qD (q.set n _))) oM,congrArg (λl=>some (qD l)) (by rw[← hset];congr 1),trivial⟩,by dsimp only;omega⟩
  ·have hg:=m3 k2;rw[if_neg k2];obtain⟨e1,e2⟩:=r4 _ rfl (dof D) (by rw[kE,Xu hD]);refine Ar.o<|Ob.o<|Ob.o ?_;intro z2 hz2;refine⟨dof D,congrArg (λn=>[u32 n]) (by rw[kE,Xu hD];omega),?_⟩;refine Ar.o ?_
   refine⟨(k,q.set k (dof D),pre++(yi ((zm V).length+1) R++post)),⟨by dsimp only;omega,by simp[g2],by simp[yE];omega,e1,e2⟩,
    zL [0,1] ⟨congrArg (λn=>some (i64 n)) oM,rfl,rfl,rfl,rfl,trivial⟩ ⟨congrArg (λn=>some (qD (q.set n _))) oM,rfl,trivial⟩,by dsimp only;omega⟩
 ·have hj:j=0:=by omega
  subst hj;rw[KT]at g4 g5;rw[Jk,Ys]at g5;refine zb.see 1 _ (jy _ oM) rfl rfl rfl<|Ar.o<|zb.see 0 _ (zBZ u s oM oM) rfl rfl rfl ?_
  have e1:val q=U / V:=by
   rw[g5,Qk oM,Kg g4,XP]
  have e2:val u=U % V:=by
   rw[g5,Ql,Xu g4]
  exact vt (.cons (z9 (by rw[e1])) (.cons (z9 (by rw[e2])) (.cons .refl .nil)))
theorem n_gcd(a b:List Dig)(ha:a.length<=400000000)(hb:b.length<=400000000):
  CG0 215 [.sl dgE a,.sl dgE b] [] (.sl dgE (zm (Nat.gcd (val a) (val b)))) []:=by
 refine zc Tryz.func215 ?_;refine zb.t (zag _ oM)<|zb.t (zag _ oM) ?_;have hla:=zJ a;have hlb:=zJ b
 refine⟨Nat×Nat,λ⟨A,B⟩=>⟨[(0,.sl dgE (zm A)),(1,.sl dgE (zm B))],[],0,25,0⟩,
  λx=>(zm x.1).length<=400000000/\(zm x.2).length<=400000000/\Nat.gcd x.1 x.2=Nat.gcd (val a) (val b),λx=>x.2,(val a,val b),?_,?_,?_⟩
 ·exact⟨by dsimp only;omega,by dsimp only;omega,rfl⟩
 ·exact zE []
 rintro⟨A,B⟩ ⟨h1,h2,h3⟩
 dsimp only at h1 h2 h3;intro hl;refine⟨λk=>?_,λk=>?_⟩
 ·have hB:B≠0:=jG.1 oM;refine zb.t (zjQ (zm A) (zm B) oM oM (by rw[zr];exact hB)) ?_;rw[zr,zr];have hm:=Kn A (X5 hB);refine⟨(B,A % B),⟨h2,XB (qx (Yy hm)) h2,?_⟩,zE [],hm⟩;dsimp only;rw[← h3,QP B,QP A B,Nat.gcd_rec B A]
 ·have hB:B=0:=yM.1 (XJ.1 oM);subst hB;rw[Nat.gcd_zero_right]at h3;exact z9 (by rw[h3])
theorem zeW(p:Prop)[i:Decidable p](m:List Dig)(hm:m.length<=1000000000):
  CG0 212 [.pr p i,.sl dgE m] [] (.agg (biE (ofZ (if p then -(val m:Int) else val m)))) []:=by
 refine zc Tryz.func212 ?_;refine zb.t (zag m hm) ?_;have hd:=jG (n:=val m);refine⟨λh=>?_,λh=>?_⟩
 ·intro hl;refine qF (.cons (zF ?_) (.cons (z9 ?_) .nil))
  ·rw[zaG,if_pos h];omega
  ·rw[jX,if_pos h];congr 1;omega
 ·refine qF (.cons (zd ?_) (.cons (z9 ?_) .nil))
  ·rw[zaG,if_neg h];omega
  ·rw[jX,if_neg h];congr 1
theorem zB2(m:List Dig)(hm:m.length<=1000000000):CG0 212 [bl true,.sl dgE m] [] (.agg (biE (ofZ (-(val m:Int))))) []:=by
 have h:=(zeW True m hm).args (.cons (zR trivial) LEs.refl)
 rwa [if_pos trivial]at h
theorem zwU(m:List Dig)(hm:m.length<=1000000000):CG0 212 [bl false,.sl dgE m] [] (.agg (biE (ofZ (val m:Int)))) []:=by
 have h:=(zeW False m hm).args (.cons (zd not_false) LEs.refl)
 rwa [if_neg not_false]at h
theorem zwV(a:BI)(hm:a.mag.length<=1000000000):
  CG0 212 [pr (a.neg=true),.sl dgE a.mag] [] (.agg (biE (ofZ a.v))) []:=zeW (a.neg=true) a.mag hm
theorem zep(n:Int)(hn:R64 n):CG0 155 [i64 n] [] (.agg (biE (ofZ n))) []:=by
 refine zc Tryz.func155 ?_;refine⟨λh=>?_,λh=>?_⟩
 ·refine Ar.wrap<|Ar.wrap ?_;have e:IntKind.u64.wrap (-IntKind.u64.wrap n)=((n.natAbs:Nat):Int):=by rw[yx,yx];omega
  rw[e];refine zb.t (zen n.natAbs oM)<|zb.t (zB2 (zm n.natAbs) (by have:=qT hn;unfold js at this;omega)) ?_;rw[zr,show(-(n.natAbs:Int))=n by omega];exact .refl
 ·refine Ar.wrap ?_;have e:IntKind.u64.wrap n=((n.natAbs:Nat):Int):=by rw[yx];omega
  rw[e];refine zb.t (zen n.natAbs oM)<|zb.t (zwU (zm n.natAbs) (by have:=qT hn;unfold js at this;omega)) ?_;rw[zr,show(n.natAbs:Int)=n by omega];exact .refl
theorem zjR(a:BI)(ha:a.mag.length<=900000000):CG0 211 [.agg (biE a)] [] (i64 a.v.sign) []:=by
 refine zc Tryz.func211 ?_;refine zb.t (zpn a.mag ha) ?_;have h1:=zbW (n:=val a.mag);have h2:=a.v_eq;refine⟨λh=>?_,λh=>?_⟩
 ·have:a.v=0:=by omega
  exact zj (by rw[this];rfl)
 refine⟨λh3=>?_,λh3=>?_⟩
 ·refine zj (Kd ?_).symm
  rcases h2 with⟨e1,e2⟩ | ⟨e1,e2⟩
  ·omega
  ·rw[e1]at h3;cases h3
 ·refine zj (Km ?_).symm
  rcases h2 with⟨e1,e2⟩ | ⟨e1,e2⟩
  ·exact absurd e1 h3
  ·omega
theorem zBe(a:BI)(ha:a.mag.length<=1000000000):CG0 156 [.agg (biE a)] [] (.agg (biE (ofZ (-a.v)))) []:=by
 refine zc Tryz.func156 ?_;refine zb.t (zeW (¬a.neg=true) a.mag ha) ?_
 have:(if ¬a.neg=true then -(val a.mag:Int) else(val a.mag:Int))= -a.v:=by
  rcases a.v_eq with⟨h1,h2⟩ | ⟨h1,h2⟩ <;> simp[h1,h2]
 rw[this];exact .refl
theorem zBf(a b:BI)(ha:a.mag.length<=800000000)(hb:b.mag.length<=800000000):CG0 158 [.agg (biE a),.agg (biE b)] [] (.agg (biE (ofZ (a.v+b.v)))) []:=by
 refine zc Tryz.func158 ?_;refine⟨λh=>?_,λh=>?_⟩
 ·refine Dr.k<|zb.t (zBc a.mag b.mag oM oM) ?_;have hl:=zbZ ha hb;refine zb.t (zeW (a.neg=true) _ oM) ?_
  have:(if a.neg=true then -(val (zm (val a.mag+val b.mag)):Int) else(val (zm (val a.mag+val b.mag)):Int))=a.v+b.v:=by
   rw[zr]
   rcases a.v_eq with⟨h1,h2⟩ | ⟨h1,h2⟩ <;> rcases b.v_eq with⟨h3,h4⟩ | ⟨h3,h4⟩ <;> simp[h1,h3]at h <;> simp[h1,h2,h4] <;> omega
  rw[this];exact .refl
 ·refine zb.t (zBd a.mag b.mag oM oM) ?_;have hl:(zm (val a.mag - val b.mag)).length<=1000000000:=XB (qx (Yw _ _)) (XB (zJ _) oM);have hl2:(zm (val b.mag - val a.mag)).length<=1000000000:=XB (qx (Yw _ _)) (XB (zJ _) oM);refine⟨λh2=>?_,λh2=>?_⟩
  ·refine zb.t (zeW (a.neg=true) _ hl) ?_
   have:(if a.neg=true then -(val (zm (val a.mag - val b.mag)):Int) else(val (zm (val a.mag - val b.mag)):Int))=a.v+b.v:=by
    rw[zr]
    rcases a.v_eq with⟨h1,h2⟩ | ⟨h1,h2⟩ <;> rcases b.v_eq with⟨h3,h4⟩ | ⟨h3,h4⟩ <;> simp[h1,h3]at h <;> simp[h1,h2,h4] <;> omega
   rw[this];exact .refl
  ·refine zb.t (zBd b.mag a.mag oM oM)<|zb.t (zeW (b.neg=true) _ hl2) ?_
   have:(if b.neg=true then -(val (zm (val b.mag - val a.mag)):Int) else(val (zm (val b.mag - val a.mag)):Int))=a.v+b.v:=by
    rw[zr]
    rcases a.v_eq with⟨h1,h2⟩ | ⟨h1,h2⟩ <;> rcases b.v_eq with⟨h3,h4⟩ | ⟨h3,h4⟩ <;> simp[h1,h3]at h <;> simp[h3,h2,h4] <;> omega
   rw[this];exact .refl
theorem zT(z:Int):(ofZ z).mag.length=js z:=rfl
theorem zpo(a b:BI)(ha:a.mag.length<=800000000)(hb:b.mag.length<=800000000):CG0 210 [.agg (biE a),.agg (biE b)] [] (.agg (biE (ofZ (a.v - b.v)))) []:=by
 refine zc Tryz.func210 ?_;refine Dr.k<|zb.t (zBe b oM) ?_;have h1:=zau b;refine zb.t (zBf a (ofZ (-b.v)) oM (by rw[zT,zaf];omega)) ?_;rw[zW,← Q6];exact .refl
theorem zeX(a b:BI)(ha:a.mag.length<=400000000)(hb:b.mag.length<=400000000):CG0 152 [.agg (biE a),.agg (biE b)] [] (.agg (biE (ofZ (a.v*b.v)))) []:=by
 refine zc Tryz.func152 ?_;refine Dr.k<|zb.t (n_mul a.mag b.mag ha hb) ?_
 have hl:(zm (val a.mag*val b.mag)).length<=1000000000:=by
  refine XB (jS (k:=a.mag.length+b.mag.length) ?_) oM;rw[X7];exact K4 (jk _) (jk _)
 refine zb.t (zeW (¬(a.neg=true↔b.neg=true)) _ hl) ?_;rw[zr,zBa];exact .refl
theorem zpp(a:BI)(ha:a.mag.length<=900000000):CG0 209 [.agg (biE a)] [] (i64 (kN a.v.natAbs)) []:=by
 refine zc Tryz.func209 ?_;refine zb.t (zpn a.mag ha) ?_;rw[← a.v_abs];exact .refl
theorem zwW{a b:Int}(hb:0 < b):a / b=if a < 0 then -((a.natAbs / b.natAbs+(if a.natAbs % b.natAbs=0 then 0 else 1):Nat):Int) else((a.natAbs / b.natAbs:Nat):Int):=by
 have hdm:=X3 a.natAbs b.natAbs;have hm:=Kn a.natAbs (show b.natAbs > 0 by omega);generalize a.natAbs / b.natAbs=q at*;generalize a.natAbs % b.natAbs=r at*;have e:(b:Int)*(q:Int)=((b.natAbs*q:Nat):Int):=by rw[XZ];congr 1;omega
 by_cases h:a < 0
 ·rw[if_pos h]
  by_cases h0:r=0
  ·rw[if_pos h0,XP];exact((Qa hb).2 ⟨(by rw[QJ,e];omega:(0:Int)+b*(-(q:Int))=a),oM,hb⟩).1
  ·rw[if_neg h0];exact((Qa hb (r:=b - r)).2 ⟨by rw[QJ,QD,Q9,e];omega,oM,oM⟩).1
 ·rw[if_neg h];exact((Qa hb (r:=r)).2 ⟨by rw[e];omega,oM,oM⟩).1
theorem zjS(p:Prop)[i:Decidable p]:CG0 222 [.pr p i] [] (.fn 279 [.loc 0 0]) [(0,.box 4 [.pr p i])]:=by
 exact qY tok mix Tryz.func222 rfl rfl rfl<|⟨some 0,zzu (.cons (.loc 0 0 rfl) .nil),rfl,rfl⟩
theorem zhg(p:Prop)[i:Decidable p](m:List Dig)(hm:m.length<=1000000000):
  CG0 279 [.sl dgE m,.ptr [.pr p i]] [] (.agg (biE (ofZ (if p then -(val m:Int) else val m)))) []:=by
 refine zc Tryz.func279 ?_;exact zb.t (zeW p m hm)<|.refl
theorem zwX(a b:BI)(ha:a.mag.length<=200000000)(hb:b.mag.length<=200000000)(h0:0 < b.v):
  CG0 160 [.agg (biE a),.agg (biE b)] [] (.tup [.agg (biE (ofZ (a.v / b.v))),.agg (biE (ofZ (a.v % b.v))),i64 0]) []:=by
 refine zc Tryz.func160 ?_;refine Dr.k<|zb.t (zwV a oM)<|zb.t (zwV b oM) ?_;have la:=zau a;have lb:=zau b;refine zb.t (zjQ (zm a.v.natAbs) (zm b.v.natAbs) (by unfold js at la;omega) (by unfold js at lb;omega) (by rw[zr];omega)) ?_;rw[zr,zr];refine⟨λh=>absurd rfl h,λ_=>?_⟩;have hza:=zaG a.v;have hzb:=zaG b.v;have hq:=zwW (a:=a.v) h0;have hm:=Int.emod_def a.v b.v
 have zq:js (a.v / b.v)<=js a.v:=zbY (by
  have:=QU a.v b.v
  exact this)
 have zp:=kO (a.v / b.v) b.v;have neg1:a.v < 0->¬((ofZ a.v).neg=true↔(ofZ b.v).neg=true):=λh=>by rw[hza,hzb];omega
 have neg2:¬a.v < 0->¬¬((ofZ a.v).neg=true↔(ofZ b.v).neg=true):=λh=>by rw[hza,hzb];omega
 have q1:(zm (a.v.natAbs / b.v.natAbs)).length<=200000000:=XB (qx (KV _ _)) (by unfold js at la;omega);refine⟨λh1=>?_,λh1=>?_⟩
 ·have hneg:a.v < 0:=XL λh=>neg2 h h1
  intro hl;refine⟨λh2=>?_,λh2=>?_⟩
  ·have hr:a.v.natAbs % b.v.natAbs≠0:=jG.1 oM;refine zb.t (zen 1 dC)<|zb.t (zBc _ _ oM (by decide +kernel)) ?_;rw[zr,zr];rw[if_pos hneg,if_neg hr]at hq;have ql:=zbZ (a:=zm (a.v.natAbs / b.v.natAbs)) (b:=zm 1) q1 (by decide +kernel);rw[zr,zr]at ql;refine zb.fresh _ _ (zjS (¬((ofZ a.v).neg=true↔(ofZ b.v).neg=true))) rfl rfl (.inr rfl)<|zb.t (zhg _ (zm (a.v.natAbs / b.v.natAbs+1)) oM) ?_;rw[zr,if_pos h1,← hq];refine Dr.k<|zb.t (zeX (ofZ (a.v / b.v)) (ofZ b.v) (by rw[zT];omega) (by rw[zT];omega)) ?_
   refine zb.t (zpo (ofZ a.v) (ofZ ((ofZ (a.v / b.v)).v*(ofZ b.v).v)) (by rw[zT];omega) (by rw[zT,zW,zW];omega)) ?_;rw[zW,zW,zW,zW,Qm (a.v / b.v),← hm];exact .refl
  ·have hr:a.v.natAbs % b.v.natAbs=0:=yM.1 (XJ.1 oM);rw[if_pos hneg,if_pos hr,XP]at hq;refine zb.fresh _ _ (zjS (¬((ofZ a.v).neg=true↔(ofZ b.v).neg=true))) rfl rfl (.inr rfl)<|zb.t (zhg _ (zm (a.v.natAbs / b.v.natAbs)) oM) ?_;rw[zr,if_pos h1,← hq];refine Dr.k<|zb.t (zeX (ofZ (a.v / b.v)) (ofZ b.v) (by rw[zT];omega) (by rw[zT];omega))<|zb.t (zpo (ofZ a.v) (ofZ ((ofZ (a.v / b.v)).v*(ofZ b.v).v)) (by rw[zT];omega) (by rw[zT,zW,zW];omega)) ?_;rw[zW,zW,zW,zW,Qm (a.v / b.v),← hm]
   exact .refl
 ·have hneg:¬a.v < 0:=λh=>h1 (neg1 h)
  rw[if_neg hneg]at hq;refine zb.fresh _ _ (zjS (¬((ofZ a.v).neg=true↔(ofZ b.v).neg=true))) rfl rfl (.inr rfl)<|zb.t (zhg _ (zm (a.v.natAbs / b.v.natAbs)) oM) ?_;rw[zr,if_neg h1,← hq];refine Dr.k<|zb.t (zeX (ofZ (a.v / b.v)) (ofZ b.v) (by rw[zT];omega) (by rw[zT];omega))<|zb.t (zpo (ofZ a.v) (ofZ ((ofZ (a.v / b.v)).v*(ofZ b.v).v)) (by rw[zT];omega) (by rw[zT,zW,zW];omega)) ?_;rw[zW,zW,zW,zW,Qm (a.v / b.v),← hm];exact .refl
theorem zs0(a:BI)(ha:a.mag.length<=1000000000):
  CG0 96 [.agg (biE a)] [] (.tup [i64 (y8 a.v),pr (-9223372036854775808<=a.v/\a.v<=9223372036854775807)]) []:=by
 refine zc Tryz.func96 ?_;refine zb.t (zag a.mag ha) ?_;have hl0:=zJ a.mag;have hv:=a.v_eq;generalize hz:a.v=z at*;have hv':z= -(val a.mag:Int)∨z=(val a.mag:Int):=hv.imp YB YB
 have bad:¬(-9223372036854775808<=z/\z<=9223372036854775807)->LE (.tup [i64 0,bl false]) (.tup [i64 (y8 z),pr (-9223372036854775808<=z/\z<=9223372036854775807)]):=λh=>
  zI (zj (by rw[y8,if_neg h])) (zd h)
 have good:∀n:Int,n=z-> -9223372036854775808<=z/\z<=9223372036854775807->LE (.tup [i64 n,bl true]) (.tup [i64 (y8 z),pr (-9223372036854775808<=z/\z<=9223372036854775807)]):=λn hn h=>
  zI (zj (by rw[y8,if_pos h,hn])) (zR h)
 obtain⟨m,hm⟩:∃m,zm (val a.mag)=m:=⟨_,rfl⟩;have hmv:val m=val a.mag:=by rw[← hm,zr]
 have hbig:2 < m.length->18446744073709551616<=val a.mag:=λh=>by
  have h0:val a.mag≠0:=jG.1 (by rw[hm];omega);have:=znr h0;rw[hm]at this;exact XB (XB dC (XI dC (show 2<=m.length - 1 by omega))) this
 rw[hm];rw[hm]at hl0;intro hl1;refine Ar.o ?_
 refine⟨Nat,λj=>⟨[(6,i64 ((j:Int) - 1)),(5,u64 (val (m.drop j))),(4,.sl dgE m),(1,.loc 0 0)],[(0,.box 41 (biE a))],1,55,0⟩,
  λj=>j<=m.length/\(j < m.length->m.length<=2),λj=>j,m.length,?_,?_,?_⟩
 ·exact⟨Xh _,λh=>absurd h (Yv _)⟩
 ·exact zL [0] ⟨rfl,congrArg (λn=>some (u64 n)) (by rw[kj (Xh _)];rfl),rfl,rfl,trivial⟩ ⟨rfl,trivial⟩
 rintro j ⟨h1,h2⟩
 refine⟨λh3=>?_,λh3=>?_⟩
 ·intro hl2;refine⟨λh4=>?_,λh4=>?_⟩
  ·have hd:=zG m (j - 1);rw[show j - 1+1=j by omega]at hd
   have hdl:val (m.drop j) < 4294967296:=by
    have:=jk (m.drop j);rw[XQ]at this;exact Xr this (XB (XI dC (show m.length - j<=1 by omega)) dC)
   refine Ob.o1<|Ar.fit (by simp only[Int.reducePow];omega)<|Ob.o ?_;intro x hx;rw[show((j:Int) - 1).toNat=j - 1 by omega]at hx;have dx:=zY hx;have hxl:=x.isLt;refine Ar.o<|⟨_,(zga (x:=val (m.drop j)) (y:=x.val) hdl hxl rfl).symm,?_⟩;exact Ar.o<|⟨j - 1,⟨oM,λ_=>by omega⟩,zL [0] ⟨congrArg (λn=>some (i64 n)) oM,congrArg (λn=>some (u64 n)) (by rw[hd,dx];omega),rfl,rfl,trivial⟩ ⟨rfl,trivial⟩,by dsimp only;omega⟩
  ·intro hl3;have:=hbig oM;refine⟨λ_=>?_,λh=>absurd h oM⟩;exact bad oM
 ·have hj:j=0:=by omega
  subst hj;have hd0:val (m.drop 0)=val a.mag:=by rw[KT,hmv]
  intro hl3
  have hv2:¬2 < m.length->val a.mag < 18446744073709551616:=λh=>by
   have:=jk m;rw[hmv]at this;exact Xr this (XB (XI dC (show m.length<=2 by omega)) dC)
  refine⟨λh=>?_,λh=>?_⟩
  ·have:=hbig oM;exact bad oM
  have hs:=hv2 oM;have negz:a.neg=true->z= -(val a.mag:Int):=λh=>hv.elim YB λg=>by rw[h]at g;cases g.1
  have posz:¬a.neg=true->z=(val a.mag:Int):=λh=>hv.elim (λg=>absurd g.1 h) YB
  have hneg:a.neg=true->val a.mag<=9223372036854775808->IntKind.i64.wrap (IntKind.u64.wrap (-(val (m.drop 0):Int)))=z:=λh hle=>by
   have:=negz h;rw[hd0,yx];show IntKind.i64.wrap _=_;simp only[IntKind.wrap,IntKind.bits,IntKind.signed];simp;omega
  refine⟨λg1=>bad oM,λg1=>?_⟩;refine⟨λg2=>?_,λg2=>?_⟩
  ·refine⟨λg3=>bad ?_,λg3=>?_⟩
   ·have:=posz g3;omega
   have hn:a.neg=true:=XL g3;have:=negz hn;refine⟨λ_=>?_,λg4=>absurd hn g4⟩;exact Ar.wrap<|Ar.wrap<|good _ (hneg hn oM) oM
  ·refine⟨λg4=>?_,λg4=>?_⟩
   ·have:=negz g4;exact Ar.wrap<|Ar.wrap<|good _ (hneg g4 oM) oM
   ·have:=posz g4;exact Ar.o<|good _ oM oM
structure BR where
 num:BI
 den:BI
 deriving DecidableEq
def BR.v(a:BR):Rat:=Rat.divInt a.num.v a.den.v
def ofQ(q:Rat):BR:=⟨ofZ q.num,ofZ q.den⟩
theorem z6(q:Rat):(ofQ q).v=q:=by unfold BR.v ofQ;rw[zW,zW,KY]
def BR.len(a:BR):Nat:=max a.num.mag.length a.den.mag.length
def ya(q:Rat):Nat:=max (js q.num) (js q.den)
theorem zB(q:Rat):(ofQ q).len=ya q:=rfl
theorem zjT{n d:Int}(hd:d≠0):(if n.sign*d.sign < 0 then -((n.natAbs / Nat.gcd n.natAbs d.natAbs:Nat):Int) else((n.natAbs / Nat.gcd n.natAbs d.natAbs:Nat):Int))=(Rat.divInt n d).num:=by
 have hg0:0 < Nat.gcd n.natAbs d.natAbs:=Q3 _ oM;rw[Rat.num_divInt,show d.gcd n=Nat.gcd n.natAbs d.natAbs from QP _ _];obtain⟨k,hk⟩:((Nat.gcd n.natAbs d.natAbs:Nat):Int) ∣ n:=Int.ofNat_dvd_left.2 (Nat.gcd_dvd_left _ _);generalize Nat.gcd n.natAbs d.natAbs=g at*;have e1:n.natAbs / g=k.natAbs:=by rw[hk,Qx,QC,Nat.mul_div_cancel_left _ hg0]
 have e2:d.sign*n / (g:Int)=d.sign*k:=by
  rw[hk,← JV,Qm d.sign,JV,Int.mul_ediv_cancel_left _ oM]
 have e3:n.sign=k.sign:=by rw[hk,Int.sign_mul,Km oM,JT]
 rw[e1,e2,e3]
 rcases K2 d 0 with h | h | h
 ·rw[Kd h]
  rcases K2 k 0 with h' | h' | h'
  ·rw[Kd h',if_neg dC];omega
  ·subst h';rw[if_neg dC];rfl
  ·rw[Km h',if_pos dC];omega
 ·exact absurd h hd
 ·rw[Km h]
  rcases K2 k 0 with h' | h' | h'
  ·rw[Kd h',if_pos dC];omega
  ·subst h';rw[if_neg dC];rfl
  ·rw[Km h',if_neg dC];omega
theorem zjU{n d:Int}(hd:d≠0):(Rat.divInt n d).den=d.natAbs / Nat.gcd n.natAbs d.natAbs:=by
 rw[Rat.den_divInt,if_neg hd,show d.gcd n=Nat.gcd n.natAbs d.natAbs from QP _ _]
theorem zbz{n d:Int}(hd:d≠0):ya (Rat.divInt n d)<=max (js n) (js d):=by
 have h1:js (Rat.divInt n d).num<=js n:=zbY (by
  rw[← zjT hd];have:=KV n.natAbs (Nat.gcd n.natAbs d.natAbs);generalize n.natAbs / Nat.gcd n.natAbs d.natAbs=x at*
  split <;> omega)
 have h2:js (Rat.divInt n d).den<=js d:=zbY (by
  rw[zjU hd];have:=KV d.natAbs (Nat.gcd n.natAbs d.natAbs);generalize d.natAbs / Nat.gcd n.natAbs d.natAbs=x at*
  omega)
 unfold ya;omega
theorem qb(q:Rat):js q.num<=ya q:=Q4 _ _
theorem qp(q:Rat):js q.den<=ya q:=QQ _ _
theorem zH(a:BR):ya a.v<=max a.len 1:=by
 by_cases h:a.den.v=0
 ·have:a.v=0:=by unfold BR.v;rw[h,Yd]
  rw[this];have:ya 0<=1:=by decide +kernel
  omega
 ·have:=zbz (n:=a.num.v) h;have h1:=zau a.num;have h2:=zau a.den;unfold BR.len BR.v;omega
theorem zdF(q:Rat):(q.den:Int)≠0:=by have:=q.den_nz;omega
theorem zjV(x y:Rat):Rat.divInt (x.num*y.den+y.num*x.den) (x.den*y.den)=x+y:=by
 have:=Yo x.num y.num (zdF x) (zdF y);rw[KY,KY]at this;exact this.symm
theorem zjW(x y:Rat):Rat.divInt (x.num*y.num) (x.den*y.den)=x*y:=by
 have:=Yp x.num y.num (d₁:=x.den) (d₂:=y.den);rw[KY,KY]at this;exact this.symm
theorem zwY(x y:Rat):Rat.divInt (x.num*y.den - y.num*x.den) (x.den*y.den)=x - y:=by
 have:=Yo x.num (-y.num) (zdF x) (zdF y);rw[KY,← Rat.neg_divInt,KY,Int.neg_mul,← Q6]at this;rw[← this,JP]
theorem u5(x y:Rat):(x.den:Int)*(y.den:Int)≠0:=Ya (zdF x) (zdF y)
theorem za9(x y:Rat):ya (x+y)<=ya x+ya y+1:=by
 rw[← zjV];have h:=zbz (n:=x.num*y.den+y.num*x.den) (u5 x y);have h1:=zf9 (x.num*y.den) (y.num*x.den);have h2:=kO x.num y.den;have h3:=kO y.num x.den;have h4:=kO x.den y.den;have a1:=qb x;have a2:=qb y;have a3:=qp x;have a4:=qp y;omega
theorem yj(x y:Rat):ya (x*y)<=ya x+ya y:=by
 rw[← zjW];have h:=zbz (n:=x.num*y.num) (u5 x y);have h2:=kO x.num y.num;have h4:=kO x.den y.den;have a1:=qb x;have a2:=qb y;have a3:=qp x;have a4:=qp y;omega
theorem zdG(z:Int):ya z<=max (js z) 1:=by
 unfold ya;rw[JC,JB];have:js ((1:Nat):Int)=1:=by decide +kernel
 omega
def brE(a:BR):List SV:=biE a.num++biE a.den
theorem zlX(a:BI)(g:List Dig)(ha:a.mag.length<=400000000)(hg:g.length<=400000000)(h0:val g≠0):
  CG0 216 [.agg (biE a),.ptr [.sl dgE g]] [] (.sl dgE (zm (val a.mag / val g))) []:=by
 refine zc Tryz.func216 ?_;exact zb.t (zjQ a.mag g ha hg h0)<|.refl
theorem zgb(n d:BI)(hn:n.mag.length<=400000000)(hd:d.mag.length<=400000000)(h0:d.v≠0):
  CG0 157 [.agg (biE n),.agg (biE d)] [] (.agg (brE (ofQ (Rat.divInt n.v d.v)))) []:=by
 refine zc Tryz.func157 ?_;refine zb.t (n_gcd n.mag d.mag hn hd) ?_;have e1:=zjT (n:=n.v) h0;have e2:=zjU (n:=n.v) h0;rw[n.v_abs,d.v_abs]at e1 e2;have hdz:val d.mag≠0:=by rw[← d.v_abs];omega
 have hg0:0 < Nat.gcd (val n.mag) (val d.mag):=Q3 _ oM
 have hgl:(zm (Nat.gcd (val n.mag) (val d.mag))).length<=400000000:=by
  refine XB (qx (Nat.gcd_le_right _ oM)) (XB (zJ _) hd)
 have l1:(zm (val n.mag / Nat.gcd (val n.mag) (val d.mag))).length<=1000000000:=XB (qx (KV _ _)) (XB (zJ _) oM);have l2:(zm (val d.mag / Nat.gcd (val n.mag) (val d.mag))).length<=1000000000:=XB (qx (KV _ _)) (XB (zJ _) oM);generalize Nat.gcd (val n.mag) (val d.mag)=g at*
 have s1: -1<=n.v.sign*d.v.sign/\n.v.sign*d.v.sign<=1:=by
  rcases K2 n.v 0 with h | h | h <;> rcases K2 d.v 0 with h' | h' | h' <;>
   simp[Kd,Km,h,h']
 refine Dr.k<|zb.t (zjR n oM)<|zb.t (zjR d oM)<|Ar.o<|zb.t (zlX n (zm g) hn hgl (by rw[zr];omega)) ?_;rw[zr];refine zb.t (zeW (n.v.sign*d.v.sign < 0) _ l1)<|zb.t (zlX d (zm g) hd hgl (by rw[zr];omega))<|zb.t (zwU _ (by rw[zr];exact l2)) ?_;rw[zr,zr,zr,e1,← e2];exact .refl
end Go.Gs
