/- Natural numbers, the program's: copies, comparing, sums, differences. -/
import Derived.Test.YtbgnkgoiocjbnaaGreatMA
import Derived.Test.YtbgnkgoiocjbnaaGreatMAS
import Derived.Test.YtbgnkgoiocjbnaaGreatMAQ
set_option maxRecDepth 100000
set_option maxHeartbeats 8000000
set_option linter.all false
namespace Go.Gs
open Go.Proofs
theorem zjF(a:List Dig)(ha:a.length<=1000000000):zd Tryz.prog 216 [.sl dgE a] [] (.full dgE (zm (val a))) []:=by
 refine zc tok mix Tryz.func216 rfl rfl rfl ?_;intro hl0;refine ⟨Nat,fun n=>⟨[(3,i64 n),(0,.sl dgE a)],[],0,22,0⟩,fun n=>n<=a.length/\∀i,n<=i->dig a i=0,fun n=>n,a.length,?_,?_,?_⟩
 ·exact ⟨Nat.le_refl _,fun i h=>u3 h⟩
 ·exact zh []
 rintro n ⟨h1,h2⟩
 have post:(n=0∨dig a (n - 1)≠0)->((a.drop (0:Int).toNat).take ((n:Int) - 0).toNat)=zm (val a):=fun h3=>by
  rw [← zgp h3 h1 h2];simp
 refine Br.mk (fun h3=>?_) (fun h3=>?_)
 ·refine Ar.o ?_;refine Ob.o ?_;intro x hx;rw [show ((n:Int) - 1).toNat=n - 1 by omega] at hx;have dx:=zK hx;refine Br.mk (fun h4=>?_) (fun h4=>?_)
  ·refine Ar.o ?_;refine ⟨n - 1,⟨oM,fun i hi=>?_⟩,z0 [] ⟨congrArg (fun n=>some (i64 n)) oM,rfl,trivial⟩ trivial,by dsimp only;omega⟩
   by_cases e:i=n - 1
   ·subst e;rw [dx];omega
   ·exact h2 i oM
  ·refine zqn.full (Ob.mk ⟨⟨oM,oM,rfl,oM⟩,fun _ _=>rfl⟩ ?_);exact znU (post (.inr oM))
 ·refine zqn.full (Ob.mk ⟨⟨oM,oM,rfl,oM⟩,fun _ _=>rfl⟩ ?_);exact znU (post (.inl oM))
theorem qy(a:List Dig)(ha:a.length<=1000000000):zd Tryz.prog 216 [.sl dgE a] [] (.sl dgE (zm (val a))) []:=(zjF a ha).le (za0 rfl)
theorem zoc(q:List Dig)(hq:q.length<=1000000000):zd Tryz.prog 215 [.sl dgE q] [] (.sl dgE q) []:=by
 refine zc tok mix Tryz.func215 rfl rfl rfl ?_
 by_cases h0:q=[]
 ·refine zoU.any (Br.mk ?_ ?_)
  ·subst h0;exact ku
  ·refine ⟨Dig,dgE,[],rfl,Ob.mk zcP ?_⟩;refine ⟨q,rfl,Ob.mk (zes (by simp only [List.length_nil];omega)) ?_⟩;exact qb rfl
 ·refine zoU.some (fun h=>h0 (List.eq_nil_of_length_eq_zero h)) ?_;refine ⟨Dig,dgE,[],rfl,Ob.mk zcP ?_⟩;refine ⟨q,rfl,Ob.mk (zes (by simp only [List.length_nil];omega)) ?_⟩;exact qb rfl
theorem uE(a:List Dig)(ha:a.length<=1000000000):zd Tryz.prog 157 [.sl dgE a] [] (.sl dgE (zm (val a))) []:=by
 refine zc tok mix Tryz.func157 rfl rfl rfl ?_;refine zb.t (qy a ha) ?_;refine zb.t (zoc _ (by have:=zB a;omega)) ?_;exact .refl
theorem zct(n:Nat)(hn:n < 18446744073709551616):zd Tryz.prog 213 [u64 n] [] (.sl dgE (zm n)) []:=by
 refine zc tok mix Tryz.func213 rfl rfl rfl ?_;refine Ar.wrap ?_;refine Ob.o1 ?_;refine Ar.wrap ?_;refine ⟨Dig,dgE,[dof n,dof (n / 4294967296)],congr (congrArg (fun n m=>[u32 n,u32 m]) (vy rfl)) (vy (by simp only [Int.reducePow];omega)),Ob.mk (dTwo _ _) ?_⟩;refine zb.see 0 _ (uE [dof n,dof (n / 4294967296)] (by simp)) rfl rfl rfl ?_;rw [zju _ hn];exact .refl
theorem zcu(a:List Dig)(i:Int)(hi:0<=i):zd Tryz.prog 274 [.sl dgE a,i64 i] [] (u64 (dig a i.toNat)) []:=by
 refine zc tok mix Tryz.func274 rfl rfl rfl ?_;intro hl;refine Br.mk (fun h=>?_) (fun h=>?_)
 ·refine Ob.o ?_;intro x hx;have:=x.isLt;refine Ar.o ?_;exact zu (by rw [zK hx])
 ·exact zu (by rw [u3 oM];rfl)
theorem zgG{A B:Nat}(h:(zm A).length < (zm B).length):A < B:=by
 have h1:=za1 (n:=A) (Nat.le_refl _);have h2:=zjr (n:=B) (fun e=>by rw [e,qV] at h;simp at h);exact Nat.lt_of_lt_of_le h1 (Nat.le_trans (Nat.pow_le_pow_right dC oM) h2)
theorem zul(a b:List Dig)(ha:a.length<=1000000000)(hb:b.length<=1000000000):
  zd Tryz.prog 268 [.sl dgE a,.sl dgE b] [] (i64 (zdL (val a) (val b))) []:=by
 refine zc tok mix Tryz.func268 rfl rfl rfl ?_;refine zb.t (qy a ha) ?_;refine zb.t (qy b hb) ?_;have la:=zB a;have lb:=zB b;generalize val a=A at*;generalize val b=B at*;intro hl1 hl2;refine Br.mk (fun h3=>?_) (fun h3=>?_)
 ·intro hl4 hl5;refine Br.mk (fun h6=>?_) (fun h6=>?_)
  ·have:=zgG (A:=A) (B:=B) oM;exact zu (by rw [zdL,if_pos this])
  ·have:=zgG (A:=B) (B:=A) oM;exact zu (by rw [zdL,if_neg oM,if_pos this])
 have h3:(zm A).length=(zm B).length:=oM;intro hl7;refine Ar.o ?_;refine ⟨Nat,fun j=>⟨[(5,i64 ((j:Int) - 1)),(0,.sl dgE (zm A)),(1,.sl dgE (zm B))],[],0,45,0⟩,fun j=>j<=(zm A).length/\∀i,j<=i->dig (zm A) i=dig (zm B) i,fun j=>j,(zm A).length,?_,?_,?_⟩
 ·exact ⟨oM,fun i hi=>by rw [u3 oM,u3 oM]⟩
 ·exact zh []
 rintro j ⟨h1,h2⟩
 refine Br.mk (fun h8=>?_) (fun h8=>?_)
 ·have h2':∀i,j - 1+1<=i->dig (zm A) i=dig (zm B) i:=fun i hi=>h2 i oM
  refine Dr.k ?_;refine Ob.o ?_;intro x hx;rw [show ((j:Int) - 1).toNat=j - 1 by omega] at hx;have dx:=zK hx;refine Ob.o ?_;intro y hy;rw [show ((j:Int) - 1).toNat=j - 1 by omega] at hy;have dy:=zK hy;refine Br.mk (fun h4=>?_) (fun h4=>?_)
  ·have:=zdM h2' oM;rw [zn,zn] at this;exact zu (by rw [zdL,if_pos this])
  refine Dr.k ?_;refine Ob.o ?_;intro x' hx';rw [show ((j:Int) - 1).toNat=j - 1 by omega,hx] at hx'
  cases hx'
  refine Ob.o ?_;intro y' hy';rw [show ((j:Int) - 1).toNat=j - 1 by omega,hy] at hy'
  cases hy'
  refine Br.mk (fun h5=>?_) (fun h5=>?_)
  ·have:=zdM (fun i hi=>(h2' i hi).symm) oM;rw [zn,zn] at this;exact zu (by rw [zdL,if_neg oM,if_pos this])
  refine Ar.o ?_;refine ⟨j - 1,⟨oM,fun i hi=>?_⟩,z0 [] ⟨congrArg (fun n=>some (i64 n)) oM,rfl,rfl,trivial⟩ trivial,by dsimp only;omega⟩
  by_cases hij:i=j - 1
  ·subst hij;omega
  ·exact h2 i oM
 ·have hj:j=0:=by omega
  subst hj;have:=zh4 fun i=>h2 i (Nat.zero_le _)
  rw [zn,zn] at this;exact zu (by rw [zdL,if_neg oM,if_neg oM])
theorem zum(a b:List Dig)(ha:a.length<=900000000)(hb:b.length<=900000000):
  zd Tryz.prog 218 [.sl dgE a,.sl dgE b] [] (.sl dgE (zm (val a+val b))) []:=by
 refine zc tok mix Tryz.func218 rfl rfl rfl ?_;intro hl1 hl2;refine Ar.fit (by simp only [zcU];omega) ?_;have en:zcU (a.length:Int) [(b.length:Int)]+1=((max a.length b.length+1:Nat):Int):=by simp only [zcU];omega
 change ∃_,_;rw [en];generalize hn:max a.length b.length+1=n at*;refine ⟨Dig,dgE,0,rfl,Ob.o6 ?_⟩;intro hl3
 refine ⟨Nat×List Dig×Nat,fun ⟨i,out,c⟩=>⟨[(17,i64 i),(16,i64 n),(6,u64 c),(5,.own 0),(0,.sl dgE a),(1,.sl dgE b)],[(0,kU out)],1,39,0⟩,
  fun q=>q.1<=n/\q.2.1.length=n/\q.2.2<=1/\(∀j,q.1<=j->dig q.2.1 j=0)/\val q.2.1+4294967296 ^ q.1*q.2.2=val (a.take q.1)+val (b.take q.1),fun q=>n - q.1,(0,List.replicate n 0,0),?_,?_,?_⟩
 ·exact ⟨Nat.zero_le _,by simp,Nat.zero_le _,fun j _=>jS _ _,by simp [ve,val]⟩
 ·exact z0 [(0,some 0)] ⟨rfl,congrArg (fun n=>some (i64 n)) (by simp),rfl,rfl,rfl,rfl,trivial⟩ ⟨rfl,trivial⟩
 rintro ⟨i,out,c⟩ ⟨h1,h2,h3,h4,h5⟩
 dsimp only at h1 h2 h3 h4 h5;refine Br.mk (fun h6=>?_) (fun h6=>?_)
 ·have d1:=jU a i;have d2:=jU b i;refine zb.t (zcu a _ oM) ?_;refine zb.t (zcu b _ oM) ?_;simp only [Int.toNat_natCast];(iterate 2 refine Ar.o ?_);refine Ar.wrap ?_;refine Ob.o ?_;refine Ob.o ?_;intro z hz;refine ⟨dof (dig a i+dig b i+c),congrArg (fun n=>[u32 n]) (vy oM),?_⟩;refine Ob.o1 ?_;refine Ar.o ?_
  refine ⟨(i+1,out.set i (dof (dig a i+dig b i+c)),(dig a i+dig b i+c) / 4294967296),⟨by dsimp only;omega,by simp [h2],by dsimp only;omega,fun j hj=>?_,?_⟩,
   z0 [(0,some 0)] ⟨rfl,rfl,congrArg (fun n=>some (u64 n)) (by simp only [Int.reducePow];omega),rfl,rfl,rfl,trivial⟩ ⟨rfl,trivial⟩,by dsimp only;omega⟩
  ·dsimp only at hj ⊢;rw [jd,if_neg oM];exact h4 j oM
  ·dsimp only;have hs:=uv out i (dof (dig a i+dig b i+c)) oM;rw [h4 i (Nat.le_refl _),zvV,Nat.mul_zero,Nat.add_zero] at hs;rw [hs,zG,zG,Nat.pow_succ];have e:=Nat.div_add_mod (dig a i+dig b i+c) 4294967296;generalize (dig a i+dig b i+c) / 4294967296=x at*;generalize (dig a i+dig b i+c) % 4294967296=y at*;generalize 4294967296 ^ i=p at*;clear hs h4
   grind
 ·have hi:i=n:=by omega
  subst hi;rw [kz oM,kz oM] at h5
  have hc:c=0:=by
   have l1:=Nat.lt_of_lt_of_le (qD a) (Nat.pow_le_pow_right (show 0 < 4294967296 by decide) (show a.length<=i - 1 by omega));have l2:=Nat.lt_of_lt_of_le (qD b) (Nat.pow_le_pow_right (show 0 < 4294967296 by decide) (show b.length<=i - 1 by omega));have e:4294967296 ^ i=4294967296 ^ (i - 1)*4294967296:=by rw [← Nat.pow_succ];congr 1;omega
   have:c=0∨c=1:=oM
   rcases this with h | h
   ·exact h
   ·subst h;omega
  subst hc;refine zb.see 0 _ (qy out oM) rfl rfl rfl ?_;rw [show val out=val a+val b by omega];exact .refl
theorem zun(a b:List Dig)(ha:a.length<=900000000)(hb:b.length<=900000000):
  zd Tryz.prog 224 [.sl dgE a,.sl dgE b] [] (.tup [.sl dgE (zm (val a - val b)),pr (val b<=val a)]) []:=by
 refine zc tok mix Tryz.func224 rfl rfl rfl ?_;refine zb.t (zul a b oM oM) ?_;refine Br.mk (fun h=>?_) (fun h=>?_)
 ·have hlt:=zcl.1 h;refine zS ?_ (ze oM);rw [Nat.sub_eq_zero_of_le oM,qV];exact ku
 have hle:val b<=val a:=Nat.le_of_not_lt fun h'=>h (zcl.2 h')
 refine zb.t (qy a oM) ?_;have la:=zB a;have ldef:=za1 (n:=val a) (Nat.le_refl _);intro hl2;generalize hn:(zm (val a)).length=n at*;refine ⟨Dig,dgE,0,rfl,Ob.o6 ?_⟩;intro hl3
 refine ⟨Nat×List Dig×Nat,fun ⟨i,out,c⟩=>⟨[(20,i64 i),(19,i64 n),(7,u64 c),(6,.own 0),(0,.sl dgE a),(1,.sl dgE b)],[(0,kU out)],1,42,0⟩,
  fun q=>q.1<=n/\q.2.1.length=n/\q.2.2<=1/\(∀j,q.1<=j->dig q.2.1 j=0)/\val q.2.1+val (b.take q.1)=val (a.take q.1)+4294967296 ^ q.1*q.2.2,fun q=>n - q.1,(0,List.replicate n 0,0),?_,?_,?_⟩
 ·exact ⟨Nat.zero_le _,by simp,Nat.zero_le _,fun j _=>jS _ _,by simp [ve,val]⟩
 ·exact z0 [(0,some 0)] ⟨rfl,congrArg (fun n=>some (i64 n)) (by simp),rfl,rfl,rfl,rfl,trivial⟩ ⟨rfl,trivial⟩
 rintro ⟨i,out,c⟩ ⟨h1,h2,h3,h4,h5⟩
 dsimp only at h1 h2 h3 h4 h5;refine Br.mk (fun h6=>?_) (fun h6=>?_)
 ·have d1:=jU a i;have d2:=jU b i;refine zb.t (zcu a _ oM) ?_;refine zb.t (zcu b _ oM) ?_;simp only [Int.toNat_natCast];refine Ar.wrap ?_;refine Ar.wrap ?_;refine Ar.wrap ?_;refine Ob.o ?_;refine Ob.o ?_;intro z hz;refine ⟨dof (4294967296+dig a i - dig b i - c),congrArg (fun n=>[u32 n]) (by rw [zgr,jE,jE,zvV];omega),?_⟩;refine Ob.o1 ?_;refine Ar.o ?_
  refine ⟨(i+1,out.set i (dof (4294967296+dig a i - dig b i - c)),1 - (4294967296+dig a i - dig b i - c) / 4294967296),⟨by dsimp only;omega,by simp [h2],by dsimp only;omega,fun j hj=>?_,?_⟩,
   z0 [(0,some 0)] ⟨rfl,rfl,congrArg (fun n=>some (u64 n)) (by rw [jE,jE];simp only [Int.reducePow];omega),rfl,rfl,rfl,trivial⟩ ⟨rfl,trivial⟩,by dsimp only;omega⟩
  ·dsimp only at hj ⊢;rw [jd,if_neg oM];exact h4 j oM
  ·dsimp only;have hs:=uv out i (dof (4294967296+dig a i - dig b i - c)) oM;rw [h4 i (Nat.le_refl _),zvV,Nat.mul_zero,Nat.add_zero] at hs;rw [hs,zG,zG,Nat.pow_succ];have e:(4294967296+dig a i - dig b i - c) % 4294967296+dig b i+c=dig a i+4294967296*(1 - (4294967296+dig a i - dig b i - c) / 4294967296):=oM;generalize 1 - (4294967296+dig a i - dig b i - c) / 4294967296=x at*;generalize (4294967296+dig a i - dig b i - c) % 4294967296=y at*;generalize 4294967296 ^ i=p at*
   have e2:p*y+p*dig b i+p*c=p*dig a i+p*4294967296*x:=by
    rw [← Nat.mul_add,← Nat.mul_add,e,Nat.mul_add,Nat.mul_assoc]
   omega
 ·have hi:i=n:=by omega
  subst hi;have ea:val (a.take i)=val a:=by rw [zkY,Nat.mod_eq_of_lt ldef]
  have eb:val (b.take i)=val b:=by rw [zkY,Nat.mod_eq_of_lt (Nat.lt_of_le_of_lt hle ldef)]
  rw [ea,eb] at h5;have e4:=qD out;rw [h2] at e4
  have e:val out=val a - val b:=by
   have:c=0∨c=1:=oM
   rcases this with rfl | rfl <;> omega
  refine zb.see 0 _ (qy out oM) rfl rfl rfl ?_;rw [e];exact zS .refl (kC hle)
theorem zlk(xs:List Dig)(n:Nat)(h:xs.length=n+2):∃r,r < 4294967296 ^ n/\val xs=(dig xs (n+1)*4294967296+dig xs n)*4294967296 ^ n+r:=by
 refine ⟨val (xs.take n),qq xs n,?_⟩;have e1:=ky xs n;have e2:=zz xs n;have e3:=zz xs (n+1);rw [zU (show xs.length<=n+1+1 by omega),Nat.mul_zero,Nat.add_zero] at e3;rw [e3] at e2;rw [e1,e2];generalize dig xs (n+1)=a;generalize dig xs n=b;generalize 4294967296 ^ n=p
 grind
theorem zll {P v1 v2 rv top u2 ru q r:Nat} (hrv:rv < P) (hru:ru < P) (hv1:2147483648<=v1) (hv2:v2 < 4294967296) (e:q*v1+r=top) (hq:q<=4294967296)
  (hle:q*v2<=r*4294967296+u2) (hQ:((top*4294967296+u2)*P+ru) / ((v1*4294967296+v2)*P+rv)<=q):
  q=((top*4294967296+u2)*P+ru) / ((v1*4294967296+v2)*P+rv)∨q=((top*4294967296+u2)*P+ru) / ((v1*4294967296+v2)*P+rv)+1:=by
 have hP:0 < P:=oM
 have hV:0 < (v1*4294967296+v2)*P+rv:=by
  have:0 < (v1*4294967296+v2)*P:=Nat.mul_pos oM hP;omega
 have key:(q - 1)*((v1*4294967296+v2)*P+rv)<=(top*4294967296+u2)*P+ru:=by
  rcases Nat.eq_zero_or_pos q with h0 | h0
  ·subst h0;simp
  ·obtain ⟨p,rfl⟩:∃p,q=p+1:=⟨q - 1,oM⟩;rw [Nat.add_sub_cancel]
   have h1:p*((v1*4294967296+v2)*P+rv)<=p*((v1*4294967296+v2+1)*P):=by
    refine Nat.mul_le_mul_left _ ?_;rw [Nat.add_mul _ 1 P];omega
   have h2:p*(v1*4294967296+v2+1)<=top*4294967296+u2:=by
    have a1:(p+1)*v1=p*v1+v1:=by rw [Nat.add_mul];omega
    have a2:(p+1)*v2=p*v2+v2:=by rw [Nat.add_mul];omega
    have a3:p*(v1*4294967296+v2+1)=(p*v1)*4294967296+p*v2+p:=by
     rw [Nat.mul_add,Nat.mul_add,Nat.mul_assoc];omega
    rw [a1] at e;rw [a2] at hle;rw [a3];omega
   have h3:p*((v1*4294967296+v2+1)*P)<=(top*4294967296+u2)*P:=by
    rw [← Nat.mul_assoc];exact Nat.mul_le_mul_right _ h2
   omega
 have:=(Nat.le_div_iff_mul_le hV).2 key;omega
theorem zps{P v1 v2 rv top u2 ru q r:Nat}(hru:ru < P)(e:q*v1+r=top)(hgt:r*4294967296+u2 < q*v2):
  ((top*4294967296+u2)*P+ru) / ((v1*4294967296+v2)*P+rv) < q:=by
 have hP:0 < P:=oM
 have hq:0 < q:=by
  rcases Nat.eq_zero_or_pos q with h | h
  ·subst h;omega
  ·exact h
 have h1:top*4294967296+u2+1<=q*(v1*4294967296+v2):=by
  have a3:q*(v1*4294967296+v2)=(q*v1)*4294967296+q*v2:=by rw [Nat.mul_add,Nat.mul_assoc]
  rw [a3];omega
 have h2:(top*4294967296+u2)*P+ru < q*((v1*4294967296+v2)*P+rv):=by
  have a1:(top*4294967296+u2+1)*P<=q*(v1*4294967296+v2)*P:=Nat.mul_le_mul_right _ h1
  have a2:q*(v1*4294967296+v2)*P<=q*((v1*4294967296+v2)*P+rv):=by
   rw [Nat.mul_assoc];exact Nat.mul_le_mul_left _ (Nat.le_add_right _ _)
  rw [Nat.add_mul _ 1 P] at a1;omega
 have hV:0 < (v1*4294967296+v2)*P+rv:=by
  rcases Nat.eq_zero_or_pos ((v1*4294967296+v2)*P+rv) with h | h
  ·rw [h] at h2;omega
  ·exact h
 exact (Nat.div_lt_iff_lt_mul hV).2 h2
theorem zpt{p q c b ui y lo c' ui' b' U V R:Nat}(h:R+q*V=U+p*(c+b))(hl:lo+4294967296*c'=c+q*y)(hu:ui'+lo+b=ui+4294967296*b'):
  R+p*ui'+q*(V+p*y)=U+p*ui+p*4294967296*(c'+b'):=by
 have e1:ui'+(c+q*y)+b=ui+4294967296*(c'+b'):=oM;have e2:p*(ui'+(c+q*y)+b)=p*(ui+4294967296*(c'+b')):=by rw [e1]
 grind
theorem n_mul(a0 b0:List Dig)(ha:a0.length<=400000000)(hb:b0.length<=400000000):
  zd Tryz.prog 277 [.sl dgE a0,.sl dgE b0] [] (.sl dgE (zm (val a0*val b0))) []:=by
 refine zc tok mix Tryz.func277 rfl rfl rfl ?_;refine zb.t (qy a0 oM) ?_;refine zb.t (qy b0 oM) ?_;have la:=zB a0;have lb:=zB b0;have va:=zn (val a0);have vb:=zn (val b0);generalize zm (val a0)=a at*;generalize zm (val b0)=b at*;rw [← va,← vb];clear va vb;intro hl1 hl2;refine Ar.o ?_;refine ⟨Dig,dgE,0,rfl,Ob.o6 ?_⟩;intro hl3
 refine ⟨Nat×List Dig,fun ⟨i,out⟩=>⟨[(23,i64 i),(22,i64 a.length),(21,.sl dgE a),(5,.own 0),(1,.sl dgE b)],[(0,kU out)],1,73,0⟩,
  fun q=>q.1<=a.length/\q.2.length=a.length+b.length/\val q.2=val (a.take q.1)*val b/\∀j,q.1+b.length<=j->dig q.2 j=0,fun q=>a.length - q.1,(0,List.replicate (a.length+b.length) 0),?_,?_,?_⟩
 ·exact ⟨Nat.zero_le _,by simp,by simp [ve,val],fun j _=>jS _ _⟩
 ·exact zM [(0,some 0)] ⟨congrArg (fun n=>some (kU (List.replicate n 0))) oM,trivial⟩
 rintro ⟨i,out0⟩ ⟨h1,h2,h3,h4⟩
 dsimp only at h1 h2 h3 h4;refine Br.mk (fun h5=>?_) (fun h5=>?_)
 ·refine Ob.o ?_;intro x hx;have hx:a[i]? =some x:=hx;have dx:=zK hx;have hxl:=x.isLt;refine Br.mk (fun h6=>?_) (fun h6=>?_)
  ·refine Ar.o ?_;refine ⟨(i+1,out0),⟨by dsimp only;omega,h2,?_,fun j hj=>h4 j (by dsimp only at hj;omega)⟩,zh [(0,some 0)],by dsimp only;omega⟩;dsimp only;rw [zG,dx,show x.val=0 by omega,Nat.mul_zero,Nat.add_zero];exact h3
  intro hl6
  refine ⟨Nat×List Dig×Nat,fun ⟨k,out,c⟩=>⟨[(32,i64 k),(31,i64 b.length),(30,.sl dgE b),(8,u64 c),(7,u32 x.val),(6,i64 i),(23,i64 i),(22,i64 a.length),(21,.sl dgE a),(5,.own 0),(1,.sl dgE b)],[(0,kU out)],1,73,0⟩,
   fun q=>q.1<=b.length/\q.2.1.length=a.length+b.length/\q.2.2 < 4294967296/\val q.2.1+4294967296 ^ (i+q.1)*q.2.2=val out0+4294967296 ^ i*(x.val*val (b.take q.1))/\∀j,i+b.length<=j->dig q.2.1 j=0,fun q=>b.length - q.1,(0,out0,0),?_,?_,?_⟩
  ·exact ⟨Nat.zero_le _,h2,by dsimp only;omega,by simp [val],h4⟩
  ·exact zh [(0,some 0)]
  rintro ⟨k,out,c⟩ ⟨g1,g2,g3,g4,g5⟩
  dsimp only at g1 g2 g3 g4 g5;refine Br.mk (fun g6=>?_) (fun g6=>?_)
  ·refine Ob.o ?_;intro y hy;have hy:b[k]? =some y:=hy;have dy:=zK hy;have hyl:=y.isLt;have hm0:=zcm hxl hyl;(iterate 4 refine Ar.o ?_);refine Ob.o ?_;refine Ob.o ?_;intro z hz;rw [show ((i:Int)+k).toNat=i+k by omega] at hz;have dz:=zK hz;have hzl:=z.isLt;(iterate 4 refine Ar.o ?_);refine Ar.wrap ?_;refine Ob.o ?_;refine Ob.o ?_;intro z' hz';refine ⟨dof (x.val*y.val+z.val+c),congrArg (fun n=>[u32 n]) (vy oM),?_⟩;refine Ob.o1 ?_;refine Ar.o ?_
   refine ⟨(k+1,out.set (i+k) (dof (x.val*y.val+z.val+c)),(x.val*y.val+z.val+c) / 4294967296),⟨by dsimp only;omega,by simp [g2],by dsimp only;omega,?_,?_⟩,
    z0 [(0,some 0)] ⟨rfl,rfl,rfl,congrArg (fun n=>some (u64 n)) (by simp only [Int.reducePow];omega),rfl,rfl,rfl,rfl,rfl,rfl,rfl,trivial⟩ ⟨congrArg (fun n=>some (kU (out.set n _))) oM,trivial⟩,by dsimp only;omega⟩
   ·dsimp only;have hs:=uv out (i+k) (dof (x.val*y.val+z.val+c)) oM;rw [zvV,dz] at hs;rw [zG,dy,← Nat.add_assoc i k 1,Nat.pow_succ];have e:=Nat.div_add_mod (x.val*y.val+z.val+c) 4294967296;rw [Nat.pow_add] at g4 hs ⊢;exact zkZ g4 hs e
   ·intro j hj;dsimp only;rw [jd,if_neg oM];exact g5 j hj
  ·have hk:k=b.length:=by omega
   intro hl8;refine Ar.o ?_;refine Ar.wrap ?_;refine Ob.o ?_;refine Ob.o ?_;intro z' hz';refine ⟨dof c,congrArg (fun n=>[u32 n]) (vy rfl),?_⟩;refine Ar.o ?_
   refine ⟨(i+1,out.set (i+b.length) (dof c)),⟨by dsimp only;omega,by simp [g2],?_,?_⟩,
    zM [(0,some 0)] ⟨congrArg (fun n=>some (kU (out.set n _))) oM,trivial⟩,by dsimp only;omega⟩
   ·dsimp only;have hs:=uv out (i+b.length) (dof c) oM;rw [zvV,g5 _ (Nat.le_refl _),Nat.mod_eq_of_lt g3] at hs;rw [hk,kz (Nat.le_refl _),h3] at g4;rw [zG,dx];generalize val (out.set (i+b.length) _)=r at*;generalize 4294967296 ^ i=p at*;generalize 4294967296 ^ (i+b.length)=q at*;generalize val (a.take i)=w at*;generalize x.val=x at*;generalize val out=o at*;clear h4 g5
    grind
   ·intro j hj;dsimp only;rw [jd,if_neg oM];exact g5 j oM
 ·have hi:i=a.length:=by omega
  rw [hi,kz (Nat.le_refl _)] at h3;refine zb.see 0 _ (qy out0 oM) rfl rfl rfl ?_;rw [h3];exact .refl
theorem zdY{x y:Nat}{e:Int}(hx:x < 4294967296)(hy:y < 4294967296)(he:e=(x:Int)*2 ^ 32):uW .or .u64 e y=((x*4294967296+y:Nat):Int):=by
 have h1:e=((x*4294967296:Nat):Int):=by rw [he];simp only [Int.reducePow];omega
 rw [h1,zgv oM oM];have:=Nat.two_pow_add_eq_or_of_lt (i:=32) (b:=y) (by rw [show 2 ^ 32=4294967296 by decide];exact hy) x;rw [show 2 ^ 32=4294967296 by decide,Nat.mul_comm] at this;rw [← this]
theorem n_one(a:List Dig)(d:Nat)(ha:a.length<=900000000)(hd:d < 4294967296)(h0:d≠0):
  zd Tryz.prog 269 [.sl dgE a,u32 d] [] (.tup [.sl dgE (zm (val a / d)),u32 (val a % d:Nat)]) []:=by
 refine zc tok mix Tryz.func269 rfl rfl rfl ?_;intro hl1;refine ⟨Dig,dgE,0,rfl,Ob.o6 ?_⟩;intro hl2;refine Ar.o ?_
 refine ⟨Nat×List Dig×Nat,fun ⟨j,out,r⟩=>⟨[(8,i64 ((j:Int) - 1)),(7,u64 r),(6,.own 0),(0,.sl dgE a),(1,u32 d)],[(0,kU out)],1,43,0⟩,
  fun q=>q.1<=a.length/\q.2.1.length=a.length/\q.2.2 < d/\val (a.drop q.1)=d*val (q.2.1.drop q.1)+q.2.2,fun q=>q.1,(a.length,List.replicate a.length 0,0),?_,?_,?_⟩
 ·refine ⟨Nat.le_refl _,by simp,by dsimp only;omega,?_⟩;dsimp only;rw [zU (Nat.le_refl _),zU (by simp),Nat.mul_zero]
 ·exact zM [(0,some 0)] ⟨congrArg (fun n=>some (kU (List.replicate n 0))) oM,trivial⟩
 rintro ⟨j,out,r⟩ ⟨h1,h2,h3,h4⟩
 dsimp only at h1 h2 h3 h4;refine Br.mk (fun h5=>?_) (fun h5=>?_)
 ·refine Ob.o1 ?_;refine Ar.fit (by simp only [Int.reducePow];omega) ?_;refine Ob.o ?_;intro x hx;rw [show ((j:Int) - 1).toNat=j - 1 by omega] at hx;have dx:=zK hx;have hxl:=x.isLt;refine Ar.o ?_;refine ⟨_,(zdY oM hxl rfl).symm,?_⟩
  have hq:(r*4294967296+x.val) / d < 4294967296:=by
   rw [Nat.div_lt_iff_lt_mul oM];have:r*4294967296+4294967296<=4294967296*d:=oM;omega
  have hm:(r*4294967296+x.val) % d < d:=Nat.mod_lt _ oM;have hdm:=Nat.div_add_mod (r*4294967296+x.val) d;refine Ar.o ?_;refine Dv.pos ⟨oM,oM,by show _<=(18446744073709551615:Int);omega⟩ ?_;have e1:((r*4294967296+x.val:Nat):Int) / (d:Int)=(((r*4294967296+x.val) / d:Nat):Int):=by simp
  have e2:((r*4294967296+x.val:Nat):Int) % (d:Int)=(((r*4294967296+x.val) % d:Nat):Int):=by simp
  rw [e1];generalize (r*4294967296+x.val) / d=qd at*;refine Ar.o ?_;refine Ob.o ?_;refine Ob.o ?_;intro z hz;refine ⟨dof qd,congrArg (fun n=>[u32 n]) (by rw [zvV,Nat.mod_eq_of_lt hq]),?_⟩;refine Ar.o ?_;refine Dv.pos ⟨oM,oM⟩ ?_;rw [e2];generalize (r*4294967296+x.val) % d=rd at*;refine Ar.o ?_
  refine ⟨(j - 1,out.set (j - 1) (dof qd),rd),⟨by dsimp only;omega,by simp [h2],hm,?_⟩,
   z0 [(0,some 0)] ⟨congrArg (fun n=>some (i64 n)) oM,rfl,rfl,rfl,rfl,trivial⟩ ⟨congrArg (fun n=>some (kU (out.set n _))) oM,trivial⟩,by dsimp only;omega⟩
  dsimp only;rw [zz a,dx,show j - 1+1=j by omega];refine zk0 h4 oM hdm ?_;rw [zaf oM,zvV,Nat.mod_eq_of_lt hq,show j - 1+1=j by omega]
 ·have hj:j=0:=by omega
  subst hj;rw [List.drop_zero,List.drop_zero] at h4
  have e1:val out=val a / d:=by
   rw [h4,Nat.mul_add_div oM,Nat.div_eq_of_lt h3,Nat.add_zero]
  have e2:r=val a % d:=by
   rw [h4,Nat.mul_add_mod,Nat.mod_eq_of_lt h3]
  refine zb.see 0 _ (qy out oM) rfl rfl rfl ?_;refine Ar.o ?_;rw [e1];exact zS .refl (zu (by rw [e2]))
def ze3(v1 v2 u2 top:Nat):Nat->Nat->Nat
 | 0,q=>q
 | f+1,q=>if 4294967296<=q∨(top - q*v1)*4294967296+u2 < q*v2 then (if 4294967296<=top - (q - 1)*v1 then q - 1 else ze3 v1 v2 u2 top f (q - 1)) else q
theorem zlm {P v1 v2 rv top u2 ru Q:Nat} (hrv:rv < P) (hru:ru < P) (hv1:2147483648<=v1) (hv2:v2 < 4294967296)
  (hQd:((top*4294967296+u2)*P+ru) / ((v1*4294967296+v2)*P+rv)=Q) (hQ:Q < 4294967296):∀(f q:Nat),q < f->q<=4294967297->q*v1<=top->Q<=q->
   ze3 v1 v2 u2 top f q=Q∨ze3 v1 v2 u2 top f q=Q+1
 | 0,q,h,_,_,_=>oM
 | f+1,q,h,hq,hle,hge=>by
  unfold ze3;have hr:q*v1+(top - q*v1)=top:=oM
  by_cases hc:4294967296<=q∨(top - q*v1)*4294967296+u2 < q*v2
  ·rw [if_pos hc]
   have hlt:Q < q:=by
    rcases hc with hc | hc
    ·omega
    ·rw [← hQd];exact zps hru hr hc
   have hq1:(q - 1)*v1+v1=q*v1:=by
    have:q=(q - 1)+1:=oM;rw [this,Nat.add_mul];simp
   by_cases hb:4294967296<=top - (q - 1)*v1
   ·rw [if_pos hb];have h1:(q - 1)*v2<=4294967296*4294967295:=Nat.mul_le_mul oM oM;have:=zll hrv hru hv1 hv2 (q:=q - 1) (r:=top - (q - 1)*v1) (top:=top) (u2:=u2) oM oM oM (by rw [hQd];omega)
    rwa [hQd] at this
   ·rw [if_neg hb];exact zlm hrv hru hv1 hv2 hQd hQ f (q - 1) oM oM oM oM
  ·rw [if_neg hc];have:=zll hrv hru hv1 hv2 hr (u2:=u2) oM oM (by rw [hQd];exact hge)
   rwa [hQd] at this
def yx(U V:List Dig):Nat:=dig U V.length*4294967296+dig U (V.length - 1)
def zey(U V:List Dig):Nat:=ze3 (dig V (V.length - 1)) (dig V (V.length - 2)) (dig U (V.length - 2)) (yx U V) (yx U V / dig V (V.length - 1)+1) (yx U V / dig V (V.length - 1))
theorem zu5{U V:List Dig}(hU:U.length=V.length+1)(hn:2<=V.length)(hlt:val U < 4294967296*val V):yx U V < (dig V (V.length - 1)+1)*4294967296:=by
 obtain ⟨n,hn'⟩:∃n,V.length=n+1:=⟨V.length - 1,oM⟩;have e1:=ky U n;have e2:=zz U n;have e3:=zz U (n+1);rw [zU (show U.length<=n+1+1 by omega),Nat.mul_zero,Nat.add_zero] at e3;have f1:=ky V n;have f2:=zz V n;rw [zU (show V.length<=n+1 by omega),Nat.mul_zero,Nat.add_zero] at f2;have f3:=qq V n;unfold yx;rw [hn',Nat.add_sub_cancel];rw [e3] at e2;rw [e2] at e1;rw [f2] at f1;have hp:=zbK n;generalize 4294967296 ^ n=p at*;generalize dig U n=a at*;generalize dig U (n+1)=b at*;generalize dig V n=v at*
 have h1:p*(a+4294967296*b) < p*(4294967296*(v+1)):=by
  have h2:p*(4294967296*(v+1))=4294967296*(p*v+p):=by
   rw [Nat.mul_left_comm,Nat.mul_add p v 1,Nat.mul_one]
  rw [h2];generalize p*(a+4294967296*b)=X at*;generalize p*v=Y at*;omega
 have:=Nat.lt_of_mul_lt_mul_left h1;omega
theorem zig{U V:List Dig}(hU:U.length=V.length+1)(hn:2<=V.length)(hv:2147483648<=dig V (V.length - 1))(hlt:val U < 4294967296*val V):
  (zey U V=val U / val V∨zey U V=val U / val V+1)/\val U / val V<=yx U V / dig V (V.length - 1)/\yx U V / dig V (V.length - 1)<=4294967297:=by
 have hest:=zqP (r:=U) (b:=V) oM hlt;have htop:=zu5 hU hn hlt
 have hVp:0 < val V:=by
  rcases Nat.eq_zero_or_pos (val V) with h | h
  ·rw [h] at hlt;omega
  ·exact h
 have hQ:val U / val V < 4294967296:=(Nat.div_lt_iff_lt_mul hVp).2 hlt
 have hq1:yx U V / dig V (V.length - 1)<=4294967297:=by
  have:yx U V / dig V (V.length - 1) < 4294967298:=by
   rw [Nat.div_lt_iff_lt_mul oM];omega
  omega
 refine ⟨?_,hest,hq1⟩;obtain ⟨n,hn'⟩:∃n,V.length=n+2:=⟨V.length - 2,oM⟩;have e1:=ky U n;have e2:=zz U n;have e3:=zz U (n+1);have e4:=zz U (n+1+1);rw [zU (show U.length<=n+1+1+1 by omega),Nat.mul_zero,Nat.add_zero] at e4;have e5:=qq U n;obtain ⟨rv,r1,r2⟩:=zlk V n hn'
 have eU:val U=(yx U V*4294967296+dig U (V.length - 2))*4294967296 ^ n+val (U.take n):=by
  unfold yx;rw [hn',show n+2 - 1=n+1 by omega,show n+2 - 2=n by omega,e1,e2,e3,e4];generalize 4294967296 ^ n=p
  grind
 have eV:val V=(dig V (V.length - 1)*4294967296+dig V (V.length - 2))*4294967296 ^ n+rv:=by
  rw [hn',show n+2 - 1=n+1 by omega,show n+2 - 2=n by omega];exact r2
 have key:=zlm (P:=4294967296 ^ n) (v1:=dig V (V.length - 1)) (v2:=dig V (V.length - 2)) (top:=yx U V) (u2:=dig U (V.length - 2)) (Q:=val U / val V) r1 e5 hv (jU _ _) (by rw [← eU,← eV]) hQ
  (yx U V / dig V (V.length - 1)+1) (yx U V / dig V (V.length - 1)) oM hq1 (Nat.div_mul_le_self _ _) hest
 exact key
theorem zte(U V:List Dig)(hl:V.length<=900000000)(hU:U.length=V.length+1)(hn:2<=V.length)(hv:2147483648<=dig V (V.length - 1))(hlt:val U < 4294967296*val V):
  zd Tryz.prog 272 [.sl dgE U,.sl dgE V] [] (u64 (zey U V:Nat)) []:=by
 obtain ⟨_,hQ,hq⟩:=zig hU hn hv hlt;have hG:zey U V=ze3 (dig V (V.length - 1)) (dig V (V.length - 2)) (dig U (V.length - 2)) (yx U V) (yx U V / dig V (V.length - 1)+1) (yx U V / dig V (V.length - 1)):=rfl;refine zc tok mix Tryz.func272 rfl rfl rfl ?_;intro hl1;refine Dr.k ?_;refine Ob.o ?_;intro x hx;have hx:U[V.length]? =some x:=hx;have dx:=zK hx;have hxl:=x.isLt;refine Ar.o ?_;refine Ob.o1 ?_;refine Ar.fit (by simp only [Int.reducePow];omega) ?_;refine Ar.o ?_;refine Ob.o ?_;intro y hy;rw [show ((V.length:Int) - 1).toNat=V.length - 1 by omega] at hy
 have dy:=zK hy;have hyl:=y.isLt;refine Ar.o ?_;refine ⟨_,(zdY hxl hyl rfl).symm,?_⟩;have ht:yx U V=x.val*4294967296+y.val:=by unfold yx;rw [dx,dy]
 rw [← ht];have ht2:yx U V < 18446744073709551616:=oM;generalize yx U V=T at*;refine Dr.k ?_;refine Ar.o ?_;refine Ob.o ?_;intro v1 hv1;rw [show ((V.length:Int) - 1).toNat=V.length - 1 by omega] at hv1;have d1:=zK hv1;have h1l:=v1.isLt;rw [d1] at hv hQ hq hG;refine Ar.o ?_;refine Dv.pos ⟨oM,oM,by show _<=(18446744073709551615:Int);omega⟩ ?_;refine Ar.o ?_;refine Ob.o ?_;intro v1' hv1';rw [show ((V.length:Int) - 1).toNat=V.length - 1 by omega,hv1] at hv1'
 cases hv1'
 refine Ar.o ?_;refine Dv.pos ⟨oM,oM⟩ ?_;have hdm:=Nat.div_add_mod T v1.val;have hml:T % v1.val < v1.val:=Nat.mod_lt _ oM
 refine ⟨Nat×Nat×Nat,fun ⟨f,q,r⟩=>⟨[(7,u64 q),(8,u64 r),(0,.sl dgE U),(1,.sl dgE V),(5,i64 V.length)],[],0,77,0⟩,
  fun s=>s.2.1 < s.1/\s.2.1<=4294967297/\s.2.2 < 4294967296/\s.2.1*v1.val+s.2.2=T/\zey U V=ze3 v1.val (dig V (V.length - 2)) (dig U (V.length - 2)) T s.1 s.2.1,fun s=>s.1,
  (T / v1.val+1,T / v1.val,T % v1.val),?_,?_,?_⟩
 ·exact ⟨by dsimp only;omega,hq,by dsimp only;omega,by dsimp only;rw [Nat.mul_comm];exact hdm,hG⟩
 ·exact z0 [] ⟨congrArg (fun n=>some (u64 n)) (by simp),congrArg (fun n=>some (u64 n)) (by simp),rfl,rfl,rfl,trivial⟩ trivial
 clear hG hQ hq hdm hml ht
 rintro ⟨f,q,r⟩ ⟨g1,g2,g3,g4,g5⟩
 dsimp only at g1 g2 g3 g4 g5;obtain ⟨f',rfl⟩:∃f',f=f'+1:=⟨f - 1,oM⟩;unfold ze3 at g5;have er:T - q*v1.val=r:=oM;rw [er] at g5
 have dec:1<=q->(q - 1)*v1.val+v1.val=q*v1.val:=fun h=>by
  have:q=(q - 1)+1:=oM;rw [this,Nat.add_mul];simp
 refine Dr.k ?_;refine Ob.o1 ?_;refine Br.mk (fun k1=>?_) (fun k1=>?_)
 ·have k1:4294967296<=q:=by simp only [Int.reducePow] at k1;omega
  rw [if_pos (.inl k1)] at g5;have hd:=dec oM;have er2:T - (q - 1)*v1.val=r+v1.val:=oM;rw [er2] at g5;(iterate 2 refine Ar.o ?_);refine Ob.o ?_;intro z hz;rw [show ((V.length:Int) - 1).toNat=V.length - 1 by omega,hv1] at hz
  cases hz
  (iterate 2 refine Ar.o ?_);refine Ob.o1 ?_;refine Br.mk (fun k3=>?_) (fun k3=>?_)
  ·rw [if_pos (by simp only [Int.reducePow] at k3;omega)] at g5;exact zu oM
  ·rw [if_neg (by simp only [Int.reducePow] at k3;omega)] at g5
   exact ⟨(f',q - 1,r+v1.val),⟨by dsimp only;omega,by dsimp only;omega,by dsimp only;simp only [Int.reducePow] at k3;omega,by dsimp only;omega,g5⟩,
    z0 [] ⟨congrArg (fun n=>some (u64 n)) oM,rfl,rfl,rfl,rfl,trivial⟩ trivial,by dsimp only;omega⟩
 ·have k1:q < 4294967296:=by simp only [Int.reducePow] at k1;omega
  refine Ar.o ?_;refine Ob.o ?_;intro v2 hv2;rw [show ((V.length:Int) - 2).toNat=V.length - 2 by omega] at hv2;have d2:=zK hv2;have h2l:=v2.isLt;have hm:=zcm k1 h2l;(iterate 2 refine Ar.o ?_);refine Ob.o1 ?_;refine Ar.fit (by simp only [Int.reducePow];omega) ?_;refine Ar.o ?_;refine Ob.o ?_;intro w hw;rw [show ((V.length:Int) - 2).toNat=V.length - 2 by omega] at hw;have dw:=zK hw;have hwl:=w.isLt;refine Ar.o ?_;refine ⟨_,(zdY g3 hwl rfl).symm,?_⟩;rw [d2,dw] at g5;refine Br.mk (fun k2=>?_) (fun k2=>?_)
  ·have k2:r*4294967296+w.val < q*v2.val:=by
    rw [← Int.natCast_mul] at k2;omega
   have hq0:1<=q:=by
    rcases Nat.eq_zero_or_pos q with h | h
    ·subst h;omega
    ·exact h
   rw [if_pos (.inr k2)] at g5;have hd:=dec hq0;have er2:T - (q - 1)*v1.val=r+v1.val:=oM;rw [er2] at g5;rw [← d2,← dw] at g5;(iterate 2 refine Ar.o ?_);refine Ob.o ?_;intro z hz;rw [show ((V.length:Int) - 1).toNat=V.length - 1 by omega,hv1] at hz
   cases hz
   (iterate 2 refine Ar.o ?_);refine Ob.o1 ?_;refine Br.mk (fun k3=>?_) (fun k3=>?_)
   ·rw [if_pos (by simp only [Int.reducePow] at k3;omega)] at g5;exact zu oM
   ·rw [if_neg (by simp only [Int.reducePow] at k3;omega)] at g5
    exact ⟨(f',q - 1,r+v1.val),⟨by dsimp only;omega,by dsimp only;omega,by dsimp only;simp only [Int.reducePow] at k3;omega,by dsimp only;omega,g5⟩,
     z0 [] ⟨congrArg (fun n=>some (u64 n)) oM,rfl,rfl,rfl,rfl,trivial⟩ trivial,by dsimp only;omega⟩
  ·have k2:¬(4294967296<=q∨r*4294967296+w.val < q*v2.val):=by
    rw [← Int.natCast_mul] at k2;omega
   rw [if_neg k2] at g5;exact zu (by rw [g5])
end Go.Gs
