/- Natural numbers, the other text: differences, products, shifts. -/
import Derived.Test.YtplllpkdmehklaaGreatDoorMA
import Derived.Test.YtplllpkdmehklaaGreatDoorMAR
set_option maxRecDepth 100000
set_option maxHeartbeats 8000000
set_option linter.all false
namespace Go.Gs
open Go.Proofs
theorem um(a:List Dig)(ha:a.length<=1000000000):zd Tryz.prog 114 [.sl dgE a] [] (.sl dgE (zk (val a))) []:=
 (jn a ha).plain rfl
theorem zyN(a b:List Dig)(ha:a.length<=900000000)(hb:b.length<=900000000):
  zd Tryz.prog 160 [.sl dgE a,.sl dgE b] [] (.sl dgE (zk (val a+val b))) []:=(zA6 a b ha hb).plain rfl
theorem zvz(a b:List Dig)(ha:a.length<=900000000)(hb:b.length<=900000000):
  zd Tryz.prog 161 [.sl dgE a,.sl dgE b] [] (.tup [.own 0,pr (val b<=val a)]) [(0,qe (zk (val a - val b)))]:=by
 refine qS tok mix Tryz.func161 rfl rfl rfl ?_;refine zb.t (zvy a b oM oM) ?_;refine Br.mk (fun h=>?_) (fun h=>?_)
 ·have hlt:val a < val b:=zdP.1 h;refine ⟨none,ziE (.cons (.nil rfl) (.cons (.le _ _ (ze oM) rfl) .nil)),?_⟩;show zk (val a - val b)=[];rw [Nat.sub_eq_zero_of_le oM];exact jc
 have hle:val b<=val a:=Nat.le_of_not_lt fun h'=>h (zdP.2 h')
 refine ⟨Dig,dgE,[],rfl,Ob.mk zeo ?_⟩
 refine ⟨Nat×List Dig×Nat,fun ⟨i,out,c⟩=>⟨[(8,i64 i),(7,u64 c),(6,.own 0),(0,.sl dgE a),(1,.sl dgE b)],[(0,qe out)],1,41,0⟩,
  fun q=>q.1<=a.length/\q.2.1.length=q.1/\q.2.2<=1/\val q.2.1+val (b.take q.1)=val (a.take q.1)+4294967296 ^ q.1*q.2.2,fun q=>a.length - q.1,(0,[],0),?_,?_,?_⟩
 ·exact ⟨Nat.zero_le _,rfl,Nat.zero_le _,rfl⟩
 ·exact zf [(0,some 0)]
 rintro ⟨i,out,c⟩ ⟨h1,h2,h3,h4⟩
 dsimp only at h1 h2 h3 h4;intro hl1;refine Br.mk (fun h5=>?_) (fun h5=>?_)
 ·have d1:=yB a i;have d2:=yB b i;refine zb.t (yu a _ oM) ?_;simp only [Int.toNat_natCast];refine Ar.o ?_;refine zb.t (yu b _ oM) ?_;simp only [Int.toNat_natCast];(iterate 2 refine Ar.o ?_);refine Ar.wrap ?_;refine ⟨Dig,dgE,[dof (4294967296+dig a i - dig b i - c)],congrArg (fun n=>[u32 n]) (zaH oM),Ob.mk (zgo _) ?_⟩;refine ⟨_,rfl,Ob.mk (zgp (by simp;omega)) ?_⟩;refine Ob.o1 ?_;refine Ar.fit (by simp only [Int.reducePow];omega) ?_;refine Ar.o ?_
  refine ⟨(i+1,out++[dof (4294967296+dig a i - dig b i - c)],1 - (4294967296+dig a i - dig b i - c) / 4294967296),⟨by dsimp only;omega,by simp [h2],by dsimp only;omega,?_⟩,
   z9 [(0,some 2)] ⟨rfl,congrArg (fun n=>some (u64 n)) (by dsimp only;omega),rfl,rfl,rfl,trivial⟩ ⟨rfl,trivial⟩,by dsimp only;omega⟩
  dsimp only;rw [uY,h2,ki,zO,zO,Nat.pow_succ];have e:(4294967296+dig a i - dig b i - c) % 4294967296+dig b i+c=dig a i+4294967296*(1 - (4294967296+dig a i - dig b i - c) / 4294967296):=oM;generalize 1 - (4294967296+dig a i - dig b i - c) / 4294967296=x at*;generalize (4294967296+dig a i - dig b i - c) % 4294967296=y at*;generalize 4294967296 ^ i=p at*
  have e2:p*y+p*dig b i+p*c=p*dig a i+p*4294967296*x:=by
   rw [← Nat.mul_add,← Nat.mul_add,e,Nat.mul_add,Nat.mul_assoc]
  omega
 ·have hi:i=a.length:=by omega
  refine zb.fresh _ _ (jn _ oM) rfl (qE _) (.inr (qp _)) ?_;refine ⟨some 1,ziE (.cons (.own _ rfl) (.cons (.le _ _ (zP hle) rfl) .nil)),?_,fun _ _=>rfl⟩
  have e:val out=val a - val b:=by
   subst hi;have e0:val (a.take a.length)=val a:=kQ (Nat.le_refl _);rw [e0] at h4;have e1:=kG b a.length;have e2:=qT a
   have e3:val (b.drop a.length)=0:=by
    rcases Nat.eq_zero_or_pos (val (b.drop a.length)) with h | h
    ·exact h
    ·have:=Nat.mul_le_mul_left (4294967296 ^ a.length) h;omega
   have e4:=qT out;rw [h2] at e4;rw [e3] at e1;have:c=0∨c=1:=oM
   rcases this with rfl | rfl <;> omega
  rw [← e];rfl
theorem zmi(a b:List Dig)(ha:a.length<=900000000)(hb:b.length<=900000000):
  zd Tryz.prog 161 [.sl dgE a,.sl dgE b] [] (.tup [.sl dgE (zk (val a - val b)),pr (val b<=val a)]) []:=(zvz a b ha hb).plain rfl
theorem zvA{x y c:Nat}(hx:x < 4294967296)(hy:y < 4294967296)(hc:c < 4294967296):x*y+c<=18446744069414584320:=by
 have:x*y<=4294967295*4294967295:=Nat.mul_le_mul oM oM;omega
theorem zdQ{x y:Nat}(hx:x < 4294967296)(hy:y < 4294967296):x*y<=18446744065119617025:=by
 have:x*y<=4294967295*4294967295:=Nat.mul_le_mul oM oM;omega
theorem zn0{p q x y z c u v w o o0 r:Nat}(h4:o+p*q*c=o0+p*(x*w))(hs:r+p*q*z=o+p*q*v)(e:4294967296*u+v=x*y+z+c):
  r+p*q*4294967296*u=o0+p*(x*(w+q*y)):=by grind
theorem zvB(a:List Dig)(d:Nat)(ha:a.length<=900000000)(hd:d < 4294967296):
  zd Tryz.prog 287 [.sl dgE a,u64 d] [] (.own 0) [(0,qe (zk (val a*d)))]:=by
 refine qS tok mix Tryz.func287 rfl rfl rfl ?_;refine ⟨Dig,dgE,[],rfl,Ob.mk zeo ?_⟩
 refine ⟨Nat×List Dig×Nat,fun ⟨i,out,c⟩=>⟨[(7,i64 i),(6,u64 c),(5,.own 0),(0,.sl dgE a),(1,u64 d)],[(0,qe out)],1,39,0⟩,
  fun q=>q.1<=a.length/\q.2.1.length=q.1/\q.2.2 < 4294967296/\val q.2.1+4294967296 ^ q.1*q.2.2=val (a.take q.1)*d,fun q=>a.length - q.1,(0,[],0),?_,?_,?_⟩
 ·exact ⟨Nat.zero_le _,rfl,dC,by simp [val]⟩
 ·exact zf [(0,some 0)]
 rintro ⟨i,out,c⟩ ⟨h1,h2,h3,h4⟩
 dsimp only at h1 h2 h3 h4;intro hl1;refine Br.mk (fun h5=>?_) (fun h5=>?_)
 ·refine Ob.o ?_;intro x hx;have hx:a[i]? =some x:=hx;have dx:=zS hx;have hm:=zvA x.isLt hd h3;have hm0:=zdQ x.isLt hd;have hxl:=x.isLt;(iterate 3 refine Ar.o ?_);refine Ar.wrap ?_;refine ⟨Dig,dgE,[dof (x.val*d+c)],congrArg (fun n=>[u32 n]) (zaH oM),Ob.mk (zgo _) ?_⟩;refine ⟨_,rfl,Ob.mk (zgp (by simp;omega)) ?_⟩;refine Ob.o1 ?_;refine Ar.o ?_
  refine ⟨(i+1,out++[dof (x.val*d+c)],(x.val*d+c) / 4294967296),⟨by dsimp only;omega,by simp [h2],by dsimp only;omega,?_⟩,
   z9 [(0,some 2)] ⟨rfl,congrArg (fun n=>some (u64 n)) (by dsimp only;omega),rfl,rfl,rfl,trivial⟩ ⟨rfl,trivial⟩,by dsimp only;omega⟩
  dsimp only;rw [uY,h2,ki,zO,Nat.pow_succ,dx];have e:=Nat.div_add_mod (x.val*d+c) 4294967296;generalize (x.val*d+c) / 4294967296=u at*;generalize (x.val*d+c) % 4294967296=v at*;generalize 4294967296 ^ i=p at*;generalize x.val=x at*;generalize val (a.take i)=w at*;clear hm hm0
  grind
 ·have hi:i=a.length:=by omega
  refine Ar.wrap ?_;refine ⟨Dig,dgE,[dof c],congrArg (fun n=>[u32 n]) (zaH rfl),Ob.mk (zgo _) ?_⟩;refine ⟨_,rfl,Ob.mk (zgp (by simp;omega)) ?_⟩;refine zb.fresh _ _ (jn _ (by simp;omega)) rfl (qE _) (.inr (qp _)) ?_;refine ⟨some 3,.own _ rfl,?_,fun _ _=>rfl⟩
  have e:val (out++[dof c])=val a*d:=by
   rw [uY,h2,ki,Nat.mod_eq_of_lt oM,h4,kQ oM]
  rw [← e];rfl
theorem ztl(a:List Dig)(d:Nat)(ha:a.length<=900000000)(hd:d < 4294967296):
  zd Tryz.prog 287 [.sl dgE a,u64 d] [] (.sl dgE (zk (val a*d))) []:=(zvB a d ha hd).plain rfl
theorem zA7(a b:List Dig)(ha:a.length<=400000000)(hb:b.length<=400000000):
  zd Tryz.prog 107 [.sl dgE a,.sl dgE b] [] (.own 0) [(0,qe (zk (val a*val b)))]:=by
 refine qS tok mix Tryz.func107 rfl rfl rfl ?_;intro hl1 hl2;(iterate 2 refine Ar.o ?_);refine ⟨Dig,dgE,0,rfl,Ob.o3 ?_⟩
 refine ⟨Nat×List Dig,fun ⟨i,out⟩=>⟨[(6,i64 i),(5,.own 0),(0,.sl dgE a),(1,.sl dgE b)],[(0,qe out)],1,69,0⟩,
  fun q=>q.1<=a.length/\q.2.length=a.length+b.length+1/\val q.2=val (a.take q.1)*val b/\∀j,q.1+b.length<=j->dig q.2 j=0,fun q=>a.length - q.1,(0,List.replicate (a.length+b.length+1) 0),?_,?_,?_⟩
 ·exact ⟨Nat.zero_le _,by simp,by simp [zaj,val],fun j _=>yz _ _⟩
 ·exact zY [(0,some 0)] ⟨congrArg (fun n=>some (qe (List.replicate n 0))) oM,trivial⟩
 rintro ⟨i,out0⟩ ⟨h1,h2,h3,h4⟩
 dsimp only at h1 h2 h3 h4;intro hl3;refine Br.mk (fun h5=>?_) (fun h5=>?_)
 ·refine ⟨Nat×List Dig×Nat,fun ⟨k,out,c⟩=>⟨[(8,i64 k),(7,u64 c),(6,i64 i),(5,.own 0),(0,.sl dgE a),(1,.sl dgE b)],[(0,qe out)],1,69,0⟩,
   fun q=>q.1<=b.length/\q.2.1.length=a.length+b.length+1/\q.2.2 < 4294967296/\val q.2.1+4294967296 ^ (i+q.1)*q.2.2=val out0+4294967296 ^ i*(dig a i*val (b.take q.1))/\∀j,i+b.length<=j->dig q.2.1 j=0,fun q=>b.length - q.1,(0,out0,0),?_,?_,?_⟩
  ·exact ⟨Nat.zero_le _,h2,by dsimp only;omega,by simp [val],h4⟩
  ·exact zf [(0,some 0)]
  rintro ⟨k,out,c⟩ ⟨g1,g2,g3,g4,g5⟩
  dsimp only at g1 g2 g3 g4 g5;intro hl4;refine Br.mk (fun g6=>?_) (fun g6=>?_)
  ·refine Dr.k ?_;refine Ob.o ?_;intro x hx;have hx:a[i]? =some x:=hx;have dx:=zS hx;have hxl:=x.isLt;refine Ar.o ?_;refine Ob.o ?_;intro y hy;have hy:b[k]? =some y:=hy;have dy:=zS hy;have hyl:=y.isLt;refine Ar.o ?_;have hm0:=zdQ hxl hyl;(iterate 2 refine Ar.o ?_);refine Ob.o ?_;refine Ob.o ?_;intro z hz;rw [show ((i:Int)+k).toNat=i+k by omega] at hz;have dz:=zS hz;have hzl:=z.isLt;(iterate 4 refine Ar.o ?_);refine Ar.wrap ?_;refine Ob.o ?_;refine Ob.o ?_;intro z' hz'
   refine ⟨dof (x.val*y.val+z.val+c),congrArg (fun n=>[u32 n]) (zaH oM),?_⟩;refine Ob.o1 ?_;refine Ar.o ?_
   refine ⟨(k+1,out.set (i+k) (dof (x.val*y.val+z.val+c)),(x.val*y.val+z.val+c) / 4294967296),⟨by dsimp only;omega,by simp [g2],by dsimp only;omega,?_,?_⟩,
    z9 [(0,some 0)] ⟨rfl,congrArg (fun n=>some (u64 n)) (by dsimp only;omega),rfl,rfl,rfl,rfl,trivial⟩ ⟨congrArg (fun n=>some (qe (out.set n _))) oM,trivial⟩,by dsimp only;omega⟩
   ·dsimp only;have hs:=vD out (i+k) (dof (x.val*y.val+z.val+c)) oM;rw [ki,dz] at hs;rw [zO,dy,← Nat.add_assoc i k 1,Nat.pow_succ];rw [dx] at g4 ⊢;have e:=Nat.div_add_mod (x.val*y.val+z.val+c) 4294967296;rw [Nat.pow_add] at g4 hs ⊢;exact zn0 g4 hs e
   ·intro j hj;dsimp only;rw [jA,if_neg oM];exact g5 j hj
  ·have hk:k=b.length:=by omega
   intro hl5;refine Ar.o ?_;refine Ar.wrap ?_;refine Ob.o ?_;refine Ob.o ?_;intro z' hz';refine ⟨dof c,congrArg (fun n=>[u32 n]) (zaH rfl),?_⟩;refine Ar.o ?_
   refine ⟨(i+1,out.set (i+b.length) (dof c)),⟨by dsimp only;omega,by simp [g2],?_,?_⟩,
    zY [(0,some 0)] ⟨congrArg (fun n=>some (qe (out.set n _))) oM,trivial⟩,by dsimp only;omega⟩
   ·dsimp only;have hs:=vD out (i+b.length) (dof c) oM;rw [ki,g5 _ (Nat.le_refl _),Nat.mod_eq_of_lt g3] at hs;rw [hk,kQ (Nat.le_refl _),h3] at g4;rw [zO];generalize val (out.set (i+b.length) _)=r at*;generalize 4294967296 ^ i=p at*;generalize 4294967296 ^ (i+b.length)=q at*;generalize val (a.take i)=w at*;generalize dig a i=x at*;generalize val out=o at*;clear h4 g5
    grind
   ·intro j hj;dsimp only;rw [jA,if_neg oM];exact g5 j oM
 ·have hi:i=a.length:=by omega
  refine zb.fresh _ _ (jn _ oM) rfl (qE _) (.inr (qp _)) ?_;refine ⟨some 1,.own _ rfl,?_,fun _ _=>rfl⟩;rw [hi,kQ (Nat.le_refl _)] at h3;rw [← h3];rfl
theorem zyO(a b:List Dig)(ha:a.length<=400000000)(hb:b.length<=400000000):
  zd Tryz.prog 107 [.sl dgE a,.sl dgE b] [] (.sl dgE (zk (val a*val b))) []:=(zA7 a b ha hb).plain rfl
theorem zfp(a:List Dig):kA (val a)<=32*a.length:=by
 by_cases h:val a=0
 ·rw [h,zqb];omega
 ·have h1:=zbt h;have h2:=qT a;rw [zaG] at h2;have:=(Nat.pow_lt_pow_iff_right (by decide:1 < 2)).1 (Nat.lt_of_le_of_lt h1 h2);omega
theorem zkN(a:List Dig)(ha:a.length<=900000000):zd Tryz.prog 159 [.sl dgE a] [] (i64 (kA (val a))) []:=by
 refine zc tok mix Tryz.func159 rfl rfl rfl ?_;refine zb.t (um _ oM) ?_;intro hl;have hlen:=zG a;refine Br.mk (fun h=>?_) (fun h=>?_)
 ·have:zk (val a)=[]:=List.length_eq_zero_iff.1 oM;exact zj (by rw [yr.1 this];rfl)
 have hne:zk (val a)≠[]:=fun e=>h (by rw [e];rfl)
 have hn:=(vn (val a)).resolve_left hne;have htop:=zbv hn;rw [zm] at htop;intro hl2;(iterate 2 refine Ar.o ?_);intro hl3;refine Ar.o ?_;refine Ob.o ?_;intro x hx;rw [show (((zk (val a)).length:Int) - 1).toNat=(zk (val a)).length - 1 by omega] at hx;have dx:=zS hx;have hxl:=x.isLt;have hb:=zfp a;refine ⟨Nat×Nat,fun ⟨n,t⟩=>⟨[(4,i64 n),(5,u32 t)],[],0,28,0⟩,fun q=>q.2 < 4294967296/\q.1+kA q.2=kA (val a),fun q=>q.2,(32*((zk (val a)).length - 1),x.val),?_,?_,?_⟩
 ·exact ⟨hxl,by dsimp only;rw [htop,dx]⟩
 ·exact z9 [] ⟨congrArg (fun n=>some (i64 n)) oM,rfl,trivial⟩ trivial
 rintro ⟨n,t⟩ ⟨g1,g2⟩
 dsimp only at g1 g2;refine Br.mk (fun g3=>?_) (fun g3=>?_)
 ·have hh:=zqc (n:=t) oM;refine Ar.o ?_;refine Dv.pos ⟨oM,oM,by show _<=(4294967295:Int);omega⟩ ?_;exact ⟨(n+1,t / 2),⟨by dsimp only;omega,by dsimp only;omega⟩,z9 [] ⟨rfl,congrArg (fun n=>some (u32 n)) oM,trivial⟩ trivial,by dsimp only;omega⟩
 ·have:t=0:=by omega
  subst this;exact zj (by rw [← g2];rfl)
theorem zyP{p s x c u v w o M:Nat}(h4:o+p*M*c=p*(s*w))(e:4294967296*u+v=x*s+c):
  o+p*M*v+p*(M*4294967296)*u=p*(s*(w+M*x)):=by grind
theorem zAq(a:List Dig)(n:Nat)(ha:a.length<=800000000)(hn:n<=4096):
  zd Tryz.prog 286 [.sl dgE a,i64 n] [] (.own 0) [(0,qe (zk (val a*2 ^ n)))]:=by
 refine qS tok mix Tryz.func286 rfl rfl rfl ?_;have hs0:2 ^ (n % 32)<=2 ^ 31:=Nat.pow_le_pow_right dC oM;have hs1:0 < 2 ^ (n % 32):=Nat.pow_pos dC;generalize hs:2 ^ (n % 32)=s at*;refine Dv.pos ⟨oM,oM,by show _<=(9223372036854775807:Int);omega⟩ ?_;refine ⟨Dig,dgE,0,rfl,Ob.o3 ?_⟩
 refine ⟨Nat×List Dig×Nat,fun ⟨i,out,c⟩=>⟨[(7,i64 i),(6,u64 c),(5,.own 0),(0,.sl dgE a),(1,i64 n)],[(0,qe out)],1,43,0⟩,
  fun q=>q.1<=a.length/\q.2.1.length=n / 32+q.1/\q.2.2 < s/\val q.2.1+4294967296 ^ (n / 32)*4294967296 ^ q.1*q.2.2=4294967296 ^ (n / 32)*(s*val (a.take q.1)),fun q=>a.length - q.1,(0,List.replicate (n / 32) 0,0),?_,?_,?_⟩
 ·exact ⟨Nat.zero_le _,by simp,hs1,by simp [zaj,val]⟩
 ·exact zY [(0,some 0)] ⟨congrArg (fun n=>some (qe (List.replicate n 0))) oM,trivial⟩
 rintro ⟨i,out,c⟩ ⟨h1,h2,h3,h4⟩
 dsimp only at h1 h2 h3 h4;intro hl1;refine Br.mk (fun h5=>?_) (fun h5=>?_)
 ·refine Ob.o ?_;intro x hx;have hx:a[i]? =some x:=hx;have dx:=zS hx;have hxl:=x.isLt;refine Ar.o ?_;refine Dv.pos ⟨oM,oM⟩ ?_;refine Ar.o ?_;refine Ob.o6 ?_;have hm:x.val*s<=4294967295*2 ^ 31:=Nat.mul_le_mul oM hs0
  have hm2:(x.val:Int)*2 ^ ((n:Int) % 32).toNat=((x.val*s:Nat):Int):=by
   rw [← hs,show ((n:Int) % 32).toNat=n % 32 by omega];simp
  have hm3:x.val*s+c < 4294967296*s:=by
   have:x.val*s<=4294967295*s:=Nat.mul_le_mul_right _ oM;omega
  refine Ar.fit (by rw [hm2];omega) ?_;refine Ar.fit (by rw [hm2];omega) ?_;refine Ar.wrap ?_;refine ⟨Dig,dgE,[dof (x.val*s+c)],congrArg (fun n=>[u32 n]) (zaH (by rw [hm2];omega)),Ob.mk (zgo _) ?_⟩;refine ⟨_,rfl,Ob.mk (zgp (by simp;omega)) ?_⟩;refine Ob.o1 ?_;refine Ar.o ?_
  refine ⟨(i+1,out++[dof (x.val*s+c)],(x.val*s+c) / 4294967296),⟨by dsimp only;omega,by simp [h2];omega,by dsimp only;omega,?_⟩,
   z9 [(0,some 2)] ⟨rfl,congrArg (fun n=>some (u64 n)) (by rw [hm2];dsimp only;omega),rfl,rfl,rfl,trivial⟩ ⟨rfl,trivial⟩,by dsimp only;omega⟩
  dsimp only;rw [uY,h2,ki,zO,dx,Nat.pow_succ,Nat.pow_add];exact zyP h4 (Nat.div_add_mod (x.val*s+c) 4294967296)
 ·have hi:i=a.length:=by omega
  refine Ar.wrap ?_;refine ⟨Dig,dgE,[dof c],congrArg (fun n=>[u32 n]) (zaH rfl),Ob.mk (zgo _) ?_⟩;refine ⟨_,rfl,Ob.mk (zgp (by simp;omega)) ?_⟩;refine zb.fresh _ _ (jn _ (by simp;omega)) rfl (qE _) (.inr (qp _)) ?_;refine ⟨some 3,.own _ rfl,?_,fun _ _=>rfl⟩
  have e:val (out++[dof c])=val a*2 ^ n:=by
   rw [uY,h2,ki,Nat.mod_eq_of_lt oM,Nat.pow_add,h4,kQ oM,← hs,zaG];rw [← Nat.mul_assoc,← Nat.pow_add,show 32*(n / 32)+n % 32=n by omega,Nat.mul_comm]
  rw [← e];rfl
theorem zA8(a:List Dig)(n:Nat)(ha:a.length<=800000000)(hn:n<=4096):
  zd Tryz.prog 247 [.sl dgE a,i64 n] [] (.own 0) [(0,qe (zk (val a*2 ^ n)))]:=by
 refine qS tok mix Tryz.func247 rfl rfl rfl ?_;refine Br.mk (fun h=>?_) (fun h=>absurd oM h);have e:zcE (n:Int) [4096]=n:=by simp only [zcE];omega
 refine zb.fresh _ _ (show zd Tryz.prog _ [.sl dgE a,i64 (zcE (n:Int) [4096])] [] (.own 0) [(0,qe (zk (val a*2 ^ n)))] by rw [e];exact zAq a n ha hn) rfl (qE _) (.inr (qp _)) ?_;exact ⟨some 0,.own _ rfl,rfl,fun _ _=>rfl⟩
theorem zA9(a:List Dig)(n:Nat)(ha:a.length<=800000000)(hn:n<=1000000000000):
  zd Tryz.prog 247 [.sl dgE a,i64 (-(n:Int))] [] (.own 0) [(0,qe (zk (val a / 2 ^ n)))]:=by
 refine qS tok mix Tryz.func247 rfl rfl rfl ?_;refine Br.mk (fun h=>?_) (fun h=>?_)
 ·have hn0:n=0:=by omega
  subst hn0
  refine zb.fresh _ _ (show zd Tryz.prog _ [.sl dgE a,i64 (zcE (-((0:Nat):Int)) [4096])] [] (.own 0) [(0,qe (zk (val a / 2 ^ 0)))] by
   have:=zAq a 0 ha oM;rw [show zcE (-((0:Nat):Int)) [4096]=0 by decide,Nat.pow_zero,Nat.div_one];rw [Nat.pow_zero,Nat.mul_one] at this
   exact this) rfl (qE _) (.inr (qp _)) ?_
  exact ⟨some 0,.own _ rfl,rfl,fun _ _=>rfl⟩
 intro hl;refine Ar.o ?_;refine Br.mk (fun h2=>?_) (fun h2=>?_)
 ·refine ⟨Dig,dgE,[],rfl,Ob.mk zeo ?_⟩;refine ⟨some 0,.own _ rfl,?_,fun _ _=>rfl⟩
  have e:val a / 2 ^ n=0:=by
   refine Nat.div_eq_of_lt (Nat.lt_of_lt_of_le (qT a) ?_);rw [zaG];exact Nat.pow_le_pow_right dC oM
  rw [e,jc];rfl
 refine ⟨Dig,dgE,[],rfl,Ob.mk zeo ?_⟩;refine Ar.o ?_;refine Dv.pos ⟨oM,oM,by show _<=(9223372036854775807:Int);omega⟩ ?_
 refine ⟨Nat×List Dig,fun ⟨i,out⟩=>⟨[(6,i64 ((n / 32+i:Nat))),(5,.own 0),(0,.sl dgE a),(1,i64 (-(n:Int)))],[(0,qe out)],1,51,0⟩,
  fun q=>q.1+n / 32<=a.length/\q.2.length=q.1/\∀j,j < q.2.length->dig q.2 j=val a / 2 ^ n / 4294967296 ^ j % 4294967296,fun q=>a.length - q.1,(0,[]),?_,?_,?_⟩
 ·exact ⟨by dsimp only;omega,rfl,fun j h=>by simp at h⟩
 ·exact z9 [(0,some 0)] ⟨congrArg (fun n=>some (i64 n)) oM,rfl,rfl,rfl,trivial⟩ ⟨rfl,trivial⟩
 rintro ⟨i,out⟩ ⟨g1,g2,g3⟩
 dsimp only at g1 g2 g3;intro hl1;refine Br.mk (fun h5=>?_) (fun h5=>?_)
 ·have d1:=yB a (n / 32+i);have d2:=yB a (n / 32+i+1);have hw:(((n / 32+i:Nat):Int)+1).toNat=n / 32+i+1:=oM;refine Ar.o ?_;refine zb.t (yu a _ oM) ?_;rw [hw];refine Ob.o1 ?_;refine Ar.fit (by simp only [Int.reducePow];omega) ?_;refine zb.t (yu a _ oM) ?_;simp only [Int.toNat_natCast];refine Ar.fit (by simp only [Int.reducePow];omega) ?_;refine Ar.o ?_;refine Dv.pos ⟨oM,oM⟩ ?_;refine Ar.o ?_;refine Ob.o6 ?_;refine Ar.wrap ?_;have es:((-(-(n:Int))) % 32).toNat=n % 32:=oM
  refine ⟨Dig,dgE,[dof ((dig a (n / 32+i+1)*4294967296+dig a (n / 32+i)) / 2 ^ (n % 32))],congrArg (fun n=>[u32 n]) (zaH (by rw [es];simp)),Ob.mk (zgo _) ?_⟩;refine ⟨_,rfl,Ob.mk (zgp (by simp;omega)) ?_⟩;refine Ar.o ?_
  refine ⟨(i+1,out++[dof ((dig a (n / 32+i+1)*4294967296+dig a (n / 32+i)) / 2 ^ (n % 32))]),⟨by dsimp only;omega,by simp [g2],?_⟩,
   z9 [(0,some 2)] ⟨congrArg (fun n=>some (i64 n)) oM,rfl,rfl,rfl,trivial⟩ ⟨rfl,trivial⟩,by dsimp only;omega⟩
  intro j hj;dsimp only at hj ⊢;rw [List.length_append,List.length_singleton] at hj;rw [zqa]
  split
  ·exact g3 j oM
  ·have hji:j=i:=by omega
   subst hji;have:=zrA a (n / 32) (n % 32) j oM;rw [show 32*(n / 32)+n % 32=n by omega] at this;rw [this,g2,Nat.sub_self,zem,ki]
 ·refine zb.fresh _ _ (jn _ oM) rfl (qE _) (.inr (qp _)) ?_;refine ⟨some 1,.own _ rfl,?_,fun _ _=>rfl⟩
  have e:val out=val a / 2 ^ n:=by
   rw [zc3 g3,Nat.mod_eq_of_lt];rw [Nat.div_lt_iff_lt_mul (Nat.pow_pos dC)];refine Nat.lt_of_lt_of_le (qT a) ?_;rw [zaG,zaG,← Nat.pow_add];exact Nat.pow_le_pow_right dC oM
  rw [← e];rfl
theorem zrC(a:List Dig)(n:Nat)(ha:a.length<=800000000)(hn:n<=4096):
  zd Tryz.prog 247 [.sl dgE a,i64 n] [] (.sl dgE (zk (val a*2 ^ n))) []:=(zA8 a n ha hn).plain rfl
theorem zvC{r b:List Dig}(hb:dig b (b.length - 1)≠0)(hlt:val r < 4294967296*val b):
  val r / val b<=(dig r b.length*4294967296+dig r (b.length - 1)) / dig b (b.length - 1):=by
 have hl:0 < b.length:=by
  rcases Nat.eq_zero_or_pos b.length with h | h
  ·rw [List.length_eq_zero_iff.1 h] at hb;exact absurd rfl hb
  ·exact h
 have e1:=kG b (b.length - 1);have e3:=zB b (b.length - 1);rw [show b.length - 1+1=b.length by omega,z5 (Nat.le_refl _),Nat.mul_zero,Nat.add_zero] at e3;have r1:=kG r (b.length - 1);have r2:=jr r (b.length - 1);have r3:=zB r (b.length - 1);have r4:=zB r b.length;rw [show b.length - 1+1=b.length by omega] at r3;have hbl:=qT b;have hpow:4294967296 ^ b.length=4294967296 ^ (b.length - 1)*4294967296:=by rw [← Nat.pow_succ];congr 1;omega
 have r5:val (r.drop (b.length+1))=0:=by
  rw [ziK];refine Nat.div_eq_of_lt (Nat.lt_trans hlt ?_);rw [Nat.pow_succ,Nat.mul_comm];exact Nat.mul_lt_mul_of_pos_right hbl dC
 rw [r5,Nat.mul_zero,Nat.add_zero] at r4;rw [r4] at r3;rw [e3] at e1;rw [r3] at r1;have hp:=zcZ (b.length - 1);generalize 4294967296 ^ (b.length - 1)=p at*;generalize dig b (b.length - 1)=t at*;generalize dig r (b.length - 1)=x at*;generalize dig r b.length=y at*;rw [Nat.le_div_iff_mul_le oM];have h6:=Nat.div_mul_le_self (val r) (val b);generalize val r / val b=q at*;have h7:q*(p*t)<=q*val b:=Nat.mul_le_mul_left _ oM
 have h8:p*(q*t) < p*(x+4294967296*y+1):=by
  have:q*(p*t)=p*(q*t):=by rw [← Nat.mul_assoc,Nat.mul_comm q p,Nat.mul_assoc]
  rw [Nat.mul_add p _ 1];omega
 have:=Nat.lt_of_mul_lt_mul_left h8;omega
theorem zvD{a q:Nat}{e:Int}(he:e=a)(ha:q<=a)(hb:q < 4294967296):∃m:Nat,m < 4294967296/\q<=m/\zcE e [4294967295]=m:=by
 rcases Int.le_total e 4294967295 with h | h
 ·exact ⟨a,oM,ha,by simp only [zcE];rw [Int.min_eq_left h,he]⟩
 ·exact ⟨4294967295,oM,oM,by simp only [zcE];rw [Int.min_eq_right h];simp⟩
theorem zvE(r b:List Dig)(hr:r.length<=800000000)(hb:b.length<=800000000)(ht:dig b (b.length - 1)≠0)(hlt:val r < 4294967296*val b):
  zd Tryz.prog 248 [.sl dgE r,.sl dgE b] [] (.tup [u64 ((val r / val b:Nat):Int),.own 0]) [(0,qe (zk (val r % val b)))]:=by
 refine qS tok mix Tryz.func248 rfl rfl rfl ?_
 have hl:0 < b.length:=by
  rcases Nat.eq_zero_or_pos b.length with h | h
  ·rw [List.length_eq_zero_iff.1 h] at ht;exact absurd rfl ht
  ·exact h
 have hbp:0 < val b:=by
  rcases Nat.eq_zero_or_pos (val b) with h | h
  ·rw [h] at hlt;omega
  ·exact h
 have hest:=zvC ht hlt;have hq:val r / val b < 4294967296:=by rw [Nat.div_lt_iff_lt_mul hbp];exact hlt
 have d1:=yB r b.length;have d2:=yB r (b.length - 1);have d3:=yB b (b.length - 1);intro hl0;refine Dr.k ?_;refine zb.t (yu r _ oM) ?_;rw [Int.toNat_natCast];refine Ob.o1 ?_;refine Ar.fit (by simp only [Int.reducePow];omega) ?_;refine Ar.o ?_;refine zb.t (yu r _ oM) ?_;rw [show ((b.length:Int) - 1).toNat=b.length - 1 by omega];refine Ar.fit (by simp only [Int.reducePow];omega) ?_;refine Ar.o ?_;refine Ob.o ?_;intro x hx;rw [show ((b.length:Int) - 1).toNat=b.length - 1 by omega] at hx;have dx:=zS hx;rw [dx] at ht hest d3;refine Ar.o ?_
 refine Dv.pos ⟨by simp only [Int.reducePow];omega,oM,by show _<=(18446744073709551615:Int);simp only [Int.reducePow];omega⟩ ?_;obtain ⟨m,hm1,hm2,em⟩:=zvD (e:=((dig r b.length:Nat)*2 ^ 32+(dig r (b.length - 1):Nat):Int) / ((x.val:Nat):Int)) (by simp) hest hq;clear hest
 refine zb.to _ (show zd Tryz.prog _ [.sl dgE b,u64 (zcE (((dig r b.length:Nat)*2 ^ 32+(dig r (b.length - 1):Nat):Int) / ((x.val:Nat):Int)) [4294967295])] [] (.sl dgE (zk (val b*m))) [] by
  rw [em];exact ztl b m oM oM) rfl ?_
 refine ⟨Nat,fun d=>⟨[(8,u64 d),(9,.sl dgE (zk (val b*d))),(0,.sl dgE r),(1,.sl dgE b)],[],0,55,0⟩,fun d=>val r / val b<=d/\d < 4294967296,fun d=>d,m,?_,?_,?_⟩
 ·exact ⟨hm2,oM⟩
 ·exact z9 [] ⟨congrArg (fun n=>some (u64 n)) em,rfl,rfl,rfl,trivial⟩ trivial
 rintro d ⟨h1,h2⟩
 have hlen:(zk (val b*d)).length<=b.length+1:=yd (by
  rw [Nat.pow_succ]
  exact Nat.mul_lt_mul_of_lt_of_lt (qT b) h2)
 refine zb.t (zvy _ r oM oM) ?_;rw [zm];refine Br.mk (fun h3=>?_) (fun h3=>?_)
 ·have h3:=zrB.1 h3
  have hd:1<=d:=by
   rcases Nat.eq_zero_or_pos d with h | h
   ·subst h;omega
   ·exact h
  have hq':val r / val b<=d - 1:=by
   have:val r / val b < d:=by rw [Nat.div_lt_iff_lt_mul hbp,Nat.mul_comm];exact h3
   omega
  refine Ar.o ?_;refine zb.t (zmi _ b oM oM) ?_;rw [zm];refine ⟨d - 1,⟨hq',oM⟩,z9 [] ⟨congrArg (fun n=>some (u64 n)) oM,congrArg (fun n=>some (SV.sl dgE (zk n))) (show val b*d - val b=val b*(d - 1) by rw [Nat.mul_sub,Nat.mul_one]),rfl,rfl,trivial⟩ trivial,by dsimp only;omega⟩
 ·have h3:val b*d<=val r:=Nat.le_of_not_lt fun h=>h3 (zrB.2 h)
  have hd:d=val r / val b:=by
   have:d<=val r / val b:=by rw [Nat.le_div_iff_mul_le hbp,Nat.mul_comm];exact h3
   omega
  refine zb.fresh _ _ (zvz r _ oM oM) rfl (qE _) (.inr (qp _)) ?_;refine ⟨some 0,ziE (.cons (yc (by rw [hd])) (.cons (.own _ rfl) .nil)),?_,fun _ _=>rfl⟩
  have e:val r - val (zk (val b*d))=val r % val b:=by
   rw [zm,hd];have:=Nat.div_add_mod (val r) (val b);omega
  rw [← e];rfl
theorem zn1{u q V d l w B qd rr nx:Nat}(h:w=V*qd+rr)(hn:nx=u+B*rr)(hd:V*d+l=nx)(hq:q=d+B*qd):u+B*w=V*q+l:=by
 subst h;subst hq;grind
theorem zbj{xs:List Dig}{i:Nat}{d:Dig}(h:i < xs.length):val ((xs.set i d).drop i)=d.val+4294967296*val (xs.drop (i+1)):=by
 rw [zB,jA,if_pos ⟨rfl,h⟩,List.drop_set_of_lt oM]
theorem zkO(a b:List Dig)(ha:a.length<=400000000)(hb:b.length<=400000000)(hb0:val b≠0):
  zd Tryz.prog 204 [.sl dgE a,.sl dgE b] [] (.tup [.sl dgE (zk (val a / val b)),.sl dgE (zk (val a % val b)),i64 0]) []:=by
 refine zc tok mix Tryz.func204 rfl rfl rfl ?_;refine zb.t (um _ oM) ?_;intro hl;have hlen:=zG b;refine Br.mk (fun h=>?_) (fun h=>?_)
 ·have:zk (val b)=[]:=List.length_eq_zero_iff.1 oM;exact absurd (yr.1 this) hb0
 have hne:zk (val b)≠[]:=fun e=>hb0 (yr.1 e)
 have hnorm:=(vn (val b)).resolve_left hne;have htop:=zbv hnorm;rw [zm] at htop;have hbits:=zfp (zk (val b));rw [zm] at hbits;have hpos:=zbu.2 hb0;have hnt:0 < kA (dig (zk (val b)) ((zk (val b)).length - 1)):=zbu.2 hnorm;intro hl2;refine Ar.o ?_;refine zb.t (zkN _ oM) ?_;rw [zm];refine Ar.o ?_;obtain ⟨s,hs⟩:∃s:Nat,(32*((zk (val b)).length:Int) - (kA (val b):Int))=s:=⟨32*(zk (val b)).length - kA (val b),oM⟩;rw [hs];have hs32:s < 32:=oM;refine zb.t (zrC a s oM oM) ?_;refine zb.t (zrC (zk (val b)) s oM oM) ?_;rw [zm]
 have hpow:2 ^ s<=4294967296 ^ 1:=by rw [zaG];exact Nat.pow_le_pow_right dC oM
 have hpow0:0 < 2 ^ s:=Nat.pow_pos dC
 have hUl:(zk (val a*2 ^ s)).length<=a.length+1:=yd (by
  rw [Nat.pow_add]
  exact Nat.lt_of_lt_of_le (Nat.mul_lt_mul_of_pos_right (qT a) hpow0) (Nat.mul_le_mul_left _ hpow))
 have hVl:(zk (val b*2 ^ s)).length<=b.length+1:=yd (by
  rw [Nat.pow_add]
  exact Nat.lt_of_lt_of_le (Nat.mul_lt_mul_of_pos_right (qT b) hpow0) (Nat.mul_le_mul_left _ hpow))
 have hV0:val b*2 ^ s≠0:=Nat.mul_ne_zero hb0 oM;have eq1:val a / val b=val a*2 ^ s / (val b*2 ^ s):=(Nat.mul_div_mul_right _ _ hpow0).symm;have eq2:val a % val b=val a*2 ^ s % (val b*2 ^ s) / 2 ^ s:=by rw [Nat.mul_mod_mul_right,Nat.mul_div_cancel _ hpow0]
 rw [eq1,eq2];clear eq1 eq2 hpow hnt hnorm htop hpos hbits;generalize val a*2 ^ s=U at*;generalize val b*2 ^ s=V at*;have hvn:=(vn V).resolve_left fun e=>hV0 (yr.1 e)
 intro hl3;refine ⟨Dig,dgE,0,rfl,Ob.o3 ?_⟩;refine ⟨Dig,dgE,[],rfl,Ob.mk zeo ?_⟩;intro hl4;refine Ar.o ?_
 refine ⟨Nat×List Dig×List Dig,fun ⟨j,q,r⟩=>⟨[(13,i64 ((j:Int) - 1)),(12,.own 1),(11,.own 0),(9,.sl dgE (zk U)),(10,.sl dgE (zk V)),(8,i64 s)],[(1,qe r),(0,qe q)],2,83,0⟩,
  fun x=>x.1<=(zk U).length/\x.2.1.length=(zk U).length/\x.2.2.length<=(zk V).length/\val ((zk U).drop x.1)=V*val (x.2.1.drop x.1)+val x.2.2/\val x.2.2 < V,fun x=>x.1,
  ((zk U).length,List.replicate (zk U).length 0,[]),?_,?_,?_⟩
 ·refine ⟨Nat.le_refl _,by simp,by simp,?_,by dsimp only;rw [zmg];omega⟩;dsimp only;rw [z5 (Nat.le_refl _),z5 (by simp),zmg,Nat.mul_zero]
 ·exact zY [(0,some 0),(1,some 1)] ⟨rfl,congrArg (fun n=>some (qe (List.replicate n 0))) oM,trivial⟩
 rintro ⟨j,q,r⟩ ⟨g1,g2,g3,g4,g5⟩
 dsimp only at g1 g2 g3 g4 g5;refine Br.mk (fun k1=>?_) (fun k1=>?_)
 ·refine Ob.o ?_;intro x hx;rw [show ((j:Int) - 1).toNat=j - 1 by omega] at hx;have dx:=zS hx;have hxl:=x.isLt;refine ⟨Dig,dgE,[x],rfl,Ob.mk (zgo x) ?_⟩
  refine ⟨Nat,fun k=>⟨[(15,i64 k),(14,.own 2),(13,i64 ((j:Int) - 1)),(12,.own 1),(11,.own 0),(9,.sl dgE (zk U)),(10,.sl dgE (zk V)),(8,i64 s)],[(2,qe (x::r.take k)),(1,qe r),(0,qe q)],3,83,0⟩,
   fun k=>k<=r.length,fun k=>r.length - k,0,?_,?_,?_⟩
  ·exact Nat.zero_le _
  ·exact zf [(0,some 0),(1,some 1),(2,some 2)]
  intro k hk;have hk:k<=r.length:=hk;intro hl5;refine Br.mk (fun k2=>?_) (fun k2=>?_)
  ·refine Ob.o ?_;refine Ob.o ?_;intro y hy;have hy:r[k]? =some y:=hy;refine ⟨Dig,dgE,[y],rfl,Ob.mk (zgo y) ?_⟩;refine ⟨_,rfl,Ob.mk (zgp (by simp;omega)) ?_⟩;refine Ar.o ?_
   refine ⟨k+1,by show k+1<=r.length;omega,qw [(0,some 0),(1,some 1),(2,some 4)] rfl rfl rfl ⟨rfl,rfl,rfl,rfl,rfl,rfl,rfl,rfl,trivial⟩
    ⟨congrArg (fun l=>some (qe l)) (by rw [List.take_add_one,hy];rfl),rfl,rfl,trivial⟩,by dsimp only;omega⟩
  ·have hkr:k=r.length:=by omega
   subst hkr;have hnx:val (x::r) < 4294967296*V:=by rw [uX];omega
   have hnl:(zk (val (x::r))).length<=r.length+1:=zG (x::r);refine zb.fresh _ _ (jn _ (by simp;omega)) rfl (qE _) (.inr (qp _)) ?_;rw [List.take_length];refine zb.fresh _ _ (zvE _ (zk V) oM oM hvn (by rw [zm,zm];exact hnx)) rfl (qE _) (.inr (qp _)) ?_;rw [zm,zm];have hdl:val (x::r) / V < 4294967296:=by rw [Nat.div_lt_iff_lt_mul oM];exact hnx
   have hml:val (x::r) % V < V:=Nat.mod_lt _ oM;have hdm:=Nat.div_add_mod (val (x::r)) V;generalize val (x::r) / V=dq at*;generalize hmd:val (x::r) % V=md at*;refine Ar.o ?_;refine Ob.o ?_;refine Ob.o ?_;intro z hz;refine ⟨dof dq,congrArg (fun n=>[u32 n]) (by rw [ki,Nat.mod_eq_of_lt hdl]),?_⟩;refine Ar.o ?_
   refine ⟨(j - 1,q.set (j - 1) (dof dq),zk md),⟨by dsimp only;omega,by simp [g2],qf (Nat.le_of_lt hml),?_,by dsimp only;rw [zm];exact hml⟩,
    z9 [(0,some 0),(1,some 4)] ⟨congrArg (fun n=>some (i64 n)) oM,rfl,rfl,rfl,rfl,rfl,trivial⟩ ⟨rfl,congrArg (fun n=>some (qe (q.set n _))) oM,trivial⟩,by dsimp only;omega⟩
   dsimp only;rw [zm,zB (zk U),dx,show j - 1+1=j by omega];refine zn1 g4 (uX x r) hdm ?_;rw [zbj oM,ki,Nat.mod_eq_of_lt hdl,show j - 1+1=j by omega]
 ·have hj:j=0:=by omega
  subst hj;rw [List.drop_zero,List.drop_zero,zm] at g4;refine zb.fresh _ _ (jn _ oM) rfl (qE _) (.inr (qp _)) ?_;refine Ar.o ?_;refine zb.fresh _ _ (zA9 r s oM oM) rfl (qE _) (.inr (qp _)) ?_
  have e1:val q=U / V:=by
   rw [g4,Nat.mul_add_div oM,Nat.div_eq_of_lt g5,Nat.add_zero]
  have e2:val r=U % V:=by
   rw [g4,Nat.mul_add_mod,Nat.mod_eq_of_lt g5]
  exact zb4 (.cons (qy (by rw [e1])) (.cons (qy (by rw [e2])) (.cons .refl .nil)))
structure BI where
 neg:Bool
 mag:List Dig
 deriving DecidableEq
def BI.v(a:BI):Int:=if a.neg then -(val a.mag:Int) else val a.mag
def ofZ(z:Int):BI:=⟨decide (z < 0),zk z.natAbs⟩
theorem zZ(z:Int):(ofZ z).v=z:=by
 unfold BI.v ofZ;simp only [zm,decide_eq_true_eq]
 split <;> omega
theorem BI.v_abs(a:BI):a.v.natAbs=val a.mag:=by unfold BI.v;split <;> omega
theorem BI.v_eq(a:BI):(a.neg=true/\a.v= -(val a.mag:Int))∨(a.neg=false/\a.v=(val a.mag:Int)):=by
 unfold BI.v;cases a.neg <;> simp
theorem za7(z:Int):(ofZ z).neg=true↔z < 0:=by simp [ofZ]
theorem zdR(z:Int):(ofZ z).mag=zk z.natAbs:=rfl
def jt(z:Int):Nat:=(zk z.natAbs).length
theorem zmj{z:Int}{k:Nat}(h:z.natAbs < 4294967296 ^ k):jt z<=k:=yd h
theorem zhK{z:Int}{k:Nat}(h:jt z<=k):z.natAbs < 4294967296 ^ k:=zb6 h
theorem vH(z:Int):jt (-z)=jt z:=by simp [jt]
theorem kC(x y:Int):jt (x*y)<=jt x+jt y:=by
 refine zmj ?_;rw [Int.natAbs_mul,Nat.pow_add];exact Nat.mul_lt_mul_of_lt_of_lt (zhK (Nat.le_refl _)) (zhK (Nat.le_refl _))
theorem zfq(x y:Int):jt (x+y)<=max (jt x) (jt y)+1:=by
 refine zmj ?_;have h1:=zhK (Nat.le_max_left (jt x) (jt y));have h2:=zhK (Nat.le_max_right (jt x) (jt y));rw [Nat.pow_succ];have:=Int.natAbs_add_le x y;omega
theorem ziM(x y:Int):jt (x - y)<=max (jt x) (jt y)+1:=by
 have:=zfq x (-y)
 rwa [vH,← Int.sub_eq_add_neg] at this
theorem vZ(a:BI):jt a.v<=a.mag.length:=by
 unfold jt;rw [BI.v_abs];exact zG _
theorem zdS{x y:Int}(h:x.natAbs<=y.natAbs):jt x<=jt y:=qf h
theorem uZ{n:Int}(h: -9223372036854775808<=n/\n<=9223372036854775807):jt n<=2:=zmj (by
 rw [show 4294967296 ^ 2=18446744073709551616 by decide];omega)
def zX(a b:Int):Int:=
 if a < 0↔b < 0 then ((2*a.natAbs+b.natAbs) / (2*b.natAbs):Nat) else -((2*a.natAbs+b.natAbs) / (2*b.natAbs):Nat)
theorem zfr(a b:Int):(zX a b).natAbs=(2*a.natAbs+b.natAbs) / (2*b.natAbs):=by
 unfold zX;generalize (2*a.natAbs+b.natAbs) / (2*b.natAbs)=q
 split <;> omega
end Go.Gs
