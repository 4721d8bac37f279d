/- Natural numbers, the program's: shifts, binary digits. -/
import Derived.Test.YtplllpkdmehklaaGreatDoorMA
import Derived.Test.YtplllpkdmehklaaGreatDoorMAU
import Derived.Laws.MathBits
set_option maxRecDepth 100000
set_option maxHeartbeats 8000000
set_option linter.all false
namespace Go.Gs
open Go.Proofs
theorem zn6{α:Type}{enc:α->List SV}:LE (.val (.slice none 0 0)) (.full enc []):=fun S Pm ρ w v hg=>by
 rw [hg.val_inv];exact .d _ _ (.full enc [] none (.nil enc none))
theorem or32{x y:Nat}(hx:x < 4294967296)(hy:y < 4294967296):zat .or .u32 x y=((x|||y:Nat):Int):=by
 show IntKind.u32.wrap ((BitVec.ofInt 32 x|||BitVec.ofInt 32 y).toNat:Nat)=_;have h:x|||y < 2 ^ 32:=Nat.or_lt_two_pow hx hy
 have e:(BitVec.ofInt 32 x|||BitVec.ofInt 32 y).toNat=x|||y:=by
  rw [BitVec.toNat_or,BitVec.toNat_ofInt,BitVec.toNat_ofInt];congr 1
  ·omega
  ·omega
 rw [e,ziL];omega
theorem zBe{c x s p:Nat}(hp:p < 32)(hs:2 ^ p=s)(hc:c < s):c|||(x*s % 4294967296)=c+x*s % 4294967296/\c+x*s % 4294967296 < 4294967296:=by
 have h32:4294967296=s*2 ^ (32 - p):=by rw [← hs,← Nat.pow_add,show p+(32 - p)=32 by omega]
 have hm:x*s % 4294967296=s*(x % 2 ^ (32 - p)):=by rw [h32,Nat.mul_comm x s,Nat.mul_mod_mul_left]
 have hlt:x % 2 ^ (32 - p) < 2 ^ (32 - p):=Nat.mod_lt _ (Nat.pow_pos dC);have h1:=Nat.two_pow_add_eq_or_of_lt (i:=p) (b:=c) (by rw [hs];exact hc) (x % 2 ^ (32 - p));rw [hs] at h1;rw [hm,Nat.or_comm,← h1]
 have h2:s*(x % 2 ^ (32 - p))+s<=s*2 ^ (32 - p):=by
  rw [← Nat.mul_succ];exact Nat.mul_le_mul_left _ hlt
 rw [← h32] at h2;exact ⟨oM,oM⟩
theorem zyT{x y:Nat}{e:Int}(hx:x < 4294967296)(hy:y < 4294967296)(he:e=(y:Int)*2 ^ 32):zat .or .u64 x e=((y*4294967296+x:Nat):Int):=by
 have h1:e=((y*4294967296:Nat):Int):=by rw [he];simp only [Int.reducePow];omega
 rw [h1,zqd oM oM,Nat.or_comm];have:=Nat.two_pow_add_eq_or_of_lt (i:=32) (b:=x) (by rw [show 2 ^ 32=4294967296 by decide];exact hx) y;rw [show 2 ^ 32=4294967296 by decide,Nat.mul_comm] at this;rw [← this]
theorem zvJ{p w s v x lo hi o o1 o2 q:Nat}(h:o=w*(s*v))(h1:o1+p*w*q=o+p*w*(q+lo))(h2:o2=o1+p*w*4294967296*hi)(e:4294967296*hi+lo=x*s):o2=w*(s*(v+p*x)):=by
 subst h2;subst h
 have:o1=w*(s*v)+p*w*lo:=by
  rw [Nat.mul_add (p*w) q lo] at h1;omega
 subst this
 grind
theorem zvK(a0:List Dig)(n:Nat)(ha:a0.length<=800000000)(hn:n<=4096):
  zd Tryz.prog 242 [.sl dgE a0,i64 n] [] (.full dgE (zk (val a0*2 ^ n))) []:=by
 refine zc tok mix Tryz.func242 rfl rfl rfl ?_;refine zb.t (jg a0 oM) ?_;have la:=zG a0;have va:=zm (val a0);generalize zk (val a0)=a at*;rw [← va];clear va;have hs0:2 ^ (n % 32)<=2 ^ 31:=Nat.pow_le_pow_right dC oM;have hs1:0 < 2 ^ (n % 32):=Nat.pow_pos dC;generalize hs:2 ^ (n % 32)=s at*;refine Br.mk (fun h=>by omega) (fun h=>?_);have em:zcE (n:Int) [4096]=n:=by simp only [zcE];omega
 change Dv _ _ _ _;rw [em];refine Dv.pos ⟨oM,oM,by show _<=(9223372036854775807:Int);omega⟩ ?_;refine Dv.pos ⟨oM,oM⟩ ?_;intro hl7;(iterate 2 refine Ar.o ?_);refine ⟨Dig,dgE,0,rfl,Ob.o3 ?_⟩;intro hl8
 refine ⟨Nat×List Dig,fun ⟨i,out⟩=>⟨[(76,i64 i),(75,i64 a.length),(74,.sl dgE a),(9,i64 (n / 32:Nat)),(10,i64 (n % 32:Nat)),(11,.own 0)],[(0,qe out)],1,107,0⟩,
  fun q=>q.1<=a.length/\q.2.length=a.length+n / 32+1/\(∀j,q.1+n / 32 < j->dig q.2 j=0)/\dig q.2 (q.1+n / 32) < s/\val q.2=4294967296 ^ (n / 32)*(s*val (a.take q.1)),fun q=>a.length - q.1,(0,List.replicate (a.length+n / 32+1) 0),?_,?_,?_⟩
 ·refine ⟨Nat.zero_le _,by simp,fun j _=>yz _ _,by dsimp only;rw [yz];exact hs1,by simp [zaj,val]⟩
 ·exact z9 [(0,some 0)] ⟨rfl,rfl,rfl,congrArg (fun n=>some (i64 n)) oM,congrArg (fun n=>some (i64 n)) oM,rfl,trivial⟩ ⟨congrArg (fun n=>some (qe (List.replicate n 0))) oM,trivial⟩
 rintro ⟨i,out⟩ ⟨h1,h2,h3,h4,h5⟩
 dsimp only at h1 h2 h3 h4 h5;refine Br.mk (fun h9=>?_) (fun h9=>?_)
 ·refine Ob.o ?_;intro x hx;have hx:a[i]? =some x:=hx;have dx:=zS hx;have hxl:=x.isLt;refine Ar.o ?_;refine Ob.o6 ?_;have hm:x.val*s<=4294967295*2 ^ 31:=Nat.mul_le_mul oM hs0
  have hm2:(x.val:Int)*2 ^ ((n % 32:Nat):Int).toNat=((x.val*s:Nat):Int):=by
   rw [← hs,Int.toNat_natCast];simp
  have hm3:x.val*s < 4294967296*s:=Nat.mul_lt_mul_of_pos_right hxl hs1;refine Ar.fit (by rw [hm2];omega) ?_;rw [hm2];refine Ar.o ?_;refine Ob.o ?_;refine Ob.o ?_;intro c hc;rw [show ((i:Int)+(n / 32:Nat)).toNat=i+n / 32 by omega] at hc;have dc:=zS hc;have hcl:=c.isLt;rw [dc] at h4;obtain ⟨o1,o2⟩:=zBe (c:=c.val) (x:=x.val) (s:=s) (p:=n % 32) oM hs h4;refine Ar.wrap ?_;have ew:IntKind.u32.wrap ((x.val*s:Nat):Int)=((x.val*s % 4294967296:Nat):Int):=by rw [ziL];omega
  rw [ew];refine ⟨_,(or32 hcl (Nat.mod_lt _ dC)).symm,?_⟩;rw [o1];refine Ob.o ?_;refine Ob.o ?_;intro z hz;refine ⟨dof (c.val+x.val*s % 4294967296),congrArg (fun n=>[u32 n]) (by rw [ki,Nat.mod_eq_of_lt o2]),?_⟩;(iterate 2 refine Ar.o ?_);refine Ob.o1 ?_;refine Ar.wrap ?_;refine Ob.mk (by rw [List.length_set];omega) ?_;refine Ob.mk (by rw [List.length_set];omega) ?_;intro z2 hz2;have hhi:x.val*s / 4294967296 < s:=by rw [Nat.div_lt_iff_lt_mul dC];omega
  refine ⟨dof (x.val*s / 4294967296),congrArg (fun n=>[u32 n]) (zaH (by simp only [Int.reducePow];omega)),?_⟩;refine Ar.o ?_;have ei:((i:Int)+(n / 32:Nat)).toNat=i+n / 32:=oM;have ei1:((i:Int)+(n / 32:Nat)+1).toNat=i+n / 32+1:=oM
  refine ⟨(i+1,(out.set (i+n / 32) (dof (c.val+x.val*s % 4294967296))).set (i+n / 32+1) (dof (x.val*s / 4294967296))),⟨by dsimp only;omega,by simp [h2],fun j hj=>?_,?_,?_⟩,
   zY [(0,some 0)] ⟨congrArg (fun l=>some (qe l)) (by rw [ei,ei1]),trivial⟩,by dsimp only;omega⟩
  ·dsimp only at hj ⊢;rw [jA,if_neg oM,jA,if_neg oM];exact h3 j oM
  ·dsimp only;rw [show i+1+n / 32=i+n / 32+1 by omega,jA,if_pos ⟨rfl,by rw [List.length_set];omega⟩,ki,Nat.mod_eq_of_lt oM];exact hhi
  ·dsimp only;have s1:=vD out (i+n / 32) (dof (c.val+x.val*s % 4294967296)) oM;have s2:=vD (out.set (i+n / 32) (dof (c.val+x.val*s % 4294967296))) (i+n / 32+1) (dof (x.val*s / 4294967296)) (by rw [List.length_set];omega);rw [ki,Nat.mod_eq_of_lt o2,dc,Nat.pow_add] at s1;have hmm:x.val*s / 4294967296 % 4294967296=x.val*s / 4294967296:=Nat.mod_eq_of_lt oM;rw [jA,if_neg oM,h3 _ oM,Nat.mul_zero,Nat.add_zero,ki,hmm,Nat.pow_succ,Nat.pow_add] at s2;rw [zO,dx];exact zvJ h5 s1 s2 (Nat.div_add_mod _ _)
 ·have hi:i=a.length:=by omega
  subst hi;rw [kQ (Nat.le_refl _),← hs,zaG,← Nat.mul_assoc,← Nat.pow_add,show 32*(n / 32)+n % 32=n by omega,Nat.mul_comm] at h5;refine zb.see 0 _ (zml out oM) rfl rfl rfl ?_;rw [h5];exact .refl
theorem n_shr(a0:List Dig)(n:Nat)(ha:a0.length<=800000000)(hn:n<=1000000000000)(hn0:n≠0):
  zd Tryz.prog 242 [.sl dgE a0,i64 (-(n:Int))] [] (.full dgE (zk (val a0 / 2 ^ n))) []:=by
 refine zc tok mix Tryz.func242 rfl rfl rfl ?_;refine zb.t (jg a0 oM) ?_;have la:=zG a0;have va:=zm (val a0);generalize zk (val a0)=a at*;rw [← va];clear va;refine Br.mk (fun h=>?_) (fun h=>by omega);intro hl2;refine Ar.o ?_;refine Br.mk (fun h3=>?_) (fun h3=>?_)
 ·have e:val a / 2 ^ n=0:=by
   refine Nat.div_eq_of_lt (Nat.lt_of_lt_of_le (qT a) ?_);rw [zaG];exact Nat.pow_le_pow_right dC oM
  rw [e,jc];exact zn6
 refine Ar.o ?_;refine Dv.pos ⟨oM,oM,by show _<=(9223372036854775807:Int);omega⟩ ?_;refine Ar.o ?_;refine Dv.pos ⟨oM,oM⟩ ?_;intro hl4;refine Ar.o ?_;refine ⟨Dig,dgE,0,rfl,Ob.o3 ?_⟩;intro hl5
 refine ⟨Nat×List Dig,fun ⟨i,out⟩=>⟨[(37,i64 i),(36,i64 (a.length - n / 32:Nat)),(0,.sl dgE a),(5,i64 (n / 32:Nat)),(6,i64 (n % 32:Nat)),(7,.own 0)],[(0,qe out)],1,107,0⟩,
  fun q=>q.1<=a.length - n / 32/\q.2.length=a.length - n / 32/\∀j,j < q.1->dig q.2 j=val a / 2 ^ n / 4294967296 ^ j % 4294967296,fun q=>a.length - n / 32 - q.1,(0,List.replicate (a.length - n / 32) 0),?_,?_,?_⟩
 ·exact ⟨Nat.zero_le _,by simp,fun j h=>by dsimp only at h;omega⟩
 ·exact z9 [(0,some 0)] ⟨rfl,congrArg (fun n=>some (i64 n)) (by simp;omega),rfl,congrArg (fun n=>some (i64 n)) oM,congrArg (fun n=>some (i64 n)) oM,rfl,trivial⟩ ⟨congrArg (fun n=>some (qe (List.replicate n 0))) oM,trivial⟩
 rintro ⟨i,out⟩ ⟨g1,g2,g3⟩
 dsimp only at g1 g2 g3;refine Br.mk (fun h6=>?_) (fun h6=>?_)
 ·have d1:=yB a (n / 32+i);have d2:=yB a (n / 32+i+1);refine Ar.o ?_;refine zb.t (zdU a _ oM) ?_;rw [show ((i:Int)+(n / 32:Nat)).toNat=n / 32+i by omega];(iterate 2 refine Ar.o ?_);refine zb.t (zdU a _ oM) ?_;rw [show ((i:Int)+(n / 32:Nat)+1).toNat=n / 32+i+1 by omega];refine Ob.o1 ?_;refine Ar.fit (by simp only [Int.reducePow];omega) ?_;refine ⟨_,(zyT d1 d2 rfl).symm,?_⟩;refine Ob.o6 ?_;refine Ar.wrap ?_;refine Ob.o ?_;refine Ob.o ?_;intro z hz
  refine ⟨dof ((dig a (n / 32+i+1)*4294967296+dig a (n / 32+i)) / 2 ^ (n % 32)),congrArg (fun n=>[u32 n]) (zaH (by rw [Int.toNat_natCast];simp)),?_⟩;refine Ar.o ?_
  refine ⟨(i+1,out.set i (dof ((dig a (n / 32+i+1)*4294967296+dig a (n / 32+i)) / 2 ^ (n % 32)))),⟨by dsimp only;omega,by simp [g2],fun j hj=>?_⟩,
   zf [(0,some 0)],by dsimp only;omega⟩
  dsimp only at hj ⊢
  by_cases e:i=j
  ·subst e;rw [jA,if_pos ⟨rfl,oM⟩,ki];have:=zrA a (n / 32) (n % 32) i oM;rw [show 32*(n / 32)+n % 32=n by omega] at this;rw [this]
  ·rw [jA,if_neg (fun h=>e h.1)];exact g3 j oM
 ·have hi:i=a.length - n / 32:=by omega
  have e:val out=val a / 2 ^ n:=by
   rw [zc3 (fun j hj=>g3 j oM),Nat.mod_eq_of_lt];rw [Nat.div_lt_iff_lt_mul (Nat.pow_pos dC)];refine Nat.lt_of_lt_of_le (qT a) ?_;rw [zaG,zaG,← Nat.pow_add];exact Nat.pow_le_pow_right dC oM
  refine zb.see 0 _ (zml out oM) rfl rfl rfl ?_;rw [e];exact .refl
theorem zmm{s:ByteArray}{i:Nat}{b:UInt8}(hb:s[i]? =some b)(hi:i < s.size)(key:∀h:i < s.size,(s[i]'h).toNat=bitLen i):b.toNat=kA i:=by
 have e:=getElem?_pos s i hi;rw [hb] at e;rw [Option.some.inj e];exact key hi
theorem zc4{x:Nat}(b:Nat)(h:2 ^ b<=x):kA x=b+kA (x / 2 ^ b):=
 bitLen_shift x b (Nat.ne_of_gt (Nat.div_pos h (Nat.pow_pos dC)))
theorem zrI(x:Nat)(hx:x < 4294967296):zd Tryz.prog 271 [u32 x] [] (i64 (kA x)) []:=by
 refine zc tok mix Tryz.func271 rfl rfl rfl ?_;have fin:∀(y:Nat) (k:Int),y < 256->(kA x:Int)=k+kA y->∀b:UInt8,b.toNat=kA y->(k+(b.toNat:Int))=kA x:=fun y k _ h b hb=>by rw [h,hb]
 have small:∀y:Nat,y < 256->kA y<=8:=fun y hy=>bitLen_le8 y hy
 refine Br.mk (fun h1=>?_) (fun h1=>?_)
 ·refine Ob.o1 ?_;have e1:(x:Int) / 2 ^ 16=((x / 65536:Nat):Int):=by simp
  rw [e1];have n1:=zc4 (x:=x) 16 oM;rw [show (2:Nat) ^ 16=65536 by decide] at n1;have hx1:x / 65536 < 65536:=oM;generalize x / 65536=y at*;refine Br.mk (fun h2=>?_) (fun h2=>?_)
  ·refine Ob.o1 ?_;have e2:(y:Int) / 2 ^ 8=((y / 256:Nat):Int):=by simp
   rw [e2];have n2:=zc4 (x:=y) 8 oM;rw [show (2:Nat) ^ 8=256 by decide] at n2;have hy1:y / 256 < 256:=oM;generalize y / 256=z at*;(iterate 2 refine Ar.o ?_);refine Ob.o7 ?_;intro b hb;have hb':b.toNat=kA z:=zmm hb (by show z < 256;exact hy1) (fun h=>len8tab_get z h);have:=small z hy1;(iterate 2 refine Ar.o ?_);exact zj oM
  ·have hy1:y < 256:=by omega
   refine Ar.o ?_;refine Ob.o7 ?_;intro b hb;have hb':b.toNat=kA y:=zmm hb (by show y < 256;exact hy1) (fun h=>len8tab_get y h);have:=small y hy1;(iterate 2 refine Ar.o ?_);exact zj oM
 ·refine Br.mk (fun h2=>?_) (fun h2=>?_)
  ·refine Ob.o1 ?_;have e2:(x:Int) / 2 ^ 8=((x / 256:Nat):Int):=by simp
   rw [e2];have n2:=zc4 (x:=x) 8 oM;rw [show (2:Nat) ^ 8=256 by decide] at n2;have hy1:x / 256 < 256:=oM;generalize x / 256=z at*;(iterate 2 refine Ar.o ?_);refine Ob.o7 ?_;intro b hb;have hb':b.toNat=kA z:=zmm hb (by show z < 256;exact hy1) (fun h=>len8tab_get z h);have:=small z hy1;(iterate 2 refine Ar.o ?_);exact zj oM
  ·have hy1:x < 256:=by omega
   refine Ar.o ?_;refine Ob.o7 ?_;intro b hb;have hb':b.toNat=kA x:=zmm hb (by show x < 256;exact hy1) (fun h=>len8tab_get x h);have:=small x hy1;(iterate 2 refine Ar.o ?_);exact zj oM
theorem zmn{x:Nat}(hx:x < 4294967296):kA x<=32:=by
 by_cases h:x=0
 ·subst h;decide
 ·have:=zbt h;have:=(Nat.pow_lt_pow_iff_right (by decide:1 < 2)).1 (Nat.lt_of_le_of_lt this (show x < 2 ^ 32 from hx));omega
theorem zBf(x:Nat)(hx:x < 4294967296):zd Tryz.prog 241 [u32 x] [] (i64 (32 - kA x:Nat)) []:=by
 refine zc tok mix Tryz.func241 rfl rfl rfl ?_;refine zb.t (zrI x hx) ?_;have:=zmn hx;refine Ar.o ?_;exact zj oM
theorem zn7(a:List Dig)(ha:a.length<=900000000):zd Tryz.prog 227 [.sl dgE a] [] (i64 (kA (val a))) []:=by
 refine zc tok mix Tryz.func227 rfl rfl rfl ?_;refine zb.t (jg _ oM) ?_;intro hl;have hlen:=zG a;refine Br.mk (fun h=>?_) (fun h=>?_)
 ·have:zk (val a)=[]:=List.length_eq_zero_iff.1 oM;exact zj (by rw [yr.1 this];rfl)
 have hne:zk (val a)≠[]:=fun e=>h (by rw [e];rfl)
 have hn:=(vn (val a)).resolve_left hne;have htop:=zbv hn;rw [zm] at htop;intro hl2;(iterate 2 refine Ar.o ?_);intro hl3;refine Ar.o ?_;refine Ob.o ?_;intro x hx;rw [show (((zk (val a)).length:Int) - 1).toNat=(zk (val a)).length - 1 by omega] at hx;have dx:=zS hx;have hxl:=x.isLt;refine zb.t (zrI x.val hxl) ?_;rw [dx] at htop;have:=zmn hxl;refine Ar.o ?_;exact zj oM
theorem zBg(a:List Dig)(n:Nat)(ha:a.length<=800000000)(hn:n<=1000000000000):
  zd Tryz.prog 242 [.sl dgE a,i64 (-(n:Int))] [] (.sl dgE (zk (val a / 2 ^ n))) []:=by
 by_cases h:n=0
 ·subst h;have:=(zvK a 0 ha oM).le (zb3 rfl);rw [Nat.pow_zero,Nat.mul_one] at this;rw [Nat.pow_zero,Nat.div_one];exact this
 ·exact (n_shr a n ha hn h).le (zb3 rfl)
theorem zBh(a:List Dig)(n:Nat)(ha:a.length<=800000000)(hn:n<=4096):
  zd Tryz.prog 242 [.sl dgE a,i64 n] [] (.sl dgE (zk (val a*2 ^ n))) []:=(zvK a n ha hn).le (zb3 rfl)
theorem zqe{B s:Nat}(hB:B≠0)(hs:s+kA (dig (zk B) ((zk B).length - 1))=32):
  (zk (B*2 ^ s)).length=(zk B).length/\2147483648<=dig (zk (B*2 ^ s)) ((zk B).length - 1):=by
 have hne:zk B≠[]:=fun e=>hB (yr.1 e)
 have htop:=zbv ((vn B).resolve_left hne);rw [zm] at htop;have hp:0 < 2 ^ s:=Nat.pow_pos dC;have hV0:B*2 ^ s≠0:=Nat.mul_ne_zero hB oM;have h1:=zc2 B;have h2:=zbt hB;have hpos:=zbu.2 hB;have hl:=jm.2 hB
 have e:kA (B*2 ^ s)=kA B+s:=by
  refine zfm ?_ hV0 ?_
  ·rw [Nat.pow_add];exact Nat.mul_lt_mul_of_pos_right h1 hp
  ·rw [show kA B+s - 1=kA B - 1+s by omega,Nat.pow_add];exact Nat.mul_le_mul_right _ h2
 have e32:kA (B*2 ^ s)=32*(zk B).length:=oM;have hle:(zk (B*2 ^ s)).length<=(zk B).length:=yd (by rw [zaG,← e32];exact zc2 _);have hge:(zk B).length<=(zk (B*2 ^ s)).length:=qf (Nat.le_mul_of_pos_right _ hp);have hlen:(zk (B*2 ^ s)).length=(zk B).length:=oM;refine ⟨hlen,?_⟩;have hnV:zk (B*2 ^ s)≠[]:=fun e=>hV0 (yr.1 e)
 have hz:=(vn (B*2 ^ s)).resolve_left hnV;have ht2:=zbv hz;rw [zm,hlen] at ht2;rw [hlen] at hz;have:=zbt hz;rw [show kA (dig (zk (B*2 ^ s)) ((zk B).length - 1)) - 1=31 by omega] at this;exact this
theorem zvL {u q:List Dig} {k n V U:Nat} (hk:k < q.length) (hlen:q.length+n=u.length) (hV:V < 4294967296 ^ n) (g3:val (u.drop (k+1)) < V)
  (g4:U=V*(4294967296 ^ (k+1)*val (q.drop (k+1)))+val u):
  ((u.drop k).take (n+1)).length=n+1/\val ((u.drop k).take (n+1)) < 4294967296*V/\u=u.take k++((u.drop k).take (n+1)++u.drop (k+n+1))/\
  ∀w:List Dig,w=jN (n+1) (val ((u.drop k).take (n+1)) % V)->∀d:Dig,d.val=val ((u.drop k).take (n+1)) / V->
   val ((u.take k++(w++u.drop (k+n+1))).drop k) < V/\U=V*(4294967296 ^ k*val ((q.set k d).drop k))+val (u.take k++(w++u.drop (k+n+1))):=by
 have hwl:((u.drop k).take (n+1)).length=n+1:=by rw [List.length_take,List.length_drop];omega
 have hd:=yB u k;have hdk:=zB u k;have hlt:val (u.drop k) < 4294967296*V:=oM;have hsp:=kG (u.drop k) (n+1);rw [List.drop_drop,show k+(n+1)=k+n+1 by omega] at hsp
 have hz:val (u.drop (k+n+1))=0:=by
  apply Nat.eq_zero_of_not_pos;intro h0;have h1:4294967296 ^ (n+1)<=4294967296 ^ (n+1)*val (u.drop (k+n+1)):=Nat.le_mul_of_pos_right _ h0;have h2:4294967296 ^ (n+1)=4294967296 ^ n*4294967296:=Nat.pow_succ ..;omega
 rw [hz,Nat.mul_zero,Nat.add_zero] at hsp
 have hu:u=u.take k++((u.drop k).take (n+1)++u.drop (k+n+1)):=by
  have e1:u.drop (k+n+1)=(u.drop k).drop (n+1):=by rw [List.drop_drop];congr 1
  rw [e1,List.take_append_drop,List.take_append_drop]
 refine ⟨hwl,oM,hu,?_⟩;intro w hw d hdv
 have hw0:val w=val ((u.drop k).take (n+1)) % V:=by
  rw [hw];refine zrH ?_;refine Nat.lt_of_lt_of_le (Nat.mod_lt _ oM) ?_;rw [Nat.pow_succ];omega
 have hwl2:w.length=n+1:=by rw [hw,yl]
 have htl:(u.take k).length=k:=by rw [List.length_take];omega
 have hm:=Nat.mod_lt (val ((u.drop k).take (n+1))) (show V > 0 by omega);have hdm:=Nat.div_add_mod (val ((u.drop k).take (n+1))) V;have hu2:=kG u k;rw [hsp] at hu2;constructor
 ·rw [List.drop_append_of_le_length oM,List.drop_of_length_le oM,List.nil_append,vm,hz];omega
 ·rw [vm,vm,hz,htl,zbj hk,hw0,hdv,g4,hu2,Nat.pow_succ];generalize val ((u.drop k).take (n+1))=W at*;generalize W / V=D at*;generalize W % V=R at*;generalize 4294967296 ^ k=p at*;generalize val (q.drop (k+1))=Q at*;generalize val (u.take k)=T at*;clear hw hw0 hdv hsp hz hu hu2 g4 g3 hdk hwl hwl2 htl hlt hd hlen hk;subst hdm
  grind
theorem zyU{W V Bn g:Nat}(h:g=W / V∨g=W / V+1)(hV:0 < V)(hVB:V<=Bn):
  (if W < g*V then W+Bn - g*V else W - g*V)=(if W < g*V then W % V+Bn - V else W % V)/\(W < g*V->g=W / V+1)/\(¬W < g*V->g=W / V):=by
 have hdm:=Nat.div_add_mod W V;have hm:=Nat.mod_lt W hV
 rcases h with rfl | rfl
 ·have:¬W < W / V*V:=Nat.not_lt_of_le (Nat.div_mul_le_self W V);rw [if_neg this,if_neg this];refine ⟨?_,fun h=>absurd h this,fun _=>rfl⟩;rw [Nat.mul_comm];omega
 ·have e:(W / V+1)*V=V*(W / V)+V:=by rw [Nat.add_mul,Nat.one_mul,Nat.mul_comm]
  have:W < (W / V+1)*V:=oM;rw [if_pos this,if_pos this];refine ⟨?_,fun _=>rfl,fun h=>absurd this h⟩;omega
theorem zyV{t p d c R:Nat}(hp:t < p)(hd:d < 4294967296)(hc:c<=1)(e:t+p*(d+c)=R+p*4294967296):(d+c) % 4294967296=0/\t=R:=by
 have h:d+c=4294967296:=by
  rcases Nat.lt_or_ge (d+c) 4294967296 with h | h
  ·have h1:p*(d+c+1)<=p*4294967296:=Nat.mul_le_mul_left _ h;rw [Nat.mul_add,Nat.mul_one] at h1;omega
  ·omega
 rw [h] at e ⊢;exact ⟨rfl,oM⟩
theorem zBi{t1 t2 t3 p c z y xq xr:Nat}(f5:t1+p*c=t2+t3)(hd:4294967296*xq+xr=c+(z+y)):t1+p*xr+p*4294967296*xq=t2+p*z+(t3+p*y):=by grind
theorem ziR(a b:List Dig)(ha:a.length<=400000000)(hb:b.length<=400000000)(hb0:val b≠0):
  zd Tryz.prog 198 [.sl dgE a,.sl dgE b] [] (.tup [.sl dgE (zk (val a / val b)),.sl dgE (zk (val a % val b)),i64 0]) []:=by
 refine zc tok mix Tryz.func198 rfl rfl rfl ?_;refine zb.t (jg _ oM) ?_;refine zb.t (jg _ oM) ?_;have hla:=zG a;have hlb:=zG b;generalize val a=A at*;generalize val b=B at*;intro hl;refine Br.mk (fun h=>?_) (fun h=>?_)
 ·exact absurd (yr.1 (List.length_eq_zero_iff.1 oM)) hb0
 refine zb.t (zAs _ _ oM oM) ?_;rw [zm,zm];refine Br.mk (fun h2=>?_) (fun h2=>?_)
 ·have hlt:=zdP.1 h2;refine zb.t (zrF _ oM) ?_;rw [Nat.div_eq_of_lt hlt,Nat.mod_eq_of_lt hlt,jc];exact zb4 (.cons zC (.cons .refl (.cons .refl .nil)))
 have hge:B<=A:=Nat.le_of_not_lt fun h=>h2 (zdP.2 h)
 intro hl2;refine Br.mk (fun h3=>?_) (fun h3=>?_)
 ·refine Ob.o ?_;intro x hx;have dx:=zS hx;have hxl:=x.isLt
  have hx1:zk B=[x]:=by
   have hx:(zk B)[0]? =some x:=hx;obtain ⟨y,hy⟩:=List.length_eq_one_iff.1 (show (zk B).length=1 by omega);rw [hy] at hx ⊢;simp at hx;rw [hx]
  have hB:x.val=B:=by
   have:=zm B;rw [hx1,uX,zmg] at this;omega
  refine zb.t (n_one (zk A) x.val oM hxl oM) ?_;rw [zm,hB];have hm:=Nat.mod_lt A (show B > 0 by omega);refine Ar.o ?_;refine zb.t (zdT (A % B) oM) ?_;exact .refl
 intro hl3;refine Ar.o ?_;refine Ob.o ?_;intro x hx;rw [show (((zk B).length:Int) - 1).toNat=(zk B).length - 1 by omega] at hx;have dx:=zS hx;have hxl:=x.isLt;refine zb.t (zBf x.val hxl) ?_;have hn32:=zmn hxl;obtain ⟨s,hs⟩:∃s,32 - kA x.val=s:=⟨_,rfl⟩;rw [hs];refine zb.t (zBh _ s oM oM) ?_;refine zb.t (zvK _ s oM oM) ?_;rw [zm,zm];obtain ⟨hvl,hvt⟩:=zqe (B:=B) (s:=s) hb0 (by rw [dx];omega);refine ⟨Dig,dgE,[0],rfl,Ob.mk (zgo 0) ?_⟩
 have hul:(zk (A*2 ^ s)).length<=400000001:=Nat.le_trans (yd (k:=(zk A).length+1) (by
  have h1:=zb6 (n:=A) (Nat.le_refl _);have h2:2 ^ s<=4294967296 ^ 1:=by rw [zaG];exact Nat.pow_le_pow_right dC oM
  rw [Nat.pow_add]
  exact Nat.lt_of_lt_of_le (Nat.mul_lt_mul_of_pos_right h1 (Nat.pow_pos dC)) (Nat.mul_le_mul_left _ h2))) oM
 refine ⟨_,rfl,Ob.mk ⟨List.cons_ne_nil _ _,(by show ((_:Int)+((1:Nat):Int))*((4:Nat):Int)<=_;omega),(by show _+1<=_;omega),dC,fun _ _=>rfl,fun _ _=>rfl⟩ ?_⟩;have hp0:0 < 2 ^ s:=Nat.pow_pos dC;have hmA:(zk A).length<=(zk (A*2 ^ s)).length:=qf (Nat.le_mul_of_pos_right _ hp0);have hmB:(zk (B*2 ^ s)).length<=(zk (A*2 ^ s)).length:=qf (Nat.mul_le_mul_right _ hge);have hV0:B*2 ^ s≠0:=Nat.mul_ne_zero hb0 oM;have eq1:A / B=A*2 ^ s / (B*2 ^ s):=(Nat.mul_div_mul_right _ _ hp0).symm
 have eq2:A % B=A*2 ^ s % (B*2 ^ s) / 2 ^ s:=by rw [Nat.mul_mod_mul_right,Nat.mul_div_cancel _ hp0]
 rw [eq1,eq2];have hlb2:(zk B).length≠0/\(zk B).length≠1:=⟨oM,oM⟩;rw [← hvl] at hvt;clear eq1 eq2 hp0;generalize A*2 ^ s=U at*;generalize B*2 ^ s=V at*;refine ⟨Unit,fun _=>⟨[(0,.sl dgE (zk A)),(9,i64 s),(10,.sl dgE (zk V)),(11,.own 0)],[(0,qe (zk U++[0]))],1,148,0⟩,fun _=>True,fun _=>0,(),trivial,?_,?_⟩
 ·exact zf [(0,some 1)]
 rintro ⟨⟩ _
 intro hl4;intro hl5;have hll:(zk U++[0]).length=(zk U).length+1:=by simp
 refine Br.mk (fun h4=>?_) (fun _=>?_)
 ·omega
 intro hl6;intro hl7;refine Ar.o ?_;obtain ⟨nq,hnq⟩:∃nq:Nat,nq+(zk V).length=(zk U).length+1:=⟨(zk U).length+1 - (zk V).length,oM⟩;refine ⟨Dig,dgE,0,rfl,Ob.o3 ?_⟩;intro hl8;refine Ar.o ?_;have hVn:V < 4294967296 ^ (zk V).length:=zb6 (Nat.le_refl _)
 refine ⟨Nat×List Dig×List Dig,fun ⟨j,q,u⟩=>⟨[(13,i64 ((j:Int) - 1)),(12,.own 1),(11,.own 0),(10,.sl dgE (zk V)),(9,i64 s)],[(1,qe q),(0,qe u)],2,148,0⟩,
  fun x=>x.1<=nq/\x.2.1.length=nq/\x.2.2.length=(zk U).length+1/\val (x.2.2.drop x.1) < V/\U=V*(4294967296 ^ x.1*val (x.2.1.drop x.1))+val x.2.2,fun x=>x.1,
  (nq,List.replicate nq 0,zk U++[0]),?_,?_,?_⟩
 ·refine ⟨Nat.le_refl _,by simp,hll,?_,?_⟩
  ·dsimp only;have hz:val (zk U++[0])=U:=by rw [uY,zm];rfl
   rw [ziK,hz];have h1:=zb6 (n:=U) (Nat.le_refl _);have h2:=zmh hV0;refine Nat.lt_of_lt_of_le ?_ h2;rw [Nat.div_lt_iff_lt_mul (zcZ _),← Nat.pow_add];refine Nat.lt_of_lt_of_le h1 (Nat.pow_le_pow_right dC oM)
  ·dsimp only;rw [z5 (by simp),Nat.mul_zero,Nat.mul_zero,uY,zm];show U=0+(U+_*0);omega
 ·exact z9 [(0,some 0),(1,some 1)] ⟨congrArg (fun n=>some (i64 n)) (by simp only [List.length_replicate];omega),rfl,rfl,rfl,rfl,trivial⟩ ⟨congrArg (fun n=>some (qe (List.replicate n 0))) oM,rfl,trivial⟩
 rintro ⟨j,q,u⟩ ⟨g1,g2,g3,g4,g5⟩
 dsimp only at g1 g2 g3 g4 g5;refine Br.mk (fun k1=>?_) (fun k1=>?_)
 ·obtain ⟨k,rfl⟩:∃k,j=k+1:=⟨j - 1,oM⟩;rw [show (((k+1:Nat):Int) - 1)=k by omega];obtain ⟨r1,r2,r3,r4⟩:=zvL (k:=k) (n:=(zk V).length) oM oM hVn g4 g5;intro hl9;(iterate 2 refine Ar.o ?_);refine Sl.win (Ob.mk oM ?_);have htl:(u.take k).length=k:=by rw [List.length_take];omega
  rw [show (((k+1:Nat):Int) - 1+((zk V).length:Int)+1 - (((k+1:Nat):Int) - 1))=(((u.drop k).take ((zk V).length+1)).length:Nat) by rw [r1];omega,
   show (((k+1:Nat):Int) - 1)=((u.take k).length:Nat) by omega]
  have hW:(u.drop ((u.take k).length:Int).toNat).take (((u.drop k).take ((zk V).length+1)).length:Int).toNat=(u.drop k).take ((zk V).length+1):=by
   rw [Int.toNat_natCast,Int.toNat_natCast,r1,htl]
  obtain ⟨post,hpost⟩:∃post,u.drop (k+(zk V).length+1)=post:=⟨_,rfl⟩;obtain ⟨pre,hpre⟩:∃pre,u.take k=pre:=⟨_,rfl⟩;rw [hpost,hpre] at r3 r4;rw [hpre] at htl hW;rw [hpre];obtain ⟨hgc,_,_⟩:=zkP (U:=(u.drop k).take ((zk V).length+1)) (V:=zk V) r1 oM hvt (by rw [zm];exact r2);rw [zm] at hgc;have cg:=zyS ((u.drop k).take ((zk V).length+1)) (zk V) oM r1 oM hvt (by rw [zm];exact r2);generalize zgq ((u.drop k).take ((zk V).length+1)) (zk V)=g at hgc cg;rw [← hW] at cg;refine zb.t cg ?_;clear cg hW
  generalize (u.drop k).take ((zk V).length+1)=W at*;have hD:val W / V < 4294967296:=by rw [Nat.div_lt_iff_lt_mul oM];exact r2
  have hpn:4294967296 ^ ((zk V).length+1)=4294967296 ^ (zk V).length*4294967296:=Nat.pow_succ ..;obtain ⟨m1,m2,m3⟩:=zyU (Bn:=4294967296 ^ ((zk V).length+1)) hgc (Nat.pos_of_ne_zero hV0) oM;have hmod:=Nat.mod_lt (val W) (Nat.pos_of_ne_zero hV0);have ct:=zBd pre W post (zk V) g r1 oM;rw [← r3,zm] at ct
  have htw:zn5 W (zk V) g=jN ((zk V).length+1) (if val W < g*V then val W % V+4294967296 ^ ((zk V).length+1) - V else val W % V):=by
   unfold zn5;rw [zm,r1,m1]
  rw [htw] at ct;clear htw m1;refine zb.hand 0 _ _ _ rfl ct (qE _) (qE _) rfl rfl ?_;clear ct hgc;generalize val W / V=D at*;generalize val W % V=R at*;have hul2:u.length=pre.length+(W.length+post.length):=by rw [r3];simp
  refine Br.mk (fun k2=>?_) (fun k2=>?_)
  ·have hg:=m2 k2;rw [if_pos k2];refine Ar.o ?_;intro hl10;obtain ⟨w0,hw0⟩:∃w0,jN ((zk V).length+1) (R+4294967296 ^ ((zk V).length+1) - V)=w0:=⟨_,rfl⟩;have hw0l:w0.length=(zk V).length+1:=by rw [← hw0,yl]
   have hw0v:val w0=R+4294967296 ^ ((zk V).length+1) - V:=by rw [← hw0];exact zrH oM
   rw [hw0]
   refine ⟨Nat×List Dig×Nat,fun ⟨i,w,c⟩=>⟨[(105,i64 i),(104,i64 (zk V).length),(103,.sl dgE (zk V)),(16,u64 c),(15,u64 ((g:Int) - 1)),(14,.win 0 1 (pre.length:Nat) (W.length:Nat)),(13,i64 (pre.length:Nat)),(12,.own 1),(11,.own 0),(10,.sl dgE (zk V)),(9,i64 s)],
     [(1,qe q),(0,qe (pre++(w++post)))],2,148,0⟩,
    fun x=>x.1<=(zk V).length/\x.2.1.length=(zk V).length+1/\x.2.2<=1/\(∀j,x.1<=j->dig x.2.1 j=dig w0 j)/\val (x.2.1.take x.1)+4294967296 ^ x.1*x.2.2=val (w0.take x.1)+val ((zk V).take x.1),
    fun x=>(zk V).length - x.1,(0,w0,0),?_,?_,?_⟩
   ·exact ⟨Nat.zero_le _,hw0l,Nat.zero_le _,fun _ _=>rfl,by simp [val]⟩
   ·exact z9 [(0,some 0),(1,some 1)] ⟨rfl,rfl,rfl,rfl,rfl,rfl,congrArg (fun n=>some (i64 n)) oM,rfl,rfl,rfl,rfl,trivial⟩ ⟨rfl,rfl,trivial⟩
   rintro ⟨i,w,c⟩ ⟨f1,f2,f3,f4,f5⟩
   dsimp only at f1 f2 f3 f4 f5;have hlw:(pre++(w++post)).length=pre.length+(zk V).length+1+post.length:=by simp [f2];omega
   refine Br.mk (fun k3=>?_) (fun k3=>?_)
   ·refine Ob.o ?_;intro y hy;have hy:(zk V)[i]? =some y:=hy;have dy:=zS hy;have hyl:=y.isLt;refine Ob.o2 ?_;refine Ob.mk (by rw [hlw];omega) ?_;intro z hz;have hz:w[i]? =some z:=by rw [← zhL (pre:=pre) (post:=post) oM,← hz];congr 1
    have dz:=zS hz;have hzl:=z.isLt;(iterate 4 refine Ar.o ?_);refine Ar.wrap ?_;refine Ob.o2 ?_;refine Ob.mk (by rw [hlw];omega) ?_;intro z' hz';refine ⟨dof (c+(z.val+y.val)),congrArg (fun n=>[u32 n]) (by rw [zaH rfl];simp),?_⟩;refine Ob.o1 ?_;refine Ar.o ?_
    refine ⟨(i+1,w.set i (dof (c+(z.val+y.val))),(c+(z.val+y.val)) / 4294967296),⟨by dsimp only;omega,by simp [f2],by dsimp only;omega,fun j hj=>?_,?_⟩,
     qw [(0,some 0),(1,some 1)] rfl rfl rfl ⟨rfl,rfl,rfl,congrArg (fun n=>some (u64 n)) (by simp only [Int.reducePow];omega),rfl,rfl,rfl,rfl,rfl,rfl,rfl,trivial⟩
      ⟨rfl,congrArg (fun l=>some (qe l)) (by rw [← zhM oM];congr 1),trivial⟩,by dsimp only;omega⟩
    ·dsimp only at hj ⊢;rw [jA,if_neg oM];exact f4 j oM
    ·dsimp only;rw [zO,zO,zO,Nat.pow_succ,dy,jA,if_pos ⟨rfl,oM⟩,ki,← f4 i (Nat.le_refl _),dz];have ht:(w.set i (dof (c+(z.val+y.val)))).take i=w.take i:=by rw [List.take_set_of_le oM]
     rw [ht];have hd:=Nat.div_add_mod (c+(z.val+y.val)) 4294967296;exact zBi f5 hd
   ·have hi:i=(zk V).length:=by omega
    subst hi;intro hl11;refine Ob.o2 ?_;refine Ob.mk (by rw [hlw];omega) ?_;intro z hz;have hz:w[(zk V).length]? =some z:=by rw [← zhL (pre:=pre) (post:=post) oM,← hz];congr 1
    have dz:=zS hz;have hzl:=z.isLt;refine Ar.o ?_;refine Ar.wrap ?_;refine Ob.o2 ?_;refine Ob.mk (by rw [hlw];omega) ?_;intro z' hz';refine ⟨dof (z.val+c),congrArg (fun n=>[u32 n]) (by rw [zaH rfl];simp),?_⟩
    have hw2:w.set (zk V).length (dof (z.val+c))=jN ((zk V).length+1) R:=by
     rw [← zrG (w.set _ _),List.length_set,f2];congr 1;have e1:=kG w0 (zk V).length;have e3:=zB w0 (zk V).length;rw [z5 (show w0.length<=(zk V).length+1 by omega),Nat.mul_zero,Nat.add_zero] at e3;rw [e3,hw0v,hpn,← f4 _ (Nat.le_refl _),dz] at e1;rw [kQ (Nat.le_refl (zk V).length),zm] at f5;have g2:=kG (w.set (zk V).length (dof (z.val+c))) (zk V).length;have g3:=zB (w.set (zk V).length (dof (z.val+c))) (zk V).length;have g0:val ((w.set (zk V).length (dof (z.val+c))).drop ((zk V).length+1))=0:=z5 (by rw [List.length_set];omega)
     rw [g0,Nat.mul_zero,Nat.add_zero,jA,if_pos ⟨rfl,oM⟩,ki] at g3;rw [g3,List.take_set_of_le (Nat.le_refl _)] at g2;rw [g2];obtain ⟨n1,n2⟩:=zyV (R:=R) (jr w (zk V).length) hzl f3 (by rw [Nat.mul_add];omega);rw [n1,n2];rfl
    have hset:(pre++(w++post)).set (pre.length+(zk V).length) (dof (z.val+c))=pre++(jN ((zk V).length+1) R++post):=by
     rw [zhM oM,hw2]
    obtain ⟨e1,e2⟩:=r4 _ rfl (dof D) (by rw [ki,Nat.mod_eq_of_lt hD]);refine Ar.o ?_;refine Ob.o ?_;refine Ob.o ?_;intro z2 hz2;refine ⟨dof D,congrArg (fun n=>[u32 n]) (by rw [ki,Nat.mod_eq_of_lt hD];omega),?_⟩;refine Ar.o ?_
    refine ⟨(k,q.set k (dof D),pre++(jN ((zk V).length+1) R++post)),⟨by dsimp only;omega,by simp [g2],by simp [yl];omega,e1,e2⟩,
     z9 [(0,some 0),(1,some 1)] ⟨congrArg (fun n=>some (i64 n)) oM,rfl,rfl,rfl,rfl,trivial⟩ ⟨congrArg (fun n=>some (qe (q.set n _))) oM,congrArg (fun l=>some (qe l)) (by rw [← hset];congr 1),trivial⟩,by dsimp only;omega⟩
  ·have hg:=m3 k2;rw [if_neg k2];obtain ⟨e1,e2⟩:=r4 _ rfl (dof D) (by rw [ki,Nat.mod_eq_of_lt hD]);refine Ar.o ?_;refine Ob.o ?_;refine Ob.o ?_;intro z2 hz2;refine ⟨dof D,congrArg (fun n=>[u32 n]) (by rw [ki,Nat.mod_eq_of_lt hD];omega),?_⟩;refine Ar.o ?_
   refine ⟨(k,q.set k (dof D),pre++(jN ((zk V).length+1) R++post)),⟨by dsimp only;omega,by simp [g2],by simp [yl];omega,e1,e2⟩,
    z9 [(0,some 0),(1,some 1)] ⟨congrArg (fun n=>some (i64 n)) oM,rfl,rfl,rfl,rfl,trivial⟩ ⟨congrArg (fun n=>some (qe (q.set n _))) oM,rfl,trivial⟩,by dsimp only;omega⟩
 ·have hj:j=0:=by omega
  subst hj;rw [List.drop_zero] at g4 g5;rw [Nat.pow_zero,Nat.one_mul] at g5;refine zb.see 1 _ (jg _ oM) rfl rfl rfl ?_;refine Ar.o ?_;refine zb.see 0 _ (zBg u s oM oM) rfl rfl rfl ?_
  have e1:val q=U / V:=by
   rw [g5,Nat.mul_add_div oM,Nat.div_eq_of_lt g4,Nat.add_zero]
  have e2:val u=U % V:=by
   rw [g5,Nat.mul_add_mod,Nat.mod_eq_of_lt g4]
  exact zb4 (.cons (qy (by rw [e1])) (.cons (qy (by rw [e2])) (.cons .refl .nil)))
theorem n_gcd(a b:List Dig)(ha:a.length<=400000000)(hb:b.length<=400000000):
  zd Tryz.prog 196 [.sl dgE a,.sl dgE b] [] (.sl dgE (zk (Nat.gcd (val a) (val b)))) []:=by
 refine zc tok mix Tryz.func196 rfl rfl rfl ?_;refine zb.t (vI _ oM) ?_;refine zb.t (vI _ oM) ?_;have hla:=zG a;have hlb:=zG b
 refine ⟨Nat×Nat,fun ⟨A,B⟩=>⟨[(0,.sl dgE (zk A)),(1,.sl dgE (zk B))],[],0,25,0⟩,
  fun x=>(zk x.1).length<=400000000/\(zk x.2).length<=400000000/\Nat.gcd x.1 x.2=Nat.gcd (val a) (val b),fun x=>x.2,(val a,val b),?_,?_,?_⟩
 ·exact ⟨by dsimp only;omega,by dsimp only;omega,rfl⟩
 ·exact zf []
 rintro ⟨A,B⟩ ⟨h1,h2,h3⟩
 dsimp only at h1 h2 h3;intro hl;refine Br.mk (fun k=>?_) (fun k=>?_)
 ·have hB:B≠0:=jm.1 oM;refine zb.t (ziR (zk A) (zk B) oM oM (by rw [zm];exact hB)) ?_;rw [zm,zm];have hm:=Nat.mod_lt A (Nat.pos_of_ne_zero hB);refine ⟨(B,A % B),⟨h2,Nat.le_trans (qf (Nat.le_of_lt hm)) h2,?_⟩,zf [],hm⟩;dsimp only;rw [← h3,Nat.gcd_comm B,Nat.gcd_comm A B,Nat.gcd_rec B A]
 ·have hB:B=0:=yr.1 (List.length_eq_zero_iff.1 oM);subst hB;rw [Nat.gcd_zero_right] at h3;exact qy (by rw [h3])
end Go.Gs
