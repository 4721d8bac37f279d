/- Natural numbers, the other text: binary digits, shifts. -/
import Derived.Test.YtjfbljononkmcaaMA
import Derived.Test.YtjfbljononkmcaaMAS
set_option maxRecDepth 100000
set_option maxHeartbeats 8000000
set_option linter.all false
namespace Go.Gs
open Go.Proofs
theorem uP(a:List Dig):ku (val a)<=32*a.length:=by
 by_cases h:val a=0
 ·rw [h,zea];omega
 ·have h1:=zaO h;have h2:=kT a;rw [uN] at h2;have:=(Nat.pow_lt_pow_iff_right (by decide:1 < 2)).1 (Nat.lt_of_le_of_lt h1 h2);omega
theorem zfx(a:List Dig)(ha:a.length<=900000000):zf Try.prog 101 [.sl dgE a] [] (i64 (ku (val a))) []:=by
 refine zh tok mix Try.func101 rfl rfl rfl ?_;refine ze.t (jv _ oM) ?_;intro hl;have hlen:=j9 a;refine Br.mk (fun h=>?_) (fun h=>?_)
 ·have:zr (val a)=[]:=List.length_eq_zero_iff.1 oM;exact zF (by rw [yF.1 this];rfl)
 have hne:zr (val a)≠[]:=fun e=>h (by rw [e];rfl)
 have hn:=(uk (val a)).resolve_left hne;have htop:=zbG hn;rw [zz] at htop;intro hl2;(iterate 2 refine Ar.o ?_);intro hl3;refine Ar.o ?_;refine Ob.o ?_;intro x hx;rw [show (((zr (val a)).length:Int) - 1).toNat=(zr (val a)).length - 1 by omega] at hx;have dx:=kB hx;have hxl:=x.isLt;have hb:=uP a;refine ⟨Nat×Nat,fun ⟨n,t⟩=>⟨[(4,i64 n),(5,u32 t)],[],0,28,0⟩,fun q=>q.2 < 4294967296/\q.1+ku q.2=ku (val a),fun q=>q.2,(32*((zr (val a)).length - 1),x.val),?_,?_,?_⟩
 ·exact ⟨hxl,by dsimp only;rw [htop,dx]⟩
 ·exact ki [] ⟨congrArg (fun n=>some (i64 n)) oM,rfl,trivial⟩ trivial
 rintro ⟨n,t⟩ ⟨g1,g2⟩
 dsimp only at g1 g2;refine Br.mk (fun g3=>?_) (fun g3=>?_)
 ·have hh:=zeb (n:=t) oM;refine Ar.o ?_;refine Dv.pos ⟨oM,oM,by show _<=(4294967295:Int);omega⟩ ?_;exact ⟨(n+1,t / 2),⟨by dsimp only;omega,by dsimp only;omega⟩,ki [] ⟨rfl,congrArg (fun n=>some (u32 n)) oM,trivial⟩ trivial,by dsimp only;omega⟩
 ·have:t=0:=by omega
  subst this;exact zF (by rw [← g2];rfl)
theorem zhk{p s x c u v w o M:Nat}(h4:o+p*M*c=p*(s*w))(e:4294967296*u+v=x*s+c):
  o+p*M*v+p*(M*4294967296)*u=p*(s*(w+M*x)):=by grind
theorem zhN(a:List Dig)(n:Nat)(ha:a.length<=800000000)(hn:n<=4096):
  zf Try.prog 107 [.sl dgE a,i64 n] [] (.own 0) [(0,kO (zr (val a*2 ^ n)))]:=by
 refine kJ tok mix Try.func107 rfl rfl rfl ?_;have hs0:2 ^ (n % 32)<=2 ^ 31:=Nat.pow_le_pow_right dC oM;have hs1:0 < 2 ^ (n % 32):=Nat.pow_pos dC;generalize hs:2 ^ (n % 32)=s at*;refine Dv.pos ⟨oM,oM,by show _<=(9223372036854775807:Int);omega⟩ ?_;refine ⟨Dig,dgE,0,rfl,Ob.o1 ?_⟩
 refine ⟨Nat×List Dig×Nat,fun ⟨i,out,c⟩=>⟨[(7,i64 i),(6,u64 c),(5,.own 0),(0,.sl dgE a),(1,i64 n)],[(0,kO out)],1,43,0⟩,
  fun q=>q.1<=a.length/\q.2.1.length=n / 32+q.1/\q.2.2 < s/\val q.2.1+4294967296 ^ (n / 32)*4294967296 ^ q.1*q.2.2=4294967296 ^ (n / 32)*(s*val (a.take q.1)),fun q=>a.length - q.1,(0,List.replicate (n / 32) 0,0),?_,?_,?_⟩
 ·exact ⟨Nat.zero_le _,by simp,hs1,by simp [zbE,val]⟩
 ·exact kD [(0,some 0)] ⟨congrArg (fun n=>some (kO (List.replicate n 0))) oM,trivial⟩
 rintro ⟨i,out,c⟩ ⟨h1,h2,h3,h4⟩
 dsimp only at h1 h2 h3 h4;intro hl1;refine Br.mk (fun h5=>?_) (fun h5=>?_)
 ·refine Ob.o ?_;intro x hx;have hx:a[i]? =some x:=hx;have dx:=kB hx;have hxl:=x.isLt;refine Ar.o ?_;refine Dv.pos ⟨oM,oM⟩ ?_;refine Ar.o ?_;refine Ob.mk (by show _/\_ < (64:Int);omega) ?_;have hm:x.val*s<=4294967295*2 ^ 31:=Nat.mul_le_mul oM hs0
  have hm2:(x.val:Int)*2 ^ ((n:Int) % 32).toNat=((x.val*s:Nat):Int):=by
   rw [← hs,show ((n:Int) % 32).toNat=n % 32 by omega];simp
  have hm3:x.val*s+c < 4294967296*s:=by
   have:x.val*s<=4294967295*s:=Nat.mul_le_mul_right _ oM;omega
  refine Ar.fit (by rw [hm2];omega) ?_;refine Ar.fit (by rw [hm2];omega) ?_;refine Ar.wrap ?_;refine ⟨Dig,dgE,[dof (x.val*s+c)],congrArg (fun n=>[u32 n]) (uO (by rw [hm2];omega)),Ob.mk (vN _) ?_⟩;refine ⟨_,rfl,Ob.mk (zaP (by simp;omega)) ?_⟩;refine Ob.o0 ?_;refine Ar.o ?_
  refine ⟨(i+1,out++[dof (x.val*s+c)],(x.val*s+c) / 4294967296),⟨by dsimp only;omega,by simp [h2];omega,by dsimp only;omega,?_⟩,
   ki [(0,some 2)] ⟨rfl,congrArg (fun n=>some (u64 n)) (by rw [hm2];dsimp only;omega),rfl,rfl,rfl,trivial⟩ ⟨rfl,trivial⟩,by dsimp only;omega⟩
  dsimp only;rw [jb,h2,kN,zV,dx,Nat.pow_succ,Nat.pow_add];exact zhk h4 (Nat.div_add_mod (x.val*s+c) 4294967296)
 ·have hi:i=a.length:=by omega
  refine Ar.wrap ?_;refine ⟨Dig,dgE,[dof c],congrArg (fun n=>[u32 n]) (uO rfl),Ob.mk (vN _) ?_⟩;refine ⟨_,rfl,Ob.mk (zaP (by simp;omega)) ?_⟩;refine ze.fresh _ _ (z9 _ (by simp;omega)) rfl (ka _) (.inr (zT _)) ?_;refine ⟨some 3,.own _ rfl,?_,fun _ _=>rfl⟩
  have e:val (out++[dof c])=val a*2 ^ n:=by
   rw [jb,h2,kN,Nat.mod_eq_of_lt oM,Nat.pow_add,h4,kq oM,← hs,uN];rw [← Nat.mul_assoc,← Nat.pow_add,show 32*(n / 32)+n % 32=n by omega,Nat.mul_comm]
  rw [← e];rfl
theorem zh9(a:List Dig)(n:Nat)(ha:a.length<=800000000)(hn:n<=4096):
  zf Try.prog 102 [.sl dgE a,i64 n] [] (.own 0) [(0,kO (zr (val a*2 ^ n)))]:=by
 refine kJ tok mix Try.func102 rfl rfl rfl ?_;refine Br.mk (fun h=>?_) (fun h=>absurd oM h);have e:uu (n:Int) [4096]=n:=by simp only [uu];omega
 refine ze.fresh _ _ (show zf Try.prog _ [.sl dgE a,i64 (uu (n:Int) [4096])] [] (.own 0) [(0,kO (zr (val a*2 ^ n)))] by rw [e];exact zhN a n ha hn) rfl (ka _) (.inr (zT _)) ?_;exact ⟨some 0,.own _ rfl,rfl,fun _ _=>rfl⟩
theorem zia(a:List Dig)(n:Nat)(ha:a.length<=800000000)(hn:n<=1000000000000):
  zf Try.prog 102 [.sl dgE a,i64 (-(n:Int))] [] (.own 0) [(0,kO (zr (val a / 2 ^ n)))]:=by
 refine kJ tok mix Try.func102 rfl rfl rfl ?_;refine Br.mk (fun h=>?_) (fun h=>?_)
 ·have hn0:n=0:=by omega
  subst hn0
  refine ze.fresh _ _ (show zf Try.prog _ [.sl dgE a,i64 (uu (-((0:Nat):Int)) [4096])] [] (.own 0) [(0,kO (zr (val a / 2 ^ 0)))] by
   have:=zhN a 0 ha oM;rw [show uu (-((0:Nat):Int)) [4096]=0 by decide,Nat.pow_zero,Nat.div_one];rw [Nat.pow_zero,Nat.mul_one] at this
   exact this) rfl (ka _) (.inr (zT _)) ?_
  exact ⟨some 0,.own _ rfl,rfl,fun _ _=>rfl⟩
 intro hl;refine Ar.o ?_;refine Br.mk (fun h2=>?_) (fun h2=>?_)
 ·refine ⟨Dig,dgE,[],rfl,Ob.mk vF ?_⟩;refine ⟨some 0,.own _ rfl,?_,fun _ _=>rfl⟩
  have e:val a / 2 ^ n=0:=by
   refine Nat.div_eq_of_lt (Nat.lt_of_lt_of_le (kT a) ?_);rw [uN];exact Nat.pow_le_pow_right dC oM
  rw [e,ql];rfl
 refine ⟨Dig,dgE,[],rfl,Ob.mk vF ?_⟩;refine Ar.o ?_;refine Dv.pos ⟨oM,oM,by show _<=(9223372036854775807:Int);omega⟩ ?_
 refine ⟨Nat×List Dig,fun ⟨i,out⟩=>⟨[(6,i64 ((n / 32+i:Nat))),(5,.own 0),(0,.sl dgE a),(1,i64 (-(n:Int)))],[(0,kO out)],1,51,0⟩,
  fun q=>q.1+n / 32<=a.length/\q.2.length=q.1/\∀j,j < q.2.length->dig q.2 j=val a / 2 ^ n / 4294967296 ^ j % 4294967296,fun q=>a.length - q.1,(0,[]),?_,?_,?_⟩
 ·exact ⟨by dsimp only;omega,rfl,fun j h=>by simp at h⟩
 ·exact ki [(0,some 0)] ⟨congrArg (fun n=>some (i64 n)) oM,rfl,rfl,rfl,trivial⟩ ⟨rfl,trivial⟩
 rintro ⟨i,out⟩ ⟨g1,g2,g3⟩
 dsimp only at g1 g2 g3;intro hl1;refine Br.mk (fun h5=>?_) (fun h5=>?_)
 ·have d1:=j8 a (n / 32+i);have d2:=j8 a (n / 32+i+1);have hw:(((n / 32+i:Nat):Int)+1).toNat=n / 32+i+1:=oM;refine Ar.o ?_;refine ze.t (kG a _ oM) ?_;rw [hw];refine Ob.o0 ?_;refine Ar.fit (by simp only [Int.reducePow];omega) ?_;refine ze.t (kG a _ oM) ?_;simp only [Int.toNat_natCast];refine Ar.fit (by simp only [Int.reducePow];omega) ?_;refine Ar.o ?_;refine Dv.pos ⟨oM,oM⟩ ?_;refine Ar.o ?_;refine Ob.mk (by show _/\_ < (64:Int);omega) ?_;refine Ar.wrap ?_;have es:((-(-(n:Int))) % 32).toNat=n % 32:=oM
  refine ⟨Dig,dgE,[dof ((dig a (n / 32+i+1)*4294967296+dig a (n / 32+i)) / 2 ^ (n % 32))],congrArg (fun n=>[u32 n]) (uO (by rw [es];simp)),Ob.mk (vN _) ?_⟩;refine ⟨_,rfl,Ob.mk (zaP (by simp;omega)) ?_⟩;refine Ar.o ?_
  refine ⟨(i+1,out++[dof ((dig a (n / 32+i+1)*4294967296+dig a (n / 32+i)) / 2 ^ (n % 32))]),⟨by dsimp only;omega,by simp [g2],?_⟩,
   ki [(0,some 2)] ⟨congrArg (fun n=>some (i64 n)) oM,rfl,rfl,rfl,trivial⟩ ⟨rfl,trivial⟩,by dsimp only;omega⟩
  intro j hj;dsimp only at hj ⊢;rw [List.length_append,List.length_singleton] at hj;rw [zd8]
  split
  ·exact g3 j oM
  ·have hji:j=i:=by omega
   subst hji;have:=zhh a (n / 32) (n % 32) j oM;rw [show 32*(n / 32)+n % 32=n by omega] at this;rw [this,g2,Nat.sub_self,ua,kN]
 ·refine ze.fresh _ _ (z9 _ oM) rfl (ka _) (.inr (zT _)) ?_;refine ⟨some 1,.own _ rfl,?_,fun _ _=>rfl⟩
  have e:val out=val a / 2 ^ n:=by
   rw [zdl g3,Nat.mod_eq_of_lt];rw [Nat.div_lt_iff_lt_mul (Nat.pow_pos dC)];refine Nat.lt_of_lt_of_le (kT a) ?_;rw [uN,uN,← Nat.pow_add];exact Nat.pow_le_pow_right dC oM
  rw [← e];rfl
theorem zeL(a:List Dig)(n:Nat)(ha:a.length<=800000000)(hn:n<=4096):
  zf Try.prog 102 [.sl dgE a,i64 n] [] (.sl dgE (zr (val a*2 ^ n))) []:=(zh9 a n ha hn).plain rfl
theorem zib{r b:List Dig}(hb:dig b (b.length - 1)≠0)(hlt:val r < 4294967296*val b):
  val r / val b<=(dig r b.length*4294967296+dig r (b.length - 1)) / dig b (b.length - 1):=by
 have hl:0 < b.length:=by
  rcases Nat.eq_zero_or_pos b.length with h | h
  ·rw [List.length_eq_zero_iff.1 h] at hb;exact absurd rfl hb
  ·exact h
 have e1:=kK b (b.length - 1);have e3:=zB b (b.length - 1);rw [show b.length - 1+1=b.length by omega,kr (Nat.le_refl _),Nat.mul_zero,Nat.add_zero] at e3;have r1:=kK r (b.length - 1);have r2:=qk r (b.length - 1);have r3:=zB r (b.length - 1);have r4:=zB r b.length;rw [show b.length - 1+1=b.length by omega] at r3;have hbl:=kT b;have hpow:4294967296 ^ b.length=4294967296 ^ (b.length - 1)*4294967296:=by rw [← Nat.pow_succ];congr 1;omega
 have r5:val (r.drop (b.length+1))=0:=by
  rw [zdj];refine Nat.div_eq_of_lt (Nat.lt_trans hlt ?_);rw [Nat.pow_succ,Nat.mul_comm];exact Nat.mul_lt_mul_of_pos_right hbl dC
 rw [r5,Nat.mul_zero,Nat.add_zero] at r4;rw [r4] at r3;rw [e3] at e1;rw [r3] at r1;have hp:=zdg (b.length - 1);generalize 4294967296 ^ (b.length - 1)=p at*;generalize dig b (b.length - 1)=t at*;generalize dig r (b.length - 1)=x at*;generalize dig r b.length=y at*;rw [Nat.le_div_iff_mul_le oM];have h6:=Nat.div_mul_le_self (val r) (val b);generalize val r / val b=q at*;have h7:q*(p*t)<=q*val b:=Nat.mul_le_mul_left _ oM
 have h8:p*(q*t) < p*(x+4294967296*y+1):=by
  have:q*(p*t)=p*(q*t):=by rw [← Nat.mul_assoc,Nat.mul_comm q p,Nat.mul_assoc]
  rw [Nat.mul_add p _ 1];omega
 have:=Nat.lt_of_mul_lt_mul_left h8;omega
theorem zgl{a q:Nat}{e:Int}(he:e=a)(ha:q<=a)(hb:q < 4294967296):∃m:Nat,m < 4294967296/\q<=m/\uu e [4294967295]=m:=by
 rcases Int.le_total e 4294967295 with h | h
 ·exact ⟨a,oM,ha,by simp only [uu];rw [Int.min_eq_left h,he]⟩
 ·exact ⟨4294967295,oM,oM,by simp only [uu];rw [Int.min_eq_right h];simp⟩
theorem zgm(r b:List Dig)(hr:r.length<=800000000)(hb:b.length<=800000000)(ht:dig b (b.length - 1)≠0)(hlt:val r < 4294967296*val b):
  zf Try.prog 103 [.sl dgE r,.sl dgE b] [] (.tup [u64 ((val r / val b:Nat):Int),.own 0]) [(0,kO (zr (val r % val b)))]:=by
 refine kJ tok mix Try.func103 rfl rfl rfl ?_
 have hl:0 < b.length:=by
  rcases Nat.eq_zero_or_pos b.length with h | h
  ·rw [List.length_eq_zero_iff.1 h] at ht;exact absurd rfl ht
  ·exact h
 have hbp:0 < val b:=by
  rcases Nat.eq_zero_or_pos (val b) with h | h
  ·rw [h] at hlt;omega
  ·exact h
 have hest:=zib ht hlt;have hq:val r / val b < 4294967296:=by rw [Nat.div_lt_iff_lt_mul hbp];exact hlt
 have d1:=j8 r b.length;have d2:=j8 r (b.length - 1);have d3:=j8 b (b.length - 1);intro hl0;refine Dr.k ?_;refine ze.t (kG r _ oM) ?_;rw [Int.toNat_natCast];refine Ob.o0 ?_;refine Ar.fit (by simp only [Int.reducePow];omega) ?_;refine Ar.o ?_;refine ze.t (kG r _ oM) ?_;rw [show ((b.length:Int) - 1).toNat=b.length - 1 by omega];refine Ar.fit (by simp only [Int.reducePow];omega) ?_;refine Ar.o ?_;refine Ob.o ?_;intro x hx;rw [show ((b.length:Int) - 1).toNat=b.length - 1 by omega] at hx;have dx:=kB hx;rw [dx] at ht hest d3;refine Ar.o ?_
 refine Dv.pos ⟨by simp only [Int.reducePow];omega,oM,by show _<=(18446744073709551615:Int);simp only [Int.reducePow];omega⟩ ?_;obtain ⟨m,hm1,hm2,em⟩:=zgl (e:=((dig r b.length:Nat)*2 ^ 32+(dig r (b.length - 1):Nat):Int) / ((x.val:Nat):Int)) (by simp) hest hq;clear hest
 refine ze.to _ (show zf Try.prog _ [.sl dgE b,u64 (uu (((dig r b.length:Nat)*2 ^ 32+(dig r (b.length - 1):Nat):Int) / ((x.val:Nat):Int)) [4294967295])] [] (.sl dgE (zr (val b*m))) [] by
  rw [em];exact zfw b m oM oM) rfl ?_
 refine ⟨Nat,fun d=>⟨[(8,u64 d),(9,.sl dgE (zr (val b*d))),(0,.sl dgE r),(1,.sl dgE b)],[],0,55,0⟩,fun d=>val r / val b<=d/\d < 4294967296,fun d=>d,m,?_,?_,?_⟩
 ·exact ⟨hm2,oM⟩
 ·exact ki [] ⟨congrArg (fun n=>some (u64 n)) em,rfl,rfl,rfl,trivial⟩ trivial
 rintro d ⟨h1,h2⟩
 have hlen:(zr (val b*d)).length<=b.length+1:=qb (by
  rw [Nat.pow_succ]
  exact Nat.mul_lt_mul_of_lt_of_lt (kT b) h2)
 refine ze.t (zgg _ r oM oM) ?_;rw [zz];refine Br.mk (fun h3=>?_) (fun h3=>?_)
 ·have h3:=zeK.1 h3
  have hd:1<=d:=by
   rcases Nat.eq_zero_or_pos d with h | h
   ·subst h;omega
   ·exact h
  have hq':val r / val b<=d - 1:=by
   have:val r / val b < d:=by rw [Nat.div_lt_iff_lt_mul hbp,Nat.mul_comm];exact h3
   omega
  refine Ar.o ?_;refine ze.t (zhi _ b oM oM) ?_;rw [zz];refine ⟨d - 1,⟨hq',oM⟩,ki [] ⟨congrArg (fun n=>some (u64 n)) oM,congrArg (fun n=>some (SV.sl dgE (zr n))) (show val b*d - val b=val b*(d - 1) by rw [Nat.mul_sub,Nat.mul_one]),rfl,rfl,trivial⟩ trivial,by dsimp only;omega⟩
 ·have h3:val b*d<=val r:=Nat.le_of_not_lt fun h=>h3 (zeK.2 h)
  have hd:d=val r / val b:=by
   have:d<=val r / val b:=by rw [Nat.le_div_iff_mul_le hbp,Nat.mul_comm];exact h3
   omega
  refine ze.fresh _ _ (zgh r _ oM oM) rfl (ka _) (.inr (zT _)) ?_;refine ⟨some 0,zaN (.cons (zge (by rw [hd])) (.cons (.own _ rfl) .nil)),?_,fun _ _=>rfl⟩
  have e:val r - val (zr (val b*d))=val r % val b:=by
   rw [zz,hd];have:=Nat.div_add_mod (val r) (val b);omega
  rw [← e];rfl
theorem zgn{u q V d l w B qd rr nx:Nat}(h:w=V*qd+rr)(hn:nx=u+B*rr)(hd:V*d+l=nx)(hq:q=d+B*qd):u+B*w=V*q+l:=by
 subst h;subst hq;grind
theorem zbe{xs:List Dig}{i:Nat}{d:Dig}(h:i < xs.length):val ((xs.set i d).drop i)=d.val+4294967296*val (xs.drop (i+1)):=by
 rw [zB,zcn,if_pos ⟨rfl,h⟩,List.drop_set_of_lt oM]
theorem zfy(a b:List Dig)(ha:a.length<=400000000)(hb:b.length<=400000000)(hb0:val b≠0):
  zf Try.prog 94 [.sl dgE a,.sl dgE b] [] (.tup [.sl dgE (zr (val a / val b)),.sl dgE (zr (val a % val b)),i64 0]) []:=by
 refine zh tok mix Try.func94 rfl rfl rfl ?_;refine ze.t (jv _ oM) ?_;intro hl;have hlen:=j9 b;refine Br.mk (fun h=>?_) (fun h=>?_)
 ·have:zr (val b)=[]:=List.length_eq_zero_iff.1 oM;exact absurd (yF.1 this) hb0
 have hne:zr (val b)≠[]:=fun e=>hb0 (yF.1 e)
 have hnorm:=(uk (val b)).resolve_left hne;have htop:=zbG hnorm;rw [zz] at htop;have hbits:=uP (zr (val b));rw [zz] at hbits;have hpos:=vn.2 hb0;have hnt:0 < ku (dig (zr (val b)) ((zr (val b)).length - 1)):=vn.2 hnorm;intro hl2;refine Ar.o ?_;refine ze.t (zfx _ oM) ?_;rw [zz];refine Ar.o ?_;obtain ⟨s,hs⟩:∃s:Nat,(32*((zr (val b)).length:Int) - (ku (val b):Int))=s:=⟨32*(zr (val b)).length - ku (val b),oM⟩;rw [hs];have hs32:s < 32:=oM;refine ze.t (zeL a s oM oM) ?_;refine ze.t (zeL (zr (val b)) s oM oM) ?_;rw [zz]
 have hpow:2 ^ s<=4294967296 ^ 1:=by rw [uN];exact Nat.pow_le_pow_right dC oM
 have hpow0:0 < 2 ^ s:=Nat.pow_pos dC
 have hUl:(zr (val a*2 ^ s)).length<=a.length+1:=qb (by
  rw [Nat.pow_add]
  exact Nat.lt_of_lt_of_le (Nat.mul_lt_mul_of_pos_right (kT a) hpow0) (Nat.mul_le_mul_left _ hpow))
 have hVl:(zr (val b*2 ^ s)).length<=b.length+1:=qb (by
  rw [Nat.pow_add]
  exact Nat.lt_of_lt_of_le (Nat.mul_lt_mul_of_pos_right (kT b) hpow0) (Nat.mul_le_mul_left _ hpow))
 have hV0:val b*2 ^ s≠0:=Nat.mul_ne_zero hb0 oM;have eq1:val a / val b=val a*2 ^ s / (val b*2 ^ s):=(Nat.mul_div_mul_right _ _ hpow0).symm;have eq2:val a % val b=val a*2 ^ s % (val b*2 ^ s) / 2 ^ s:=by rw [Nat.mul_mod_mul_right,Nat.mul_div_cancel _ hpow0]
 rw [eq1,eq2];clear eq1 eq2 hpow hnt hnorm htop hpos hbits;generalize val a*2 ^ s=U at*;generalize val b*2 ^ s=V at*;have hvn:=(uk V).resolve_left fun e=>hV0 (yF.1 e)
 intro hl3;refine ⟨Dig,dgE,0,rfl,Ob.o1 ?_⟩;refine ⟨Dig,dgE,[],rfl,Ob.mk vF ?_⟩;intro hl4;refine Ar.o ?_
 refine ⟨Nat×List Dig×List Dig,fun ⟨j,q,r⟩=>⟨[(13,i64 ((j:Int) - 1)),(12,.own 1),(11,.own 0),(9,.sl dgE (zr U)),(10,.sl dgE (zr V)),(8,i64 s)],[(1,kO r),(0,kO q)],2,83,0⟩,
  fun x=>x.1<=(zr U).length/\x.2.1.length=(zr U).length/\x.2.2.length<=(zr V).length/\val ((zr U).drop x.1)=V*val (x.2.1.drop x.1)+val x.2.2/\val x.2.2 < V,fun x=>x.1,
  ((zr U).length,List.replicate (zr U).length 0,[]),?_,?_,?_⟩
 ·refine ⟨Nat.le_refl _,by simp,by simp,?_,by dsimp only;rw [zeH];omega⟩;dsimp only;rw [kr (Nat.le_refl _),kr (by simp),zeH,Nat.mul_zero]
 ·exact kD [(0,some 0),(1,some 1)] ⟨rfl,congrArg (fun n=>some (kO (List.replicate n 0))) oM,trivial⟩
 rintro ⟨j,q,r⟩ ⟨g1,g2,g3,g4,g5⟩
 dsimp only at g1 g2 g3 g4 g5;refine Br.mk (fun k1=>?_) (fun k1=>?_)
 ·refine Ob.o ?_;intro x hx;rw [show ((j:Int) - 1).toNat=j - 1 by omega] at hx;have dx:=kB hx;have hxl:=x.isLt;refine ⟨Dig,dgE,[x],rfl,Ob.mk (vN x) ?_⟩
  refine ⟨Nat,fun k=>⟨[(15,i64 k),(14,.own 2),(13,i64 ((j:Int) - 1)),(12,.own 1),(11,.own 0),(9,.sl dgE (zr U)),(10,.sl dgE (zr V)),(8,i64 s)],[(2,kO (x::r.take k)),(1,kO r),(0,kO q)],3,83,0⟩,
   fun k=>k<=r.length,fun k=>r.length - k,0,?_,?_,?_⟩
  ·exact Nat.zero_le _
  ·exact zo [(0,some 0),(1,some 1),(2,some 2)]
  intro k hk;have hk:k<=r.length:=hk;intro hl5;refine Br.mk (fun k2=>?_) (fun k2=>?_)
  ·refine Ob.o ?_;refine Ob.o ?_;intro y hy;have hy:r[k]? =some y:=hy;refine ⟨Dig,dgE,[y],rfl,Ob.mk (vN y) ?_⟩;refine ⟨_,rfl,Ob.mk (zaP (by simp;omega)) ?_⟩;refine Ar.o ?_
   refine ⟨k+1,by show k+1<=r.length;omega,vm [(0,some 0),(1,some 1),(2,some 4)] rfl rfl rfl ⟨rfl,rfl,rfl,rfl,rfl,rfl,rfl,rfl,trivial⟩
    ⟨congrArg (fun l=>some (kO l)) (by rw [List.take_add_one,hy];rfl),rfl,rfl,trivial⟩,by dsimp only;omega⟩
  ·have hkr:k=r.length:=by omega
   subst hkr;have hnx:val (x::r) < 4294967296*V:=by rw [qF];omega
   have hnl:(zr (val (x::r))).length<=r.length+1:=j9 (x::r);refine ze.fresh _ _ (z9 _ (by simp;omega)) rfl (ka _) (.inr (zT _)) ?_;rw [List.take_length];refine ze.fresh _ _ (zgm _ (zr V) oM oM hvn (by rw [zz,zz];exact hnx)) rfl (ka _) (.inr (zT _)) ?_;rw [zz,zz];have hdl:val (x::r) / V < 4294967296:=by rw [Nat.div_lt_iff_lt_mul oM];exact hnx
   have hml:val (x::r) % V < V:=Nat.mod_lt _ oM;have hdm:=Nat.div_add_mod (val (x::r)) V;generalize val (x::r) / V=dq at*;generalize hmd:val (x::r) % V=md at*;refine Ar.o ?_;refine Ob.o ?_;refine Ob.o ?_;intro z hz;refine ⟨dof dq,congrArg (fun n=>[u32 n]) (by rw [kN,Nat.mod_eq_of_lt hdl]),?_⟩;refine Ar.o ?_
   refine ⟨(j - 1,q.set (j - 1) (dof dq),zr md),⟨by dsimp only;omega,by simp [g2],zbF (Nat.le_of_lt hml),?_,by dsimp only;rw [zz];exact hml⟩,
    ki [(0,some 0),(1,some 4)] ⟨congrArg (fun n=>some (i64 n)) oM,rfl,rfl,rfl,rfl,rfl,trivial⟩ ⟨rfl,congrArg (fun n=>some (kO (q.set n _))) oM,trivial⟩,by dsimp only;omega⟩
   dsimp only;rw [zz,zB (zr U),dx,show j - 1+1=j by omega];refine zgn g4 (qF x r) hdm ?_;rw [zbe oM,kN,Nat.mod_eq_of_lt hdl,show j - 1+1=j by omega]
 ·have hj:j=0:=by omega
  subst hj;rw [List.drop_zero,List.drop_zero,zz] at g4;refine ze.fresh _ _ (z9 _ oM) rfl (ka _) (.inr (zT _)) ?_;refine Ar.o ?_;refine ze.fresh _ _ (zia r s oM oM) rfl (ka _) (.inr (zT _)) ?_
  have e1:val q=U / V:=by
   rw [g4,Nat.mul_add_div oM,Nat.div_eq_of_lt g5,Nat.add_zero]
  have e2:val r=U % V:=by
   rw [g4,Nat.mul_add_mod,Nat.mod_eq_of_lt g5]
  exact zd6 (.cons (zeG (by rw [e1])) (.cons (zeG (by rw [e2])) (.cons .refl .nil)))
structure BI where
 neg:Bool
 mag:List Dig
 deriving DecidableEq
def BI.v(a:BI):Int:=if a.neg then -(val a.mag:Int) else val a.mag
def ofZ(z:Int):BI:=⟨decide (z < 0),zr z.natAbs⟩
theorem zbI(z:Int):(ofZ z).v=z:=by
 unfold BI.v ofZ;simp only [zz,decide_eq_true_eq]
 split <;> omega
theorem BI.v_abs(a:BI):a.v.natAbs=val a.mag:=by unfold BI.v;split <;> omega
theorem BI.v_eq(a:BI):(a.neg=true/\a.v= -(val a.mag:Int))∨(a.neg=false/\a.v=(val a.mag:Int)):=by
 unfold BI.v;cases a.neg <;> simp
theorem uQ(z:Int):(ofZ z).neg=true↔z < 0:=by simp [ofZ]
theorem qg(z:Int):(ofZ z).mag=zr z.natAbs:=rfl
def zdo(z:Int):Nat:=(zr z.natAbs).length
theorem zeM{z:Int}{k:Nat}(h:z.natAbs < 4294967296 ^ k):zdo z<=k:=qb h
theorem zcr{z:Int}{k:Nat}(h:zdo z<=k):z.natAbs < 4294967296 ^ k:=zeI h
theorem zgo(x y:Int):zdo (x*y)<=zdo x+zdo y:=by
 refine zeM ?_;rw [Int.natAbs_mul,Nat.pow_add];exact Nat.mul_lt_mul_of_lt_of_lt (zcr (Nat.le_refl _)) (zcr (Nat.le_refl _))
theorem zaQ{n:Int}(h: -9223372036854775808<=n/\n<=9223372036854775807):zdo n<=2:=zeM (by
 rw [show 4294967296 ^ 2=18446744073709551616 by decide];omega)
def kM(a b:Int):Int:=
 if a < 0↔b < 0 then ((2*a.natAbs+b.natAbs) / (2*b.natAbs):Nat) else -((2*a.natAbs+b.natAbs) / (2*b.natAbs):Nat)
theorem zgp(a b:Int):(kM a b).natAbs=(2*a.natAbs+b.natAbs) / (2*b.natAbs):=by
 unfold kM;generalize (2*a.natAbs+b.natAbs) / (2*b.natAbs)=q
 split <;> omega
def biE(a:BI):List SV:=[pr (a.neg=true),.sl dgE a.mag]
theorem zaR(p:Prop)[i:Decidable p](m:List Dig)(hm:m.length<=1000000000):
  zf Try.prog 96 [.pr p i,.sl dgE m] [] (.agg (biE (ofZ (if p then -(val m:Int) else val m)))) []:=by
 refine zh tok mix Try.func96 rfl rfl rfl ?_;refine ze.t (jv m hm) ?_;refine Br.mk (fun h=>?_) (fun h=>?_)
 ·intro hl;refine zgd (.cons (y9 ?_) (.cons (zeG ?_) .nil))
  ·rw [if_pos h,uQ];have:=uM (n:=val m);omega
  ·rw [if_pos h,qg];congr 1;omega
 ·refine zgd (.cons (zD ?_) (.cons (zeG ?_) .nil))
  ·rw [if_neg h,uQ];omega
  ·rw [if_neg h,qg];congr 1
theorem zeN(a:BI)(hm:a.mag.length<=1000000000):
  zf Try.prog 96 [pr (a.neg=true),.sl dgE a.mag] [] (.agg (biE (ofZ a.v))) []:=zaR (a.neg=true) a.mag hm
theorem dTwo(c d:Dig):[c,d].length=2/\2<=281474976710656/\2*1<=16777216/\0 < 1/\∀x∈[c,d],(dgE x).length=1/\z0 (dgE x)=true/\kz.flats (dgE x)=true:=
 ⟨rfl,dC,dC,dC,fun _ _=>⟨rfl,rfl,rfl⟩⟩
theorem zeO(m:Nat)(h:m < 18446744073709551616):val [dof m,dof (m / 4294967296)]=m:=by
 simp only [val,kN];omega
theorem ul(n:Int)(hn:R64 n):zf Try.prog 88 [i64 n] [] (.agg (biE (ofZ n))) []:=by
 refine zh tok mix Try.func88 rfl rfl rfl ?_;refine Ar.wrap ?_;refine Br.mk (fun h=>?_) (fun h=>?_)
 ·refine Ar.wrap ?_;have e:IntKind.u64.wrap (0 - IntKind.u64.wrap n)=((n.natAbs:Nat):Int):=by rw [ju,ju];omega
  refine Ar.wrap ?_;refine Ob.o0 ?_;refine Ar.wrap ?_;refine ⟨Dig,dgE,[dof n.natAbs,dof (n.natAbs / 4294967296)],congr (congrArg (fun n m=>[u32 n,u32 m]) (uO e)) (uO (by rw [e];simp only [Int.reducePow];omega)),Ob.mk (dTwo _ _) ?_⟩;refine ze.see 1 _ (zaR (n < 0) [dof n.natAbs,dof (n.natAbs / 4294967296)] (by simp)) rfl rfl rfl ?_;rw [if_pos h,zeO _ oM,show (-(n.natAbs:Int))=n by omega];exact .refl
 ·have e:IntKind.u64.wrap n=((n.natAbs:Nat):Int):=by rw [ju];omega
  refine Ar.wrap ?_;refine Ob.o0 ?_;refine Ar.wrap ?_;refine ⟨Dig,dgE,[dof n.natAbs,dof (n.natAbs / 4294967296)],congr (congrArg (fun n m=>[u32 n,u32 m]) (uO e)) (uO (by rw [e];simp only [Int.reducePow];omega)),Ob.mk (dTwo _ _) ?_⟩;refine ze.see 1 _ (zaR (n < 0) [dof n.natAbs,dof (n.natAbs / 4294967296)] (by simp)) rfl rfl rfl ?_;rw [if_neg h,zeO _ oM,show (n.natAbs:Int)=n by omega];exact .refl
theorem zhl(a:BI)(ha:a.mag.length<=1000000000):zf Try.prog 93 [.agg (biE a)] [] (i64 a.v.sign) []:=by
 refine zh tok mix Try.func93 rfl rfl rfl ?_;refine ze.t (zeN a ha) ?_;intro hl;have h1:=uM (n:=a.v.natAbs);refine Br.mk (fun h=>?_) (fun h=>?_)
 ·have:a.v=0:=by rw [qg] at h;omega
  exact zF (by rw [this];rfl)
 have h0:a.v≠0:=by rw [qg] at h;omega
 refine Br.mk (fun h2=>?_) (fun h2=>?_)
 ·rw [uQ] at h2;exact zF (Int.sign_eq_neg_one_of_neg h2).symm
 ·rw [uQ] at h2;exact zF (Int.sign_eq_one_of_pos oM).symm
theorem v_mul(a b:BI):(if ¬(a.neg=true↔b.neg=true) then -((val a.mag*val b.mag:Nat):Int) else ((val a.mag*val b.mag:Nat):Int))=a.v*b.v:=by
 rcases a.v_eq with ⟨h1,h2⟩ | ⟨h1,h2⟩ <;> rcases b.v_eq with ⟨h3,h4⟩ | ⟨h3,h4⟩ <;> simp [h1,h2,h3,h4,Int.neg_mul,Int.mul_neg]
theorem zic(a b:BI)(ha:a.mag.length<=400000000)(hb:b.mag.length<=400000000):zf Try.prog 87 [.agg (biE a),.agg (biE b)] [] (.agg (biE (ofZ (a.v*b.v)))) []:=by
 refine zh tok mix Try.func87 rfl rfl rfl ?_;refine Dr.k ?_;refine ze.t (zhj a.mag b.mag ha hb) ?_
 have hl:(zr (val a.mag*val b.mag)).length<=1000000000:=by
  refine Nat.le_trans (qb (k:=a.mag.length+b.mag.length) ?_) oM;rw [Nat.pow_add];exact Nat.mul_lt_mul_of_lt_of_lt (kT _) (kT _)
 refine ze.t (zaR (¬(a.neg=true↔b.neg=true)) _ hl) ?_;rw [zz,v_mul];exact .refl
theorem zid(a b:BI)(hb:b.v≠0):(if ¬(a.neg=true↔b.neg=true) then -(((val a.mag+val a.mag+val b.mag) / (val b.mag+val b.mag):Nat):Int) else (((val a.mag+val a.mag+val b.mag) / (val b.mag+val b.mag):Nat):Int))=kM a.v b.v:=by
 unfold kM;rw [BI.v_abs,BI.v_abs,Nat.two_mul,Nat.two_mul]
 by_cases h0:val a.mag=0
 ·have e:(val a.mag+val a.mag+val b.mag) / (val b.mag+val b.mag)=0:=by
   rw [h0];refine Nat.div_eq_of_lt ?_
   rcases b.v_eq with ⟨h1,h2⟩ | ⟨h1,h2⟩ <;> omega
  rw [e];simp
 ·generalize ((val a.mag+val a.mag+val b.mag) / (val b.mag+val b.mag))=q
  have e:(a.neg=true↔b.neg=true)↔(a.v < 0↔b.v < 0):=by
   rcases a.v_eq with ⟨h1,h2⟩ | ⟨h1,h2⟩ <;> rcases b.v_eq with ⟨h3,h4⟩ | ⟨h3,h4⟩ <;> simp only [h1,h3] <;> simp <;> omega
  by_cases h:(a.v < 0↔b.v < 0)
  ·rw [if_neg (not_not_intro (e.2 h)),if_pos h]
  ·rw [if_pos (fun hh=>h (e.1 hh)),if_neg h]
theorem zaS{a b:List Dig}{k:Nat}(ha:a.length<=k)(hb:b.length<=k):(zr (val a+val b)).length<=k+1:=by
 refine qb ?_;have h1:=Nat.lt_of_lt_of_le (kT a) (Nat.pow_le_pow_right (show 0 < 4294967296 by decide) ha);have h2:=Nat.lt_of_lt_of_le (kT b) (Nat.pow_le_pow_right (show 0 < 4294967296 by decide) hb);rw [Nat.pow_succ];omega
theorem zdp(a b:BI)(ha:a.mag.length<=300000000)(hb:b.mag.length<=300000000)(h0:b.v≠0):
  zf Try.prog 86 [.agg (biE a),.agg (biE b)] [] (.tup [.agg (biE (ofZ (kM a.v b.v))),i64 0]) []:=by
 refine zh tok mix Try.func86 rfl rfl rfl ?_;refine ze.t (zhl b oM) ?_;refine Br.mk (fun h=>absurd (Int.sign_eq_zero_iff_zero.1 h) h0) (fun _=>?_);refine Dr.k ?_;have l1:=zaS ha ha;have l2:=zaS hb hb;have l3:=zaS l1 (show b.mag.length<=_ by omega);rw [zz] at l3;have hbp:val b.mag+val b.mag≠0:=by rcases b.v_eq with ⟨h1,h2⟩ | ⟨h1,h2⟩ <;> omega
 refine ze.t (zcq a.mag a.mag oM oM) ?_;refine ze.t (zcq _ b.mag oM oM) ?_;refine ze.t (zcq b.mag b.mag oM oM) ?_;rw [zz];refine ze.t (zfy _ _ oM oM (by rw [zz];exact hbp)) ?_;rw [zz,zz];have l4:(zr ((val a.mag+val a.mag+val b.mag) / (val b.mag+val b.mag))).length<=1000000000:=Nat.le_trans (zbF (Nat.div_le_self _ _)) oM;refine ze.t (zaR (¬(a.neg=true↔b.neg=true)) _ l4) ?_;rw [zz,zid a b h0];exact .refl
theorem zgq{x y:Nat}(hx:x < 18446744073709551616)(hy:y < 18446744073709551616):yc .or .u64 x y=((x|||y:Nat):Int):=by
 show IntKind.u64.wrap ((BitVec.ofInt 64 x|||BitVec.ofInt 64 y).toNat:Nat)=_;have h:x|||y < 2 ^ 64:=Nat.or_lt_two_pow hx hy
 have e:(BitVec.ofInt 64 x|||BitVec.ofInt 64 y).toNat=x|||y:=by
  rw [BitVec.toNat_or,BitVec.toNat_ofInt,BitVec.toNat_ofInt];congr 1
  ·omega
  ·omega
 rw [e,ju];omega
def yh(z:Int):Int:=if -9223372036854775808<=z/\z<=9223372036854775807 then z else 0
theorem zgr(a:BI)(ha:a.mag.length<=1000000000):
  zf Try.prog 89 [.agg (biE a)] [] (.tup [i64 (yh a.v),pr (-9223372036854775808<=a.v/\a.v<=9223372036854775807)]) []:=by
 refine zh tok mix Try.func89 rfl rfl rfl ?_;refine ze.t (zeN a ha) ?_;generalize a.v=z
 have bad:¬(-9223372036854775808<=z/\z<=9223372036854775807)->LE (.tup [i64 0,bl false]) (.tup [i64 (yh z),pr (-9223372036854775808<=z/\z<=9223372036854775807)]):=fun h=>
  ko (zF (by rw [yh,if_neg h])) (zD h)
 refine ⟨Nat,fun i=>⟨[(6,i64 i),(5,u64 (val ((zr z.natAbs).take i))),(4,.loc 1 0)],[(1,.box 110 (biE (ofZ z))),(0,.box 110 (biE a))],2,51,0⟩,
  fun i=>i<=2/\i<=(zr z.natAbs).length,fun i=>2 - i,0,?_,?_,?_⟩
 ·exact ⟨oM,Nat.zero_le _⟩
 ·exact zo [(0,some 0),(1,some 1)]
 rintro i ⟨h1,h2⟩
 intro hl;refine Br.mk (fun h3=>?_) (fun h3=>?_)
 ·have h3:i < (zr z.natAbs).length:=by rw [qg] at h3;omega
  refine Br.mk (fun h4=>?_) (fun h4=>?_)
  ·refine bad fun h5=>?_
   have:=qb (n:=z.natAbs) (k:=2) (by rw [show 4294967296 ^ 2=18446744073709551616 by decide];omega);omega
  ·refine Ob.mk (by rw [qg];omega) ?_;intro x hx;have hx:(zr z.natAbs)[i]? =some x:=hx;have dx:=kB hx;have hxl:=x.isLt;have ht:=qk (zr z.natAbs) i;have hts:=zV (zr z.natAbs) i;rw [dx] at hts
   have key:∀n:Int,n=32*i->0<=n/\n < 64/\0<=(x.val:Int)*2 ^ n.toNat/\(x.val:Int)*2 ^ n.toNat<=18446744073709551615/\
     yc .or .u64 (val ((zr z.natAbs).take i)) ((x.val:Int)*2 ^ n.toNat)=val ((zr z.natAbs).take (i+1)):=fun n hn=>by
    have:i=0∨i=1:=oM
    rcases this with rfl | rfl
    ·have:n=0:=by omega
     subst this;rw [hts];have e:=zgq (x:=0) (y:=x.val) oM oM;have p:(x.val:Int)*2 ^ (0:Int).toNat=(x.val:Int):=by simp
     rw [p,zbd];refine ⟨oM,oM,oM,oM,?_⟩;rw [e];simp
    ·have:n=32:=by omega
     subst this;rw [hts];have e:=zgq (x:=val ((zr z.natAbs).take 1)) (y:=4294967296*x.val) oM oM;have e2:=Nat.two_pow_add_eq_or_of_lt (i:=32) (b:=val ((zr z.natAbs).take 1)) (by rw [show 2 ^ 32=4294967296 by decide];omega) x.val;rw [show 2 ^ 32=4294967296 by decide] at e2
     have e3:(x.val:Int)*2 ^ (32:Int).toNat=((4294967296*x.val:Nat):Int):=by
      rw [show (32:Int).toNat=32 by decide];simp only [Int.reducePow];omega
     rw [e3];refine ⟨oM,oM,oM,oM,?_⟩;rw [e,Nat.or_comm,← e2];omega
   obtain ⟨k1,k2,k3,k4,k5⟩:=key (32*i) rfl;(iterate 3 refine Ar.o ?_);refine Ob.mk ⟨k1,k2⟩ ?_;refine Ar.fit ⟨k3,k4⟩ ?_;refine ⟨_,k5.symm,?_⟩;refine Ar.o ?_;exact ⟨i+1,⟨oM,oM⟩,zo [(0,some 0),(1,some 1)],by dsimp only;omega⟩
 ·have h4:(zr z.natAbs).length=i:=by rw [qg] at h3;omega
  have e:val ((zr z.natAbs).take i)=z.natAbs:=by rw [kq oM,zz]
  have hz:z.natAbs < 18446744073709551616:=by
   have:=qk (zr z.natAbs) i;rw [e] at this;refine Nat.lt_of_lt_of_le this (Nat.le_trans (Nat.pow_le_pow_right dC h1) dC)
  have good:∀n:Int,n=z-> -9223372036854775808<=z/\z<=9223372036854775807->LE (.tup [i64 n,bl true]) (.tup [i64 (yh z),pr (-9223372036854775808<=z/\z<=9223372036854775807)]):=fun n hn h=>
   ko (zF (by rw [yh,if_pos h,hn])) (yU h)
  have hn:=uQ z;refine Br.mk (fun g1=>?_) (fun g1=>?_)
  ·rw [hn] at g1;refine Br.mk (fun g2=>?_) (fun g2=>?_)
   ·refine Ar.wrap ?_;refine Ar.wrap ?_;refine good _ ?_ oM;rw [e,ju];show IntKind.i64.wrap _=_;simp only [IntKind.wrap,IntKind.bits,IntKind.signed];simp;omega
   ·refine Br.mk (fun g3=>absurd (hn.2 g1) g3) (fun _=>bad oM)
  ·refine Br.mk (fun g3=>?_) (fun g3=>absurd (fun h=>g1 h) g3);rw [hn] at g1;refine Br.mk (fun g2=>?_) (fun g2=>bad oM);refine Ar.o ?_;exact good _ oM oM
end Go.Gs
