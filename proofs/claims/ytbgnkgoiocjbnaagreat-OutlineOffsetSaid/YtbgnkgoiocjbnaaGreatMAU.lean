/- Vectors and roots, both texts. -/
import Derived.Test.YtbgnkgoiocjbnaaGreatMA
import Derived.Test.YtbgnkgoiocjbnaaGreatMAS
import Derived.Test.YtbgnkgoiocjbnaaGreatMAT
set_option maxRecDepth 100000
set_option maxHeartbeats 8000000
set_option linter.all false
namespace Go.Gs
open Go.Proofs
theorem zuV{r m a:Nat}(h:r=2 ^ (m+1)*a)(hr:r < 4294967296)(hm:m<=31):uW .or .u64 (r:Int) (1*2 ^ (m:Int).toNat)=((r+2 ^ m:Nat):Int):=by
 have hp:2 ^ m<=2 ^ 31:=Nat.pow_le_pow_right dC hm;have e:(1*2 ^ (m:Int).toNat:Int)=((2 ^ m:Nat):Int):=by rw [Int.one_mul];simp
 rw [e,zgv oM oM];have:=Nat.two_pow_add_eq_or_of_lt (i:=m+1) (b:=2 ^ m) (Nat.pow_lt_pow_right dC oM) a;rw [h,← this]
theorem zq1(n:Int)(h0:0<=n/\n<=18446744073709551615):zd Tryz.prog 203 [u64 n] [] (u64 (isq n)) []:=by
 refine zc tok mix Tryz.func203 rfl rfl rfl ?_
 refine ⟨Int×Nat,fun z=>⟨[(0,u64 n),(3,u64 (z.2:Int)),(4,i64 z.1)],[],0,21,0⟩,fun z=> -1<=z.1/\z.1<=31/\(∃a,z.2=2 ^ (z.1+1).toNat*a)/\z.2+2 ^ (z.1+1).toNat<=4294967296/\sqL n (z.1+1).toNat z.2=isq n,
  fun z=>(z.1+1).toNat,(31,0),⟨dC,dC,⟨0,rfl⟩,dC,rfl⟩,?_,?_⟩
 ·exact zh []
 rintro ⟨j,r⟩ ⟨h1,h2,⟨a,h3⟩,h4,h5⟩
 dsimp only at h1 h2 h3 h4 h5;refine Br.mk (fun g=>?_) (fun g=>?_)
 ·have g:0<=j:=g;obtain ⟨m,rfl⟩:∃m:Nat,j=m:=⟨j.toNat,oM⟩;have e:((m:Int)+1).toNat=m+1:=oM;rw [e] at h3 h4 h5;have hm:m<=31:=oM;have hp:2 ^ m<=2147483648:=Nat.pow_le_pow_right (n:=2) dC hm;have hp1:0 < 2 ^ m:=Nat.pow_pos dC;have hp2:2 ^ (m+1)=2*2 ^ m:=by rw [Nat.pow_succ];omega
  have ee:(1*2 ^ (m:Int).toNat:Int)=((2 ^ m:Nat):Int):=by rw [Int.one_mul];simp
  have hq:(r+2 ^ m)*(r+2 ^ m)<=18446744065119617025:=Nat.le_trans (Nat.mul_le_mul (show r+2 ^ m<=4294967295 by omega) (show r+2 ^ m<=4294967295 by omega)) dC
  have hs:sqL n (m+1) r=sqL n m (if ((r+2 ^ m:Nat):Int)*((r+2 ^ m:Nat):Int)<=n then ((r+2 ^ m:Nat):Int) else r):=by
   have:((r+2 ^ m:Nat):Int)=(r:Int)+2 ^ m:=by simp
   rw [this];rfl
  rw [hs] at h5;have em:((m:Int) - 1+1).toNat=m:=oM;refine Ob.mk (by show (0:Int)<=m/\(m:Int) < 64;omega) ?_;refine Ar.fit (by rw [ee];omega) ?_;refine ⟨((r+2 ^ m:Nat):Int),(zuV h3 oM hm).symm,?_⟩;have hq':((r+2 ^ m:Nat):Int)*((r+2 ^ m:Nat):Int)<=18446744065119617025:=by have h:=Int.ofNat_le.mpr hq;rw [Int.natCast_mul] at h;exact h
  have hq0:0<=((r+2 ^ m:Nat):Int)*((r+2 ^ m:Nat):Int):=Int.mul_nonneg oM oM;refine Ar.fit ⟨hq0,oM⟩ ?_;refine Br.mk (fun k=>?_) (fun k=>?_)
  ·refine Ar.o ?_;rw [if_pos k] at h5;refine ⟨((m:Int) - 1,r+2 ^ m),⟨by dsimp only;omega,by dsimp only;omega,⟨2*a+1,?_⟩,?_,?_⟩,zh [],by dsimp only;omega⟩
   ·dsimp only;rw [em,h3,hp2];grind
   ·dsimp only;rw [em];omega
   ·dsimp only;rw [em];exact h5
  ·refine Ar.o ?_;rw [if_neg k] at h5;refine ⟨((m:Int) - 1,r),⟨by dsimp only;omega,by dsimp only;omega,⟨2*a,?_⟩,?_,?_⟩,zh [],by dsimp only;omega⟩
   ·dsimp only;rw [em,h3,hp2];grind
   ·dsimp only;rw [em];omega
   ·dsimp only;rw [em];exact h5
 ·have g:¬0<=j:=g;have e:(j+1).toNat=0:=oM;rw [e] at h5;exact zu h5
theorem zwH(n:Int)(h0:0<=n/\n<=18446744073709551615):zd Tryz.prog 264 [u64 n] [] (u64 (isq n)) []:=by
 refine zc tok mix Tryz.func264 rfl rfl rfl ?_
 refine ⟨Int×Nat,fun z=>⟨[(0,u64 n),(3,u64 (z.2:Int)),(4,i64 z.1)],[],0,22,0⟩,fun z=> -1<=z.1/\z.1<=31/\z.2+2 ^ (z.1+1).toNat<=4294967296/\sqL n (z.1+1).toNat z.2=isq n,
  fun z=>(z.1+1).toNat,(31,0),⟨dC,dC,dC,rfl⟩,?_,?_⟩
 ·exact zh []
 rintro ⟨j,r⟩ ⟨h1,h2,h4,h5⟩
 dsimp only at h1 h2 h4 h5;refine Br.mk (fun g=>?_) (fun g=>?_)
 ·have g:0<=j:=g;obtain ⟨m,rfl⟩:∃m:Nat,j=m:=⟨j.toNat,oM⟩;have e:((m:Int)+1).toNat=m+1:=oM;rw [e] at h4 h5;have hm:m<=31:=oM;have hp:2 ^ m<=2147483648:=Nat.pow_le_pow_right (n:=2) dC hm;have hp1:0 < 2 ^ m:=Nat.pow_pos dC;have hp2:2 ^ (m+1)=2*2 ^ m:=by rw [Nat.pow_succ];omega
  have ee:(1*2 ^ (m:Int).toNat:Int)=((2 ^ m:Nat):Int):=by rw [Int.one_mul];simp
  have hq:(r+2 ^ m)*(r+2 ^ m)<=18446744065119617025:=Nat.le_trans (Nat.mul_le_mul (show r+2 ^ m<=4294967295 by omega) (show r+2 ^ m<=4294967295 by omega)) dC
  have hs:sqL n (m+1) r=sqL n m (if ((r+2 ^ m:Nat):Int)*((r+2 ^ m:Nat):Int)<=n then ((r+2 ^ m:Nat):Int) else r):=by
   have:((r+2 ^ m:Nat):Int)=(r:Int)+2 ^ m:=by simp
   rw [this];rfl
  rw [hs] at h5;have em:((m:Int) - 1+1).toNat=m:=oM;refine Ar.o ?_;refine Ob.mk (by show (0:Int)<=m/\(m:Int) < 64;omega) ?_;refine Ar.fit (by rw [ee];omega) ?_;change Ar _ _ _;rw [ee,show (r:Int)+((2 ^ m:Nat):Int)=((r+2 ^ m:Nat):Int) by omega];refine Ar.o ?_;have hq':((r+2 ^ m:Nat):Int)*((r+2 ^ m:Nat):Int)<=18446744065119617025:=by have h:=Int.ofNat_le.mpr hq;rw [Int.natCast_mul] at h;exact h
  have hq0:0<=((r+2 ^ m:Nat):Int)*((r+2 ^ m:Nat):Int):=Int.mul_nonneg oM oM;refine Ar.fit ⟨hq0,oM⟩ ?_;refine Br.mk (fun k=>?_) (fun k=>?_)
  ·refine Ar.o ?_;rw [if_pos k] at h5;refine ⟨((m:Int) - 1,r+2 ^ m),⟨by dsimp only;omega,by dsimp only;omega,?_,?_⟩,zh [],by dsimp only;omega⟩
   ·dsimp only;rw [em];omega
   ·dsimp only;rw [em];exact h5
  ·refine Ar.o ?_;rw [if_neg k] at h5;refine ⟨((m:Int) - 1,r),⟨by dsimp only;omega,by dsimp only;omega,?_,?_⟩,zh [],by dsimp only;omega⟩
   ·dsimp only;rw [em];omega
   ·dsimp only;rw [em];exact h5
 ·have g:¬0<=j:=g;have e:(j+1).toNat=0:=oM;rw [e] at h5;exact zu h5
theorem za3(p:Pt):zd Tryz.prog 151 [.agg (ptE p)] [] (.agg (ptE (jW p))) []:=zqJ p
theorem zk7(n lo hi:Int):zd Tryz.prog 167 [i64 n,i64 lo,i64 hi] [] (i64 (qM n lo hi)) []:=by
 refine zc tok mix Tryz.func167 rfl rfl rfl ?_;refine Br.mk (fun h=>?_) (fun h=>?_)
 ·exact zu (by simp [qM,h])
 refine Br.mk (fun h2=>?_) (fun h2=>?_)
 ·exact zu (by simp [qM,h,h2])
 ·exact zu (by simp [qM,h,h2])
theorem zq2(p:Pt):zd Tryz.prog 112 [.agg (ptE p)] [] (.agg (ptE (jW p))) []:=by
 refine zc tok mix Tryz.func112 rfl rfl rfl ?_;refine Dr.k ?_;refine zb.t (zk7 p.x _ _) ?_;refine zb.t (zk7 p.y _ _) ?_;exact .refl
theorem p_sub(p q:Pt):zd Tryz.prog 137 [.agg (ptE p),.agg (ptE q)] [] (.agg (ptE (zv1 p q))) []:=by
 have h1:=qY p.x;have h2:=qY p.y;have h3:=qY q.x;have h4:=qY q.y;refine zc tok mix Tryz.func137 rfl rfl rfl ?_;refine Dr.k ?_;refine zb.t (za3 p) ?_;refine zb.t (za3 q) ?_;unfold jW;refine Ar.fit (by dsimp only;omega) ?_;refine Ar.fit (by dsimp only;omega) ?_;exact .refl
theorem zwI(p q:Pt):zd Tryz.prog 207 [.agg (ptE p),.agg (ptE q)] [] (.agg (ptE (zv1 p q))) []:=by
 have h1:=qY p.x;have h2:=qY p.y;have h3:=qY q.x;have h4:=qY q.y;refine zc tok mix Tryz.func207 rfl rfl rfl ?_;refine Dr.k ?_;refine zb.t (zq2 p) ?_;refine zb.t (zq2 q) ?_;unfold jW;refine Ar.fit (by dsimp only;omega) ?_;refine Ar.fit (by dsimp only;omega) ?_;exact .refl
theorem zwJ(p q:Pt):zd Tryz.prog 56 [.agg (ptE p),.agg (ptE q)] [] (.agg (ptE (addP p q))) []:=by
 have h1:=qY p.x;have h2:=qY p.y;have h3:=qY q.x;have h4:=qY q.y;refine zc tok mix Tryz.func56 rfl rfl rfl ?_;refine Dr.k ?_;refine zb.t (zq2 p) ?_;refine zb.t (zq2 q) ?_;unfold jW;refine Ar.fit (by dsimp only;omega) ?_;refine Ar.fit (by dsimp only;omega) ?_;exact .refl
theorem yq(p:Pt):zd Tryz.prog 304 [.agg (ptE p)] [] (.agg (ptE (perpP p))) []:=by
 have h2:=qY p.y;refine zc tok mix Tryz.func304 rfl rfl rfl ?_;refine zb.t (za3 p) ?_;unfold jW;refine Ar.fit (by dsimp only;omega) ?_;exact .refl
theorem zq3(p q:Pt)(hp:zo p)(hq:zo q):zd Tryz.prog 232 [.agg (ptE p),.agg (ptE q)] [] (i64 (wdg p q)) []:=by
 have h:=zeu hp hq;unfold wdg at h;refine zc tok mix Tryz.func232 rfl rfl rfl ?_;(iterate 3 refine Ar.o ?_);exact .refl
theorem zxp(p q:Pt)(hp:zo p)(hq:zo q):zd Tryz.prog 243 [.agg (ptE p),.agg (ptE q)] [] (i64 (wdg p q)) []:=by
 have h:=zeu hp hq;unfold wdg at h;refine zc tok mix Tryz.func243 rfl rfl rfl ?_;(iterate 3 refine Ar.o ?_);exact .refl
theorem zuW(p q:Pt)(hp:zo p)(hq:zo q):zd Tryz.prog 260 [.agg (ptE p),.agg (ptE q)] [] (i64 (dtp p q)) []:=by
 have h:=zh7 hp hq;unfold dtp at h;refine zc tok mix Tryz.func260 rfl rfl rfl ?_;(iterate 3 refine Ar.o ?_);exact .refl
theorem zs8(p q:Pt):zd Tryz.prog 176 [.agg (ptE p),.agg (ptE q)] [] (i64 (za2 p q)) []:=by
 refine zc tok mix Tryz.func176 rfl rfl rfl ?_;refine Dr.k ?_;refine zb.t (za3 p) ?_;refine zb.t (za3 q) ?_;refine zb.t (zq3 (jW p) (jW q) (uw p) (uw q)) ?_;exact .refl
theorem zxq(p q:Pt):zd Tryz.prog 183 [.agg (ptE p),.agg (ptE q)] [] (i64 (za2 p q)) []:=by
 refine zc tok mix Tryz.func183 rfl rfl rfl ?_;refine Dr.k ?_;refine zb.t (zq2 p) ?_;refine zb.t (zq2 q) ?_;refine zb.t (zxp (jW p) (jW q) (uw p) (uw q)) ?_;exact .refl
theorem p_dot(p q:Pt):zd Tryz.prog 204 [.agg (ptE p),.agg (ptE q)] [] (i64 (zpf p q)) []:=by
 refine zc tok mix Tryz.func204 rfl rfl rfl ?_;refine Dr.k ?_;refine zb.t (za3 p) ?_;refine zb.t (za3 q) ?_;refine zb.t (zuW (jW p) (jW q) (uw p) (uw q)) ?_;exact .refl
theorem r_dot(p q:Pt):zd Tryz.prog 265 [.agg (ptE p),.agg (ptE q)] [] (i64 (zpf p q)) []:=by
 have h:=zh7 (uw p) (uw q);unfold dtp at h;refine zc tok mix Tryz.func265 rfl rfl rfl ?_;refine Dr.k ?_;refine zb.t (zq2 p) ?_;refine zb.t (zq2 q) ?_;(iterate 3 refine Ar.o ?_);exact .refl
theorem zk8(p:Pt):0<=zpf p p/\zpf p p<=2199023255552:=by
 have h:=zh7 (uw p) (uw p);have h1:=jm (jW p).x;have h2:=jm (jW p).y;unfold zpf;unfold dtp at*;omega
theorem zh9(p:Pt):0<=zqX p/\zqX p < 4294967296:=by
 have h:=zk8 p;exact ⟨(zdP oM oM).1,zqV oM oM⟩
theorem zq4(p:Pt):zd Tryz.prog 136 [.agg (ptE p)] [] (i64 (zqX p)) []:=by
 have h:=zk8 p;have hl:=zh9 p;unfold zqX at hl;refine zc tok mix Tryz.func136 rfl rfl rfl ?_;refine zb.t (p_dot p p) ?_;(iterate 2 refine Ar.o ?_);refine zb.t (zq1 (65536*zpf p p) oM) ?_;refine Ar.o ?_;exact .refl
theorem zxa(p:Pt):zd Tryz.prog 206 [.agg (ptE p)] [] (i64 (zqX p)) []:=by
 have h:=zk8 p;have hl:=zh9 p;unfold zqX at hl;refine zc tok mix Tryz.func206 rfl rfl rfl ?_;refine zb.t (r_dot p p) ?_;(iterate 2 refine Ar.o ?_);refine zb.t (zwH (65536*zpf p p) oM) ?_;refine Ar.o ?_;exact .refl
theorem zfv{a b:Int}{M:Nat}(hb:b≠0)(h:a.natAbs<=M*b.natAbs): -(M:Int)<=zQ a b/\zQ a b<=M:=by
 have e:=zbP a b
 have:(2*a.natAbs+b.natAbs) / (2*b.natAbs) < M+1:=by
  rw [Nat.div_lt_iff_lt_mul oM];have:(M+1)*(2*b.natAbs)=2*(M*b.natAbs)+2*b.natAbs:=by grind
  omega
 omega
theorem zpi{b:Int}:zQ 0 b=0:=by
 have e:=zbP 0 b
 have:(2*(0:Int).natAbs+b.natAbs) / (2*b.natAbs)=0:=by
  by_cases h:b.natAbs=0
  ·rw [h];rfl
  ·exact Nat.div_eq_of_lt (by show 0+b.natAbs < _;omega)
 omega
theorem yI{a b:Int}{M:Nat}(h:a.natAbs<=M): -(M:Int)<=zQ a b/\zQ a b<=M:=by
 by_cases hb:b=0
 ·subst hb;have e:=zbP a 0;rw [show (2*(0:Int).natAbs)=0 by rfl,Nat.div_zero] at e;omega
 ·refine zfv hb (Nat.le_trans h ?_);exact Nat.le_mul_of_pos_right _ oM
theorem zav{a b:Int}(h: -4611686018427387904<=a/\a<=4611686018427387904):yH (zQ a b)=zQ a b:=by
 have:=yI (a:=a) (b:=b) (M:=4611686018427387904) oM;unfold yH;rw [if_pos oM]
theorem zdS{n d:Int}(h:1<=d):0<=qM n 0 d/\qM n 0 d<=d:=by unfold qM;split <;> (try split) <;> omega
theorem zpj{n d f t:Int}(hd:1<=d/\d<=1099511627776)(hn:0<=n/\n<=d)(hf: -1048576<=f/\f<=1048576)(ht: -1048576<=t/\t<=1048576):
  (-2305843009213693952<=n*(t - f)/\n*(t - f)<=2305843009213693952)/\(-2097152<=zQ (n*(t - f)) d/\zQ (n*(t - f)) d<=2097152)/\yH (zQ (n*(t - f)) d)=zQ (n*(t - f)) d:=by
 have h1:=qZ (A:=d) (B:=2097152) (a:=n) (b:=t - f) oM oM;have h2:(n*(t - f)).natAbs<=2097152*d.natAbs:=oM;have h3:=zfv (M:=2097152) oM h2;exact ⟨oM,oM,zav oM⟩
theorem zn3(f t n d:Int)(hd:1<=d/\d<=1099511627776)(hn:0<=n/\n<=d)(hf: -1048576<=f/\f<=1048576)(ht: -1048576<=t/\t<=1048576):
  zd Tryz.prog 262 [i64 f,i64 t,.ptr [i64 n],.ptr [i64 d]] [] (i64 (f+zQ (n*(t - f)) d)) []:=by
 have h:=zpj hd hn hf ht;refine zc tok mix Tryz.func262 rfl rfl rfl ?_;(iterate 2 refine Ar.o ?_);refine zb.t (zC (n*(t - f)) d ⟨oM,oM⟩ ⟨oM,oM⟩) ?_;rw [h.2.2];refine Ar.o ?_;exact .refl
theorem zq5(a b:Pt)(n d:Int):zd Tryz.prog 205 [.agg (ptE a),.agg (ptE b),i64 n,i64 d] [] (.agg (ptE (zeY a b n d))) []:=by
 have h1:=qY a.x;have h2:=qY a.y;have h3:=qY b.x;have h4:=qY b.y;refine zc tok mix Tryz.func205 rfl rfl rfl ?_;refine Dr.k ?_;refine zb.t (za3 a) ?_;refine zb.t (za3 b) ?_;refine Br.mk (fun g=>?_) (fun g=>?_)
 ·unfold zeY;rw [if_pos (.inl g)];exact .refl
 refine Br.mk (fun g2=>?_) (fun g2=>?_)
 ·unfold zeY;rw [if_pos (.inr g2)];exact .refl
 ·have g:¬(d < 1∨1099511627776 < d):=fun h=>h.elim g g2
  have hn:=zdS (n:=n) (d:=d) oM;refine zb.t (znV n 0 d) ?_;refine Dr.k ?_;refine zb.t (zn3 (hI a.x) (hI b.x) (qM n 0 d) d oM hn h1 h3) ?_;refine zb.t (zn3 (hI a.y) (hI b.y) (qM n 0 d) d oM hn h2 h4) ?_;unfold zeY;rw [if_neg g];exact .refl
theorem zwd(a b:Pt)(n d:Int):zd Tryz.prog 149 [.agg (ptE a),.agg (ptE b),i64 n,i64 d] [] (.agg (ptE (zeY a b n d))) []:=by
 have h1:=qY a.x;have h2:=qY a.y;have h3:=qY b.x;have h4:=qY b.y;refine zc tok mix Tryz.func149 rfl rfl rfl ?_;refine zb.t (zq2 a) ?_;refine Br.mk (fun g=>?_) (fun g=>?_)
 ·unfold zeY;rw [if_pos (.inl g)];exact .refl
 refine Br.mk (fun g2=>?_) (fun g2=>?_)
 ·unfold zeY;rw [if_pos (.inr g2)];exact .refl
 ·have g:¬(d < 1∨1099511627776 < d):=fun h=>h.elim g g2
  have hn:=zdS (n:=n) (d:=d) oM;have k1:=zpj oM hn h1 h3;have k2:=zpj oM hn h2 h4;refine zb.t (zwI b a) ?_;refine zb.t (zk7 n 0 d) ?_;refine Dr.k ?_;refine Ar.fit (by show _<=qM n 0 d*(hI b.x - hI a.x)/\qM n 0 d*(hI b.x - hI a.x)<=_;omega) ?_;refine zb.t (zvY (qM n 0 d*(hI b.x - hI a.x)) d ⟨oM,oM⟩ ⟨oM,oM⟩) ?_;rw [k1.2.2];refine Ar.fit (by show _<=hI a.x+zQ (qM n 0 d*(hI b.x - hI a.x)) d/\hI a.x+zQ (qM n 0 d*(hI b.x - hI a.x)) d<=_;omega) ?_;refine Ar.fit (by show _<=qM n 0 d*(hI b.y - hI a.y)/\qM n 0 d*(hI b.y - hI a.y)<=_;omega) ?_
  refine zb.t (zvY (qM n 0 d*(hI b.y - hI a.y)) d ⟨oM,oM⟩ ⟨oM,oM⟩) ?_;rw [k2.2.2];refine Ar.fit (by show _<=hI a.y+zQ (qM n 0 d*(hI b.y - hI a.y)) d/\hI a.y+zQ (qM n 0 d*(hI b.y - hI a.y)) d<=_;omega) ?_;unfold zeY;rw [if_neg g];exact .refl
theorem uh(w:Int):zd Tryz.prog 133 [i64 w] [] (pr (zX w)) []:=by
 refine zc tok mix Tryz.func133 rfl rfl rfl ?_;refine Br.mk (fun h=>?_) (fun h=>ze (fun k=>h k.1));exact kZ ⟨fun k=>⟨h,k⟩,fun k=>k.2⟩
theorem zuj(n:Int):zd Tryz.prog 305 [i64 n] [] (pr (zdQ n)) []:=by
 refine zc tok mix Tryz.func305 rfl rfl rfl ?_;refine Br.mk (fun h=>kC (.inl h)) (fun h=>?_);exact kZ ⟨fun k=>.inr k,fun k=>k.resolve_left h⟩
theorem zaw(n a b:Int):zd Tryz.prog 90 [i64 n,i64 a,i64 b] [] (pr (a<=n/\n<=b)) []:=by
 refine zc tok mix Tryz.func90 rfl rfl rfl ?_;refine Br.mk (fun h=>?_) (fun h=>ze (fun k=>h k.1));exact kZ ⟨fun k=>⟨h,k⟩,fun k=>k.2⟩
theorem zs9(w:Int):zd Tryz.prog 89 [i64 w] [] (pr (zX w)) []:=by
 refine zc tok mix Tryz.func89 rfl rfl rfl ?_;refine zb.t (zaw w 1 16384) ?_;exact kZ Iff.rfl
theorem zwK(a b:Pt)(w:Int):zd Tryz.prog 288 [.agg (ptE a),.agg (ptE b),i64 w] [] (pr (zX w/\zo a/\zo b)) []:=by
 refine zc tok mix Tryz.func288 rfl rfl rfl ?_;refine zb.t (yG a) ?_;refine Br.mk (fun h1=>?_) (fun h1=>ze (fun h=>h1 h.2.1));refine zb.t (yG b) ?_;refine Br.mk (fun h2=>?_) (fun h2=>ze (fun h=>h2 h.2.2));refine zb.t (zs9 w) ?_;exact kZ ⟨fun h=>⟨h,h1,h2⟩,fun h=>h.1⟩
def zbS(out:List (List Sg))(s:Sg):List (List Sg):=if s.v=1 then out++[[s]] else out.dropLast++[out.getLastD []++[s]]
def subs(l:List Sg):List (List Sg):=l.foldl zbS []
def zeZ(v:Int)(q:List Pt):Sg:=⟨v,q.getD 0 zp,q.getD 1 zp,q.getD 2 zp⟩
theorem gid(i:Nat)(x:List SV)(hx:[[SV.loc 1 1],[.loc 1 3],[.loc 1 5]][i]? =some x):ren.rens [(0,some 0),(1,some 1),(2,some 2)] x=some x:=by
 match i,hx with
 | 0,hx=>cases hx;rfl
 | 1,hx=>cases hx;rfl
 | 2,hx=>cases hx;rfl
theorem zjA(v:Int)(q:List Pt):zd Tryz.prog 74 [i64 v,.sl ptE q] [] (.agg (sgE (zeZ v q))) []:=by
 refine zc tok mix Tryz.func74 rfl rfl rfl ?_
 refine ⟨[[.loc 1 1],[.loc 1 3],[.loc 1 5]],rfl,Ob.mk ⟨rfl,dC,dC,dC,fun x hx=>by
  simp only [List.mem_cons,List.not_mem_nil,or_false] at hx
  rcases hx with rfl | rfl | rfl <;> rfl⟩ ?_⟩
 intro _
 refine ⟨Nat,fun i=>⟨[(15,i64 i),(14,i64 3),(13,.own 2),(5,.loc 1 0),(4,.loc 0 0),(1,.sl ptE q)],
  [(2,.garr 159 1 [[.loc 1 1],[.loc 1 3],[.loc 1 5]]),(1,.box 75 (sgE ⟨v,if 1<=i then q.getD 0 zp else zp,if 2<=i then q.getD 1 zp else zp,if 3<=i then q.getD 2 zp else zp⟩)),(0,.box 75 (sgE ⟨0,zp,zp,zp⟩))],3,32,0⟩,
  fun i=>i<=3,fun i=>3 - i,0,dC,zM [(0,some 0),(1,some 1),(2,some 2)] ⟨⟨_,rfl,rfl,fun i x hx=>?_⟩,rfl,rfl,trivial⟩,?_⟩
 ·exact ⟨x,hx,gid i x hx⟩
 rintro i hi
 have hi:i<=3:=hi;have e:i=0∨i=1∨i=2∨i=3:=oM
 rcases e with rfl | rfl | rfl | rfl
 ·refine Br.y ?_;refine Ob.mk ⟨dC,by show (0:Int) < ((3:Nat):Int);decide⟩ ?_;refine Ob.mk ⟨dC,by show (0:Int) < ((3:Nat):Int);decide⟩ ?_;intro y hy;have hy:some [SV.loc 1 1]=some y:=hy
  cases hy
  intro _;refine Br.mk (fun h1=>?_) (fun h1=>?_)
  ·refine Ob.mk ⟨dC,h1⟩ ?_;intro x hx;have hx:q[0]? =some x:=hx;have hg:q.getD 0 zp=x:=by rw [List.getD_eq_getElem?_getD,hx];rfl
   refine Ar.fit dC ?_;exact ⟨1,dC,zM [(0,some 0),(1,some 1),(2,some 2)] ⟨⟨_,rfl,rfl,fun i x hx=>⟨x,hx,gid i x hx⟩⟩,congrArg (fun p=>some (Mem.box 75 (sgE ⟨v,p,zp,zp⟩))) hg.symm,rfl,trivial⟩,dC⟩
  ·have h1:¬((0:Nat):Int) < q.length:=h1;have hg:q.getD 0 zp=zp:=by rw [List.getD_eq_getElem?_getD,List.getElem?_eq_none oM];rfl
   refine Ar.fit dC ?_;exact ⟨1,dC,zM [(0,some 0),(1,some 1),(2,some 2)] ⟨⟨_,rfl,rfl,fun i x hx=>⟨x,hx,gid i x hx⟩⟩,congrArg (fun p=>some (Mem.box 75 (sgE ⟨v,p,zp,zp⟩))) hg.symm,rfl,trivial⟩,dC⟩
 ·refine Br.y ?_;refine Ob.mk ⟨dC,by show (1:Int) < ((3:Nat):Int);decide⟩ ?_;refine Ob.mk ⟨dC,by show (1:Int) < ((3:Nat):Int);decide⟩ ?_;intro y hy;have hy:some [SV.loc 1 3]=some y:=hy
  cases hy
  intro _;refine Br.mk (fun h1=>?_) (fun h1=>?_)
  ·refine Ob.mk ⟨dC,h1⟩ ?_;intro x hx;have hx:q[1]? =some x:=hx;have hg:q.getD 1 zp=x:=by rw [List.getD_eq_getElem?_getD,hx];rfl
   refine Ar.fit dC ?_;exact ⟨2,dC,zM [(0,some 0),(1,some 1),(2,some 2)] ⟨⟨_,rfl,rfl,fun i x hx=>⟨x,hx,gid i x hx⟩⟩,congrArg (fun p=>some (Mem.box 75 (sgE ⟨v,q.getD 0 zp,p,zp⟩))) hg.symm,rfl,trivial⟩,dC⟩
  ·have h1:¬((1:Nat):Int) < q.length:=h1;have hg:q.getD 1 zp=zp:=by rw [List.getD_eq_getElem?_getD,List.getElem?_eq_none oM];rfl
   refine Ar.fit dC ?_;exact ⟨2,dC,zM [(0,some 0),(1,some 1),(2,some 2)] ⟨⟨_,rfl,rfl,fun i x hx=>⟨x,hx,gid i x hx⟩⟩,congrArg (fun p=>some (Mem.box 75 (sgE ⟨v,q.getD 0 zp,p,zp⟩))) hg.symm,rfl,trivial⟩,dC⟩
 ·refine Br.y ?_;refine Ob.mk ⟨dC,by show (2:Int) < ((3:Nat):Int);decide⟩ ?_;refine Ob.mk ⟨dC,by show (2:Int) < ((3:Nat):Int);decide⟩ ?_;intro y hy;have hy:some [SV.loc 1 5]=some y:=hy
  cases hy
  intro _;refine Br.mk (fun h1=>?_) (fun h1=>?_)
  ·refine Ob.mk ⟨dC,h1⟩ ?_;intro x hx;have hx:q[2]? =some x:=hx;have hg:q.getD 2 zp=x:=by rw [List.getD_eq_getElem?_getD,hx];rfl
   refine Ar.fit dC ?_;exact ⟨3,dC,zM [(0,some 0),(1,some 1),(2,some 2)] ⟨⟨_,rfl,rfl,fun i x hx=>⟨x,hx,gid i x hx⟩⟩,congrArg (fun p=>some (Mem.box 75 (sgE ⟨v,q.getD 0 zp,q.getD 1 zp,p⟩))) hg.symm,rfl,trivial⟩,dC⟩
  ·have h1:¬((2:Nat):Int) < q.length:=h1;have hg:q.getD 2 zp=zp:=by rw [List.getD_eq_getElem?_getD,List.getElem?_eq_none oM];rfl
   refine Ar.fit dC ?_;exact ⟨3,dC,zM [(0,some 0),(1,some 1),(2,some 2)] ⟨⟨_,rfl,rfl,fun i x hx=>⟨x,hx,gid i x hx⟩⟩,congrArg (fun p=>some (Mem.box 75 (sgE ⟨v,q.getD 0 zp,q.getD 1 zp,p⟩))) hg.symm,rfl,trivial⟩,dC⟩
 ·refine Br.mk (fun h=>absurd h dC) (fun _=>?_);exact .refl
def zq6:Sg:=⟨5,zp,zp,zp⟩
def oks:Int->List Sg->Prop
 | _,[]=>True
 | last,s::r=>qU last s=0/\oks s.v r
theorem zn4:∀{l:List Sg} {last:Int} {i:Nat},(chk last i l).1=0↔oks last l
 | [],_,_=>by simp [chk,oks]
 | s::r,last,i=>by
  unfold chk oks
  by_cases h:qU last s=0
  ·rw [if_neg (fun hn=>hn h),zn4];exact ⟨fun k=>⟨h,k⟩,fun k=>k.2⟩
  ·rw [if_pos h];exact ⟨fun k=>absurd k h,fun k=>absurd k.1 h⟩
theorem yh{l:List Sg}:qK l↔l.length<=256/\oks 5 l:=by
 unfold qK uX
 by_cases h:256 < l.length
 ·rw [if_pos h];exact ⟨fun k=>absurd k dC,fun k=>absurd h oM⟩
 ·rw [if_neg h,zn4];exact ⟨fun k=>⟨oM,k⟩,fun k=>k.2⟩
theorem jv{last:Int}{s:Sg}:qU last s=0↔0<=nm s.v/\zag last s.v/\zbn s:=by
 unfold qU
 by_cases h1:nm s.v < 0
 ·rw [if_pos h1];exact ⟨fun h=>absurd h dC,fun h=>by omega⟩
 ·rw [if_neg h1]
  by_cases h2:zag last s.v
  ·rw [if_neg (fun h=>h h2)]
   by_cases h3:zbn s
   ·rw [if_neg (fun h=>h h3)];exact ⟨fun _=>⟨oM,h2,h3⟩,fun _=>rfl⟩
   ·rw [if_pos h3];exact ⟨fun h=>absurd h dC,fun h=>absurd h.2.2 h3⟩
  ·rw [if_pos h2];exact ⟨fun h=>absurd h dC,fun h=>absurd h.2.1 h2⟩
theorem zev{v:Int}(h:0<=nm v):v=1∨v=2∨v=3∨v=4∨v=5:=by
 unfold nm at h
 by_cases h1:v=1
 ·exact .inl h1
 rw [if_neg h1] at h
 by_cases h2:v=2
 ·exact .inr (.inl h2)
 rw [if_neg h2] at h
 by_cases h3:v=3
 ·exact .inr (.inr (.inl h3))
 rw [if_neg h3] at h
 by_cases h4:v=4
 ·exact .inr (.inr (.inr (.inl h4)))
 rw [if_neg h4] at h
 by_cases h5:v=5
 ·exact .inr (.inr (.inr (.inr h5)))
 rw [if_neg h5] at h;omega
def midV(s:Sg):Prop:=s.v=2∨s.v=3∨s.v=4
def Grp(g:List Sg)(last:Int):Prop:=
 ∃m mid,m.v=1/\(∀s∈mid,midV s)/\(∀s∈g,zbn s)/\
  ((g=m::mid/\last≠5/\(mid=[]->last=1))∨∃c,g=m::mid++[c]/\c.v=5/\last=5/\mid≠[])
theorem zq7{g:List Sg}{last:Int}{x:Sg}(h:Grp g last)(he:qU last x=0)(hv:x.v≠1):Grp (g++[x]) x.v:=by
 obtain ⟨h0,h1,h2⟩:=jv.1 he;obtain ⟨m,mid,g1,g2,g3,g4⟩:=h;have hs:last≠5/\(x.v≠5∨last≠1):=h1.resolve_left hv
 have hf:∀s∈g++[x],zbn s:=fun s hs=>by
  rcases List.mem_append.1 hs with hs | hs
  ·exact g3 s hs
  ·simp at hs;subst hs;exact h2
 rcases g4 with ⟨rfl,g5,g6⟩ | ⟨c,_,_,g5,_⟩
 ·by_cases h5:x.v=5
  ·exact ⟨m,mid,g1,g2,hf,.inr ⟨x,rfl,h5,h5,fun e=>(hs.2.resolve_left (fun h=>h h5)) (g6 e)⟩⟩
  ·refine ⟨m,mid++[x],g1,fun s hs=>?_,hf,.inl ⟨rfl,h5,fun e=>by simp at e⟩⟩
   rcases List.mem_append.1 hs with hs | hs
   ·exact g2 s hs
   ·simp at hs;subst hs
    rcases zev h0 with h | h | h | h | h
    ·exact absurd h hv
    ·exact .inl h
    ·exact .inr (.inl h)
    ·exact .inr (.inr h)
    ·exact absurd h h5
 ·exact absurd g5 hs.1
theorem zia{last:Int}{x:Sg}(he:qU last x=0)(hv:x.v=1):Grp [x] x.v:=
 ⟨x,[],hv,fun s hs=>(by cases hs),fun s hs=>by simp at hs;subst hs;exact (jv.1 he).2.2,.inl ⟨rfl,oM,fun _=>hv⟩⟩
def InvS(S:List (List Sg))(last:Int):Prop:=(S=[]/\last=5)∨∃cl g,S=cl++[g]/\Grp g last/\∀h∈cl,∃k,Grp h k
theorem zq8{S:List (List Sg)}{last:Int}{x:Sg}(h:InvS S last)(he:qU last x=0):InvS (zbS S x) x.v:=by
 unfold zbS
 by_cases hv:x.v=1
 ·rw [if_pos hv]
  rcases h with ⟨rfl,rfl⟩ | ⟨cl,g,rfl,h1,h2⟩
  ·exact .inr ⟨[],[x],rfl,zia he hv,fun h hh=>by cases hh⟩
  ·refine .inr ⟨cl++[g],[x],rfl,zia he hv,fun h hh=>?_⟩
   rcases List.mem_append.1 hh with hh | hh
   ·exact h2 h hh
   ·simp at hh;subst hh;exact ⟨_,h1⟩
 ·rw [if_neg hv]
  rcases h with ⟨rfl,rfl⟩ | ⟨cl,g,rfl,h1,h2⟩
  ·exact absurd ((jv.1 he).2.1.resolve_left hv).1 (fun h=>h rfl)
  ·exact .inr ⟨cl,g++[x],by simp,zq7 h1 he hv,h2⟩
theorem zn5:∀(r:List Sg) {S:List (List Sg)} {last:Int},InvS S last->oks last r->∃k,InvS (r.foldl zbS S) k
 | [],_,last,h,_=>⟨last,h⟩
 | _::r,_,_,h,ho=>zn5 r (zq8 h ho.1) ho.2
theorem zk9{l:List Sg}(h:qK l):∀g∈subs l,∃k,Grp g k:=by
 obtain ⟨k,hk⟩:=zn5 l (S:=[]) (last:=5) (.inl ⟨rfl,rfl⟩) (yh.1 h).2;intro g hg;have hg:g∈l.foldl zbS []:=hg
 rcases hk with ⟨e,_⟩ | ⟨cl,g',e,h1,h2⟩
 ·rw [e] at hg;cases hg
 ·rw [e] at hg
  rcases List.mem_append.1 hg with hg | hg
  ·exact h2 g hg
  ·simp at hg;subst hg;exact ⟨_,h1⟩
theorem zla(S:List (List Sg))(x:Sg):(zbS S x).flatten=S.flatten++[x]:=by
 unfold zbS
 by_cases hv:x.v=1
 ·rw [if_pos hv];simp
 ·rw [if_neg hv]
  rcases List.eq_nil_or_concat S with rfl | ⟨cl,g,rfl⟩
  ·rfl
  ·simp
theorem zib:∀(r:List Sg) (S:List (List Sg)),(r.foldl zbS S).flatten=S.flatten++r
 | [],S=>by simp
 | x::r,S=>by rw [List.foldl_cons,zib r,zla];simp
theorem zic(l:List Sg):(subs l).flatten=l:=by
 unfold subs;rw [zib];rfl
theorem ze0{l:List Sg}(h:qK l):∀x,l[0]? =some x->x.v=1:=fun x hx=>by
 have ho:=(yh.1 h).2
 cases l with
 | nil=>cases hx
 | cons a r=>
  cases hx
  exact (jv.1 ho.1).2.1.resolve_right (fun h=>h.1 rfl)
theorem zn6:∀(q:List Pt) (p:Pt),((q.foldl mnP p).x<=p.x/\(q.foldl mnP p).y<=p.y)/\(∀r∈q,(q.foldl mnP p).x<=r.x/\(q.foldl mnP p).y<=r.y)/\
  ((q.foldl mnP p).x=p.x∨∃r∈q,(q.foldl mnP p).x=r.x)/\((q.foldl mnP p).y=p.y∨∃r∈q,(q.foldl mnP p).y=r.y)
 | [],p=>⟨⟨Int.le_refl _,Int.le_refl _⟩,fun r hr=>(by cases hr),.inl rfl,.inl rfl⟩
 | a::q,p=>by
  obtain ⟨h1,h2,h3,h4⟩:=zn6 q (mnP p a);rw [List.foldl_cons];have e1:(mnP p a).x=min p.x a.x:=rfl;have e2:(mnP p a).y=min p.y a.y:=rfl;refine ⟨⟨oM,oM⟩,fun r hr=>?_,?_,?_⟩
  ·rcases List.mem_cons.1 hr with rfl | hr
   ·exact ⟨oM,oM⟩
   ·exact h2 r hr
  ·rcases h3 with h3 | ⟨r,hr,h3⟩
   ·rcases Int.le_total p.x a.x with h | h
    ·exact .inl oM
    ·exact .inr ⟨a,.head _,oM⟩
   ·exact .inr ⟨r,.tail _ hr,h3⟩
  ·rcases h4 with h4 | ⟨r,hr,h4⟩
   ·rcases Int.le_total p.y a.y with h | h
    ·exact .inl oM
    ·exact .inr ⟨a,.head _,oM⟩
   ·exact .inr ⟨r,.tail _ hr,h4⟩
theorem zn7:∀(q:List Pt) (p:Pt),(p.x<=(q.foldl mxP p).x/\p.y<=(q.foldl mxP p).y)/\(∀r∈q,r.x<=(q.foldl mxP p).x/\r.y<=(q.foldl mxP p).y)/\
  ((q.foldl mxP p).x=p.x∨∃r∈q,(q.foldl mxP p).x=r.x)/\((q.foldl mxP p).y=p.y∨∃r∈q,(q.foldl mxP p).y=r.y)
 | [],p=>⟨⟨Int.le_refl _,Int.le_refl _⟩,fun r hr=>(by cases hr),.inl rfl,.inl rfl⟩
 | a::q,p=>by
  obtain ⟨h1,h2,h3,h4⟩:=zn7 q (mxP p a);rw [List.foldl_cons];have e1:(mxP p a).x=max p.x a.x:=rfl;have e2:(mxP p a).y=max p.y a.y:=rfl;refine ⟨⟨oM,oM⟩,fun r hr=>?_,?_,?_⟩
  ·rcases List.mem_cons.1 hr with rfl | hr
   ·exact ⟨oM,oM⟩
   ·exact h2 r hr
  ·rcases h3 with h3 | ⟨r,hr,h3⟩
   ·rcases Int.le_total p.x a.x with h | h
    ·exact .inr ⟨a,.head _,oM⟩
    ·exact .inl oM
   ·exact .inr ⟨r,.tail _ hr,h3⟩
  ·rcases h4 with h4 | ⟨r,hr,h4⟩
   ·rcases Int.le_total p.y a.y with h | h
    ·exact .inr ⟨a,.head _,oM⟩
    ·exact .inl oM
   ·exact .inr ⟨r,.tail _ hr,h4⟩
theorem zjB{p q:Pt}(h1:p.x=q.x)(h2:p.y=q.y):p=q:=by cases p;cases q;simp_all
def inR(n:Int):Prop:= -4096<=n/\n<=4096
instance (n:Int):Decidable (inR n):=inferInstanceAs (Decidable (_/\_))
def rok(a b c d:Int):Prop:=inR a/\inR b/\inR c/\inR d/\a < c/\b < d
instance (a b c d:Int):Decidable (rok a b c d):=inferInstanceAs (Decidable (_/\_))
def zbi(a b c d:Int):List Sg:=if rok a b c d then [⟨1,⟨a*256,b*256⟩,zp,zp⟩,⟨2,⟨c*256,b*256⟩,zp,zp⟩,⟨2,⟨c*256,d*256⟩,zp,zp⟩,⟨2,⟨a*256,d*256⟩,zp,zp⟩,zq6] else []
def reE(a b c d:Int):List SV:=[i64 a,i64 b,i64 c,i64 d]
def zdT(n:Int):List SV:=[i64 n]
theorem zjC(n:Int):zd Tryz.prog 190 [i64 n] [] (pr (inR n)) []:=by
 refine zc tok mix Tryz.func190 rfl rfl rfl ?_;refine Br.mk (fun h=>kZ ⟨fun k=>⟨h,k⟩,fun k=>k.2⟩) (fun h=>ze fun k=>h k.1)
theorem zpk(a b c d:Int):zd Tryz.prog 126 [.agg (reE a b c d)] [] (pr (inR a/\inR b/\inR c/\inR d)) []:=by
 refine zc tok mix Tryz.func126 rfl rfl rfl ?_;refine zb.t (zjC a) ?_;refine Br.mk (fun h1=>?_) (fun h1=>ze fun k=>h1 k.1);refine zb.t (zjC b) ?_;refine Br.mk (fun h2=>?_) (fun h2=>ze fun k=>h2 k.2.1);refine zb.t (zjC c) ?_;refine Br.mk (fun h3=>?_) (fun h3=>ze fun k=>h3 k.2.2.1);refine zb.t (zjC d) ?_;exact kZ ⟨fun h4=>⟨h1,h2,h3,h4⟩,fun k=>k.2.2.2⟩
theorem zq9(a b c d:Int):zd Tryz.prog 71 [.agg (reE a b c d)] [] (pr (¬rok a b c d)) []:=by
 refine zc tok mix Tryz.func71 rfl rfl rfl ?_;refine zb.t (zpk a b c d) ?_;refine Br.mk (fun h=>kC fun k=>h ⟨k.1,k.2.1,k.2.2.1,k.2.2.2.1⟩) (fun h=>?_);obtain ⟨h0,h1,h4,h5⟩:=Decidable.not_not.1 h;refine Br.mk (fun h6=>kC fun h=>by have:=h.2.2.2.2.1;omega) (fun h6=>?_);refine kZ ⟨fun h7 h=>by have:=h.2.2.2.2.2;omega,fun h=>?_⟩
 by_cases h8:d<=b
 ·exact h8
 ·exact absurd ⟨h0,h1,h4,h5,oM,oM⟩ h
theorem zlb(a b c d:Int):zd Tryz.prog 35 [.agg (reE a b c d)] [] (.sl sgE (zbi a b c d)) []:=by
 refine zc tok mix Tryz.func35 rfl rfl rfl ?_;have fin:∀{L:List Sg} {s:SV},zbi a b c d=L->LE s (.sl sgE L)->LE s (.sl sgE (zbi a b c d)):=fun e h=>e ▸ h
 refine zb.t (zq9 a b c d) ?_;refine Br.mk (fun h=>?_) (fun h=>?_)
 ·refine ⟨Sg,sgE,[],rfl,Ob.o2 ?_⟩;exact fin (if_neg h) .refl
 have h:=Decidable.not_not.1 h;have hL:=show zbi a b c d=_ from if_pos h;obtain ⟨h1,h2,h3,h4,_⟩:=h;unfold inR at h1 h2 h3 h4;refine Dr.d ?_;(iterate 4 refine Ar.o ?_);refine Ob.mk (by kernel_rfl) ?_;refine ⟨Sg,sgE,[⟨1,⟨a*256,b*256⟩,zp,zp⟩,⟨2,⟨c*256,b*256⟩,zp,zp⟩,⟨2,⟨c*256,d*256⟩,zp,zp⟩,⟨2,⟨a*256,d*256⟩,zp,zp⟩,zq6],(by kernel_rfl),Ob.o0 ?_⟩;exact fin hL (qb rfl)
end Go.Gs
