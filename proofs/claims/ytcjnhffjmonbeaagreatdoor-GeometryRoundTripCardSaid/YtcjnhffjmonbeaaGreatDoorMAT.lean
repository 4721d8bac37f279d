/- Integers, the other text: what rounded division needs. -/
import Derived.Test.YtcjnhffjmonbeaaGreatDoorMA
import Derived.Test.YtcjnhffjmonbeaaGreatDoorMAS
import Derived.Lib.Mul64
import Derived.Test.YtcjnhffjmonbeaaGreatDoorMAR
set_option maxRecDepth 100000
set_option maxHeartbeats 8000000
set_option linter.all false
namespace Go.Gs
open Go.Proofs
def biE(a:BI):List SV:=[pr (a.neg=true),.sl dgE a.mag]
theorem uz(p:Prop)[i:Decidable p](m:List Dig)(hm:m.length<=1000000000):
  ze Tryz.prog 103 [.pr p i,.sl dgE m] [] (.agg (biE (ofZ (if p then -(val m:Int) else val m)))) []:=by
 refine zd tok mix Tryz.func103 rfl rfl rfl ?_;refine zb.t (jE m hm) ?_;refine Br.mk (fun h=>?_) (fun h=>?_)
 ·intro hl;refine zuI (.cons (zu ?_) (.cons (yb ?_) .nil))
  ·rw [if_pos h,uU];have:=k6 (n:=val m);omega
  ·rw [if_pos h,zbj];congr 1;omega
 ·refine zuI (.cons (zc ?_) (.cons (yb ?_) .nil))
  ·rw [if_neg h,uU];omega
  ·rw [if_neg h,zbj];congr 1
theorem zqC(a:BI)(hm:a.mag.length<=1000000000):
  ze Tryz.prog 103 [pr (a.neg=true),.sl dgE a.mag] [] (.agg (biE (ofZ a.v))) []:=uz (a.neg=true) a.mag hm
theorem dTwo(c d:Dig):[c,d].length=2/\2<=281474976710656/\2*1<=16777216/\0 < 1/\∀x∈[c,d],(dgE x).length=1/\qp (dgE x)=true/\qz.flats (dgE x)=true:=
 ⟨rfl,dC,dC,dC,fun _ _=>⟨rfl,rfl,rfl⟩⟩
theorem zhF(m:Nat)(h:m < 18446744073709551616):val [dof m,dof (m / 4294967296)]=m:=by
 simp only [val,zT];omega
theorem zbX(n:Int)(hn:R64 n):ze Tryz.prog 54 [i64 n] [] (.agg (biE (ofZ n))) []:=by
 refine zd tok mix Tryz.func54 rfl rfl rfl ?_;refine Ar.wrap ?_;refine Br.mk (fun h=>?_) (fun h=>?_)
 ·refine Ar.wrap ?_;have e:IntKind.u64.wrap (0 - IntKind.u64.wrap n)=((n.natAbs:Nat):Int):=by rw [qP,qP];omega
  refine Ar.wrap ?_;refine Ob.o1 ?_;refine Ar.wrap ?_;refine ⟨Dig,dgE,[dof n.natAbs,dof (n.natAbs / 4294967296)],congr (congrArg (fun n m=>[u32 n,u32 m]) (uy e)) (uy (by rw [e];simp only [Int.reducePow];omega)),Ob.mk (dTwo _ _) ?_⟩;refine zb.see 1 _ (uz (n < 0) [dof n.natAbs,dof (n.natAbs / 4294967296)] (by simp)) rfl rfl rfl ?_;rw [if_pos h,zhF _ oM,show (-(n.natAbs:Int))=n by omega];exact .refl
 ·have e:IntKind.u64.wrap n=((n.natAbs:Nat):Int):=by rw [qP];omega
  refine Ar.wrap ?_;refine Ob.o1 ?_;refine Ar.wrap ?_;refine ⟨Dig,dgE,[dof n.natAbs,dof (n.natAbs / 4294967296)],congr (congrArg (fun n m=>[u32 n,u32 m]) (uy e)) (uy (by rw [e];simp only [Int.reducePow];omega)),Ob.mk (dTwo _ _) ?_⟩;refine zb.see 1 _ (uz (n < 0) [dof n.natAbs,dof (n.natAbs / 4294967296)] (by simp)) rfl rfl rfl ?_;rw [if_neg h,zhF _ oM,show (n.natAbs:Int)=n by omega];exact .refl
theorem zcw(a:BI)(ha:a.mag.length<=1000000000):ze Tryz.prog 101 [.agg (biE a)] [] (i64 a.v.sign) []:=by
 refine zd tok mix Tryz.func101 rfl rfl rfl ?_;refine zb.t (zqC a ha) ?_;intro hl;have h1:=k6 (n:=a.v.natAbs);refine Br.mk (fun h=>?_) (fun h=>?_)
 ·have:a.v=0:=by rw [zbj] at h;omega
  exact zm (by rw [this];rfl)
 have h0:a.v≠0:=by rw [zbj] at h;omega
 refine Br.mk (fun h2=>?_) (fun h2=>?_)
 ·rw [uU] at h2;exact zm (Int.sign_eq_neg_one_of_neg h2).symm
 ·rw [uU] at h2;exact zm (Int.sign_eq_one_of_pos oM).symm
theorem zrR(a b:BI):(if ¬(a.neg=true↔b.neg=true) then -((val a.mag*val b.mag:Nat):Int) else ((val a.mag*val b.mag:Nat):Int))=a.v*b.v:=by
 rcases a.v_eq with ⟨h1,h2⟩ | ⟨h1,h2⟩ <;> rcases b.v_eq with ⟨h3,h4⟩ | ⟨h3,h4⟩ <;> simp [h1,h2,h3,h4,Int.neg_mul,Int.mul_neg]
theorem zbY(a b:BI)(ha:a.mag.length<=400000000)(hb:b.mag.length<=400000000):ze Tryz.prog 53 [.agg (biE a),.agg (biE b)] [] (.agg (biE (ofZ (a.v*b.v)))) []:=by
 refine zd tok mix Tryz.func53 rfl rfl rfl ?_;refine Dr.k ?_;refine zb.t (zqA a.mag b.mag ha hb) ?_
 have hl:(zj (val a.mag*val b.mag)).length<=1000000000:=by
  refine Nat.le_trans (qF (k:=a.mag.length+b.mag.length) ?_) oM;rw [Nat.pow_add];exact Nat.mul_lt_mul_of_lt_of_lt (kQ _) (kQ _)
 refine zb.t (uz (¬(a.neg=true↔b.neg=true)) _ hl) ?_;rw [zk,zrR];exact .refl
theorem ze5{a b:List Dig}{k:Nat}(ha:a.length<=k)(hb:b.length<=k):(zj (val a+val b)).length<=k+1:=by
 refine qF ?_;have h1:=Nat.lt_of_lt_of_le (kQ a) (Nat.pow_le_pow_right (show 0 < 4294967296 by decide) ha);have h2:=Nat.lt_of_lt_of_le (kQ b) (Nat.pow_le_pow_right (show 0 < 4294967296 by decide) hb);rw [Nat.pow_succ];omega
theorem zon{x y:Nat}(hx:x < 18446744073709551616)(hy:y < 18446744073709551616):uL .or .u64 x y=((x|||y:Nat):Int):=by
 show IntKind.u64.wrap ((BitVec.ofInt 64 x|||BitVec.ofInt 64 y).toNat:Nat)=_;have h:x|||y < 2 ^ 64:=Nat.or_lt_two_pow hx hy
 have e:(BitVec.ofInt 64 x|||BitVec.ofInt 64 y).toNat=x|||y:=by
  rw [BitVec.toNat_or,BitVec.toNat_ofInt,BitVec.toNat_ofInt];congr 1
  ·omega
  ·omega
 rw [e,qP];omega
def vm(z:Int):Int:=if -9223372036854775808<=z/\z<=9223372036854775807 then z else 0
theorem ztU(a:BI)(ha:a.mag.length<=1000000000):
  ze Tryz.prog 86 [.agg (biE a)] [] (.tup [i64 (vm a.v),pr (-9223372036854775808<=a.v/\a.v<=9223372036854775807)]) []:=by
 refine zd tok mix Tryz.func86 rfl rfl rfl ?_;refine zb.t (zqC a ha) ?_;generalize a.v=z
 have bad:¬(-9223372036854775808<=z/\z<=9223372036854775807)->LE (.tup [i64 0,bl false]) (.tup [i64 (vm z),pr (-9223372036854775808<=z/\z<=9223372036854775807)]):=fun h=>
  zS (zm (by rw [vm,if_neg h])) (zc h)
 refine ⟨Nat,fun i=>⟨[(6,i64 i),(5,u64 (val ((zj z.natAbs).take i))),(4,.loc 1 0)],[(1,.box 31 (biE (ofZ z))),(0,.box 31 (biE a))],2,51,0⟩,
  fun i=>i<=2/\i<=(zj z.natAbs).length,fun i=>2 - i,0,?_,?_,?_⟩
 ·exact ⟨oM,Nat.zero_le _⟩
 ·exact zi [(0,some 0),(1,some 1)]
 rintro i ⟨h1,h2⟩
 intro hl;refine Br.mk (fun h3=>?_) (fun h3=>?_)
 ·have h3:i < (zj z.natAbs).length:=by rw [zbj] at h3;omega
  refine Br.mk (fun h4=>?_) (fun h4=>?_)
  ·refine bad fun h5=>?_
   have:=qF (n:=z.natAbs) (k:=2) (by rw [show 4294967296 ^ 2=18446744073709551616 by decide];omega);omega
  ·refine Ob.mk (by rw [zbj];omega) ?_;intro x hx;have hx:(zj z.natAbs)[i]? =some x:=hx;have dx:=zD hx;have hxl:=x.isLt;have ht:=qa (zj z.natAbs) i;have hts:=zC (zj z.natAbs) i;rw [dx] at hts
   have key:∀n:Int,n=32*i->0<=n/\n < 64/\0<=(x.val:Int)*2 ^ n.toNat/\(x.val:Int)*2 ^ n.toNat<=18446744073709551615/\
     uL .or .u64 (val ((zj z.natAbs).take i)) ((x.val:Int)*2 ^ n.toNat)=val ((zj z.natAbs).take (i+1)):=fun n hn=>by
    have:i=0∨i=1:=oM
    rcases this with rfl | rfl
    ·have:n=0:=by omega
     subst this;rw [hts];have e:=zon (x:=0) (y:=x.val) oM oM;have p:(x.val:Int)*2 ^ (0:Int).toNat=(x.val:Int):=by simp
     rw [p,ztN];refine ⟨oM,oM,oM,oM,?_⟩;rw [e];simp
    ·have:n=32:=by omega
     subst this;rw [hts];have e:=zon (x:=val ((zj z.natAbs).take 1)) (y:=4294967296*x.val) oM oM;have e2:=Nat.two_pow_add_eq_or_of_lt (i:=32) (b:=val ((zj z.natAbs).take 1)) (by rw [show 2 ^ 32=4294967296 by decide];omega) x.val;rw [show 2 ^ 32=4294967296 by decide] at e2
     have e3:(x.val:Int)*2 ^ (32:Int).toNat=((4294967296*x.val:Nat):Int):=by
      rw [show (32:Int).toNat=32 by decide];simp only [Int.reducePow];omega
     rw [e3];refine ⟨oM,oM,oM,oM,?_⟩;rw [e,Nat.or_comm,← e2];omega
   obtain ⟨k1,k2,k3,k4,k5⟩:=key (32*i) rfl;(iterate 3 refine Ar.o ?_);refine Ob.mk ⟨k1,k2⟩ ?_;refine Ar.fit ⟨k3,k4⟩ ?_;refine ⟨_,k5.symm,?_⟩;refine Ar.o ?_;exact ⟨i+1,⟨oM,oM⟩,zi [(0,some 0),(1,some 1)],by dsimp only;omega⟩
 ·have h4:(zj z.natAbs).length=i:=by rw [zbj] at h3;omega
  have e:val ((zj z.natAbs).take i)=z.natAbs:=by rw [ki oM,zk]
  have hz:z.natAbs < 18446744073709551616:=by
   have:=qa (zj z.natAbs) i;rw [e] at this;refine Nat.lt_of_lt_of_le this (Nat.le_trans (Nat.pow_le_pow_right dC h1) dC)
  have good:∀n:Int,n=z-> -9223372036854775808<=z/\z<=9223372036854775807->LE (.tup [i64 n,bl true]) (.tup [i64 (vm z),pr (-9223372036854775808<=z/\z<=9223372036854775807)]):=fun n hn h=>
   zS (zm (by rw [vm,if_pos h,hn])) (zH h)
  have hn:=uU z;refine Br.mk (fun g1=>?_) (fun g1=>?_)
  ·rw [hn] at g1;refine Br.mk (fun g2=>?_) (fun g2=>?_)
   ·refine Ar.wrap ?_;refine Ar.wrap ?_;refine good _ ?_ oM;rw [e,qP];show IntKind.i64.wrap _=_;simp only [IntKind.wrap,IntKind.bits,IntKind.signed];simp;omega
   ·refine Br.mk (fun g3=>absurd (hn.2 g1) g3) (fun _=>bad oM)
  ·refine Br.mk (fun g3=>?_) (fun g3=>absurd (fun h=>g1 h) g3);rw [hn] at g1;refine Br.mk (fun g2=>?_) (fun g2=>bad oM);refine Ar.o ?_;exact good _ oM oM
theorem ze6(n:Int)(hn:R64 n):ze Tryz.prog 202 [i64 n] [] (u64 (n.natAbs:Nat)) []:=by
 refine zd tok mix Tryz.func202 rfl rfl rfl ?_;refine Br.mk (fun h=>?_) (fun h=>?_)
 ·refine Ar.wrap ?_;refine Ar.wrap ?_;exact zm (by rw [qP,qP];omega)
 ·refine Ar.o ?_;exact zm oM
theorem zly(x:Nat):uL .and .u64 x 4294967295=((x % 4294967296:Nat):Int):=by
 have e:(BitVec.ofInt 64 x&&&BitVec.ofInt 64 4294967295).toNat=x % 4294967296:=by
  rw [BitVec.toNat_and];have h1:(BitVec.ofInt 64 4294967295).toNat=2 ^ 32 - 1:=dC;rw [h1,Nat.and_two_pow_sub_one_eq_mod,BitVec.toNat_ofInt];rw [show (2:Nat) ^ 32=4294967296 by decide];omega
 show IntKind.u64.wrap ((BitVec.ofInt 64 x&&&BitVec.ofInt 64 4294967295).toNat:Nat)=_;rw [e,qP];omega
theorem zqD(x y:Nat)(hx:x < 18446744073709551616)(hy:y < 18446744073709551616):
  ze Tryz.prog 201 [u64 x,u64 y] [] (.tup [u64 (x*y / 18446744073709551616:Nat),u64 (x*y % 18446744073709551616:Nat)]) []:=by
 refine zd tok mix Tryz.func201 rfl rfl rfl ?_;obtain ⟨k1,k2,k3,k4⟩:=Go.Lib.mul64_hi x y hx hy;have k0:(x / 4294967296)*(y % 4294967296)<=(x / 4294967296)*(y % 4294967296)+(x % 4294967296)*(y % 4294967296) / 4294967296:=Nat.le_add_right _ _
 have k5:x*y / 18446744073709551616 < 18446744073709551616:=by
  rw [Nat.div_lt_iff_lt_mul dC];exact Nat.mul_lt_mul_of_lt_of_lt hx hy
 refine ⟨_,(zly x).symm,?_⟩;refine Ob.o1 ?_;refine ⟨_,(zly y).symm,?_⟩;refine Ob.o1 ?_;have ex:(x:Int) / 2 ^ 32=((x / 4294967296:Nat):Int):=by simp
 have ey:(y:Int) / 2 ^ 32=((y / 4294967296:Nat):Int):=by simp
 have hc:=Go.Lib.half_mul_le (a:=x % 4294967296) (b:=y / 4294967296) oM oM;have ha:=Go.Lib.half_mul_le (a:=x / 4294967296) (b:=y / 4294967296) oM oM;rw [ex,ey];generalize hx1:x / 4294967296=x1 at*;generalize hx0:x % 4294967296=x0 at*;generalize hy1:y / 4294967296=y1 at*;generalize hy0:y % 4294967296=y0 at*;(iterate 2 refine Ar.o ?_);refine Ob.o1 ?_;have e1:((x0:Int)*(y0:Int)) / 2 ^ 32=((x0*y0 / 4294967296:Nat):Int):=by simp
 rw [e1];generalize x0*y0 / 4294967296=w0 at*;refine Ar.o ?_;have e2:(x1:Int)*(y0:Int)+(w0:Int)=((x1*y0+w0:Nat):Int):=by simp
 rw [e2];generalize x1*y0+w0=t at*;refine ⟨_,(zly t).symm,?_⟩;refine Ob.o1 ?_;have e3:(t:Int) / 2 ^ 32=((t / 4294967296:Nat):Int):=by simp
 rw [e3];(iterate 4 refine Ar.o ?_);refine Ob.o1 ?_;have e4:(((t % 4294967296:Nat):Int)+(x0:Int)*(y1:Int)) / 2 ^ 32=(((t % 4294967296+x0*y1) / 4294967296:Nat):Int):=by simp
 rw [e4];refine Ar.o ?_;refine Ar.wrap ?_;refine zS (zm ?_) (zm ?_)
 ·rw [← k4];simp
 ·rw [qP];simp
theorem zqE(lo y:Nat)(hlo:lo < 18446744073709551616)(hy:y < 18446744073709551616)(h0:y≠0):
  ze Tryz.prog 248 [u64 (0:Nat),u64 lo,u64 y] [] (.tup [u64 (lo / y:Nat),u64 (lo % y:Nat)]) []:=by
 refine zd tok mix Tryz.func248 rfl rfl rfl ?_;refine Br.mk (fun h=>absurd h oM) (fun _=>?_);refine Br.mk (fun h=>absurd h oM) (fun _=>?_);refine Br.mk (fun _=>?_) (fun h=>absurd rfl h);refine Dr.k ?_;refine Dv.pos ⟨oM,oM,by show _<=(18446744073709551615:Int);omega⟩ ?_;refine Dv.pos ⟨oM,oM⟩ ?_;exact zS (zm (by simp)) (zm (by simp))
def rup(lo by_:Nat):Nat:=(2*lo+by_) / (2*by_)
theorem zoo{lo y:Nat}(h0:y≠0):rup lo y=if y<=2*(lo % y) then lo / y+1 else lo / y:=by
 unfold rup;have e:=Nat.div_add_mod lo y;have hl:=Nat.mod_lt lo (Nat.pos_of_ne_zero h0);generalize lo / y=q at*;generalize lo % y=r at*;subst e;have p:2*(y*q+r)+y=2*y*q+(2*r+y):=by rw [Nat.mul_add,Nat.mul_assoc];omega
 rw [p,Nat.mul_add_div oM]
 split
 ·have:(2*r+y) / (2*y)=1:=by
   rw [Nat.div_eq_iff oM];omega
  omega
 ·have:(2*r+y) / (2*y)=0:=Nat.div_eq_of_lt oM;omega
theorem zsw(lo y:Nat)(hlo:lo<=9223372036854775808)(hy:y < 18446744073709551616)(h0:y≠0):
  ze Tryz.prog 204 [.agg [u64 (0:Nat),u64 lo,u64 y]] [] (.tup [u64 (rup lo y:Nat),bl true]) []:=by
 refine zd tok mix Tryz.func204 rfl rfl rfl ?_;refine Br.mk (fun h=>absurd h oM) (fun _=>?_);refine zb.t (zqE lo y oM hy h0) ?_;have hq:=Nat.div_le_self lo y;have hr:=Nat.mod_lt lo (Nat.pos_of_ne_zero h0);have he:=zoo (lo:=lo) h0;generalize rup lo y=u at*;generalize lo / y=q at*;generalize lo % y=r at*;refine Ar.o ?_;refine Br.mk (fun h=>?_) (fun h=>?_)
 ·rw [if_pos oM] at he;refine Ar.o ?_;exact zS (zm oM) (zsq oM)
 ·rw [if_neg oM] at he;exact zS (zm oM) .refl
theorem zop(p:Prop)[i:Decidable p](lo y:Nat)(hlo:lo<=9223372036854775808)(hy:y < 18446744073709551616)(h0:y≠0):
  ze Tryz.prog 203 [.pr p i,.val (.func (.func 204) #[.agg #[.int .u64 (0:Nat),.int .u64 (lo:Nat),.int .u64 (y:Nat)]] #[])] []
   (.tup [i64 (vm (if p then -(rup lo y:Int) else rup lo y)),pr (-9223372036854775808<=(if p then -(rup lo y:Int) else rup lo y)/\(if p then -(rup lo y:Int) else rup lo y)<=9223372036854775807)]) []:=by
 refine zd tok mix Tryz.func203 rfl rfl rfl ?_;refine zb.t (zsw lo y hlo hy h0) ?_
 have hu:rup lo y < 18446744073709551616:=by
  rw [zoo h0];have:=Nat.div_le_self lo y
  split <;> omega
 generalize rup lo y=u at*
 have bad:∀z:Int,¬(-9223372036854775808<=z/\z<=9223372036854775807)->LE (.tup [i64 0,bl false]) (.tup [i64 (vm z),pr (-9223372036854775808<=z/\z<=9223372036854775807)]):=fun z h=>
  zS (zm (by rw [vm,if_neg h])) (zc h)
 have good:∀n z:Int,n=z-> -9223372036854775808<=z/\z<=9223372036854775807->LE (.tup [i64 n,bl true]) (.tup [i64 (vm z),pr (-9223372036854775808<=z/\z<=9223372036854775807)]):=fun n z hn h=>
  zS (zm (by rw [vm,if_pos h,hn])) (zH h)
 refine Br.mk (fun h=>bad _ (by split <;> omega)) (fun h=>?_)
 have tail:(u:Int)<=9223372036854775808->((u:Int)=9223372036854775808->p)->IntKind.i64.wrap (IntKind.u64.wrap (-(u:Int)))= -(u:Int)/\(¬p->(u:Int)<=9223372036854775807):=fun g1 g2=>by
  refine ⟨?_,fun hp=>?_⟩
  ·rw [qP];simp only [IntKind.wrap,IntKind.bits,IntKind.signed];simp;omega
  ·by_cases e:(u:Int)=9223372036854775808
   ·exact absurd (g2 e) hp
   ·omega
 refine Br.mk (fun h1=>?_) (fun h1=>?_)
 ·refine Br.mk (fun h2=>bad _ (by rw [if_neg h2];omega)) (fun h2=>?_);have hp:=Decidable.not_not.1 h2;obtain ⟨t1,t2⟩:=tail oM (fun _=>hp);refine Br.mk (fun _=>?_) (fun h3=>absurd hp h3);refine Ar.wrap ?_;refine Ar.wrap ?_;exact good _ _ (by rw [if_pos hp];exact t1) (by rw [if_pos hp];omega)
 ·obtain ⟨t1,t2⟩:=tail oM (fun h=>absurd h h1);refine Br.mk (fun h3=>?_) (fun h3=>?_)
  ·refine Ar.wrap ?_;refine Ar.wrap ?_;exact good _ _ (by rw [if_pos h3];exact t1) (by rw [if_pos h3];omega)
  ·have:=t2 h3;refine Ar.o ?_;exact good _ _ (by rw [if_neg h3]) (by rw [if_neg h3];omega)
theorem zoq(a c:Int):(if ¬(¬(a < 0↔(1:Int) < 0)↔c < 0) then -(rup a.natAbs c.natAbs:Int) else (rup a.natAbs c.natAbs:Int))=jg a c:=by
 unfold jg;show _=if a < 0↔c < 0 then ((rup a.natAbs c.natAbs:Nat):Int) else -((rup a.natAbs c.natAbs:Nat):Int)
 generalize (rup a.natAbs c.natAbs:Int)=u
 by_cases h1:a < 0 <;> by_cases h2:c < 0 <;> simp [h1,h2]
theorem zmJ(a c:Int)(ha:R64 a)(hc:R64 c):ze Tryz.prog 160 [i64 a,i64 1,i64 c] []
  (.tup [i64 (vm (jg a c)),pr (c≠0/\ -9223372036854775808<=jg a c/\jg a c<=9223372036854775807)]) []:=by
 refine zd tok mix Tryz.func160 rfl rfl rfl ?_;refine Br.mk (fun h=>?_) (fun h=>?_)
 ·refine zS (zm ?_) (zc fun h'=>h'.1 h);subst h;simp [jg,vm]
 refine zb.t (ze6 a ha) ?_;refine zb.t (ze6 1 dC) ?_;refine zb.t (zqD a.natAbs (1:Int).natAbs oM oM) ?_;rw [show (1:Int).natAbs=1 by rfl,Nat.mul_one,Nat.div_eq_of_lt (show a.natAbs < 18446744073709551616 by omega),Nat.mod_eq_of_lt (show a.natAbs < 18446744073709551616 by omega)];refine zb.t (ze6 c hc) ?_;refine zb.t (zop (¬(¬(a < 0↔(1:Int) < 0)↔c < 0)) a.natAbs c.natAbs oM oM oM) ?_;rw [zoq a c];exact zS .refl (zu ⟨fun g=>⟨h,g⟩,fun g=>g.2⟩)
theorem zky(a b:Int)(ha:R64 a)(hb:R64 b):ze Tryz.prog 111 [i64 a,i64 b] [] (i64 (vm (jg a b))) []:=by
 refine zd tok mix Tryz.func111 rfl rfl rfl ?_;refine zb.t (zmJ a b ha hb) ?_;exact .refl
theorem zhG(a:List Dig)(ha:a.length<=1000000000):ze Tryz.prog 187 [.sl dgE a] [] (.full dgE (zj (val a))) []:=by
 refine zd tok mix Tryz.func187 rfl rfl rfl ?_;intro hl0;refine ⟨Nat,fun n=>⟨[(3,i64 n),(0,.sl dgE a)],[],0,22,0⟩,fun n=>n<=a.length/\∀i,n<=i->dig a i=0,fun n=>n,a.length,?_,?_,?_⟩
 ·exact ⟨Nat.le_refl _,fun i h=>y7 h⟩
 ·exact zi []
 rintro n ⟨h1,h2⟩
 have post:(n=0∨dig a (n - 1)≠0)->((a.drop (0:Int).toNat).take ((n:Int) - 0).toNat)=zj (val a):=fun h3=>by
  rw [← ze1 h3 h1 h2];simp
 refine Br.mk (fun h3=>?_) (fun h3=>?_)
 ·refine Ar.o ?_;refine Ob.o ?_;intro x hx;rw [show ((n:Int) - 1).toNat=n - 1 by omega] at hx;have dx:=zD hx;refine Br.mk (fun h4=>?_) (fun h4=>?_)
  ·refine Ar.o ?_;refine ⟨n - 1,⟨oM,fun i hi=>?_⟩,kr [] ⟨congrArg (fun n=>some (i64 n)) oM,rfl,trivial⟩ trivial,by dsimp only;omega⟩
   by_cases e:i=n - 1
   ·subst e;rw [dx];omega
   ·exact h2 i oM
  ·refine znP.full (Ob.mk ⟨⟨oM,oM,rfl,oM⟩,fun _ _=>rfl⟩ ?_);exact zlu (post (.inr oM))
 ·refine znP.full (Ob.mk ⟨⟨oM,oM,rfl,oM⟩,fun _ _=>rfl⟩ ?_);exact zlu (post (.inl oM))
theorem kX(a:List Dig)(ha:a.length<=1000000000):ze Tryz.prog 187 [.sl dgE a] [] (.sl dgE (zj (val a))) []:=(zhG a ha).le (vM rfl)
theorem zlz(q:List Dig)(hq:q.length<=1000000000):ze Tryz.prog 186 [.sl dgE q] [] (.sl dgE q) []:=by
 refine zd tok mix Tryz.func186 rfl rfl rfl ?_
 by_cases h0:q=[]
 ·refine zmp.any (Br.mk ?_ ?_)
  ·subst h0;exact zI
  ·refine ⟨Dig,dgE,[],rfl,Ob.mk zbG ?_⟩;refine ⟨q,rfl,Ob.mk (zdg (by simp only [List.length_nil];omega)) ?_⟩;exact yb rfl
 ·refine zmp.some (fun h=>h0 (List.eq_nil_of_length_eq_zero h)) ?_;refine ⟨Dig,dgE,[],rfl,Ob.mk zbG ?_⟩;refine ⟨q,rfl,Ob.mk (zdg (by simp only [List.length_nil];omega)) ?_⟩;exact yb rfl
theorem yK(a:List Dig)(ha:a.length<=1000000000):ze Tryz.prog 135 [.sl dgE a] [] (.sl dgE (zj (val a))) []:=by
 refine zd tok mix Tryz.func135 rfl rfl rfl ?_;refine zb.t (kX a ha) ?_;refine zb.t (zlz _ (by have:=zw a;omega)) ?_;exact .refl
theorem zbl(n:Nat)(hn:n < 18446744073709551616):ze Tryz.prog 184 [u64 n] [] (.sl dgE (zj n)) []:=by
 refine zd tok mix Tryz.func184 rfl rfl rfl ?_;refine Ar.wrap ?_;refine Ob.o1 ?_;refine Ar.wrap ?_;refine ⟨Dig,dgE,[dof n,dof (n / 4294967296)],congr (congrArg (fun n m=>[u32 n,u32 m]) (uy rfl)) (uy (by simp only [Int.reducePow];omega)),Ob.mk (dTwo _ _) ?_⟩;refine zb.see 0 _ (yK [dof n,dof (n / 4294967296)] (by simp)) rfl rfl rfl ?_;rw [zhF _ hn];exact .refl
theorem zbm(a:List Dig)(i:Int)(hi:0<=i):ze Tryz.prog 244 [.sl dgE a,i64 i] [] (u64 (dig a i.toNat)) []:=by
 refine zd tok mix Tryz.func244 rfl rfl rfl ?_;intro hl;refine Br.mk (fun h=>?_) (fun h=>?_)
 ·refine Ob.o ?_;intro x hx;have:=x.isLt;refine Ar.o ?_;exact zm (by rw [zD hx])
 ·exact zm (by rw [y7 oM];rfl)
theorem ze7{A B:Nat}(h:(zj A).length < (zj B).length):A < B:=by
 have h1:=vO (n:=A) (Nat.le_refl _);have h2:=zhC (n:=B) (fun e=>by rw [e,kV] at h;simp at h);exact Nat.lt_of_lt_of_le h1 (Nat.le_trans (Nat.pow_le_pow_right dC oM) h2)
theorem zrS(a b:List Dig)(ha:a.length<=1000000000)(hb:b.length<=1000000000):
  ze Tryz.prog 238 [.sl dgE a,.sl dgE b] [] (i64 (zcs (val a) (val b))) []:=by
 refine zd tok mix Tryz.func238 rfl rfl rfl ?_;refine zb.t (kX a ha) ?_;refine zb.t (kX b hb) ?_;have la:=zw a;have lb:=zw b;generalize val a=A at*;generalize val b=B at*;intro hl1 hl2;refine Br.mk (fun h3=>?_) (fun h3=>?_)
 ·intro hl4 hl5;refine Br.mk (fun h6=>?_) (fun h6=>?_)
  ·have:=ze7 (A:=A) (B:=B) oM;exact zm (by rw [zcs,if_pos this])
  ·have:=ze7 (A:=B) (B:=A) oM;exact zm (by rw [zcs,if_neg oM,if_pos this])
 have h3:(zj A).length=(zj B).length:=oM;intro hl7;refine Ar.o ?_;refine ⟨Nat,fun j=>⟨[(5,i64 ((j:Int) - 1)),(0,.sl dgE (zj A)),(1,.sl dgE (zj B))],[],0,45,0⟩,fun j=>j<=(zj A).length/\∀i,j<=i->dig (zj A) i=dig (zj B) i,fun j=>j,(zj A).length,?_,?_,?_⟩
 ·exact ⟨oM,fun i hi=>by rw [y7 oM,y7 oM]⟩
 ·exact zi []
 rintro j ⟨h1,h2⟩
 refine Br.mk (fun h8=>?_) (fun h8=>?_)
 ·have h2':∀i,j - 1+1<=i->dig (zj A) i=dig (zj B) i:=fun i hi=>h2 i oM
  refine Dr.k ?_;refine Ob.o ?_;intro x hx;rw [show ((j:Int) - 1).toNat=j - 1 by omega] at hx;have dx:=zD hx;refine Ob.o ?_;intro y hy;rw [show ((j:Int) - 1).toNat=j - 1 by omega] at hy;have dy:=zD hy;refine Br.mk (fun h4=>?_) (fun h4=>?_)
  ·have:=zct h2' oM;rw [zk,zk] at this;exact zm (by rw [zcs,if_pos this])
  refine Dr.k ?_;refine Ob.o ?_;intro x' hx';rw [show ((j:Int) - 1).toNat=j - 1 by omega,hx] at hx'
  cases hx'
  refine Ob.o ?_;intro y' hy';rw [show ((j:Int) - 1).toNat=j - 1 by omega,hy] at hy'
  cases hy'
  refine Br.mk (fun h5=>?_) (fun h5=>?_)
  ·have:=zct (fun i hi=>(h2' i hi).symm) oM;rw [zk,zk] at this;exact zm (by rw [zcs,if_neg oM,if_pos this])
  refine Ar.o ?_;refine ⟨j - 1,⟨oM,fun i hi=>?_⟩,kr [] ⟨congrArg (fun n=>some (i64 n)) oM,rfl,rfl,trivial⟩ trivial,by dsimp only;omega⟩
  by_cases hij:i=j - 1
  ·subst hij;omega
  ·exact h2 i oM
 ·have hj:j=0:=by omega
  subst hj;have:=zgB fun i=>h2 i (Nat.zero_le _)
  rw [zk,zk] at this;exact zm (by rw [zcs,if_neg oM,if_neg oM])
theorem zrT(a b:List Dig)(ha:a.length<=900000000)(hb:b.length<=900000000):
  ze Tryz.prog 189 [.sl dgE a,.sl dgE b] [] (.sl dgE (zj (val a+val b))) []:=by
 refine zd tok mix Tryz.func189 rfl rfl rfl ?_;intro hl1 hl2;refine Ar.fit (by simp only [zb9];omega) ?_;have en:zb9 (a.length:Int) [(b.length:Int)]+1=((max a.length b.length+1:Nat):Int):=by simp only [zb9];omega
 change ∃_,_;rw [en];generalize hn:max a.length b.length+1=n at*;refine ⟨Dig,dgE,0,rfl,Ob.o3 ?_⟩;intro hl3
 refine ⟨Nat×List Dig×Nat,fun ⟨i,out,c⟩=>⟨[(17,i64 i),(16,i64 n),(6,u64 c),(5,.own 0),(0,.sl dgE a),(1,.sl dgE b)],[(0,kB out)],1,39,0⟩,
  fun q=>q.1<=n/\q.2.1.length=n/\q.2.2<=1/\(∀j,q.1<=j->dig q.2.1 j=0)/\val q.2.1+4294967296 ^ q.1*q.2.2=val (a.take q.1)+val (b.take q.1),fun q=>n - q.1,(0,List.replicate n 0,0),?_,?_,?_⟩
 ·exact ⟨Nat.zero_le _,by simp,Nat.zero_le _,fun j _=>q9 _ _,by simp [ud,val]⟩
 ·exact kr [(0,some 0)] ⟨rfl,congrArg (fun n=>some (i64 n)) (by simp),rfl,rfl,rfl,rfl,trivial⟩ ⟨rfl,trivial⟩
 rintro ⟨i,out,c⟩ ⟨h1,h2,h3,h4,h5⟩
 dsimp only at h1 h2 h3 h4 h5;refine Br.mk (fun h6=>?_) (fun h6=>?_)
 ·have d1:=ja a i;have d2:=ja b i;refine zb.t (zbm a _ oM) ?_;refine zb.t (zbm b _ oM) ?_;simp only [Int.toNat_natCast];(iterate 2 refine Ar.o ?_);refine Ar.wrap ?_;refine Ob.o ?_;refine Ob.o ?_;intro z hz;refine ⟨dof (dig a i+dig b i+c),congrArg (fun n=>[u32 n]) (uy oM),?_⟩;refine Ob.o1 ?_;refine Ar.o ?_
  refine ⟨(i+1,out.set i (dof (dig a i+dig b i+c)),(dig a i+dig b i+c) / 4294967296),⟨by dsimp only;omega,by simp [h2],by dsimp only;omega,fun j hj=>?_,?_⟩,
   kr [(0,some 0)] ⟨rfl,rfl,congrArg (fun n=>some (u64 n)) (by simp only [Int.reducePow];omega),rfl,rfl,rfl,trivial⟩ ⟨rfl,trivial⟩,by dsimp only;omega⟩
  ·dsimp only at hj ⊢;rw [qk,if_neg oM];exact h4 j oM
  ·dsimp only;have hs:=yF out i (dof (dig a i+dig b i+c)) oM;rw [h4 i (Nat.le_refl _),zT,Nat.mul_zero,Nat.add_zero] at hs;rw [hs,zC,zC,Nat.pow_succ];have e:=Nat.div_add_mod (dig a i+dig b i+c) 4294967296;generalize (dig a i+dig b i+c) / 4294967296=x at*;generalize (dig a i+dig b i+c) % 4294967296=y at*;generalize 4294967296 ^ i=p at*;clear hs h4
   grind
 ·have hi:i=n:=by omega
  subst hi;rw [ki oM,ki oM] at h5
  have hc:c=0:=by
   have l1:=Nat.lt_of_lt_of_le (kQ a) (Nat.pow_le_pow_right (show 0 < 4294967296 by decide) (show a.length<=i - 1 by omega));have l2:=Nat.lt_of_lt_of_le (kQ b) (Nat.pow_le_pow_right (show 0 < 4294967296 by decide) (show b.length<=i - 1 by omega));have e:4294967296 ^ i=4294967296 ^ (i - 1)*4294967296:=by rw [← Nat.pow_succ];congr 1;omega
   have:c=0∨c=1:=oM
   rcases this with h | h
   ·exact h
   ·subst h;omega
  subst hc;refine zb.see 0 _ (kX out oM) rfl rfl rfl ?_;rw [show val out=val a+val b by omega];exact .refl
theorem zrU(a b:List Dig)(ha:a.length<=900000000)(hb:b.length<=900000000):
  ze Tryz.prog 194 [.sl dgE a,.sl dgE b] [] (.tup [.sl dgE (zj (val a - val b)),pr (val b<=val a)]) []:=by
 refine zd tok mix Tryz.func194 rfl rfl rfl ?_;refine zb.t (zrS a b oM oM) ?_;refine Br.mk (fun h=>?_) (fun h=>?_)
 ·have hlt:=zbh.1 h;refine zS ?_ (zc oM);rw [Nat.sub_eq_zero_of_le oM,kV];exact zI
 have hle:val b<=val a:=Nat.le_of_not_lt fun h'=>h (zbh.2 h')
 refine zb.t (kX a oM) ?_;have la:=zw a;have ldef:=vO (n:=val a) (Nat.le_refl _);intro hl2;generalize hn:(zj (val a)).length=n at*;refine ⟨Dig,dgE,0,rfl,Ob.o3 ?_⟩;intro hl3
 refine ⟨Nat×List Dig×Nat,fun ⟨i,out,c⟩=>⟨[(20,i64 i),(19,i64 n),(7,u64 c),(6,.own 0),(0,.sl dgE a),(1,.sl dgE b)],[(0,kB out)],1,42,0⟩,
  fun q=>q.1<=n/\q.2.1.length=n/\q.2.2<=1/\(∀j,q.1<=j->dig q.2.1 j=0)/\val q.2.1+val (b.take q.1)=val (a.take q.1)+4294967296 ^ q.1*q.2.2,fun q=>n - q.1,(0,List.replicate n 0,0),?_,?_,?_⟩
 ·exact ⟨Nat.zero_le _,by simp,Nat.zero_le _,fun j _=>q9 _ _,by simp [ud,val]⟩
 ·exact kr [(0,some 0)] ⟨rfl,congrArg (fun n=>some (i64 n)) (by simp),rfl,rfl,rfl,rfl,trivial⟩ ⟨rfl,trivial⟩
 rintro ⟨i,out,c⟩ ⟨h1,h2,h3,h4,h5⟩
 dsimp only at h1 h2 h3 h4 h5;refine Br.mk (fun h6=>?_) (fun h6=>?_)
 ·have d1:=ja a i;have d2:=ja b i;refine zb.t (zbm a _ oM) ?_;refine zb.t (zbm b _ oM) ?_;simp only [Int.toNat_natCast];refine Ar.wrap ?_;refine Ar.wrap ?_;refine Ar.wrap ?_;refine Ob.o ?_;refine Ob.o ?_;intro z hz;refine ⟨dof (4294967296+dig a i - dig b i - c),congrArg (fun n=>[u32 n]) (by rw [ze3,qP,qP,zT];omega),?_⟩;refine Ob.o1 ?_;refine Ar.o ?_
  refine ⟨(i+1,out.set i (dof (4294967296+dig a i - dig b i - c)),1 - (4294967296+dig a i - dig b i - c) / 4294967296),⟨by dsimp only;omega,by simp [h2],by dsimp only;omega,fun j hj=>?_,?_⟩,
   kr [(0,some 0)] ⟨rfl,rfl,congrArg (fun n=>some (u64 n)) (by rw [qP,qP];simp only [Int.reducePow];omega),rfl,rfl,rfl,trivial⟩ ⟨rfl,trivial⟩,by dsimp only;omega⟩
  ·dsimp only at hj ⊢;rw [qk,if_neg oM];exact h4 j oM
  ·dsimp only;have hs:=yF out i (dof (4294967296+dig a i - dig b i - c)) oM;rw [h4 i (Nat.le_refl _),zT,Nat.mul_zero,Nat.add_zero] at hs;rw [hs,zC,zC,Nat.pow_succ];have e:(4294967296+dig a i - dig b i - c) % 4294967296+dig b i+c=dig a i+4294967296*(1 - (4294967296+dig a i - dig b i - c) / 4294967296):=oM;generalize 1 - (4294967296+dig a i - dig b i - c) / 4294967296=x at*;generalize (4294967296+dig a i - dig b i - c) % 4294967296=y at*;generalize 4294967296 ^ i=p at*
   have e2:p*y+p*dig b i+p*c=p*dig a i+p*4294967296*x:=by
    rw [← Nat.mul_add,← Nat.mul_add,e,Nat.mul_add,Nat.mul_assoc]
   omega
 ·have hi:i=n:=by omega
  subst hi;have ea:val (a.take i)=val a:=by rw [ziZ,Nat.mod_eq_of_lt ldef]
  have eb:val (b.take i)=val b:=by rw [ziZ,Nat.mod_eq_of_lt (Nat.lt_of_le_of_lt hle ldef)]
  rw [ea,eb] at h5;have e4:=kQ out;rw [h2] at e4
  have e:val out=val a - val b:=by
   have:c=0∨c=1:=oM
   rcases this with rfl | rfl <;> omega
  refine zb.see 0 _ (kX out oM) rfl rfl rfl ?_;rw [e];exact zS .refl (zH hle)
theorem zi3(xs:List Dig)(n:Nat)(h:xs.length=n+2):∃r,r < 4294967296 ^ n/\val xs=(dig xs (n+1)*4294967296+dig xs n)*4294967296 ^ n+r:=by
 refine ⟨val (xs.take n),qa xs n,?_⟩;have e1:=z1 xs n;have e2:=zr xs n;have e3:=zr xs (n+1);rw [zK (show xs.length<=n+1+1 by omega),Nat.mul_zero,Nat.add_zero] at e3;rw [e3] at e2;rw [e1,e2];generalize dig xs (n+1)=a;generalize dig xs n=b;generalize 4294967296 ^ n=p
 grind
theorem zi4 {P v1 v2 rv top u2 ru q r:Nat} (hrv:rv < P) (hru:ru < P) (hv1:2147483648<=v1) (hv2:v2 < 4294967296) (e:q*v1+r=top) (hq:q<=4294967296)
  (hle:q*v2<=r*4294967296+u2) (hQ:((top*4294967296+u2)*P+ru) / ((v1*4294967296+v2)*P+rv)<=q):
  q=((top*4294967296+u2)*P+ru) / ((v1*4294967296+v2)*P+rv)∨q=((top*4294967296+u2)*P+ru) / ((v1*4294967296+v2)*P+rv)+1:=by
 have hP:0 < P:=oM
 have hV:0 < (v1*4294967296+v2)*P+rv:=by
  have:0 < (v1*4294967296+v2)*P:=Nat.mul_pos oM hP;omega
 have key:(q - 1)*((v1*4294967296+v2)*P+rv)<=(top*4294967296+u2)*P+ru:=by
  rcases Nat.eq_zero_or_pos q with h0 | h0
  ·subst h0;simp
  ·obtain ⟨p,rfl⟩:∃p,q=p+1:=⟨q - 1,oM⟩;rw [Nat.add_sub_cancel]
   have h1:p*((v1*4294967296+v2)*P+rv)<=p*((v1*4294967296+v2+1)*P):=by
    refine Nat.mul_le_mul_left _ ?_;rw [Nat.add_mul _ 1 P];omega
   have h2:p*(v1*4294967296+v2+1)<=top*4294967296+u2:=by
    have a1:(p+1)*v1=p*v1+v1:=by rw [Nat.add_mul];omega
    have a2:(p+1)*v2=p*v2+v2:=by rw [Nat.add_mul];omega
    have a3:p*(v1*4294967296+v2+1)=(p*v1)*4294967296+p*v2+p:=by
     rw [Nat.mul_add,Nat.mul_add,Nat.mul_assoc];omega
    rw [a1] at e;rw [a2] at hle;rw [a3];omega
   have h3:p*((v1*4294967296+v2+1)*P)<=(top*4294967296+u2)*P:=by
    rw [← Nat.mul_assoc];exact Nat.mul_le_mul_right _ h2
   omega
 have:=(Nat.le_div_iff_mul_le hV).2 key;omega
theorem zmK{P v1 v2 rv top u2 ru q r:Nat}(hru:ru < P)(e:q*v1+r=top)(hgt:r*4294967296+u2 < q*v2):
  ((top*4294967296+u2)*P+ru) / ((v1*4294967296+v2)*P+rv) < q:=by
 have hP:0 < P:=oM
 have hq:0 < q:=by
  rcases Nat.eq_zero_or_pos q with h | h
  ·subst h;omega
  ·exact h
 have h1:top*4294967296+u2+1<=q*(v1*4294967296+v2):=by
  have a3:q*(v1*4294967296+v2)=(q*v1)*4294967296+q*v2:=by rw [Nat.mul_add,Nat.mul_assoc]
  rw [a3];omega
 have h2:(top*4294967296+u2)*P+ru < q*((v1*4294967296+v2)*P+rv):=by
  have a1:(top*4294967296+u2+1)*P<=q*(v1*4294967296+v2)*P:=Nat.mul_le_mul_right _ h1
  have a2:q*(v1*4294967296+v2)*P<=q*((v1*4294967296+v2)*P+rv):=by
   rw [Nat.mul_assoc];exact Nat.mul_le_mul_left _ (Nat.le_add_right _ _)
  rw [Nat.add_mul _ 1 P] at a1;omega
 have hV:0 < (v1*4294967296+v2)*P+rv:=by
  rcases Nat.eq_zero_or_pos ((v1*4294967296+v2)*P+rv) with h | h
  ·rw [h] at h2;omega
  ·exact h
 exact (Nat.div_lt_iff_lt_mul hV).2 h2
theorem zmL{p q c b ui y lo c' ui' b' U V R:Nat}(h:R+q*V=U+p*(c+b))(hl:lo+4294967296*c'=c+q*y)(hu:ui'+lo+b=ui+4294967296*b'):
  R+p*ui'+q*(V+p*y)=U+p*ui+p*4294967296*(c'+b'):=by
 have e1:ui'+(c+q*y)+b=ui+4294967296*(c'+b'):=oM;have e2:p*(ui'+(c+q*y)+b)=p*(ui+4294967296*(c'+b')):=by rw [e1]
 grind
end Go.Gs
