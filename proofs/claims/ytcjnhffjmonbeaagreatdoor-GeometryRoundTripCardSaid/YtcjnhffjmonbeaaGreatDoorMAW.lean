/- Integers, the program's. -/
import Derived.Test.YtcjnhffjmonbeaaGreatDoorMA
import Derived.Test.YtcjnhffjmonbeaaGreatDoorMAV
import Derived.Test.YtcjnhffjmonbeaaGreatDoorMAT
import Derived.Test.YtcjnhffjmonbeaaGreatDoorMAS
set_option maxRecDepth 100000
set_option maxHeartbeats 8000000
set_option linter.all false
namespace Go.Gs
open Go.Proofs
theorem zbH(p:Prop)[i:Decidable p](m:List Dig)(hm:m.length<=1000000000):
  ze Tryz.prog 183 [.pr p i,.sl dgE m] [] (.agg (biE (ofZ (if p then -(val m:Int) else val m)))) []:=by
 refine zd tok mix Tryz.func183 rfl rfl rfl ?_;refine zb.t (yK m hm) ?_;have hd:=k6 (n:=val m);refine Br.mk (fun h=>?_) (fun h=>?_)
 ·intro hl;refine zuI (.cons (zu ?_) (.cons (yb ?_) .nil))
  ·rw [uU,if_pos h];omega
  ·rw [zbj,if_pos h];congr 1;omega
 ·refine zuI (.cons (zc ?_) (.cons (yb ?_) .nil))
  ·rw [uU,if_neg h];omega
  ·rw [zbj,if_neg h];congr 1
theorem zsF(m:List Dig)(hm:m.length<=1000000000):ze Tryz.prog 183 [bl true,.sl dgE m] [] (.agg (biE (ofZ (-(val m:Int))))) []:=by
 have h:=(zbH True m hm).args (.cons (zH trivial) LEs.refl)
 rwa [if_pos trivial] at h
theorem zov(m:List Dig)(hm:m.length<=1000000000):ze Tryz.prog 183 [bl false,.sl dgE m] [] (.agg (biE (ofZ (val m:Int)))) []:=by
 have h:=(zbH False m hm).args (.cons (zc not_false) LEs.refl)
 rwa [if_neg not_false] at h
theorem zow(a:BI)(hm:a.mag.length<=1000000000):
  ze Tryz.prog 183 [pr (a.neg=true),.sl dgE a.mag] [] (.agg (biE (ofZ a.v))) []:=zbH (a.neg=true) a.mag hm
theorem zbn(n:Int)(hn:R64 n):ze Tryz.prog 133 [i64 n] [] (.agg (biE (ofZ n))) []:=by
 refine zd tok mix Tryz.func133 rfl rfl rfl ?_;refine Br.mk (fun h=>?_) (fun h=>?_)
 ·refine Ar.wrap ?_;refine Ar.wrap ?_;have e:IntKind.u64.wrap (-IntKind.u64.wrap n)=((n.natAbs:Nat):Int):=by rw [qP,qP];omega
  rw [e];refine zb.t (zbl n.natAbs oM) ?_;refine zb.t (zsF (zj n.natAbs) (by have:=ye hn;unfold ztz at this;omega)) ?_;rw [zk,show (-(n.natAbs:Int))=n by omega];exact .refl
 ·refine Ar.wrap ?_;have e:IntKind.u64.wrap n=((n.natAbs:Nat):Int):=by rw [qP];omega
  rw [e];refine zb.t (zbl n.natAbs oM) ?_;refine zb.t (zov (zj n.natAbs) (by have:=ye hn;unfold ztz at this;omega)) ?_;rw [zk,show (n.natAbs:Int)=n by omega];exact .refl
theorem zfa(a:BI)(ha:a.mag.length<=900000000):ze Tryz.prog 185 [.agg (biE a)] [] (i64 a.v.sign) []:=by
 refine zd tok mix Tryz.func185 rfl rfl rfl ?_;refine zb.t (zi8 a.mag ha) ?_;have h1:=vk (n:=val a.mag);have h2:=a.v_eq;refine Br.mk (fun h=>?_) (fun h=>?_)
 ·have:a.v=0:=by omega
  exact zm (by rw [this];rfl)
 refine Br.mk (fun h3=>?_) (fun h3=>?_)
 ·refine zm (Int.sign_eq_neg_one_of_neg ?_).symm
  rcases h2 with ⟨e1,e2⟩ | ⟨e1,e2⟩
  ·omega
  ·rw [e1] at h3;cases h3
 ·refine zm (Int.sign_eq_one_of_pos ?_).symm
  rcases h2 with ⟨e1,e2⟩ | ⟨e1,e2⟩
  ·exact absurd e1 h3
  ·omega
theorem zrV(a:BI)(ha:a.mag.length<=1000000000):ze Tryz.prog 148 [.agg (biE a)] [] (.agg (biE (ofZ (-a.v)))) []:=by
 refine zd tok mix Tryz.func148 rfl rfl rfl ?_;refine zb.t (zbH (¬a.neg=true) a.mag ha) ?_
 have:(if ¬a.neg=true then -(val a.mag:Int) else (val a.mag:Int))= -a.v:=by
  rcases a.v_eq with ⟨h1,h2⟩ | ⟨h1,h2⟩ <;> simp [h1,h2]
 rw [this];exact .refl
theorem zrW(a b:BI)(ha:a.mag.length<=800000000)(hb:b.mag.length<=800000000):ze Tryz.prog 140 [.agg (biE a),.agg (biE b)] [] (.agg (biE (ofZ (a.v+b.v)))) []:=by
 refine zd tok mix Tryz.func140 rfl rfl rfl ?_;refine Br.mk (fun h=>?_) (fun h=>?_)
 ·refine Dr.k ?_;refine zb.t (zrT a.mag b.mag oM oM) ?_;have hl:=ze5 ha hb;refine zb.t (zbH (a.neg=true) _ oM) ?_
  have:(if a.neg=true then -(val (zj (val a.mag+val b.mag)):Int) else (val (zj (val a.mag+val b.mag)):Int))=a.v+b.v:=by
   rw [zk]
   rcases a.v_eq with ⟨h1,h2⟩ | ⟨h1,h2⟩ <;> rcases b.v_eq with ⟨h3,h4⟩ | ⟨h3,h4⟩ <;> simp [h1,h3] at h <;> simp [h1,h2,h4] <;> omega
  rw [this];exact .refl
 ·refine zb.t (zrU a.mag b.mag oM oM) ?_;have hl:(zj (val a.mag - val b.mag)).length<=1000000000:=Nat.le_trans (kC (Nat.sub_le _ _)) (Nat.le_trans (zw _) oM);have hl2:(zj (val b.mag - val a.mag)).length<=1000000000:=Nat.le_trans (kC (Nat.sub_le _ _)) (Nat.le_trans (zw _) oM);refine Br.mk (fun h2=>?_) (fun h2=>?_)
  ·refine zb.t (zbH (a.neg=true) _ hl) ?_
   have:(if a.neg=true then -(val (zj (val a.mag - val b.mag)):Int) else (val (zj (val a.mag - val b.mag)):Int))=a.v+b.v:=by
    rw [zk]
    rcases a.v_eq with ⟨h1,h2⟩ | ⟨h1,h2⟩ <;> rcases b.v_eq with ⟨h3,h4⟩ | ⟨h3,h4⟩ <;> simp [h1,h3] at h <;> simp [h1,h2,h4] <;> omega
   rw [this];exact .refl
  ·refine zb.t (zrU b.mag a.mag oM oM) ?_;refine zb.t (zbH (b.neg=true) _ hl2) ?_
   have:(if b.neg=true then -(val (zj (val b.mag - val a.mag)):Int) else (val (zj (val b.mag - val a.mag)):Int))=a.v+b.v:=by
    rw [zk]
    rcases a.v_eq with ⟨h1,h2⟩ | ⟨h1,h2⟩ <;> rcases b.v_eq with ⟨h3,h4⟩ | ⟨h3,h4⟩ <;> simp [h1,h3] at h <;> simp [h3,h2,h4] <;> omega
   rw [this];exact .refl
theorem zB(z:Int):(ofZ z).mag.length=ztz z:=rfl
theorem zi9(a b:BI)(ha:a.mag.length<=800000000)(hb:b.mag.length<=800000000):ze Tryz.prog 191 [.agg (biE a),.agg (biE b)] [] (.agg (biE (ofZ (a.v - b.v)))) []:=by
 refine zd tok mix Tryz.func191 rfl rfl rfl ?_;refine Dr.k ?_;refine zb.t (zrV b oM) ?_;have h1:=yV b;refine zb.t (zrW a (ofZ (-b.v)) oM (by rw [zB,yJ];omega)) ?_;rw [zJ,← Int.sub_eq_add_neg];exact .refl
theorem zbI(a b:BI)(ha:a.mag.length<=400000000)(hb:b.mag.length<=400000000):ze Tryz.prog 146 [.agg (biE a),.agg (biE b)] [] (.agg (biE (ofZ (a.v*b.v)))) []:=by
 refine zd tok mix Tryz.func146 rfl rfl rfl ?_;refine Dr.k ?_;refine zb.t (n_mul a.mag b.mag ha hb) ?_
 have hl:(zj (val a.mag*val b.mag)).length<=1000000000:=by
  refine Nat.le_trans (qF (k:=a.mag.length+b.mag.length) ?_) oM;rw [Nat.pow_add];exact Nat.mul_lt_mul_of_lt_of_lt (kQ _) (kQ _)
 refine zb.t (zbH (¬(a.neg=true↔b.neg=true)) _ hl) ?_;rw [zk,zrR];exact .refl
theorem zja(a:BI)(ha:a.mag.length<=900000000):ze Tryz.prog 168 [.agg (biE a)] [] (i64 (zX a.v.natAbs)) []:=by
 refine zd tok mix Tryz.func168 rfl rfl rfl ?_;refine zb.t (zi8 a.mag ha) ?_;rw [← a.v_abs];exact .refl
theorem zox{a b:Int}(hb:0 < b):a / b=if a < 0 then -((a.natAbs / b.natAbs+(if a.natAbs % b.natAbs=0 then 0 else 1):Nat):Int) else ((a.natAbs / b.natAbs:Nat):Int):=by
 have hdm:=Nat.div_add_mod a.natAbs b.natAbs;have hm:=Nat.mod_lt a.natAbs (show b.natAbs > 0 by omega);generalize a.natAbs / b.natAbs=q at*;generalize a.natAbs % b.natAbs=r at*;have e:(b:Int)*(q:Int)=((b.natAbs*q:Nat):Int):=by rw [Int.natCast_mul];congr 1;omega
 by_cases h:a < 0
 ·rw [if_pos h]
  by_cases h0:r=0
  ·rw [if_pos h0,Nat.add_zero];exact ((Int.ediv_emod_unique hb).2 ⟨(by rw [Int.mul_neg,e];omega:(0:Int)+b*(-(q:Int))=a),oM,hb⟩).1
  ·rw [if_neg h0];exact ((Int.ediv_emod_unique hb (r:=b - r)).2 ⟨by rw [Int.mul_neg,Int.natCast_add,Int.mul_add,e];omega,oM,oM⟩).1
 ·rw [if_neg h];exact ((Int.ediv_emod_unique hb (r:=r)).2 ⟨by rw [e];omega,oM,oM⟩).1
theorem zfb(p:Prop)[i:Decidable p]:ze Tryz.prog 190 [.pr p i] [] (.fn 245 [.loc 0 0]) [(0,.box 4 [.pr p i])]:=by
 refine kU tok mix Tryz.func190 rfl rfl rfl ?_;exact ⟨some 0,zqw (.cons (.loc 0 0 rfl) .nil),rfl,rfl⟩
theorem zdi(p:Prop)[i:Decidable p](m:List Dig)(hm:m.length<=1000000000):
  ze Tryz.prog 245 [.sl dgE m,.ptr [.pr p i]] [] (.agg (biE (ofZ (if p then -(val m:Int) else val m)))) []:=by
 refine zd tok mix Tryz.func245 rfl rfl rfl ?_;refine zb.t (zbH p m hm) ?_;exact .refl
theorem zoy(a b:BI)(ha:a.mag.length<=200000000)(hb:b.mag.length<=200000000)(h0:0 < b.v):
  ze Tryz.prog 137 [.agg (biE a),.agg (biE b)] [] (.tup [.agg (biE (ofZ (a.v / b.v))),.agg (biE (ofZ (a.v % b.v))),i64 0]) []:=by
 refine zd tok mix Tryz.func137 rfl rfl rfl ?_;refine Dr.k ?_;refine zb.t (zow a oM) ?_;refine zb.t (zow b oM) ?_;have la:=yV a;have lb:=yV b;refine zb.t (ze9 (zj a.v.natAbs) (zj b.v.natAbs) (by unfold ztz at la;omega) (by unfold ztz at lb;omega) (by rw [zk];omega)) ?_;rw [zk,zk];refine Br.mk (fun h=>absurd rfl h) (fun _=>?_);have hza:=uU a.v;have hzb:=uU b.v;have hq:=zox (a:=a.v) h0;have hm:=Int.emod_def a.v b.v
 have zq:ztz (a.v / b.v)<=ztz a.v:=zbk (by
  have:=Int.natAbs_ediv_le_natAbs a.v b.v
  exact this)
 have zp:=zZ (a.v / b.v) b.v;have neg1:a.v < 0->¬((ofZ a.v).neg=true↔(ofZ b.v).neg=true):=fun h=>by rw [hza,hzb];omega
 have neg2:¬a.v < 0->¬¬((ofZ a.v).neg=true↔(ofZ b.v).neg=true):=fun h=>by rw [hza,hzb];omega
 have q1:(zj (a.v.natAbs / b.v.natAbs)).length<=200000000:=Nat.le_trans (kC (Nat.div_le_self _ _)) (by unfold ztz at la;omega);refine Br.mk (fun h1=>?_) (fun h1=>?_)
 ·have hneg:a.v < 0:=Classical.byContradiction fun h=>neg2 h h1
  intro hl;refine Br.mk (fun h2=>?_) (fun h2=>?_)
  ·have hr:a.v.natAbs % b.v.natAbs≠0:=k6.1 oM;refine zb.t (zbl 1 dC) ?_;refine zb.t (zrT _ _ oM (by decide +kernel)) ?_;rw [zk,zk];rw [if_pos hneg,if_neg hr] at hq;have ql:=ze5 (a:=zj (a.v.natAbs / b.v.natAbs)) (b:=zj 1) q1 (by decide +kernel);rw [zk,zk] at ql;refine zb.fresh _ _ (zfb (¬((ofZ a.v).neg=true↔(ofZ b.v).neg=true))) rfl rfl (.inr rfl) ?_;refine zb.t (zdi _ (zj (a.v.natAbs / b.v.natAbs+1)) oM) ?_;rw [zk,if_pos h1,← hq];refine Dr.k ?_;refine zb.t (zbI (ofZ (a.v / b.v)) (ofZ b.v) (by rw [zB];omega) (by rw [zB];omega)) ?_
   refine zb.t (zi9 (ofZ a.v) (ofZ ((ofZ (a.v / b.v)).v*(ofZ b.v).v)) (by rw [zB];omega) (by rw [zB,zJ,zJ];omega)) ?_;rw [zJ,zJ,zJ,zJ,Int.mul_comm (a.v / b.v),← hm];exact .refl
  ·have hr:a.v.natAbs % b.v.natAbs=0:=qV.1 (List.length_eq_zero_iff.1 oM);rw [if_pos hneg,if_pos hr,Nat.add_zero] at hq;refine zb.fresh _ _ (zfb (¬((ofZ a.v).neg=true↔(ofZ b.v).neg=true))) rfl rfl (.inr rfl) ?_;refine zb.t (zdi _ (zj (a.v.natAbs / b.v.natAbs)) oM) ?_;rw [zk,if_pos h1,← hq];refine Dr.k ?_;refine zb.t (zbI (ofZ (a.v / b.v)) (ofZ b.v) (by rw [zB];omega) (by rw [zB];omega)) ?_;refine zb.t (zi9 (ofZ a.v) (ofZ ((ofZ (a.v / b.v)).v*(ofZ b.v).v)) (by rw [zB];omega) (by rw [zB,zJ,zJ];omega)) ?_;rw [zJ,zJ,zJ,zJ,Int.mul_comm (a.v / b.v),← hm]
   exact .refl
 ·have hneg:¬a.v < 0:=fun h=>h1 (neg1 h)
  rw [if_neg hneg] at hq;refine zb.fresh _ _ (zfb (¬((ofZ a.v).neg=true↔(ofZ b.v).neg=true))) rfl rfl (.inr rfl) ?_;refine zb.t (zdi _ (zj (a.v.natAbs / b.v.natAbs)) oM) ?_;rw [zk,if_neg h1,← hq];refine Dr.k ?_;refine zb.t (zbI (ofZ (a.v / b.v)) (ofZ b.v) (by rw [zB];omega) (by rw [zB];omega)) ?_;refine zb.t (zi9 (ofZ a.v) (ofZ ((ofZ (a.v / b.v)).v*(ofZ b.v).v)) (by rw [zB];omega) (by rw [zB,zJ,zJ];omega)) ?_;rw [zJ,zJ,zJ,zJ,Int.mul_comm (a.v / b.v),← hm];exact .refl
theorem zlD(a:BI)(ha:a.mag.length<=1000000000):
  ze Tryz.prog 82 [.agg (biE a)] [] (.tup [i64 (vm a.v),pr (-9223372036854775808<=a.v/\a.v<=9223372036854775807)]) []:=by
 refine zd tok mix Tryz.func82 rfl rfl rfl ?_;refine zb.t (yK a.mag ha) ?_;have hl0:=zw a.mag;have hv:=a.v_eq;generalize hz:a.v=z at*;have hv':z= -(val a.mag:Int)∨z=(val a.mag:Int):=hv.imp And.right And.right
 have bad:¬(-9223372036854775808<=z/\z<=9223372036854775807)->LE (.tup [i64 0,bl false]) (.tup [i64 (vm z),pr (-9223372036854775808<=z/\z<=9223372036854775807)]):=fun h=>
  zS (zm (by rw [vm,if_neg h])) (zc h)
 have good:∀n:Int,n=z-> -9223372036854775808<=z/\z<=9223372036854775807->LE (.tup [i64 n,bl true]) (.tup [i64 (vm z),pr (-9223372036854775808<=z/\z<=9223372036854775807)]):=fun n hn h=>
  zS (zm (by rw [vm,if_pos h,hn])) (zH h)
 obtain ⟨m,hm⟩:∃m,zj (val a.mag)=m:=⟨_,rfl⟩;have hmv:val m=val a.mag:=by rw [← hm,zk]
 have hbig:2 < m.length->18446744073709551616<=val a.mag:=fun h=>by
  have h0:val a.mag≠0:=k6.1 (by rw [hm];omega);have:=zhC h0;rw [hm] at this;exact Nat.le_trans (Nat.le_trans dC (Nat.pow_le_pow_right dC (show 2<=m.length - 1 by omega))) this
 rw [hm];rw [hm] at hl0;intro hl1;refine Ar.o ?_
 refine ⟨Nat,fun j=>⟨[(6,i64 ((j:Int) - 1)),(5,u64 (val (m.drop j))),(4,.sl dgE m),(1,.loc 0 0)],[(0,.box 31 (biE a))],1,55,0⟩,
  fun j=>j<=m.length/\(j < m.length->m.length<=2),fun j=>j,m.length,?_,?_,?_⟩
 ·exact ⟨Nat.le_refl _,fun h=>absurd h (Nat.lt_irrefl _)⟩
 ·exact kr [(0,some 0)] ⟨rfl,congrArg (fun n=>some (u64 n)) (by rw [zK (Nat.le_refl _)];rfl),rfl,rfl,trivial⟩ ⟨rfl,trivial⟩
 rintro j ⟨h1,h2⟩
 refine Br.mk (fun h3=>?_) (fun h3=>?_)
 ·intro hl2;refine Br.mk (fun h4=>?_) (fun h4=>?_)
  ·have hd:=zr m (j - 1);rw [show j - 1+1=j by omega] at hd
   have hdl:val (m.drop j) < 4294967296:=by
    have:=kQ (m.drop j);rw [List.length_drop] at this;exact Nat.lt_of_lt_of_le this (Nat.le_trans (Nat.pow_le_pow_right dC (show m.length - j<=1 by omega)) dC)
   refine Ob.o1 ?_;refine Ar.fit (by simp only [Int.reducePow];omega) ?_;refine Ob.o ?_;intro x hx;rw [show ((j:Int) - 1).toNat=j - 1 by omega] at hx;have dx:=zD hx;have hxl:=x.isLt;refine Ar.o ?_;refine ⟨_,(zcx (x:=val (m.drop j)) (y:=x.val) hdl hxl rfl).symm,?_⟩;refine Ar.o ?_;exact ⟨j - 1,⟨oM,fun _=>by omega⟩,kr [(0,some 0)] ⟨congrArg (fun n=>some (i64 n)) oM,congrArg (fun n=>some (u64 n)) (by rw [hd,dx];omega),rfl,rfl,trivial⟩ ⟨rfl,trivial⟩,by dsimp only;omega⟩
  ·intro hl3;have:=hbig oM;refine Br.mk (fun _=>?_) (fun h=>absurd h oM);exact bad oM
 ·have hj:j=0:=by omega
  subst hj;have hd0:val (m.drop 0)=val a.mag:=by rw [List.drop_zero,hmv]
  intro hl3
  have hv2:¬2 < m.length->val a.mag < 18446744073709551616:=fun h=>by
   have:=kQ m;rw [hmv] at this;exact Nat.lt_of_lt_of_le this (Nat.le_trans (Nat.pow_le_pow_right dC (show m.length<=2 by omega)) dC)
  refine Br.mk (fun h=>?_) (fun h=>?_)
  ·have:=hbig oM;exact bad oM
  have hs:=hv2 oM;have negz:a.neg=true->z= -(val a.mag:Int):=fun h=>hv.elim And.right fun g=>by rw [h] at g;cases g.1
  have posz:¬a.neg=true->z=(val a.mag:Int):=fun h=>hv.elim (fun g=>absurd g.1 h) And.right
  have hneg:a.neg=true->val a.mag<=9223372036854775808->IntKind.i64.wrap (IntKind.u64.wrap (-(val (m.drop 0):Int)))=z:=fun h hle=>by
   have:=negz h;rw [hd0,qP];show IntKind.i64.wrap _=_;simp only [IntKind.wrap,IntKind.bits,IntKind.signed];simp;omega
  refine Br.mk (fun g1=>bad oM) (fun g1=>?_);refine Br.mk (fun g2=>?_) (fun g2=>?_)
  ·refine Br.mk (fun g3=>bad ?_) (fun g3=>?_)
   ·have:=posz g3;omega
   have hn:a.neg=true:=Classical.byContradiction g3;have:=negz hn;refine Br.mk (fun _=>?_) (fun g4=>absurd hn g4);refine Ar.wrap ?_;refine Ar.wrap ?_;exact good _ (hneg hn oM) oM
  ·refine Br.mk (fun g4=>?_) (fun g4=>?_)
   ·have:=negz g4;refine Ar.wrap ?_;refine Ar.wrap ?_;exact good _ (hneg g4 oM) oM
   ·have:=posz g4;refine Ar.o ?_;exact good _ oM oM
structure BR where
 num:BI
 den:BI
 deriving DecidableEq
def BR.v(a:BR):Rat:=Rat.divInt a.num.v a.den.v
def ofQ(q:Rat):BR:=⟨ofZ q.num,ofZ q.den⟩
theorem zN(q:Rat):(ofQ q).v=q:=by unfold BR.v ofQ;rw [zJ,zJ,Rat.num_divInt_den]
def BR.len(a:BR):Nat:=max a.num.mag.length a.den.mag.length
def qA(q:Rat):Nat:=max (ztz q.num) (ztz q.den)
theorem zo(q:Rat):(ofQ q).len=qA q:=rfl
theorem zfc{n d:Int}(hd:d≠0):(if n.sign*d.sign < 0 then -((n.natAbs / Nat.gcd n.natAbs d.natAbs:Nat):Int) else ((n.natAbs / Nat.gcd n.natAbs d.natAbs:Nat):Int))=(Rat.divInt n d).num:=by
 have hg0:0 < Nat.gcd n.natAbs d.natAbs:=Nat.gcd_pos_of_pos_right _ oM;rw [Rat.num_divInt,show d.gcd n=Nat.gcd n.natAbs d.natAbs from Nat.gcd_comm _ _];obtain ⟨k,hk⟩:((Nat.gcd n.natAbs d.natAbs:Nat):Int) ∣ n:=Int.ofNat_dvd_left.2 (Nat.gcd_dvd_left _ _);generalize Nat.gcd n.natAbs d.natAbs=g at*;have e1:n.natAbs / g=k.natAbs:=by rw [hk,Int.natAbs_mul,Int.natAbs_natCast,Nat.mul_div_cancel_left _ hg0]
 have e2:d.sign*n / (g:Int)=d.sign*k:=by
  rw [hk,← Int.mul_assoc,Int.mul_comm d.sign,Int.mul_assoc,Int.mul_ediv_cancel_left _ oM]
 have e3:n.sign=k.sign:=by rw [hk,Int.sign_mul,Int.sign_eq_one_of_pos oM,Int.one_mul]
 rw [e1,e2,e3]
 rcases Int.lt_trichotomy d 0 with h | h | h
 ·rw [Int.sign_eq_neg_one_of_neg h]
  rcases Int.lt_trichotomy k 0 with h' | h' | h'
  ·rw [Int.sign_eq_neg_one_of_neg h',if_neg dC];omega
  ·subst h';rw [if_neg dC];rfl
  ·rw [Int.sign_eq_one_of_pos h',if_pos dC];omega
 ·exact absurd h hd
 ·rw [Int.sign_eq_one_of_pos h]
  rcases Int.lt_trichotomy k 0 with h' | h' | h'
  ·rw [Int.sign_eq_neg_one_of_neg h',if_pos dC];omega
  ·subst h';rw [if_neg dC];rfl
  ·rw [Int.sign_eq_one_of_pos h',if_neg dC];omega
theorem zfd{n d:Int}(hd:d≠0):(Rat.divInt n d).den=d.natAbs / Nat.gcd n.natAbs d.natAbs:=by
 rw [Rat.den_divInt,if_neg hd,show d.gcd n=Nat.gcd n.natAbs d.natAbs from Nat.gcd_comm _ _]
theorem uV{n d:Int}(hd:d≠0):qA (Rat.divInt n d)<=max (ztz n) (ztz d):=by
 have h1:ztz (Rat.divInt n d).num<=ztz n:=zbk (by
  rw [← zfc hd];have:=Nat.div_le_self n.natAbs (Nat.gcd n.natAbs d.natAbs);generalize n.natAbs / Nat.gcd n.natAbs d.natAbs=x at*
  split <;> omega)
 have h2:ztz (Rat.divInt n d).den<=ztz d:=zbk (by
  rw [zfd hd];have:=Nat.div_le_self d.natAbs (Nat.gcd n.natAbs d.natAbs);generalize d.natAbs / Nat.gcd n.natAbs d.natAbs=x at*
  omega)
 unfold qA;omega
theorem kj(q:Rat):ztz q.num<=qA q:=Nat.le_max_left _ _
theorem ku(q:Rat):ztz q.den<=qA q:=Nat.le_max_right _ _
theorem zt(a:BR):qA a.v<=max a.len 1:=by
 by_cases h:a.den.v=0
 ·have:a.v=0:=by unfold BR.v;rw [h,Rat.divInt_zero]
  rw [this];have:qA 0<=1:=by decide +kernel
  omega
 ·have:=uV (n:=a.num.v) h;have h1:=yV a.num;have h2:=yV a.den;unfold BR.len BR.v;omega
theorem zaJ(q:Rat):(q.den:Int)≠0:=by have:=q.den_nz;omega
theorem zfe(x y:Rat):Rat.divInt (x.num*y.den+y.num*x.den) (x.den*y.den)=x+y:=by
 have:=Rat.divInt_add_divInt x.num y.num (zaJ x) (zaJ y);rw [Rat.num_divInt_den,Rat.num_divInt_den] at this;exact this.symm
theorem zff(x y:Rat):Rat.divInt (x.num*y.num) (x.den*y.den)=x*y:=by
 have:=Rat.divInt_mul_divInt x.num y.num (d₁:=x.den) (d₂:=y.den);rw [Rat.num_divInt_den,Rat.num_divInt_den] at this;exact this.symm
theorem zoz(x y:Rat):Rat.divInt (x.num*y.den - y.num*x.den) (x.den*y.den)=x - y:=by
 have:=Rat.divInt_add_divInt x.num (-y.num) (zaJ x) (zaJ y);rw [Rat.num_divInt_den,← Rat.neg_divInt,Rat.num_divInt_den,Int.neg_mul,← Int.sub_eq_add_neg] at this;rw [← this,Rat.sub_eq_add_neg]
theorem jU(x y:Rat):(x.den:Int)*(y.den:Int)≠0:=Int.mul_ne_zero (zaJ x) (zaJ y)
theorem zaK(x y:Rat):qA (x+y)<=qA x+qA y+1:=by
 rw [← zfe];have h:=uV (n:=x.num*y.den+y.num*x.den) (jU x y);have h1:=zcv (x.num*y.den) (y.num*x.den);have h2:=zZ x.num y.den;have h3:=zZ y.num x.den;have h4:=zZ x.den y.den;have a1:=kj x;have a2:=kj y;have a3:=ku x;have a4:=ku y;omega
theorem qr(x y:Rat):qA (x*y)<=qA x+qA y:=by
 rw [← zff];have h:=uV (n:=x.num*y.num) (jU x y);have h2:=zZ x.num y.num;have h4:=zZ x.den y.den;have a1:=kj x;have a2:=kj y;have a3:=ku x;have a4:=ku y;omega
theorem zfg(z:Int):qA z<=max (ztz z) 1:=by
 unfold qA;rw [Rat.num_intCast,Rat.den_intCast];have:ztz ((1:Nat):Int)=1:=by decide +kernel
 omega
def brE(a:BR):List SV:=biE a.num++biE a.den
theorem zgF(a:BI)(g:List Dig)(ha:a.mag.length<=400000000)(hg:g.length<=400000000)(h0:val g≠0):
  ze Tryz.prog 193 [.agg (biE a),.ptr [.sl dgE g]] [] (.sl dgE (zj (val a.mag / val g))) []:=by
 refine zd tok mix Tryz.func193 rfl rfl rfl ?_;refine zb.t (ze9 a.mag g ha hg h0) ?_;exact .refl
theorem zcy(n d:BI)(hn:n.mag.length<=400000000)(hd:d.mag.length<=400000000)(h0:d.v≠0):
  ze Tryz.prog 139 [.agg (biE n),.agg (biE d)] [] (.agg (brE (ofQ (Rat.divInt n.v d.v)))) []:=by
 refine zd tok mix Tryz.func139 rfl rfl rfl ?_;refine zb.t (n_gcd n.mag d.mag hn hd) ?_;have e1:=zfc (n:=n.v) h0;have e2:=zfd (n:=n.v) h0;rw [n.v_abs,d.v_abs] at e1 e2;have hdz:val d.mag≠0:=by rw [← d.v_abs];omega
 have hg0:0 < Nat.gcd (val n.mag) (val d.mag):=Nat.gcd_pos_of_pos_right _ oM
 have hgl:(zj (Nat.gcd (val n.mag) (val d.mag))).length<=400000000:=by
  refine Nat.le_trans (kC (Nat.gcd_le_right _ oM)) (Nat.le_trans (zw _) hd)
 have l1:(zj (val n.mag / Nat.gcd (val n.mag) (val d.mag))).length<=1000000000:=Nat.le_trans (kC (Nat.div_le_self _ _)) (Nat.le_trans (zw _) oM);have l2:(zj (val d.mag / Nat.gcd (val n.mag) (val d.mag))).length<=1000000000:=Nat.le_trans (kC (Nat.div_le_self _ _)) (Nat.le_trans (zw _) oM);generalize Nat.gcd (val n.mag) (val d.mag)=g at*
 have s1: -1<=n.v.sign*d.v.sign/\n.v.sign*d.v.sign<=1:=by
  rcases Int.lt_trichotomy n.v 0 with h | h | h <;> rcases Int.lt_trichotomy d.v 0 with h' | h' | h' <;>
   simp [Int.sign_eq_neg_one_of_neg,Int.sign_eq_one_of_pos,h,h']
 refine Dr.k ?_;refine zb.t (zfa n oM) ?_;refine zb.t (zfa d oM) ?_;refine Ar.o ?_;refine zb.t (zgF n (zj g) hn hgl (by rw [zk];omega)) ?_;rw [zk];refine zb.t (zbH (n.v.sign*d.v.sign < 0) _ l1) ?_;refine zb.t (zgF d (zj g) hd hgl (by rw [zk];omega)) ?_;refine zb.t (zov _ (by rw [zk];exact l2)) ?_;rw [zk,zk,zk,e1,← e2];exact .refl
theorem zoA(n d:BI)(hn:n.mag.length<=400000000)(hd:d.mag.length<=400000000)(h0:d.v≠0):
  ze Tryz.prog 134 [.agg (biE n),.agg (biE d)] [] (.tup [.agg (brE (ofQ (Rat.divInt n.v d.v))),i64 0]) []:=by
 refine zd tok mix Tryz.func134 rfl rfl rfl ?_;refine zb.t (zfa d oM) ?_;refine Br.mk (fun h=>absurd (Int.sign_eq_zero_iff_zero.1 h) h0) (fun _=>?_);refine zb.t (zcy n d hn hd h0) ?_;exact zS .refl .refl
theorem zsG(n d:BI)(hd:d.mag.length<=400000000)(h0:d.v=0):
  ze Tryz.prog 134 [.agg (biE n),.agg (biE d)] [] (.tup [.agg [bl false,.sl dgE [],bl false,.sl dgE []],i64 9]) []:=by
 refine zd tok mix Tryz.func134 rfl rfl rfl ?_;refine zb.t (zfa d oM) ?_;rw [h0];refine Br.mk (fun _=>?_) (fun h=>absurd rfl h);exact zS (zuI (.cons .refl (.cons zI (.cons .refl (.cons zI .nil))))) .refl
theorem qG(n:Int)(hn:R64 n):ze Tryz.prog 80 [i64 n] [] (.agg (brE (ofQ (n:Rat)))) []:=by
 refine zd tok mix Tryz.func80 rfl rfl rfl ?_;refine zb.t (zbn n hn) ?_;refine zb.t (zbn 1 dC) ?_;have e:ofQ (n:Rat)=⟨ofZ n,ofZ 1⟩:=by unfold ofQ;rw [Rat.num_intCast,Rat.den_intCast];rfl
 rw [e];exact .refl
theorem zkA(n d:Int)(hn:R64 n)(hd:R64 d)(h0:d≠0):ze Tryz.prog 81 [i64 n,i64 d] [] (.tup [.agg (brE (ofQ (Rat.divInt n d))),i64 0]) []:=by
 refine zd tok mix Tryz.func81 rfl rfl rfl ?_;have l1:=ye hn;have l2:=ye hd;refine zb.t (zbn n hn) ?_;refine zb.t (zbn d hd) ?_;refine zb.t (zoA (ofZ n) (ofZ d) (by rw [zB];omega) (by rw [zB];omega) (by rw [zJ];exact h0)) ?_;rw [zJ,zJ];exact zS .refl .refl
theorem kv(a:BR)(ha:a.len<=400000000):ze Tryz.prog 136 [.agg (brE a)] [] (.agg (brE (ofQ a.v))) []:=by
 have h1:a.num.mag.length<=a.len:=Nat.le_max_left _ _;have h2:a.den.mag.length<=a.len:=Nat.le_max_right _ _;refine zd tok mix Tryz.func136 rfl rfl rfl ?_
 by_cases h:a.den.v=0
 ·refine zb.t (zsG a.num a.den oM h) ?_;refine Br.y ?_;refine zb.t (qG 0 dC) ?_;have e:a.v=((0:Int):Rat):=by unfold BR.v;rw [h,Rat.divInt_zero];rfl
  rw [e];exact .refl
 ·refine zb.t (zoA a.num a.den oM oM h) ?_;refine Br.mk (fun h=>absurd rfl h) (fun _=>?_);exact .refl
theorem yL(q:Rat):(ofQ q).num.mag.length<=qA q/\(ofQ q).den.mag.length<=qA q:=⟨kj q,ku q⟩
theorem qt(q:Rat):(ofQ q).num.v=q.num:=zJ _
theorem qm(q:Rat):(ofQ q).den.v=q.den:=zJ _
theorem zhJ(a b:BR)(ha:a.len<=100000000)(hb:b.len<=100000000):ze Tryz.prog 138 [.agg (brE a),.agg (brE b)] []
  (.tup [.agg (biE (ofZ (a.v.num*b.v.den))),.agg (biE (ofZ (b.v.num*a.v.den))),.agg (biE (ofZ (a.v.den*b.v.den)))]) []:=by
 have h1:=zt a;have h2:=zt b;have h3:=yL a.v;have h4:=yL b.v;refine zd tok mix Tryz.func138 rfl rfl rfl ?_;refine Dr.k ?_;refine zb.t (kv a oM) ?_;refine zb.t (kv b oM) ?_;refine Dr.k ?_;refine zb.t (zbI (ofQ a.v).num (ofQ b.v).den oM oM) ?_;refine zb.t (zbI (ofQ b.v).num (ofQ a.v).den oM oM) ?_;refine zb.t (zbI (ofQ a.v).den (ofQ b.v).den oM oM) ?_;rw [qt,qt,qm,qm];exact .refl
theorem zjb(a b:BR)(ha:a.len<=50000000)(hb:b.len<=50000000):ze Tryz.prog 84 [.agg (brE a),.agg (brE b)] [] (.agg (brE (ofQ (a.v+b.v)))) []:=by
 have h1:=zt a;have h2:=zt b;have n1:=kj a.v;have n2:=kj b.v;have d1:=ku a.v;have d2:=ku b.v;have m1:=zZ a.v.num b.v.den;have m2:=zZ b.v.num a.v.den;have m3:=zZ a.v.den b.v.den;have m4:=zcv (a.v.num*b.v.den) (b.v.num*a.v.den);refine zd tok mix Tryz.func84 rfl rfl rfl ?_;refine zb.t (zhJ a b oM oM) ?_;refine Dr.k ?_;refine zb.t (zrW (ofZ (a.v.num*b.v.den)) (ofZ (b.v.num*a.v.den)) (by rw [zB];omega) (by rw [zB];omega)) ?_;rw [zJ,zJ]
 refine zb.t (zcy (ofZ (a.v.num*b.v.den+b.v.num*a.v.den)) (ofZ (a.v.den*b.v.den)) (by rw [zB];omega) (by rw [zB];omega) (by rw [zJ];exact jU _ _)) ?_;rw [zJ,zJ,zfe];exact .refl
theorem zlE(a b:BR)(ha:a.len<=50000000)(hb:b.len<=50000000):ze Tryz.prog 145 [.agg (brE a),.agg (brE b)] [] (.agg (brE (ofQ (a.v*b.v)))) []:=by
 have h1:=zt a;have h2:=zt b;have h3:=yL a.v;have h4:=yL b.v;have n1:=kj a.v;have n2:=kj b.v;have d1:=ku a.v;have d2:=ku b.v;have m1:=zZ a.v.num b.v.num;have m3:=zZ a.v.den b.v.den;refine zd tok mix Tryz.func145 rfl rfl rfl ?_;refine Dr.k ?_;refine zb.t (kv a oM) ?_;refine zb.t (kv b oM) ?_;refine Dr.k ?_;refine zb.t (zbI (ofQ a.v).num (ofQ b.v).num oM oM) ?_;refine zb.t (zbI (ofQ a.v).den (ofQ b.v).den oM oM) ?_;rw [qt,qt,qm,qm]
 refine zb.t (zcy (ofZ (a.v.num*b.v.num)) (ofZ (a.v.den*b.v.den)) (by rw [zB];omega) (by rw [zB];omega) (by rw [zJ];exact jU _ _)) ?_;rw [zJ,zJ,zff];exact .refl
theorem zlF(a:BR)(ha:a.len<=100000000):ze Tryz.prog 83 [.agg (brE a)] [] (.agg (biE (ofZ a.v.floor))) []:=by
 have h1:=zt a;have h3:=yL a.v;have h0:=a.v.den_nz;refine zd tok mix Tryz.func83 rfl rfl rfl ?_;refine zb.t (kv a oM) ?_;refine zb.t (zoy (ofQ a.v).num (ofQ a.v).den oM oM (by rw [qm];omega)) ?_;rw [qt,qm,← Rat.floor_def];exact .refl
def vn(q:Rat):Nat:=max (zX q.num.natAbs) (zX q.den)
theorem vo(a:BR)(ha:a.len<=100000000):ze Tryz.prog 118 [.agg (brE a)] [] (i64 (vn a.v)) []:=by
 have h1:=zt a;have h3:=yL a.v;refine zd tok mix Tryz.func118 rfl rfl rfl ?_;refine zb.t (kv a oM) ?_;refine Dr.k ?_;refine zb.t (zja (ofQ a.v).num oM) ?_;refine zb.t (zja (ofQ a.v).den oM) ?_;rw [qt,qm,Int.natAbs_natCast];refine zm ?_;unfold vn;simp only [zb9];omega
end Go.Gs
