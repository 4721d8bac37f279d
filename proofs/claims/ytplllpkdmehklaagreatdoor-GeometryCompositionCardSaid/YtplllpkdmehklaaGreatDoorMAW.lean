/- Integers, the program's. -/
import Derived.Test.YtplllpkdmehklaaGreatDoorMA
import Derived.Test.YtplllpkdmehklaaGreatDoorMAV
import Derived.Test.YtplllpkdmehklaaGreatDoorMAT
import Derived.Test.YtplllpkdmehklaaGreatDoorMAS
set_option maxRecDepth 100000
set_option maxHeartbeats 8000000
set_option linter.all false
namespace Go.Gs
open Go.Proofs
theorem zep(p:Prop)[i:Decidable p](m:List Dig)(hm:m.length<=1000000000):
  zd Tryz.prog 193 [.pr p i,.sl dgE m] [] (.agg (biE (ofZ (if p then -(val m:Int) else val m)))) []:=by
 refine zc tok mix Tryz.func193 rfl rfl rfl ?_;refine zb.t (vI m hm) ?_;have hd:=jm (n:=val m);refine Br.mk (fun h=>?_) (fun h=>?_)
 ·intro hl;refine qK (.cons (zF ?_) (.cons (qy ?_) .nil))
  ·rw [za7,if_pos h];omega
  ·rw [zdR,if_pos h];congr 1;omega
 ·refine qK (.cons (ze ?_) (.cons (qy ?_) .nil))
  ·rw [za7,if_neg h];omega
  ·rw [zdR,if_neg h];congr 1
theorem zBj(m:List Dig)(hm:m.length<=1000000000):zd Tryz.prog 193 [bl true,.sl dgE m] [] (.agg (biE (ofZ (-(val m:Int))))) []:=by
 have h:=(zep True m hm).args (.cons (zP trivial) LEs.refl)
 rwa [if_pos trivial] at h
theorem zvM(m:List Dig)(hm:m.length<=1000000000):zd Tryz.prog 193 [bl false,.sl dgE m] [] (.agg (biE (ofZ (val m:Int)))) []:=by
 have h:=(zep False m hm).args (.cons (ze not_false) LEs.refl)
 rwa [if_neg not_false] at h
theorem zvN(a:BI)(hm:a.mag.length<=1000000000):
  zd Tryz.prog 193 [pr (a.neg=true),.sl dgE a.mag] [] (.agg (biE (ofZ a.v))) []:=zep (a.neg=true) a.mag hm
theorem zdV(n:Int)(hn:R64 n):zd Tryz.prog 146 [i64 n] [] (.agg (biE (ofZ n))) []:=by
 refine zc tok mix Tryz.func146 rfl rfl rfl ?_;refine Br.mk (fun h=>?_) (fun h=>?_)
 ·refine Ar.wrap ?_;refine Ar.wrap ?_;have e:IntKind.u64.wrap (-IntKind.u64.wrap n)=((n.natAbs:Nat):Int):=by rw [yo,yo];omega
  rw [e];refine zb.t (zdT n.natAbs oM) ?_;refine zb.t (zBj (zk n.natAbs) (by have:=uZ hn;unfold jt at this;omega)) ?_;rw [zm,show (-(n.natAbs:Int))=n by omega];exact .refl
 ·refine Ar.wrap ?_;have e:IntKind.u64.wrap n=((n.natAbs:Nat):Int):=by rw [yo];omega
  rw [e];refine zb.t (zdT n.natAbs oM) ?_;refine zb.t (zvM (zk n.natAbs) (by have:=uZ hn;unfold jt at this;omega)) ?_;rw [zm,show (n.natAbs:Int)=n by omega];exact .refl
theorem ziS(a:BI)(ha:a.mag.length<=900000000):zd Tryz.prog 192 [.agg (biE a)] [] (i64 a.v.sign) []:=by
 refine zc tok mix Tryz.func192 rfl rfl rfl ?_;refine zb.t (zn7 a.mag ha) ?_;have h1:=zbu (n:=val a.mag);have h2:=a.v_eq;refine Br.mk (fun h=>?_) (fun h=>?_)
 ·have:a.v=0:=by omega
  exact zj (by rw [this];rfl)
 refine Br.mk (fun h3=>?_) (fun h3=>?_)
 ·refine zj (Int.sign_eq_neg_one_of_neg ?_).symm
  rcases h2 with ⟨e1,e2⟩ | ⟨e1,e2⟩
  ·omega
  ·rw [e1] at h3;cases h3
 ·refine zj (Int.sign_eq_one_of_pos ?_).symm
  rcases h2 with ⟨e1,e2⟩ | ⟨e1,e2⟩
  ·exact absurd e1 h3
  ·omega
theorem zAv(a:BI)(ha:a.mag.length<=1000000000):zd Tryz.prog 147 [.agg (biE a)] [] (.agg (biE (ofZ (-a.v)))) []:=by
 refine zc tok mix Tryz.func147 rfl rfl rfl ?_;refine zb.t (zep (¬a.neg=true) a.mag ha) ?_
 have:(if ¬a.neg=true then -(val a.mag:Int) else (val a.mag:Int))= -a.v:=by
  rcases a.v_eq with ⟨h1,h2⟩ | ⟨h1,h2⟩ <;> simp [h1,h2]
 rw [this];exact .refl
theorem zAw(a b:BI)(ha:a.mag.length<=800000000)(hb:b.mag.length<=800000000):zd Tryz.prog 149 [.agg (biE a),.agg (biE b)] [] (.agg (biE (ofZ (a.v+b.v)))) []:=by
 refine zc tok mix Tryz.func149 rfl rfl rfl ?_;refine Br.mk (fun h=>?_) (fun h=>?_)
 ·refine Dr.k ?_;refine zb.t (zAt a.mag b.mag oM oM) ?_;have hl:=ziN ha hb;refine zb.t (zep (a.neg=true) _ oM) ?_
  have:(if a.neg=true then -(val (zk (val a.mag+val b.mag)):Int) else (val (zk (val a.mag+val b.mag)):Int))=a.v+b.v:=by
   rw [zm]
   rcases a.v_eq with ⟨h1,h2⟩ | ⟨h1,h2⟩ <;> rcases b.v_eq with ⟨h3,h4⟩ | ⟨h3,h4⟩ <;> simp [h1,h3] at h <;> simp [h1,h2,h4] <;> omega
  rw [this];exact .refl
 ·refine zb.t (zAu a.mag b.mag oM oM) ?_;have hl:(zk (val a.mag - val b.mag)).length<=1000000000:=Nat.le_trans (qf (Nat.sub_le _ _)) (Nat.le_trans (zG _) oM);have hl2:(zk (val b.mag - val a.mag)).length<=1000000000:=Nat.le_trans (qf (Nat.sub_le _ _)) (Nat.le_trans (zG _) oM);refine Br.mk (fun h2=>?_) (fun h2=>?_)
  ·refine zb.t (zep (a.neg=true) _ hl) ?_
   have:(if a.neg=true then -(val (zk (val a.mag - val b.mag)):Int) else (val (zk (val a.mag - val b.mag)):Int))=a.v+b.v:=by
    rw [zm]
    rcases a.v_eq with ⟨h1,h2⟩ | ⟨h1,h2⟩ <;> rcases b.v_eq with ⟨h3,h4⟩ | ⟨h3,h4⟩ <;> simp [h1,h3] at h <;> simp [h1,h2,h4] <;> omega
   rw [this];exact .refl
  ·refine zb.t (zAu b.mag a.mag oM oM) ?_;refine zb.t (zep (b.neg=true) _ hl2) ?_
   have:(if b.neg=true then -(val (zk (val b.mag - val a.mag)):Int) else (val (zk (val b.mag - val a.mag)):Int))=a.v+b.v:=by
    rw [zm]
    rcases a.v_eq with ⟨h1,h2⟩ | ⟨h1,h2⟩ <;> rcases b.v_eq with ⟨h3,h4⟩ | ⟨h3,h4⟩ <;> simp [h1,h3] at h <;> simp [h3,h2,h4] <;> omega
   rw [this];exact .refl
theorem zM(z:Int):(ofZ z).mag.length=jt z:=rfl
theorem zn8(a b:BI)(ha:a.mag.length<=800000000)(hb:b.mag.length<=800000000):zd Tryz.prog 191 [.agg (biE a),.agg (biE b)] [] (.agg (biE (ofZ (a.v - b.v)))) []:=by
 refine zc tok mix Tryz.func191 rfl rfl rfl ?_;refine Dr.k ?_;refine zb.t (zAv b oM) ?_;have h1:=vZ b;refine zb.t (zAw a (ofZ (-b.v)) oM (by rw [zM,vH];omega)) ?_;rw [zZ,← Int.sub_eq_add_neg];exact .refl
theorem zeq(a b:BI)(ha:a.mag.length<=400000000)(hb:b.mag.length<=400000000):zd Tryz.prog 143 [.agg (biE a),.agg (biE b)] [] (.agg (biE (ofZ (a.v*b.v)))) []:=by
 refine zc tok mix Tryz.func143 rfl rfl rfl ?_;refine Dr.k ?_;refine zb.t (n_mul a.mag b.mag ha hb) ?_
 have hl:(zk (val a.mag*val b.mag)).length<=1000000000:=by
  refine Nat.le_trans (yd (k:=a.mag.length+b.mag.length) ?_) oM;rw [Nat.pow_add];exact Nat.mul_lt_mul_of_lt_of_lt (qT _) (qT _)
 refine zb.t (zep (¬(a.neg=true↔b.neg=true)) _ hl) ?_;rw [zm,zAr];exact .refl
theorem zn9(a:BI)(ha:a.mag.length<=900000000):zd Tryz.prog 166 [.agg (biE a)] [] (i64 (kA a.v.natAbs)) []:=by
 refine zc tok mix Tryz.func166 rfl rfl rfl ?_;refine zb.t (zn7 a.mag ha) ?_;rw [← a.v_abs];exact .refl
theorem zvO{a b:Int}(hb:0 < b):a / b=if a < 0 then -((a.natAbs / b.natAbs+(if a.natAbs % b.natAbs=0 then 0 else 1):Nat):Int) else ((a.natAbs / b.natAbs:Nat):Int):=by
 have hdm:=Nat.div_add_mod a.natAbs b.natAbs;have hm:=Nat.mod_lt a.natAbs (show b.natAbs > 0 by omega);generalize a.natAbs / b.natAbs=q at*;generalize a.natAbs % b.natAbs=r at*;have e:(b:Int)*(q:Int)=((b.natAbs*q:Nat):Int):=by rw [Int.natCast_mul];congr 1;omega
 by_cases h:a < 0
 ·rw [if_pos h]
  by_cases h0:r=0
  ·rw [if_pos h0,Nat.add_zero];exact ((Int.ediv_emod_unique hb).2 ⟨(by rw [Int.mul_neg,e];omega:(0:Int)+b*(-(q:Int))=a),oM,hb⟩).1
  ·rw [if_neg h0];exact ((Int.ediv_emod_unique hb (r:=b - r)).2 ⟨by rw [Int.mul_neg,Int.natCast_add,Int.mul_add,e];omega,oM,oM⟩).1
 ·rw [if_neg h];exact ((Int.ediv_emod_unique hb (r:=r)).2 ⟨by rw [e];omega,oM,oM⟩).1
theorem ziT(p:Prop)[i:Decidable p]:zd Tryz.prog 203 [.pr p i] [] (.fn 246 [.loc 0 0]) [(0,.box 4 [.pr p i])]:=by
 refine qS tok mix Tryz.func203 rfl rfl rfl ?_;exact ⟨some 0,zyK (.cons (.loc 0 0 rfl) .nil),rfl,rfl⟩
theorem zgr(p:Prop)[i:Decidable p](m:List Dig)(hm:m.length<=1000000000):
  zd Tryz.prog 246 [.sl dgE m,.ptr [.pr p i]] [] (.agg (biE (ofZ (if p then -(val m:Int) else val m)))) []:=by
 refine zc tok mix Tryz.func246 rfl rfl rfl ?_;refine zb.t (zep p m hm) ?_;exact .refl
theorem zvP(a b:BI)(ha:a.mag.length<=200000000)(hb:b.mag.length<=200000000)(h0:0 < b.v):
  zd Tryz.prog 151 [.agg (biE a),.agg (biE b)] [] (.tup [.agg (biE (ofZ (a.v / b.v))),.agg (biE (ofZ (a.v % b.v))),i64 0]) []:=by
 refine zc tok mix Tryz.func151 rfl rfl rfl ?_;refine Dr.k ?_;refine zb.t (zvN a oM) ?_;refine zb.t (zvN b oM) ?_;have la:=vZ a;have lb:=vZ b;refine zb.t (ziR (zk a.v.natAbs) (zk b.v.natAbs) (by unfold jt at la;omega) (by unfold jt at lb;omega) (by rw [zm];omega)) ?_;rw [zm,zm];refine Br.mk (fun h=>absurd rfl h) (fun _=>?_);have hza:=za7 a.v;have hzb:=za7 b.v;have hq:=zvO (a:=a.v) h0;have hm:=Int.emod_def a.v b.v
 have zq:jt (a.v / b.v)<=jt a.v:=zdS (by
  have:=Int.natAbs_ediv_le_natAbs a.v b.v
  exact this)
 have zp:=kC (a.v / b.v) b.v;have neg1:a.v < 0->¬((ofZ a.v).neg=true↔(ofZ b.v).neg=true):=fun h=>by rw [hza,hzb];omega
 have neg2:¬a.v < 0->¬¬((ofZ a.v).neg=true↔(ofZ b.v).neg=true):=fun h=>by rw [hza,hzb];omega
 have q1:(zk (a.v.natAbs / b.v.natAbs)).length<=200000000:=Nat.le_trans (qf (Nat.div_le_self _ _)) (by unfold jt at la;omega);refine Br.mk (fun h1=>?_) (fun h1=>?_)
 ·have hneg:a.v < 0:=Classical.byContradiction fun h=>neg2 h h1
  intro hl;refine Br.mk (fun h2=>?_) (fun h2=>?_)
  ·have hr:a.v.natAbs % b.v.natAbs≠0:=jm.1 oM;refine zb.t (zdT 1 dC) ?_;refine zb.t (zAt _ _ oM (by decide +kernel)) ?_;rw [zm,zm];rw [if_pos hneg,if_neg hr] at hq;have ql:=ziN (a:=zk (a.v.natAbs / b.v.natAbs)) (b:=zk 1) q1 (by decide +kernel);rw [zm,zm] at ql;refine zb.fresh _ _ (ziT (¬((ofZ a.v).neg=true↔(ofZ b.v).neg=true))) rfl rfl (.inr rfl) ?_;refine zb.t (zgr _ (zk (a.v.natAbs / b.v.natAbs+1)) oM) ?_;rw [zm,if_pos h1,← hq];refine Dr.k ?_;refine zb.t (zeq (ofZ (a.v / b.v)) (ofZ b.v) (by rw [zM];omega) (by rw [zM];omega)) ?_
   refine zb.t (zn8 (ofZ a.v) (ofZ ((ofZ (a.v / b.v)).v*(ofZ b.v).v)) (by rw [zM];omega) (by rw [zM,zZ,zZ];omega)) ?_;rw [zZ,zZ,zZ,zZ,Int.mul_comm (a.v / b.v),← hm];exact .refl
  ·have hr:a.v.natAbs % b.v.natAbs=0:=yr.1 (List.length_eq_zero_iff.1 oM);rw [if_pos hneg,if_pos hr,Nat.add_zero] at hq;refine zb.fresh _ _ (ziT (¬((ofZ a.v).neg=true↔(ofZ b.v).neg=true))) rfl rfl (.inr rfl) ?_;refine zb.t (zgr _ (zk (a.v.natAbs / b.v.natAbs)) oM) ?_;rw [zm,if_pos h1,← hq];refine Dr.k ?_;refine zb.t (zeq (ofZ (a.v / b.v)) (ofZ b.v) (by rw [zM];omega) (by rw [zM];omega)) ?_;refine zb.t (zn8 (ofZ a.v) (ofZ ((ofZ (a.v / b.v)).v*(ofZ b.v).v)) (by rw [zM];omega) (by rw [zM,zZ,zZ];omega)) ?_;rw [zZ,zZ,zZ,zZ,Int.mul_comm (a.v / b.v),← hm]
   exact .refl
 ·have hneg:¬a.v < 0:=fun h=>h1 (neg1 h)
  rw [if_neg hneg] at hq;refine zb.fresh _ _ (ziT (¬((ofZ a.v).neg=true↔(ofZ b.v).neg=true))) rfl rfl (.inr rfl) ?_;refine zb.t (zgr _ (zk (a.v.natAbs / b.v.natAbs)) oM) ?_;rw [zm,if_neg h1,← hq];refine Dr.k ?_;refine zb.t (zeq (ofZ (a.v / b.v)) (ofZ b.v) (by rw [zM];omega) (by rw [zM];omega)) ?_;refine zb.t (zn8 (ofZ a.v) (ofZ ((ofZ (a.v / b.v)).v*(ofZ b.v).v)) (by rw [zM];omega) (by rw [zM,zZ,zZ];omega)) ?_;rw [zZ,zZ,zZ,zZ,Int.mul_comm (a.v / b.v),← hm];exact .refl
theorem zrJ(a:BI)(ha:a.mag.length<=1000000000):
  zd Tryz.prog 102 [.agg (biE a)] [] (.tup [i64 (zaY a.v),pr (-9223372036854775808<=a.v/\a.v<=9223372036854775807)]) []:=by
 refine zc tok mix Tryz.func102 rfl rfl rfl ?_;refine zb.t (vI a.mag ha) ?_;have hl0:=zG a.mag;have hv:=a.v_eq;generalize hz:a.v=z at*;have hv':z= -(val a.mag:Int)∨z=(val a.mag:Int):=hv.imp And.right And.right
 have bad:¬(-9223372036854775808<=z/\z<=9223372036854775807)->LE (.tup [i64 0,bl false]) (.tup [i64 (zaY z),pr (-9223372036854775808<=z/\z<=9223372036854775807)]):=fun h=>
  zU (zj (by rw [zaY,if_neg h])) (ze h)
 have good:∀n:Int,n=z-> -9223372036854775808<=z/\z<=9223372036854775807->LE (.tup [i64 n,bl true]) (.tup [i64 (zaY z),pr (-9223372036854775808<=z/\z<=9223372036854775807)]):=fun n hn h=>
  zU (zj (by rw [zaY,if_pos h,hn])) (zP h)
 obtain ⟨m,hm⟩:∃m,zk (val a.mag)=m:=⟨_,rfl⟩;have hmv:val m=val a.mag:=by rw [← hm,zm]
 have hbig:2 < m.length->18446744073709551616<=val a.mag:=fun h=>by
  have h0:val a.mag≠0:=jm.1 (by rw [hm];omega);have:=zmh h0;rw [hm] at this;exact Nat.le_trans (Nat.le_trans dC (Nat.pow_le_pow_right dC (show 2<=m.length - 1 by omega))) this
 rw [hm];rw [hm] at hl0;intro hl1;refine Ar.o ?_
 refine ⟨Nat,fun j=>⟨[(6,i64 ((j:Int) - 1)),(5,u64 (val (m.drop j))),(4,.sl dgE m),(1,.loc 0 0)],[(0,.box 35 (biE a))],1,55,0⟩,
  fun j=>j<=m.length/\(j < m.length->m.length<=2),fun j=>j,m.length,?_,?_,?_⟩
 ·exact ⟨Nat.le_refl _,fun h=>absurd h (Nat.lt_irrefl _)⟩
 ·exact z9 [(0,some 0)] ⟨rfl,congrArg (fun n=>some (u64 n)) (by rw [z5 (Nat.le_refl _)];rfl),rfl,rfl,trivial⟩ ⟨rfl,trivial⟩
 rintro j ⟨h1,h2⟩
 refine Br.mk (fun h3=>?_) (fun h3=>?_)
 ·intro hl2;refine Br.mk (fun h4=>?_) (fun h4=>?_)
  ·have hd:=zB m (j - 1);rw [show j - 1+1=j by omega] at hd
   have hdl:val (m.drop j) < 4294967296:=by
    have:=qT (m.drop j);rw [List.length_drop] at this;exact Nat.lt_of_lt_of_le this (Nat.le_trans (Nat.pow_le_pow_right dC (show m.length - j<=1 by omega)) dC)
   refine Ob.o1 ?_;refine Ar.fit (by simp only [Int.reducePow];omega) ?_;refine Ob.o ?_;intro x hx;rw [show ((j:Int) - 1).toNat=j - 1 by omega] at hx;have dx:=zS hx;have hxl:=x.isLt;refine Ar.o ?_;refine ⟨_,(zft (x:=val (m.drop j)) (y:=x.val) hdl hxl rfl).symm,?_⟩;refine Ar.o ?_;exact ⟨j - 1,⟨oM,fun _=>by omega⟩,z9 [(0,some 0)] ⟨congrArg (fun n=>some (i64 n)) oM,congrArg (fun n=>some (u64 n)) (by rw [hd,dx];omega),rfl,rfl,trivial⟩ ⟨rfl,trivial⟩,by dsimp only;omega⟩
  ·intro hl3;have:=hbig oM;refine Br.mk (fun _=>?_) (fun h=>absurd h oM);exact bad oM
 ·have hj:j=0:=by omega
  subst hj;have hd0:val (m.drop 0)=val a.mag:=by rw [List.drop_zero,hmv]
  intro hl3
  have hv2:¬2 < m.length->val a.mag < 18446744073709551616:=fun h=>by
   have:=qT m;rw [hmv] at this;exact Nat.lt_of_lt_of_le this (Nat.le_trans (Nat.pow_le_pow_right dC (show m.length<=2 by omega)) dC)
  refine Br.mk (fun h=>?_) (fun h=>?_)
  ·have:=hbig oM;exact bad oM
  have hs:=hv2 oM;have negz:a.neg=true->z= -(val a.mag:Int):=fun h=>hv.elim And.right fun g=>by rw [h] at g;cases g.1
  have posz:¬a.neg=true->z=(val a.mag:Int):=fun h=>hv.elim (fun g=>absurd g.1 h) And.right
  have hneg:a.neg=true->val a.mag<=9223372036854775808->IntKind.i64.wrap (IntKind.u64.wrap (-(val (m.drop 0):Int)))=z:=fun h hle=>by
   have:=negz h;rw [hd0,yo];show IntKind.i64.wrap _=_;simp only [IntKind.wrap,IntKind.bits,IntKind.signed];simp;omega
  refine Br.mk (fun g1=>bad oM) (fun g1=>?_);refine Br.mk (fun g2=>?_) (fun g2=>?_)
  ·refine Br.mk (fun g3=>bad ?_) (fun g3=>?_)
   ·have:=posz g3;omega
   have hn:a.neg=true:=Classical.byContradiction g3;have:=negz hn;refine Br.mk (fun _=>?_) (fun g4=>absurd hn g4);refine Ar.wrap ?_;refine Ar.wrap ?_;exact good _ (hneg hn oM) oM
  ·refine Br.mk (fun g4=>?_) (fun g4=>?_)
   ·have:=negz g4;refine Ar.wrap ?_;refine Ar.wrap ?_;exact good _ (hneg g4 oM) oM
   ·have:=posz g4;refine Ar.o ?_;exact good _ oM oM
structure BR where
 num:BI
 den:BI
 deriving DecidableEq
def BR.v(a:BR):Rat:=Rat.divInt a.num.v a.den.v
def ofQ(q:Rat):BR:=⟨ofZ q.num,ofZ q.den⟩
theorem zV(q:Rat):(ofQ q).v=q:=by unfold BR.v ofQ;rw [zZ,zZ,Rat.num_divInt_den]
def BR.len(a:BR):Nat:=max a.num.mag.length a.den.mag.length
def jX(q:Rat):Nat:=max (jt q.num) (jt q.den)
theorem zz(q:Rat):(ofQ q).len=jX q:=rfl
theorem ziU{n d:Int}(hd:d≠0):(if n.sign*d.sign < 0 then -((n.natAbs / Nat.gcd n.natAbs d.natAbs:Nat):Int) else ((n.natAbs / Nat.gcd n.natAbs d.natAbs:Nat):Int))=(Rat.divInt n d).num:=by
 have hg0:0 < Nat.gcd n.natAbs d.natAbs:=Nat.gcd_pos_of_pos_right _ oM;rw [Rat.num_divInt,show d.gcd n=Nat.gcd n.natAbs d.natAbs from Nat.gcd_comm _ _];obtain ⟨k,hk⟩:((Nat.gcd n.natAbs d.natAbs:Nat):Int) ∣ n:=Int.ofNat_dvd_left.2 (Nat.gcd_dvd_left _ _);generalize Nat.gcd n.natAbs d.natAbs=g at*;have e1:n.natAbs / g=k.natAbs:=by rw [hk,Int.natAbs_mul,Int.natAbs_natCast,Nat.mul_div_cancel_left _ hg0]
 have e2:d.sign*n / (g:Int)=d.sign*k:=by
  rw [hk,← Int.mul_assoc,Int.mul_comm d.sign,Int.mul_assoc,Int.mul_ediv_cancel_left _ oM]
 have e3:n.sign=k.sign:=by rw [hk,Int.sign_mul,Int.sign_eq_one_of_pos oM,Int.one_mul]
 rw [e1,e2,e3]
 rcases Int.lt_trichotomy d 0 with h | h | h
 ·rw [Int.sign_eq_neg_one_of_neg h]
  rcases Int.lt_trichotomy k 0 with h' | h' | h'
  ·rw [Int.sign_eq_neg_one_of_neg h',if_neg dC];omega
  ·subst h';rw [if_neg dC];rfl
  ·rw [Int.sign_eq_one_of_pos h',if_pos dC];omega
 ·exact absurd h hd
 ·rw [Int.sign_eq_one_of_pos h]
  rcases Int.lt_trichotomy k 0 with h' | h' | h'
  ·rw [Int.sign_eq_neg_one_of_neg h',if_pos dC];omega
  ·subst h';rw [if_neg dC];rfl
  ·rw [Int.sign_eq_one_of_pos h',if_neg dC];omega
theorem ziV{n d:Int}(hd:d≠0):(Rat.divInt n d).den=d.natAbs / Nat.gcd n.natAbs d.natAbs:=by
 rw [Rat.den_divInt,if_neg hd,show d.gcd n=Nat.gcd n.natAbs d.natAbs from Nat.gcd_comm _ _]
theorem za8{n d:Int}(hd:d≠0):jX (Rat.divInt n d)<=max (jt n) (jt d):=by
 have h1:jt (Rat.divInt n d).num<=jt n:=zdS (by
  rw [← ziU hd];have:=Nat.div_le_self n.natAbs (Nat.gcd n.natAbs d.natAbs);generalize n.natAbs / Nat.gcd n.natAbs d.natAbs=x at*
  split <;> omega)
 have h2:jt (Rat.divInt n d).den<=jt d:=zdS (by
  rw [ziV hd];have:=Nat.div_le_self d.natAbs (Nat.gcd n.natAbs d.natAbs);generalize d.natAbs / Nat.gcd n.natAbs d.natAbs=x at*
  omega)
 unfold jX;omega
theorem kR(q:Rat):jt q.num<=jX q:=Nat.le_max_left _ _
theorem kY(q:Rat):jt q.den<=jX q:=Nat.le_max_right _ _
theorem zD(a:BR):jX a.v<=max a.len 1:=by
 by_cases h:a.den.v=0
 ·have:a.v=0:=by unfold BR.v;rw [h,Rat.divInt_zero]
  rw [this];have:jX 0<=1:=by decide +kernel
  omega
 ·have:=za8 (n:=a.num.v) h;have h1:=vZ a.num;have h2:=vZ a.den;unfold BR.len BR.v;omega
theorem zc5(q:Rat):(q.den:Int)≠0:=by have:=q.den_nz;omega
theorem ziW(x y:Rat):Rat.divInt (x.num*y.den+y.num*x.den) (x.den*y.den)=x+y:=by
 have:=Rat.divInt_add_divInt x.num y.num (zc5 x) (zc5 y);rw [Rat.num_divInt_den,Rat.num_divInt_den] at this;exact this.symm
theorem ziX(x y:Rat):Rat.divInt (x.num*y.num) (x.den*y.den)=x*y:=by
 have:=Rat.divInt_mul_divInt x.num y.num (d₁:=x.den) (d₂:=y.den);rw [Rat.num_divInt_den,Rat.num_divInt_den] at this;exact this.symm
theorem zvQ(x y:Rat):Rat.divInt (x.num*y.den - y.num*x.den) (x.den*y.den)=x - y:=by
 have:=Rat.divInt_add_divInt x.num (-y.num) (zc5 x) (zc5 y);rw [Rat.num_divInt_den,← Rat.neg_divInt,Rat.num_divInt_den,Int.neg_mul,← Int.sub_eq_add_neg] at this;rw [← this,Rat.sub_eq_add_neg]
theorem uA(x y:Rat):(x.den:Int)*(y.den:Int)≠0:=Int.mul_ne_zero (zc5 x) (zc5 y)
theorem zc6(x y:Rat):jX (x+y)<=jX x+jX y+1:=by
 rw [← ziW];have h:=za8 (n:=x.num*y.den+y.num*x.den) (uA x y);have h1:=zfq (x.num*y.den) (y.num*x.den);have h2:=kC x.num y.den;have h3:=kC y.num x.den;have h4:=kC x.den y.den;have a1:=kR x;have a2:=kR y;have a3:=kY x;have a4:=kY y;omega
theorem jO(x y:Rat):jX (x*y)<=jX x+jX y:=by
 rw [← ziX];have h:=za8 (n:=x.num*y.num) (uA x y);have h2:=kC x.num y.num;have h4:=kC x.den y.den;have a1:=kR x;have a2:=kR y;have a3:=kY x;have a4:=kY y;omega
theorem ziY(z:Int):jX z<=max (jt z) 1:=by
 unfold jX;rw [Rat.num_intCast,Rat.den_intCast];have:jt ((1:Nat):Int)=1:=by decide +kernel
 omega
def brE(a:BR):List SV:=biE a.num++biE a.den
theorem zkQ(a:BI)(g:List Dig)(ha:a.mag.length<=400000000)(hg:g.length<=400000000)(h0:val g≠0):
  zd Tryz.prog 197 [.agg (biE a),.ptr [.sl dgE g]] [] (.sl dgE (zk (val a.mag / val g))) []:=by
 refine zc tok mix Tryz.func197 rfl rfl rfl ?_;refine zb.t (ziR a.mag g ha hg h0) ?_;exact .refl
theorem zfu(n d:BI)(hn:n.mag.length<=400000000)(hd:d.mag.length<=400000000)(h0:d.v≠0):
  zd Tryz.prog 148 [.agg (biE n),.agg (biE d)] [] (.agg (brE (ofQ (Rat.divInt n.v d.v)))) []:=by
 refine zc tok mix Tryz.func148 rfl rfl rfl ?_;refine zb.t (n_gcd n.mag d.mag hn hd) ?_;have e1:=ziU (n:=n.v) h0;have e2:=ziV (n:=n.v) h0;rw [n.v_abs,d.v_abs] at e1 e2;have hdz:val d.mag≠0:=by rw [← d.v_abs];omega
 have hg0:0 < Nat.gcd (val n.mag) (val d.mag):=Nat.gcd_pos_of_pos_right _ oM
 have hgl:(zk (Nat.gcd (val n.mag) (val d.mag))).length<=400000000:=by
  refine Nat.le_trans (qf (Nat.gcd_le_right _ oM)) (Nat.le_trans (zG _) hd)
 have l1:(zk (val n.mag / Nat.gcd (val n.mag) (val d.mag))).length<=1000000000:=Nat.le_trans (qf (Nat.div_le_self _ _)) (Nat.le_trans (zG _) oM);have l2:(zk (val d.mag / Nat.gcd (val n.mag) (val d.mag))).length<=1000000000:=Nat.le_trans (qf (Nat.div_le_self _ _)) (Nat.le_trans (zG _) oM);generalize Nat.gcd (val n.mag) (val d.mag)=g at*
 have s1: -1<=n.v.sign*d.v.sign/\n.v.sign*d.v.sign<=1:=by
  rcases Int.lt_trichotomy n.v 0 with h | h | h <;> rcases Int.lt_trichotomy d.v 0 with h' | h' | h' <;>
   simp [Int.sign_eq_neg_one_of_neg,Int.sign_eq_one_of_pos,h,h']
 refine Dr.k ?_;refine zb.t (ziS n oM) ?_;refine zb.t (ziS d oM) ?_;refine Ar.o ?_;refine zb.t (zkQ n (zk g) hn hgl (by rw [zm];omega)) ?_;rw [zm];refine zb.t (zep (n.v.sign*d.v.sign < 0) _ l1) ?_;refine zb.t (zkQ d (zk g) hd hgl (by rw [zm];omega)) ?_;refine zb.t (zvM _ (by rw [zm];exact l2)) ?_;rw [zm,zm,zm,e1,← e2];exact .refl
theorem zvR(n d:BI)(hn:n.mag.length<=400000000)(hd:d.mag.length<=400000000)(h0:d.v≠0):
  zd Tryz.prog 142 [.agg (biE n),.agg (biE d)] [] (.tup [.agg (brE (ofQ (Rat.divInt n.v d.v))),i64 0]) []:=by
 refine zc tok mix Tryz.func142 rfl rfl rfl ?_;refine zb.t (ziS d oM) ?_;refine Br.mk (fun h=>absurd (Int.sign_eq_zero_iff_zero.1 h) h0) (fun _=>?_);refine zb.t (zfu n d hn hd h0) ?_;exact zU .refl .refl
theorem zBk(n d:BI)(hd:d.mag.length<=400000000)(h0:d.v=0):
  zd Tryz.prog 142 [.agg (biE n),.agg (biE d)] [] (.tup [.agg [bl false,.sl dgE [],bl false,.sl dgE []],i64 9]) []:=by
 refine zc tok mix Tryz.func142 rfl rfl rfl ?_;refine zb.t (ziS d oM) ?_;rw [h0];refine Br.mk (fun _=>?_) (fun h=>absurd rfl h);exact zU (qK (.cons .refl (.cons zC (.cons .refl (.cons zC .nil))))) .refl
theorem ye(n:Int)(hn:R64 n):zd Tryz.prog 97 [i64 n] [] (.agg (brE (ofQ (n:Rat)))) []:=by
 refine zc tok mix Tryz.func97 rfl rfl rfl ?_;refine zb.t (zdV n hn) ?_;refine zb.t (zdV 1 dC) ?_;have e:ofQ (n:Rat)=⟨ofZ n,ofZ 1⟩:=by unfold ofQ;rw [Rat.num_intCast,Rat.den_intCast];rfl
 rw [e];exact .refl
theorem zqf(n d:Int)(hn:R64 n)(hd:R64 d)(h0:d≠0):zd Tryz.prog 101 [i64 n,i64 d] [] (.tup [.agg (brE (ofQ (Rat.divInt n d))),i64 0]) []:=by
 refine zc tok mix Tryz.func101 rfl rfl rfl ?_;have l1:=uZ hn;have l2:=uZ hd;refine zb.t (zdV n hn) ?_;refine zb.t (zdV d hd) ?_;refine zb.t (zvR (ofZ n) (ofZ d) (by rw [zM];omega) (by rw [zM];omega) (by rw [zZ];exact h0)) ?_;rw [zZ,zZ];exact zU .refl .refl
theorem kZ(a:BR)(ha:a.len<=400000000):zd Tryz.prog 141 [.agg (brE a)] [] (.agg (brE (ofQ a.v))) []:=by
 have h1:a.num.mag.length<=a.len:=Nat.le_max_left _ _;have h2:a.den.mag.length<=a.len:=Nat.le_max_right _ _;refine zc tok mix Tryz.func141 rfl rfl rfl ?_
 by_cases h:a.den.v=0
 ·refine zb.t (zBk a.num a.den oM h) ?_;refine Br.y ?_;refine zb.t (ye 0 dC) ?_;have e:a.v=((0:Int):Rat):=by unfold BR.v;rw [h,Rat.divInt_zero];rfl
  rw [e];exact .refl
 ·refine zb.t (zvR a.num a.den oM oM h) ?_;refine Br.mk (fun h=>absurd rfl h) (fun _=>?_);exact .refl
theorem vJ(q:Rat):(ofQ q).num.mag.length<=jX q/\(ofQ q).den.mag.length<=jX q:=⟨kR q,kY q⟩
theorem jP(q:Rat):(ofQ q).num.v=q.num:=zZ _
theorem jB(q:Rat):(ofQ q).den.v=q.den:=zZ _
theorem zmo(a b:BR)(ha:a.len<=100000000)(hb:b.len<=100000000):zd Tryz.prog 144 [.agg (brE a),.agg (brE b)] []
  (.tup [.agg (biE (ofZ (a.v.num*b.v.den))),.agg (biE (ofZ (b.v.num*a.v.den))),.agg (biE (ofZ (a.v.den*b.v.den)))]) []:=by
 have h1:=zD a;have h2:=zD b;have h3:=vJ a.v;have h4:=vJ b.v;refine zc tok mix Tryz.func144 rfl rfl rfl ?_;refine Dr.k ?_;refine zb.t (kZ a oM) ?_;refine zb.t (kZ b oM) ?_;refine Dr.k ?_;refine zb.t (zeq (ofQ a.v).num (ofQ b.v).den oM oM) ?_;refine zb.t (zeq (ofQ b.v).num (ofQ a.v).den oM oM) ?_;refine zb.t (zeq (ofQ a.v).den (ofQ b.v).den oM oM) ?_;rw [jP,jP,jB,jB];exact .refl
theorem zoa(a b:BR)(ha:a.len<=50000000)(hb:b.len<=50000000):zd Tryz.prog 99 [.agg (brE a),.agg (brE b)] [] (.agg (brE (ofQ (a.v+b.v)))) []:=by
 have h1:=zD a;have h2:=zD b;have n1:=kR a.v;have n2:=kR b.v;have d1:=kY a.v;have d2:=kY b.v;have m1:=kC a.v.num b.v.den;have m2:=kC b.v.num a.v.den;have m3:=kC a.v.den b.v.den;have m4:=zfq (a.v.num*b.v.den) (b.v.num*a.v.den);refine zc tok mix Tryz.func99 rfl rfl rfl ?_;refine zb.t (zmo a b oM oM) ?_;refine Dr.k ?_;refine zb.t (zAw (ofZ (a.v.num*b.v.den)) (ofZ (b.v.num*a.v.den)) (by rw [zM];omega) (by rw [zM];omega)) ?_;rw [zZ,zZ]
 refine zb.t (zfu (ofZ (a.v.num*b.v.den+b.v.num*a.v.den)) (ofZ (a.v.den*b.v.den)) (by rw [zM];omega) (by rw [zM];omega) (by rw [zZ];exact uA _ _)) ?_;rw [zZ,zZ,ziW];exact .refl
theorem zrK(a b:BR)(ha:a.len<=50000000)(hb:b.len<=50000000):zd Tryz.prog 140 [.agg (brE a),.agg (brE b)] [] (.agg (brE (ofQ (a.v*b.v)))) []:=by
 have h1:=zD a;have h2:=zD b;have h3:=vJ a.v;have h4:=vJ b.v;have n1:=kR a.v;have n2:=kR b.v;have d1:=kY a.v;have d2:=kY b.v;have m1:=kC a.v.num b.v.num;have m3:=kC a.v.den b.v.den;refine zc tok mix Tryz.func140 rfl rfl rfl ?_;refine Dr.k ?_;refine zb.t (kZ a oM) ?_;refine zb.t (kZ b oM) ?_;refine Dr.k ?_;refine zb.t (zeq (ofQ a.v).num (ofQ b.v).num oM oM) ?_;refine zb.t (zeq (ofQ a.v).den (ofQ b.v).den oM oM) ?_;rw [jP,jP,jB,jB]
 refine zb.t (zfu (ofZ (a.v.num*b.v.num)) (ofZ (a.v.den*b.v.den)) (by rw [zM];omega) (by rw [zM];omega) (by rw [zZ];exact uA _ _)) ?_;rw [zZ,zZ,ziX];exact .refl
theorem zrL(a:BR)(ha:a.len<=100000000):zd Tryz.prog 103 [.agg (brE a)] [] (.agg (biE (ofZ a.v.floor))) []:=by
 have h1:=zD a;have h3:=vJ a.v;have h0:=a.v.den_nz;refine zc tok mix Tryz.func103 rfl rfl rfl ?_;refine zb.t (kZ a oM) ?_;refine zb.t (zvP (ofQ a.v).num (ofQ a.v).den oM oM (by rw [jB];omega)) ?_;rw [jP,jB,← Rat.floor_def];exact .refl
def zbw(q:Rat):Nat:=max (kA q.num.natAbs) (kA q.den)
theorem zbx(a:BR)(ha:a.len<=100000000):zd Tryz.prog 120 [.agg (brE a)] [] (i64 (zbw a.v)) []:=by
 have h1:=zD a;have h3:=vJ a.v;refine zc tok mix Tryz.func120 rfl rfl rfl ?_;refine zb.t (kZ a oM) ?_;refine Dr.k ?_;refine zb.t (zn9 (ofQ a.v).num oM) ?_;refine zb.t (zn9 (ofQ a.v).den oM) ?_;rw [jP,jB,Int.natAbs_natCast];refine zj ?_;unfold zbw;simp only [ze4];omega
end Go.Gs
