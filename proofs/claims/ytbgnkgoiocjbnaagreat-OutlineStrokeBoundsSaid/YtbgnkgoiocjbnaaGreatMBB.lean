/- The other text's natural numbers and integers: what rationals need. -/
import Derived.Test.YtbgnkgoiocjbnaaGreatMA
import Derived.Test.YtbgnkgoiocjbnaaGreatMBA
import Derived.Test.YtbgnkgoiocjbnaaGreatMAR
set_option maxRecDepth 100000
set_option maxHeartbeats 8000000
set_option linter.all false
namespace Go.Gs
open Go.Proofs
theorem zve(a b:List Dig)(ha:a.length<=400000000)(hb:b.length<=400000000):
  zd Tryz.prog 168 [.sl dgE a,.sl dgE b] [] (.sl dgE (zm (Nat.gcd (val a) (val b)))) []:=by
 refine zc tok mix Tryz.func168 rfl rfl rfl ?_;refine zb.t (yw _ oM) ?_;refine zb.t (yw _ oM) ?_;have hla:=zB a;have hlb:=zB b
 refine ⟨Nat×Nat,fun ⟨A,B⟩=>⟨[(5,.sl dgE (zm A)),(6,.sl dgE (zm B))],[],0,27,0⟩,
  fun x=>(zm x.1).length<=400000000/\(zm x.2).length<=400000000/\Nat.gcd x.1 x.2=Nat.gcd (val a) (val b),fun x=>x.2,(val a,val b),?_,?_,?_⟩
 ·exact ⟨by dsimp only;omega,by dsimp only;omega,rfl⟩
 ·exact zh []
 rintro ⟨A,B⟩ ⟨h1,h2,h3⟩
 dsimp only at h1 h2 h3;intro hl;refine Br.mk (fun k=>?_) (fun k=>?_)
 ·have hB:B≠0:=qN.1 oM;refine zb.t (zh6 (zm A) (zm B) oM oM (by rw [zn];exact hB)) ?_;rw [zn,zn];have hm:=Nat.mod_lt A (Nat.pos_of_ne_zero hB);refine ⟨(B,A % B),⟨h2,Nat.le_trans (kW (Nat.le_of_lt hm)) h2,?_⟩,zh [],hm⟩;dsimp only;rw [← h3,Nat.gcd_comm B,Nat.gcd_comm A B,Nat.gcd_rec B A]
 ·have hB:B=0:=jO.1 (List.length_eq_zero_iff.1 oM);subst hB;rw [Nat.gcd_zero_right] at h3;exact qb (by rw [h3])
theorem zti(m:List Dig)(hm:m.length<=1000000000):zd Tryz.prog 115 [bl false,.sl dgE m] [] (.agg (biE (ofZ (val m)))) []:=by
 have:=(vz False m hm).args (.cons (ze id) (.cons .refl .nil))
 rwa [if_neg id] at this
theorem zmV(a:BI)(hm:a.mag.length<=1000000000):zd Tryz.prog 169 [.agg (biE a)] [] (.agg (biE (ofZ (-a.v)))) []:=by
 refine zc tok mix Tryz.func169 rfl rfl rfl ?_;refine zb.t (vz (¬a.neg=true) a.mag hm) ?_
 have:(if ¬a.neg=true then -(val a.mag:Int) else (val a.mag:Int))= -a.v:=by
  rcases a.v_eq with ⟨h1,h2⟩ | ⟨h1,h2⟩ <;> simp [h1,h2]
 rw [this];exact .refl
theorem zmW(a b:BI)(ha:a.mag.length<=800000000)(hb:b.mag.length<=800000000):zd Tryz.prog 165 [.agg (biE a),.agg (biE b)] [] (.agg (biE (ofZ (a.v+b.v)))) []:=by
 refine zc tok mix Tryz.func165 rfl rfl rfl ?_;refine Br.mk (fun h=>?_) (fun h=>?_)
 ·refine Dr.k ?_;refine zb.t (zs2 a.mag b.mag oM oM) ?_;have hl:=zgu ha hb;refine zb.t (vz (a.neg=true) _ oM) ?_
  have:(if a.neg=true then -(val (zm (val a.mag+val b.mag)):Int) else (val (zm (val a.mag+val b.mag)):Int))=a.v+b.v:=by
   rw [zn]
   rcases a.v_eq with ⟨h1,h2⟩ | ⟨h1,h2⟩ <;> rcases b.v_eq with ⟨h3,h4⟩ | ⟨h3,h4⟩ <;> simp [h1,h3] at h <;> simp [h1,h2,h4] <;> omega
  rw [this];exact .refl
 ·refine zb.t (zjs a.mag b.mag oM oM) ?_;have hl:(zm (val a.mag - val b.mag)).length<=1000000000:=Nat.le_trans (kW (Nat.sub_le _ _)) (Nat.le_trans (zB _) oM);have hl2:(zm (val b.mag - val a.mag)).length<=1000000000:=Nat.le_trans (kW (Nat.sub_le _ _)) (Nat.le_trans (zB _) oM);refine Br.mk (fun h2=>?_) (fun h2=>?_)
  ·refine zb.t (vz (a.neg=true) _ hl) ?_
   have:(if a.neg=true then -(val (zm (val a.mag - val b.mag)):Int) else (val (zm (val a.mag - val b.mag)):Int))=a.v+b.v:=by
    rw [zn]
    rcases a.v_eq with ⟨h1,h2⟩ | ⟨h1,h2⟩ <;> rcases b.v_eq with ⟨h3,h4⟩ | ⟨h3,h4⟩ <;> simp [h1,h3] at h <;> simp [h1,h2,h4] <;> omega
   rw [this];exact .refl
  ·refine zb.t (zjs b.mag a.mag oM oM) ?_;refine zb.t (vz (b.neg=true) _ hl2) ?_
   have:(if b.neg=true then -(val (zm (val b.mag - val a.mag)):Int) else (val (zm (val b.mag - val a.mag)):Int))=a.v+b.v:=by
    rw [zn]
    rcases a.v_eq with ⟨h1,h2⟩ | ⟨h1,h2⟩ <;> rcases b.v_eq with ⟨h3,h4⟩ | ⟨h3,h4⟩ <;> simp [h1,h3] at h <;> simp [h3,h2,h4] <;> omega
   rw [this];exact .refl
theorem zvf(a b:BI)(ha:a.mag.length<=800000000)(hb:b.mag.length<=800000000):zd Tryz.prog 226 [.agg (biE a),.agg (biE b)] [] (.agg (biE (ofZ (a.v - b.v)))) []:=by
 refine zc tok mix Tryz.func226 rfl rfl rfl ?_;refine Dr.k ?_;refine zb.t (zmV b oM) ?_;have h1:=zbO b;refine zb.t (zmW a (ofZ (-b.v)) oM (by rw [zT,zas];omega)) ?_;rw [z8,← Int.sub_eq_add_neg];exact .refl
theorem zih(a:BI)(ha:a.mag.length<=900000000):zd Tryz.prog 171 [.agg (biE a)] [] (i64 (z7 a.v.natAbs)) []:=by
 refine zc tok mix Tryz.func171 rfl rfl rfl ?_;refine zb.t (zh5 a.mag ha) ?_;rw [BI.v_abs];exact .refl
theorem zvg{A B:Nat}(hB:0 < B):(A % B=0-> -(A:Int) / B= -((A / B:Nat):Int)/\ -(A:Int) % B= -((A % B:Nat):Int))/\(A % B≠0-> -(A:Int) / B= -((A / B:Nat):Int) - 1/\ -(A:Int) % B= -((A % B:Nat):Int)+B):=by
 have hdm:=Nat.div_add_mod A B;have hm:=Nat.mod_lt A hB;generalize A / B=q at*;generalize A % B=r at*;have e:(B:Int)*(q:Int)=((B*q:Nat):Int):=(Int.natCast_mul _ _).symm;have hB':(0:Int) < B:=oM;refine ⟨fun h=>(Int.ediv_emod_unique hB').2 ⟨?_,oM,oM⟩,fun h=>(Int.ediv_emod_unique hB').2 ⟨?_,oM,oM⟩⟩
 ·rw [Int.mul_neg,e];omega
 ·rw [Int.mul_sub,Int.mul_neg,e,Int.mul_one];omega
theorem zax(a b:BI)(ha:a.mag.length<=200000000)(hb:b.mag.length<=200000000)(h0:0 < b.v):
  zd Tryz.prog 164 [.agg (biE a),.agg (biE b)] [] (.tup [.agg (biE (ofZ (a.v / b.v))),.agg (biE (ofZ (a.v % b.v))),i64 0]) []:=by
 have hbv:b.neg=false/\b.v=(val b.mag:Int):=by
  rcases b.v_eq with ⟨h1,h2⟩ | h
  ·omega
  ·exact h
 have hB:0 < val b.mag:=oM;have q1:(zm (val a.mag / val b.mag)).length<=200000000:=Nat.le_trans (kW (Nat.div_le_self _ _)) (Nat.le_trans (zB _) ha);have r1:(zm (val a.mag % val b.mag)).length<=200000000:=Nat.le_trans (kW (Nat.mod_le _ _)) (Nat.le_trans (zB _) ha);have nb:¬b.neg=true:=by rw [hbv.1];decide
 refine zc tok mix Tryz.func164 rfl rfl rfl ?_;refine zb.t (zdO b oM) ?_;refine Br.mk (fun h=>absurd (Int.sign_eq_zero_iff_zero.1 h) oM) (fun _=>?_);refine zb.t (zh6 a.mag b.mag oM oM oM) ?_;refine zb.t (vz (¬(a.neg=true↔b.neg=true)) _ oM) ?_;refine zb.t (vz (a.neg=true) _ oM) ?_;rw [zn,zn]
 rcases a.v_eq with ⟨h1,h2⟩ | ⟨h1,h2⟩
 ·have pa:¬(a.neg=true↔b.neg=true):=by rw [h1,hbv.1];decide
  rw [if_pos pa,if_pos h1];refine Br.mk (fun h3=>?_) (fun h3=>absurd pa h3);have nd:=zvg (A:=val a.mag) hB;rw [← h2,← hbv.2] at nd;have k1:je (-((val a.mag / val b.mag:Nat):Int))<=200000000:=by rw [zas];exact q1
  have k2:je (-((val a.mag % val b.mag:Nat):Int))<=200000000:=by rw [zas];exact r1
  refine zb.t (zdO (ofZ (-((val a.mag % val b.mag:Nat):Int))) (by rw [zT];omega)) ?_;rw [z8];refine Br.mk (fun h4=>?_) (fun h4=>?_)
  ·have hr:val a.mag % val b.mag≠0:=fun h=>h4 (by rw [h];rfl)
   refine Dr.k ?_;refine zb.t (vA 1 dC) ?_;refine zb.t (zvf (ofZ (-((val a.mag / val b.mag:Nat):Int))) (ofZ 1) (by rw [zT];omega) (by decide +kernel)) ?_;refine zb.t (zmW (ofZ (-((val a.mag % val b.mag:Nat):Int))) b (by rw [zT];omega) oM) ?_;rw [z8,z8,z8,(nd.2 hr).1,(nd.2 hr).2];exact .refl
  ·have hr:val a.mag % val b.mag=0:=by
    have:(-((val a.mag % val b.mag:Nat):Int))=0:=Int.sign_eq_zero_iff_zero.1 (Decidable.not_not.1 h4);omega
   refine Dr.d ?_;refine Ob.mk (by kernel_rfl) ?_;rw [← (nd.1 hr).1,← (nd.1 hr).2];exact .refl
 ·have pa:¬¬(a.neg=true↔b.neg=true):=by rw [h1,hbv.1];decide
  have na:¬a.neg=true:=by rw [h1];decide
  rw [if_neg pa,if_neg na];refine Br.mk (fun h3=>absurd h3 pa) (fun h3=>?_);refine Dr.d ?_;refine Ob.mk (by kernel_rfl) ?_;rw [h2,hbv.2,← Int.natCast_ediv,← Int.natCast_emod];exact .refl
theorem zog(a:BI)(ha:a.mag.length<=1000000000):
  zd Tryz.prog 104 [.agg (biE a)] [] (.tup [i64 (yH a.v),pr (-9223372036854775808<=a.v/\a.v<=9223372036854775807)]) []:=by
 refine zc tok mix Tryz.func104 rfl rfl rfl ?_;refine zb.t (uE a.mag ha) ?_;have hl0:=zB a.mag;have hv:=a.v_eq;generalize hz:a.v=z at*;have hv':z= -(val a.mag:Int)∨z=(val a.mag:Int):=hv.imp And.right And.right
 have bad:¬(-9223372036854775808<=z/\z<=9223372036854775807)->LE (.tup [i64 0,bl false]) (.tup [i64 (yH z),pr (-9223372036854775808<=z/\z<=9223372036854775807)]):=fun h=>
  zS (zu (by rw [yH,if_neg h])) (ze h)
 have good:∀n:Int,n=z-> -9223372036854775808<=z/\z<=9223372036854775807->LE (.tup [i64 n,bl true]) (.tup [i64 (yH z),pr (-9223372036854775808<=z/\z<=9223372036854775807)]):=fun n hn h=>
  zS (zu (by rw [yH,if_pos h,hn])) (kC h)
 obtain ⟨m,hm⟩:∃m,zm (val a.mag)=m:=⟨_,rfl⟩;have hmv:val m=val a.mag:=by rw [← hm,zn]
 have hbig:2 < m.length->18446744073709551616<=val a.mag:=fun h=>by
  have h0:val a.mag≠0:=qN.1 (by rw [hm];omega);have:=zjr h0;rw [hm] at this;exact Nat.le_trans (Nat.le_trans dC (Nat.pow_le_pow_right dC (show 2<=m.length - 1 by omega))) this
 rw [hm];rw [hm] at hl0;intro hl1;refine Ar.o ?_
 refine ⟨Nat,fun j=>⟨[(6,i64 ((j:Int) - 1)),(5,u64 (val (m.drop j))),(4,.sl dgE m),(1,.loc 0 0)],[(0,.box 25 (biE a))],1,55,0⟩,
  fun j=>j<=m.length/\(j < m.length->m.length<=2),fun j=>j,m.length,?_,?_,?_⟩
 ·exact ⟨Nat.le_refl _,fun h=>absurd h (Nat.lt_irrefl _)⟩
 ·exact z0 [(0,some 0)] ⟨rfl,congrArg (fun n=>some (u64 n)) (by rw [zU (Nat.le_refl _)];rfl),rfl,rfl,trivial⟩ ⟨rfl,trivial⟩
 rintro j ⟨h1,h2⟩
 refine Br.mk (fun h3=>?_) (fun h3=>?_)
 ·intro hl2;refine Br.mk (fun h4=>?_) (fun h4=>?_)
  ·have hd:=zz m (j - 1);rw [show j - 1+1=j by omega] at hd
   have hdl:val (m.drop j) < 4294967296:=by
    have:=qD (m.drop j);rw [List.length_drop] at this;exact Nat.lt_of_lt_of_le this (Nat.le_trans (Nat.pow_le_pow_right dC (show m.length - j<=1 by omega)) dC)
   refine Ob.o1 ?_;refine Ar.fit (by simp only [Int.reducePow];omega) ?_;refine Ob.o ?_;intro x hx;rw [show ((j:Int) - 1).toNat=j - 1 by omega] at hx;have dx:=zK hx;have hxl:=x.isLt;refine Ar.o ?_;refine ⟨_,(zdY (x:=val (m.drop j)) (y:=x.val) hdl hxl rfl).symm,?_⟩;refine Ar.o ?_;exact ⟨j - 1,⟨oM,fun _=>by omega⟩,z0 [(0,some 0)] ⟨congrArg (fun n=>some (i64 n)) oM,congrArg (fun n=>some (u64 n)) (by rw [hd,dx];omega),rfl,rfl,trivial⟩ ⟨rfl,trivial⟩,by dsimp only;omega⟩
  ·intro hl3;have:=hbig oM;refine Br.mk (fun _=>?_) (fun h=>absurd h oM);exact bad oM
 ·have hj:j=0:=by omega
  subst hj;have hd0:val (m.drop 0)=val a.mag:=by rw [List.drop_zero,hmv]
  intro hl3
  have hv2:¬2 < m.length->val a.mag < 18446744073709551616:=fun h=>by
   have:=qD m;rw [hmv] at this;exact Nat.lt_of_lt_of_le this (Nat.le_trans (Nat.pow_le_pow_right dC (show m.length<=2 by omega)) dC)
  refine Br.mk (fun h=>?_) (fun h=>?_)
  ·have:=hbig oM;exact bad oM
  have hs:=hv2 oM;have negz:a.neg=true->z= -(val a.mag:Int):=fun h=>hv.elim And.right fun g=>by rw [h] at g;cases g.1
  have posz:¬a.neg=true->z=(val a.mag:Int):=fun h=>hv.elim (fun g=>absurd g.1 h) And.right
  have hneg:a.neg=true->val a.mag<=9223372036854775808->IntKind.i64.wrap (IntKind.u64.wrap (-(val (m.drop 0):Int)))=z:=fun h hle=>by
   have:=negz h;rw [hd0,jE];show IntKind.i64.wrap _=_;simp only [IntKind.wrap,IntKind.bits,IntKind.signed];simp;omega
  refine Br.mk (fun g1=>bad oM) (fun g1=>?_);refine Br.mk (fun g2=>?_) (fun g2=>?_)
  ·refine Br.mk (fun g3=>bad ?_) (fun g3=>?_)
   ·have:=posz g3;omega
   have hn:a.neg=true:=Classical.byContradiction g3;have:=negz hn;refine Br.mk (fun _=>?_) (fun g4=>absurd hn g4);refine Ar.wrap ?_;refine Ar.wrap ?_;exact good _ (hneg hn oM) oM
  ·refine Br.mk (fun g4=>?_) (fun g4=>?_)
   ·have:=negz g4;refine Ar.wrap ?_;refine Ar.wrap ?_;exact good _ (hneg g4 oM) oM
   ·have:=posz g4;refine Ar.o ?_;exact good _ oM oM
structure BR where
 num:BI
 den:BI
 deriving DecidableEq
def BR.v(a:BR):Rat:=Rat.divInt a.num.v a.den.v
def ofQ(q:Rat):BR:=⟨ofZ q.num,ofZ q.den⟩
theorem kE(q:Rat):(ofQ q).v=q:=by unfold BR.v ofQ;rw [z8,z8,Rat.num_divInt_den]
def BR.len(a:BR):Nat:=max a.num.mag.length a.den.mag.length
def y5(q:Rat):Nat:=max (je q.num) (je q.den)
theorem zJ(q:Rat):(ofQ q).len=y5 q:=rfl
theorem zgK{n d:Int}(hd:d≠0):(if n.sign*d.sign < 0 then -((n.natAbs / Nat.gcd n.natAbs d.natAbs:Nat):Int) else ((n.natAbs / Nat.gcd n.natAbs d.natAbs:Nat):Int))=(Rat.divInt n d).num:=by
 have hg0:0 < Nat.gcd n.natAbs d.natAbs:=Nat.gcd_pos_of_pos_right _ oM;rw [Rat.num_divInt,show d.gcd n=Nat.gcd n.natAbs d.natAbs from Nat.gcd_comm _ _];obtain ⟨k,hk⟩:((Nat.gcd n.natAbs d.natAbs:Nat):Int) ∣ n:=Int.ofNat_dvd_left.2 (Nat.gcd_dvd_left _ _);generalize Nat.gcd n.natAbs d.natAbs=g at*;have e1:n.natAbs / g=k.natAbs:=by rw [hk,Int.natAbs_mul,Int.natAbs_natCast,Nat.mul_div_cancel_left _ hg0]
 have e2:d.sign*n / (g:Int)=d.sign*k:=by
  rw [hk,← Int.mul_assoc,Int.mul_comm d.sign,Int.mul_assoc,Int.mul_ediv_cancel_left _ oM]
 have e3:n.sign=k.sign:=by rw [hk,Int.sign_mul,Int.sign_eq_one_of_pos oM,Int.one_mul]
 rw [e1,e2,e3]
 rcases Int.lt_trichotomy d 0 with h | h | h
 ·rw [Int.sign_eq_neg_one_of_neg h]
  rcases Int.lt_trichotomy k 0 with h' | h' | h'
  ·rw [Int.sign_eq_neg_one_of_neg h',if_neg dC];omega
  ·subst h';rw [if_neg dC];rfl
  ·rw [Int.sign_eq_one_of_pos h',if_pos dC];omega
 ·exact absurd h hd
 ·rw [Int.sign_eq_one_of_pos h]
  rcases Int.lt_trichotomy k 0 with h' | h' | h'
  ·rw [Int.sign_eq_neg_one_of_neg h',if_pos dC];omega
  ·subst h';rw [if_neg dC];rfl
  ·rw [Int.sign_eq_one_of_pos h',if_neg dC];omega
theorem zgL{n d:Int}(hd:d≠0):(Rat.divInt n d).den=d.natAbs / Nat.gcd n.natAbs d.natAbs:=by
 rw [Rat.den_divInt,if_neg hd,show d.gcd n=Nat.gcd n.natAbs d.natAbs from Nat.gcd_comm _ _]
theorem zbX{n d:Int}(hd:d≠0):y5 (Rat.divInt n d)<=max (je n) (je d):=by
 have h1:je (Rat.divInt n d).num<=je n:=zat (by
  rw [← zgK hd];have:=Nat.div_le_self n.natAbs (Nat.gcd n.natAbs d.natAbs);generalize n.natAbs / Nat.gcd n.natAbs d.natAbs=x at*
  split <;> omega)
 have h2:je (Rat.divInt n d).den<=je d:=zat (by
  rw [zgL hd];have:=Nat.div_le_self d.natAbs (Nat.gcd n.natAbs d.natAbs);generalize d.natAbs / Nat.gcd n.natAbs d.natAbs=x at*
  omega)
 unfold y5;omega
theorem jb(q:Rat):je q.num<=y5 q:=Nat.le_max_left _ _
theorem jG(q:Rat):je q.den<=y5 q:=Nat.le_max_right _ _
theorem kR(a:BR):y5 a.v<=max a.len 1:=by
 by_cases h:a.den.v=0
 ·have:a.v=0:=by unfold BR.v;rw [h,Rat.divInt_zero]
  rw [this];have:y5 0<=1:=by decide +kernel
  omega
 ·have:=zbX (n:=a.num.v) h;have h1:=zbO a.num;have h2:=zbO a.den;unfold BR.len BR.v;omega
theorem zjJ(q:Rat):(q.den:Int)≠0:=by have:=q.den_nz;omega
theorem zgM(x y:Rat):Rat.divInt (x.num*y.den+y.num*x.den) (x.den*y.den)=x+y:=by
 have:=Rat.divInt_add_divInt x.num y.num (zjJ x) (zjJ y);rw [Rat.num_divInt_den,Rat.num_divInt_den] at this;exact this.symm
theorem zgN(x y:Rat):Rat.divInt (x.num*y.num) (x.den*y.den)=x*y:=by
 have:=Rat.divInt_mul_divInt x.num y.num (d₁:=x.den) (d₂:=y.den);rw [Rat.num_divInt_den,Rat.num_divInt_den] at this;exact this.symm
theorem uj(x y:Rat):(x.den:Int)*(y.den:Int)≠0:=Int.mul_ne_zero (zjJ x) (zjJ y)
theorem zay(x y:Rat):y5 (x+y)<=y5 x+y5 y+1:=by
 rw [← zgM];have h:=zbX (n:=x.num*y.den+y.num*x.den) (uj x y);have h1:=zgs (x.num*y.den) (y.num*x.den);have h2:=qJ x.num y.den;have h3:=qJ y.num x.den;have h4:=qJ x.den y.den;have a1:=jb x;have a2:=jb y;have a3:=jG x;have a4:=jG y;omega
theorem zaz(x y:Rat):y5 (x*y)<=y5 x+y5 y:=by
 rw [← zgN];have h:=zbX (n:=x.num*y.num) (uj x y);have h2:=qJ x.num y.num;have h4:=qJ x.den y.den;have a1:=jb x;have a2:=jb y;have a3:=jG x;have a4:=jG y;omega
theorem uF(z:Int):y5 z<=max (je z) 1:=by
 unfold y5;rw [Rat.num_intCast,Rat.den_intCast];have:je ((1:Nat):Int)=1:=by decide +kernel
 omega
def brE(a:BR):List SV:=biE a.num++biE a.den
theorem zii(a:BI)(g:List Dig)(ha:a.mag.length<=400000000)(hg:g.length<=400000000)(h0:val g≠0):
  zd Tryz.prog 223 [.agg (biE a),.ptr [.sl dgE g]] [] (.sl dgE (zm (val a.mag / val g))) []:=by
 refine zc tok mix Tryz.func223 rfl rfl rfl ?_;refine zb.t (zgI a.mag g ha hg h0) ?_;exact .refl
theorem zgO(n d:BI)(hn:n.mag.length<=400000000)(hd:d.mag.length<=400000000)(h0:d.v≠0):
  zd Tryz.prog 161 [.agg (biE n),.agg (biE d)] [] (.agg (brE (ofQ (Rat.divInt n.v d.v)))) []:=by
 refine zc tok mix Tryz.func161 rfl rfl rfl ?_;refine zb.t (n_gcd n.mag d.mag hn hd) ?_;have e1:=zgK (n:=n.v) h0;have e2:=zgL (n:=n.v) h0;rw [n.v_abs,d.v_abs] at e1 e2;have hdz:val d.mag≠0:=by rw [← d.v_abs];omega
 have hg0:0 < Nat.gcd (val n.mag) (val d.mag):=Nat.gcd_pos_of_pos_right _ oM
 have hgl:(zm (Nat.gcd (val n.mag) (val d.mag))).length<=400000000:=by
  refine Nat.le_trans (kW (Nat.gcd_le_right _ oM)) (Nat.le_trans (zB _) hd)
 have l1:(zm (val n.mag / Nat.gcd (val n.mag) (val d.mag))).length<=1000000000:=Nat.le_trans (kW (Nat.div_le_self _ _)) (Nat.le_trans (zB _) oM);have l2:(zm (val d.mag / Nat.gcd (val n.mag) (val d.mag))).length<=1000000000:=Nat.le_trans (kW (Nat.div_le_self _ _)) (Nat.le_trans (zB _) oM);generalize Nat.gcd (val n.mag) (val d.mag)=g at*
 have s1: -1<=n.v.sign*d.v.sign/\n.v.sign*d.v.sign<=1:=by
  rcases Int.lt_trichotomy n.v 0 with h | h | h <;> rcases Int.lt_trichotomy d.v 0 with h' | h' | h' <;>
   simp [Int.sign_eq_neg_one_of_neg,Int.sign_eq_one_of_pos,h,h']
 refine Dr.k ?_;refine zb.t (zjI n oM) ?_;refine zb.t (zjI d oM) ?_;refine Ar.o ?_;refine zb.t (zii n (zm g) hn hgl (by rw [zn];omega)) ?_;rw [zn];refine zb.t (zcR (n.v.sign*d.v.sign < 0) _ l1) ?_;refine zb.t (zii d (zm g) hd hgl (by rw [zn];omega)) ?_;refine zb.t (zrk _ (by rw [zn];exact l2)) ?_;rw [zn,zn,zn,e1,← e2];exact .refl
theorem zup(n d:BI)(hn:n.mag.length<=400000000)(hd:d.mag.length<=400000000)(h0:d.v≠0):
  zd Tryz.prog 156 [.agg (biE n),.agg (biE d)] [] (.tup [.agg (brE (ofQ (Rat.divInt n.v d.v))),i64 0]) []:=by
 refine zc tok mix Tryz.func156 rfl rfl rfl ?_;refine zb.t (zjI d oM) ?_;refine Br.mk (fun h=>absurd (Int.sign_eq_zero_iff_zero.1 h) h0) (fun _=>?_);refine zb.t (zgO n d hn hd h0) ?_;exact zS .refl .refl
theorem zvh(n d:BI)(hd:d.mag.length<=400000000)(h0:d.v=0):
  zd Tryz.prog 156 [.agg (biE n),.agg (biE d)] [] (.tup [.agg [bl false,.sl dgE [],bl false,.sl dgE []],i64 9]) []:=by
 refine zc tok mix Tryz.func156 rfl rfl rfl ?_;refine zb.t (zjI d oM) ?_;rw [h0];refine Br.mk (fun _=>?_) (fun h=>absurd rfl h);exact zS (jJ (.cons .refl (.cons ku (.cons .refl (.cons ku .nil))))) .refl
theorem zeA(n:Int)(hn:R64 n):zd Tryz.prog 102 [i64 n] [] (.agg (brE (ofQ (n:Rat)))) []:=by
 refine zc tok mix Tryz.func102 rfl rfl rfl ?_;refine zb.t (zcv n hn) ?_;refine zb.t (zcv 1 dC) ?_;have e:ofQ (n:Rat)=⟨ofZ n,ofZ 1⟩:=by unfold ofQ;rw [Rat.num_intCast,Rat.den_intCast];rfl
 rw [e];exact .refl
theorem zmX(n d:Int)(hn:R64 n)(hd:R64 d)(h0:d≠0):zd Tryz.prog 103 [i64 n,i64 d] [] (.tup [.agg (brE (ofQ (Rat.divInt n d))),i64 0]) []:=by
 refine zc tok mix Tryz.func103 rfl rfl rfl ?_;have l1:=jq hn;have l2:=jq hd;refine zb.t (zcv n hn) ?_;refine zb.t (zcv d hd) ?_;refine zb.t (zup (ofZ n) (ofZ d) (by rw [zT];omega) (by rw [zT];omega) (by rw [z8];exact h0)) ?_;rw [z8,z8];exact zS .refl .refl
theorem qr(a:BR)(ha:a.len<=400000000):zd Tryz.prog 158 [.agg (brE a)] [] (.agg (brE (ofQ a.v))) []:=by
 have h1:a.num.mag.length<=a.len:=Nat.le_max_left _ _;have h2:a.den.mag.length<=a.len:=Nat.le_max_right _ _;refine zc tok mix Tryz.func158 rfl rfl rfl ?_
 by_cases h:a.den.v=0
 ·refine zb.t (zvh a.num a.den oM h) ?_;refine Br.y ?_;refine zb.t (zeA 0 dC) ?_;have e:a.v=((0:Int):Rat):=by unfold BR.v;rw [h,Rat.divInt_zero];rfl
  rw [e];exact .refl
 ·refine zb.t (zup a.num a.den oM oM h) ?_;refine Br.mk (fun h=>absurd rfl h) (fun _=>?_);exact .refl
theorem zbk(q:Rat):(ofQ q).num.mag.length<=y5 q/\(ofQ q).den.mag.length<=y5 q:=⟨jb q,jG q⟩
theorem yB(q:Rat):(ofQ q).num.v=q.num:=z8 _
theorem jz(q:Rat):(ofQ q).den.v=q.den:=z8 _
theorem ztj(a b:BR)(ha:a.len<=100000000)(hb:b.len<=100000000):zd Tryz.prog 160 [.agg (brE a),.agg (brE b)] []
  (.tup [.agg (biE (ofZ (a.v.num*b.v.den))),.agg (biE (ofZ (b.v.num*a.v.den))),.agg (biE (ofZ (a.v.den*b.v.den)))]) []:=by
 have h1:=kR a;have h2:=kR b;have h3:=zbk a.v;have h4:=zbk b.v;refine zc tok mix Tryz.func160 rfl rfl rfl ?_;refine Dr.k ?_;refine zb.t (qr a oM) ?_;refine zb.t (qr b oM) ?_;refine Dr.k ?_;refine zb.t (ze4 (ofQ a.v).num (ofQ b.v).den oM oM) ?_;refine zb.t (ze4 (ofQ b.v).num (ofQ a.v).den oM oM) ?_;refine zb.t (ze4 (ofQ a.v).den (ofQ b.v).den oM oM) ?_;rw [yB,yB,jz,jz];exact .refl
theorem zlr(a b:BR)(ha:a.len<=50000000)(hb:b.len<=50000000):zd Tryz.prog 106 [.agg (brE a),.agg (brE b)] [] (.agg (brE (ofQ (a.v+b.v)))) []:=by
 have h1:=kR a;have h2:=kR b;have n1:=jb a.v;have n2:=jb b.v;have d1:=jG a.v;have d2:=jG b.v;have m1:=qJ a.v.num b.v.den;have m2:=qJ b.v.num a.v.den;have m3:=qJ a.v.den b.v.den;have m4:=zgs (a.v.num*b.v.den) (b.v.num*a.v.den);refine zc tok mix Tryz.func106 rfl rfl rfl ?_;refine zb.t (ztj a b oM oM) ?_;refine Dr.k ?_;refine zb.t (zuo (ofZ (a.v.num*b.v.den)) (ofZ (b.v.num*a.v.den)) (by rw [zT];omega) (by rw [zT];omega)) ?_;rw [z8,z8]
 refine zb.t (zgO (ofZ (a.v.num*b.v.den+b.v.num*a.v.den)) (ofZ (a.v.den*b.v.den)) (by rw [zT];omega) (by rw [zT];omega) (by rw [z8];exact uj _ _)) ?_;rw [z8,z8,zgM];exact .refl
theorem zuq(a b:BR)(ha:a.len<=50000000)(hb:b.len<=50000000):zd Tryz.prog 211 [.agg (brE a),.agg (brE b)] [] (.agg (brE (ofQ (a.v*b.v)))) []:=by
 have h1:=kR a;have h2:=kR b;have h3:=zbk a.v;have h4:=zbk b.v;have n1:=jb a.v;have n2:=jb b.v;have d1:=jG a.v;have d2:=jG b.v;have m1:=qJ a.v.num b.v.num;have m3:=qJ a.v.den b.v.den;refine zc tok mix Tryz.func211 rfl rfl rfl ?_;refine Dr.k ?_;refine zb.t (qr a oM) ?_;refine zb.t (qr b oM) ?_;refine Dr.k ?_;refine zb.t (ze4 (ofQ a.v).num (ofQ b.v).num oM oM) ?_;refine zb.t (ze4 (ofQ a.v).den (ofQ b.v).den oM oM) ?_;rw [yB,yB,jz,jz]
 refine zb.t (zgO (ofZ (a.v.num*b.v.num)) (ofZ (a.v.den*b.v.den)) (by rw [zT];omega) (by rw [zT];omega) (by rw [z8];exact uj _ _)) ?_;rw [z8,z8,zgN];exact .refl
theorem zoh(a:BR)(ha:a.len<=100000000):zd Tryz.prog 105 [.agg (brE a)] [] (.agg (biE (ofZ a.v.floor))) []:=by
 have h1:=kR a;have h3:=zbk a.v;have h0:=a.v.den_nz;refine zc tok mix Tryz.func105 rfl rfl rfl ?_;refine zb.t (qr a oM) ?_;refine zb.t (zro (ofQ a.v).num (ofQ a.v).den oM oM (by rw [jz];omega)) ?_;rw [yB,jz,← Rat.floor_def];exact .refl
def vF(q:Rat):Nat:=max (z7 q.num.natAbs) (z7 q.den)
theorem zaA(a:BR)(ha:a.len<=100000000):zd Tryz.prog 153 [.agg (brE a)] [] (i64 (vF a.v)) []:=by
 have h1:=kR a;have h3:=zbk a.v;refine zc tok mix Tryz.func153 rfl rfl rfl ?_;refine zb.t (qr a oM) ?_;refine Dr.k ?_;refine zb.t (zlq (ofQ a.v).num oM) ?_;refine zb.t (zlq (ofQ a.v).den oM) ?_;rw [yB,jz,Int.natAbs_natCast];refine zu ?_;unfold vF;simp only [zcU];omega
theorem jc(n:Int)(hn:R64 n):zd Tryz.prog 27 [i64 n] [] (.agg (brE (ofQ (n:Rat)))) []:=by
 refine zc tok mix Tryz.func27 rfl rfl rfl ?_;refine zb.t (vA n hn) ?_;refine zb.t (vA 1 dC) ?_;have e:ofQ (n:Rat)=⟨ofZ n,ofZ 1⟩:=by unfold ofQ;rw [Rat.num_intCast,Rat.den_intCast];rfl
 rw [e];exact .refl
theorem zcw(n d:BI)(hn:n.mag.length<=200000000)(hd:d.mag.length<=200000000)(h0:d.v≠0):
  zd Tryz.prog 114 [.agg (biE n),.agg (biE d)] [] (.agg (brE (ofQ (Rat.divInt n.v d.v)))) []:=by
 refine zc tok mix Tryz.func114 rfl rfl rfl ?_;refine zb.t (zve n.mag d.mag oM oM) ?_;have hdz:val d.mag≠0:=by rw [← d.v_abs];omega
 have hg0:0 < Nat.gcd (val n.mag) (val d.mag):=Nat.gcd_pos_of_pos_right _ oM
 have hgl:(zm (Nat.gcd (val n.mag) (val d.mag))).length<=200000000:=
  Nat.le_trans (kW (Nat.gcd_le_right _ oM)) (Nat.le_trans (zB _) hd)
 have hnum:=Rat.num_divInt n.v d.v;have hden:=Rat.den_divInt n.v d.v
 have hg:d.v.gcd n.v=Nat.gcd (val n.mag) (val d.mag):=by
  rw [← n.v_abs,← d.v_abs];exact Nat.gcd_comm _ _
 rw [hg] at hnum hden;rw [if_neg h0] at hden;have ln:=zbO n;have ld:=zbO d;generalize Nat.gcd (val n.mag) (val d.mag)=g at*;refine zb.t (zti (zm g) oM) ?_;rw [zn];have zg:je (g:Int)<=200000000:=hgl
 have fin:∀N D:Int,N=d.v.sign*n.v->D=(d.v.natAbs:Int)->ofQ (Rat.divInt n.v d.v)=⟨ofZ (N / (g:Int)),ofZ (D / (g:Int))⟩:=fun N D hN hD=>by
  unfold ofQ;rw [hnum,hden,hN,hD];rfl
 refine zb.t (zdO d oM) ?_;refine Br.mk (fun h=>?_) (fun h=>?_)
 ·have hneg:d.v < 0:=by
   rcases Int.lt_trichotomy d.v 0 with k | k | k
   ·exact k
   ·exact absurd k h0
   ·rw [Int.sign_eq_one_of_pos k] at h;omega
  refine zb.t (zmV n oM) ?_;refine zb.t (zmV d oM) ?_;refine zb.t (zax (ofZ (-n.v)) (ofZ (g:Int)) (by rw [zT,zas];omega) (by rw [zT];omega) (by rw [z8];omega)) ?_;refine zb.t (zax (ofZ (-d.v)) (ofZ (g:Int)) (by rw [zT,zas];omega) (by rw [zT];omega) (by rw [z8];omega)) ?_;rw [z8,z8,z8,fin (-n.v) (-d.v) (by rw [Int.sign_eq_neg_one_of_neg hneg];omega) oM];exact .refl
 ·have hpos:0 < d.v:=by
   rcases Int.lt_trichotomy d.v 0 with k | k | k
   ·rw [Int.sign_eq_neg_one_of_neg k] at h;omega
   ·exact absurd k h0
   ·exact k
  refine zb.t (zax n (ofZ (g:Int)) oM (by rw [zT];omega) (by rw [z8];omega)) ?_;refine zb.t (zax d (ofZ (g:Int)) oM (by rw [zT];omega) (by rw [z8];omega)) ?_;rw [z8,fin n.v d.v (by rw [Int.sign_eq_one_of_pos hpos];omega) oM];exact .refl
theorem zvi(n d:BI)(hn:n.mag.length<=200000000)(hd:d.mag.length<=200000000)(h0:d.v≠0):
  zd Tryz.prog 163 [.agg (biE n),.agg (biE d)] [] (.tup [.agg (brE (ofQ (Rat.divInt n.v d.v))),i64 0]) []:=by
 refine zc tok mix Tryz.func163 rfl rfl rfl ?_;refine zb.t (zdO d oM) ?_;refine Br.mk (fun h=>absurd (Int.sign_eq_zero_iff_zero.1 h) h0) (fun _=>?_);refine zb.t (zcw n d hn hd h0) ?_;exact zS .refl .refl
theorem zls(n d:Int)(hn:R64 n)(hd:R64 d)(h0:d≠0):zd Tryz.prog 108 [i64 n,i64 d] [] (.tup [.agg (brE (ofQ (Rat.divInt n d))),i64 0]) []:=by
 refine zc tok mix Tryz.func108 rfl rfl rfl ?_;have l1:=jq hn;have l2:=jq hd;refine zb.t (vA n hn) ?_;refine zb.t (vA d hd) ?_;refine zb.t (zvi (ofZ n) (ofZ d) (by rw [zT];omega) (by rw [zT];omega) (by rw [z8];exact h0)) ?_;rw [z8,z8];exact zS .refl .refl
theorem qG(a:BR)(ha:a.len<=200000000):zd Tryz.prog 57 [.agg (brE a)] [] (.agg (brE (ofQ a.v))) []:=by
 have h1:a.num.mag.length<=a.len:=Nat.le_max_left _ _;have h2:a.den.mag.length<=a.len:=Nat.le_max_right _ _;refine zc tok mix Tryz.func57 rfl rfl rfl ?_;refine zb.t (zdO a.den oM) ?_;refine Br.mk (fun h=>?_) (fun h=>?_)
 ·refine zb.t (jc 0 dC) ?_;have e:a.v=((0:Int):Rat):=by unfold BR.v;rw [Int.sign_eq_zero_iff_zero.1 h,Rat.divInt_zero];rfl
  rw [e];exact .refl
 ·refine zb.t (zcw a.num a.den oM oM (fun k=>h (by rw [k];rfl))) ?_;exact .refl
theorem zda(a b:BR)(ha:a.len<=50000000)(hb:b.len<=50000000):zd Tryz.prog 111 [.agg (brE a),.agg (brE b)] [] (.agg (brE (ofQ (a.v+b.v)))) []:=by
 have h1:=kR a;have h2:=kR b;have h3:=zbk a.v;have h4:=zbk b.v;have n1:=jb a.v;have n2:=jb b.v;have d1:=jG a.v;have d2:=jG b.v;have m1:=qJ a.v.num b.v.den;have m2:=qJ b.v.num a.v.den;have m3:=qJ a.v.den b.v.den;have m4:=zgs (a.v.num*b.v.den) (b.v.num*a.v.den);refine zc tok mix Tryz.func111 rfl rfl rfl ?_;refine Dr.k ?_;refine zb.t (qG a oM) ?_;refine zb.t (qG b oM) ?_;refine Dr.k ?_;refine zb.t (zgt (ofQ a.v).num (ofQ b.v).den oM oM) ?_;refine zb.t (zgt (ofQ b.v).num (ofQ a.v).den oM oM) ?_;rw [yB,yB,jz,jz]
 refine zb.t (zmW (ofZ (a.v.num*b.v.den)) (ofZ (b.v.num*a.v.den)) (by rw [zT];omega) (by rw [zT];omega)) ?_;rw [z8,z8];refine zb.t (zgt (ofQ a.v).den (ofQ b.v).den oM oM) ?_;rw [jz,jz];refine zb.t (zcw (ofZ (a.v.num*b.v.den+b.v.num*a.v.den)) (ofZ (a.v.den*b.v.den)) (by rw [zT];omega) (by rw [zT];omega) (by rw [z8];exact uj _ _)) ?_;rw [z8,z8,zgM];exact .refl
theorem zrp(a b:BR)(ha:a.len<=50000000)(hb:b.len<=50000000):zd Tryz.prog 172 [.agg (brE a),.agg (brE b)] [] (.agg (brE (ofQ (a.v*b.v)))) []:=by
 have h1:=kR a;have h2:=kR b;have h3:=zbk a.v;have h4:=zbk b.v;have n1:=jb a.v;have n2:=jb b.v;have d1:=jG a.v;have d2:=jG b.v;have m1:=qJ a.v.num b.v.num;have m3:=qJ a.v.den b.v.den;refine zc tok mix Tryz.func172 rfl rfl rfl ?_;refine Dr.k ?_;refine zb.t (qG a oM) ?_;refine zb.t (qG b oM) ?_;refine Dr.k ?_;refine zb.t (zgt (ofQ a.v).num (ofQ b.v).num oM oM) ?_;refine zb.t (zgt (ofQ a.v).den (ofQ b.v).den oM oM) ?_;rw [yB,yB,jz,jz]
 refine zb.t (zcw (ofZ (a.v.num*b.v.num)) (ofZ (a.v.den*b.v.den)) (by rw [zT];omega) (by rw [zT];omega) (by rw [z8];exact uj _ _)) ?_;rw [z8,z8,zgN];exact .refl
theorem zlt(a:BR)(ha:a.len<=100000000):zd Tryz.prog 110 [.agg (brE a)] [] (.agg (biE (ofZ a.v.floor))) []:=by
 have h1:=kR a;have h3:=zbk a.v;have h0:=a.v.den_nz;refine zc tok mix Tryz.func110 rfl rfl rfl ?_;refine zb.t (qG a oM) ?_;refine zb.t (zax (ofQ a.v).num (ofQ a.v).den oM oM (by rw [jz];omega)) ?_;rw [yB,jz,← Rat.floor_def];exact .refl
theorem zpu(a:BR)(ha:a.len<=100000000):zd Tryz.prog 117 [.agg (brE a)] [] (i64 (vF a.v)) []:=by
 have h1:=kR a;have h3:=zbk a.v;refine zc tok mix Tryz.func117 rfl rfl rfl ?_;refine zb.t (qG a oM) ?_;refine Dr.k ?_;refine zb.t (zih (ofQ a.v).num oM) ?_;refine zb.t (zih (ofQ a.v).den oM) ?_;rw [yB,jz,Int.natAbs_natCast];refine zu ?_;unfold vF;simp only [zcU];omega
theorem zxN(a b:BI)(ha:a.mag.length<=800000000)(hb:b.mag.length<=800000000):zd Tryz.prog 307 [.agg (biE a),.agg (biE b)] [] (i64 (a.v - b.v).sign) []:=by
 refine zc tok mix Tryz.func307 rfl rfl rfl ?_;refine zb.t (zvf a b ha hb) ?_;have h1:=zw9 a.v b.v;have h2:=zbO a;have h3:=zbO b;refine zb.t (zdO (ofZ (a.v - b.v)) (by rw [zT];omega)) ?_;rw [z8];exact .refl
end Go.Gs
