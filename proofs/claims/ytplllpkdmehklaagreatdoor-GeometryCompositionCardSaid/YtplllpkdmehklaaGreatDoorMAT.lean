/- Integers, the other text: what rounded division needs. -/
import Derived.Test.YtplllpkdmehklaaGreatDoorMA
import Derived.Test.YtplllpkdmehklaaGreatDoorMAS
import Derived.Lib.Mul64
import Derived.Test.YtplllpkdmehklaaGreatDoorMAR
set_option maxRecDepth 100000
set_option maxHeartbeats 8000000
set_option linter.all false
namespace Go.Gs
open Go.Proofs
def biE(a:BI):List SV:=[pr (a.neg=true),.sl dgE a.mag]
theorem zaI(p:Prop)[i:Decidable p](m:List Dig)(hm:m.length<=1000000000):
  zd Tryz.prog 69 [.pr p i,.sl dgE m] [] (.agg (biE (ofZ (if p then -(val m:Int) else val m)))) []:=by
 refine zc tok mix Tryz.func69 rfl rfl rfl ?_;refine zb.t (um m hm) ?_;refine Br.mk (fun h=>?_) (fun h=>?_)
 ·intro hl;refine qK (.cons (zF ?_) (.cons (qy ?_) .nil))
  ·rw [if_pos h,za7];have:=jm (n:=val m);omega
  ·rw [if_pos h,zdR];congr 1;omega
 ·refine qK (.cons (ze ?_) (.cons (qy ?_) .nil))
  ·rw [if_neg h,za7];omega
  ·rw [if_neg h,zdR];congr 1
theorem zyQ(a:BI)(hm:a.mag.length<=1000000000):
  zd Tryz.prog 69 [pr (a.neg=true),.sl dgE a.mag] [] (.agg (biE (ofZ a.v))) []:=zaI (a.neg=true) a.mag hm
theorem dTwo(c d:Dig):[c,d].length=2/\2<=281474976710656/\2*1<=16777216/\0 < 1/\∀x∈[c,d],(dgE x).length=1/\jI (dgE x)=true/\jW.flats (dgE x)=true:=
 ⟨rfl,dC,dC,dC,fun _ _=>⟨rfl,rfl,rfl⟩⟩
theorem zmk(m:Nat)(h:m < 18446744073709551616):val [dof m,dof (m / 4294967296)]=m:=by
 simp only [val,ki];omega
theorem zeG(n:Int)(hn:R64 n):zd Tryz.prog 38 [i64 n] [] (.agg (biE (ofZ n))) []:=by
 refine zc tok mix Tryz.func38 rfl rfl rfl ?_;refine Ar.wrap ?_;refine Br.mk (fun h=>?_) (fun h=>?_)
 ·refine Ar.wrap ?_;have e:IntKind.u64.wrap (0 - IntKind.u64.wrap n)=((n.natAbs:Nat):Int):=by rw [yo,yo];omega
  refine Ar.wrap ?_;refine Ob.o1 ?_;refine Ar.wrap ?_;refine ⟨Dig,dgE,[dof n.natAbs,dof (n.natAbs / 4294967296)],congr (congrArg (fun n m=>[u32 n,u32 m]) (zaH e)) (zaH (by rw [e];simp only [Int.reducePow];omega)),Ob.mk (dTwo _ _) ?_⟩;refine zb.see 1 _ (zaI (n < 0) [dof n.natAbs,dof (n.natAbs / 4294967296)] (by simp)) rfl rfl rfl ?_;rw [if_pos h,zmk _ oM,show (-(n.natAbs:Int))=n by omega];exact .refl
 ·have e:IntKind.u64.wrap n=((n.natAbs:Nat):Int):=by rw [yo];omega
  refine Ar.wrap ?_;refine Ob.o1 ?_;refine Ar.wrap ?_;refine ⟨Dig,dgE,[dof n.natAbs,dof (n.natAbs / 4294967296)],congr (congrArg (fun n m=>[u32 n,u32 m]) (zaH e)) (zaH (by rw [e];simp only [Int.reducePow];omega)),Ob.mk (dTwo _ _) ?_⟩;refine zb.see 1 _ (zaI (n < 0) [dof n.natAbs,dof (n.natAbs / 4294967296)] (by simp)) rfl rfl rfl ?_;rw [if_neg h,zmk _ oM,show (n.natAbs:Int)=n by omega];exact .refl
theorem zfs(a:BI)(ha:a.mag.length<=1000000000):zd Tryz.prog 104 [.agg (biE a)] [] (i64 a.v.sign) []:=by
 refine zc tok mix Tryz.func104 rfl rfl rfl ?_;refine zb.t (zyQ a ha) ?_;intro hl;have h1:=jm (n:=a.v.natAbs);refine Br.mk (fun h=>?_) (fun h=>?_)
 ·have:a.v=0:=by rw [zdR] at h;omega
  exact zj (by rw [this];rfl)
 have h0:a.v≠0:=by rw [zdR] at h;omega
 refine Br.mk (fun h2=>?_) (fun h2=>?_)
 ·rw [za7] at h2;exact zj (Int.sign_eq_neg_one_of_neg h2).symm
 ·rw [za7] at h2;exact zj (Int.sign_eq_one_of_pos oM).symm
theorem zAr(a b:BI):(if ¬(a.neg=true↔b.neg=true) then -((val a.mag*val b.mag:Nat):Int) else ((val a.mag*val b.mag:Nat):Int))=a.v*b.v:=by
 rcases a.v_eq with ⟨h1,h2⟩ | ⟨h1,h2⟩ <;> rcases b.v_eq with ⟨h3,h4⟩ | ⟨h3,h4⟩ <;> simp [h1,h2,h3,h4,Int.neg_mul,Int.mul_neg]
theorem zeH(a b:BI)(ha:a.mag.length<=400000000)(hb:b.mag.length<=400000000):zd Tryz.prog 62 [.agg (biE a),.agg (biE b)] [] (.agg (biE (ofZ (a.v*b.v)))) []:=by
 refine zc tok mix Tryz.func62 rfl rfl rfl ?_;refine Dr.k ?_;refine zb.t (zyO a.mag b.mag ha hb) ?_
 have hl:(zk (val a.mag*val b.mag)).length<=1000000000:=by
  refine Nat.le_trans (yd (k:=a.mag.length+b.mag.length) ?_) oM;rw [Nat.pow_add];exact Nat.mul_lt_mul_of_lt_of_lt (qT _) (qT _)
 refine zb.t (zaI (¬(a.neg=true↔b.neg=true)) _ hl) ?_;rw [zm,zAr];exact .refl
theorem ziN{a b:List Dig}{k:Nat}(ha:a.length<=k)(hb:b.length<=k):(zk (val a+val b)).length<=k+1:=by
 refine yd ?_;have h1:=Nat.lt_of_lt_of_le (qT a) (Nat.pow_le_pow_right (show 0 < 4294967296 by decide) ha);have h2:=Nat.lt_of_lt_of_le (qT b) (Nat.pow_le_pow_right (show 0 < 4294967296 by decide) hb);rw [Nat.pow_succ];omega
theorem zqd{x y:Nat}(hx:x < 18446744073709551616)(hy:y < 18446744073709551616):zat .or .u64 x y=((x|||y:Nat):Int):=by
 show IntKind.u64.wrap ((BitVec.ofInt 64 x|||BitVec.ofInt 64 y).toNat:Nat)=_;have h:x|||y < 2 ^ 64:=Nat.or_lt_two_pow hx hy
 have e:(BitVec.ofInt 64 x|||BitVec.ofInt 64 y).toNat=x|||y:=by
  rw [BitVec.toNat_or,BitVec.toNat_ofInt,BitVec.toNat_ofInt];congr 1
  ·omega
  ·omega
 rw [e,yo];omega
def zaY(z:Int):Int:=if -9223372036854775808<=z/\z<=9223372036854775807 then z else 0
theorem ziO(n:Int)(hn:R64 n):zd Tryz.prog 176 [i64 n] [] (u64 (n.natAbs:Nat)) []:=by
 refine zc tok mix Tryz.func176 rfl rfl rfl ?_;refine Br.mk (fun h=>?_) (fun h=>?_)
 ·refine Ar.wrap ?_;refine Ar.wrap ?_;exact zj (by rw [yo,yo];omega)
 ·refine Ar.o ?_;exact zj oM
theorem zrD(x:Nat):zat .and .u64 x 4294967295=((x % 4294967296:Nat):Int):=by
 have e:(BitVec.ofInt 64 x&&&BitVec.ofInt 64 4294967295).toNat=x % 4294967296:=by
  rw [BitVec.toNat_and];have h1:(BitVec.ofInt 64 4294967295).toNat=2 ^ 32 - 1:=dC;rw [h1,Nat.and_two_pow_sub_one_eq_mod,BitVec.toNat_ofInt];rw [show (2:Nat) ^ 32=4294967296 by decide];omega
 show IntKind.u64.wrap ((BitVec.ofInt 64 x&&&BitVec.ofInt 64 4294967295).toNat:Nat)=_;rw [e,yo];omega
theorem zrE(x y:Nat)(hx:x < 18446744073709551616)(hy:y < 18446744073709551616):
  zd Tryz.prog 175 [u64 x,u64 y] [] (.tup [u64 (x*y / 18446744073709551616:Nat),u64 (x*y % 18446744073709551616:Nat)]) []:=by
 refine zc tok mix Tryz.func175 rfl rfl rfl ?_;obtain ⟨k1,k2,k3,k4⟩:=Go.Lib.mul64_hi x y hx hy;have k0:(x / 4294967296)*(y % 4294967296)<=(x / 4294967296)*(y % 4294967296)+(x % 4294967296)*(y % 4294967296) / 4294967296:=Nat.le_add_right _ _
 have k5:x*y / 18446744073709551616 < 18446744073709551616:=by
  rw [Nat.div_lt_iff_lt_mul dC];exact Nat.mul_lt_mul_of_lt_of_lt hx hy
 refine ⟨_,(zrD x).symm,?_⟩;refine Ob.o1 ?_;refine ⟨_,(zrD y).symm,?_⟩;refine Ob.o1 ?_;have ex:(x:Int) / 2 ^ 32=((x / 4294967296:Nat):Int):=by simp
 have ey:(y:Int) / 2 ^ 32=((y / 4294967296:Nat):Int):=by simp
 have hc:=Go.Lib.half_mul_le (a:=x % 4294967296) (b:=y / 4294967296) oM oM;have ha:=Go.Lib.half_mul_le (a:=x / 4294967296) (b:=y / 4294967296) oM oM;rw [ex,ey];generalize hx1:x / 4294967296=x1 at*;generalize hx0:x % 4294967296=x0 at*;generalize hy1:y / 4294967296=y1 at*;generalize hy0:y % 4294967296=y0 at*;(iterate 2 refine Ar.o ?_);refine Ob.o1 ?_;have e1:((x0:Int)*(y0:Int)) / 2 ^ 32=((x0*y0 / 4294967296:Nat):Int):=by simp
 rw [e1];generalize x0*y0 / 4294967296=w0 at*;refine Ar.o ?_;have e2:(x1:Int)*(y0:Int)+(w0:Int)=((x1*y0+w0:Nat):Int):=by simp
 rw [e2];generalize x1*y0+w0=t at*;refine ⟨_,(zrD t).symm,?_⟩;refine Ob.o1 ?_;have e3:(t:Int) / 2 ^ 32=((t / 4294967296:Nat):Int):=by simp
 rw [e3];(iterate 4 refine Ar.o ?_);refine Ob.o1 ?_;have e4:(((t % 4294967296:Nat):Int)+(x0:Int)*(y1:Int)) / 2 ^ 32=(((t % 4294967296+x0*y1) / 4294967296:Nat):Int):=by simp
 rw [e4];refine Ar.o ?_;refine Ar.wrap ?_;refine zU (zj ?_) (zj ?_)
 ·rw [← k4];simp
 ·rw [yo];simp
theorem zyR(lo y:Nat)(hlo:lo < 18446744073709551616)(hy:y < 18446744073709551616)(h0:y≠0):
  zd Tryz.prog 232 [u64 (0:Nat),u64 lo,u64 y] [] (.tup [u64 (lo / y:Nat),u64 (lo % y:Nat)]) []:=by
 refine zc tok mix Tryz.func232 rfl rfl rfl ?_;refine Br.mk (fun h=>absurd h oM) (fun _=>?_);refine Br.mk (fun h=>absurd h oM) (fun _=>?_);refine Br.mk (fun _=>?_) (fun h=>absurd rfl h);refine Dr.k ?_;refine Dv.pos ⟨oM,oM,by show _<=(18446744073709551615:Int);omega⟩ ?_;refine Dv.pos ⟨oM,oM⟩ ?_;exact zU (zj (by simp)) (zj (by simp))
def rup(lo by_:Nat):Nat:=(2*lo+by_) / (2*by_)
theorem zvF{lo y:Nat}(h0:y≠0):rup lo y=if y<=2*(lo % y) then lo / y+1 else lo / y:=by
 unfold rup;have e:=Nat.div_add_mod lo y;have hl:=Nat.mod_lt lo (Nat.pos_of_ne_zero h0);generalize lo / y=q at*;generalize lo % y=r at*;subst e;have p:2*(y*q+r)+y=2*y*q+(2*r+y):=by rw [Nat.mul_add,Nat.mul_assoc];omega
 rw [p,Nat.mul_add_div oM]
 split
 ·have:(2*r+y) / (2*y)=1:=by
   rw [Nat.div_eq_iff oM];omega
  omega
 ·have:(2*r+y) / (2*y)=0:=Nat.div_eq_of_lt oM;omega
theorem zBa(lo y:Nat)(hlo:lo<=9223372036854775808)(hy:y < 18446744073709551616)(h0:y≠0):
  zd Tryz.prog 178 [.agg [u64 (0:Nat),u64 lo,u64 y]] [] (.tup [u64 (rup lo y:Nat),bl true]) []:=by
 refine zc tok mix Tryz.func178 rfl rfl rfl ?_;refine Br.mk (fun h=>absurd h oM) (fun _=>?_);refine zb.t (zyR lo y oM hy h0) ?_;have hq:=Nat.div_le_self lo y;have hr:=Nat.mod_lt lo (Nat.pos_of_ne_zero h0);have he:=zvF (lo:=lo) h0;generalize rup lo y=u at*;generalize lo / y=q at*;generalize lo % y=r at*;refine Ar.o ?_;refine Br.mk (fun h=>?_) (fun h=>?_)
 ·rw [if_pos oM] at he;refine Ar.o ?_;exact zU (zj oM) (zA2 oM)
 ·rw [if_neg oM] at he;exact zU (zj oM) .refl
theorem zvG(p:Prop)[i:Decidable p](lo y:Nat)(hlo:lo<=9223372036854775808)(hy:y < 18446744073709551616)(h0:y≠0):
  zd Tryz.prog 177 [.pr p i,.val (.func (.func 178) #[.agg #[.int .u64 (0:Nat),.int .u64 (lo:Nat),.int .u64 (y:Nat)]] #[])] []
   (.tup [i64 (zaY (if p then -(rup lo y:Int) else rup lo y)),pr (-9223372036854775808<=(if p then -(rup lo y:Int) else rup lo y)/\(if p then -(rup lo y:Int) else rup lo y)<=9223372036854775807)]) []:=by
 refine zc tok mix Tryz.func177 rfl rfl rfl ?_;refine zb.t (zBa lo y hlo hy h0) ?_
 have hu:rup lo y < 18446744073709551616:=by
  rw [zvF h0];have:=Nat.div_le_self lo y
  split <;> omega
 generalize rup lo y=u at*
 have bad:∀z:Int,¬(-9223372036854775808<=z/\z<=9223372036854775807)->LE (.tup [i64 0,bl false]) (.tup [i64 (zaY z),pr (-9223372036854775808<=z/\z<=9223372036854775807)]):=fun z h=>
  zU (zj (by rw [zaY,if_neg h])) (ze h)
 have good:∀n z:Int,n=z-> -9223372036854775808<=z/\z<=9223372036854775807->LE (.tup [i64 n,bl true]) (.tup [i64 (zaY z),pr (-9223372036854775808<=z/\z<=9223372036854775807)]):=fun n z hn h=>
  zU (zj (by rw [zaY,if_pos h,hn])) (zP h)
 refine Br.mk (fun h=>bad _ (by split <;> omega)) (fun h=>?_)
 have tail:(u:Int)<=9223372036854775808->((u:Int)=9223372036854775808->p)->IntKind.i64.wrap (IntKind.u64.wrap (-(u:Int)))= -(u:Int)/\(¬p->(u:Int)<=9223372036854775807):=fun g1 g2=>by
  refine ⟨?_,fun hp=>?_⟩
  ·rw [yo];simp only [IntKind.wrap,IntKind.bits,IntKind.signed];simp;omega
  ·by_cases e:(u:Int)=9223372036854775808
   ·exact absurd (g2 e) hp
   ·omega
 refine Br.mk (fun h1=>?_) (fun h1=>?_)
 ·refine Br.mk (fun h2=>bad _ (by rw [if_neg h2];omega)) (fun h2=>?_);have hp:=Decidable.not_not.1 h2;obtain ⟨t1,t2⟩:=tail oM (fun _=>hp);refine Br.mk (fun _=>?_) (fun h3=>absurd hp h3);refine Ar.wrap ?_;refine Ar.wrap ?_;exact good _ _ (by rw [if_pos hp];exact t1) (by rw [if_pos hp];omega)
 ·obtain ⟨t1,t2⟩:=tail oM (fun h=>absurd h h1);refine Br.mk (fun h3=>?_) (fun h3=>?_)
  ·refine Ar.wrap ?_;refine Ar.wrap ?_;exact good _ _ (by rw [if_pos h3];exact t1) (by rw [if_pos h3];omega)
  ·have:=t2 h3;refine Ar.o ?_;exact good _ _ (by rw [if_neg h3]) (by rw [if_neg h3];omega)
theorem zvH(a c:Int):(if ¬(¬(a < 0↔(1:Int) < 0)↔c < 0) then -(rup a.natAbs c.natAbs:Int) else (rup a.natAbs c.natAbs:Int))=zX a c:=by
 unfold zX;show _=if a < 0↔c < 0 then ((rup a.natAbs c.natAbs:Nat):Int) else -((rup a.natAbs c.natAbs:Nat):Int)
 generalize (rup a.natAbs c.natAbs:Int)=u
 by_cases h1:a < 0 <;> by_cases h2:c < 0 <;> simp [h1,h2]
theorem ztm(a c:Int)(ha:R64 a)(hc:R64 c):zd Tryz.prog 131 [i64 a,i64 1,i64 c] []
  (.tup [i64 (zaY (zX a c)),pr (c≠0/\ -9223372036854775808<=zX a c/\zX a c<=9223372036854775807)]) []:=by
 refine zc tok mix Tryz.func131 rfl rfl rfl ?_;refine Br.mk (fun h=>?_) (fun h=>?_)
 ·refine zU (zj ?_) (ze fun h'=>h'.1 h);subst h;simp [zX,zaY]
 refine zb.t (ziO a ha) ?_;refine zb.t (ziO 1 dC) ?_;refine zb.t (zrE a.natAbs (1:Int).natAbs oM oM) ?_;rw [show (1:Int).natAbs=1 by rfl,Nat.mul_one,Nat.div_eq_of_lt (show a.natAbs < 18446744073709551616 by omega),Nat.mod_eq_of_lt (show a.natAbs < 18446744073709551616 by omega)];refine zb.t (ziO c hc) ?_;refine zb.t (zvG (¬(¬(a < 0↔(1:Int) < 0)↔c < 0)) a.natAbs c.natAbs oM oM oM) ?_;rw [zvH a c];exact zU .refl (zF ⟨fun g=>⟨h,g⟩,fun g=>g.2⟩)
theorem zI(a b:Int)(ha:R64 a)(hb:R64 b):zd Tryz.prog 88 [i64 a,i64 b] [] (i64 (zaY (zX a b))) []:=by
 refine zc tok mix Tryz.func88 rfl rfl rfl ?_;refine zb.t (ztm a b ha hb) ?_;exact .refl
theorem zml(a:List Dig)(ha:a.length<=1000000000):zd Tryz.prog 202 [.sl dgE a] [] (.full dgE (zk (val a))) []:=by
 refine zc tok mix Tryz.func202 rfl rfl rfl ?_;intro hl0;refine ⟨Nat,fun n=>⟨[(3,i64 n),(0,.sl dgE a)],[],0,22,0⟩,fun n=>n<=a.length/\∀i,n<=i->dig a i=0,fun n=>n,a.length,?_,?_,?_⟩
 ·exact ⟨Nat.le_refl _,fun i h=>zae h⟩
 ·exact zf []
 rintro n ⟨h1,h2⟩
 have post:(n=0∨dig a (n - 1)≠0)->((a.drop (0:Int).toNat).take ((n:Int) - 0).toNat)=zk (val a):=fun h3=>by
  rw [← ziJ h3 h1 h2];simp
 refine Br.mk (fun h3=>?_) (fun h3=>?_)
 ·refine Ar.o ?_;refine Ob.o ?_;intro x hx;rw [show ((n:Int) - 1).toNat=n - 1 by omega] at hx;have dx:=zS hx;refine Br.mk (fun h4=>?_) (fun h4=>?_)
  ·refine Ar.o ?_;refine ⟨n - 1,⟨oM,fun i hi=>?_⟩,z9 [] ⟨congrArg (fun n=>some (i64 n)) oM,rfl,trivial⟩ trivial,by dsimp only;omega⟩
   by_cases e:i=n - 1
   ·subst e;rw [dx];omega
   ·exact h2 i oM
  ·refine zu2.full (Ob.mk ⟨⟨oM,oM,rfl,oM⟩,fun _ _=>rfl⟩ ?_);exact zry (post (.inr oM))
 ·refine zu2.full (Ob.mk ⟨⟨oM,oM,rfl,oM⟩,fun _ _=>rfl⟩ ?_);exact zry (post (.inl oM))
theorem jg(a:List Dig)(ha:a.length<=1000000000):zd Tryz.prog 202 [.sl dgE a] [] (.sl dgE (zk (val a))) []:=(zml a ha).le (zb3 rfl)
theorem zrF(q:List Dig)(hq:q.length<=1000000000):zd Tryz.prog 201 [.sl dgE q] [] (.sl dgE q) []:=by
 refine zc tok mix Tryz.func201 rfl rfl rfl ?_
 by_cases h0:q=[]
 ·refine zsW.any (Br.mk ?_ ?_)
  ·subst h0;exact zC
  ·refine ⟨Dig,dgE,[],rfl,Ob.mk zeo ?_⟩;refine ⟨q,rfl,Ob.mk (zgp (by simp only [List.length_nil];omega)) ?_⟩;exact qy rfl
 ·refine zsW.some (fun h=>h0 (List.eq_nil_of_length_eq_zero h)) ?_;refine ⟨Dig,dgE,[],rfl,Ob.mk zeo ?_⟩;refine ⟨q,rfl,Ob.mk (zgp (by simp only [List.length_nil];omega)) ?_⟩;exact qy rfl
theorem vI(a:List Dig)(ha:a.length<=1000000000):zd Tryz.prog 150 [.sl dgE a] [] (.sl dgE (zk (val a))) []:=by
 refine zc tok mix Tryz.func150 rfl rfl rfl ?_;refine zb.t (jg a ha) ?_;refine zb.t (zrF _ (by have:=zG a;omega)) ?_;exact .refl
theorem zdT(n:Nat)(hn:n < 18446744073709551616):zd Tryz.prog 195 [u64 n] [] (.sl dgE (zk n)) []:=by
 refine zc tok mix Tryz.func195 rfl rfl rfl ?_;refine Ar.wrap ?_;refine Ob.o1 ?_;refine Ar.wrap ?_;refine ⟨Dig,dgE,[dof n,dof (n / 4294967296)],congr (congrArg (fun n m=>[u32 n,u32 m]) (zaH rfl)) (zaH (by simp only [Int.reducePow];omega)),Ob.mk (dTwo _ _) ?_⟩;refine zb.see 0 _ (vI [dof n,dof (n / 4294967296)] (by simp)) rfl rfl rfl ?_;rw [zmk _ hn];exact .refl
theorem zdU(a:List Dig)(i:Int)(hi:0<=i):zd Tryz.prog 245 [.sl dgE a,i64 i] [] (u64 (dig a i.toNat)) []:=by
 refine zc tok mix Tryz.func245 rfl rfl rfl ?_;intro hl;refine Br.mk (fun h=>?_) (fun h=>?_)
 ·refine Ob.o ?_;intro x hx;have:=x.isLt;refine Ar.o ?_;exact zj (by rw [zS hx])
 ·exact zj (by rw [zae oM];rfl)
theorem ziP{A B:Nat}(h:(zk A).length < (zk B).length):A < B:=by
 have h1:=zb6 (n:=A) (Nat.le_refl _);have h2:=zmh (n:=B) (fun e=>by rw [e,jc] at h;simp at h);exact Nat.lt_of_lt_of_le h1 (Nat.le_trans (Nat.pow_le_pow_right dC oM) h2)
theorem zAs(a b:List Dig)(ha:a.length<=1000000000)(hb:b.length<=1000000000):
  zd Tryz.prog 239 [.sl dgE a,.sl dgE b] [] (i64 (zfn (val a) (val b))) []:=by
 refine zc tok mix Tryz.func239 rfl rfl rfl ?_;refine zb.t (jg a ha) ?_;refine zb.t (jg b hb) ?_;have la:=zG a;have lb:=zG b;generalize val a=A at*;generalize val b=B at*;intro hl1 hl2;refine Br.mk (fun h3=>?_) (fun h3=>?_)
 ·intro hl4 hl5;refine Br.mk (fun h6=>?_) (fun h6=>?_)
  ·have:=ziP (A:=A) (B:=B) oM;exact zj (by rw [zfn,if_pos this])
  ·have:=ziP (A:=B) (B:=A) oM;exact zj (by rw [zfn,if_neg oM,if_pos this])
 have h3:(zk A).length=(zk B).length:=oM;intro hl7;refine Ar.o ?_;refine ⟨Nat,fun j=>⟨[(5,i64 ((j:Int) - 1)),(0,.sl dgE (zk A)),(1,.sl dgE (zk B))],[],0,45,0⟩,fun j=>j<=(zk A).length/\∀i,j<=i->dig (zk A) i=dig (zk B) i,fun j=>j,(zk A).length,?_,?_,?_⟩
 ·exact ⟨oM,fun i hi=>by rw [zae oM,zae oM]⟩
 ·exact zf []
 rintro j ⟨h1,h2⟩
 refine Br.mk (fun h8=>?_) (fun h8=>?_)
 ·have h2':∀i,j - 1+1<=i->dig (zk A) i=dig (zk B) i:=fun i hi=>h2 i oM
  refine Dr.k ?_;refine Ob.o ?_;intro x hx;rw [show ((j:Int) - 1).toNat=j - 1 by omega] at hx;have dx:=zS hx;refine Ob.o ?_;intro y hy;rw [show ((j:Int) - 1).toNat=j - 1 by omega] at hy;have dy:=zS hy;refine Br.mk (fun h4=>?_) (fun h4=>?_)
  ·have:=zfo h2' oM;rw [zm,zm] at this;exact zj (by rw [zfn,if_pos this])
  refine Dr.k ?_;refine Ob.o ?_;intro x' hx';rw [show ((j:Int) - 1).toNat=j - 1 by omega,hx] at hx'
  cases hx'
  refine Ob.o ?_;intro y' hy';rw [show ((j:Int) - 1).toNat=j - 1 by omega,hy] at hy'
  cases hy'
  refine Br.mk (fun h5=>?_) (fun h5=>?_)
  ·have:=zfo (fun i hi=>(h2' i hi).symm) oM;rw [zm,zm] at this;exact zj (by rw [zfn,if_neg oM,if_pos this])
  refine Ar.o ?_;refine ⟨j - 1,⟨oM,fun i hi=>?_⟩,z9 [] ⟨congrArg (fun n=>some (i64 n)) oM,rfl,rfl,trivial⟩ trivial,by dsimp only;omega⟩
  by_cases hij:i=j - 1
  ·subst hij;omega
  ·exact h2 i oM
 ·have hj:j=0:=by omega
  subst hj;have:=zkM fun i=>h2 i (Nat.zero_le _)
  rw [zm,zm] at this;exact zj (by rw [zfn,if_neg oM,if_neg oM])
theorem zAt(a b:List Dig)(ha:a.length<=900000000)(hb:b.length<=900000000):
  zd Tryz.prog 199 [.sl dgE a,.sl dgE b] [] (.sl dgE (zk (val a+val b))) []:=by
 refine zc tok mix Tryz.func199 rfl rfl rfl ?_;intro hl1 hl2;refine Ar.fit (by simp only [ze4];omega) ?_;have en:ze4 (a.length:Int) [(b.length:Int)]+1=((max a.length b.length+1:Nat):Int):=by simp only [ze4];omega
 change ∃_,_;rw [en];generalize hn:max a.length b.length+1=n at*;refine ⟨Dig,dgE,0,rfl,Ob.o3 ?_⟩;intro hl3
 refine ⟨Nat×List Dig×Nat,fun ⟨i,out,c⟩=>⟨[(17,i64 i),(16,i64 n),(6,u64 c),(5,.own 0),(0,.sl dgE a),(1,.sl dgE b)],[(0,qe out)],1,39,0⟩,
  fun q=>q.1<=n/\q.2.1.length=n/\q.2.2<=1/\(∀j,q.1<=j->dig q.2.1 j=0)/\val q.2.1+4294967296 ^ q.1*q.2.2=val (a.take q.1)+val (b.take q.1),fun q=>n - q.1,(0,List.replicate n 0,0),?_,?_,?_⟩
 ·exact ⟨Nat.zero_le _,by simp,Nat.zero_le _,fun j _=>yz _ _,by simp [zaj,val]⟩
 ·exact z9 [(0,some 0)] ⟨rfl,congrArg (fun n=>some (i64 n)) (by simp),rfl,rfl,rfl,rfl,trivial⟩ ⟨rfl,trivial⟩
 rintro ⟨i,out,c⟩ ⟨h1,h2,h3,h4,h5⟩
 dsimp only at h1 h2 h3 h4 h5;refine Br.mk (fun h6=>?_) (fun h6=>?_)
 ·have d1:=yB a i;have d2:=yB b i;refine zb.t (zdU a _ oM) ?_;refine zb.t (zdU b _ oM) ?_;simp only [Int.toNat_natCast];(iterate 2 refine Ar.o ?_);refine Ar.wrap ?_;refine Ob.o ?_;refine Ob.o ?_;intro z hz;refine ⟨dof (dig a i+dig b i+c),congrArg (fun n=>[u32 n]) (zaH oM),?_⟩;refine Ob.o1 ?_;refine Ar.o ?_
  refine ⟨(i+1,out.set i (dof (dig a i+dig b i+c)),(dig a i+dig b i+c) / 4294967296),⟨by dsimp only;omega,by simp [h2],by dsimp only;omega,fun j hj=>?_,?_⟩,
   z9 [(0,some 0)] ⟨rfl,rfl,congrArg (fun n=>some (u64 n)) (by simp only [Int.reducePow];omega),rfl,rfl,rfl,trivial⟩ ⟨rfl,trivial⟩,by dsimp only;omega⟩
  ·dsimp only at hj ⊢;rw [jA,if_neg oM];exact h4 j oM
  ·dsimp only;have hs:=vD out i (dof (dig a i+dig b i+c)) oM;rw [h4 i (Nat.le_refl _),ki,Nat.mul_zero,Nat.add_zero] at hs;rw [hs,zO,zO,Nat.pow_succ];have e:=Nat.div_add_mod (dig a i+dig b i+c) 4294967296;generalize (dig a i+dig b i+c) / 4294967296=x at*;generalize (dig a i+dig b i+c) % 4294967296=y at*;generalize 4294967296 ^ i=p at*;clear hs h4
   grind
 ·have hi:i=n:=by omega
  subst hi;rw [kQ oM,kQ oM] at h5
  have hc:c=0:=by
   have l1:=Nat.lt_of_lt_of_le (qT a) (Nat.pow_le_pow_right (show 0 < 4294967296 by decide) (show a.length<=i - 1 by omega));have l2:=Nat.lt_of_lt_of_le (qT b) (Nat.pow_le_pow_right (show 0 < 4294967296 by decide) (show b.length<=i - 1 by omega));have e:4294967296 ^ i=4294967296 ^ (i - 1)*4294967296:=by rw [← Nat.pow_succ];congr 1;omega
   have:c=0∨c=1:=oM
   rcases this with h | h
   ·exact h
   ·subst h;omega
  subst hc;refine zb.see 0 _ (jg out oM) rfl rfl rfl ?_;rw [show val out=val a+val b by omega];exact .refl
theorem zAu(a b:List Dig)(ha:a.length<=900000000)(hb:b.length<=900000000):
  zd Tryz.prog 200 [.sl dgE a,.sl dgE b] [] (.tup [.sl dgE (zk (val a - val b)),pr (val b<=val a)]) []:=by
 refine zc tok mix Tryz.func200 rfl rfl rfl ?_;refine zb.t (zAs a b oM oM) ?_;refine Br.mk (fun h=>?_) (fun h=>?_)
 ·have hlt:=zdP.1 h;refine zU ?_ (ze oM);rw [Nat.sub_eq_zero_of_le oM,jc];exact zC
 have hle:val b<=val a:=Nat.le_of_not_lt fun h'=>h (zdP.2 h')
 refine zb.t (jg a oM) ?_;have la:=zG a;have ldef:=zb6 (n:=val a) (Nat.le_refl _);intro hl2;generalize hn:(zk (val a)).length=n at*;refine ⟨Dig,dgE,0,rfl,Ob.o3 ?_⟩;intro hl3
 refine ⟨Nat×List Dig×Nat,fun ⟨i,out,c⟩=>⟨[(20,i64 i),(19,i64 n),(7,u64 c),(6,.own 0),(0,.sl dgE a),(1,.sl dgE b)],[(0,qe out)],1,42,0⟩,
  fun q=>q.1<=n/\q.2.1.length=n/\q.2.2<=1/\(∀j,q.1<=j->dig q.2.1 j=0)/\val q.2.1+val (b.take q.1)=val (a.take q.1)+4294967296 ^ q.1*q.2.2,fun q=>n - q.1,(0,List.replicate n 0,0),?_,?_,?_⟩
 ·exact ⟨Nat.zero_le _,by simp,Nat.zero_le _,fun j _=>yz _ _,by simp [zaj,val]⟩
 ·exact z9 [(0,some 0)] ⟨rfl,congrArg (fun n=>some (i64 n)) (by simp),rfl,rfl,rfl,rfl,trivial⟩ ⟨rfl,trivial⟩
 rintro ⟨i,out,c⟩ ⟨h1,h2,h3,h4,h5⟩
 dsimp only at h1 h2 h3 h4 h5;refine Br.mk (fun h6=>?_) (fun h6=>?_)
 ·have d1:=yB a i;have d2:=yB b i;refine zb.t (zdU a _ oM) ?_;refine zb.t (zdU b _ oM) ?_;simp only [Int.toNat_natCast];refine Ar.wrap ?_;refine Ar.wrap ?_;refine Ar.wrap ?_;refine Ob.o ?_;refine Ob.o ?_;intro z hz;refine ⟨dof (4294967296+dig a i - dig b i - c),congrArg (fun n=>[u32 n]) (by rw [ziL,yo,yo,ki];omega),?_⟩;refine Ob.o1 ?_;refine Ar.o ?_
  refine ⟨(i+1,out.set i (dof (4294967296+dig a i - dig b i - c)),1 - (4294967296+dig a i - dig b i - c) / 4294967296),⟨by dsimp only;omega,by simp [h2],by dsimp only;omega,fun j hj=>?_,?_⟩,
   z9 [(0,some 0)] ⟨rfl,rfl,congrArg (fun n=>some (u64 n)) (by rw [yo,yo];simp only [Int.reducePow];omega),rfl,rfl,rfl,trivial⟩ ⟨rfl,trivial⟩,by dsimp only;omega⟩
  ·dsimp only at hj ⊢;rw [jA,if_neg oM];exact h4 j oM
  ·dsimp only;have hs:=vD out i (dof (4294967296+dig a i - dig b i - c)) oM;rw [h4 i (Nat.le_refl _),ki,Nat.mul_zero,Nat.add_zero] at hs;rw [hs,zO,zO,Nat.pow_succ];have e:(4294967296+dig a i - dig b i - c) % 4294967296+dig b i+c=dig a i+4294967296*(1 - (4294967296+dig a i - dig b i - c) / 4294967296):=oM;generalize 1 - (4294967296+dig a i - dig b i - c) / 4294967296=x at*;generalize (4294967296+dig a i - dig b i - c) % 4294967296=y at*;generalize 4294967296 ^ i=p at*
   have e2:p*y+p*dig b i+p*c=p*dig a i+p*4294967296*x:=by
    rw [← Nat.mul_add,← Nat.mul_add,e,Nat.mul_add,Nat.mul_assoc]
   omega
 ·have hi:i=n:=by omega
  subst hi;have ea:val (a.take i)=val a:=by rw [znZ,Nat.mod_eq_of_lt ldef]
  have eb:val (b.take i)=val b:=by rw [znZ,Nat.mod_eq_of_lt (Nat.lt_of_le_of_lt hle ldef)]
  rw [ea,eb] at h5;have e4:=qT out;rw [h2] at e4
  have e:val out=val a - val b:=by
   have:c=0∨c=1:=oM
   rcases this with rfl | rfl <;> omega
  refine zb.see 0 _ (jg out oM) rfl rfl rfl ?_;rw [e];exact zU .refl (zP hle)
theorem zn2(xs:List Dig)(n:Nat)(h:xs.length=n+2):∃r,r < 4294967296 ^ n/\val xs=(dig xs (n+1)*4294967296+dig xs n)*4294967296 ^ n+r:=by
 refine ⟨val (xs.take n),jr xs n,?_⟩;have e1:=kG xs n;have e2:=zB xs n;have e3:=zB xs (n+1);rw [z5 (show xs.length<=n+1+1 by omega),Nat.mul_zero,Nat.add_zero] at e3;rw [e3] at e2;rw [e1,e2];generalize dig xs (n+1)=a;generalize dig xs n=b;generalize 4294967296 ^ n=p
 grind
theorem zn3 {P v1 v2 rv top u2 ru q r:Nat} (hrv:rv < P) (hru:ru < P) (hv1:2147483648<=v1) (hv2:v2 < 4294967296) (e:q*v1+r=top) (hq:q<=4294967296)
  (hle:q*v2<=r*4294967296+u2) (hQ:((top*4294967296+u2)*P+ru) / ((v1*4294967296+v2)*P+rv)<=q):
  q=((top*4294967296+u2)*P+ru) / ((v1*4294967296+v2)*P+rv)∨q=((top*4294967296+u2)*P+ru) / ((v1*4294967296+v2)*P+rv)+1:=by
 have hP:0 < P:=oM
 have hV:0 < (v1*4294967296+v2)*P+rv:=by
  have:0 < (v1*4294967296+v2)*P:=Nat.mul_pos oM hP;omega
 have key:(q - 1)*((v1*4294967296+v2)*P+rv)<=(top*4294967296+u2)*P+ru:=by
  rcases Nat.eq_zero_or_pos q with h0 | h0
  ·subst h0;simp
  ·obtain ⟨p,rfl⟩:∃p,q=p+1:=⟨q - 1,oM⟩;rw [Nat.add_sub_cancel]
   have h1:p*((v1*4294967296+v2)*P+rv)<=p*((v1*4294967296+v2+1)*P):=by
    refine Nat.mul_le_mul_left _ ?_;rw [Nat.add_mul _ 1 P];omega
   have h2:p*(v1*4294967296+v2+1)<=top*4294967296+u2:=by
    have a1:(p+1)*v1=p*v1+v1:=by rw [Nat.add_mul];omega
    have a2:(p+1)*v2=p*v2+v2:=by rw [Nat.add_mul];omega
    have a3:p*(v1*4294967296+v2+1)=(p*v1)*4294967296+p*v2+p:=by
     rw [Nat.mul_add,Nat.mul_add,Nat.mul_assoc];omega
    rw [a1] at e;rw [a2] at hle;rw [a3];omega
   have h3:p*((v1*4294967296+v2+1)*P)<=(top*4294967296+u2)*P:=by
    rw [← Nat.mul_assoc];exact Nat.mul_le_mul_right _ h2
   omega
 have:=(Nat.le_div_iff_mul_le hV).2 key;omega
theorem ztn{P v1 v2 rv top u2 ru q r:Nat}(hru:ru < P)(e:q*v1+r=top)(hgt:r*4294967296+u2 < q*v2):
  ((top*4294967296+u2)*P+ru) / ((v1*4294967296+v2)*P+rv) < q:=by
 have hP:0 < P:=oM
 have hq:0 < q:=by
  rcases Nat.eq_zero_or_pos q with h | h
  ·subst h;omega
  ·exact h
 have h1:top*4294967296+u2+1<=q*(v1*4294967296+v2):=by
  have a3:q*(v1*4294967296+v2)=(q*v1)*4294967296+q*v2:=by rw [Nat.mul_add,Nat.mul_assoc]
  rw [a3];omega
 have h2:(top*4294967296+u2)*P+ru < q*((v1*4294967296+v2)*P+rv):=by
  have a1:(top*4294967296+u2+1)*P<=q*(v1*4294967296+v2)*P:=Nat.mul_le_mul_right _ h1
  have a2:q*(v1*4294967296+v2)*P<=q*((v1*4294967296+v2)*P+rv):=by
   rw [Nat.mul_assoc];exact Nat.mul_le_mul_left _ (Nat.le_add_right _ _)
  rw [Nat.add_mul _ 1 P] at a1;omega
 have hV:0 < (v1*4294967296+v2)*P+rv:=by
  rcases Nat.eq_zero_or_pos ((v1*4294967296+v2)*P+rv) with h | h
  ·rw [h] at h2;omega
  ·exact h
 exact (Nat.div_lt_iff_lt_mul hV).2 h2
theorem zto{p q c b ui y lo c' ui' b' U V R:Nat}(h:R+q*V=U+p*(c+b))(hl:lo+4294967296*c'=c+q*y)(hu:ui'+lo+b=ui+4294967296*b'):
  R+p*ui'+q*(V+p*y)=U+p*ui+p*4294967296*(c'+b'):=by
 have e1:ui'+(c+q*y)+b=ui+4294967296*(c'+b'):=oM;have e2:p*(ui'+(c+q*y)+b)=p*(ui+4294967296*(c'+b')):=by rw [e1]
 grind
end Go.Gs
