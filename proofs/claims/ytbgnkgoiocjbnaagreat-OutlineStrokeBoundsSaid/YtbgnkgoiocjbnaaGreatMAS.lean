/- Integers, the other text: what rounded division needs. -/
import Derived.Test.YtbgnkgoiocjbnaaGreatMA
import Derived.Test.YtbgnkgoiocjbnaaGreatMAR
import Derived.Lib.Mul64
import Derived.Test.YtbgnkgoiocjbnaaGreatMAQ
set_option maxRecDepth 100000
set_option maxHeartbeats 8000000
set_option linter.all false
namespace Go.Gs
open Go.Proofs
def biE(a:BI):List SV:=[pr (a.neg=true),.sl dgE a.mag]
theorem vz(p:Prop)[i:Decidable p](m:List Dig)(hm:m.length<=1000000000):
  zd Tryz.prog 115 [.pr p i,.sl dgE m] [] (.agg (biE (ofZ (if p then -(val m:Int) else val m)))) []:=by
 refine zc tok mix Tryz.func115 rfl rfl rfl ?_;refine zb.t (yw m hm) ?_;refine Br.mk (fun h=>?_) (fun h=>?_)
 ·intro hl;refine jJ (.cons (kZ ?_) (.cons (qb ?_) .nil))
  ·rw [if_pos h,u4];have:=qN (n:=val m);omega
  ·rw [if_pos h,u5];congr 1;omega
 ·refine jJ (.cons (ze ?_) (.cons (qb ?_) .nil))
  ·rw [if_neg h,u4];omega
  ·rw [if_neg h,u5];congr 1
theorem znZ(a:BI)(hm:a.mag.length<=1000000000):
  zd Tryz.prog 115 [pr (a.neg=true),.sl dgE a.mag] [] (.agg (biE (ofZ a.v))) []:=vz (a.neg=true) a.mag hm
theorem dTwo(c d:Dig):[c,d].length=2/\2<=281474976710656/\2*1<=16777216/\0 < 1/\∀x∈[c,d],(dgE x).length=1/\jj (dgE x)=true/\j5.flats (dgE x)=true:=
 ⟨rfl,dC,dC,dC,fun _ _=>⟨rfl,rfl,rfl⟩⟩
theorem zju(m:Nat)(h:m < 18446744073709551616):val [dof m,dof (m / 4294967296)]=m:=by
 simp only [val,zvV];omega
theorem vA(n:Int)(hn:R64 n):zd Tryz.prog 58 [i64 n] [] (.agg (biE (ofZ n))) []:=by
 refine zc tok mix Tryz.func58 rfl rfl rfl ?_;refine Ar.wrap ?_;refine Br.mk (fun h=>?_) (fun h=>?_)
 ·refine Ar.wrap ?_;have e:IntKind.u64.wrap (0 - IntKind.u64.wrap n)=((n.natAbs:Nat):Int):=by rw [jE,jE];omega
  refine Ar.wrap ?_;refine Ob.o1 ?_;refine Ar.wrap ?_;refine ⟨Dig,dgE,[dof n.natAbs,dof (n.natAbs / 4294967296)],congr (congrArg (fun n m=>[u32 n,u32 m]) (vy e)) (vy (by rw [e];simp only [Int.reducePow];omega)),Ob.mk (dTwo _ _) ?_⟩;refine zb.see 1 _ (vz (n < 0) [dof n.natAbs,dof (n.natAbs / 4294967296)] (by simp)) rfl rfl rfl ?_;rw [if_pos h,zju _ oM,show (-(n.natAbs:Int))=n by omega];exact .refl
 ·have e:IntKind.u64.wrap n=((n.natAbs:Nat):Int):=by rw [jE];omega
  refine Ar.wrap ?_;refine Ob.o1 ?_;refine Ar.wrap ?_;refine ⟨Dig,dgE,[dof n.natAbs,dof (n.natAbs / 4294967296)],congr (congrArg (fun n m=>[u32 n,u32 m]) (vy e)) (vy (by rw [e];simp only [Int.reducePow];omega)),Ob.mk (dTwo _ _) ?_⟩;refine zb.see 1 _ (vz (n < 0) [dof n.natAbs,dof (n.natAbs / 4294967296)] (by simp)) rfl rfl rfl ?_;rw [if_neg h,zju _ oM,show (n.natAbs:Int)=n by omega];exact .refl
theorem zdO(a:BI)(ha:a.mag.length<=1000000000):zd Tryz.prog 113 [.agg (biE a)] [] (i64 a.v.sign) []:=by
 refine zc tok mix Tryz.func113 rfl rfl rfl ?_;refine zb.t (znZ a ha) ?_;intro hl;have h1:=qN (n:=a.v.natAbs);refine Br.mk (fun h=>?_) (fun h=>?_)
 ·have:a.v=0:=by rw [u5] at h;omega
  exact zu (by rw [this];rfl)
 have h0:a.v≠0:=by rw [u5] at h;omega
 refine Br.mk (fun h2=>?_) (fun h2=>?_)
 ·rw [u4] at h2;exact zu (Int.sign_eq_neg_one_of_neg h2).symm
 ·rw [u4] at h2;exact zu (Int.sign_eq_one_of_pos oM).symm
theorem zuh(a b:BI):(if ¬(a.neg=true↔b.neg=true) then -((val a.mag*val b.mag:Nat):Int) else ((val a.mag*val b.mag:Nat):Int))=a.v*b.v:=by
 rcases a.v_eq with ⟨h1,h2⟩ | ⟨h1,h2⟩ <;> rcases b.v_eq with ⟨h3,h4⟩ | ⟨h3,h4⟩ <;> simp [h1,h2,h3,h4,Int.neg_mul,Int.mul_neg]
theorem zgt(a b:BI)(ha:a.mag.length<=400000000)(hb:b.mag.length<=400000000):zd Tryz.prog 166 [.agg (biE a),.agg (biE b)] [] (.agg (biE (ofZ (a.v*b.v)))) []:=by
 refine zc tok mix Tryz.func166 rfl rfl rfl ?_;refine Dr.k ?_;refine zb.t (zs3 a.mag b.mag ha hb) ?_
 have hl:(zm (val a.mag*val b.mag)).length<=1000000000:=by
  refine Nat.le_trans (jp (k:=a.mag.length+b.mag.length) ?_) oM;rw [Nat.pow_add];exact Nat.mul_lt_mul_of_lt_of_lt (qD _) (qD _)
 refine zb.t (vz (¬(a.neg=true↔b.neg=true)) _ hl) ?_;rw [zn,zuh];exact .refl
theorem zxI(a b:BI)(hb:b.v≠0):(if ¬(a.neg=true↔b.neg=true) then -(((val a.mag+val a.mag+val b.mag) / (val b.mag+val b.mag):Nat):Int) else (((val a.mag+val a.mag+val b.mag) / (val b.mag+val b.mag):Nat):Int))=zQ a.v b.v:=by
 unfold zQ;rw [BI.v_abs,BI.v_abs,Nat.two_mul,Nat.two_mul]
 by_cases h0:val a.mag=0
 ·have e:(val a.mag+val a.mag+val b.mag) / (val b.mag+val b.mag)=0:=by
   rw [h0];refine Nat.div_eq_of_lt ?_
   rcases b.v_eq with ⟨h1,h2⟩ | ⟨h1,h2⟩ <;> omega
  rw [e];simp
 ·generalize ((val a.mag+val a.mag+val b.mag) / (val b.mag+val b.mag))=q
  have e:(a.neg=true↔b.neg=true)↔(a.v < 0↔b.v < 0):=by
   rcases a.v_eq with ⟨h1,h2⟩ | ⟨h1,h2⟩ <;> rcases b.v_eq with ⟨h3,h4⟩ | ⟨h3,h4⟩ <;> simp only [h1,h3] <;> simp <;> omega
  by_cases h:(a.v < 0↔b.v < 0)
  ·rw [if_neg (not_not_intro (e.2 h)),if_pos h]
  ·rw [if_pos (fun hh=>h (e.1 hh)),if_neg h]
theorem zgu{a b:List Dig}{k:Nat}(ha:a.length<=k)(hb:b.length<=k):(zm (val a+val b)).length<=k+1:=by
 refine jp ?_;have h1:=Nat.lt_of_lt_of_le (qD a) (Nat.pow_le_pow_right (show 0 < 4294967296 by decide) ha);have h2:=Nat.lt_of_lt_of_le (qD b) (Nat.pow_le_pow_right (show 0 < 4294967296 by decide) hb);rw [Nat.pow_succ];omega
theorem zwu(a b:BI)(ha:a.mag.length<=300000000)(hb:b.mag.length<=300000000)(h0:b.v≠0):
  zd Tryz.prog 300 [.agg (biE a),.agg (biE b)] [] (.tup [.agg (biE (ofZ (zQ a.v b.v))),i64 0]) []:=by
 refine zc tok mix Tryz.func300 rfl rfl rfl ?_;refine zb.t (zdO b oM) ?_;refine Br.mk (fun h=>absurd (Int.sign_eq_zero_iff_zero.1 h) h0) (fun _=>?_);refine Dr.k ?_;have l1:=zgu ha ha;have l2:=zgu hb hb;have l3:=zgu l1 (show b.mag.length<=_ by omega);rw [zn] at l3;have hbp:val b.mag+val b.mag≠0:=by rcases b.v_eq with ⟨h1,h2⟩ | ⟨h1,h2⟩ <;> omega
 refine zb.t (zs2 a.mag a.mag oM oM) ?_;refine zb.t (zs2 _ b.mag oM oM) ?_;refine zb.t (zs2 b.mag b.mag oM oM) ?_;rw [zn];refine zb.t (zh6 _ _ oM oM (by rw [zn];exact hbp)) ?_;rw [zn,zn];have l4:(zm ((val a.mag+val a.mag+val b.mag) / (val b.mag+val b.mag))).length<=1000000000:=Nat.le_trans (kW (Nat.div_le_self _ _)) oM;refine zb.t (vz (¬(a.neg=true↔b.neg=true)) _ l4) ?_;rw [zn,zxI a b h0];exact .refl
theorem zgv{x y:Nat}(hx:x < 18446744073709551616)(hy:y < 18446744073709551616):uW .or .u64 x y=((x|||y:Nat):Int):=by
 show IntKind.u64.wrap ((BitVec.ofInt 64 x|||BitVec.ofInt 64 y).toNat:Nat)=_;have h:x|||y < 2 ^ 64:=Nat.or_lt_two_pow hx hy
 have e:(BitVec.ofInt 64 x|||BitVec.ofInt 64 y).toNat=x|||y:=by
  rw [BitVec.toNat_or,BitVec.toNat_ofInt,BitVec.toNat_ofInt];congr 1
  ·omega
  ·omega
 rw [e,jE];omega
def yH(z:Int):Int:=if -9223372036854775808<=z/\z<=9223372036854775807 then z else 0
theorem zk1(a:BI)(ha:a.mag.length<=1000000000):
  zd Tryz.prog 109 [.agg (biE a)] [] (.tup [i64 (yH a.v),pr (-9223372036854775808<=a.v/\a.v<=9223372036854775807)]) []:=by
 refine zc tok mix Tryz.func109 rfl rfl rfl ?_;refine zb.t (znZ a ha) ?_;generalize a.v=z
 have bad:¬(-9223372036854775808<=z/\z<=9223372036854775807)->LE (.tup [i64 0,bl false]) (.tup [i64 (yH z),pr (-9223372036854775808<=z/\z<=9223372036854775807)]):=fun h=>
  zS (zu (by rw [yH,if_neg h])) (ze h)
 refine ⟨Nat,fun i=>⟨[(6,i64 i),(5,u64 (val ((zm z.natAbs).take i))),(4,.loc 1 0)],[(1,.box 25 (biE (ofZ z))),(0,.box 25 (biE a))],2,51,0⟩,
  fun i=>i<=2/\i<=(zm z.natAbs).length,fun i=>2 - i,0,?_,?_,?_⟩
 ·exact ⟨oM,Nat.zero_le _⟩
 ·exact zh [(0,some 0),(1,some 1)]
 rintro i ⟨h1,h2⟩
 intro hl;refine Br.mk (fun h3=>?_) (fun h3=>?_)
 ·have h3:i < (zm z.natAbs).length:=by rw [u5] at h3;omega
  refine Br.mk (fun h4=>?_) (fun h4=>?_)
  ·refine bad fun h5=>?_
   have:=jp (n:=z.natAbs) (k:=2) (by rw [show 4294967296 ^ 2=18446744073709551616 by decide];omega);omega
  ·refine Ob.mk (by rw [u5];omega) ?_;intro x hx;have hx:(zm z.natAbs)[i]? =some x:=hx;have dx:=zK hx;have hxl:=x.isLt;have ht:=qq (zm z.natAbs) i;have hts:=zG (zm z.natAbs) i;rw [dx] at hts
   have key:∀n:Int,n=32*i->0<=n/\n < 64/\0<=(x.val:Int)*2 ^ n.toNat/\(x.val:Int)*2 ^ n.toNat<=18446744073709551615/\
     uW .or .u64 (val ((zm z.natAbs).take i)) ((x.val:Int)*2 ^ n.toNat)=val ((zm z.natAbs).take (i+1)):=fun n hn=>by
    have:i=0∨i=1:=oM
    rcases this with rfl | rfl
    ·have:n=0:=by omega
     subst this;rw [hts];have e:=zgv (x:=0) (y:=x.val) oM oM;have p:(x.val:Int)*2 ^ (0:Int).toNat=(x.val:Int):=by simp
     rw [p,zhG];refine ⟨oM,oM,oM,oM,?_⟩;rw [e];simp
    ·have:n=32:=by omega
     subst this;rw [hts];have e:=zgv (x:=val ((zm z.natAbs).take 1)) (y:=4294967296*x.val) oM oM;have e2:=Nat.two_pow_add_eq_or_of_lt (i:=32) (b:=val ((zm z.natAbs).take 1)) (by rw [show 2 ^ 32=4294967296 by decide];omega) x.val;rw [show 2 ^ 32=4294967296 by decide] at e2
     have e3:(x.val:Int)*2 ^ (32:Int).toNat=((4294967296*x.val:Nat):Int):=by
      rw [show (32:Int).toNat=32 by decide];simp only [Int.reducePow];omega
     rw [e3];refine ⟨oM,oM,oM,oM,?_⟩;rw [e,Nat.or_comm,← e2];omega
   obtain ⟨k1,k2,k3,k4,k5⟩:=key (32*i) rfl;(iterate 3 refine Ar.o ?_);refine Ob.mk ⟨k1,k2⟩ ?_;refine Ar.fit ⟨k3,k4⟩ ?_;refine ⟨_,k5.symm,?_⟩;refine Ar.o ?_;exact ⟨i+1,⟨oM,oM⟩,zh [(0,some 0),(1,some 1)],by dsimp only;omega⟩
 ·have h4:(zm z.natAbs).length=i:=by rw [u5] at h3;omega
  have e:val ((zm z.natAbs).take i)=z.natAbs:=by rw [kz oM,zn]
  have hz:z.natAbs < 18446744073709551616:=by
   have:=qq (zm z.natAbs) i;rw [e] at this;refine Nat.lt_of_lt_of_le this (Nat.le_trans (Nat.pow_le_pow_right dC h1) dC)
  have good:∀n:Int,n=z-> -9223372036854775808<=z/\z<=9223372036854775807->LE (.tup [i64 n,bl true]) (.tup [i64 (yH z),pr (-9223372036854775808<=z/\z<=9223372036854775807)]):=fun n hn h=>
   zS (zu (by rw [yH,if_pos h,hn])) (kC h)
  have hn:=u4 z;refine Br.mk (fun g1=>?_) (fun g1=>?_)
  ·rw [hn] at g1;refine Br.mk (fun g2=>?_) (fun g2=>?_)
   ·refine Ar.wrap ?_;refine Ar.wrap ?_;refine good _ ?_ oM;rw [e,jE];show IntKind.i64.wrap _=_;simp only [IntKind.wrap,IntKind.bits,IntKind.signed];simp;omega
   ·refine Br.mk (fun g3=>absurd (hn.2 g1) g3) (fun _=>bad oM)
  ·refine Br.mk (fun g3=>?_) (fun g3=>absurd (fun h=>g1 h) g3);rw [hn] at g1;refine Br.mk (fun g2=>?_) (fun g2=>bad oM);refine Ar.o ?_;exact good _ oM oM
theorem zwc(a b c:Int)(ha:R64 a)(hb:R64 b)(hc:R64 c):zd Tryz.prog 266 [i64 a,i64 b,i64 c] []
  (.tup [i64 (yH (zQ (a*b) c)),pr (c≠0/\ -9223372036854775808<=zQ (a*b) c/\zQ (a*b) c<=9223372036854775807)]) []:=by
 refine zc tok mix Tryz.func266 rfl rfl rfl ?_;refine Br.mk (fun h=>?_) (fun h=>?_)
 ·refine zS (zu ?_) (ze fun h'=>h'.1 h);subst h;simp [zQ,yH]
 have l1:=jq ha;have l2:=jq hb;have l3:=jq hc;have l4:=qJ a b;unfold je at l1 l2 l3 l4;refine zb.t (vA a ha) ?_;refine zb.t (vA b hb) ?_;refine zb.t (zgt (ofZ a) (ofZ b) (by rw [u5];omega) (by rw [u5];omega)) ?_;rw [z8,z8];refine zb.t (vA c hc) ?_;refine zb.t (zwu (ofZ (a*b)) (ofZ c) (by rw [u5];omega) (by rw [u5];omega) (by rw [z8];exact h)) ?_;rw [z8,z8]
 have l5:(zm (zQ (a*b) c).natAbs).length<=6:=by
  refine jp (Nat.lt_of_le_of_lt (m:=2*(a*b).natAbs+c.natAbs) ?_ ?_)
  ·rw [zbP];exact Nat.div_le_self _ _
  ·have p1:=zft (z:=a*b) (k:=4) (by unfold je;omega);have e4:4294967296 ^ 4=340282366920938463463374607431768211456:=dC;have e6:4294967296 ^ 6=6277101735386680763835789423207666416102355444464034512896:=dC;rw [e4] at p1;rw [e6];omega
 refine zb.t (zk1 (ofZ (zQ (a*b) c)) (by rw [u5];omega)) ?_;rw [z8];exact zS .refl (kZ ⟨fun g=>⟨h,g⟩,fun g=>g.2⟩)
theorem zvY(a b:Int)(ha:R64 a)(hb:R64 b):zd Tryz.prog 208 [i64 a,i64 b] [] (i64 (yH (zQ a b))) []:=by
 refine zc tok mix Tryz.func208 rfl rfl rfl ?_;refine zb.t (zwc a 1 b ha dC hb) ?_;rw [Int.mul_one];exact .refl
theorem zgw(n:Int)(hn:R64 n):zd Tryz.prog 309 [i64 n] [] (u64 (n.natAbs:Nat)) []:=by
 refine zc tok mix Tryz.func309 rfl rfl rfl ?_;refine Br.mk (fun h=>?_) (fun h=>?_)
 ·refine Ar.wrap ?_;refine Ar.wrap ?_;exact zu (by rw [jE,jE];omega)
 ·refine Ar.o ?_;exact zu oM
theorem zn0(x:Nat):uW .and .u64 x 4294967295=((x % 4294967296:Nat):Int):=by
 have e:(BitVec.ofInt 64 x&&&BitVec.ofInt 64 4294967295).toNat=x % 4294967296:=by
  rw [BitVec.toNat_and];have h1:(BitVec.ofInt 64 4294967295).toNat=2 ^ 32 - 1:=dC;rw [h1,Nat.and_two_pow_sub_one_eq_mod,BitVec.toNat_ofInt];rw [show (2:Nat) ^ 32=4294967296 by decide];omega
 show IntKind.u64.wrap ((BitVec.ofInt 64 x&&&BitVec.ofInt 64 4294967295).toNat:Nat)=_;rw [e,jE];omega
theorem zn1(x y:Nat)(hx:x < 18446744073709551616)(hy:y < 18446744073709551616):
  zd Tryz.prog 286 [u64 x,u64 y] [] (.tup [u64 (x*y / 18446744073709551616:Nat),u64 (x*y % 18446744073709551616:Nat)]) []:=by
 refine zc tok mix Tryz.func286 rfl rfl rfl ?_;obtain ⟨k1,k2,k3,k4⟩:=Go.Lib.mul64_hi x y hx hy;have k0:(x / 4294967296)*(y % 4294967296)<=(x / 4294967296)*(y % 4294967296)+(x % 4294967296)*(y % 4294967296) / 4294967296:=Nat.le_add_right _ _
 have k5:x*y / 18446744073709551616 < 18446744073709551616:=by
  rw [Nat.div_lt_iff_lt_mul dC];exact Nat.mul_lt_mul_of_lt_of_lt hx hy
 refine ⟨_,(zn0 x).symm,?_⟩;refine Ob.o1 ?_;refine ⟨_,(zn0 y).symm,?_⟩;refine Ob.o1 ?_;have ex:(x:Int) / 2 ^ 32=((x / 4294967296:Nat):Int):=by simp
 have ey:(y:Int) / 2 ^ 32=((y / 4294967296:Nat):Int):=by simp
 have hc:=Go.Lib.half_mul_le (a:=x % 4294967296) (b:=y / 4294967296) oM oM;have ha:=Go.Lib.half_mul_le (a:=x / 4294967296) (b:=y / 4294967296) oM oM;rw [ex,ey];generalize hx1:x / 4294967296=x1 at*;generalize hx0:x % 4294967296=x0 at*;generalize hy1:y / 4294967296=y1 at*;generalize hy0:y % 4294967296=y0 at*;(iterate 2 refine Ar.o ?_);refine Ob.o1 ?_;have e1:((x0:Int)*(y0:Int)) / 2 ^ 32=((x0*y0 / 4294967296:Nat):Int):=by simp
 rw [e1];generalize x0*y0 / 4294967296=w0 at*;refine Ar.o ?_;have e2:(x1:Int)*(y0:Int)+(w0:Int)=((x1*y0+w0:Nat):Int):=by simp
 rw [e2];generalize x1*y0+w0=t at*;refine ⟨_,(zn0 t).symm,?_⟩;refine Ob.o1 ?_;have e3:(t:Int) / 2 ^ 32=((t / 4294967296:Nat):Int):=by simp
 rw [e3];(iterate 4 refine Ar.o ?_);refine Ob.o1 ?_;have e4:(((t % 4294967296:Nat):Int)+(x0:Int)*(y1:Int)) / 2 ^ 32=(((t % 4294967296+x0*y1) / 4294967296:Nat):Int):=by simp
 rw [e4];refine Ar.o ?_;refine Ar.wrap ?_;refine zS (zu ?_) (zu ?_)
 ·rw [← k4];simp
 ·rw [jE];simp
theorem zs5(lo y:Nat)(hlo:lo < 18446744073709551616)(hy:y < 18446744073709551616)(h0:y≠0):
  zd Tryz.prog 312 [u64 (0:Nat),u64 lo,u64 y] [] (.tup [u64 (lo / y:Nat),u64 (lo % y:Nat)]) []:=by
 refine zc tok mix Tryz.func312 rfl rfl rfl ?_;refine Br.mk (fun h=>absurd h oM) (fun _=>?_);refine Br.mk (fun h=>absurd h oM) (fun _=>?_);refine Br.mk (fun _=>?_) (fun h=>absurd rfl h);refine Dr.k ?_;refine Dv.pos ⟨oM,oM,by show _<=(18446744073709551615:Int);omega⟩ ?_;refine Dv.pos ⟨oM,oM⟩ ?_;exact zS (zu (by simp)) (zu (by simp))
def rup(lo by_:Nat):Nat:=(2*lo+by_) / (2*by_)
theorem zqS{lo y:Nat}(h0:y≠0):rup lo y=if y<=2*(lo % y) then lo / y+1 else lo / y:=by
 unfold rup;have e:=Nat.div_add_mod lo y;have hl:=Nat.mod_lt lo (Nat.pos_of_ne_zero h0);generalize lo / y=q at*;generalize lo % y=r at*;subst e;have p:2*(y*q+r)+y=2*y*q+(2*r+y):=by rw [Nat.mul_add,Nat.mul_assoc];omega
 rw [p,Nat.mul_add_div oM]
 split
 ·have:(2*r+y) / (2*y)=1:=by
   rw [Nat.div_eq_iff oM];omega
  omega
 ·have:(2*r+y) / (2*y)=0:=Nat.div_eq_of_lt oM;omega
theorem zuU(lo y:Nat)(hlo:lo<=9223372036854775808)(hy:y < 18446744073709551616)(h0:y≠0):
  zd Tryz.prog 311 [.agg [u64 (0:Nat),u64 lo,u64 y]] [] (.tup [u64 (rup lo y:Nat),bl true]) []:=by
 refine zc tok mix Tryz.func311 rfl rfl rfl ?_;refine Br.mk (fun h=>absurd h oM) (fun _=>?_);refine zb.t (zs5 lo y oM hy h0) ?_;have hq:=Nat.div_le_self lo y;have hr:=Nat.mod_lt lo (Nat.pos_of_ne_zero h0);have he:=zqS (lo:=lo) h0;generalize rup lo y=u at*;generalize lo / y=q at*;generalize lo % y=r at*;refine Ar.o ?_;refine Br.mk (fun h=>?_) (fun h=>?_)
 ·rw [if_pos oM] at he;refine Ar.o ?_;exact zS (zu oM) (zqG oM)
 ·rw [if_neg oM] at he;exact zS (zu oM) .refl
theorem zqT(p:Prop)[i:Decidable p](lo y:Nat)(hlo:lo<=9223372036854775808)(hy:y < 18446744073709551616)(h0:y≠0):
  zd Tryz.prog 310 [.pr p i,.val (.func (.func 311) #[.agg #[.int .u64 (0:Nat),.int .u64 (lo:Nat),.int .u64 (y:Nat)]] #[])] []
   (.tup [i64 (yH (if p then -(rup lo y:Int) else rup lo y)),pr (-9223372036854775808<=(if p then -(rup lo y:Int) else rup lo y)/\(if p then -(rup lo y:Int) else rup lo y)<=9223372036854775807)]) []:=by
 refine zc tok mix Tryz.func310 rfl rfl rfl ?_;refine zb.t (zuU lo y hlo hy h0) ?_
 have hu:rup lo y < 18446744073709551616:=by
  rw [zqS h0];have:=Nat.div_le_self lo y
  split <;> omega
 generalize rup lo y=u at*
 have bad:∀z:Int,¬(-9223372036854775808<=z/\z<=9223372036854775807)->LE (.tup [i64 0,bl false]) (.tup [i64 (yH z),pr (-9223372036854775808<=z/\z<=9223372036854775807)]):=fun z h=>
  zS (zu (by rw [yH,if_neg h])) (ze h)
 have good:∀n z:Int,n=z-> -9223372036854775808<=z/\z<=9223372036854775807->LE (.tup [i64 n,bl true]) (.tup [i64 (yH z),pr (-9223372036854775808<=z/\z<=9223372036854775807)]):=fun n z hn h=>
  zS (zu (by rw [yH,if_pos h,hn])) (kC h)
 refine Br.mk (fun h=>bad _ (by split <;> omega)) (fun h=>?_)
 have tail:(u:Int)<=9223372036854775808->((u:Int)=9223372036854775808->p)->IntKind.i64.wrap (IntKind.u64.wrap (-(u:Int)))= -(u:Int)/\(¬p->(u:Int)<=9223372036854775807):=fun g1 g2=>by
  refine ⟨?_,fun hp=>?_⟩
  ·rw [jE];simp only [IntKind.wrap,IntKind.bits,IntKind.signed];simp;omega
  ·by_cases e:(u:Int)=9223372036854775808
   ·exact absurd (g2 e) hp
   ·omega
 refine Br.mk (fun h1=>?_) (fun h1=>?_)
 ·refine Br.mk (fun h2=>bad _ (by rw [if_neg h2];omega)) (fun h2=>?_);have hp:=Decidable.not_not.1 h2;obtain ⟨t1,t2⟩:=tail oM (fun _=>hp);refine Br.mk (fun _=>?_) (fun h3=>absurd hp h3);refine Ar.wrap ?_;refine Ar.wrap ?_;exact good _ _ (by rw [if_pos hp];exact t1) (by rw [if_pos hp];omega)
 ·obtain ⟨t1,t2⟩:=tail oM (fun h=>absurd h h1);refine Br.mk (fun h3=>?_) (fun h3=>?_)
  ·refine Ar.wrap ?_;refine Ar.wrap ?_;exact good _ _ (by rw [if_pos h3];exact t1) (by rw [if_pos h3];omega)
  ·have:=t2 h3;refine Ar.o ?_;exact good _ _ (by rw [if_neg h3]) (by rw [if_neg h3];omega)
theorem zqU(a c:Int):(if ¬(¬(a < 0↔(1:Int) < 0)↔c < 0) then -(rup a.natAbs c.natAbs:Int) else (rup a.natAbs c.natAbs:Int))=zQ a c:=by
 unfold zQ;show _=if a < 0↔c < 0 then ((rup a.natAbs c.natAbs:Nat):Int) else -((rup a.natAbs c.natAbs:Nat):Int)
 generalize (rup a.natAbs c.natAbs:Int)=u
 by_cases h1:a < 0 <;> by_cases h2:c < 0 <;> simp [h1,h2]
theorem zpe(a c:Int)(ha:R64 a)(hc:R64 c):zd Tryz.prog 299 [i64 a,i64 1,i64 c] []
  (.tup [i64 (yH (zQ a c)),pr (c≠0/\ -9223372036854775808<=zQ a c/\zQ a c<=9223372036854775807)]) []:=by
 refine zc tok mix Tryz.func299 rfl rfl rfl ?_;refine Br.mk (fun h=>?_) (fun h=>?_)
 ·refine zS (zu ?_) (ze fun h'=>h'.1 h);subst h;simp [zQ,yH]
 refine zb.t (zgw a ha) ?_;refine zb.t (zgw 1 dC) ?_;refine zb.t (zn1 a.natAbs (1:Int).natAbs oM oM) ?_;rw [show (1:Int).natAbs=1 by rfl,Nat.mul_one,Nat.div_eq_of_lt (show a.natAbs < 18446744073709551616 by omega),Nat.mod_eq_of_lt (show a.natAbs < 18446744073709551616 by omega)];refine zb.t (zgw c hc) ?_;refine zb.t (zqT (¬(¬(a < 0↔(1:Int) < 0)↔c < 0)) a.natAbs c.natAbs oM oM oM) ?_;rw [zqU a c];exact zS .refl (kZ ⟨fun g=>⟨h,g⟩,fun g=>g.2⟩)
theorem zC(a b:Int)(ha:R64 a)(hb:R64 b):zd Tryz.prog 263 [i64 a,i64 b] [] (i64 (yH (zQ a b))) []:=by
 refine zc tok mix Tryz.func263 rfl rfl rfl ?_;refine zb.t (zpe a b ha hb) ?_;exact .refl
def hI(n:Int):Int:=qM n (-1048576) 1048576
def jW(p:Pt):Pt:=⟨hI p.x,hI p.y⟩
theorem qY(n:Int): -1048576<=hI n/\hI n<=1048576:=by unfold hI qM;split <;> (try split) <;> omega
theorem zcn{n:Int}(h: -1048576<=n/\n<=1048576):hI n=n:=(zgo dC).2 h
theorem uw(p:Pt):zo (jW p):=⟨qY _,qY _⟩
theorem zet{p:Pt}(h:zo p):jW p=p:=by
 cases p;unfold jW;rw [zcn h.1,zcn h.2]
def zH(p q:Pt):Pt:=⟨p.x+q.x,p.y+q.y⟩
def zA(p q:Pt):Pt:=⟨p.x - q.x,p.y - q.y⟩
def addP(p q:Pt):Pt:=zH (jW p) (jW q)
def zv1(p q:Pt):Pt:=zA (jW p) (jW q)
def perpP(p:Pt):Pt:=⟨-hI p.y,hI p.x⟩
def wdg(p q:Pt):Int:=p.x*q.y - p.y*q.x
def dtp(p q:Pt):Int:=p.x*q.x+p.y*q.y
def za2(p q:Pt):Int:=wdg (jW p) (jW q)
def zpf(p q:Pt):Int:=dtp (jW p) (jW q)
theorem qZ{a b A B:Int}(ha: -A<=a/\a<=A)(hb: -B<=b/\b<=B): -(A*B)<=a*b/\a*b<=A*B:=by
 have h1:=Int.mul_nonneg (show 0<=A - a by omega) (show 0<=B - b by omega);have h2:=Int.mul_nonneg (show 0<=A - a by omega) (show 0<=B+b by omega);have h3:=Int.mul_nonneg (show 0<=A+a by omega) (show 0<=B - b by omega);have h4:=Int.mul_nonneg (show 0<=A+a by omega) (show 0<=B+b by omega);have e1:(A - a)*(B - b)=A*B - A*b - a*B+a*b:=by grind
 have e2:(A - a)*(B+b)=A*B+A*b - a*B - a*b:=by grind
 have e3:(A+a)*(B - b)=A*B - A*b+a*B - a*b:=by grind
 have e4:(A+a)*(B+b)=A*B+A*b+a*B+a*b:=by grind
 omega
theorem zh7{p q:Pt}(hp:zo p)(hq:zo q): -2199023255552<=dtp p q/\dtp p q<=2199023255552/\(-1099511627776<=p.x*q.x/\p.x*q.x<=1099511627776)/\(-1099511627776<=p.y*q.y/\p.y*q.y<=1099511627776):=by
 have h1:=qZ hp.1 hq.1;have h2:=qZ hp.2 hq.2;unfold dtp;omega
theorem zeu{p q:Pt}(hp:zo p)(hq:zo q): -2199023255552<=wdg p q/\wdg p q<=2199023255552/\(-1099511627776<=p.x*q.y/\p.x*q.y<=1099511627776)/\(-1099511627776<=p.y*q.x/\p.y*q.x<=1099511627776):=by
 have h1:=qZ hp.1 hq.2;have h2:=qZ hp.2 hq.1;unfold wdg;omega
theorem jm(x:Int):0<=x*x:=by
 rcases Int.le_total 0 x with h | h
 ·exact Int.mul_nonneg h h
 ·have:=Int.mul_nonneg (show 0<= -x by omega) (show 0<= -x by omega)
  rwa [Int.neg_mul_neg] at this
def sqL(n:Int):Nat->Int->Int
 | 0,s=>s
 | k+1,s=>sqL n k (if (s+2 ^ k)*(s+2 ^ k)<=n then s+2 ^ k else s)
def isq(n:Int):Int:=sqL n 32 0
theorem zgx(n:Int):∀(k:Nat) (s:Int),0<=s->s*s<=n->n < (s+2 ^ k)*(s+2 ^ k)->0<=sqL n k s/\sqL n k s*sqL n k s<=n/\n < (sqL n k s+1)*(sqL n k s+1)
 | 0,s,h0,h1,h2=>by simp only [sqL];exact ⟨h0,h1,by simpa using h2⟩
 | k+1,s,h0,h1,h2=>by
  have hp:(0:Int) < 2 ^ k:=Int.pow_pos dC;have e:(2:Int) ^ (k+1)=2 ^ k+2 ^ k:=by rw [Int.pow_succ];omega
  simp only [sqL]
  split
  ·rename_i h;refine zgx n k _ oM h ?_;rw [e] at h2
   rwa [Int.add_assoc]
  ·rename_i h;exact zgx n k _ h0 h1 oM
theorem zdP{n:Int}(h0:0<=n)(h:n < 18446744073709551616):0<=isq n/\isq n*isq n<=n/\n < (isq n+1)*(isq n+1):=
 zgx n 32 0 dC (by simpa using h0) (by simpa using h)
theorem zqV{n:Int}(h0:0<=n)(h:n < 18446744073709551616):isq n < 4294967296:=by
 have hs:=zdP h0 h;refine Int.not_le.1 fun hk=>?_
 have:=Int.mul_le_mul hk hk dC hs.1;omega
theorem zui{a b:Int}(ha:0<=b)(h:a*a<=b*b):a<=b:=by
 refine Int.not_lt.1 fun hk=>?_
 have h1:=Int.mul_le_mul (show b+1<=a by omega) (show b+1<=a by omega) oM oM;have e:(b+1)*(b+1)=b*b+2*b+1:=by grind
 omega
theorem zqW{n a:Int}(h0:0<=n)(h:n < 18446744073709551616)(h1:a*a<=n):a<=isq n:=by
 have hs:=zdP h0 h;have:a<=isq n+1:=zui oM oM
 by_cases e:a=isq n+1
 ·subst e;omega
 ·omega
def zqX(p:Pt):Int:=isq (65536*zpf p p)
def vY(a b:Int):Int:=(2*a+b) / (2*b)
theorem zk2{a b x:Int}(hb:0 < b):vY (a+b*x) b=vY a b+x:=by
 unfold vY;have e:2*(a+b*x)+b=2*a+b+(2*b)*x:=by grind
 rw [e,Int.add_mul_ediv_left _ _ oM]
def zeY(a b:Pt)(n d:Int):Pt:=
 if d < 1∨1099511627776 < d then jW a
 else ⟨hI a.x+zQ (qM n 0 d*(hI b.x - hI a.x)) d,hI a.y+zQ (qM n 0 d*(hI b.y - hI a.y)) d⟩
def zjv(r:List Pt):Prop:=(r.length:Int)<=4096/\∀p∈r,zo p
instance (r:List Pt):Decidable (zjv r):=inferInstanceAs (Decidable (_/\_))
def uB(r:List Pt)(n:Nat):Int:=((List.range n).map fun i=>za2 (r.getD i zp) (r.getD ((i+1) % r.length) zp)).sum
def zcQ(r:List Pt):Int:=if zjv r then uB r r.length else 0
def zn2(r:List Pt):List Pt:=match r with
 | []=>[]
 | p::q=>p::q.reverse
def kj(r:List Pt):List Pt:=if zcQ r=0 then [] else if zcQ r < 0 then zn2 r else r
theorem zc4(r:List Pt)(n:Nat):uB r (n+1)=uB r n+za2 (r.getD n zp) (r.getD ((n+1) % r.length) zp):=by
 unfold uB;rw [List.range_succ,List.map_append,List.sum_append];simp
theorem zk3(r:List Pt)(n:Nat): -(2199023255552*(n:Int))<=uB r n/\uB r n<=2199023255552*(n:Int):=by
 induction n with
 | zero=>exact ⟨by show _<=(0:Int);decide,by show (0:Int)<=_;decide⟩
 | succ n ih=>
  rw [zc4];have:=zeu (uw (r.getD n zp)) (uw (r.getD ((n+1) % r.length) zp));unfold za2;omega
theorem zmO(r:List Pt):(kj r).length=0∨(kj r).length=r.length:=by
 unfold kj
 split
 ·exact .inl rfl
 ·split
  ·right;unfold zn2;split <;> simp
  ·exact .inr rfl
theorem vB{r:List Pt}{p:Pt}(h:p∈kj r):p∈r:=by
 unfold kj at h
 split at h
 ·cases h
 ·split at h
  ·unfold zn2 at h
   split at h
   ·cases h
   ·simp at h ⊢;exact h
  ·exact h
def zX(w:Int):Prop:=1<=w/\w<=16384
instance (w:Int):Decidable (zX w):=inferInstanceAs (Decidable (_/\_))
def zdQ(n:Int):Prop:=n < -2097152∨2097152 < n
instance (n:Int):Decidable (zdQ n):=inferInstanceAs (Decidable (_∨_))
def kM(v:Pt)(w:Int):Pt:=
 if ¬zX w∨zdQ v.x∨zdQ v.y∨v=zp then zp
 else ⟨zQ (-v.y*w*128) (isq (65536*(v.x*v.x+v.y*v.y))),zQ (v.x*w*128) (isq (65536*(v.x*v.x+v.y*v.y)))⟩
def yl(a b:Pt)(w:Int):List Pt:=
 if ¬(zX w/\zo a/\zo b) then []
 else kj [zA a (kM (zA b a) w),zA b (kM (zA b a) w),zH b (kM (zA b a) w),zH a (kM (zA b a) w)]
def zr:List Pt:=[⟨16384,0⟩,⟨15137,6270⟩,⟨11585,11585⟩,⟨6270,15137⟩,⟨0,16384⟩,⟨-6270,15137⟩,⟨-11585,11585⟩,⟨-15137,6270⟩,
 ⟨-16384,0⟩,⟨-15137,-6270⟩,⟨-11585,-11585⟩,⟨-6270,-15137⟩,⟨0,-16384⟩,⟨6270,-15137⟩,⟨11585,-11585⟩,⟨15137,-6270⟩]
def vZ(p:Pt)(w:Int):List Pt:=
 if ¬(zX w/\zo p) then [] else kj (zr.map fun q=>zH p ⟨zQ (q.x*w) 32768,zQ (q.y*w) 32768⟩)
def zjw(a b:Pt)(w:Int):List Pt:=
 if ¬(zX w/\zo a/\zo b) then []
 else
  let n:=kM (zA b a) w
  let e:Pt:=⟨n.y,-n.x⟩
  kj [zA b n,zH (zA b n) e,zH (zH b n) e,zH b n]
def zdR(p:Pt)(w:Int):List Pt:=
 if ¬(zX w/\zo p) then []
 else kj [⟨p.x - zQ w 2,p.y - zQ w 2⟩,⟨p.x+zQ w 2,p.y - zQ w 2⟩,⟨p.x+zQ w 2,p.y+zQ w 2⟩,⟨p.x - zQ w 2,p.y+zQ w 2⟩]
structure Pen where
 w:Int
 j:Int
 c:Int
 m:Int
 d:List Int
 ph:Int
def uQ(l:List Int):Prop:=(∀n∈l,0<=n/\n<=1048576)/\(l=[]∨∃n∈l,0 < n)/\l.length % 2=0/\(l.length:Int)<=16
instance (l:List Int):Decidable (uQ l):=inferInstanceAs (Decidable (_/\_))
def k8(p:Pen):Prop:=zX p.w/\(p.j=1∨p.j=2∨p.j=3)/\(p.c=3∨p.c=4∨p.c=5)/\(256<=p.m/\p.m<=65536)/\uQ p.d/\(0<=p.ph/\p.ph<=1048576)
instance (p:Pen):Decidable (k8 p):=inferInstanceAs (Decidable (_/\_))
def vR(n m:Pt)(w lim:Int):Pt×Bool:=
 if ¬(zo n/\zo m/\zX w/\256<=lim/\lim<=65536) then (zp,false)
 else
  let s:=zH n m
  let q:=s.x*s.x+s.y*s.y
  if q=0∨lim*lim*q < 256*w*(256*w) then (zp,false) else (⟨zQ (s.x*w*w) (2*q),zQ (s.y*w*w) (2*q)⟩,true)
def zjx(p:Pt):Pt:=⟨-p.x,-p.y⟩
def qH(a v b:Pt)(w:Int):Pt×Pt×Bool:=
 if ¬(zo a/\zo v/\zo b/\zX w) then (zp,zp,false)
 else
  let x:=zA v a
  let y:=zA b v
  if wdg x y=0 then (zp,zp,false) else if 0 < wdg x y then (zjx (kM x w),zjx (kM y w),true) else (kM x w,kM y w,true)
def kT(r:List Pt):List (List Pt):=if r=[] then [] else [r]
def yP(a v b:Pt)(p:Pen):List (List Pt):=
 if ¬(k8 p/\zo a/\zo v/\zo b/\¬v=a/\¬v=b) then []
 else if p.j=3 then kT (vZ v p.w)
 else if (qH a v b p.w).2.2=false then []
 else
  let n:=(qH a v b p.w).1
  let m:=(qH a v b p.w).2.1
  kT (kj (if p.j=1/\(vR n m p.w p.m).2=true then [v,zH v n,zH v (vR n m p.w p.m).1,zH v m] else [v,zH v n,zH v m]))
end Go.Gs
