/- Rounded division of machine integers: two texts, one answer. -/
import Derived.Test.YtjfbljononkmcaaMA
import Derived.Test.YtjfbljononkmcaaMAS
import Derived.Lib.Mul64
import Derived.Test.YtjfbljononkmcaaMAQ
set_option maxRecDepth 100000
set_option maxHeartbeats 8000000
set_option linter.all false
namespace Go.Gs
open Go.Proofs
theorem zeR(a b c:Int)(ha:R64 a)(hb:R64 b)(hc:R64 c):zf Try.prog 79 [i64 a,i64 b,i64 c] []
  (.tup [i64 (yg (kJ (a*b) c)),pr (c≠0/\ -9223372036854775808<=kJ (a*b) c/\kJ (a*b) c<=9223372036854775807)]) []:=by
 refine zk tok mix Try.func79 rfl rfl rfl ?_;refine Br.mk (fun h=>?_) (fun h=>?_)
 ·refine z1 (zz ?_) (zE fun h'=>h'.1 h);subst h;simp [kJ,yg]
 have l1:=zat ha;have l2:=zat hb;have l3:=zat hc;have l4:=zfL a b;unfold zcM at l1 l2 l3 l4;refine zc.t (uc a ha) ?_;refine zc.t (uc b hb) ?_;refine zc.t (zhi (ofZ a) (ofZ b) (by rw [qe];omega) (by rw [qe];omega)) ?_;rw [zbj,zbj];refine zc.t (uc c hc) ?_;refine zc.t (zcN (ofZ (a*b)) (ofZ c) (by rw [qe];omega) (by rw [qe];omega) (by rw [zbj];exact h)) ?_;rw [zbj,zbj]
 have l5:(zu (kJ (a*b) c).natAbs).length<=6:=by
  refine qa (Nat.lt_of_le_of_lt (m:=2*(a*b).natAbs+c.natAbs) ?_ ?_)
  ·rw [zfM];exact Nat.div_le_self _ _
  ·have p1:=zbR (z:=a*b) (k:=4) (by unfold zcM;omega);have e4:4294967296 ^ 4=340282366920938463463374607431768211456:=dC;have e6:4294967296 ^ 6=6277101735386680763835789423207666416102355444464034512896:=dC;rw [e4] at p1;rw [e6];omega
 refine zc.t (zfO (ofZ (kJ (a*b) c)) (by rw [qe];omega)) ?_;rw [zbj];exact z1 .refl (jE ⟨fun g=>⟨h,g⟩,fun g=>g.2⟩)
theorem zcO(a b:Int)(ha:R64 a)(hb:R64 b):zf Try.prog 70 [i64 a,i64 b] [] (i64 (yg (kJ a b))) []:=by
 refine zk tok mix Try.func70 rfl rfl rfl ?_;refine zc.t (zeR a 1 b ha dC hb) ?_;rw [Int.mul_one];exact .refl
theorem zaw(n:Int)(hn:R64 n):zf Try.prog 83 [i64 n] [] (u64 (n.natAbs:Nat)) []:=by
 refine zk tok mix Try.func83 rfl rfl rfl ?_;refine Br.mk (fun h=>?_) (fun h=>?_)
 ·refine Ar.wrap ?_;refine Ar.wrap ?_;exact zz (by rw [ju,ju];omega)
 ·refine Ar.o ?_;exact zz oM
theorem zfP(x:Nat):j9 .and .u64 x 4294967295=((x % 4294967296:Nat):Int):=by
 have e:(BitVec.ofInt 64 x&&&BitVec.ofInt 64 4294967295).toNat=x % 4294967296:=by
  rw [BitVec.toNat_and];have h1:(BitVec.ofInt 64 4294967295).toNat=2 ^ 32 - 1:=dC;rw [h1,Nat.and_two_pow_sub_one_eq_mod,BitVec.toNat_ofInt];rw [show (2:Nat) ^ 32=4294967296 by decide];omega
 show IntKind.u64.wrap ((BitVec.ofInt 64 x&&&BitVec.ofInt 64 4294967295).toNat:Nat)=_;rw [e,ju];omega
theorem zgy(x y:Nat)(hx:x < 18446744073709551616)(hy:y < 18446744073709551616):
  zf Try.prog 82 [u64 x,u64 y] [] (.tup [u64 (x*y / 18446744073709551616:Nat),u64 (x*y % 18446744073709551616:Nat)]) []:=by
 refine zk tok mix Try.func82 rfl rfl rfl ?_;obtain ⟨k1,k2,k3,k4⟩:=Go.Lib.mul64_hi x y hx hy;have k0:(x / 4294967296)*(y % 4294967296)<=(x / 4294967296)*(y % 4294967296)+(x % 4294967296)*(y % 4294967296) / 4294967296:=Nat.le_add_right _ _
 have k5:x*y / 18446744073709551616 < 18446744073709551616:=by
  rw [Nat.div_lt_iff_lt_mul dC];exact Nat.mul_lt_mul_of_lt_of_lt hx hy
 refine ⟨_,(zfP x).symm,?_⟩;refine Ob.o0 ?_;refine ⟨_,(zfP y).symm,?_⟩;refine Ob.o0 ?_;have ex:(x:Int) / 2 ^ 32=((x / 4294967296:Nat):Int):=by simp
 have ey:(y:Int) / 2 ^ 32=((y / 4294967296:Nat):Int):=by simp
 have hc:=Go.Lib.half_mul_le (a:=x % 4294967296) (b:=y / 4294967296) oM oM;have ha:=Go.Lib.half_mul_le (a:=x / 4294967296) (b:=y / 4294967296) oM oM;rw [ex,ey];generalize hx1:x / 4294967296=x1 at*;generalize hx0:x % 4294967296=x0 at*;generalize hy1:y / 4294967296=y1 at*;generalize hy0:y % 4294967296=y0 at*;(iterate 2 refine Ar.o ?_);refine Ob.o0 ?_;have e1:((x0:Int)*(y0:Int)) / 2 ^ 32=((x0*y0 / 4294967296:Nat):Int):=by simp
 rw [e1];generalize x0*y0 / 4294967296=w0 at*;refine Ar.o ?_;have e2:(x1:Int)*(y0:Int)+(w0:Int)=((x1*y0+w0:Nat):Int):=by simp
 rw [e2];generalize x1*y0+w0=t at*;refine ⟨_,(zfP t).symm,?_⟩;refine Ob.o0 ?_;have e3:(t:Int) / 2 ^ 32=((t / 4294967296:Nat):Int):=by simp
 rw [e3];(iterate 4 refine Ar.o ?_);refine Ob.o0 ?_;have e4:(((t % 4294967296:Nat):Int)+(x0:Int)*(y1:Int)) / 2 ^ 32=(((t % 4294967296+x0*y1) / 4294967296:Nat):Int):=by simp
 rw [e4];refine Ar.o ?_;refine Ar.wrap ?_;refine z1 (zz ?_) (zz ?_)
 ·rw [← k4];simp
 ·rw [ju];simp
theorem zgz(lo y:Nat)(hlo:lo < 18446744073709551616)(hy:y < 18446744073709551616)(h0:y≠0):
  zf Try.prog 92 [u64 (0:Nat),u64 lo,u64 y] [] (.tup [u64 (lo / y:Nat),u64 (lo % y:Nat)]) []:=by
 refine zk tok mix Try.func92 rfl rfl rfl ?_;refine Br.mk (fun h=>absurd h oM) (fun _=>?_);refine Br.mk (fun h=>absurd h oM) (fun _=>?_);refine Br.mk (fun _=>?_) (fun h=>absurd rfl h);refine Dr.k ?_;refine Dv.pos ⟨oM,oM,by show _<=(18446744073709551615:Int);omega⟩ ?_;refine Dv.pos ⟨oM,oM⟩ ?_;exact z1 (zz (by simp)) (zz (by simp))
def rup(lo by_:Nat):Nat:=(2*lo+by_) / (2*by_)
theorem zfQ{lo y:Nat}(h0:y≠0):rup lo y=if y<=2*(lo % y) then lo / y+1 else lo / y:=by
 unfold rup;have e:=Nat.div_add_mod lo y;have hl:=Nat.mod_lt lo (Nat.pos_of_ne_zero h0);generalize lo / y=q at*;generalize lo % y=r at*;subst e;have p:2*(y*q+r)+y=2*y*q+(2*r+y):=by rw [Nat.mul_add,Nat.mul_assoc];omega
 rw [p,Nat.mul_add_div oM]
 split
 ·have:(2*r+y) / (2*y)=1:=by
   rw [Nat.div_eq_iff oM];omega
  omega
 ·have:(2*r+y) / (2*y)=0:=Nat.div_eq_of_lt oM;omega
theorem zhk(lo y:Nat)(hlo:lo<=9223372036854775808)(hy:y < 18446744073709551616)(h0:y≠0):
  zf Try.prog 85 [.agg [u64 (0:Nat),u64 lo,u64 y]] [] (.tup [u64 (rup lo y:Nat),bl true]) []:=by
 refine zk tok mix Try.func85 rfl rfl rfl ?_;refine Br.mk (fun h=>absurd h oM) (fun _=>?_);refine zc.t (zgz lo y oM hy h0) ?_;have hq:=Nat.div_le_self lo y;have hr:=Nat.mod_lt lo (Nat.pos_of_ne_zero h0);have he:=zfQ (lo:=lo) h0;generalize rup lo y=u at*;generalize lo / y=q at*;generalize lo % y=r at*;refine Ar.o ?_;refine Br.mk (fun h=>?_) (fun h=>?_)
 ·rw [if_pos oM] at he;refine Ar.o ?_;exact z1 (zz oM) (zfA oM)
 ·rw [if_neg oM] at he;exact z1 (zz oM) .refl
theorem zfR(p:Prop)[i:Decidable p](lo y:Nat)(hlo:lo<=9223372036854775808)(hy:y < 18446744073709551616)(h0:y≠0):
  zf Try.prog 84 [.pr p i,.val (.func (.func 85) #[.agg #[.int .u64 (0:Nat),.int .u64 (lo:Nat),.int .u64 (y:Nat)]] #[])] []
   (.tup [i64 (yg (if p then -(rup lo y:Int) else rup lo y)),pr (-9223372036854775808<=(if p then -(rup lo y:Int) else rup lo y)/\(if p then -(rup lo y:Int) else rup lo y)<=9223372036854775807)]) []:=by
 refine zk tok mix Try.func84 rfl rfl rfl ?_;refine zc.t (zhk lo y hlo hy h0) ?_
 have hu:rup lo y < 18446744073709551616:=by
  rw [zfQ h0];have:=Nat.div_le_self lo y
  split <;> omega
 generalize rup lo y=u at*
 have bad:∀z:Int,¬(-9223372036854775808<=z/\z<=9223372036854775807)->LE (.tup [i64 0,bl false]) (.tup [i64 (yg z),pr (-9223372036854775808<=z/\z<=9223372036854775807)]):=fun z h=>
  z1 (zz (by rw [yg,if_neg h])) (zE h)
 have good:∀n z:Int,n=z-> -9223372036854775808<=z/\z<=9223372036854775807->LE (.tup [i64 n,bl true]) (.tup [i64 (yg z),pr (-9223372036854775808<=z/\z<=9223372036854775807)]):=fun n z hn h=>
  z1 (zz (by rw [yg,if_pos h,hn])) (yS h)
 refine Br.mk (fun h=>bad _ (by split <;> omega)) (fun h=>?_)
 have tail:(u:Int)<=9223372036854775808->((u:Int)=9223372036854775808->p)->IntKind.i64.wrap (IntKind.u64.wrap (-(u:Int)))= -(u:Int)/\(¬p->(u:Int)<=9223372036854775807):=fun g1 g2=>by
  refine ⟨?_,fun hp=>?_⟩
  ·rw [ju];simp only [IntKind.wrap,IntKind.bits,IntKind.signed];simp;omega
  ·by_cases e:(u:Int)=9223372036854775808
   ·exact absurd (g2 e) hp
   ·omega
 refine Br.mk (fun h1=>?_) (fun h1=>?_)
 ·refine Br.mk (fun h2=>bad _ (by rw [if_neg h2];omega)) (fun h2=>?_);have hp:=Decidable.not_not.1 h2;obtain ⟨t1,t2⟩:=tail oM (fun _=>hp);refine Br.mk (fun _=>?_) (fun h3=>absurd hp h3);refine Ar.wrap ?_;refine Ar.wrap ?_;exact good _ _ (by rw [if_pos hp];exact t1) (by rw [if_pos hp];omega)
 ·obtain ⟨t1,t2⟩:=tail oM (fun h=>absurd h h1);refine Br.mk (fun h3=>?_) (fun h3=>?_)
  ·refine Ar.wrap ?_;refine Ar.wrap ?_;exact good _ _ (by rw [if_pos h3];exact t1) (by rw [if_pos h3];omega)
  ·have:=t2 h3;refine Ar.o ?_;exact good _ _ (by rw [if_neg h3]) (by rw [if_neg h3];omega)
theorem zfS(a c:Int):(if ¬(¬(a < 0↔(1:Int) < 0)↔c < 0) then -(rup a.natAbs c.natAbs:Int) else (rup a.natAbs c.natAbs:Int))=kJ a c:=by
 unfold kJ;show _=if a < 0↔c < 0 then ((rup a.natAbs c.natAbs:Nat):Int) else -((rup a.natAbs c.natAbs:Nat):Int)
 generalize (rup a.natAbs c.natAbs:Int)=u
 by_cases h1:a < 0 <;> by_cases h2:c < 0 <;> simp [h1,h2]
theorem zeS(a c:Int)(ha:R64 a)(hc:R64 c):zf Try.prog 78 [i64 a,i64 1,i64 c] []
  (.tup [i64 (yg (kJ a c)),pr (c≠0/\ -9223372036854775808<=kJ a c/\kJ a c<=9223372036854775807)]) []:=by
 refine zk tok mix Try.func78 rfl rfl rfl ?_;refine Br.mk (fun h=>?_) (fun h=>?_)
 ·refine z1 (zz ?_) (zE fun h'=>h'.1 h);subst h;simp [kJ,yg]
 refine zc.t (zaw a ha) ?_;refine zc.t (zaw 1 dC) ?_;refine zc.t (zgy a.natAbs (1:Int).natAbs oM oM) ?_;rw [show (1:Int).natAbs=1 by rfl,Nat.mul_one,Nat.div_eq_of_lt (show a.natAbs < 18446744073709551616 by omega),Nat.mod_eq_of_lt (show a.natAbs < 18446744073709551616 by omega)];refine zc.t (zaw c hc) ?_;refine zc.t (zfR (¬(¬(a < 0↔(1:Int) < 0)↔c < 0)) a.natAbs c.natAbs oM oM oM) ?_;rw [zfS a c];exact z1 .refl (jE ⟨fun g=>⟨h,g⟩,fun g=>g.2⟩)
theorem zdu(a b:Int)(ha:R64 a)(hb:R64 b):zf Try.prog 67 [i64 a,i64 b] [] (i64 (yg (kJ a b))) []:=by
 refine zk tok mix Try.func67 rfl rfl rfl ?_;refine zc.t (zeS a b ha hb) ?_;exact .refl
def j7(n lo hi:Int):Int:=if n < lo then lo else if hi < n then hi else n
theorem zgA(n lo hi:Int):zf Try.prog 36 [i64 n,i64 lo,i64 hi] [] (i64 (j7 n lo hi)) []:=by
 refine zk tok mix Try.func36 rfl rfl rfl ?_;refine Br.mk (fun h=>?_) (fun h=>?_)
 ·exact zz (by simp [j7,h])
 refine Br.mk (fun h2=>?_) (fun h2=>?_)
 ·exact zz (by simp [j7,h,h2])
 ·exact zz (by simp [j7,h,h2])
def z6(i n m:Int):Int×Bool:=
 if n < 1 then (0,false) else if 0<=i/\i < n then (i,true) else if m=1 then (j7 i 0 (n - 1),true) else if m=2 then (i % n,true)
 else if m=3 then ((if i / n % 2=1 then n - 1 - i % n else i % n),true) else (0,false)
theorem zgZ(i n:Int)(hn:R64 n)(h1:1<=n):zf Try.prog 37 [i64 i,i64 n] [] (i64 (i % n)) []:=by
 refine zk tok mix Try.func37 rfl rfl rfl ?_;have ht:=tdm (m:=i) (n:=n) oM;refine Br.mk (fun h=>?_) (fun h=>?_)
 ·omega
 refine Dv.any oM ?_;refine Br.mk (fun h2=>?_) (fun h2=>?_)
 ·refine Ar.o ?_;exact zz oM
 ·exact zz oM
theorem zdv(i n:Int)(hn:R64 n)(h1:1<=n):zf Try.prog 38 [i64 i,i64 n] [] (i64 (i % n)) []:=by
 refine zk tok mix Try.func38 rfl rfl rfl ?_;have ht:=tdm (m:=i) (n:=n) oM;refine Br.mk (fun h=>?_) (fun h=>?_)
 ·omega
 refine Dv.any oM ?_;refine Br.mk (fun h2=>?_) (fun h2=>?_)
 ·refine Ar.o ?_;exact zz oM
 ·exact zz oM
theorem zdw(i n:Int)(hi:R64 i)(hn:R64 n)(h1:1<=n):zf Try.prog 39 [i64 i,i64 n] [] (pr (i / n % 2=1)) []:=by
 refine zk tok mix Try.func39 rfl rfl rfl ?_;have ht:=tdm (m:=i) (n:=n) oM;have hr:=zaq (m:=i) (n:=n) oM hi;have e1:=tm2 (i.tdiv n);have e2:=tm2 (i.tdiv n - 1);refine Dv.any oM ?_;refine Ar.o ?_;refine Br.mk (fun h=>?_) (fun h=>?_)
 ·refine Dv.any oM ?_;refine Br.mk (fun h2=>?_) (fun h2=>?_)
  ·refine Ar.o ?_;refine Dv.any oM ?_;exact jE oM
  ·refine Dv.any oM ?_;exact jE oM
 ·refine Dv.any oM ?_;exact jE oM
theorem zbS(i n m:Int)(hi:R64 i)(hn:R64 n):zf Try.prog 11 [i64 i,i64 n,i64 m] [] (.tup [i64 (z6 i n m).1,pr ((z6 i n m).2=true)]) []:=by
 refine zk tok mix Try.func11 rfl rfl rfl ?_;have fin:∀{σ:SV} {q:Int×Bool},z6 i n m=q->LE σ (.tup [i64 q.1,bl q.2])->LE σ (.tup [i64 (z6 i n m).1,pr ((z6 i n m).2=true)]):=fun e h=>h.trans (by rw [e];exact z1 .refl zd1)
 refine Br.mk (fun h=>?_) (fun h=>?_)
 ·exact fin (q:=(0,false)) (by simp [z6,h]) .refl
 refine Br.mk (fun h2=>Br.mk (fun h3=>?_) (fun h3=>?_)) (fun h2=>?_)
 ·exact fin (q:=(i,true)) (by simp [z6,h,h2,h3]) .refl
 all_goals
  have hne:¬(0<=i/\i < n):=oM;have ht:=tdm (m:=i) (n:=n) oM;have hr:=zaq (m:=i) (n:=n) oM hi;refine Br.mk (fun h4=>?_) (fun h4=>?_)
  ·refine Ar.o ?_;refine zc.t (zgA i 0 (n - 1)) ?_;exact fin (q:=(j7 i 0 (n - 1),true)) (by simp [z6,h,hne,h4]) .refl
  refine Br.mk (fun h5=>?_) (fun h5=>?_)
  ·refine zc.t (zgZ i n hn oM) ?_;exact fin (q:=(i % n,true)) (by simp [z6,h,hne,h5]) .refl
  refine Br.mk (fun h6=>?_) (fun h6=>?_)
  ·refine Dr.k ?_;refine zc.t (zgZ i n hn oM) ?_;refine Dv.any oM ?_;refine Ar.o ?_;refine Dv.any oM ?_;have w3:z6 i n m=((if i / n % 2=1 then n - 1 - i % n else i % n),true):=by simp [z6,h,hne,h6]
   refine Br.mk (fun h7=>?_) (fun h7=>?_)
   ·refine Ar.o ?_;refine ⟨_,rfl,?_⟩;refine Br.mk (fun h8=>?_) (fun h8=>?_)
    ·rw [vw] at h8;(iterate 2 refine Ar.o ?_);exact fin w3 (z1 (zz (by rw [if_pos oM])) .refl)
    ·rw [vw] at h8;exact fin w3 (z1 (zz (by rw [if_neg oM])) .refl)
   ·refine ⟨_,rfl,?_⟩;refine Br.mk (fun h8=>?_) (fun h8=>?_)
    ·rw [vw] at h8;(iterate 2 refine Ar.o ?_);exact fin w3 (z1 (zz (by rw [if_pos oM])) .refl)
    ·rw [vw] at h8;exact fin w3 (z1 (zz (by rw [if_neg oM])) .refl)
  ·exact fin (q:=(0,false)) (by simp [z6,h,hne,h4,h5,h6]) .refl
theorem zeb(i n m:Int)(hi:R64 i)(hn:R64 n):zf Try.prog 12 [i64 i,i64 n,i64 m] [] (.tup [i64 (z6 i n m).1,pr ((z6 i n m).2=true)]) []:=by
 refine zk tok mix Try.func12 rfl rfl rfl ?_;have fin:∀{σ:SV} {q:Int×Bool},z6 i n m=q->LE σ (.tup [i64 q.1,bl q.2])->LE σ (.tup [i64 (z6 i n m).1,pr ((z6 i n m).2=true)]):=fun e h=>h.trans (by rw [e];exact z1 .refl zd1)
 refine Br.mk (fun h=>?_) (fun h=>?_)
 ·exact fin (q:=(0,false)) (by simp [z6,h]) .refl
 refine Br.mk (fun h2=>Br.mk (fun h3=>?_) (fun h3=>?_)) (fun h2=>?_)
 ·exact fin (q:=(i,true)) (by simp [z6,h,h2,h3]) .refl
 all_goals
  have hne:¬(0<=i/\i < n):=oM;have hem:=Int.emod_nonneg i (show n≠0 by omega);have hem2:=Int.emod_lt_of_pos i (show 0 < n by omega);refine Br.mk (fun h4=>?_) (fun h4=>?_)
  ·refine Ar.o ?_;refine fin (q:=(j7 i 0 (n - 1),true)) (by simp [z6,h,hne,h4]) (z1 (zz ?_) .refl);simp only [j7,zaG,yZ]
   split <;> (try split) <;> omega
  refine Br.mk (fun h5=>?_) (fun h5=>?_)
  ·refine zc.t (zdv i n hn oM) ?_;exact fin (q:=(i % n,true)) (by simp [z6,h,hne,h5]) .refl
  refine Br.mk (fun h6=>?_) (fun h6=>?_)
  ·have w3:z6 i n m=((if i / n % 2=1 then n - 1 - i % n else i % n),true):=by simp [z6,h,hne,h6]
   refine zc.t (zdw i n hi hn oM) ?_;refine Br.mk (fun h7=>?_) (fun h7=>?_)
   ·refine Ar.o ?_;refine zc.t (zdv i n hn oM) ?_;refine Ar.o ?_;exact fin w3 (z1 (zz (by rw [if_pos h7])) .refl)
   ·refine zc.t (zdv i n hn oM) ?_;exact fin w3 (z1 (zz (by rw [if_neg h7])) .refl)
  ·exact fin (q:=(0,false)) (by simp [z6,h,hne,h4,h5,h6]) .refl
structure Pix where
 r:Int
 g:Int
 b:Int
 a:Int
 deriving DecidableEq
def zb(p:Pix):List SV:=[u8 p.r,u8 p.g,u8 p.b,u8 p.a]
structure Img where
 w:Int
 h:Int
 px:List Pix
 deriving DecidableEq
def ze(m:Img):List SV:=[i64 m.w,i64 m.h,.sl zb m.px]
def jG(p:Pix):Prop:=p.r<=p.a/\p.g<=p.a/\p.b<=p.a
instance (p:Pix):Decidable (jG p):=inferInstanceAs (Decidable (_/\_))
def qo(m:Img):Prop:=(1<=m.w/\m.w<=4096)/\(1<=m.h/\m.h<=4096)/\m.w*m.h<=65536/\(m.px.length:Int)=m.w*m.h/\∀p∈m.px,jG p
instance (m:Img):Decidable (qo m):=inferInstanceAs (Decidable (_/\_))
theorem uJ(x r g b a:Int):zf Try.prog 69 [u8 x,.ptr [u8 r,u8 g,u8 b,u8 a]] [] (u8 (min x a)) []:=by
 refine zk tok mix Try.func69 rfl rfl rfl ?_;exact zz rfl
theorem zhl(p:Pix)(r g b a:Int):zf Try.prog 68 [.agg (zb p),.fn 69 [.ptr [u8 r,u8 g,u8 b,u8 a]]] [] (.agg [u8 (min p.r a),u8 (min p.g a),u8 (min p.b a),u8 (min p.a a)]) []:=by
 refine zk tok mix Try.func68 rfl rfl rfl ?_;refine Dr.k ?_;refine zc.t (uJ _ r g b a) ?_;refine zc.t (uJ _ r g b a) ?_;refine zc.t (uJ _ r g b a) ?_;refine zc.t (uJ _ r g b a) ?_;exact .refl
theorem zfT(p:Pix):zf Try.prog 51 [.agg (zb p)] [] (.agg [u8 (min p.r p.a),u8 (min p.g p.a),u8 (min p.b p.a),u8 (min p.a p.a)]) []:=by
 refine zk tok mix Try.func51 rfl rfl rfl ?_;refine zc.t (zhl p p.r p.g p.b p.a) ?_;exact .refl
theorem zfU(p:Pix):zf Try.prog 43 [.agg (zb p)] [] (pr (jG p)) []:=by
 refine zk tok mix Try.func43 rfl rfl rfl ?_;refine Dr.k ?_;refine zc.t (zfT p) ?_;refine jE (p:=min p.r p.a=p.r/\min p.g p.a=p.g/\min p.b p.a=p.b/\min p.a p.a=p.a/\True) ?_;constructor
 ·rintro ⟨h1,h2,h3,_⟩
  exact ⟨oM,oM,oM⟩
 ·rintro ⟨h1,h2,h3⟩
  exact ⟨oM,oM,oM,oM,trivial⟩
theorem zeT(p:Pix):zf Try.prog 42 [.agg (zb p)] [] (pr (¬jG p)) []:=by
 refine zk tok mix Try.func42 rfl rfl rfl ?_;refine zc.t (zfU p) ?_;exact jE Iff.rfl
def ud(xs:List Pix):Int:=match xs.findIdx? (fun p=>decide (¬jG p)) with
 | some i=>i
 | none=> -1
theorem zeU{xs:List Pix}{i:Nat}{p:Pix}(h:∀(j:Nat) q,j < i->xs[j]? =some q->jG q)(hi:xs[i]? =some p)(hp:¬jG p):ud xs=i:=by
 have:xs.findIdx? (fun p=>decide (¬jG p))=some i:=by
  rw [List.findIdx?_eq_some_iff_getElem];obtain ⟨hl,he⟩:=List.getElem?_eq_some_iff.1 hi;refine ⟨hl,by simp [he,hp],fun j hj=>?_⟩;have:=h j xs[j] hj (List.getElem?_eq_getElem _);simp [this]
 simp only [ud,this]
theorem vh{xs:List Pix}(h:∀p∈xs,jG p):ud xs= -1:=by
 have:xs.findIdx? (fun p=>decide (¬jG p))=none:=by
  rw [List.findIdx?_eq_none_iff];intro p hp;simp [h p hp]
 simp only [ud,this]
theorem zaS{xs:List Pix}:0<=ud xs↔¬∀p∈xs,jG p:=by
 constructor
 ·intro h hall;rw [vh hall] at h;omega
 ·intro h;unfold ud
  split
  ·omega
  ·rename_i hn;rw [List.findIdx?_eq_none_iff] at hn;exact absurd (fun p hp=>by simpa using hn p hp) h
theorem zgB(xs:List Pix)(hl:xs.length<=9223372036854775807):zf Try.prog 66 [.sl zb xs,.fn 42 []] [] (i64 (ud xs)) []:=by
 refine zk tok mix Try.func66 rfl rfl rfl ?_;intro hl0;refine ⟨Int,fun i=>⟨[(8,i64 i),(7,i64 xs.length),(0,.sl zb xs),(1,.fn 42 [])],[],0,19,0⟩,fun i=>0<=i/\i<=xs.length/\∀(j:Nat) q,(j:Int) < i->xs[j]? =some q->jG q,fun i=>((xs.length:Int) - i).toNat,0,?_,?_,?_⟩
 ·exact ⟨oM,oM,fun j q hj=>by omega⟩
 ·exact z3 []
 rintro i ⟨h1,h2,h3⟩
 refine Br.mk (fun h4=>?_) (fun h4=>?_)
 ·refine Ob.o ?_;intro x hx;refine zc.t (zeT x) ?_;refine Br.mk (fun h5=>?_) (fun h5=>?_)
  ·refine zz ?_;rw [zeU (i:=i.toNat) (fun j q hj=>h3 j q oM) hx h5];omega
  ·refine Ar.o ?_;refine ⟨i+1,⟨oM,oM,fun j q hj hq=>?_⟩,z3 [],by dsimp only;omega⟩
   by_cases e:j=i.toNat
   ·subst e;rw [hx] at hq;cases hq;exact Decidable.not_not.1 h5
   ·exact h3 j q oM hq
 ·refine zz (vh fun p hp=>?_).symm;obtain ⟨j,hj,he⟩:=List.getElem_of_mem hp;exact h3 j p oM (by rw [← he];exact List.getElem?_eq_getElem hj)
theorem zdx(xs:List Pix)(hl:xs.length<=9223372036854775807):zf Try.prog 41 [.sl zb xs,.fn 42 []] [] (pr (¬∀p∈xs,jG p)) []:=by
 refine zk tok mix Try.func41 rfl rfl rfl ?_;refine zc.t (zgB xs hl) ?_;exact jE zaS
theorem zg0(n:Int):zf Try.prog 40 [i64 n] [] (pr (1<=n/\n<=4096)) []:=by
 refine zk tok mix Try.func40 rfl rfl rfl ?_;refine Br.mk (fun h=>?_) (fun h=>?_)
 ·exact jE oM
 ·exact zE oM
theorem kZ{a b A B:Int}(h1:0<=a)(h2:a<=A)(h3:0<=b)(h4:b<=B):0<=a*b/\a*b<=A*B:=
 ⟨Int.mul_nonneg h1 h3,Int.mul_le_mul h2 h4 h3 oM⟩
theorem vy(m:Img)(hl:m.px.length<=9223372036854775807):zf Try.prog 18 [.agg (ze m)] [] (pr (qo m)) []:=by
 refine zk tok mix Try.func18 rfl rfl rfl ?_;refine zc.t (zg0 m.w) ?_;refine Br.mk (fun h1=>?_) (fun h1=>?_)
 ·exact zE (fun h=>h1 h.1)
 have h1:=Decidable.not_not.1 h1;refine zc.t (zg0 m.h) ?_;refine Br.mk (fun h2=>?_) (fun h2=>?_)
 ·exact zE (fun h=>h2 h.2.1)
 have h2:=Decidable.not_not.1 h2;have hm:=kZ (show 0<=m.w by omega) h1.2 (show 0<=m.h by omega) h2.2;refine Ar.o ?_;refine Br.mk (fun h3=>?_) (fun h3=>?_)
 ·exact zE (fun h=>by have:=h.2.2.1;omega)
 intro hl0;refine Ar.o ?_;refine Br.mk (fun h4=>?_) (fun h4=>?_)
 ·exact zE (fun h=>h4 h.2.2.2.1)
 refine zc.t (zdx m.px hl) ?_;refine jE ?_;exact ⟨fun h=>⟨h1,h2,oM,Decidable.not_not.1 h4,Decidable.not_not.1 h⟩,fun h h'=>h' h.2.2.2.2⟩
theorem kz:zf Try.prog 13 [] [] (bl true) []:=by
 refine zk tok mix Try.func13 rfl rfl rfl ?_;refine zc.t (zbS (-1) 3 3 dC dC) ?_;refine zc.t (zbS 4 3 3 dC dC) ?_;refine Br.y ?_;refine Br.y ?_;refine Br.y ?_;refine Br.y ?_;refine ⟨Pix,zb,[⟨0,0,0,5⟩],rfl,Ob.mk ⟨rfl,dC,dC,dC,fun x hx=>by cases hx with | head=>exact ⟨rfl,rfl,rfl⟩ | tail _ h=>cases h⟩ ?_⟩;refine zc.t (vy ⟨1,1,[⟨0,0,0,5⟩]⟩ dC) ?_;exact zfA dC
theorem zdy(w h:Int):zf Try.prog 25 [i64 w,i64 h] [] (pr ((1<=w/\w<=4096)/\(1<=h/\h<=4096)/\w*h<=65536)) []:=by
 refine zk tok mix Try.func25 rfl rfl rfl ?_;refine Br.mk (fun h1=>?_) (fun h1=>zE oM);refine Br.mk (fun h2=>?_) (fun h2=>zE oM);refine Br.mk (fun h3=>?_) (fun h3=>zE oM);refine Br.mk (fun h4=>?_) (fun h4=>zE oM);have hm:=kZ (show 0<=w by omega) h2 (show 0<=h by omega) h4;refine Ar.o ?_;exact jE ⟨fun h=>⟨⟨h1,h2⟩,⟨h3,h4⟩,h⟩,fun h=>h.2.2⟩
theorem zeV(p:Pix):zf Try.prog 34 [.agg (zb p)] [] (pr (jG p)) []:=by
 refine zk tok mix Try.func34 rfl rfl rfl ?_;refine Br.mk (fun h1=>?_) (fun h1=>zE (fun h=>h1 h.1));refine Br.mk (fun h2=>?_) (fun h2=>zE (fun h=>h2 h.2.1));exact jE ⟨fun h=>⟨h1,h2,h⟩,fun h=>h.2.2⟩
theorem zcP(m:Img):zf Try.prog 19 [.agg (ze m)] [] (pr (qo m)) []:=by
 refine zk tok mix Try.func19 rfl rfl rfl ?_;refine zc.t (zdy m.w m.h) ?_;refine Br.mk (fun h1=>zE (fun h=>h1 ⟨h.1,h.2.1,h.2.2.1⟩)) (fun h1=>?_);have h1:=Decidable.not_not.1 h1;have hm:=kZ (show 0<=m.w by omega) h1.1.2 (show 0<=m.h by omega) h1.2.1.2;intro hl0;refine Ar.o ?_;refine Br.mk (fun h4=>zE (fun h=>h4 h.2.2.2.1)) (fun h4=>?_);have h4:=Decidable.not_not.1 h4
 refine ⟨Int,fun i=>⟨[(3,i64 i),(1,.loc 0 0)],[(0,.box 28 (ze m))],1,35,0⟩,fun i=>0<=i/\i<=m.px.length/\∀(j:Nat) q,(j:Int) < i->m.px[j]? =some q->jG q,fun i=>((m.px.length:Int) - i).toNat,0,?_,?_,?_⟩
 ·exact ⟨oM,oM,fun j q hj=>by omega⟩
 ·exact z3 [(0,some 0)]
 rintro i ⟨g1,g2,g3⟩
 intro hl1;refine Br.mk (fun g4=>?_) (fun g4=>?_)
 ·refine Ob.o ?_;intro x hx;refine zc.t (zeV x) ?_;refine Br.mk (fun g5=>?_) (fun g5=>?_)
  ·exact zE fun h=>g5 (h.2.2.2.2 x (List.mem_of_getElem? hx))
  ·refine Ar.o ?_;refine ⟨i+1,⟨oM,oM,fun j q hj hq=>?_⟩,z3 [(0,some 0)],by dsimp only;omega⟩
   by_cases e:j=i.toNat
   ·subst e;rw [hx] at hq;cases hq;exact Decidable.not_not.1 g5
   ·exact g3 j q oM hq
 ·refine yS ⟨h1.1,h1.2.1,h1.2.2,h4,fun p hp=>?_⟩;obtain ⟨j,hj,he⟩:=List.getElem_of_mem hp;exact g3 j p oM (by rw [← he];exact List.getElem?_eq_getElem hj)
theorem zfV{p q:Pix}:(p.r=q.r/\p.g=q.g/\p.b=q.b/\p.a=q.a/\True)↔p=q:=by
 cases p;cases q;simp
theorem zgC{xs ys:List Pix}{i:Int}(hl:(xs.length:Int)=ys.length)(hi:¬i < xs.length)(h:∀j:Nat,(j:Int) < i->xs[j]? =ys[j]?):xs=ys:=by
 refine List.ext_getElem? fun j=>?_
 by_cases hj:(j:Int) < i
 ·exact h j hj
 ·rw [List.getElem?_eq_none oM,List.getElem?_eq_none oM]
theorem zV(m n:Img):zf Try.prog 17 [.agg (ze m),.agg (ze n)] [] (pr (m=n)) []:=by
 refine zk tok mix Try.func17 rfl rfl rfl ?_;refine Br.mk (fun h1=>zE fun e=>h1 (by rw [e])) (fun h1=>?_);refine Br.mk (fun h2=>zE fun e=>h2 (by rw [e])) (fun h2=>?_);intro hl1 hl2;refine Br.mk (fun h3=>zE fun e=>h3 (by rw [e])) (fun h3=>?_);refine ⟨Int,fun i=>⟨[(5,i64 i),(2,.loc 0 0),(3,.loc 1 0)],[(1,.box 28 (ze n)),(0,.box 28 (ze m))],2,45,0⟩,fun i=>0<=i/\i<=m.px.length/\∀j:Nat,(j:Int) < i->m.px[j]? =n.px[j]?,fun i=>((m.px.length:Int) - i).toNat,0,?_,?_,?_⟩
 ·exact ⟨oM,oM,fun j hj=>by omega⟩
 ·exact z3 [(0,some 0),(1,some 1)]
 rintro i ⟨h4,h5,h6⟩
 intro hl3;refine Br.mk (fun h7=>?_) (fun h7=>?_)
 ·refine Dr.k ?_;refine Ob.o ?_;intro x hx;refine Ob.o ?_;intro y hy;refine Br.mk (fun h8=>?_) (fun h8=>?_)
  ·refine zE fun e=>h8 (zfV.2 ?_)
   subst e;rw [hx] at hy;exact Option.some.inj hy
  ·refine Ar.o ?_;refine ⟨i+1,⟨oM,oM,fun j hj=>?_⟩,z3 [(0,some 0),(1,some 1)],by dsimp only;omega⟩
   by_cases e:j=i.toNat
   ·subst e;rw [hx,hy,zfV.1 (Decidable.not_not.1 h8)]
   ·exact h6 j oM
 ·refine yS ?_;have e1:=Decidable.not_not.1 h1;have e2:=Decidable.not_not.1 h2;have e3:=zgC (Decidable.not_not.1 h3) h7 h6
  cases m;cases n
  simp_all
theorem jH{i n m:Int}(h:(z6 i n m).2=true):0<=(z6 i n m).1/\(z6 i n m).1 < n:=by
 unfold z6 at h ⊢
 by_cases h1:n < 1
 ·simp [h1] at h
 have hem:=Int.emod_nonneg i (show n≠0 by omega);have hem2:=Int.emod_lt_of_pos i (show 0 < n by omega);rw [if_neg h1] at h ⊢
 split
 ·rename_i h2;exact ⟨h2.1,h2.2⟩
 ·split
  ·simp only [j7];split <;> (try split) <;> omega
  ·split
   ·exact ⟨hem,hem2⟩
   ·split
    ·dsimp only;split <;> omega
    ·simp_all
def vi:Pix:=⟨0,0,0,0⟩
def jc(m:Img)(x y md:Int):Pix:=if (z6 x m.w md).2=true/\(z6 y m.h md).2=true then m.px.getD ((z6 y m.h md).1*m.w+(z6 x m.w md).1).toNat vi else vi
theorem jI{a b w h l:Int}(ha:0<=a/\a < w)(hb:0<=b/\b < h)(hl:l=w*h):0<=b*w/\b*w < l/\0<=b*w+a/\b*w+a < l:=by
 have h1:=Int.mul_nonneg hb.1 (show 0<=w by omega);have h2:(b+1)*w<=h*w:=Int.mul_le_mul_of_nonneg_right oM oM;rw [Int.add_mul,Int.one_mul,Int.mul_comm h w] at h2;omega
theorem zfW(m:Img)(x y md:Int)(hm:qo m)(hx:R64 x)(hy:R64 y):
  zf Try.prog 45 [.agg (ze m),i64 x,i64 y,i64 md] [] (.agg (zb (jc m x y md))) []:=by
 refine zk tok mix Try.func45 rfl rfl rfl ?_;obtain ⟨m1,m2,m3,m4,_⟩:=hm;have fin:∀{σ:SV} {q:Pix},jc m x y md=q->LE σ (.agg (zb q))->LE σ (.agg (zb (jc m x y md))):=fun e h=>e ▸ h
 refine zc.t (zbS x m.w md hx oM) ?_;refine zc.t (zbS y m.h md hy oM) ?_;refine Br.mk (fun h1=>fin (q:=vi) (if_neg fun h=>h1 h.1) .refl) (fun h1=>?_);refine Br.mk (fun h2=>fin (q:=vi) (if_neg fun h=>h2 h.2) .refl) (fun h2=>?_);have h1:=Decidable.not_not.1 h1;have h2:=Decidable.not_not.1 h2;have hp:=jI (jH h1) (jH h2) m4;(iterate 2 refine Ar.o ?_);refine Ob.o ?_;intro q hq;refine fin (q:=q) ?_ .refl;unfold jc;rw [if_pos ⟨h1,h2⟩,List.getD_eq_getElem?_getD,hq];rfl
theorem zeW(m:Img)(x y md:Int)(hm:qo m)(hx:R64 x)(hy:R64 y):
  zf Try.prog 46 [.agg (ze m),i64 x,i64 y,i64 md] [] (.agg (zb (jc m x y md))) []:=by
 refine zk tok mix Try.func46 rfl rfl rfl ?_;obtain ⟨m1,m2,m3,m4,_⟩:=hm;have fin:∀{σ:SV} {q:Pix},jc m x y md=q->LE σ (.agg (zb q))->LE σ (.agg (zb (jc m x y md))):=fun e h=>e ▸ h
 refine zc.t (zeb x m.w md hx oM) ?_;refine zc.t (zeb y m.h md hy oM) ?_;refine Br.mk (fun h1=>fin (q:=vi) (if_neg fun h=>h1 h.1) .refl) (fun h1=>?_);refine Br.mk (fun h2=>fin (q:=vi) (if_neg fun h=>h2 h.2) .refl) (fun h2=>?_);have h1:=Decidable.not_not.1 h1;have h2:=Decidable.not_not.1 h2;have hp:=jI (jH h1) (jH h2) m4;(iterate 2 refine Ar.o ?_);refine Ob.o ?_;intro q hq;refine fin (q:=q) ?_ .refl;unfold jc;rw [if_pos ⟨h1,h2⟩,List.getD_eq_getElem?_getD,hq];rfl
def zcQ(c:Img×Int):SV:=.tup [.agg [i64 c.1.w,i64 c.1.h,.own 0],i64 c.2]
theorem qi(xs:List Pix):ul (.arr 37 zb 4 xs):=fun _ _=>rfl
theorem kF(xs:List Pix):u9 (.arr 37 zb 4 xs):=fun _ _=>rfl
theorem zax{a b:Int}(ha:0<=a)(hb:0 < b):kJ a b=(2*a+b) / (2*b):=by
 obtain ⟨a,rfl⟩:=Int.eq_ofNat_of_zero_le ha;obtain ⟨b,rfl⟩:=Int.eq_ofNat_of_zero_le (Int.le_of_lt hb);unfold kJ;rw [if_pos oM];simp
abbrev P8(p:Pix):Prop:=R8 p.r/\R8 p.g/\R8 p.b/\R8 p.a
theorem zgD(p:Pix)(h:P8 p):zf Try.prog 50 [.agg (zb p),i64 0] [] (i64 p.r) []:=by
 refine zk tok mix Try.func50 rfl rfl rfl ?_;refine Ar.o ?_;exact .refl
theorem zgE(p:Pix)(h:P8 p):zf Try.prog 50 [.agg (zb p),i64 1] [] (i64 p.g) []:=by
 refine zk tok mix Try.func50 rfl rfl rfl ?_;refine Ar.o ?_;exact .refl
theorem zgF(p:Pix)(h:P8 p):zf Try.prog 50 [.agg (zb p),i64 2] [] (i64 p.b) []:=by
 refine zk tok mix Try.func50 rfl rfl rfl ?_;refine Ar.o ?_;exact .refl
theorem zgG(p:Pix)(h:P8 p):zf Try.prog 50 [.agg (zb p),i64 3] [] (i64 p.a) []:=by
 refine zk tok mix Try.func50 rfl rfl rfl ?_;refine Ar.o ?_;exact .refl
end Go.Gs
