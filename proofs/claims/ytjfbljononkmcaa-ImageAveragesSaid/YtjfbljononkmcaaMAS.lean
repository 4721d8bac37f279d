/- Rows of digits of base 2^32, least significant digit first, and the natural numbers that they stand for. -/
import Derived.Test.YtjfbljononkmcaaMA
import Derived.Test.YtjfbljononkmcaaMAR
import Derived.Lib.Mul64
set_option maxRecDepth 100000
set_option maxHeartbeats 8000000
set_option linter.all false
namespace Go.Gs
open Go.Proofs
abbrev u64(n:Int):SV:=.val (.int .u64 n)
theorem ju(e:Int):IntKind.u64.wrap e=e % 18446744073709551616:=rfl
def kM(a b:Int):Int:=
 if a < 0↔b < 0 then ((2*a.natAbs+b.natAbs) / (2*b.natAbs):Nat) else -((2*a.natAbs+b.natAbs) / (2*b.natAbs):Nat)
def yh(z:Int):Int:=if -9223372036854775808<=z/\z<=9223372036854775807 then z else 0
theorem zaT(n:Int)(hn:R64 n):zf Try.prog 83 [i64 n] [] (u64 (n.natAbs:Nat)) []:=by
 refine zh tok mix Try.func83 rfl rfl rfl ?_;refine Br.mk (fun h=>?_) (fun h=>?_)
 ·refine Ar.wrap ?_;refine Ar.wrap ?_;exact zF (by rw [ju,ju];omega)
 ·refine Ar.o ?_;exact zF oM
theorem zgs(x:Nat):yc .and .u64 x 4294967295=((x % 4294967296:Nat):Int):=by
 have e:(BitVec.ofInt 64 x&&&BitVec.ofInt 64 4294967295).toNat=x % 4294967296:=by
  rw [BitVec.toNat_and];have h1:(BitVec.ofInt 64 4294967295).toNat=2 ^ 32 - 1:=dC;rw [h1,Nat.and_two_pow_sub_one_eq_mod,BitVec.toNat_ofInt];rw [show (2:Nat) ^ 32=4294967296 by decide];omega
 show IntKind.u64.wrap ((BitVec.ofInt 64 x&&&BitVec.ofInt 64 4294967295).toNat:Nat)=_;rw [e,ju];omega
theorem zhm(x y:Nat)(hx:x < 18446744073709551616)(hy:y < 18446744073709551616):
  zf Try.prog 82 [u64 x,u64 y] [] (.tup [u64 (x*y / 18446744073709551616:Nat),u64 (x*y % 18446744073709551616:Nat)]) []:=by
 refine zh tok mix Try.func82 rfl rfl rfl ?_;obtain ⟨k1,k2,k3,k4⟩:=Go.Lib.mul64_hi x y hx hy;have k0:(x / 4294967296)*(y % 4294967296)<=(x / 4294967296)*(y % 4294967296)+(x % 4294967296)*(y % 4294967296) / 4294967296:=Nat.le_add_right _ _
 have k5:x*y / 18446744073709551616 < 18446744073709551616:=by
  rw [Nat.div_lt_iff_lt_mul dC];exact Nat.mul_lt_mul_of_lt_of_lt hx hy
 refine ⟨_,(zgs x).symm,?_⟩;refine Ob.o0 ?_;refine ⟨_,(zgs y).symm,?_⟩;refine Ob.o0 ?_;have ex:(x:Int) / 2 ^ 32=((x / 4294967296:Nat):Int):=by simp
 have ey:(y:Int) / 2 ^ 32=((y / 4294967296:Nat):Int):=by simp
 have hc:=Go.Lib.half_mul_le (a:=x % 4294967296) (b:=y / 4294967296) oM oM;have ha:=Go.Lib.half_mul_le (a:=x / 4294967296) (b:=y / 4294967296) oM oM;rw [ex,ey];generalize hx1:x / 4294967296=x1 at*;generalize hx0:x % 4294967296=x0 at*;generalize hy1:y / 4294967296=y1 at*;generalize hy0:y % 4294967296=y0 at*;(iterate 2 refine Ar.o ?_);refine Ob.o0 ?_;have e1:((x0:Int)*(y0:Int)) / 2 ^ 32=((x0*y0 / 4294967296:Nat):Int):=by simp
 rw [e1];generalize x0*y0 / 4294967296=w0 at*;refine Ar.o ?_;have e2:(x1:Int)*(y0:Int)+(w0:Int)=((x1*y0+w0:Nat):Int):=by simp
 rw [e2];generalize x1*y0+w0=t at*;refine ⟨_,(zgs t).symm,?_⟩;refine Ob.o0 ?_;have e3:(t:Int) / 2 ^ 32=((t / 4294967296:Nat):Int):=by simp
 rw [e3];(iterate 4 refine Ar.o ?_);refine Ob.o0 ?_;have e4:(((t % 4294967296:Nat):Int)+(x0:Int)*(y1:Int)) / 2 ^ 32=(((t % 4294967296+x0*y1) / 4294967296:Nat):Int):=by simp
 rw [e4];refine Ar.o ?_;refine Ar.wrap ?_;refine ko (zF ?_) (zF ?_)
 ·rw [← k4];simp
 ·rw [ju];simp
theorem zhn(lo y:Nat)(hlo:lo < 18446744073709551616)(hy:y < 18446744073709551616)(h0:y≠0):
  zf Try.prog 92 [u64 (0:Nat),u64 lo,u64 y] [] (.tup [u64 (lo / y:Nat),u64 (lo % y:Nat)]) []:=by
 refine zh tok mix Try.func92 rfl rfl rfl ?_;refine Br.mk (fun h=>absurd h oM) (fun _=>?_);refine Br.mk (fun h=>absurd h oM) (fun _=>?_);refine Br.mk (fun _=>?_) (fun h=>absurd rfl h);refine Dr.k ?_;refine Dv.pos ⟨oM,oM,by show _<=(18446744073709551615:Int);omega⟩ ?_;refine Dv.pos ⟨oM,oM⟩ ?_;exact ko (zF (by simp)) (zF (by simp))
def rup(lo by_:Nat):Nat:=(2*lo+by_) / (2*by_)
theorem zgt{lo y:Nat}(h0:y≠0):rup lo y=if y<=2*(lo % y) then lo / y+1 else lo / y:=by
 unfold rup;have e:=Nat.div_add_mod lo y;have hl:=Nat.mod_lt lo (Nat.pos_of_ne_zero h0);generalize lo / y=q at*;generalize lo % y=r at*;subst e;have p:2*(y*q+r)+y=2*y*q+(2*r+y):=by rw [Nat.mul_add,Nat.mul_assoc];omega
 rw [p,Nat.mul_add_div oM]
 split
 ·have:(2*r+y) / (2*y)=1:=by
   rw [Nat.div_eq_iff oM];omega
  omega
 ·have:(2*r+y) / (2*y)=0:=Nat.div_eq_of_lt oM;omega
theorem zie(lo y:Nat)(hlo:lo<=9223372036854775808)(hy:y < 18446744073709551616)(h0:y≠0):
  zf Try.prog 85 [.agg [u64 (0:Nat),u64 lo,u64 y]] [] (.tup [u64 (rup lo y:Nat),bl true]) []:=by
 refine zh tok mix Try.func85 rfl rfl rfl ?_;refine Br.mk (fun h=>absurd h oM) (fun _=>?_);refine ze.t (zhn lo y oM hy h0) ?_;have hq:=Nat.div_le_self lo y;have hr:=Nat.mod_lt lo (Nat.pos_of_ne_zero h0);have he:=zgt (lo:=lo) h0;generalize rup lo y=u at*;generalize lo / y=q at*;generalize lo % y=r at*;refine Ar.o ?_;refine Br.mk (fun h=>?_) (fun h=>?_)
 ·rw [if_pos oM] at he;refine Ar.o ?_;exact ko (zF oM) (zgc oM)
 ·rw [if_neg oM] at he;exact ko (zF oM) .refl
theorem zgu(p:Prop)[i:Decidable p](lo y:Nat)(hlo:lo<=9223372036854775808)(hy:y < 18446744073709551616)(h0:y≠0):
  zf Try.prog 84 [.pr p i,.val (.func (.func 85) #[.agg #[.int .u64 (0:Nat),.int .u64 (lo:Nat),.int .u64 (y:Nat)]] #[])] []
   (.tup [i64 (yh (if p then -(rup lo y:Int) else rup lo y)),pr (-9223372036854775808<=(if p then -(rup lo y:Int) else rup lo y)/\(if p then -(rup lo y:Int) else rup lo y)<=9223372036854775807)]) []:=by
 refine zh tok mix Try.func84 rfl rfl rfl ?_;refine ze.t (zie lo y hlo hy h0) ?_
 have hu:rup lo y < 18446744073709551616:=by
  rw [zgt h0];have:=Nat.div_le_self lo y
  split <;> omega
 generalize rup lo y=u at*
 have bad:∀z:Int,¬(-9223372036854775808<=z/\z<=9223372036854775807)->LE (.tup [i64 0,bl false]) (.tup [i64 (yh z),pr (-9223372036854775808<=z/\z<=9223372036854775807)]):=fun z h=>
  ko (zF (by rw [yh,if_neg h])) (zD h)
 have good:∀n z:Int,n=z-> -9223372036854775808<=z/\z<=9223372036854775807->LE (.tup [i64 n,bl true]) (.tup [i64 (yh z),pr (-9223372036854775808<=z/\z<=9223372036854775807)]):=fun n z hn h=>
  ko (zF (by rw [yh,if_pos h,hn])) (yU h)
 refine Br.mk (fun h=>bad _ (by split <;> omega)) (fun h=>?_)
 have tail:(u:Int)<=9223372036854775808->((u:Int)=9223372036854775808->p)->IntKind.i64.wrap (IntKind.u64.wrap (-(u:Int)))= -(u:Int)/\(¬p->(u:Int)<=9223372036854775807):=fun g1 g2=>by
  refine ⟨?_,fun hp=>?_⟩
  ·rw [ju];simp only [IntKind.wrap,IntKind.bits,IntKind.signed];simp;omega
  ·by_cases e:(u:Int)=9223372036854775808
   ·exact absurd (g2 e) hp
   ·omega
 refine Br.mk (fun h1=>?_) (fun h1=>?_)
 ·refine Br.mk (fun h2=>bad _ (by rw [if_neg h2];omega)) (fun h2=>?_);have hp:=Decidable.not_not.1 h2;obtain ⟨t1,t2⟩:=tail oM (fun _=>hp);refine Br.mk (fun _=>?_) (fun h3=>absurd hp h3);refine Ar.wrap ?_;refine Ar.wrap ?_;exact good _ _ (by rw [if_pos hp];exact t1) (by rw [if_pos hp];omega)
 ·obtain ⟨t1,t2⟩:=tail oM (fun h=>absurd h h1);refine Br.mk (fun h3=>?_) (fun h3=>?_)
  ·refine Ar.wrap ?_;refine Ar.wrap ?_;exact good _ _ (by rw [if_pos h3];exact t1) (by rw [if_pos h3];omega)
  ·have:=t2 h3;refine Ar.o ?_;exact good _ _ (by rw [if_neg h3]) (by rw [if_neg h3];omega)
theorem zgv(a c:Int):(if ¬(¬(a < 0↔(1:Int) < 0)↔c < 0) then -(rup a.natAbs c.natAbs:Int) else (rup a.natAbs c.natAbs:Int))=kM a c:=by
 unfold kM;show _=if a < 0↔c < 0 then ((rup a.natAbs c.natAbs:Nat):Int) else -((rup a.natAbs c.natAbs:Nat):Int)
 generalize (rup a.natAbs c.natAbs:Int)=u
 by_cases h1:a < 0 <;> by_cases h2:c < 0 <;> simp [h1,h2]
theorem zfA(a c:Int)(ha:R64 a)(hc:R64 c):zf Try.prog 78 [i64 a,i64 1,i64 c] []
  (.tup [i64 (yh (kM a c)),pr (c≠0/\ -9223372036854775808<=kM a c/\kM a c<=9223372036854775807)]) []:=by
 refine zh tok mix Try.func78 rfl rfl rfl ?_;refine Br.mk (fun h=>?_) (fun h=>?_)
 ·refine ko (zF ?_) (zD fun h'=>h'.1 h);subst h;simp [kM,yh]
 refine ze.t (zaT a ha) ?_;refine ze.t (zaT 1 dC) ?_;refine ze.t (zhm a.natAbs (1:Int).natAbs oM oM) ?_;rw [show (1:Int).natAbs=1 by rfl,Nat.mul_one,Nat.div_eq_of_lt (show a.natAbs < 18446744073709551616 by omega),Nat.mod_eq_of_lt (show a.natAbs < 18446744073709551616 by omega)];refine ze.t (zaT c hc) ?_;refine ze.t (zgu (¬(¬(a < 0↔(1:Int) < 0)↔c < 0)) a.natAbs c.natAbs oM oM oM) ?_;rw [zgv a c];exact ko .refl (y9 ⟨fun g=>⟨h,g⟩,fun g=>g.2⟩)
theorem zec(a b:Int)(ha:R64 a)(hb:R64 b):zf Try.prog 67 [i64 a,i64 b] [] (i64 (yh (kM a b))) []:=by
 refine zh tok mix Try.func67 rfl rfl rfl ?_;refine ze.t (zfA a b ha hb) ?_;exact .refl
def vo(n lo hi:Int):Int:=if n < lo then lo else if hi < n then hi else n
theorem zho(n lo hi:Int):zf Try.prog 36 [i64 n,i64 lo,i64 hi] [] (i64 (vo n lo hi)) []:=by
 refine zh tok mix Try.func36 rfl rfl rfl ?_;refine Br.mk (fun h=>?_) (fun h=>?_)
 ·exact zF (by simp [vo,h])
 refine Br.mk (fun h2=>?_) (fun h2=>?_)
 ·exact zF (by simp [vo,h,h2])
 ·exact zF (by simp [vo,h,h2])
def yg(i n m:Int):Int×Bool:=
 if n < 1 then (0,false) else if 0<=i/\i < n then (i,true) else if m=1 then (vo i 0 (n - 1),true) else if m=2 then (i % n,true)
 else if m=3 then ((if i / n % 2=1 then n - 1 - i % n else i % n),true) else (0,false)
theorem zhO(i n:Int)(hn:R64 n)(h1:1<=n):zf Try.prog 37 [i64 i,i64 n] [] (i64 (i % n)) []:=by
 refine zh tok mix Try.func37 rfl rfl rfl ?_;have ht:=tdm (m:=i) (n:=n) oM;refine Br.mk (fun h=>?_) (fun h=>?_)
 ·omega
 refine Dv.any oM ?_;refine Br.mk (fun h2=>?_) (fun h2=>?_)
 ·refine Ar.o ?_;exact zF oM
 ·exact zF oM
theorem zgw(i n m:Int)(hi:R64 i)(hn:R64 n):zf Try.prog 11 [i64 i,i64 n,i64 m] [] (.tup [i64 (yg i n m).1,pr ((yg i n m).2=true)]) []:=by
 refine zh tok mix Try.func11 rfl rfl rfl ?_;have fin:∀{σ:SV} {q:Int×Bool},yg i n m=q->LE σ (.tup [i64 q.1,bl q.2])->LE σ (.tup [i64 (yg i n m).1,pr ((yg i n m).2=true)]):=fun e h=>h.trans (by rw [e];exact ko .refl zhg)
 refine Br.mk (fun h=>?_) (fun h=>?_)
 ·exact fin (q:=(0,false)) (by simp [yg,h]) .refl
 refine Br.mk (fun h2=>Br.mk (fun h3=>?_) (fun h3=>?_)) (fun h2=>?_)
 ·exact fin (q:=(i,true)) (by simp [yg,h,h2,h3]) .refl
 all_goals
  have hne:¬(0<=i/\i < n):=oM;have ht:=tdm (m:=i) (n:=n) oM;have hr:=zd7 (m:=i) (n:=n) oM hi;refine Br.mk (fun h4=>?_) (fun h4=>?_)
  ·refine Ar.o ?_;refine ze.t (zho i 0 (n - 1)) ?_;exact fin (q:=(vo i 0 (n - 1),true)) (by simp [yg,h,hne,h4]) .refl
  refine Br.mk (fun h5=>?_) (fun h5=>?_)
  ·refine ze.t (zhO i n hn oM) ?_;exact fin (q:=(i % n,true)) (by simp [yg,h,hne,h5]) .refl
  refine Br.mk (fun h6=>?_) (fun h6=>?_)
  ·refine Dr.k ?_;refine ze.t (zhO i n hn oM) ?_;refine Dv.any oM ?_;refine Ar.o ?_;refine Dv.any oM ?_;have w3:yg i n m=((if i / n % 2=1 then n - 1 - i % n else i % n),true):=by simp [yg,h,hne,h6]
   refine Br.mk (fun h7=>?_) (fun h7=>?_)
   ·refine Ar.o ?_;refine ⟨_,rfl,?_⟩;refine Br.mk (fun h8=>?_) (fun h8=>?_)
    ·rw [vW] at h8;(iterate 2 refine Ar.o ?_);exact fin w3 (ko (zF (by rw [if_pos oM])) .refl)
    ·rw [vW] at h8;exact fin w3 (ko (zF (by rw [if_neg oM])) .refl)
   ·refine ⟨_,rfl,?_⟩;refine Br.mk (fun h8=>?_) (fun h8=>?_)
    ·rw [vW] at h8;(iterate 2 refine Ar.o ?_);exact fin w3 (ko (zF (by rw [if_pos oM])) .refl)
    ·rw [vW] at h8;exact fin w3 (ko (zF (by rw [if_neg oM])) .refl)
  ·exact fin (q:=(0,false)) (by simp [yg,h,hne,h4,h5,h6]) .refl
structure Pix where
 r:Int
 g:Int
 b:Int
 a:Int
 deriving DecidableEq
def kd(p:Pix):List SV:=[u8 p.r,u8 p.g,u8 p.b,u8 p.a]
structure Img where
 w:Int
 h:Int
 px:List Pix
 deriving DecidableEq
def kj(m:Img):List SV:=[i64 m.w,i64 m.h,.sl kd m.px]
def jw(p:Pix):Prop:=p.r<=p.a/\p.g<=p.a/\p.b<=p.a
instance (p:Pix):Decidable (jw p):=inferInstanceAs (Decidable (_/\_))
def qr(m:Img):Prop:=(1<=m.w/\m.w<=4096)/\(1<=m.h/\m.h<=4096)/\m.w*m.h<=65536/\(m.px.length:Int)=m.w*m.h/\∀p∈m.px,jw p
instance (m:Img):Decidable (qr m):=inferInstanceAs (Decidable (_/\_))
theorem uR(x r g b a:Int):zf Try.prog 69 [u8 x,.ptr [u8 r,u8 g,u8 b,u8 a]] [] (u8 (min x a)) []:=by
 refine zh tok mix Try.func69 rfl rfl rfl ?_;exact zF rfl
theorem zif(p:Pix)(r g b a:Int):zf Try.prog 68 [.agg (kd p),.fn 69 [.ptr [u8 r,u8 g,u8 b,u8 a]]] [] (.agg [u8 (min p.r a),u8 (min p.g a),u8 (min p.b a),u8 (min p.a a)]) []:=by
 refine zh tok mix Try.func68 rfl rfl rfl ?_;refine Dr.k ?_;refine ze.t (uR _ r g b a) ?_;refine ze.t (uR _ r g b a) ?_;refine ze.t (uR _ r g b a) ?_;refine ze.t (uR _ r g b a) ?_;exact .refl
theorem zgx(p:Pix):zf Try.prog 51 [.agg (kd p)] [] (.agg [u8 (min p.r p.a),u8 (min p.g p.a),u8 (min p.b p.a),u8 (min p.a p.a)]) []:=by
 refine zh tok mix Try.func51 rfl rfl rfl ?_;refine ze.t (zif p p.r p.g p.b p.a) ?_;exact .refl
theorem zgy(p:Pix):zf Try.prog 43 [.agg (kd p)] [] (pr (jw p)) []:=by
 refine zh tok mix Try.func43 rfl rfl rfl ?_;refine Dr.k ?_;refine ze.t (zgx p) ?_;refine y9 (p:=min p.r p.a=p.r/\min p.g p.a=p.g/\min p.b p.a=p.b/\min p.a p.a=p.a/\True) ?_;constructor
 ·rintro ⟨h1,h2,h3,_⟩
  exact ⟨oM,oM,oM⟩
 ·rintro ⟨h1,h2,h3⟩
  exact ⟨oM,oM,oM,oM,trivial⟩
theorem zfB(p:Pix):zf Try.prog 42 [.agg (kd p)] [] (pr (¬jw p)) []:=by
 refine zh tok mix Try.func42 rfl rfl rfl ?_;refine ze.t (zgy p) ?_;exact y9 Iff.rfl
def um(xs:List Pix):Int:=match xs.findIdx? (fun p=>decide (¬jw p)) with
 | some i=>i
 | none=> -1
theorem zfC{xs:List Pix}{i:Nat}{p:Pix}(h:∀(j:Nat) q,j < i->xs[j]? =some q->jw q)(hi:xs[i]? =some p)(hp:¬jw p):um xs=i:=by
 have:xs.findIdx? (fun p=>decide (¬jw p))=some i:=by
  rw [List.findIdx?_eq_some_iff_getElem];obtain ⟨hl,he⟩:=List.getElem?_eq_some_iff.1 hi;refine ⟨hl,by simp [he,hp],fun j hj=>?_⟩;have:=h j xs[j] hj (List.getElem?_eq_getElem _);simp [this]
 simp only [um,this]
theorem vG{xs:List Pix}(h:∀p∈xs,jw p):um xs= -1:=by
 have:xs.findIdx? (fun p=>decide (¬jw p))=none:=by
  rw [List.findIdx?_eq_none_iff];intro p hp;simp [h p hp]
 simp only [um,this]
theorem zbf{xs:List Pix}:0<=um xs↔¬∀p∈xs,jw p:=by
 constructor
 ·intro h hall;rw [vG hall] at h;omega
 ·intro h;unfold um
  split
  ·omega
  ·rename_i hn;rw [List.findIdx?_eq_none_iff] at hn;exact absurd (fun p hp=>by simpa using hn p hp) h
theorem zhp(xs:List Pix)(hl:xs.length<=9223372036854775807):zf Try.prog 66 [.sl kd xs,.fn 42 []] [] (i64 (um xs)) []:=by
 refine zh tok mix Try.func66 rfl rfl rfl ?_;intro hl0;refine ⟨Int,fun i=>⟨[(8,i64 i),(7,i64 xs.length),(0,.sl kd xs),(1,.fn 42 [])],[],0,19,0⟩,fun i=>0<=i/\i<=xs.length/\∀(j:Nat) q,(j:Int) < i->xs[j]? =some q->jw q,fun i=>((xs.length:Int) - i).toNat,0,?_,?_,?_⟩
 ·exact ⟨oM,oM,fun j q hj=>by omega⟩
 ·exact zo []
 rintro i ⟨h1,h2,h3⟩
 refine Br.mk (fun h4=>?_) (fun h4=>?_)
 ·refine Ob.o ?_;intro x hx;refine ze.t (zfB x) ?_;refine Br.mk (fun h5=>?_) (fun h5=>?_)
  ·refine zF ?_;rw [zfC (i:=i.toNat) (fun j q hj=>h3 j q oM) hx h5];omega
  ·refine Ar.o ?_;refine ⟨i+1,⟨oM,oM,fun j q hj hq=>?_⟩,zo [],by dsimp only;omega⟩
   by_cases e:j=i.toNat
   ·subst e;rw [hx] at hq;cases hq;exact Decidable.not_not.1 h5
   ·exact h3 j q oM hq
 ·refine zF (vG fun p hp=>?_).symm;obtain ⟨j,hj,he⟩:=List.getElem_of_mem hp;exact h3 j p oM (by rw [← he];exact List.getElem?_eq_getElem hj)
theorem zed(xs:List Pix)(hl:xs.length<=9223372036854775807):zf Try.prog 41 [.sl kd xs,.fn 42 []] [] (pr (¬∀p∈xs,jw p)) []:=by
 refine zh tok mix Try.func41 rfl rfl rfl ?_;refine ze.t (zhp xs hl) ?_;exact y9 zbf
theorem zhP(n:Int):zf Try.prog 40 [i64 n] [] (pr (1<=n/\n<=4096)) []:=by
 refine zh tok mix Try.func40 rfl rfl rfl ?_;refine Br.mk (fun h=>?_) (fun h=>?_)
 ·exact y9 oM
 ·exact zD oM
theorem zaU{a b A B:Int}(h1:0<=a)(h2:a<=A)(h3:0<=b)(h4:b<=B):0<=a*b/\a*b<=A*B:=
 ⟨Int.mul_nonneg h1 h3,Int.mul_le_mul h2 h4 h3 oM⟩
theorem zeP(m:Img)(hl:m.px.length<=9223372036854775807):zf Try.prog 18 [.agg (kj m)] [] (pr (qr m)) []:=by
 refine zh tok mix Try.func18 rfl rfl rfl ?_;refine ze.t (zhP m.w) ?_;refine Br.mk (fun h1=>?_) (fun h1=>?_)
 ·exact zD (fun h=>h1 h.1)
 have h1:=Decidable.not_not.1 h1;refine ze.t (zhP m.h) ?_;refine Br.mk (fun h2=>?_) (fun h2=>?_)
 ·exact zD (fun h=>h2 h.2.1)
 have h2:=Decidable.not_not.1 h2;have hm:=zaU (show 0<=m.w by omega) h1.2 (show 0<=m.h by omega) h2.2;refine Ar.o ?_;refine Br.mk (fun h3=>?_) (fun h3=>?_)
 ·exact zD (fun h=>by have:=h.2.2.1;omega)
 intro hl0;refine Ar.o ?_;refine Br.mk (fun h4=>?_) (fun h4=>?_)
 ·exact zD (fun h=>h4 h.2.2.2.1)
 refine ze.t (zed m.px hl) ?_;refine y9 ?_;exact ⟨fun h=>⟨h1,h2,oM,Decidable.not_not.1 h4,Decidable.not_not.1 h⟩,fun h h'=>h' h.2.2.2.2⟩
theorem vp:zf Try.prog 13 [] [] (bl true) []:=by
 refine zh tok mix Try.func13 rfl rfl rfl ?_;refine ze.t (zgw (-1) 3 3 dC dC) ?_;refine ze.t (zgw 4 3 3 dC dC) ?_;refine Br.y ?_;refine Br.y ?_;refine Br.y ?_;refine Br.y ?_;refine ⟨Pix,kd,[⟨0,0,0,5⟩],rfl,Ob.mk ⟨rfl,dC,dC,dC,fun x hx=>by cases hx with | head=>exact ⟨rfl,rfl,rfl⟩ | tail _ h=>cases h⟩ ?_⟩;refine ze.t (zeP ⟨1,1,[⟨0,0,0,5⟩]⟩ dC) ?_;exact zgc dC
theorem zig(w h:Int):zf Try.prog 25 [i64 w,i64 h] [] (pr ((1<=w/\w<=4096)/\(1<=h/\h<=4096)/\w*h<=65536)) []:=by
 refine zh tok mix Try.func25 rfl rfl rfl ?_;refine Br.mk (fun h1=>?_) (fun h1=>zD oM);refine Br.mk (fun h2=>?_) (fun h2=>zD oM);refine Br.mk (fun h3=>?_) (fun h3=>zD oM);refine Br.mk (fun h4=>?_) (fun h4=>zD oM);have hm:=zaU (show 0<=w by omega) h2 (show 0<=h by omega) h4;refine Ar.o ?_;exact y9 ⟨fun h=>⟨⟨h1,h2⟩,⟨h3,h4⟩,h⟩,fun h=>h.2.2⟩
theorem zbJ(p:Pix):zf Try.prog 34 [.agg (kd p)] [] (pr (jw p)) []:=by
 refine zh tok mix Try.func34 rfl rfl rfl ?_;refine Br.mk (fun h1=>?_) (fun h1=>zD (fun h=>h1 h.1));refine Br.mk (fun h2=>?_) (fun h2=>zD (fun h=>h2 h.2.1));exact y9 ⟨fun h=>⟨h1,h2,h⟩,fun h=>h.2.2⟩
theorem zgz(m:Img):zf Try.prog 19 [.agg (kj m)] [] (pr (qr m)) []:=by
 refine zh tok mix Try.func19 rfl rfl rfl ?_;refine ze.t (zig m.w m.h) ?_;refine Br.mk (fun h1=>zD (fun h=>h1 ⟨h.1,h.2.1,h.2.2.1⟩)) (fun h1=>?_);have h1:=Decidable.not_not.1 h1;have hm:=zaU (show 0<=m.w by omega) h1.1.2 (show 0<=m.h by omega) h1.2.1.2;intro hl0;refine Ar.o ?_;refine Br.mk (fun h4=>zD (fun h=>h4 h.2.2.2.1)) (fun h4=>?_);have h4:=Decidable.not_not.1 h4
 refine ⟨Int,fun i=>⟨[(3,i64 i),(1,.loc 0 0)],[(0,.box 28 (kj m))],1,35,0⟩,fun i=>0<=i/\i<=m.px.length/\∀(j:Nat) q,(j:Int) < i->m.px[j]? =some q->jw q,fun i=>((m.px.length:Int) - i).toNat,0,?_,?_,?_⟩
 ·exact ⟨oM,oM,fun j q hj=>by omega⟩
 ·exact zo [(0,some 0)]
 rintro i ⟨g1,g2,g3⟩
 intro hl1;refine Br.mk (fun g4=>?_) (fun g4=>?_)
 ·refine Ob.o ?_;intro x hx;refine ze.t (zbJ x) ?_;refine Br.mk (fun g5=>?_) (fun g5=>?_)
  ·exact zD fun h=>g5 (h.2.2.2.2 x (List.mem_of_getElem? hx))
  ·refine Ar.o ?_;refine ⟨i+1,⟨oM,oM,fun j q hj hq=>?_⟩,zo [(0,some 0)],by dsimp only;omega⟩
   by_cases e:j=i.toNat
   ·subst e;rw [hx] at hq;cases hq;exact Decidable.not_not.1 g5
   ·exact g3 j q oM hq
 ·refine yU ⟨h1.1,h1.2.1,h1.2.2,h4,fun p hp=>?_⟩;obtain ⟨j,hj,he⟩:=List.getElem_of_mem hp;exact g3 j p oM (by rw [← he];exact List.getElem?_eq_getElem hj)
theorem zgA{p q:Pix}:(p.r=q.r/\p.g=q.g/\p.b=q.b/\p.a=q.a/\True)↔p=q:=by
 cases p;cases q;simp
theorem zhq{xs ys:List Pix}{i:Int}(hl:(xs.length:Int)=ys.length)(hi:¬i < xs.length)(h:∀j:Nat,(j:Int) < i->xs[j]? =ys[j]?):xs=ys:=by
 refine List.ext_getElem? fun j=>?_
 by_cases hj:(j:Int) < i
 ·exact h j hj
 ·rw [List.getElem?_eq_none oM,List.getElem?_eq_none oM]
theorem zgB(m n:Img):zf Try.prog 17 [.agg (kj m),.agg (kj n)] [] (pr (m=n)) []:=by
 refine zh tok mix Try.func17 rfl rfl rfl ?_;refine Br.mk (fun h1=>zD fun e=>h1 (by rw [e])) (fun h1=>?_);refine Br.mk (fun h2=>zD fun e=>h2 (by rw [e])) (fun h2=>?_);intro hl1 hl2;refine Br.mk (fun h3=>zD fun e=>h3 (by rw [e])) (fun h3=>?_);refine ⟨Int,fun i=>⟨[(5,i64 i),(2,.loc 0 0),(3,.loc 1 0)],[(1,.box 28 (kj n)),(0,.box 28 (kj m))],2,45,0⟩,fun i=>0<=i/\i<=m.px.length/\∀j:Nat,(j:Int) < i->m.px[j]? =n.px[j]?,fun i=>((m.px.length:Int) - i).toNat,0,?_,?_,?_⟩
 ·exact ⟨oM,oM,fun j hj=>by omega⟩
 ·exact zo [(0,some 0),(1,some 1)]
 rintro i ⟨h4,h5,h6⟩
 intro hl3;refine Br.mk (fun h7=>?_) (fun h7=>?_)
 ·refine Dr.k ?_;refine Ob.o ?_;intro x hx;refine Ob.o ?_;intro y hy;refine Br.mk (fun h8=>?_) (fun h8=>?_)
  ·refine zD fun e=>h8 (zgA.2 ?_)
   subst e;rw [hx] at hy;exact Option.some.inj hy
  ·refine Ar.o ?_;refine ⟨i+1,⟨oM,oM,fun j hj=>?_⟩,zo [(0,some 0),(1,some 1)],by dsimp only;omega⟩
   by_cases e:j=i.toNat
   ·subst e;rw [hx,hy,zgA.1 (Decidable.not_not.1 h8)]
   ·exact h6 j oM
 ·refine yU ?_;have e1:=Decidable.not_not.1 h1;have e2:=Decidable.not_not.1 h2;have e3:=zhq (Decidable.not_not.1 h3) h7 h6
  cases m;cases n
  simp_all
theorem zi1{i n m:Int}(h:(yg i n m).2=true):0<=(yg i n m).1/\(yg i n m).1 < n:=by
 unfold yg at h ⊢
 by_cases h1:n < 1
 ·simp [h1] at h
 have hem:=Int.emod_nonneg i (show n≠0 by omega);have hem2:=Int.emod_lt_of_pos i (show 0 < n by omega);rw [if_neg h1] at h ⊢
 split
 ·rename_i h2;exact ⟨h2.1,h2.2⟩
 ·split
  ·simp only [vo];split <;> (try split) <;> omega
  ·split
   ·exact ⟨hem,hem2⟩
   ·split
    ·dsimp only;split <;> omega
    ·simp_all
def zbK:Pix:=⟨0,0,0,0⟩
def ziZ(m:Img)(x y md:Int):Pix:=if (yg x m.w md).2=true/\(yg y m.h md).2=true then m.px.getD ((yg y m.h md).1*m.w+(yg x m.w md).1).toNat zbK else zbK
theorem ziV{a b w h l:Int}(ha:0<=a/\a < w)(hb:0<=b/\b < h)(hl:l=w*h):0<=b*w/\b*w < l/\0<=b*w+a/\b*w+a < l:=by
 have h1:=Int.mul_nonneg hb.1 (show 0<=w by omega);have h2:(b+1)*w<=h*w:=Int.mul_le_mul_of_nonneg_right oM oM;rw [Int.add_mul,Int.one_mul,Int.mul_comm h w] at h2;omega
theorem zkd(m:Img)(x y md:Int)(hm:qr m)(hx:R64 x)(hy:R64 y):
  zf Try.prog 45 [.agg (kj m),i64 x,i64 y,i64 md] [] (.agg (kd (ziZ m x y md))) []:=by
 refine zh tok mix Try.func45 rfl rfl rfl ?_;obtain ⟨m1,m2,m3,m4,_⟩:=hm;have fin:∀{σ:SV} {q:Pix},ziZ m x y md=q->LE σ (.agg (kd q))->LE σ (.agg (kd (ziZ m x y md))):=fun e h=>e ▸ h
 refine ze.t (zgw x m.w md hx oM) ?_;refine ze.t (zgw y m.h md hy oM) ?_;refine Br.mk (fun h1=>fin (q:=zbK) (if_neg fun h=>h1 h.1) .refl) (fun h1=>?_);refine Br.mk (fun h2=>fin (q:=zbK) (if_neg fun h=>h2 h.2) .refl) (fun h2=>?_);have h1:=Decidable.not_not.1 h1;have h2:=Decidable.not_not.1 h2;have hp:=ziV (zi1 h1) (zi1 h2) m4;(iterate 2 refine Ar.o ?_);refine Ob.o ?_;intro q hq;refine fin (q:=q) ?_ .refl;unfold ziZ;rw [if_pos ⟨h1,h2⟩,List.getD_eq_getElem?_getD,hq];rfl
def zju(c:Img×Int):SV:=.tup [.agg [i64 c.1.w,i64 c.1.h,.own 0],i64 c.2]
theorem ziA(xs:List Pix):vQ (.arr 37 kd 4 xs):=fun _ _=>rfl
theorem ziz(xs:List Pix):ut (.arr 37 kd 4 xs):=fun _ _=>rfl
def zjM:List Int:=[0,8,2,10,12,4,14,6,3,11,1,9,15,7,13,5]
def thr(x y:Int):Int:=(zjM[(y % 4*4+x % 4).toNat]?).getD 0
def lev(v L b:Int):Int:=kM (255*((32*v*(L - 1)+255*(2*b+1)) / 8160)) (L - 1)
def ditP(p:Pix)(L b:Int):Pix:=⟨min (lev p.r L b) (lev p.a L b),min (lev p.g L b) (lev p.a L b),min (lev p.b L b) (lev p.a L b),lev p.a L b⟩
def ziT(m:Img)(L:Int):List Pix:=m.px.mapIdx fun i p=>ditP p L (thr (i % m.w) (i / m.w))
def ziG(m:Img)(L:Int):Img×Int:=if ¬qr m then (⟨0,0,[]⟩,16) else if L < 2∨256 < L then (⟨0,0,[]⟩,2) else (⟨m.w,m.h,ziT m L⟩,0)
theorem zj1(x y:Int):0<=thr x y/\thr x y<=15:=by
 unfold thr
 cases h:zjM[(y % 4*4+x % 4).toNat]? with
 | none=>exact ⟨dC,dC⟩
 | some b=>
  have:∀z∈zjM,0<=z/\z<=15:=dC;exact this b (List.mem_of_getElem? h)
theorem zaV{a b:Int}(ha:0<=a)(hb:0 < b):kM a b=(2*a+b) / (2*b):=by
 obtain ⟨a,rfl⟩:=Int.eq_ofNat_of_zero_le ha;obtain ⟨b,rfl⟩:=Int.eq_ofNat_of_zero_le (Int.le_of_lt hb);unfold kM;rw [if_pos oM];simp
theorem zj2{v L b:Int}(hv:R8 v)(hL:2<=L/\L<=256)(hb:0<=b/\b<=15):
  0<=32*v*(L - 1)/\32*v*(L - 1)<=8160*(L - 1)/\0<=(32*v*(L - 1)+255*(2*b+1)) / 8160/\(32*v*(L - 1)+255*(2*b+1)) / 8160<=L - 1/\R8 (lev v L b):=by
 have h1:0<=32*v*(L - 1):=Int.mul_nonneg oM oM;have h2:32*v*(L - 1)<=8160*(L - 1):=Int.mul_le_mul_of_nonneg_right oM oM;have h3:0<=(32*v*(L - 1)+255*(2*b+1)) / 8160:=oM;have h4:(32*v*(L - 1)+255*(2*b+1)) / 8160<=L - 1:=oM;refine ⟨h1,h2,h3,h4,?_⟩;unfold lev;generalize (32*v*(L - 1)+255*(2*b+1)) / 8160=k at*;rw [zaV oM oM];refine ⟨Int.ediv_nonneg oM oM,?_⟩;have:(2*(255*k)+(L - 1)) / (2*(L - 1)) < 256:=Int.ediv_lt_of_lt_mul oM oM;omega
def zjh(m:Img)(L:Int)(i:Nat):List Pix:=(ziT m L).take i
theorem zjN{m:Img}{L:Int}{i:Nat}{p:Pix}(h:m.px[i]? =some p):zjh m L (i+1)=zjh m L i++[ditP p L (thr (i % m.w) (i / m.w))]:=by
 unfold zjh;rw [List.take_add_one];congr 1;unfold ziT;rw [List.getElem?_mapIdx,h];rfl
theorem zj3(m:Img)(L:Int)(i:Nat):(zjh m L i).length<=i:=by unfold zjh;rw [List.length_take];omega
theorem zjp(m:Img)(L:Int):(ziT m L).length=m.px.length:=by unfold ziT;rw [List.length_mapIdx]
theorem zjv(x y:Int)(hx:0<=x)(hy:0<=y):zf Try.prog 47 [i64 x,i64 y] [] (i64 (thr x y)) []:=by
 have h1:x % 4=0∨x % 4=1∨x % 4=2∨x % 4=3:=oM;have h2:y % 4=0∨y % 4=1∨y % 4=2∨y % 4=3:=oM;refine zh tok mix Try.func47 rfl rfl rfl ?_;refine Dv.pos ⟨oM,oM⟩ ?_
 rcases h2 with h2 | h2 | h2 | h2 <;> rcases h1 with h1 | h1 | h1 | h1 <;>
  (rw [h2];refine Dv.pos ⟨oM,oM⟩ ?_;rw [h1];exact zF (by unfold thr;rw [h1,h2];rfl))
theorem zkz(v L b:Int)(hv:R8 v)(hL:2<=L/\L<=256)(hb:0<=b/\b<=15):zf Try.prog 49 [i64 v,i64 L,i64 b] [] (u8 (lev v L b)) []:=by
 obtain ⟨h1,h2,h3,h4,h5⟩:=zj2 hv hL hb;refine zh tok mix Try.func49 rfl rfl rfl ?_;(iterate 7 refine Ar.o ?_);refine Dv.pos ⟨oM,oM,by show _<=(9223372036854775807:Int);omega⟩ ?_;unfold lev at h5 ⊢;generalize (32*v*(L - 1)+255*(2*b+1)) / 8160=k at*;(iterate 2 refine Ar.o ?_);refine ze.t (zec _ _ oM oM) ?_;rw [show yh (kM (255*k) (L - 1))=kM (255*k) (L - 1) by rw [yh,if_pos oM]];refine Ar.fit h5 ?_;exact .refl
abbrev P8(p:Pix):Prop:=R8 p.r/\R8 p.g/\R8 p.b/\R8 p.a
theorem zeQ(p:Pix)(h:P8 p):zf Try.prog 50 [.agg (kd p),i64 0] [] (i64 p.r) []:=by
 refine zh tok mix Try.func50 rfl rfl rfl ?_;refine Ar.o ?_;exact .refl
theorem zeR(p:Pix)(h:P8 p):zf Try.prog 50 [.agg (kd p),i64 1] [] (i64 p.g) []:=by
 refine zh tok mix Try.func50 rfl rfl rfl ?_;refine Ar.o ?_;exact .refl
theorem zeS(p:Pix)(h:P8 p):zf Try.prog 50 [.agg (kd p),i64 2] [] (i64 p.b) []:=by
 refine zh tok mix Try.func50 rfl rfl rfl ?_;refine Ar.o ?_;exact .refl
theorem zeT(p:Pix)(h:P8 p):zf Try.prog 50 [.agg (kd p),i64 3] [] (i64 p.a) []:=by
 refine zh tok mix Try.func50 rfl rfl rfl ?_;refine Ar.o ?_;exact .refl
theorem zjr(p:Pix)(c L b v:Int)(hp:zf Try.prog 50 [.agg (kd p),i64 c] [] (i64 v) [])(hv:R8 v)(hL:2<=L/\L<=256)(hb:0<=b/\b<=15):
  zf Try.prog 48 [i64 c,.ptr (kd p),.ptr [i64 L],.ptr [i64 b]] [] (u8 (lev v L b)) []:=by
 refine zh tok mix Try.func48 rfl rfl rfl ?_;refine Dr.k ?_;refine ze.t hp ?_;refine ze.t (zkz v L b hv hL hb) ?_;exact .refl
theorem zke(m:Img)(L:Int)(hl:m.px.length<=9223372036854775807)(hp:∀q∈m.px,P8 q):
  zf Try.prog 23 [.agg (kj m),i64 L] [] (zju (ziG m L)) [(0,.arr 37 kd 4 (ziG m L).1.px)]:=by
 generalize hc:ziG m L=c;refine kJ tok mix Try.func23 rfl rfl rfl ?_
 have bad:∀e:Int,c=(⟨0,0,[]⟩,e)->jY none (.tup [.agg [i64 0,i64 0,.val (.slice none 0 0)],i64 e]) (zju c)/\c.1.px=[]:=fun e he=>by
  subst he;exact ⟨zaN (.cons (ziU (.cons (zge rfl) (.cons (zge rfl) (.cons (.nil rfl) .nil)))) (.cons (zge rfl) .nil)),rfl⟩
 refine ze.t (zeP m hl) ?_;refine Br.mk (fun h1=>⟨none,bad 16 (by rw [← hc,ziG,if_pos h1])⟩) (fun h1=>?_);have h1':=Decidable.not_not.1 h1;obtain ⟨m1,m2,m3,m4,_⟩:=h1';refine Br.mk (fun g1=>⟨none,bad 2 (by rw [← hc,ziG,if_neg h1,if_pos (.inl g1)])⟩) (fun g1=>?_);refine Br.mk (fun g2=>⟨none,bad 2 (by rw [← hc,ziG,if_neg h1,if_pos (.inr g2)])⟩) (fun g2=>?_);have hc':c=(⟨m.w,m.h,ziT m L⟩,0):=by rw [← hc,ziG,if_neg h1,if_neg oM]
 clear bad hc;subst hc';intro hl2
 refine ⟨Nat,fun i=>⟨[(30,i64 i),(29,i64 m.px.length),(28,.sl kd m.px),(2,.loc 0 0),(3,.loc 1 0),(4,.loc 2 0),(6,.loc 3 0)],
  [(4,.arr 37 kd 4 (zjh m L i)),(3,.box 28 [i64 m.w,i64 m.h,.own 4]),(2,.box 28 [i64 0,i64 0,.val (.slice none 0 0)]),(1,.box 3 [i64 L]),(0,.box 28 (kj m))],5,62,0⟩,
  fun i=>i<=m.px.length,fun i=>m.px.length - i,0,?_,?_,?_⟩
 ·exact Nat.zero_le _
 ·exact zo [(0,some 0),(1,some 1),(2,some 2),(3,some 3),(4,none)]
 rintro i hi
 have hi:i<=m.px.length:=hi;refine Br.mk (fun g9=>?_) (fun g9=>?_)
 ·refine Ob.o ?_;intro p hpx;have hpx:m.px[i]? =some p:=hpx;have h8:=hp p (List.mem_of_getElem? hpx);refine Dr.k ?_;refine Dv.pos ⟨oM,oM⟩ ?_;refine Dv.pos ⟨oM,oM,by show _<=(9223372036854775807:Int);omega⟩ ?_;have hb:=zj1 ((i:Int) % m.w) ((i:Int) / m.w);refine ze.t (zjv _ _ (Int.emod_nonneg _ oM) (Int.ediv_nonneg oM oM)) ?_;refine Dr.k ?_;refine ze.t (zjr p 0 L _ p.r (zeQ p h8) h8.1 oM hb) ?_;refine ze.t (zjr p 1 L _ p.g (zeR p h8) h8.2.1 oM hb) ?_;refine ze.t (zjr p 2 L _ p.b (zeS p h8) h8.2.2.1 oM hb) ?_
  refine ze.t (zjr p 3 L _ p.a (zeT p h8) h8.2.2.2 oM hb) ?_;refine ze.t (zgx ⟨lev p.r L _,lev p.g L _,lev p.b L _,lev p.a L _⟩) ?_;refine ⟨Pix,kd,[ditP p L (thr ((i:Int) % m.w) ((i:Int) / m.w))],congrArg (fun n=>[u8 _,u8 _,u8 _,u8 n]) (Int.min_self _).symm,Ob.mk ⟨rfl,dC,dC,dC,fun x hx=>by cases hx with | head=>exact ⟨rfl,rfl,rfl⟩ | tail _ h=>cases h⟩ ?_⟩;have hlen:=zj3 m L i;have hmw:m.w*m.h<=65536:=m3;refine ⟨_,rfl,Ob.mk ⟨(by show _*(4:Int)<=_;simp;omega),(by simp;omega),dC,fun _ _=>rfl⟩ ?_⟩;refine Ar.o ?_
  refine ⟨i+1,(by show i+1<=m.px.length;omega),vm [(0,some 0),(1,some 1),(2,some 2),(3,some 3),(4,some 8)] rfl rfl rfl
   ⟨rfl,rfl,rfl,rfl,rfl,rfl,rfl,trivial⟩ ⟨congrArg (fun l=>some (Mem.arr 37 kd 4 l)) (zjN hpx).symm,rfl,rfl,rfl,rfl,trivial⟩,(by dsimp only;omega)⟩
 ·have e:i=m.px.length:=by omega
  exact ⟨some 4,zaN (.cons (ziU (.cons (zge rfl) (.cons (zge rfl) (.cons (.own _ rfl) .nil)))) (.cons (zge rfl) .nil)),by
   have:zjh m L i=ziT m L:=by rw [e,← zjp m L];exact List.take_length
   rw [← this];rfl,fun _ _=>rfl⟩
end Go.Gs
