/- Rounded division of machine integers: two texts, one answer. -/
import Derived.Test.YtjfbljononkmcaaMA
import Derived.Test.YtjfbljononkmcaaMAT
import Derived.Lib.Mul64
import Derived.Test.YtjfbljononkmcaaMAR
set_option maxRecDepth 100000
set_option maxHeartbeats 8000000
set_option linter.all false
namespace Go.Gs
open Go.Proofs
theorem zfz(a b c:Int)(ha:R64 a)(hb:R64 b)(hc:R64 c):zf Try.prog 79 [i64 a,i64 b,i64 c] []
  (.tup [i64 (yh (kM (a*b) c)),pr (c≠0/\ -9223372036854775808<=kM (a*b) c/\kM (a*b) c<=9223372036854775807)]) []:=by
 refine zh tok mix Try.func79 rfl rfl rfl ?_;refine Br.mk (fun h=>?_) (fun h=>?_)
 ·refine ko (zF ?_) (zD fun h'=>h'.1 h);subst h;simp [kM,yh]
 have l1:=zaQ ha;have l2:=zaQ hb;have l3:=zaQ hc;have l4:=zgo a b;unfold zdo at l1 l2 l3 l4;refine ze.t (ul a ha) ?_;refine ze.t (ul b hb) ?_;refine ze.t (zic (ofZ a) (ofZ b) (by rw [qg];omega) (by rw [qg];omega)) ?_;rw [zbI,zbI];refine ze.t (ul c hc) ?_;refine ze.t (zdp (ofZ (a*b)) (ofZ c) (by rw [qg];omega) (by rw [qg];omega) (by rw [zbI];exact h)) ?_;rw [zbI,zbI]
 have l5:(zr (kM (a*b) c).natAbs).length<=6:=by
  refine qb (Nat.lt_of_le_of_lt (m:=2*(a*b).natAbs+c.natAbs) ?_ ?_)
  ·rw [zgp];exact Nat.div_le_self _ _
  ·have p1:=zcr (z:=a*b) (k:=4) (by unfold zdo;omega);have e4:4294967296 ^ 4=340282366920938463463374607431768211456:=dC;have e6:4294967296 ^ 6=6277101735386680763835789423207666416102355444464034512896:=dC;rw [e4] at p1;rw [e6];omega
 refine ze.t (zgr (ofZ (kM (a*b) c)) (by rw [qg];omega)) ?_;rw [zbI];exact ko .refl (y9 ⟨fun g=>⟨h,g⟩,fun g=>g.2⟩)
theorem zdq(a b:Int)(ha:R64 a)(hb:R64 b):zf Try.prog 70 [i64 a,i64 b] [] (i64 (yh (kM a b))) []:=by
 refine zh tok mix Try.func70 rfl rfl rfl ?_;refine ze.t (zfz a 1 b ha dC hb) ?_;rw [Int.mul_one];exact .refl
theorem zaT(n:Int)(hn:R64 n):zf Try.prog 83 [i64 n] [] (u64 (n.natAbs:Nat)) []:=by
 refine zh tok mix Try.func83 rfl rfl rfl ?_;refine Br.mk (fun h=>?_) (fun h=>?_)
 ·refine Ar.wrap ?_;refine Ar.wrap ?_;exact zF (by rw [ju,ju];omega)
 ·refine Ar.o ?_;exact zF oM
theorem zgs(x:Nat):yc .and .u64 x 4294967295=((x % 4294967296:Nat):Int):=by
 have e:(BitVec.ofInt 64 x&&&BitVec.ofInt 64 4294967295).toNat=x % 4294967296:=by
  rw [BitVec.toNat_and];have h1:(BitVec.ofInt 64 4294967295).toNat=2 ^ 32 - 1:=dC;rw [h1,Nat.and_two_pow_sub_one_eq_mod,BitVec.toNat_ofInt];rw [show (2:Nat) ^ 32=4294967296 by decide];omega
 show IntKind.u64.wrap ((BitVec.ofInt 64 x&&&BitVec.ofInt 64 4294967295).toNat:Nat)=_;rw [e,ju];omega
theorem zhm(x y:Nat)(hx:x < 18446744073709551616)(hy:y < 18446744073709551616):
  zf Try.prog 82 [u64 x,u64 y] [] (.tup [u64 (x*y / 18446744073709551616:Nat),u64 (x*y % 18446744073709551616:Nat)]) []:=by
 refine zh tok mix Try.func82 rfl rfl rfl ?_;obtain ⟨k1,k2,k3,k4⟩:=Go.Lib.mul64_hi x y hx hy;have k0:(x / 4294967296)*(y % 4294967296)<=(x / 4294967296)*(y % 4294967296)+(x % 4294967296)*(y % 4294967296) / 4294967296:=Nat.le_add_right _ _
 have k5:x*y / 18446744073709551616 < 18446744073709551616:=by
  rw [Nat.div_lt_iff_lt_mul dC];exact Nat.mul_lt_mul_of_lt_of_lt hx hy
 refine ⟨_,(zgs x).symm,?_⟩;refine Ob.o0 ?_;refine ⟨_,(zgs y).symm,?_⟩;refine Ob.o0 ?_;have ex:(x:Int) / 2 ^ 32=((x / 4294967296:Nat):Int):=by simp
 have ey:(y:Int) / 2 ^ 32=((y / 4294967296:Nat):Int):=by simp
 have hc:=Go.Lib.half_mul_le (a:=x % 4294967296) (b:=y / 4294967296) oM oM;have ha:=Go.Lib.half_mul_le (a:=x / 4294967296) (b:=y / 4294967296) oM oM;rw [ex,ey];generalize hx1:x / 4294967296=x1 at*;generalize hx0:x % 4294967296=x0 at*;generalize hy1:y / 4294967296=y1 at*;generalize hy0:y % 4294967296=y0 at*;(iterate 2 refine Ar.o ?_);refine Ob.o0 ?_;have e1:((x0:Int)*(y0:Int)) / 2 ^ 32=((x0*y0 / 4294967296:Nat):Int):=by simp
 rw [e1];generalize x0*y0 / 4294967296=w0 at*;refine Ar.o ?_;have e2:(x1:Int)*(y0:Int)+(w0:Int)=((x1*y0+w0:Nat):Int):=by simp
 rw [e2];generalize x1*y0+w0=t at*;refine ⟨_,(zgs t).symm,?_⟩;refine Ob.o0 ?_;have e3:(t:Int) / 2 ^ 32=((t / 4294967296:Nat):Int):=by simp
 rw [e3];(iterate 4 refine Ar.o ?_);refine Ob.o0 ?_;have e4:(((t % 4294967296:Nat):Int)+(x0:Int)*(y1:Int)) / 2 ^ 32=(((t % 4294967296+x0*y1) / 4294967296:Nat):Int):=by simp
 rw [e4];refine Ar.o ?_;refine Ar.wrap ?_;refine ko (zF ?_) (zF ?_)
 ·rw [← k4];simp
 ·rw [ju];simp
theorem zhn(lo y:Nat)(hlo:lo < 18446744073709551616)(hy:y < 18446744073709551616)(h0:y≠0):
  zf Try.prog 92 [u64 (0:Nat),u64 lo,u64 y] [] (.tup [u64 (lo / y:Nat),u64 (lo % y:Nat)]) []:=by
 refine zh tok mix Try.func92 rfl rfl rfl ?_;refine Br.mk (fun h=>absurd h oM) (fun _=>?_);refine Br.mk (fun h=>absurd h oM) (fun _=>?_);refine Br.mk (fun _=>?_) (fun h=>absurd rfl h);refine Dr.k ?_;refine Dv.pos ⟨oM,oM,by show _<=(18446744073709551615:Int);omega⟩ ?_;refine Dv.pos ⟨oM,oM⟩ ?_;exact ko (zF (by simp)) (zF (by simp))
def rup(lo by_:Nat):Nat:=(2*lo+by_) / (2*by_)
theorem zgt{lo y:Nat}(h0:y≠0):rup lo y=if y<=2*(lo % y) then lo / y+1 else lo / y:=by
 unfold rup;have e:=Nat.div_add_mod lo y;have hl:=Nat.mod_lt lo (Nat.pos_of_ne_zero h0);generalize lo / y=q at*;generalize lo % y=r at*;subst e;have p:2*(y*q+r)+y=2*y*q+(2*r+y):=by rw [Nat.mul_add,Nat.mul_assoc];omega
 rw [p,Nat.mul_add_div oM]
 split
 ·have:(2*r+y) / (2*y)=1:=by
   rw [Nat.div_eq_iff oM];omega
  omega
 ·have:(2*r+y) / (2*y)=0:=Nat.div_eq_of_lt oM;omega
theorem zie(lo y:Nat)(hlo:lo<=9223372036854775808)(hy:y < 18446744073709551616)(h0:y≠0):
  zf Try.prog 85 [.agg [u64 (0:Nat),u64 lo,u64 y]] [] (.tup [u64 (rup lo y:Nat),bl true]) []:=by
 refine zh tok mix Try.func85 rfl rfl rfl ?_;refine Br.mk (fun h=>absurd h oM) (fun _=>?_);refine ze.t (zhn lo y oM hy h0) ?_;have hq:=Nat.div_le_self lo y;have hr:=Nat.mod_lt lo (Nat.pos_of_ne_zero h0);have he:=zgt (lo:=lo) h0;generalize rup lo y=u at*;generalize lo / y=q at*;generalize lo % y=r at*;refine Ar.o ?_;refine Br.mk (fun h=>?_) (fun h=>?_)
 ·rw [if_pos oM] at he;refine Ar.o ?_;exact ko (zF oM) (zgc oM)
 ·rw [if_neg oM] at he;exact ko (zF oM) .refl
theorem zgu(p:Prop)[i:Decidable p](lo y:Nat)(hlo:lo<=9223372036854775808)(hy:y < 18446744073709551616)(h0:y≠0):
  zf Try.prog 84 [.pr p i,.val (.func (.func 85) #[.agg #[.int .u64 (0:Nat),.int .u64 (lo:Nat),.int .u64 (y:Nat)]] #[])] []
   (.tup [i64 (yh (if p then -(rup lo y:Int) else rup lo y)),pr (-9223372036854775808<=(if p then -(rup lo y:Int) else rup lo y)/\(if p then -(rup lo y:Int) else rup lo y)<=9223372036854775807)]) []:=by
 refine zh tok mix Try.func84 rfl rfl rfl ?_;refine ze.t (zie lo y hlo hy h0) ?_
 have hu:rup lo y < 18446744073709551616:=by
  rw [zgt h0];have:=Nat.div_le_self lo y
  split <;> omega
 generalize rup lo y=u at*
 have bad:∀z:Int,¬(-9223372036854775808<=z/\z<=9223372036854775807)->LE (.tup [i64 0,bl false]) (.tup [i64 (yh z),pr (-9223372036854775808<=z/\z<=9223372036854775807)]):=fun z h=>
  ko (zF (by rw [yh,if_neg h])) (zD h)
 have good:∀n z:Int,n=z-> -9223372036854775808<=z/\z<=9223372036854775807->LE (.tup [i64 n,bl true]) (.tup [i64 (yh z),pr (-9223372036854775808<=z/\z<=9223372036854775807)]):=fun n z hn h=>
  ko (zF (by rw [yh,if_pos h,hn])) (yU h)
 refine Br.mk (fun h=>bad _ (by split <;> omega)) (fun h=>?_)
 have tail:(u:Int)<=9223372036854775808->((u:Int)=9223372036854775808->p)->IntKind.i64.wrap (IntKind.u64.wrap (-(u:Int)))= -(u:Int)/\(¬p->(u:Int)<=9223372036854775807):=fun g1 g2=>by
  refine ⟨?_,fun hp=>?_⟩
  ·rw [ju];simp only [IntKind.wrap,IntKind.bits,IntKind.signed];simp;omega
  ·by_cases e:(u:Int)=9223372036854775808
   ·exact absurd (g2 e) hp
   ·omega
 refine Br.mk (fun h1=>?_) (fun h1=>?_)
 ·refine Br.mk (fun h2=>bad _ (by rw [if_neg h2];omega)) (fun h2=>?_);have hp:=Decidable.not_not.1 h2;obtain ⟨t1,t2⟩:=tail oM (fun _=>hp);refine Br.mk (fun _=>?_) (fun h3=>absurd hp h3);refine Ar.wrap ?_;refine Ar.wrap ?_;exact good _ _ (by rw [if_pos hp];exact t1) (by rw [if_pos hp];omega)
 ·obtain ⟨t1,t2⟩:=tail oM (fun h=>absurd h h1);refine Br.mk (fun h3=>?_) (fun h3=>?_)
  ·refine Ar.wrap ?_;refine Ar.wrap ?_;exact good _ _ (by rw [if_pos h3];exact t1) (by rw [if_pos h3];omega)
  ·have:=t2 h3;refine Ar.o ?_;exact good _ _ (by rw [if_neg h3]) (by rw [if_neg h3];omega)
theorem zgv(a c:Int):(if ¬(¬(a < 0↔(1:Int) < 0)↔c < 0) then -(rup a.natAbs c.natAbs:Int) else (rup a.natAbs c.natAbs:Int))=kM a c:=by
 unfold kM;show _=if a < 0↔c < 0 then ((rup a.natAbs c.natAbs:Nat):Int) else -((rup a.natAbs c.natAbs:Nat):Int)
 generalize (rup a.natAbs c.natAbs:Int)=u
 by_cases h1:a < 0 <;> by_cases h2:c < 0 <;> simp [h1,h2]
theorem zfA(a c:Int)(ha:R64 a)(hc:R64 c):zf Try.prog 78 [i64 a,i64 1,i64 c] []
  (.tup [i64 (yh (kM a c)),pr (c≠0/\ -9223372036854775808<=kM a c/\kM a c<=9223372036854775807)]) []:=by
 refine zh tok mix Try.func78 rfl rfl rfl ?_;refine Br.mk (fun h=>?_) (fun h=>?_)
 ·refine ko (zF ?_) (zD fun h'=>h'.1 h);subst h;simp [kM,yh]
 refine ze.t (zaT a ha) ?_;refine ze.t (zaT 1 dC) ?_;refine ze.t (zhm a.natAbs (1:Int).natAbs oM oM) ?_;rw [show (1:Int).natAbs=1 by rfl,Nat.mul_one,Nat.div_eq_of_lt (show a.natAbs < 18446744073709551616 by omega),Nat.mod_eq_of_lt (show a.natAbs < 18446744073709551616 by omega)];refine ze.t (zaT c hc) ?_;refine ze.t (zgu (¬(¬(a < 0↔(1:Int) < 0)↔c < 0)) a.natAbs c.natAbs oM oM oM) ?_;rw [zgv a c];exact ko .refl (y9 ⟨fun g=>⟨h,g⟩,fun g=>g.2⟩)
theorem zec(a b:Int)(ha:R64 a)(hb:R64 b):zf Try.prog 67 [i64 a,i64 b] [] (i64 (yh (kM a b))) []:=by
 refine zh tok mix Try.func67 rfl rfl rfl ?_;refine ze.t (zfA a b ha hb) ?_;exact .refl
def vo(n lo hi:Int):Int:=if n < lo then lo else if hi < n then hi else n
theorem zho(n lo hi:Int):zf Try.prog 36 [i64 n,i64 lo,i64 hi] [] (i64 (vo n lo hi)) []:=by
 refine zh tok mix Try.func36 rfl rfl rfl ?_;refine Br.mk (fun h=>?_) (fun h=>?_)
 ·exact zF (by simp [vo,h])
 refine Br.mk (fun h2=>?_) (fun h2=>?_)
 ·exact zF (by simp [vo,h,h2])
 ·exact zF (by simp [vo,h,h2])
def yg(i n m:Int):Int×Bool:=
 if n < 1 then (0,false) else if 0<=i/\i < n then (i,true) else if m=1 then (vo i 0 (n - 1),true) else if m=2 then (i % n,true)
 else if m=3 then ((if i / n % 2=1 then n - 1 - i % n else i % n),true) else (0,false)
theorem zhO(i n:Int)(hn:R64 n)(h1:1<=n):zf Try.prog 37 [i64 i,i64 n] [] (i64 (i % n)) []:=by
 refine zh tok mix Try.func37 rfl rfl rfl ?_;have ht:=tdm (m:=i) (n:=n) oM;refine Br.mk (fun h=>?_) (fun h=>?_)
 ·omega
 refine Dv.any oM ?_;refine Br.mk (fun h2=>?_) (fun h2=>?_)
 ·refine Ar.o ?_;exact zF oM
 ·exact zF oM
theorem zgw(i n m:Int)(hi:R64 i)(hn:R64 n):zf Try.prog 11 [i64 i,i64 n,i64 m] [] (.tup [i64 (yg i n m).1,pr ((yg i n m).2=true)]) []:=by
 refine zh tok mix Try.func11 rfl rfl rfl ?_;have fin:∀{σ:SV} {q:Int×Bool},yg i n m=q->LE σ (.tup [i64 q.1,bl q.2])->LE σ (.tup [i64 (yg i n m).1,pr ((yg i n m).2=true)]):=fun e h=>h.trans (by rw [e];exact ko .refl zhg)
 refine Br.mk (fun h=>?_) (fun h=>?_)
 ·exact fin (q:=(0,false)) (by simp [yg,h]) .refl
 refine Br.mk (fun h2=>Br.mk (fun h3=>?_) (fun h3=>?_)) (fun h2=>?_)
 ·exact fin (q:=(i,true)) (by simp [yg,h,h2,h3]) .refl
 all_goals
  have hne:¬(0<=i/\i < n):=oM;have ht:=tdm (m:=i) (n:=n) oM;have hr:=zd7 (m:=i) (n:=n) oM hi;refine Br.mk (fun h4=>?_) (fun h4=>?_)
  ·refine Ar.o ?_;refine ze.t (zho i 0 (n - 1)) ?_;exact fin (q:=(vo i 0 (n - 1),true)) (by simp [yg,h,hne,h4]) .refl
  refine Br.mk (fun h5=>?_) (fun h5=>?_)
  ·refine ze.t (zhO i n hn oM) ?_;exact fin (q:=(i % n,true)) (by simp [yg,h,hne,h5]) .refl
  refine Br.mk (fun h6=>?_) (fun h6=>?_)
  ·refine Dr.k ?_;refine ze.t (zhO i n hn oM) ?_;refine Dv.any oM ?_;refine Ar.o ?_;refine Dv.any oM ?_;have w3:yg i n m=((if i / n % 2=1 then n - 1 - i % n else i % n),true):=by simp [yg,h,hne,h6]
   refine Br.mk (fun h7=>?_) (fun h7=>?_)
   ·refine Ar.o ?_;refine ⟨_,rfl,?_⟩;refine Br.mk (fun h8=>?_) (fun h8=>?_)
    ·rw [vW] at h8;(iterate 2 refine Ar.o ?_);exact fin w3 (ko (zF (by rw [if_pos oM])) .refl)
    ·rw [vW] at h8;exact fin w3 (ko (zF (by rw [if_neg oM])) .refl)
   ·refine ⟨_,rfl,?_⟩;refine Br.mk (fun h8=>?_) (fun h8=>?_)
    ·rw [vW] at h8;(iterate 2 refine Ar.o ?_);exact fin w3 (ko (zF (by rw [if_pos oM])) .refl)
    ·rw [vW] at h8;exact fin w3 (ko (zF (by rw [if_neg oM])) .refl)
  ·exact fin (q:=(0,false)) (by simp [yg,h,hne,h4,h5,h6]) .refl
structure Pix where
 r:Int
 g:Int
 b:Int
 a:Int
 deriving DecidableEq
def kd(p:Pix):List SV:=[u8 p.r,u8 p.g,u8 p.b,u8 p.a]
structure Img where
 w:Int
 h:Int
 px:List Pix
 deriving DecidableEq
def kj(m:Img):List SV:=[i64 m.w,i64 m.h,.sl kd m.px]
def jw(p:Pix):Prop:=p.r<=p.a/\p.g<=p.a/\p.b<=p.a
instance (p:Pix):Decidable (jw p):=inferInstanceAs (Decidable (_/\_))
def qr(m:Img):Prop:=(1<=m.w/\m.w<=4096)/\(1<=m.h/\m.h<=4096)/\m.w*m.h<=65536/\(m.px.length:Int)=m.w*m.h/\∀p∈m.px,jw p
instance (m:Img):Decidable (qr m):=inferInstanceAs (Decidable (_/\_))
theorem uR(x r g b a:Int):zf Try.prog 69 [u8 x,.ptr [u8 r,u8 g,u8 b,u8 a]] [] (u8 (min x a)) []:=by
 refine zh tok mix Try.func69 rfl rfl rfl ?_;exact zF rfl
theorem zif(p:Pix)(r g b a:Int):zf Try.prog 68 [.agg (kd p),.fn 69 [.ptr [u8 r,u8 g,u8 b,u8 a]]] [] (.agg [u8 (min p.r a),u8 (min p.g a),u8 (min p.b a),u8 (min p.a a)]) []:=by
 refine zh tok mix Try.func68 rfl rfl rfl ?_;refine Dr.k ?_;refine ze.t (uR _ r g b a) ?_;refine ze.t (uR _ r g b a) ?_;refine ze.t (uR _ r g b a) ?_;refine ze.t (uR _ r g b a) ?_;exact .refl
theorem zgx(p:Pix):zf Try.prog 51 [.agg (kd p)] [] (.agg [u8 (min p.r p.a),u8 (min p.g p.a),u8 (min p.b p.a),u8 (min p.a p.a)]) []:=by
 refine zh tok mix Try.func51 rfl rfl rfl ?_;refine ze.t (zif p p.r p.g p.b p.a) ?_;exact .refl
theorem zgy(p:Pix):zf Try.prog 43 [.agg (kd p)] [] (pr (jw p)) []:=by
 refine zh tok mix Try.func43 rfl rfl rfl ?_;refine Dr.k ?_;refine ze.t (zgx p) ?_;refine y9 (p:=min p.r p.a=p.r/\min p.g p.a=p.g/\min p.b p.a=p.b/\min p.a p.a=p.a/\True) ?_;constructor
 ·rintro ⟨h1,h2,h3,_⟩
  exact ⟨oM,oM,oM⟩
 ·rintro ⟨h1,h2,h3⟩
  exact ⟨oM,oM,oM,oM,trivial⟩
theorem zfB(p:Pix):zf Try.prog 42 [.agg (kd p)] [] (pr (¬jw p)) []:=by
 refine zh tok mix Try.func42 rfl rfl rfl ?_;refine ze.t (zgy p) ?_;exact y9 Iff.rfl
def um(xs:List Pix):Int:=match xs.findIdx? (fun p=>decide (¬jw p)) with
 | some i=>i
 | none=> -1
theorem zfC{xs:List Pix}{i:Nat}{p:Pix}(h:∀(j:Nat) q,j < i->xs[j]? =some q->jw q)(hi:xs[i]? =some p)(hp:¬jw p):um xs=i:=by
 have:xs.findIdx? (fun p=>decide (¬jw p))=some i:=by
  rw [List.findIdx?_eq_some_iff_getElem];obtain ⟨hl,he⟩:=List.getElem?_eq_some_iff.1 hi;refine ⟨hl,by simp [he,hp],fun j hj=>?_⟩;have:=h j xs[j] hj (List.getElem?_eq_getElem _);simp [this]
 simp only [um,this]
theorem vG{xs:List Pix}(h:∀p∈xs,jw p):um xs= -1:=by
 have:xs.findIdx? (fun p=>decide (¬jw p))=none:=by
  rw [List.findIdx?_eq_none_iff];intro p hp;simp [h p hp]
 simp only [um,this]
theorem zbf{xs:List Pix}:0<=um xs↔¬∀p∈xs,jw p:=by
 constructor
 ·intro h hall;rw [vG hall] at h;omega
 ·intro h;unfold um
  split
  ·omega
  ·rename_i hn;rw [List.findIdx?_eq_none_iff] at hn;exact absurd (fun p hp=>by simpa using hn p hp) h
theorem zhp(xs:List Pix)(hl:xs.length<=9223372036854775807):zf Try.prog 66 [.sl kd xs,.fn 42 []] [] (i64 (um xs)) []:=by
 refine zh tok mix Try.func66 rfl rfl rfl ?_;intro hl0;refine ⟨Int,fun i=>⟨[(8,i64 i),(7,i64 xs.length),(0,.sl kd xs),(1,.fn 42 [])],[],0,19,0⟩,fun i=>0<=i/\i<=xs.length/\∀(j:Nat) q,(j:Int) < i->xs[j]? =some q->jw q,fun i=>((xs.length:Int) - i).toNat,0,?_,?_,?_⟩
 ·exact ⟨oM,oM,fun j q hj=>by omega⟩
 ·exact zo []
 rintro i ⟨h1,h2,h3⟩
 refine Br.mk (fun h4=>?_) (fun h4=>?_)
 ·refine Ob.o ?_;intro x hx;refine ze.t (zfB x) ?_;refine Br.mk (fun h5=>?_) (fun h5=>?_)
  ·refine zF ?_;rw [zfC (i:=i.toNat) (fun j q hj=>h3 j q oM) hx h5];omega
  ·refine Ar.o ?_;refine ⟨i+1,⟨oM,oM,fun j q hj hq=>?_⟩,zo [],by dsimp only;omega⟩
   by_cases e:j=i.toNat
   ·subst e;rw [hx] at hq;cases hq;exact Decidable.not_not.1 h5
   ·exact h3 j q oM hq
 ·refine zF (vG fun p hp=>?_).symm;obtain ⟨j,hj,he⟩:=List.getElem_of_mem hp;exact h3 j p oM (by rw [← he];exact List.getElem?_eq_getElem hj)
theorem zed(xs:List Pix)(hl:xs.length<=9223372036854775807):zf Try.prog 41 [.sl kd xs,.fn 42 []] [] (pr (¬∀p∈xs,jw p)) []:=by
 refine zh tok mix Try.func41 rfl rfl rfl ?_;refine ze.t (zhp xs hl) ?_;exact y9 zbf
theorem zhP(n:Int):zf Try.prog 40 [i64 n] [] (pr (1<=n/\n<=4096)) []:=by
 refine zh tok mix Try.func40 rfl rfl rfl ?_;refine Br.mk (fun h=>?_) (fun h=>?_)
 ·exact y9 oM
 ·exact zD oM
theorem zaU{a b A B:Int}(h1:0<=a)(h2:a<=A)(h3:0<=b)(h4:b<=B):0<=a*b/\a*b<=A*B:=
 ⟨Int.mul_nonneg h1 h3,Int.mul_le_mul h2 h4 h3 oM⟩
theorem zeP(m:Img)(hl:m.px.length<=9223372036854775807):zf Try.prog 18 [.agg (kj m)] [] (pr (qr m)) []:=by
 refine zh tok mix Try.func18 rfl rfl rfl ?_;refine ze.t (zhP m.w) ?_;refine Br.mk (fun h1=>?_) (fun h1=>?_)
 ·exact zD (fun h=>h1 h.1)
 have h1:=Decidable.not_not.1 h1;refine ze.t (zhP m.h) ?_;refine Br.mk (fun h2=>?_) (fun h2=>?_)
 ·exact zD (fun h=>h2 h.2.1)
 have h2:=Decidable.not_not.1 h2;have hm:=zaU (show 0<=m.w by omega) h1.2 (show 0<=m.h by omega) h2.2;refine Ar.o ?_;refine Br.mk (fun h3=>?_) (fun h3=>?_)
 ·exact zD (fun h=>by have:=h.2.2.1;omega)
 intro hl0;refine Ar.o ?_;refine Br.mk (fun h4=>?_) (fun h4=>?_)
 ·exact zD (fun h=>h4 h.2.2.2.1)
 refine ze.t (zed m.px hl) ?_;refine y9 ?_;exact ⟨fun h=>⟨h1,h2,oM,Decidable.not_not.1 h4,Decidable.not_not.1 h⟩,fun h h'=>h' h.2.2.2.2⟩
theorem vp:zf Try.prog 13 [] [] (bl true) []:=by
 refine zh tok mix Try.func13 rfl rfl rfl ?_;refine ze.t (zgw (-1) 3 3 dC dC) ?_;refine ze.t (zgw 4 3 3 dC dC) ?_;refine Br.y ?_;refine Br.y ?_;refine Br.y ?_;refine Br.y ?_;refine ⟨Pix,kd,[⟨0,0,0,5⟩],rfl,Ob.mk ⟨rfl,dC,dC,dC,fun x hx=>by cases hx with | head=>exact ⟨rfl,rfl,rfl⟩ | tail _ h=>cases h⟩ ?_⟩;refine ze.t (zeP ⟨1,1,[⟨0,0,0,5⟩]⟩ dC) ?_;exact zgc dC
theorem zig(w h:Int):zf Try.prog 25 [i64 w,i64 h] [] (pr ((1<=w/\w<=4096)/\(1<=h/\h<=4096)/\w*h<=65536)) []:=by
 refine zh tok mix Try.func25 rfl rfl rfl ?_;refine Br.mk (fun h1=>?_) (fun h1=>zD oM);refine Br.mk (fun h2=>?_) (fun h2=>zD oM);refine Br.mk (fun h3=>?_) (fun h3=>zD oM);refine Br.mk (fun h4=>?_) (fun h4=>zD oM);have hm:=zaU (show 0<=w by omega) h2 (show 0<=h by omega) h4;refine Ar.o ?_;exact y9 ⟨fun h=>⟨⟨h1,h2⟩,⟨h3,h4⟩,h⟩,fun h=>h.2.2⟩
theorem zbJ(p:Pix):zf Try.prog 34 [.agg (kd p)] [] (pr (jw p)) []:=by
 refine zh tok mix Try.func34 rfl rfl rfl ?_;refine Br.mk (fun h1=>?_) (fun h1=>zD (fun h=>h1 h.1));refine Br.mk (fun h2=>?_) (fun h2=>zD (fun h=>h2 h.2.1));exact y9 ⟨fun h=>⟨h1,h2,h⟩,fun h=>h.2.2⟩
theorem zgz(m:Img):zf Try.prog 19 [.agg (kj m)] [] (pr (qr m)) []:=by
 refine zh tok mix Try.func19 rfl rfl rfl ?_;refine ze.t (zig m.w m.h) ?_;refine Br.mk (fun h1=>zD (fun h=>h1 ⟨h.1,h.2.1,h.2.2.1⟩)) (fun h1=>?_);have h1:=Decidable.not_not.1 h1;have hm:=zaU (show 0<=m.w by omega) h1.1.2 (show 0<=m.h by omega) h1.2.1.2;intro hl0;refine Ar.o ?_;refine Br.mk (fun h4=>zD (fun h=>h4 h.2.2.2.1)) (fun h4=>?_);have h4:=Decidable.not_not.1 h4
 refine ⟨Int,fun i=>⟨[(3,i64 i),(1,.loc 0 0)],[(0,.box 28 (kj m))],1,35,0⟩,fun i=>0<=i/\i<=m.px.length/\∀(j:Nat) q,(j:Int) < i->m.px[j]? =some q->jw q,fun i=>((m.px.length:Int) - i).toNat,0,?_,?_,?_⟩
 ·exact ⟨oM,oM,fun j q hj=>by omega⟩
 ·exact zo [(0,some 0)]
 rintro i ⟨g1,g2,g3⟩
 intro hl1;refine Br.mk (fun g4=>?_) (fun g4=>?_)
 ·refine Ob.o ?_;intro x hx;refine ze.t (zbJ x) ?_;refine Br.mk (fun g5=>?_) (fun g5=>?_)
  ·exact zD fun h=>g5 (h.2.2.2.2 x (List.mem_of_getElem? hx))
  ·refine Ar.o ?_;refine ⟨i+1,⟨oM,oM,fun j q hj hq=>?_⟩,zo [(0,some 0)],by dsimp only;omega⟩
   by_cases e:j=i.toNat
   ·subst e;rw [hx] at hq;cases hq;exact Decidable.not_not.1 g5
   ·exact g3 j q oM hq
 ·refine yU ⟨h1.1,h1.2.1,h1.2.2,h4,fun p hp=>?_⟩;obtain ⟨j,hj,he⟩:=List.getElem_of_mem hp;exact g3 j p oM (by rw [← he];exact List.getElem?_eq_getElem hj)
theorem zgA{p q:Pix}:(p.r=q.r/\p.g=q.g/\p.b=q.b/\p.a=q.a/\True)↔p=q:=by
 cases p;cases q;simp
theorem zhq{xs ys:List Pix}{i:Int}(hl:(xs.length:Int)=ys.length)(hi:¬i < xs.length)(h:∀j:Nat,(j:Int) < i->xs[j]? =ys[j]?):xs=ys:=by
 refine List.ext_getElem? fun j=>?_
 by_cases hj:(j:Int) < i
 ·exact h j hj
 ·rw [List.getElem?_eq_none oM,List.getElem?_eq_none oM]
theorem zgB(m n:Img):zf Try.prog 17 [.agg (kj m),.agg (kj n)] [] (pr (m=n)) []:=by
 refine zh tok mix Try.func17 rfl rfl rfl ?_;refine Br.mk (fun h1=>zD fun e=>h1 (by rw [e])) (fun h1=>?_);refine Br.mk (fun h2=>zD fun e=>h2 (by rw [e])) (fun h2=>?_);intro hl1 hl2;refine Br.mk (fun h3=>zD fun e=>h3 (by rw [e])) (fun h3=>?_);refine ⟨Int,fun i=>⟨[(5,i64 i),(2,.loc 0 0),(3,.loc 1 0)],[(1,.box 28 (kj n)),(0,.box 28 (kj m))],2,45,0⟩,fun i=>0<=i/\i<=m.px.length/\∀j:Nat,(j:Int) < i->m.px[j]? =n.px[j]?,fun i=>((m.px.length:Int) - i).toNat,0,?_,?_,?_⟩
 ·exact ⟨oM,oM,fun j hj=>by omega⟩
 ·exact zo [(0,some 0),(1,some 1)]
 rintro i ⟨h4,h5,h6⟩
 intro hl3;refine Br.mk (fun h7=>?_) (fun h7=>?_)
 ·refine Dr.k ?_;refine Ob.o ?_;intro x hx;refine Ob.o ?_;intro y hy;refine Br.mk (fun h8=>?_) (fun h8=>?_)
  ·refine zD fun e=>h8 (zgA.2 ?_)
   subst e;rw [hx] at hy;exact Option.some.inj hy
  ·refine Ar.o ?_;refine ⟨i+1,⟨oM,oM,fun j hj=>?_⟩,zo [(0,some 0),(1,some 1)],by dsimp only;omega⟩
   by_cases e:j=i.toNat
   ·subst e;rw [hx,hy,zgA.1 (Decidable.not_not.1 h8)]
   ·exact h6 j oM
 ·refine yU ?_;have e1:=Decidable.not_not.1 h1;have e2:=Decidable.not_not.1 h2;have e3:=zhq (Decidable.not_not.1 h3) h7 h6
  cases m;cases n
  simp_all
def zbK:Pix:=⟨0,0,0,0⟩
theorem zaV{a b:Int}(ha:0<=a)(hb:0 < b):kM a b=(2*a+b) / (2*b):=by
 obtain ⟨a,rfl⟩:=Int.eq_ofNat_of_zero_le ha;obtain ⟨b,rfl⟩:=Int.eq_ofNat_of_zero_le (Int.le_of_lt hb);unfold kM;rw [if_pos oM];simp
abbrev P8(p:Pix):Prop:=R8 p.r/\R8 p.g/\R8 p.b/\R8 p.a
theorem zeQ(p:Pix)(h:P8 p):zf Try.prog 50 [.agg (kd p),i64 0] [] (i64 p.r) []:=by
 refine zh tok mix Try.func50 rfl rfl rfl ?_;refine Ar.o ?_;exact .refl
theorem zeR(p:Pix)(h:P8 p):zf Try.prog 50 [.agg (kd p),i64 1] [] (i64 p.g) []:=by
 refine zh tok mix Try.func50 rfl rfl rfl ?_;refine Ar.o ?_;exact .refl
theorem zeS(p:Pix)(h:P8 p):zf Try.prog 50 [.agg (kd p),i64 2] [] (i64 p.b) []:=by
 refine zh tok mix Try.func50 rfl rfl rfl ?_;refine Ar.o ?_;exact .refl
theorem zeT(p:Pix)(h:P8 p):zf Try.prog 50 [.agg (kd p),i64 3] [] (i64 p.a) []:=by
 refine zh tok mix Try.func50 rfl rfl rfl ?_;refine Ar.o ?_;exact .refl
structure Qd where
 r:Int
 g:Int
 b:Int
 a:Int
def qdE(q:Qd):List SV:=[i64 q.r,i64 q.g,i64 q.b,i64 q.a]
def zQ:Qd:=⟨0,0,0,0⟩
def zfD(q:Qd)(p:Pix)(w:Int):Qd:=⟨q.r+w*p.r,q.g+w*p.g,q.b+w*p.b,q.a+w*p.a⟩
def zbg(q:Qd)(n:Int):Pix:=⟨kM q.r n,kM q.g n,kM q.b n,kM q.a n⟩
def inQ(q:Qd)(n:Int):Prop:=(0<=q.r/\0<=q.g/\0<=q.b)/\(q.r<=q.a/\q.g<=q.a/\q.b<=q.a)/\q.a<=255*n
theorem zgC:inQ zQ 0:=by unfold inQ zQ;decide
theorem vX{w x y:Int}(hw:0<=w)(h:x<=y):w*x<=w*y:=Int.mul_le_mul_of_nonneg_left h hw
theorem zhr{q:Qd}{n w:Int}{p:Pix}(h:inQ q n)(hp:P8 p)(ho:jw p)(hw:0<=w):inQ (zfD q p w) (n+w):=by
 obtain ⟨⟨h1,h2,h3⟩,⟨h4,h5,h6⟩,h7⟩:=h;obtain ⟨p1,p2,p3,p4⟩:=hp;obtain ⟨o1,o2,o3⟩:=ho;have a1:=Int.mul_nonneg hw p1.1;have a2:=Int.mul_nonneg hw p2.1;have a3:=Int.mul_nonneg hw p3.1;have b1:=vX hw o1;have b2:=vX hw o2;have b3:=vX hw o3;have c:=vX hw p4.2;unfold inQ zfD;dsimp only;rw [Int.mul_add];omega
theorem zcs{a b n:Int}(ha:0<=a)(h:a<=b)(hn:0 < n):kM a n<=kM b n:=by
 rw [zaV ha hn,zaV oM hn];exact Int.ediv_le_ediv oM oM
theorem jG{a n:Int}(ha:0<=a)(h:a<=255*n)(hn:0 < n):R8 (kM a n):=by
 rw [zaV ha hn];refine ⟨Int.ediv_nonneg oM oM,?_⟩;have:(2*a+n) / (2*n) < 256:=Int.ediv_lt_of_lt_mul oM oM;omega
theorem zgD{q:Qd}{n:Int}(h:inQ q n)(hn:0 < n):P8 (zbg q n)/\jw (zbg q n):=by
 obtain ⟨⟨h1,h2,h3⟩,⟨h4,h5,h6⟩,h7⟩:=h;exact ⟨⟨jG h1 oM hn,jG h2 oM hn,jG h3 oM hn,jG oM h7 hn⟩,zcs h1 h4 hn,zcs h2 h5 hn,zcs h3 h6 hn⟩
abbrev okM(m:Img):Prop:=qr m/\∀q∈m.px,P8 q
def ofK(key:Int->Int)(v:Int)(l:List Int):List Int:=l.filter fun x=>key x==v
def Srt(key:Int->Int)(l:List Int):Prop:=l.Pairwise fun x y=>key x<=key y
def zX(key:Int->Int)(a b:List Int):Prop:=∀v,ofK key v a=ofK key v b
variable {key:Int->Int}
theorem ya(v:Int)(a b:List Int):ofK key v (a++b)=ofK key v a++ofK key v b:=List.filter_append ..
theorem uS{v x:Int}{l:List Int}:x∈ofK key v l↔x∈l/\key x=v:=by simp [ofK]
theorem uT{v:Int}{l:List Int}(h:∀x∈l,key x≠v):ofK key v l=[]:=by
 unfold ofK;rw [List.filter_eq_nil_iff];intro x hx;simpa using h x hx
theorem zX.refl{a:List Int}:zX key a a:=fun _=>rfl
theorem zX.symm{a b:List Int}(h:zX key a b):zX key b a:=fun v=>(h v).symm
theorem zX.trans{a b c:List Int}(h:zX key a b)(k:zX key b c):zX key a c:=fun v=>(h v).trans (k v)
theorem zX.app{a b c d:List Int}(h:zX key a b)(k:zX key c d):zX key (a++c) (b++d):=fun v=>by rw [ya,ya,h v,k v]
theorem zX.perm{a b:List Int}(h:zX key a b):a.Perm b:=by
 rw [List.perm_iff_count];intro x;have e:=congrArg (List.count x) (h (key x));unfold ofK at e
 rwa [List.count_filter (by simp),List.count_filter (by simp)] at e
theorem zX.len{a b:List Int}(h:zX key a b):a.length=b.length:=h.perm.length_eq
theorem zX.mem{a b:List Int}(h:zX key a b){x:Int}:x∈a↔x∈b:=h.perm.mem_iff
theorem zX.swap{u v:List Int}(h:∀x∈u,∀y∈v,key x≠key y):zX key (u++v) (v++u):=fun w=>by
 rw [ya,ya]
 by_cases hu:∃x∈u,key x=w
 ·obtain ⟨x,hx,rfl⟩:=hu;rw [uT fun y hy e=>h x hx y hy e.symm];simp
 ·rw [uT fun x hx e=>hu ⟨x,hx,e⟩];simp
theorem zX.eq:∀{a b:List Int},zX key a b->Srt key a->Srt key b->a=b
 | [],b,h,_,_=>by
  have:=h.len
  cases b with
  | nil=>rfl
  | cons x b=>simp at this
 | x::a,[],h,_,_=>by have:=h.len;simp at this
 | x::a,y::b,h,ha,hb=>by
  have ha1:=List.pairwise_cons.1 ha;have hb1:=List.pairwise_cons.1 hb
  have h1:key y<=key x:=by
   have:x∈y::b:=h.mem.1 (.head _)
   rcases List.mem_cons.1 this with e | e
   ·rw [e];exact Int.le_refl _
   ·exact hb1.1 x e
  have h2:key x<=key y:=by
   have:y∈x::a:=h.mem.2 (.head _)
   rcases List.mem_cons.1 this with e | e
   ·rw [e];exact Int.le_refl _
   ·exact ha1.1 y e
  have hk:key x=key y:=oM;have h3:=h (key x);have e1:ofK key (key x) (x::a)=x::ofK key (key x) a:=by simp [ofK]
  have e2:ofK key (key x) (y::b)=y::ofK key (key x) b:=by simp [ofK,hk]
  rw [e1,e2] at h3;obtain ⟨rfl,h4⟩:=List.cons.inj h3
  have h5:zX key a b:=fun v=>by
   have:=h v;unfold ofK at this ⊢;rw [List.filter_cons,List.filter_cons] at this
   split at this
   ·exact (List.cons.inj this).2
   ·exact this
  rw [h5.eq ha1.2 hb1.2]
def jH(key:Int->Int)(l:List Int)(n:Nat):List Int:=(List.range n).flatMap fun v:Nat=>ofK key (v:Int) l
def ke(key:Int->Int)(l:List Int):List Int:=jH key l 256
theorem yb(l:List Int)(n:Nat):jH key l (n+1)=jH key l n++ofK key n l:=by simp [jH,List.range_succ]
theorem zbL(l:List Int):∀n:Nat,Srt key (jH key l n)/\∀x∈jH key l n,key x < n
 | 0=>⟨List.Pairwise.nil,fun x hx=>by simp [jH] at hx⟩
 | n+1=>by
  obtain ⟨h1,h2⟩:=zbL l n;rw [yb];refine ⟨List.pairwise_append.2 ⟨h1,?_,fun x hx y hy=>?_⟩,fun x hx=>?_⟩
  ·exact List.Pairwise.imp_of_mem (fun {a b} ha hb _=>by rw [(uS.1 ha).2,(uS.1 hb).2];exact Int.le_refl _) (List.pairwise_of_forall (R:=fun _ _=>True) fun _ _=>trivial)
  ·have:=h2 x hx;have:=(uS.1 hy).2;omega
  ·rcases List.mem_append.1 hx with hx | hx
   ·have:=h2 x hx;omega
   ·have:=(uS.1 hx).2;omega
theorem zih(v w:Int)(l:List Int):ofK key v (ofK key w l)=if v=w then ofK key v l else []:=by
 split
 ·rename_i h;subst h;unfold ofK;rw [List.filter_filter];simp
 ·rename_i h;exact uT fun x hx e=>h (by rw [← e,(uS.1 hx).2])
theorem zdr(v:Int)(l:List Int):∀n:Nat,ofK key v (jH key l n)=if 0<=v/\v < n then ofK key v l else []
 | 0=>by rw [if_neg oM];rfl
 | n+1=>by
  rw [yb,ya,zdr v l n,zih]
  by_cases h1:v=n
  ·rw [if_neg oM,if_pos h1,if_pos oM];rfl
  ·rw [if_neg h1]
   by_cases h2:0<=v/\v < n
   ·rw [if_pos h2,if_pos oM];simp
   ·rw [if_neg h2,if_neg oM];rfl
abbrev jI(key:Int->Int):Prop:=∀x,0<=key x/\key x < 256
theorem jc(hk:jI key)(l:List Int):zX key (ke key l) l:=fun v=>by
 unfold ke;rw [zdr]
 split
 ·rfl
 ·rename_i h;exact (uT fun x _ e=>h (by have:=hk x;omega)).symm
theorem zbM(l:List Int):Srt key (ke key l):=(zbL l 256).1
theorem zee(hk:jI key){a l:List Int}(h:zX key a l)(hs:Srt key a):a=ke key l:=(h.trans (jc hk l).symm).eq hs (zbM l)
theorem jJ(hk:jI key)(l:List Int):(ke key l).length=l.length:=(jc hk l).len
theorem zfE(hk:jI key){l:List Int}{x:Int}:x∈ke key l↔x∈l:=(jc hk l).mem
abbrev gz(l:List Int)(i:Nat):Int:=l.getD i 0
def qc(key:Int->Int)(l:List Int)(a b:Nat):Prop:=∀i j,a<=i->i<=j->j < b->key (gz l i)<=key (gz l j)
theorem zeU{l:List Int}:Srt key l↔qc key l 0 l.length:=by
 unfold Srt qc gz;rw [List.pairwise_iff_getElem];constructor
 ·intro h i j _ hij hj
  rcases Nat.lt_or_ge i j with hl | hl
  ·have:=h i j oM hj hl
   simpa [List.getD_eq_getElem?_getD,List.getElem?_eq_getElem,hj,show i < l.length by omega] using this
  ·have:i=j:=by omega
   subst this;exact Int.le_refl _
 ·intro h i j hi hj hl;have:=h i j (Nat.zero_le _) oM hj
  simpa [List.getD_eq_getElem?_getD,List.getElem?_eq_getElem,hi,hj] using this
def seg(l:List Int)(a b:Nat):List Int:=(l.drop a).take (b - a)
theorem z5{l:List Int}{a b:Nat}(h:b<=l.length):(seg l a b).length=b - a:=by simp [seg];omega
theorem qB{l:List Int}{a b i:Nat}(h:i < b - a):gz (seg l a b) i=gz l (a+i):=by
 unfold gz seg;simp [List.getD_eq_getElem?_getD,h]
theorem zhs{l:List Int}{a b:Nat}(hb:b<=l.length):Srt key (seg l a b)↔qc key l a b:=by
 rw [zeU,z5 hb];constructor
 ·intro h i j hi hij hj;have:=h (i - a) (j - a) oM oM oM
  rwa [qB oM,qB oM,show a+(i - a)=i by omega,show a+(j - a)=j by omega] at this
 ·intro h i j _ hij hj;rw [qB oM,qB oM];exact h _ _ oM oM oM
theorem cut3{l:List Int}{a b:Nat}(h:a<=b):l=l.take a++(seg l a b++l.drop b):=by
 unfold seg;have:l.drop b=(l.drop a).drop (b - a):=by rw [List.drop_drop];congr 1;omega
 rw [this,List.take_append_drop,List.take_append_drop]
def zaW(l:List Int)(a b:Nat)(w:List Int):List Int:=l.take a++(w++l.drop b)
theorem zgE{l w:List Int}{a b:Nat}(h:a<=b)(hb:b<=l.length)(hw:w.length=b - a):(zaW l a b w).length=l.length:=by simp [zaW];omega
theorem zds{l w:List Int}{a b i:Nat}(h:a<=b)(hb:b<=l.length)(hw:w.length=b - a)(hi:i < a∨b<=i):gz (zaW l a b w) i=gz l i:=by
 unfold gz zaW;simp only [List.getD_eq_getElem?_getD,List.getElem?_append,List.length_take,List.getElem?_take,List.getElem?_drop]
 rcases hi with hi | hi
 ·rw [if_pos oM,if_pos hi]
 ·rw [if_neg oM,if_neg oM];congr 2;omega
theorem uU{l w:List Int}{a b i:Nat}(h:a<=b)(hb:b<=l.length)(hw:w.length=b - a)(hi:a<=i/\i < b):gz (zaW l a b w) i=gz w (i - a):=by
 unfold gz zaW;simp only [List.getD_eq_getElem?_getD,List.getElem?_append,List.length_take];rw [if_neg oM,if_pos oM];congr 2;congr 1;omega
theorem zbN{l w:List Int}{a b:Nat}(h:a<=b)(hw:zX key w (seg l a b)):zX key (zaW l a b w) l:=by
 have:=(zX.refl (key:=key) (a:=l.take a)).app (hw.app (zX.refl (a:=l.drop b)))
 rwa [← cut3 h] at this
theorem zgF{l w:List Int}{a b:Nat}(h:a<=b)(hb:b<=l.length)(hw:w.length=b - a)(hs:Srt key w):qc key (zaW l a b w) a b:=fun i j hi hij hj=>by
 rw [uU h hb hw ⟨oM,oM⟩,uU h hb hw ⟨oM,hj⟩];exact zeU.1 hs _ _ (Nat.zero_le _) oM oM
end Go.Gs
