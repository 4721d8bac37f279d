/- Segments that may be, the other text; paths that are the same. -/
import Derived.Test.YtplllpkdmehklaaGreatDoorMA
import Derived.Test.YtplllpkdmehklaaGreatDoorMAY
set_option maxRecDepth 100000
set_option maxHeartbeats 8000000
set_option linter.all false
namespace Go.Gs
open Go.Proofs
theorem zv7(v:Int):zd Tryz.prog 282 [i64 v] [] (i64 (nm v)) []:=by
 refine zc tok mix Tryz.func282 rfl rfl rfl ?_;refine Br.mk (fun h1=>?_) (fun h1=>?_)
 ·refine Br.mk (fun _=>?_) (fun h=>absurd h1 h);exact zj (by rw [h1];rfl)
 refine Br.mk (fun h2=>zj (by rw [h2];rfl)) (fun h2=>?_);refine Br.mk (fun h3=>zj (by rw [h3];rfl)) (fun h3=>?_);refine Br.mk (fun h4=>zj (by rw [h4];rfl)) (fun h4=>?_);refine Br.mk (fun h5=>zj (by rw [h5];rfl)) (fun h5=>?_);exact zj (by unfold nm;rw [if_neg h1,if_neg h2,if_neg h3,if_neg h4,if_neg h5])
theorem zy0(s:Sg):zd Tryz.prog 284 [.agg (sgE s)] [] (.agg (ptE s.a++ptE s.b++ptE s.c)) []:=by
 refine zc tok mix Tryz.func284 rfl rfl rfl ?_;exact .refl
def zc8(l:List Sg)(i:Nat):Int:=if i=0 then 5 else (l[i - 1]?.map Sg.v).getD 0
theorem ztt(l:List Sg)(i:Nat)(x:Sg)(hx:l[i]? =some x)(hl:l.length<=256):zd Tryz.prog 283 [.sl sgE l,i64 i] [] (pr (zbk (zc8 l i) x.v)) []:=by
 refine zc tok mix Tryz.func283 rfl rfl rfl ?_;have hi:i < l.length:=(List.getElem?_eq_some_iff.1 hx).1;refine Br.mk (fun h1=>?_) (fun h1=>?_)
 ·have h0:i=0:=by omega
  subst h0;refine Ob.o4 ?_;intro y hy;have hy:l[0]? =some y:=hy;rw [hx] at hy;cases hy
  refine zF ⟨fun h=>.inl h,fun h=>?_⟩
  rcases h with h | ⟨h,_⟩
  ·exact h
  ·exact absurd rfl h
 refine Ar.o ?_;refine Ob.o4 ?_;intro y hy;have hy:l[i - 1]? =some y:=by rw [← hy];congr 1;omega
 have hlast:zc8 l i=y.v:=by unfold zc8;rw [if_neg oM,hy];rfl
 rw [hlast];refine Br.mk (fun h2=>?_) (fun h2=>?_)
 ·refine Ob.o4 ?_;intro z hz;have hz:l[i]? =some z:=hz;rw [hx] at hz;cases hz
  refine zF ⟨fun h=>.inl h,fun h=>?_⟩
  rcases h with h | ⟨h,_⟩
  ·exact h
  ·exact absurd h2 h
 ·refine Ob.o4 ?_;intro z hz;have hz:l[i]? =some z:=hz;rw [hx] at hz;cases hz
  refine Br.mk (fun h3=>?_) (fun h3=>?_)
  ·exact zP (.inr ⟨h2,.inl h3⟩)
  ·refine Ar.o ?_;refine Ob.o4 ?_;intro u hu;have hu:l[i - 1]? =some u:=by rw [← hu];congr 1;omega
   rw [hy] at hu;cases hu
   refine zF ⟨fun h=>.inr ⟨h2,.inr h⟩,fun h=>?_⟩;have h3:x.v=5:=Decidable.not_not.1 h3
   rcases h with h | ⟨_,h | h⟩
   ·omega
   ·exact absurd h3 h
   ·exact h
theorem zy1(l:List Sg)(i:Nat)(x:Sg)(hx:l[i]? =some x)(hl:l.length<=256):zd Tryz.prog 234 [.sl sgE l,i64 i] [] (i64 (js (zc8 l i) x)) []:=by
 refine zc tok mix Tryz.func234 rfl rfl rfl ?_;have hi:i < l.length:=(List.getElem?_eq_some_iff.1 hx).1;refine Ob.o4 ?_;intro y hy;have hy:l[i]? =some y:=hy;rw [hx] at hy;cases hy
 refine zb.t (zv7 x.v) ?_;refine Br.mk (fun h1=>zj (by unfold js;rw [if_pos h1])) (fun h1=>?_);refine zb.t (ztt l i x hx hl) ?_;refine Br.mk (fun h2=>zj (by unfold js;rw [if_neg h1,if_pos h2])) (fun h2=>?_);refine Ob.o4 ?_;intro y hy;have hy:l[i]? =some y:=hy;rw [hx] at hy;cases hy
 refine zb.t (zy0 x) ?_;have bad:¬zc7 x->LE (i64 6) (i64 (js (zc8 l i) x)):=fun h=>zj (by unfold js;rw [if_neg h1,if_neg h2,if_pos h])
 have hn:0<=nm x.v:=oM;have zOK:zn zp:=dC
 refine ⟨Nat,fun k=>⟨[(7,i64 k),(5,i64 (nm x.v)),(6,.loc 0 0)],[(0,.box 259 (ptE x.a++ptE x.b++ptE x.c))],1,51,0⟩,
  fun k=>k<=3/\(1<=k->pk (nm x.v) 0 x.a)/\(2<=k->pk (nm x.v) 1 x.b)/\(3<=k->pk (nm x.v) 2 x.c),fun k=>3 - k,0,?_,?_,?_⟩
 ·exact ⟨oM,fun h=>by omega,fun h=>by omega,fun h=>by omega⟩
 ·exact zf [(0,some 0)]
 rintro k ⟨k1,k2,k3,k4⟩
 refine Br.mk (fun g1=>?_) (fun g1=>?_)
 ·have g1:(k:Int) < 3:=g1;have hk:k=0∨k=1∨k=2:=oM
  rcases hk with rfl | rfl | rfl
  ·refine Br.mk (fun a1=>?_) (fun a1=>?_)
   ·refine zb.t (uB x.a) ?_;refine Br.mk (fun a2=>bad (fun h=>a2 h.1.1)) (fun a2=>?_);have a2:zn x.a:=Decidable.not_not.1 a2;refine Br.mk (fun a3=>absurd a3 oM) (fun a3=>?_);refine Ar.o ?_;exact ⟨1,⟨oM,fun _=>⟨a2,fun h=>absurd h oM⟩,fun h=>by omega,fun h=>by omega⟩,zf [(0,some 0)],by dsimp only;omega⟩
   ·refine Br.mk (fun a3=>?_) (fun a3=>absurd a3 oM);refine Br.mk (fun a4=>bad (fun h=>a4 (qJ.2 (h.1.2 oM)))) (fun a4=>?_);have a4:x.a=zp:=qJ.1 (Decidable.not_not.1 a4);refine Ar.o ?_;exact ⟨1,⟨oM,fun _=>⟨a4 ▸ zOK,fun _=>a4⟩,fun h=>by omega,fun h=>by omega⟩,zf [(0,some 0)],by dsimp only;omega⟩
  ·refine Br.mk (fun a1=>?_) (fun a1=>?_)
   ·refine zb.t (uB x.b) ?_;refine Br.mk (fun a2=>bad (fun h=>a2 h.2.1.1)) (fun a2=>?_);have a2:zn x.b:=Decidable.not_not.1 a2;refine Br.mk (fun a3=>absurd a3 oM) (fun a3=>?_);refine Ar.o ?_;exact ⟨2,⟨oM,fun _=>k2 oM,fun _=>⟨a2,fun h=>absurd h oM⟩,fun h=>by omega⟩,zf [(0,some 0)],by dsimp only;omega⟩
   ·refine Br.mk (fun a3=>?_) (fun a3=>absurd a3 oM);refine Br.mk (fun a4=>bad (fun h=>a4 (qJ.2 (h.2.1.2 oM)))) (fun a4=>?_);have a4:x.b=zp:=qJ.1 (Decidable.not_not.1 a4);refine Ar.o ?_;exact ⟨2,⟨oM,fun _=>k2 oM,fun _=>⟨a4 ▸ zOK,fun _=>a4⟩,fun h=>by omega⟩,zf [(0,some 0)],by dsimp only;omega⟩
  ·refine Br.mk (fun a1=>?_) (fun a1=>?_)
   ·refine zb.t (uB x.c) ?_;refine Br.mk (fun a2=>bad (fun h=>a2 h.2.2.1)) (fun a2=>?_);have a2:zn x.c:=Decidable.not_not.1 a2;refine Br.mk (fun a3=>absurd a3 oM) (fun a3=>?_);refine Ar.o ?_;exact ⟨3,⟨oM,fun _=>k2 oM,fun _=>k3 oM,fun _=>⟨a2,fun h=>absurd h oM⟩⟩,zf [(0,some 0)],by dsimp only;omega⟩
   ·refine Br.mk (fun a3=>?_) (fun a3=>absurd a3 oM);refine Br.mk (fun a4=>bad (fun h=>a4 (qJ.2 (h.2.2.2 oM)))) (fun a4=>?_);have a4:x.c=zp:=qJ.1 (Decidable.not_not.1 a4);refine Ar.o ?_;exact ⟨3,⟨oM,fun _=>k2 oM,fun _=>k3 oM,fun _=>⟨a4 ▸ zOK,fun _=>a4⟩⟩,zf [(0,some 0)],by dsimp only;omega⟩
 ·have h3:k=3:=by have g1:¬(k:Int) < 3:=g1;omega
  subst h3;exact zj (by unfold js;rw [if_neg h1,if_neg h2,if_neg (fun h=>h ⟨k2 oM,k3 oM,k4 oM⟩)])
theorem zoi{l:List Sg}{i:Nat}{x:Sg}(h:l[i]? =some x):zc8 l (i+1)=x.v:=by
 unfold zc8;rw [if_neg oM,Nat.add_sub_cancel,h];rfl
theorem zv8(l:List Sg):zd Tryz.prog 180 [.sl sgE l] [] (twoI (vM l)) []:=by
 refine zc tok mix Tryz.func180 rfl rfl rfl ?_;have fin:∀{a b:Int},vM l=(a,b)->LE (.tup [i64 a,i64 b]) (twoI (vM l)):=fun h=>by rw [h];exact .refl
 intro hl;refine Br.mk (fun h=>fin (by unfold vM;rw [if_pos oM])) (fun h=>?_);have hc:vM l=chk 5 0 l:=by unfold vM;rw [if_neg oM]
 refine ⟨Nat,fun i=>⟨[(4,i64 i),(0,.sl sgE l)],[],0,22,0⟩,fun i=>i<=l.length/\chk 5 0 l=chk (zc8 l i) i (l.drop i),fun i=>l.length - i,0,?_,?_,?_⟩
 ·exact ⟨Nat.zero_le _,rfl⟩
 ·exact zf []
 rintro i ⟨h1,h2⟩
 intro hl1;refine Br.mk (fun h3=>?_) (fun h3=>?_)
 ·have hx:=List.getElem?_eq_getElem (show i < l.length by omega);generalize l[i]'oM=x at hx;rw [zmy hx] at h2;refine zb.t (zy1 l i x hx oM) ?_;refine Br.mk (fun h4=>fin ?_) (fun h4=>?_)
  ·rw [hc,h2];unfold chk;rw [if_pos h4]
  ·refine Ar.o ?_;refine ⟨i+1,⟨oM,?_⟩,zf [],by dsimp only;omega⟩;rw [h2,zoi hx];conv=>lhs;unfold chk
   rw [if_neg h4]
 ·refine fin (hc.trans (h2.trans ?_));rw [List.drop_eq_nil_of_le oM];rfl
theorem zoj(l:List Sg):zd Tryz.prog 133 [.sl sgE l] [] (pr (qq l)) []:=by
 refine zc tok mix Tryz.func133 rfl rfl rfl ?_;refine zb.t (zv8 l) ?_;exact zF Iff.rfl
theorem zby(v:Int): -1<=nm v/\nm v<=3:=by unfold nm;split <;> (try split) <;> (try split) <;> (try split) <;> (try split) <;> omega
def kj(s:Sg):List Pt:=[s.a,s.b,s.c].take (nm s.v).toNat
theorem zok(s:Sg):zd Tryz.prog 169 [.agg (sgE s)] [] (.sl ptE (kj s)) []:=by
 refine zc tok mix Tryz.func169 rfl rfl rfl ?_;refine ⟨Pt,ptE,[s.a,s.b,s.c],rfl,Ob.o0 ?_⟩;refine zb.t (c_named s.v) ?_;have hr:=zby s.v;refine Sl.see (Ob.mk ⟨dC,by show 0<=max (nm s.v) 0;omega,by show max (nm s.v) 0<=3;omega,Int.le_refl _⟩ ?_);refine qy ?_;show ([s.a,s.b,s.c].drop 0).take (max (nm s.v) 0 - 0).toNat=_;unfold kj;rw [List.drop_zero];congr 1;omega
def qb(l:List Sg):List Pt:=l.flatMap kj
def mnP(p q:Pt):Pt:=⟨min p.x q.x,min p.y q.y⟩
def mxP(p q:Pt):Pt:=⟨max p.x q.x,max p.y q.y⟩
def bnd(f:Pt->Pt->Pt)(q:List Pt):Pt:=q.foldl f (q.headD zp)
theorem zol{l:List Sg}{i:Nat}{x:Sg}(h:l[i]? =some x):qb (l.take (i+1))=qb (l.take i)++kj x:=by
 unfold qb;rw [List.take_add_one,h];simp [List.flatMap_append]
theorem zgy{l:List Sg}(h:qq l):l.length<=256:=by
 unfold qq vM at h
 by_cases e:256 < l.length
 ·rw [if_pos e] at h;cases h
 ·omega
theorem zBs{r m a:Nat}(h:r=2 ^ (m+1)*a)(hr:r < 4294967296)(hm:m<=31):zat .or .u64 (r:Int) (1*2 ^ (m:Int).toNat)=((r+2 ^ m:Nat):Int):=by
 have hp:2 ^ m<=2 ^ 31:=Nat.pow_le_pow_right dC hm;have e:(1*2 ^ (m:Int).toNat:Int)=((2 ^ m:Nat):Int):=by rw [Int.one_mul];simp
 rw [e,zqd oM oM];have:=Nat.two_pow_add_eq_or_of_lt (i:=m+1) (b:=2 ^ m) (Nat.pow_lt_pow_right dC oM) a;rw [h,← this]
theorem zv9(n:Int)(h0:0<=n/\n<=18446744073709551615):zd Tryz.prog 289 [u64 n] [] (u64 (isq n)) []:=by
 refine zc tok mix Tryz.func289 rfl rfl rfl ?_
 refine ⟨Int×Nat,fun z=>⟨[(0,u64 n),(3,u64 (z.2:Int)),(4,i64 z.1)],[],0,21,0⟩,fun z=> -1<=z.1/\z.1<=31/\(∃a,z.2=2 ^ (z.1+1).toNat*a)/\z.2+2 ^ (z.1+1).toNat<=4294967296/\sqL n (z.1+1).toNat z.2=isq n,
  fun z=>(z.1+1).toNat,(31,0),⟨dC,dC,⟨0,rfl⟩,dC,rfl⟩,?_,?_⟩
 ·exact zf []
 rintro ⟨j,r⟩ ⟨h1,h2,⟨a,h3⟩,h4,h5⟩
 dsimp only at h1 h2 h3 h4 h5;refine Br.mk (fun g=>?_) (fun g=>?_)
 ·have g:0<=j:=g;obtain ⟨m,rfl⟩:∃m:Nat,j=m:=⟨j.toNat,oM⟩;have e:((m:Int)+1).toNat=m+1:=oM;rw [e] at h3 h4 h5;have hm:m<=31:=oM;have hp:2 ^ m<=2147483648:=Nat.pow_le_pow_right (n:=2) dC hm;have hp1:0 < 2 ^ m:=Nat.pow_pos dC;have hp2:2 ^ (m+1)=2*2 ^ m:=by rw [Nat.pow_succ];omega
  have ee:(1*2 ^ (m:Int).toNat:Int)=((2 ^ m:Nat):Int):=by rw [Int.one_mul];simp
  have hq:(r+2 ^ m)*(r+2 ^ m)<=18446744065119617025:=Nat.le_trans (Nat.mul_le_mul (show r+2 ^ m<=4294967295 by omega) (show r+2 ^ m<=4294967295 by omega)) dC
  have hs:sqL n (m+1) r=sqL n m (if ((r+2 ^ m:Nat):Int)*((r+2 ^ m:Nat):Int)<=n then ((r+2 ^ m:Nat):Int) else r):=by
   have:((r+2 ^ m:Nat):Int)=(r:Int)+2 ^ m:=by simp
   rw [this];rfl
  rw [hs] at h5;have em:((m:Int) - 1+1).toNat=m:=oM;refine Ob.mk (by show (0:Int)<=m/\(m:Int) < 64;omega) ?_;refine Ar.fit (by rw [ee];omega) ?_;refine ⟨((r+2 ^ m:Nat):Int),(zBs h3 oM hm).symm,?_⟩;have hq':((r+2 ^ m:Nat):Int)*((r+2 ^ m:Nat):Int)<=18446744065119617025:=by have h:=Int.ofNat_le.mpr hq;rw [Int.natCast_mul] at h;exact h
  have hq0:0<=((r+2 ^ m:Nat):Int)*((r+2 ^ m:Nat):Int):=Int.mul_nonneg oM oM;refine Ar.fit ⟨hq0,oM⟩ ?_;refine Br.mk (fun k=>?_) (fun k=>?_)
  ·refine Ar.o ?_;rw [if_pos k] at h5;refine ⟨((m:Int) - 1,r+2 ^ m),⟨by dsimp only;omega,by dsimp only;omega,⟨2*a+1,?_⟩,?_,?_⟩,zf [],by dsimp only;omega⟩
   ·dsimp only;rw [em,h3,hp2];grind
   ·dsimp only;rw [em];omega
   ·dsimp only;rw [em];exact h5
  ·refine Ar.o ?_;rw [if_neg k] at h5;refine ⟨((m:Int) - 1,r),⟨by dsimp only;omega,by dsimp only;omega,⟨2*a,?_⟩,?_,?_⟩,zf [],by dsimp only;omega⟩
   ·dsimp only;rw [em,h3,hp2];grind
   ·dsimp only;rw [em];omega
   ·dsimp only;rw [em];exact h5
 ·have g:¬0<=j:=g;have e:(j+1).toNat=0:=oM;rw [e] at h5;exact zj h5
theorem zcb(p:Pt):zd Tryz.prog 85 [.agg (ptE p)] [] (.agg (ptE (yE p))) []:=zv2 p
theorem p_sub(p q:Pt):zd Tryz.prog 253 [.agg (ptE p),.agg (ptE q)] [] (.agg (ptE (subP p q))) []:=by
 have h1:=jx p.x;have h2:=jx p.y;have h3:=jx q.x;have h4:=jx q.y;refine zc tok mix Tryz.func253 rfl rfl rfl ?_;refine Dr.k ?_;refine zb.t (zcb p) ?_;refine zb.t (zcb q) ?_;unfold yE;refine Ar.fit (by dsimp only;omega) ?_;refine Ar.fit (by dsimp only;omega) ?_;exact .refl
theorem ud(p:Pt):zd Tryz.prog 346 [.agg (ptE p)] [] (.agg (ptE (perpP p))) []:=by
 have h2:=jx p.y;refine zc tok mix Tryz.func346 rfl rfl rfl ?_;refine zb.t (zcb p) ?_;unfold yE;refine Ar.fit (by dsimp only;omega) ?_;exact .refl
theorem zwb(p q:Pt)(hp:zn p)(hq:zn q):zd Tryz.prog 351 [.agg (ptE p),.agg (ptE q)] [] (i64 (wdg p q)) []:=by
 have h:=zgx hp hq;unfold wdg at h;refine zc tok mix Tryz.func351 rfl rfl rfl ?_;(iterate 3 refine Ar.o ?_);exact .refl
theorem zBt(p q:Pt)(hp:zn p)(hq:zn q):zd Tryz.prog 317 [.agg (ptE p),.agg (ptE q)] [] (i64 (dtp p q)) []:=by
 have h:=zkS hp hq;unfold dtp at h;refine zc tok mix Tryz.func317 rfl rfl rfl ?_;(iterate 3 refine Ar.o ?_);exact .refl
theorem zy2(p q:Pt):zd Tryz.prog 350 [.agg (ptE p),.agg (ptE q)] [] (i64 (zb9 p q)) []:=by
 refine zc tok mix Tryz.func350 rfl rfl rfl ?_;refine Dr.k ?_;refine zb.t (zcb p) ?_;refine zb.t (zcb q) ?_;refine zb.t (zwb (yE p) (yE q) (vE p) (vE q)) ?_;exact .refl
theorem p_dot(p q:Pt):zd Tryz.prog 290 [.agg (ptE p),.agg (ptE q)] [] (i64 (zts p q)) []:=by
 refine zc tok mix Tryz.func290 rfl rfl rfl ?_;refine Dr.k ?_;refine zb.t (zcb p) ?_;refine zb.t (zcb q) ?_;refine zb.t (zBt (yE p) (yE q) (vE p) (vE q)) ?_;exact .refl
theorem zon(p:Pt):0<=zts p p/\zts p p<=2199023255552:=by
 have h:=zkS (vE p) (vE p);have h1:=yA (yE p).x;have h2:=yA (yE p).y;unfold zts;unfold dtp at*;omega
theorem zkT(p:Pt):0<=zv5 p/\zv5 p < 4294967296:=by
 have h:=zon p;exact ⟨(zfx oM oM).1,zv3 oM oM⟩
theorem zwc(p:Pt):zd Tryz.prog 252 [.agg (ptE p)] [] (i64 (zv5 p)) []:=by
 have h:=zon p;have hl:=zkT p;unfold zv5 at hl;refine zc tok mix Tryz.func252 rfl rfl rfl ?_;refine zb.t (p_dot p p) ?_;(iterate 2 refine Ar.o ?_);refine zb.t (zv9 (65536*zts p p) oM) ?_;refine Ar.o ?_;exact .refl
theorem zhP{a b:Int}{M:Nat}(hb:b≠0)(h:a.natAbs<=M*b.natAbs): -(M:Int)<=zX a b/\zX a b<=M:=by
 have e:=zfr a b
 have:(2*a.natAbs+b.natAbs) / (2*b.natAbs) < M+1:=by
  rw [Nat.div_lt_iff_lt_mul oM];have:(M+1)*(2*b.natAbs)=2*(M*b.natAbs)+2*b.natAbs:=by grind
  omega
 omega
theorem uC{a b:Int}{M:Nat}(h:a.natAbs<=M): -(M:Int)<=zX a b/\zX a b<=M:=by
 by_cases hb:b=0
 ·subst hb;have e:=zfr a 0;rw [show (2*(0:Int).natAbs)=0 by rfl,Nat.div_zero] at e;omega
 ·refine zhP hb (Nat.le_trans h ?_);exact Nat.le_mul_of_pos_right _ oM
theorem zbz{a b:Int}(h: -4611686018427387904<=a/\a<=4611686018427387904):zaY (zX a b)=zX a b:=by
 have:=uC (a:=a) (b:=b) (M:=4611686018427387904) oM;unfold zaY;rw [if_pos oM]
theorem zfz{n d:Int}(h:1<=d):0<=jo n 0 d/\jo n 0 d<=d:=by unfold jo;split <;> (try split) <;> omega
theorem ztv{n d f t:Int}(hd:1<=d/\d<=1099511627776)(hn:0<=n/\n<=d)(hf: -1048576<=f/\f<=1048576)(ht: -1048576<=t/\t<=1048576):
  (-2305843009213693952<=n*(t - f)/\n*(t - f)<=2305843009213693952)/\(-2097152<=zX (n*(t - f)) d/\zX (n*(t - f)) d<=2097152)/\zaY (zX (n*(t - f)) d)=zX (n*(t - f)) d:=by
 have h1:=jy (A:=d) (B:=2097152) (a:=n) (b:=t - f) oM oM;have h2:(n*(t - f)).natAbs<=2097152*d.natAbs:=oM;have h3:=zhP (M:=2097152) oM h2;exact ⟨oM,oM,zbz oM⟩
theorem zrR(f t n d:Int)(hd:1<=d/\d<=1099511627776)(hn:0<=n/\n<=d)(hf: -1048576<=f/\f<=1048576)(ht: -1048576<=t/\t<=1048576):
  zd Tryz.prog 87 [i64 f,i64 t,.ptr [i64 n],.ptr [i64 d]] [] (i64 (f+zX (n*(t - f)) d)) []:=by
 have h:=ztv hd hn hf ht;refine zc tok mix Tryz.func87 rfl rfl rfl ?_;(iterate 2 refine Ar.o ?_);refine zb.t (zI (n*(t - f)) d ⟨oM,oM⟩ ⟨oM,oM⟩) ?_;rw [h.2.2];refine Ar.o ?_;exact .refl
theorem zmz(a b:Pt)(n d:Int):zd Tryz.prog 51 [.agg (ptE a),.agg (ptE b),i64 n,i64 d] [] (.agg (ptE (zaJ a b n d))) []:=by
 have h1:=jx a.x;have h2:=jx a.y;have h3:=jx b.x;have h4:=jx b.y;refine zc tok mix Tryz.func51 rfl rfl rfl ?_;refine Dr.k ?_;refine zb.t (zcb a) ?_;refine zb.t (zcb b) ?_;refine Br.mk (fun g=>?_) (fun g=>?_)
 ·unfold zaJ;rw [if_pos (.inl g)];exact .refl
 refine Br.mk (fun g2=>?_) (fun g2=>?_)
 ·unfold zaJ;rw [if_pos (.inr g2)];exact .refl
 ·have g:¬(d < 1∨1099511627776 < d):=fun h=>h.elim g g2
  have hn:=zfz (n:=n) (d:=d) oM;refine zb.t (zrQ n 0 d) ?_;refine Dr.k ?_;refine zb.t (zrR (hI a.x) (hI b.x) (jo n 0 d) d oM hn h1 h3) ?_;refine zb.t (zrR (hI a.y) (hI b.y) (jo n 0 d) d oM hn h2 h4) ?_;unfold zaJ;rw [if_neg g];exact .refl
theorem vo(w:Int):zd Tryz.prog 249 [i64 w] [] (pr (kB w)) []:=by
 refine zc tok mix Tryz.func249 rfl rfl rfl ?_;refine Br.mk (fun h=>?_) (fun h=>ze (fun k=>h k.1));exact zF ⟨fun k=>⟨h,k⟩,fun k=>k.2⟩
theorem zAx(n:Int):zd Tryz.prog 347 [i64 n] [] (pr (zfy n)) []:=by
 refine zc tok mix Tryz.func347 rfl rfl rfl ?_;refine Br.mk (fun h=>zP (.inl h)) (fun h=>?_);exact zF ⟨fun k=>.inr k,fun k=>k.resolve_left h⟩
theorem zbA(n a b:Int):zd Tryz.prog 236 [i64 n,i64 a,i64 b] [] (pr (a<=n/\n<=b)) []:=by
 refine zc tok mix Tryz.func236 rfl rfl rfl ?_;refine Br.mk (fun h=>?_) (fun h=>ze (fun k=>h k.1));exact zF ⟨fun k=>⟨h,k⟩,fun k=>k.2⟩
theorem zy3(w:Int):zd Tryz.prog 235 [i64 w] [] (pr (kB w)) []:=by
 refine zc tok mix Tryz.func235 rfl rfl rfl ?_;refine zb.t (zbA w 1 16384) ?_;exact zF Iff.rfl
def zc9(out:List (List Sg))(s:Sg):List (List Sg):=if s.v=1 then out++[[s]] else out.dropLast++[out.getLastD []++[s]]
def subs(l:List Sg):List (List Sg):=l.foldl zc9 []
def zfA(v:Int)(q:List Pt):Sg:=⟨v,q.getD 0 zp,q.getD 1 zp,q.getD 2 zp⟩
theorem gid(i:Nat)(x:List SV)(hx:[[SV.loc 1 1],[.loc 1 3],[.loc 1 5]][i]? =some x):ren.rens [(0,some 0),(1,some 1),(2,some 2)] x=some x:=by
 match i,hx with
 | 0,hx=>cases hx;rfl
 | 1,hx=>cases hx;rfl
 | 2,hx=>cases hx;rfl
theorem zmA(v:Int)(q:List Pt):zd Tryz.prog 170 [i64 v,.sl ptE q] [] (.agg (sgE (zfA v q))) []:=by
 refine zc tok mix Tryz.func170 rfl rfl rfl ?_
 refine ⟨[[.loc 1 1],[.loc 1 3],[.loc 1 5]],rfl,Ob.mk ⟨rfl,dC,dC,dC,fun x hx=>by
  simp only [List.mem_cons,List.not_mem_nil,or_false] at hx
  rcases hx with rfl | rfl | rfl <;> rfl⟩ ?_⟩
 intro _
 refine ⟨Nat,fun i=>⟨[(15,i64 i),(14,i64 3),(13,.own 2),(5,.loc 1 0),(4,.loc 0 0),(1,.sl ptE q)],
  [(2,.garr 256 1 [[.loc 1 1],[.loc 1 3],[.loc 1 5]]),(1,.box 141 (sgE ⟨v,if 1<=i then q.getD 0 zp else zp,if 2<=i then q.getD 1 zp else zp,if 3<=i then q.getD 2 zp else zp⟩)),(0,.box 141 (sgE ⟨0,zp,zp,zp⟩))],3,32,0⟩,
  fun i=>i<=3,fun i=>3 - i,0,dC,zY [(0,some 0),(1,some 1),(2,some 2)] ⟨⟨_,rfl,rfl,fun i x hx=>?_⟩,rfl,rfl,trivial⟩,?_⟩
 ·exact ⟨x,hx,gid i x hx⟩
 rintro i hi
 have hi:i<=3:=hi;have e:i=0∨i=1∨i=2∨i=3:=oM
 rcases e with rfl | rfl | rfl | rfl
 ·refine Br.y ?_;refine Ob.mk ⟨dC,by show (0:Int) < ((3:Nat):Int);decide⟩ ?_;refine Ob.mk ⟨dC,by show (0:Int) < ((3:Nat):Int);decide⟩ ?_;intro y hy;have hy:some [SV.loc 1 1]=some y:=hy
  cases hy
  intro _;refine Br.mk (fun h1=>?_) (fun h1=>?_)
  ·refine Ob.mk ⟨dC,h1⟩ ?_;intro x hx;have hx:q[0]? =some x:=hx;have hg:q.getD 0 zp=x:=by rw [List.getD_eq_getElem?_getD,hx];rfl
   refine Ar.fit dC ?_;exact ⟨1,dC,zY [(0,some 0),(1,some 1),(2,some 2)] ⟨⟨_,rfl,rfl,fun i x hx=>⟨x,hx,gid i x hx⟩⟩,congrArg (fun p=>some (Mem.box 141 (sgE ⟨v,p,zp,zp⟩))) hg.symm,rfl,trivial⟩,dC⟩
  ·have h1:¬((0:Nat):Int) < q.length:=h1;have hg:q.getD 0 zp=zp:=by rw [List.getD_eq_getElem?_getD,List.getElem?_eq_none oM];rfl
   refine Ar.fit dC ?_;exact ⟨1,dC,zY [(0,some 0),(1,some 1),(2,some 2)] ⟨⟨_,rfl,rfl,fun i x hx=>⟨x,hx,gid i x hx⟩⟩,congrArg (fun p=>some (Mem.box 141 (sgE ⟨v,p,zp,zp⟩))) hg.symm,rfl,trivial⟩,dC⟩
 ·refine Br.y ?_;refine Ob.mk ⟨dC,by show (1:Int) < ((3:Nat):Int);decide⟩ ?_;refine Ob.mk ⟨dC,by show (1:Int) < ((3:Nat):Int);decide⟩ ?_;intro y hy;have hy:some [SV.loc 1 3]=some y:=hy
  cases hy
  intro _;refine Br.mk (fun h1=>?_) (fun h1=>?_)
  ·refine Ob.mk ⟨dC,h1⟩ ?_;intro x hx;have hx:q[1]? =some x:=hx;have hg:q.getD 1 zp=x:=by rw [List.getD_eq_getElem?_getD,hx];rfl
   refine Ar.fit dC ?_;exact ⟨2,dC,zY [(0,some 0),(1,some 1),(2,some 2)] ⟨⟨_,rfl,rfl,fun i x hx=>⟨x,hx,gid i x hx⟩⟩,congrArg (fun p=>some (Mem.box 141 (sgE ⟨v,q.getD 0 zp,p,zp⟩))) hg.symm,rfl,trivial⟩,dC⟩
  ·have h1:¬((1:Nat):Int) < q.length:=h1;have hg:q.getD 1 zp=zp:=by rw [List.getD_eq_getElem?_getD,List.getElem?_eq_none oM];rfl
   refine Ar.fit dC ?_;exact ⟨2,dC,zY [(0,some 0),(1,some 1),(2,some 2)] ⟨⟨_,rfl,rfl,fun i x hx=>⟨x,hx,gid i x hx⟩⟩,congrArg (fun p=>some (Mem.box 141 (sgE ⟨v,q.getD 0 zp,p,zp⟩))) hg.symm,rfl,trivial⟩,dC⟩
 ·refine Br.y ?_;refine Ob.mk ⟨dC,by show (2:Int) < ((3:Nat):Int);decide⟩ ?_;refine Ob.mk ⟨dC,by show (2:Int) < ((3:Nat):Int);decide⟩ ?_;intro y hy;have hy:some [SV.loc 1 5]=some y:=hy
  cases hy
  intro _;refine Br.mk (fun h1=>?_) (fun h1=>?_)
  ·refine Ob.mk ⟨dC,h1⟩ ?_;intro x hx;have hx:q[2]? =some x:=hx;have hg:q.getD 2 zp=x:=by rw [List.getD_eq_getElem?_getD,hx];rfl
   refine Ar.fit dC ?_;exact ⟨3,dC,zY [(0,some 0),(1,some 1),(2,some 2)] ⟨⟨_,rfl,rfl,fun i x hx=>⟨x,hx,gid i x hx⟩⟩,congrArg (fun p=>some (Mem.box 141 (sgE ⟨v,q.getD 0 zp,q.getD 1 zp,p⟩))) hg.symm,rfl,trivial⟩,dC⟩
  ·have h1:¬((2:Nat):Int) < q.length:=h1;have hg:q.getD 2 zp=zp:=by rw [List.getD_eq_getElem?_getD,List.getElem?_eq_none oM];rfl
   refine Ar.fit dC ?_;exact ⟨3,dC,zY [(0,some 0),(1,some 1),(2,some 2)] ⟨⟨_,rfl,rfl,fun i x hx=>⟨x,hx,gid i x hx⟩⟩,congrArg (fun p=>some (Mem.box 141 (sgE ⟨v,q.getD 0 zp,q.getD 1 zp,p⟩))) hg.symm,rfl,trivial⟩,dC⟩
 ·refine Br.mk (fun h=>absurd h dC) (fun _=>?_);exact .refl
def zqo:Sg:=⟨5,zp,zp,zp⟩
def oks:Int->List Sg->Prop
 | _,[]=>True
 | last,s::r=>js last s=0/\oks s.v r
theorem zrS:∀{l:List Sg} {last:Int} {i:Nat},(chk last i l).1=0↔oks last l
 | [],_,_=>by simp [chk,oks]
 | s::r,last,i=>by
  unfold chk oks
  by_cases h:js last s=0
  ·rw [if_neg (fun hn=>hn h),zrS];exact ⟨fun k=>⟨h,k⟩,fun k=>k.2⟩
  ·rw [if_pos h];exact ⟨fun k=>absurd k h,fun k=>absurd k.1 h⟩
theorem yg{l:List Sg}:qq l↔l.length<=256/\oks 5 l:=by
 unfold qq vM
 by_cases h:256 < l.length
 ·rw [if_pos h];exact ⟨fun k=>absurd k dC,fun k=>absurd h oM⟩
 ·rw [if_neg h,zrS];exact ⟨fun k=>⟨oM,k⟩,fun k=>k.2⟩
theorem yp{last:Int}{s:Sg}:js last s=0↔0<=nm s.v/\zbk last s.v/\zc7 s:=by
 unfold js
 by_cases h1:nm s.v < 0
 ·rw [if_pos h1];exact ⟨fun h=>absurd h dC,fun h=>by omega⟩
 ·rw [if_neg h1]
  by_cases h2:zbk last s.v
  ·rw [if_neg (fun h=>h h2)]
   by_cases h3:zc7 s
   ·rw [if_neg (fun h=>h h3)];exact ⟨fun _=>⟨oM,h2,h3⟩,fun _=>rfl⟩
   ·rw [if_pos h3];exact ⟨fun h=>absurd h dC,fun h=>absurd h.2.2 h3⟩
  ·rw [if_pos h2];exact ⟨fun h=>absurd h dC,fun h=>absurd h.2.1 h2⟩
theorem zgz{v:Int}(h:0<=nm v):v=1∨v=2∨v=3∨v=4∨v=5:=by
 unfold nm at h
 by_cases h1:v=1
 ·exact .inl h1
 rw [if_neg h1] at h
 by_cases h2:v=2
 ·exact .inr (.inl h2)
 rw [if_neg h2] at h
 by_cases h3:v=3
 ·exact .inr (.inr (.inl h3))
 rw [if_neg h3] at h
 by_cases h4:v=4
 ·exact .inr (.inr (.inr (.inl h4)))
 rw [if_neg h4] at h
 by_cases h5:v=5
 ·exact .inr (.inr (.inr (.inr h5)))
 rw [if_neg h5] at h;omega
def midV(s:Sg):Prop:=s.v=2∨s.v=3∨s.v=4
def Grp(g:List Sg)(last:Int):Prop:=
 ∃m mid,m.v=1/\(∀s∈mid,midV s)/\(∀s∈g,zc7 s)/\
  ((g=m::mid/\last≠5/\(mid=[]->last=1))∨∃c,g=m::mid++[c]/\c.v=5/\last=5/\mid≠[])
theorem zwd{g:List Sg}{last:Int}{x:Sg}(h:Grp g last)(he:js last x=0)(hv:x.v≠1):Grp (g++[x]) x.v:=by
 obtain ⟨h0,h1,h2⟩:=yp.1 he;obtain ⟨m,mid,g1,g2,g3,g4⟩:=h;have hs:last≠5/\(x.v≠5∨last≠1):=h1.resolve_left hv
 have hf:∀s∈g++[x],zc7 s:=fun s hs=>by
  rcases List.mem_append.1 hs with hs | hs
  ·exact g3 s hs
  ·simp at hs;subst hs;exact h2
 rcases g4 with ⟨rfl,g5,g6⟩ | ⟨c,_,_,g5,_⟩
 ·by_cases h5:x.v=5
  ·exact ⟨m,mid,g1,g2,hf,.inr ⟨x,rfl,h5,h5,fun e=>(hs.2.resolve_left (fun h=>h h5)) (g6 e)⟩⟩
  ·refine ⟨m,mid++[x],g1,fun s hs=>?_,hf,.inl ⟨rfl,h5,fun e=>by simp at e⟩⟩
   rcases List.mem_append.1 hs with hs | hs
   ·exact g2 s hs
   ·simp at hs;subst hs
    rcases zgz h0 with h | h | h | h | h
    ·exact absurd h hv
    ·exact .inl h
    ·exact .inr (.inl h)
    ·exact .inr (.inr h)
    ·exact absurd h h5
 ·exact absurd g5 hs.1
theorem zkU{last:Int}{x:Sg}(he:js last x=0)(hv:x.v=1):Grp [x] x.v:=
 ⟨x,[],hv,fun s hs=>(by cases hs),fun s hs=>by simp at hs;subst hs;exact (yp.1 he).2.2,.inl ⟨rfl,oM,fun _=>hv⟩⟩
def InvS(S:List (List Sg))(last:Int):Prop:=(S=[]/\last=5)∨∃cl g,S=cl++[g]/\Grp g last/\∀h∈cl,∃k,Grp h k
theorem zwe{S:List (List Sg)}{last:Int}{x:Sg}(h:InvS S last)(he:js last x=0):InvS (zc9 S x) x.v:=by
 unfold zc9
 by_cases hv:x.v=1
 ·rw [if_pos hv]
  rcases h with ⟨rfl,rfl⟩ | ⟨cl,g,rfl,h1,h2⟩
  ·exact .inr ⟨[],[x],rfl,zkU he hv,fun h hh=>by cases hh⟩
  ·refine .inr ⟨cl++[g],[x],rfl,zkU he hv,fun h hh=>?_⟩
   rcases List.mem_append.1 hh with hh | hh
   ·exact h2 h hh
   ·simp at hh;subst hh;exact ⟨_,h1⟩
 ·rw [if_neg hv]
  rcases h with ⟨rfl,rfl⟩ | ⟨cl,g,rfl,h1,h2⟩
  ·exact absurd ((yp.1 he).2.1.resolve_left hv).1 (fun h=>h rfl)
  ·exact .inr ⟨cl,g++[x],by simp,zwd h1 he hv,h2⟩
theorem zrT:∀(r:List Sg) {S:List (List Sg)} {last:Int},InvS S last->oks last r->∃k,InvS (r.foldl zc9 S) k
 | [],_,last,h,_=>⟨last,h⟩
 | _::r,_,_,h,ho=>zrT r (zwe h ho.1) ho.2
theorem zwf{l:List Sg}(h:qq l):∀g∈subs l,∃k,Grp g k:=by
 obtain ⟨k,hk⟩:=zrT l (S:=[]) (last:=5) (.inl ⟨rfl,rfl⟩) (yg.1 h).2;intro g hg;have hg:g∈l.foldl zc9 []:=hg
 rcases hk with ⟨e,_⟩ | ⟨cl,g',e,h1,h2⟩
 ·rw [e] at hg;cases hg
 ·rw [e] at hg
  rcases List.mem_append.1 hg with hg | hg
  ·exact h2 g hg
  ·simp at hg;subst hg;exact ⟨_,h1⟩
theorem zoo(S:List (List Sg))(x:Sg):(zc9 S x).flatten=S.flatten++[x]:=by
 unfold zc9
 by_cases hv:x.v=1
 ·rw [if_pos hv];simp
 ·rw [if_neg hv]
  rcases List.eq_nil_or_concat S with rfl | ⟨cl,g,rfl⟩
  ·rfl
  ·simp
theorem zkV:∀(r:List Sg) (S:List (List Sg)),(r.foldl zc9 S).flatten=S.flatten++r
 | [],S=>by simp
 | x::r,S=>by rw [List.foldl_cons,zkV r,zoo];simp
theorem ztw(l:List Sg):(subs l).flatten=l:=by
 unfold subs;rw [zkV];rfl
theorem zop{l:List Sg}(h:qq l):∀x,l[0]? =some x->x.v=1:=fun x hx=>by
 have ho:=(yg.1 h).2
 cases l with
 | nil=>cases hx
 | cons a r=>
  cases hx
  exact (yp.1 ho.1).2.1.resolve_right (fun h=>h.1 rfl)
def inR(n:Int):Prop:= -4096<=n/\n<=4096
instance (n:Int):Decidable (inR n):=inferInstanceAs (Decidable (_/\_))
def rok(a b c d:Int):Prop:=inR a/\inR b/\inR c/\inR d/\a < c/\b < d
instance (a b c d:Int):Decidable (rok a b c d):=inferInstanceAs (Decidable (_/\_))
def ve(a b c d:Int):List Sg:=if rok a b c d then [⟨1,⟨a*256,b*256⟩,zp,zp⟩,⟨2,⟨c*256,b*256⟩,zp,zp⟩,⟨2,⟨c*256,d*256⟩,zp,zp⟩,⟨2,⟨a*256,d*256⟩,zp,zp⟩,zqo] else []
def reE(a b c d:Int):List SV:=[i64 a,i64 b,i64 c,i64 d]
def uR(n:Int):List SV:=[i64 n]
theorem zBu{α:Type}{enc:α->List SV}:LE (.val (.slice none 0 0)) (.sl enc []):=fun S Pm ρ w v hg=>by
 rw [hg.val_inv];exact .d _ _ (.nil enc none)
theorem zy4(a b c d:Int):zd Tryz.prog 109 [.agg (reE a b c d)] [] (pr (¬rok a b c d)) []:=by
 refine zc tok mix Tryz.func109 rfl rfl rfl ?_;refine ⟨Int,uR,[a,b,c,d],rfl,Ob.o0 ?_⟩;intro _
 refine ⟨Nat,fun i=>⟨[(15,i64 i),(14,i64 4),(13,.own 1),(1,.loc 0 0)],[(1,.arr 3 uR 1 [a,b,c,d]),(0,.box 112 (reE a b c d))],2,38,0⟩,
  fun i=>i<=4/\∀(j:Nat) n,j < i->[a,b,c,d][j]? =some n->inR n,fun i=>4 - i,0,⟨oM,fun j n hj=>by omega⟩,zf [(0,some 0),(1,some 1)],?_⟩
 rintro i ⟨h1,h2⟩
 refine Br.mk (fun h3=>?_) (fun h3=>?_)
 ·have h3:(i:Int) < 4:=h3;refine Ob.mk ⟨oM,h3⟩ ?_;refine Ob.mk ⟨oM,h3⟩ ?_;intro n hn;have hn:[a,b,c,d][i]? =some n:=hn
  have out:¬inR n->¬rok a b c d:=fun hr ⟨r1,r2,r3,r4,_⟩=>hr (by
   have:i=0∨i=1∨i=2∨i=3:=oM
   rcases this with rfl | rfl | rfl | rfl <;> (cases hn;assumption))
  refine Br.mk (fun h4=>zP (out fun h=>by have:=h.1;omega)) (fun h4=>?_);refine Br.mk (fun h5=>zP (out fun h=>by have:=h.2;omega)) (fun h5=>?_);refine Ar.o ?_
  exact ⟨i+1,⟨oM,fun j m hj hm=>by
   by_cases e:j=i
   ·subst e;rw [hn] at hm;cases hm;exact ⟨oM,oM⟩
   ·exact h2 j m oM hm⟩,zf [(0,some 0),(1,some 1)],by dsimp only;omega⟩
 ·have h3:¬(i:Int) < 4:=h3;have h0:=h2 0 a oM rfl;have h1:=h2 1 b oM rfl;have h4:=h2 2 c oM rfl;have h5:=h2 3 d oM rfl;refine Br.mk (fun h6=>zP fun h=>by have:=h.2.2.2.2.1;omega) (fun h6=>?_);refine zF ⟨fun h7 h=>by have:=h.2.2.2.2.2;omega,fun h=>?_⟩
  by_cases h8:d<=b
  ·exact h8
  ·exact absurd ⟨h0,h1,h4,h5,oM,oM⟩ h
theorem c_at(x y:Int)(hx:inR x)(hy:inR y):zd Tryz.prog 110 [i64 x,i64 y] [] (.agg (ptE ⟨x*256,y*256⟩)) []:=by
 refine zc tok mix Tryz.func110 rfl rfl rfl ?_;unfold inR at hx hy;(iterate 2 refine Ar.o ?_);exact .refl
theorem zi3(a b c d:Int):zd Tryz.prog 64 [.agg (reE a b c d)] [] (.sl sgE (ve a b c d)) []:=by
 refine zc tok mix Tryz.func64 rfl rfl rfl ?_;have fin:∀{L:List Sg} {s:SV},ve a b c d=L->LE s (.sl sgE L)->LE s (.sl sgE (ve a b c d)):=fun e h=>e ▸ h
 refine zb.t (zy4 a b c d) ?_;refine Br.mk (fun h=>fin (if_neg h) zBu) (fun h=>?_);have h:=Decidable.not_not.1 h;have hL:=show ve a b c d=_ from if_pos h;obtain ⟨h1,h2,h3,h4,_⟩:=h;refine Dr.k ?_;refine zb.t (c_at a b h1 h2) ?_;refine zb.t (c_at c b h3 h2) ?_;refine zb.t (c_at c d h3 h4) ?_;refine zb.t (c_at a d h1 h4) ?_;refine ⟨Sg,sgE,[⟨1,⟨a*256,b*256⟩,zp,zp⟩,⟨2,⟨c*256,b*256⟩,zp,zp⟩,⟨2,⟨c*256,d*256⟩,zp,zp⟩,⟨2,⟨a*256,d*256⟩,zp,zp⟩,zqo],(by kernel_rfl),Ob.o0 ?_⟩;exact fin hL (qy rfl)
theorem zmD(n:Int):zd Tryz.prog 190 [i64 n] [] (pr (inR n)) []:=by
 refine zc tok mix Tryz.func190 rfl rfl rfl ?_;refine Br.mk (fun h=>zF ⟨fun k=>⟨h,k⟩,fun k=>k.2⟩) (fun h=>ze fun k=>h k.1)
theorem ztx(a b c d:Int):zd Tryz.prog 138 [.agg (reE a b c d)] [] (pr (inR a/\inR b/\inR c/\inR d)) []:=by
 refine zc tok mix Tryz.func138 rfl rfl rfl ?_;refine zb.t (zmD a) ?_;refine Br.mk (fun h1=>?_) (fun h1=>ze fun k=>h1 k.1);refine zb.t (zmD b) ?_;refine Br.mk (fun h2=>?_) (fun h2=>ze fun k=>h2 k.2.1);refine zb.t (zmD c) ?_;refine Br.mk (fun h3=>?_) (fun h3=>ze fun k=>h3 k.2.2.1);refine zb.t (zmD d) ?_;exact zF ⟨fun h4=>⟨h1,h2,h3,h4⟩,fun k=>k.2.2.2⟩
theorem zwg(a b c d:Int):zd Tryz.prog 92 [.agg (reE a b c d)] [] (pr (¬rok a b c d)) []:=by
 refine zc tok mix Tryz.func92 rfl rfl rfl ?_;refine zb.t (ztx a b c d) ?_;refine Br.mk (fun h=>zP fun k=>h ⟨k.1,k.2.1,k.2.2.1,k.2.2.2.1⟩) (fun h=>?_);obtain ⟨h0,h1,h4,h5⟩:=Decidable.not_not.1 h;refine Br.mk (fun h6=>zP fun h=>by have:=h.2.2.2.2.1;omega) (fun h6=>?_);refine zF ⟨fun h7 h=>by have:=h.2.2.2.2.2;omega,fun h=>?_⟩
 by_cases h8:d<=b
 ·exact h8
 ·exact absurd ⟨h0,h1,h4,h5,oM,oM⟩ h
theorem zoq(a b c d:Int):zd Tryz.prog 54 [.agg (reE a b c d)] [] (.sl sgE (ve a b c d)) []:=by
 refine zc tok mix Tryz.func54 rfl rfl rfl ?_;have fin:∀{L:List Sg} {s:SV},ve a b c d=L->LE s (.sl sgE L)->LE s (.sl sgE (ve a b c d)):=fun e h=>e ▸ h
 refine zb.t (zwg a b c d) ?_;refine Br.mk (fun h=>?_) (fun h=>?_)
 ·refine ⟨Sg,sgE,[],rfl,Ob.o8 ?_⟩;exact fin (if_neg h) .refl
 have h:=Decidable.not_not.1 h;have hL:=show ve a b c d=_ from if_pos h;obtain ⟨h1,h2,h3,h4,_⟩:=h;unfold inR at h1 h2 h3 h4;refine Dr.d ?_;(iterate 4 refine Ar.o ?_);refine Ob.mk (by kernel_rfl) ?_;refine ⟨Sg,sgE,[⟨1,⟨a*256,b*256⟩,zp,zp⟩,⟨2,⟨c*256,b*256⟩,zp,zp⟩,⟨2,⟨c*256,d*256⟩,zp,zp⟩,⟨2,⟨a*256,d*256⟩,zp,zp⟩,zqo],(by kernel_rfl),Ob.o0 ?_⟩;exact fin hL (qy rfl)
end Go.Gs
