/- Natural numbers, the other text: quotient and remainder. -/
import Derived.Test.YtdkomlilfdbahaaGreatDoorMAL
import Derived.Lib.Mul64
set_option maxRecDepth 100000
set_option maxHeartbeats 80000000
set_option linter.all false
namespace Go.Gs
open Proofs.Tryz
open Go.Proofs
def zrw{u q V d l w B qd rr nx:Nat}(h:w=V*qd+rr)(c:nx=u+B*rr)(b:V*d+l=nx)(a:q=d+B*qd):u+B*w=V*q+l:=by
 subst h;subst a;grind
def zci{xs:LB}{i:Nat}{d:Dig}(h:i<xs.length):val ((xs.set i d).drop i)=d.val+4294967296*val (xs.drop (i+1)):=by
 rw[zG,jY,Xe ⟨rfl,h⟩,List.drop_set_of_lt oM]
def ziA(a b:LB)(Z:a.length<=400000000)(hb:b.length<=400000000)(c:val b≠0):
  CX 325 [.sl dgE a,.sl dgE b] (.tup [.sl dgE (zn (val a/val b)),.sl dgE (zn (val a%val b)),i64 0]):=by
 refine zc func325<|wg (uM _ oM) λhl=>?_;have E:=zL b;refine⟨λh=>?_,λh=>?_⟩
 .have:zn (val b)=[]:=XQ.1 oM;exact absurd (yL.1 this) c
 have v:zn (val b)≠[]:=λe=>c (yL.1 e)
 have hnorm:=(zac (val b)).resolve_left v;have htop:=zcw hnorm;rw[zr]at htop;have hbits:=zhd (zn (val b));rw[zr]at hbits;have hpos:=zcv.2 c;have w:0<kD (dig (zn (val b)) ((zn (val b)).length-1)):=zcv.2 hnorm;intro L;refine wa<|wg (znN _ oM) ?_;rw[zr];refine wa ?_;obtain⟨s,R⟩:∃s:Nat,(32*((zn (val b)).length:Int)-(kD (val b):Int))=s:=⟨32*(zn (val b)).length-kD (val b),oM⟩;rw[R];have hs32:s<32:=oM;refine wg (zvD a s oM oM)<|wg (zvD (zn (val b)) s oM oM) ?_;rw[zr]
 have hpow:2^s<=4294967296^1:=by rw[zbA];exact XJ dC oM
 have hpow0:0<2^s:=Qb dC
 have hUl:(zn (val a*2^s)).length<=a.length+1:=jU (by
  rw[Kl]
  exact Xx (KZ (jm a) hpow0) (Kn _ hpow))
 have hVl:(zn (val b*2^s)).length<=b.length+1:=jU (by
  rw[Kl]
  exact Xx (KZ (jm b) hpow0) (Kn _ hpow))
 have hV0:val b*2^s≠0:=Yy c oM;have d:val a/val b=val a*2^s/(val b*2^s):=(YI _ _ hpow0).symm;have f:val a%val b=val a*2^s%(val b*2^s)/2^s:=by rw[YJ,Nat.mul_div_cancel _ hpow0]
 rw[d,f];clear d f hpow w hnorm htop hpos hbits;generalize val a*2^s=U at*;generalize val b*2^s=V at*;have A:=(zac V).resolve_left λe=>hV0 (yL.1 e)
 intro M;refine⟨Dig,dgE,0,rfl,wb7 ?_⟩;refine⟨Dig,dgE,[],rfl,Ob.mk zfR ?_⟩;intro N;refine wa ?_
 refine⟨Nat×LB×LB,λ⟨j,q,r⟩=>⟨[(13,i64 ((j:Int)-1)),(12,.own 1),(11,.own 0),(9,.sl dgE (zn U)),(10,.sl dgE (zn V)),(8,i64 s)],[(1,qC r),(0,qC q)],2,83,0⟩,
  λx=>x.1<=(zn U).length/\x.2.1.length=(zn U).length/\x.2.2.length<=(zn V).length/\val ((zn U).drop x.1)=V*val (x.2.1.drop x.1)+val x.2.2/\val x.2.2<V,λx=>x.1,
  ((zn U).length,List.replicate (zn U).length 0,[]),?_,?_,?_⟩
 .refine⟨Xj _,sI,sI,?_,by dsimp only;rw[zpt];omega⟩;dsimp only;rw[kg (Xj _),kg sI,zpt,Ky]
 .exact zt [0,1] ⟨rfl,Xg (λn=>some (qC (List.replicate n 0))) oM,tV⟩
 rintro⟨j,q,r⟩ ⟨I,B,J,g,p⟩
 dsimp only at I B J g p;refine⟨λW=>?_,λW=>?_⟩
 .refine wb λx F=>?_;rw[show((j:Int)-1).toNat=j-1 by omega]at F;have dx:=zX F;have S:=x.isLt;refine⟨Dig,dgE,[x],rfl,Ob.mk (ziy x) ?_⟩
  refine⟨Nat,λk=>⟨[(15,i64 k),(14,.own 2),(13,i64 ((j:Int)-1)),(12,.own 1),(11,.own 0),(9,.sl dgE (zn U)),(10,.sl dgE (zn V)),(8,i64 s)],[(2,qC (x::r.take k)),(1,qC r),(0,qC q)],3,83,0⟩,
   λk=>k<=r.length,λk=>r.length-k,0,?_,?_,?_⟩
  .exact Xh _
  .exact zf [0,1,2]
  intro k D;have D:k<=r.length:=D;intro O;refine⟨λX=>?_,λX=>?_⟩
  .refine wb<|wb λy(T:r[k]?=some y)=>?_;refine⟨Dig,dgE,[y],rfl,Ob.mk (ziy y) ?_⟩;refine⟨_,rfl,Ob.mk (ziz (by simp;omega)) ?_⟩;refine wa ?_
   refine⟨k+1,by show k+1<=r.length;omega,kM [(0,some 0),(1,some 1),(2,some 4)] rfl rfl rfl ⟨rfl,rfl,rfl,rfl,rfl,rfl,rfl,rfl,tV⟩
    ⟨Xg (λl=>some (qC l)) (by rw[Xn,T];rfl),rfl,rfl,tV⟩,oN⟩
  have u:k=r.length:=by omega
  subst u;have o:val (x::r)<4294967296*V:=by rw[vF];omega
  have Q:(zn (val (x::r))).length<=r.length+1:=zL (x::r);refine zb.fresh _ _ (jM _ (by simp;omega)) rfl (qW _) (.inr (qM _)) ?_;rw[Kc];refine zb.fresh _ _ (zz7 _ (zn V) oM oM A (by rw[zr,zr];exact o)) rfl (qW _) (.inr (qM _)) ?_;rw[zr,zr];have i:val (x::r)/V<4294967296:=by rw[X3 oM];exact o
  have m:val (x::r)%V<V:=Kq _ oM;have t:=Kh (val (x::r)) V;generalize val (x::r)/V=dq at*;generalize P:val (x::r)%V=Y at*;refine wa<|wb<|wb λz hz=>?_;refine⟨dof dq,Xg (λn=>[u32 n]) (by rw[kA,XB i]),?_⟩;refine wa ?_
  refine⟨(j-1,q.set (j-1) (dof dq),zn Y),⟨oN,by simp[B],qw (YW m),?_,by dsimp only;rw[zr];exact m⟩,
   zQ [0,4] ⟨iR oM,rfl,rfl,rfl,rfl,rfl,tV⟩ ⟨rfl,Xg (λn=>some (qC (q.set n _))) oM,tV⟩,oN⟩
  dsimp only;rw[zr,zG (zn U),dx,show j-1+1=j by omega];refine zrw g (vF x r) t ?_;rw[zci oM,kA,XB i,show j-1+1=j by omega]
 have K:j=0:=by omega
 subst K;rw[Qd,Qd,zr]at g;refine zb.fresh _ _ (jM _ oM) rfl (qW _) (.inr (qM _))<|wa<|zb.fresh _ _ (zGG r s oM oM) rfl (qW _) (.inr (qM _)) ?_
 have G:val q=U/V:=by
  rw[g,QJ oM,Kr p,XX]
 have H:val r=U%V:=by
  rw[g,QK,XB p]
 exact zaQ (.cons (z6 (by rw[G])) (.cons (z6 (by rw[H])) (.C .nil)))
structure BI where
 neg:Bool
 mag:LB
 deriving DecidableEq
def BI.v(a:BI):Int:=if a.neg then-(val a.mag:Int) else val a.mag
def ofZ(z:Int):BI:=⟨decide (z<0),zn z.natAbs⟩
def z5(z:Int):(ofZ z).v=z:=by
 unfold BI.v ofZ;simp only[zr,decide_eq_true_eq]
 split <;> omega
def BI.v_abs(a:BI):a.v.natAbs=val a.mag:=by unfold BI.v;split <;> omega
def BI.v_eq(a:BI):(a.neg=true/\a.v= -(val a.mag:Int))∨(a.neg=false/\a.v=(val a.mag:Int)):=by
 unfold BI.v;cases a.neg <;> simp
def za8(z:Int):(ofZ z).neg=true↔z<0:=by simp[ofZ]
def jZ(z:Int):(ofZ z).mag=zn z.natAbs:=rfl
def jx(z:Int):Nat:=(zn z.natAbs).length
def zpw{z:Int}{k:Nat}(h:z.natAbs<4294967296^k):jx z<=k:=jU h
def zhe{z:Int}{k:Nat}(h:jx z<=k):z.natAbs<4294967296^k:=zdc h
def zaA(z:Int):jx (-z)=jx z:=by simp[jx]
def qc(x y:Int):jx (x*y)<=jx x+jx y:=by
 refine zpw ?_;rw[QN,Kl];exact Qn (zhe (Xj _)) (zhe (Xj _))
def zhf(x y:Int):jx (x+y)<=max (jx x) (jx y)+1:=by
 refine zpw ?_;have a:=zhe (Jm (jx x) (jx y));have b:=zhe (Q9 (jx x) (jx y));rw[X4];have:=Int.natAbs_add_le x y;omega
def zlk(x y:Int):jx (x-y)<=max (jx x) (jx y)+1:=by
 have:=zhf x (-y)
 rwa [zaA,←Jn]at this
def zaR(a:BI):jx a.v<=a.mag.length:=by
 unfold jx;rw[BI.v_abs];exact zL _
def zcx{x y:Int}(h:x.natAbs<=y.natAbs):jx x<=jx y:=qw h
def jw{n:Int}(h: -9223372036854775808<=n/\n<=9223372036854775807):jx n<=2:=zpw (by
 rw[show 4294967296^2=18446744073709551616 by decide];omega)
def z8(a b:Int):Int:=
 if a<0↔b<0 then((2*a.natAbs+b.natAbs)/(2*b.natAbs):Nat) else-((2*a.natAbs+b.natAbs)/(2*b.natAbs):Nat)
def zeh(a b:Int):(z8 a b).natAbs=(2*a.natAbs+b.natAbs)/(2*b.natAbs):=by
 unfold z8;generalize (2*a.natAbs+b.natAbs)/(2*b.natAbs)=q
 split <;> omega
def biE(a:BI):LR:=[pr (a.neg=true),.sl dgE a.mag]
def zaS(p:Prop)[i:Decidable p](m:LB)(a:m.length<=1000000000):
  CX 257 [.pr p i,.sl dgE m] (.agg (biE (ofZ (if p then-(val m:Int) else val m)))):=by
 refine zc func257<|wg (uM m a)<|⟨λh=>?_,λh=>?_⟩
 .intro b;refine jk (.cons (zC ?_) (.cons (z6 ?_) .nil))
  .rw[Xe h,za8];have:=jL (n:=val m);omega
  rw[Xe h,jZ];congr 1;omega
 refine jk (.cons (zd ?_) (.cons (z6 ?_) .nil))
 .rw[Xc h,za8];omega
 rw[Xc h,jZ];congr 1
def zvE(a:BI)(b:a.mag.length<=1000000000):
  CX 257 [pr (a.neg=true),.sl dgE a.mag] (.agg (biE (ofZ a.v))):=zaS (a.neg=true) a.mag b
def dTwo(c d:Dig):[c,d].length=2/\2<=281474976710656/\2*1<=16777216/\0<1/\∀x∈[c,d],(dgE x).length=1/\yc (dgE x)=true/\yf.flats (dgE x)=true:=
 ⟨rfl,dC,dC,dC,λ_ _=>⟨rfl,rfl,rfl⟩⟩
def zpx(m:Nat)(h:m<18446744073709551616):val [dof m,dof (m/4294967296)]=m:=by
 simp only[val,kA];omega
def jV(n:Int)(a:R64 n):CX 189 [i64 n] (.agg (biE (ofZ n))):=by
 refine zc func189<|Ar.wrap<|Br.mk (λh=>?_) (λh=>?_)
 .refine Ar.wrap ?_;have e:IntKind.u64.wrap (0-IntKind.u64.wrap n)=((n.natAbs:Nat):Int):=by rw[yr,yr];omega
  refine Ar.wrap<|wb1<|Ar.wrap<|⟨Dig,dgE,[dof n.natAbs,dof (n.natAbs/4294967296)],congr (Xg (λn m=>[u32 n,u32 m]) (zbB e)) (zbB (by rw[e];simp only[Int.reducePow];omega)),Ob.mk (dTwo _ _) ?_⟩;refine zb.see 1 _ (zaS (n<0) [dof n.natAbs,dof (n.natAbs/4294967296)] sI) rfl rfl rfl ?_;rw[Xe h,zpx _ oM,show(-(n.natAbs:Int))=n by omega];exact .refl
 have e:IntKind.u64.wrap n=((n.natAbs:Nat):Int):=by rw[yr];omega
 refine Ar.wrap<|wb1<|Ar.wrap<|⟨Dig,dgE,[dof n.natAbs,dof (n.natAbs/4294967296)],congr (Xg (λn m=>[u32 n,u32 m]) (zbB e)) (zbB (by rw[e];simp only[Int.reducePow];omega)),Ob.mk (dTwo _ _) ?_⟩;refine zb.see 1 _ (zaS (n<0) [dof n.natAbs,dof (n.natAbs/4294967296)] sI) rfl rfl rfl ?_;rw[Xc h,zpx _ oM,show(n.natAbs:Int)=n by omega];exact .refl
def zdd(a:BI)(c:a.mag.length<=1000000000):CX 199 [.agg (biE a)] (i64 a.v.sign):=by
 refine zc func199<|wg (zvE a c) λf=>?_;have e:=jL (n:=a.v.natAbs);refine⟨λh=>?_,λh=>?_⟩
 .have:a.v=0:=by rw[jZ]at h;omega
  exact ze (by rw[this];rfl)
 have d:a.v≠0:=by rw[jZ]at h;omega
 refine⟨λb=>?_,λb=>?_⟩
 .rw[za8]at b;exact ze (Ko b).symm
 rw[za8]at b;exact ze (Kx oM).symm
def zFM(a b:BI):(if¬(a.neg=true↔b.neg=true) then-((val a.mag*val b.mag:Nat):Int) else((val a.mag*val b.mag:Nat):Int))=a.v*b.v:=by
 obtain⟨c,d⟩|⟨c,d⟩:=a.v_eq <;> obtain⟨e,f⟩|⟨e,f⟩:=b.v_eq <;> simp[c,d,e,f,Int.neg_mul,QQ]
def zde(a b:BI)(c:a.mag.length<=400000000)(d:b.mag.length<=400000000):CX 186 [.agg (biE a),.agg (biE b)] (.agg (biE (ofZ (a.v*b.v)))):=by
 refine zc func186<|wc<|wg (zDL a.mag b.mag c d) ?_
 have e:(zn (val a.mag*val b.mag)).length<=1000000000:=by
  refine XC (jU (k:=a.mag.length+b.mag.length) ?_) oM;rw[Kl];exact Qn (jm _) (jm _)
 refine wg (zaS (¬(a.neg=true↔b.neg=true)) _ e) ?_;rw[zr,zFM];exact .refl
def zGH(a b:BI)(k:b.v≠0):(if¬(a.neg=true↔b.neg=true) then-(((val a.mag+val a.mag+val b.mag)/(val b.mag+val b.mag):Nat):Int) else(((val a.mag+val a.mag+val b.mag)/(val b.mag+val b.mag):Nat):Int))=z8 a.v b.v:=by
 unfold z8;rw[BI.v_abs,BI.v_abs,Nat.two_mul,Nat.two_mul]
 by_cases g:val a.mag=0
 .have e:(val a.mag+val a.mag+val b.mag)/(val b.mag+val b.mag)=0:=by
   rw[g];refine Kr ?_
   obtain⟨c,d⟩|⟨c,d⟩:=b.v_eq <;> omega
  rw[e];simp
 generalize ((val a.mag+val a.mag+val b.mag)/(val b.mag+val b.mag))=q
 have e:(a.neg=true↔b.neg=true)↔(a.v<0↔b.v<0):=by
  obtain⟨c,d⟩|⟨c,d⟩:=a.v_eq <;> obtain⟨f,i⟩|⟨f,i⟩:=b.v_eq <;> simp only[c,f] <;> simp <;> omega
 by_cases h:(a.v<0↔b.v<0)
 .rw[Xc (not_not_intro (e.2 h)),Xe h]
 rw[Xe (λj=>h (e.1 j)),Xc h]
def zcy{a b:LB}{k:Nat}(c:a.length<=k)(d:b.length<=k):(zn (val a+val b)).length<=k+1:=by
 refine jU ?_;have e:=Xx (jm a) (XJ (show 0<4294967296 by decide) c);have f:=Xx (jm b) (XJ (show 0<4294967296 by decide) d);rw[X4];omega
def zrx(a b:BI)(e:a.mag.length<=300000000)(f:b.mag.length<=300000000)(d:b.v≠0):
  CX 455 [.agg (biE a),.agg (biE b)] (.tup [.agg (biE (ofZ (z8 a.v b.v))),i64 0]):=by
 refine zc func455 ?_;refine wg (zdd b oM) ?_;refine⟨λh=>absurd (K7.1 h) d,λ_=>?_⟩;refine wc ?_;have j:=zcy e e;have m:=zcy f f;have k:=zcy j (show b.mag.length<=_ by omega);rw[zr]at k;have c:val b.mag+val b.mag≠0:=by obtain⟨g,i⟩|⟨g,i⟩:=b.v_eq <;> omega
 refine wg (zkc a.mag a.mag oM oM)<|wg (zkc _ b.mag oM oM)<|wg (zkc b.mag b.mag oM oM) ?_;rw[zr];refine wg (ziA _ _ oM oM (by rw[zr];exact c)) ?_;rw[zr,zr];have l:(zn ((val a.mag+val a.mag+val b.mag)/(val b.mag+val b.mag))).length<=1000000000:=XC (qw (Qg _ _)) oM;refine wg (zaS (¬(a.neg=true↔b.neg=true)) _ l) ?_;rw[zr,zGH a b d];exact .refl
def zll{x y:Nat}(a:x<18446744073709551616)(b:y<18446744073709551616):vy .or .u64 x y=((x|||y:Nat):Int):=by
 show IntKind.u64.wrap ((BitVec.ofInt 64 x|||BitVec.ofInt 64 y).toNat:Nat)=_;have h:x|||y<2^64:=Nat.or_lt_two_pow a b
 have e:(BitVec.ofInt 64 x|||BitVec.ofInt 64 y).toNat=x|||y:=by
  rw[BitVec.toNat_or,Qh,Qh];congr 1
  .omega
  omega
 rw[e,yr];omega
def ub(z:Int):Int:=if-9223372036854775808<=z/\z<=9223372036854775807 then z else 0
def zlm(a:BI)(t:a.mag.length<=1000000000):
  CX 286 [.agg (biE a)] (.tup [i64 (ub a.v),pr (-9223372036854775808<=a.v/\a.v<=9223372036854775807)]):=by
 refine zc func286<|wg (zvE a t) ?_;generalize a.v=z
 have c:¬(-9223372036854775808<=z/\z<=9223372036854775807)->LE (.tup [i64 0,bl false]) (.tup [i64 (ub z),pr (-9223372036854775808<=z/\z<=9223372036854775807)]):=λh=>
  zP (ze (by rw[ub,Xc h])) (zd h)
 refine⟨Nat,λi=>⟨[(6,i64 i),(5,u64 (val ((zn z.natAbs).take i))),(4,.loc 1 0)],[(1,.box 47 (biE (ofZ z))),(0,.box 47 (biE a))],2,51,0⟩,
  λi=>i<=2/\i<=(zn z.natAbs).length,λi=>2-i,0,?_,?_,?_⟩
 .exact⟨oM,Xh _⟩
 .exact zf [0,1]
 rintro i ⟨s,F⟩
 intro H;refine⟨λl=>?_,λl=>?_⟩
 .have l:i<(zn z.natAbs).length:=by rw[jZ]at l;omega
  refine⟨λq=>?_,λq=>?_⟩
  .refine c λG=>?_
   have:=jU (n:=z.natAbs) (k:=2) (by rw[show 4294967296^2=18446744073709551616 by decide];omega);omega
  refine Ob.mk (by rw[jZ];omega) λx(u:(zn z.natAbs)[i]?=some x)=>?_;have dx:=zX u;have w:=x.isLt;have ht:=qZ (zn z.natAbs) i;have d:=zU (zn z.natAbs) i;rw[dx]at d
  have key:∀n:Int,n=32*i->0<=n/\n<64/\0<=(x.val:Int)*2^n.toNat/\(x.val:Int)*2^n.toNat<=18446744073709551615/\
    vy .or .u64 (val ((zn z.natAbs).take i)) ((x.val:Int)*2^n.toNat)=val ((zn z.natAbs).take (i+1)):=λn f=>by
   have:i=0∨i=1:=oM
   rcases this with rfl|rfl
   .have:n=0:=by omega
    subst this;rw[d];have e:=zll (x:=0) (y:=x.val) oM oM;have p:(x.val:Int)*2^(0:Int).toNat=(x.val:Int):=by simp
    rw[p,znd];refine⟨oM,oM,oM,oM,?_⟩;rw[e];simp
   have:n=32:=by omega
   subst this;rw[d];have e:=zll (x:=val ((zn z.natAbs).take 1)) (y:=4294967296*x.val) oM oM;have o:=Qj (i:=32) (b:=val ((zn z.natAbs).take 1)) (by rw[show 2^32=4294967296 by decide];omega) x.val;rw[show 2^32=4294967296 by decide]at o
   have r:(x.val:Int)*2^(32:Int).toNat=((4294967296*x.val:Nat):Int):=by
    rw[show(32:Int).toNat=32 by decide];simp only[Int.reducePow];omega
   rw[r];refine⟨oM,oM,oM,oM,?_⟩;rw[e,Nat.or_comm,←o];omega
  obtain⟨A,B,C,D,E⟩:=key (32*i) rfl;(iterate 3 refine wa ?_);refine Ob.mk ⟨A,B⟩<|Ar.fit ⟨C,D⟩<|⟨_,E.symm,?_⟩;exact wa<|⟨i+1,⟨oM,oM⟩,zf [0,1],oN⟩
 have q:(zn z.natAbs).length=i:=by rw[jZ]at l;omega
 have e:val ((zn z.natAbs).take i)=z.natAbs:=by rw[kY oM,zr]
 have I:z.natAbs<18446744073709551616:=by
  have:=qZ (zn z.natAbs) i;rw[e]at this;refine Xx this (XC (XJ dC s) dC)
 have good:∀n:Int,n=z-> -9223372036854775808<=z/\z<=9223372036854775807->LE (.tup [i64 n,bl true]) (.tup [i64 (ub z),pr (-9223372036854775808<=z/\z<=9223372036854775807)]):=λn f h=>
  zP (ze (by rw[ub,Xe h,f])) (zH h)
 have f:=za8 z;refine⟨λg=>?_,λg=>?_⟩
 .rw[f]at g;refine⟨λm=>?_,λm=>?_⟩
  .refine Ar.wrap<|Ar.wrap<|good _ ?_ oM;rw[e,yr];show IntKind.i64.wrap _=_;simp only[IntKind.wrap,IntKind.bits,IntKind.signed];simp;omega
  refine⟨λj=>absurd (f.2 g) j,λ_=>c oM⟩
 refine⟨λj=>?_,λj=>absurd (λh=>g h) j⟩;rw[f]at g;refine⟨λm=>?_,λm=>c oM⟩;exact wa<|good _ oM oM
def ziB(a b c:Int)(d:R64 a)(e:R64 b)(f:R64 c):CG0 408 [i64 a,i64 b,i64 c] []
  (.tup [i64 (ub (z8 (a*b) c)),pr (c≠0/\ -9223372036854775808<=z8 (a*b) c/\z8 (a*b) c<=9223372036854775807)]) []:=by
 refine zc func408<|Br.mk (λh=>?_) (λh=>?_)
 .refine zP (ze ?_) (zd λl=>l.1 h);subst h;simp[z8,ub]
 have n:=jw d;have o:=jw e;have p:=jw f;have q:=qc a b;unfold jx at n o p q;refine wg (jV a d)<|wg (jV b e)<|wg (zde (ofZ a) (ofZ b) (by rw[jZ];omega) (by rw[jZ];omega)) ?_;rw[z5,z5];refine wg (jV c f)<|wg (zrx (ofZ (a*b)) (ofZ c) (by rw[jZ];omega) (by rw[jZ];omega) (by rw[z5];exact h)) ?_;rw[z5,z5]
 have r:(zn (z8 (a*b) c).natAbs).length<=6:=by
  refine jU (Qi (m:=2*(a*b).natAbs+c.natAbs) ?_ ?_)
  .rw[zeh];exact Qg _ _
  have p1:=zhe (z:=a*b) (k:=4) (by unfold jx;omega);have i:4294967296^4=340282366920938463463374607431768211456:=dC;have j:4294967296^6=6277101735386680763835789423207666416102355444464034512896:=dC;rw[i]at p1;rw[j];omega
 refine wg (zlm (ofZ (z8 (a*b) c)) (by rw[jZ];omega)) ?_;rw[z5];exact zP .refl (zC ⟨λg=>⟨h,g⟩,λg=>g.2⟩)
def ul(a b:Int)(c:R64 a)(d:R64 b):CX 350 [i64 a,i64 b] (i64 (ub (z8 a b))):=by
 refine zc func350<|wg (ziB a 1 b c dC d) ?_;rw[Int.mul_one];exact .refl
def zln(n:Int)(a:R64 n):CX 487 [i64 n] (u64 (n.natAbs:Nat)):=by
 refine zc func487<|Br.mk (λh=>?_) (λh=>?_)
 .exact Ar.wrap<|Ar.wrap<|ze (by rw[yr,yr];omega)
 exact wa<|ze oM
def zvF(x:Nat):vy .and .u64 x 4294967295=((x%4294967296:Nat):Int):=by
 have e:(BitVec.ofInt 64 x&&&BitVec.ofInt 64 4294967295).toNat=x%4294967296:=by
  rw[BitVec.toNat_and];have a:(BitVec.ofInt 64 4294967295).toNat=2^32-1:=dC;rw[a,JM,Qh];rw[show(2:Nat)^32=4294967296 by decide];omega
 show IntKind.u64.wrap ((BitVec.ofInt 64 x&&&BitVec.ofInt 64 4294967295).toNat:Nat)=_;rw[e,yr];omega
def zvG(x y:Nat)(g:x<18446744073709551616)(h:y<18446744073709551616):
  CX 480 [u64 x,u64 y] (.tup [u64 (x*y/18446744073709551616:Nat),u64 (x*y%18446744073709551616:Nat)]):=by
 refine zc func480 ?_;obtain⟨w,z,A,r⟩:=Go.Lib.mul64_hi x y g h;have v:(x/4294967296)*(y%4294967296)<=(x/4294967296)*(y%4294967296)+(x%4294967296)*(y%4294967296)/4294967296:=Q8 _ _
 have B:x*y/18446744073709551616<18446744073709551616:=by
  rw[X3 dC];exact Qn g h
 refine⟨_,(zvF x).symm,?_⟩;refine wb1<|⟨_,(zvF y).symm,?_⟩;refine wb1 ?_;have ex:(x:Int)/2^32=((x/4294967296:Nat):Int):=by simp
 have ey:(y:Int)/2^32=((y/4294967296:Nat):Int):=by simp
 have u:=Go.Lib.half_mul_le (a:=x%4294967296) (b:=y/4294967296) oM oM;have s:=Go.Lib.half_mul_le (a:=x/4294967296) (b:=y/4294967296) oM oM;rw[ex,ey];generalize o:x/4294967296=f at*;generalize n:x%4294967296=d at*;generalize q:y/4294967296=i at*;generalize p:y%4294967296=c at*;(iterate 2 refine wa ?_);refine wb1 ?_;have j:((d:Int)*(c:Int))/2^32=((d*c/4294967296:Nat):Int):=by simp
 rw[j];generalize d*c/4294967296=e at*;refine wa ?_;have k:(f:Int)*(c:Int)+(e:Int)=((f*c+e:Nat):Int):=by simp
 rw[k];generalize f*c+e=t at*;refine⟨_,(zvF t).symm,?_⟩;refine wb1 ?_;have l:(t:Int)/2^32=((t/4294967296:Nat):Int):=by simp
 rw[l];(iterate 4 refine wa ?_);refine wb1 ?_;have m:(((t%4294967296:Nat):Int)+(d:Int)*(i:Int))/2^32=(((t%4294967296+d*i)/4294967296:Nat):Int):=by simp
 rw[m];refine wa<|Ar.wrap<|zP (ze ?_) (ze ?_)
 .rw[←r];simp
 rw[yr];simp
def zDN(lo y:Nat)(a:lo<18446744073709551616)(c:y<18446744073709551616)(b:y≠0):
  CX 496 [u64 (0:Nat),u64 lo,u64 y] (.tup [u64 (lo/y:Nat),u64 (lo%y:Nat)]):=by
 refine zc func496<|Br.mk (λh=>absurd h oM) (λ_=>?_);refine⟨λh=>absurd h oM,λ_=>?_⟩;refine⟨λ_=>?_,λh=>absurd rfl h⟩;exact wc<|Dv.pos ⟨oM,oM,by show _<=(18446744073709551615:Int);omega⟩<|Dv.pos ⟨oM,oM⟩<|zP (ze sI) (ze sI)
def rup(lo by_:Nat):Nat:=(2*lo+by_)/(2*by_)
def zz8{lo y:Nat}(a:y≠0):rup lo y=if y<=2*(lo%y) then lo/y+1 else lo/y:=by
 unfold rup;have e:=Kh lo y;have b:=Kq lo (Ki a);generalize lo/y=q at*;generalize lo%y=r at*;subst e;have p:2*(y*q+r)+y=2*y*q+(2*r+y):=by rw[KP,KM];omega
 rw[p,QJ oM]
 split
 .have:(2*r+y)/(2*y)=1:=by
   rw[Nat.div_eq_iff oM];omega
  omega
 have:(2*r+y)/(2*y)=0:=Kr oM;omega
def zGI(lo y:Nat)(c:lo<=9223372036854775808)(d:y<18446744073709551616)(a:y≠0):
  CX 489 [.agg [u64 (0:Nat),u64 lo,u64 y]] (.tup [u64 (rup lo y:Nat),bl true]):=by
 refine zc func489<|Br.mk (λh=>absurd h oM) (λ_=>?_);refine wg (zDN lo y oM d a) ?_;have e:=Qg lo y;have f:=Kq lo (Ki a);have b:=zz8 (lo:=lo) a;generalize rup lo y=u at*;generalize lo/y=q at*;generalize lo%y=r at*;refine wa<|Br.mk (λh=>?_) (λh=>?_)
 .rw[Xe oM]at b;exact wa<|zP (ze oM) (zzP oM)
 rw[Xc oM]at b;exact zP (ze oM) .refl
def zz9(p:Prop)[i:Decidable p](lo y:Nat)(f:lo<=9223372036854775808)(q:y<18446744073709551616)(j:y≠0):
  CG0 488 [.pr p i,.val (.func (.func 489) #[.agg #[.int .u64 (0:Nat),.int .u64 (lo:Nat),.int .u64 (y:Nat)]] #[])] []
   (.tup [i64 (ub (if p then-(rup lo y:Int) else rup lo y)),pr (-9223372036854775808<=(if p then-(rup lo y:Int) else rup lo y)/\(if p then-(rup lo y:Int) else rup lo y)<=9223372036854775807)]) []:=by
 refine zc func488<|wg (zGI lo y f q j) ?_
 have s:rup lo y<18446744073709551616:=by
  rw[zz8 j];have:=Qg lo y
  split <;> omega
 generalize rup lo y=u at*
 have c:∀z:Int,¬(-9223372036854775808<=z/\z<=9223372036854775807)->LE (.tup [i64 0,bl false]) (.tup [i64 (ub z),pr (-9223372036854775808<=z/\z<=9223372036854775807)]):=λz h=>
  zP (ze (by rw[ub,Xc h])) (zd h)
 have good:∀n z:Int,n=z-> -9223372036854775808<=z/\z<=9223372036854775807->LE (.tup [i64 n,bl true]) (.tup [i64 (ub z),pr (-9223372036854775808<=z/\z<=9223372036854775807)]):=λn z o h=>
  zP (ze (by rw[ub,Xe h,o])) (zH h)
 refine⟨λh=>c _ (by split <;> omega),λh=>?_⟩
 have tail:(u:Int)<=9223372036854775808->((u:Int)=9223372036854775808->p)->IntKind.i64.wrap (IntKind.u64.wrap (-(u:Int)))= -(u:Int)/\(¬p->(u:Int)<=9223372036854775807):=λr m=>by
  refine⟨?_,λb=>?_⟩
  .rw[yr];simp only[IntKind.wrap,IntKind.bits,IntKind.signed];simp;omega
  by_cases e:(u:Int)=9223372036854775808
  .exact absurd (m e) b
  omega
 refine⟨λk=>?_,λk=>?_⟩
 .refine⟨λd=>c _ (by rw[Xc d];omega),λd=>?_⟩;have b:=Xa.1 d;obtain⟨g,l⟩:=tail oM (λ_=>b);refine⟨λ_=>?_,λa=>absurd b a⟩;exact Ar.wrap<|Ar.wrap<|good _ _ (by rw[Xe b];exact g) (by rw[Xe b];omega)
 obtain⟨g,l⟩:=tail oM (λh=>absurd h k);refine⟨λa=>?_,λa=>?_⟩
 .exact Ar.wrap<|Ar.wrap<|good _ _ (by rw[Xe a];exact g) (by rw[Xe a];omega)
 have:=l a;exact wa<|good _ _ (by rw[Xc a]) (by rw[Xc a];omega)
def zAa(a c:Int):(if¬(¬(a<0↔(1:Int)<0)↔c<0) then-(rup a.natAbs c.natAbs:Int) else(rup a.natAbs c.natAbs:Int))=z8 a c:=by
 unfold z8;show _=if a<0↔c<0 then((rup a.natAbs c.natAbs:Nat):Int) else-((rup a.natAbs c.natAbs:Nat):Int)
 generalize (rup a.natAbs c.natAbs:Int)=u
 by_cases b:a<0 <;> by_cases d:c<0 <;> simp[b,d]
def zxF(a c:Int)(d:R64 a)(e:R64 c):CG0 473 [i64 a,i64 1,i64 c] []
  (.tup [i64 (ub (z8 a c)),pr (c≠0/\ -9223372036854775808<=z8 a c/\z8 a c<=9223372036854775807)]) []:=by
 refine zc func473<|Br.mk (λh=>?_) (λh=>?_)
 .refine zP (ze ?_) (zd λb=>b.1 h);subst h;simp[z8,ub]
 refine wg (zln a d)<|wg (zln 1 dC)<|wg (zvG a.natAbs (1:Int).natAbs oM oM) ?_;rw[show(1:Int).natAbs=1 by rfl,Jq,Kr (show a.natAbs<18446744073709551616 by omega),XB (show a.natAbs<18446744073709551616 by omega)];refine wg (zln c e)<|wg (zz9 (¬(¬(a<0↔(1:Int)<0)↔c<0)) a.natAbs c.natAbs oM oM oM) ?_;rw[zAa a c];exact zP .refl (zC ⟨λg=>⟨h,g⟩,λg=>g.2⟩)
def u3(a b:Int)(c:R64 a)(d:R64 b):CX 430 [i64 a,i64 b] (i64 (ub (z8 a b))):=by
 exact zc func430<|wg (zxF a b c d)<|.refl
def zpy(a:LB)(k:a.length<=1000000000):CX 414 [.sl dgE a] (.full dgE (zn (val a))):=by
 refine zc func414 λj=>?_;refine⟨Nat,λn=>⟨[(3,i64 n),(0,.sl dgE a)],[],0,22,0⟩,λn=>n<=a.length/\∀i,n<=i->dig a i=0,λn=>n,a.length,?_,?_,?_⟩
 .exact⟨Xj _,λi h=>za7 h⟩
 .exact zB []
 rintro n ⟨f,c⟩
 have post:(n=0∨dig a (n-1)≠0)->((a.drop (0:Int).toNat).take ((n:Int)-0).toNat)=zn (val a):=λb=>by
  rw[←zlh b f c];simp
 refine⟨λb=>?_,λb=>?_⟩
 .refine wa<|wb λx d=>?_;rw[show((n:Int)-1).toNat=n-1 by omega]at d;have dx:=zX d;refine⟨λg=>?_,λg=>?_⟩
  .refine wa<|⟨n-1,⟨oM,λi hi=>?_⟩,jv [] ⟨iR oM,rfl,tV⟩ trivial,oN⟩
   by_cases e:i=n-1
   .subst e;rw[dx];omega
   exact c i oM
  refine zzt.full (Ob.mk ⟨⟨oM,oM,rfl,oM⟩,λ_ _=>rfl⟩ ?_);exact zvz (post (.inr oM))
 refine zzt.full (Ob.mk ⟨⟨oM,oM,rfl,oM⟩,λ_ _=>rfl⟩ ?_);exact zvz (post (.inl oM))
def jE(a:LB)(b:a.length<=1000000000):CX 414 [.sl dgE a] (.sl dgE (zn (val a))):=(zpy a b).le (zdb rfl)
def zpz(q:LB)(b:q.length<=1000000000):CX 215 [.sl dgE q] (.sl dgE q):=by
 refine zc func215 ?_
 by_cases a:q=[]
 .refine zcn.any (Br.mk ?_ ?_)
  .subst a;exact zD
  refine⟨Dig,dgE,[],rfl,Ob.mk zfR ?_⟩;refine⟨q,rfl,Ob.mk (ziz (by simp only[Xo];omega)) ?_⟩;exact z6 rfl
 refine zcn.some (λh=>a (Xq h))<|⟨Dig,dgE,[],rfl,Ob.mk zfR ?_⟩;refine⟨q,rfl,Ob.mk (ziz (by simp only[Xo];omega)) ?_⟩;exact z6 rfl
def zaB(a:LB)(b:a.length<=1000000000):CX 357 [.sl dgE a] (.sl dgE (zn (val a))):=by
 exact zc func357<|wg (jE a b)<|wg (zpz _ (by have:=zL a;omega))<|.refl
def zfb(n:Nat)(a:n<18446744073709551616):CX 393 [u64 n] (.sl dgE (zn n)):=by
 refine zc func393<|Ar.wrap<|wb1<|Ar.wrap<|⟨Dig,dgE,[dof n,dof (n/4294967296)],congr (Xg (λn m=>[u32 n,u32 m]) (zbB rfl)) (zbB (by simp only[Int.reducePow];omega)),Ob.mk (dTwo _ _) ?_⟩;refine zb.see 0 _ (zaB [dof n,dof (n/4294967296)] sI) rfl rfl rfl ?_;rw[zpx _ a];exact .refl
def zfc(a:LB)(i:Int)(hi:0<=i):CX 471 [.sl dgE a,i64 i] (u64 (dig a i.toNat)):=by
 refine zc func471 λc=>?_;refine⟨λh=>?_,λh=>?_⟩
 .refine wb λx b=>?_;have:=x.isLt;exact wa<|ze (by rw[zX b])
 exact ze (by rw[za7 oM];rfl)
def zlo{A B:Nat}(h:(zn A).length<(zn B).length):A<B:=by
 have a:=zdc (n:=A) (Xj _);have b:=zpu (n:=B) (λe=>by rw[e,yd]at h;simp at h);exact Xx a (XC (XJ dC oM) b)
def zFN(a b:LB)(q:a.length<=1000000000)(r:b.length<=1000000000):
  CX 465 [.sl dgE a,.sl dgE b] (i64 (zhb (val a) (val b))):=by
 refine zc func465<|wg (jE a q)<|wg (jE b r) ?_;have la:=zL a;have lb:=zL b;generalize val a=A at*;generalize val b=B at*;intro t u;refine⟨λl=>?_,λl=>?_⟩
 .intro v w;refine⟨λo=>?_,λo=>?_⟩
  .have:=zlo (A:=A) (B:=B) oM;exact ze (by rw[zhb,Xe this])
  have:=zlo (A:=B) (B:=A) oM;exact ze (by rw[zhb,Xc oM,Xe this])
 have l:(zn A).length=(zn B).length:=oM;intro z;refine wa<|⟨Nat,λj=>⟨[(5,i64 ((j:Int)-1)),(0,.sl dgE (zn A)),(1,.sl dgE (zn B))],[],0,45,0⟩,λj=>j<=(zn A).length/\∀i,j<=i->dig (zn A) i=dig (zn B) i,λj=>j,(zn A).length,?_,?_,?_⟩
 .exact⟨oM,λi hi=>by rw[za7 oM,za7 oM]⟩
 .exact zB []
 rintro j ⟨C,f⟩
 refine⟨λp=>?_,λp=>?_⟩
 .have c:∀i,j-1+1<=i->dig (zn A) i=dig (zn B) i:=λi hi=>f i oM
  refine wc<|wb λx h=>?_;rw[show((j:Int)-1).toNat=j-1 by omega]at h;have dx:=zX h;refine wb λy k=>?_;rw[show((j:Int)-1).toNat=j-1 by omega]at k;have dy:=zX k;refine⟨λm=>?_,λm=>?_⟩
  .have:=zhc c oM;rw[zr,zr]at this;exact ze (by rw[zhb,Xe this])
  refine wc<|wb λx' d=>?_;rw[show((j:Int)-1).toNat=j-1 by omega,h]at d
  cases d
  refine wb λD e=>?_;rw[show((j:Int)-1).toNat=j-1 by omega,k]at e
  cases e
  refine⟨λn=>?_,λn=>?_⟩
  .have:=zhc (λi hi=>(c i hi).symm) oM;rw[zr,zr]at this;exact ze (by rw[zhb,Xc oM,Xe this])
  refine wa<|⟨j-1,⟨oM,λi hi=>?_⟩,jv [] ⟨iR oM,rfl,rfl,tV⟩ trivial,oN⟩
  by_cases g:i=j-1
  .subst g;omega
  exact f i oM
 have s:j=0:=by omega
 subst s;have:=znM λi=>f i (Xh _)
 rw[zr,zr]at this;exact ze (by rw[zhb,Xc oM,Xc oM])
def zFO(a b:LB)(C:a.length<=900000000)(D:b.length<=900000000):
  CX 416 [.sl dgE a,.sl dgE b] (.sl dgE (zn (val a+val b))):=by
 refine zc func416 λu v=>Ar.fit (by simp only[zdN];omega) ?_;have l:zdN (a.length:Int) [(b.length:Int)]+1=((max a.length b.length+1:Nat):Int):=by simp only[zdN];omega
 change ∃_,_;rw[l];generalize E:max a.length b.length+1=n at*;refine⟨Dig,dgE,0,rfl,wb7 ?_⟩;intro w
 refine⟨Nat×LB×Nat,λ⟨i,out,c⟩=>⟨[(17,i64 i),(16,i64 n),(6,u64 c),(5,.own 0),(0,.sl dgE a),(1,.sl dgE b)],[(0,qC out)],1,39,0⟩,
  λq=>q.1<=n/\q.2.1.length=n/\q.2.2<=1/\(∀j,q.1<=j->dig q.2.1 j=0)/\val q.2.1+4294967296^q.1*q.2.2=val (a.take q.1)+val (b.take q.1),λq=>n-q.1,(0,List.replicate n 0,0),?_,?_,?_⟩
 .exact⟨Xh _,sI,Xh _,λj _=>yV _ _,by simp[zbf,val]⟩
 .exact zQ [0] ⟨rfl,iR sI,rfl,rfl,rfl,rfl,tV⟩ ⟨rfl,tV⟩
 rintro⟨i,out,c⟩ ⟨m,g,o,d,k⟩
 dsimp only at m g o d k;refine⟨λr=>?_,λr=>?_⟩
 .have A:=yZ a i;have B:=yZ b i;refine wg (zfc a _ oM)<|wg (zfc b _ oM) ?_;simp only[XU];(iterate 2 refine wa ?_);refine Ar.wrap<|wb<|wb λz F=>?_;refine⟨dof (dig a i+dig b i+c),Xg (λn=>[u32 n]) (zbB oM),?_⟩;refine wb1<|wa ?_
  refine⟨(i+1,out.set i (dof (dig a i+dig b i+c)),(dig a i+dig b i+c)/4294967296),⟨oN,by simp[g],oN,λj t=>?_,?_⟩,
   zQ [0] ⟨rfl,rfl,Xg (λn=>some (u64 n)) (by simp only[Int.reducePow];omega),rfl,rfl,rfl,tV⟩ ⟨rfl,tV⟩,oN⟩
  .dsimp only at t ⊢;rw[jY,Xc oM];exact d j oM
  dsimp only;have f:=zas out i (dof (dig a i+dig b i+c)) oM;rw[d i (Xj _),kA,Ky,XX]at f;rw[f,zU,zU,X4];have e:=Kh (dig a i+dig b i+c) 4294967296;generalize (dig a i+dig b i+c)/4294967296=x at*;generalize (dig a i+dig b i+c)%4294967296=y at*;generalize 4294967296^i=p at*;clear f d
  grind
 have hi:i=n:=by omega
 subst hi;rw[kY oM,kY oM]at k
 have s:c=0:=by
  have G:=Xx (jm a) (XJ (show 0<4294967296 by decide) (show a.length<=i-1 by omega));have H:=Xx (jm b) (XJ (show 0<4294967296 by decide) (show b.length<=i-1 by omega));have e:4294967296^i=4294967296^(i-1)*4294967296:=by rw[←X4];congr 1;omega
  have:c=0∨c=1:=oM
  rcases this with h|h
  .exact h
  subst h;omega
 subst s;refine zb.see 0 _ (jE out oM) rfl rfl rfl ?_;rw[show val out=val a+val b by omega];exact .refl
def zFP(a b:LB)(G:a.length<=900000000)(H:b.length<=900000000):
  CX 420 [.sl dgE a,.sl dgE b] (.tup [.sl dgE (zn (val a-val b)),pr (val b<=val a)]):=by
 refine zc func420<|wg (zFN a b oM oM)<|⟨λh=>?_,λh=>?_⟩
 .have C:=ze9.1 h;refine zP ?_ (zd oM);rw[YK oM,yd];exact zD
 have d:val b<=val a:=Ja λs=>h (ze9.2 s)
 refine wg (jE a oM) ?_;have la:=zL a;have ldef:=zdc (n:=val a) (Xj _);intro A;generalize I:(zn (val a)).length=n at*;refine⟨Dig,dgE,0,rfl,wb7 ?_⟩;intro B
 refine⟨Nat×LB×Nat,λ⟨i,out,c⟩=>⟨[(20,i64 i),(19,i64 n),(7,u64 c),(6,.own 0),(0,.sl dgE a),(1,.sl dgE b)],[(0,qC out)],1,42,0⟩,
  λq=>q.1<=n/\q.2.1.length=n/\q.2.2<=1/\(∀j,q.1<=j->dig q.2.1 j=0)/\val q.2.1+val (b.take q.1)=val (a.take q.1)+4294967296^q.1*q.2.2,λq=>n-q.1,(0,List.replicate n 0,0),?_,?_,?_⟩
 .exact⟨Xh _,sI,Xh _,λj _=>yV _ _,by simp[zbf,val]⟩
 .exact zQ [0] ⟨rfl,iR sI,rfl,rfl,rfl,rfl,tV⟩ ⟨rfl,tV⟩
 rintro⟨i,out,c⟩ ⟨t,f,u,g,k⟩
 dsimp only at t f u g k;refine⟨λv=>?_,λv=>?_⟩
 .have D:=yZ a i;have E:=yZ b i;refine wg (zfc a _ oM)<|wg (zfc b _ oM) ?_;simp only[XU];refine Ar.wrap<|Ar.wrap<|Ar.wrap<|wb<|wb λz J=>?_;refine⟨dof (4294967296+dig a i-dig b i-c),Xg (λn=>[u32 n]) (by rw[zlj,yr,yr,kA];omega),?_⟩;refine wb1<|wa ?_
  refine⟨(i+1,out.set i (dof (4294967296+dig a i-dig b i-c)),1-(4294967296+dig a i-dig b i-c)/4294967296),⟨oN,by simp[f],oN,λj w=>?_,?_⟩,
   zQ [0] ⟨rfl,rfl,Xg (λn=>some (u64 n)) (by rw[yr,yr];simp only[Int.reducePow];omega),rfl,rfl,rfl,tV⟩ ⟨rfl,tV⟩,oN⟩
  .dsimp only at w ⊢;rw[jY,Xc oM];exact g j oM
  dsimp only;have l:=zas out i (dof (4294967296+dig a i-dig b i-c)) oM;rw[g i (Xj _),kA,Ky,XX]at l;rw[l,zU,zU,X4];have e:(4294967296+dig a i-dig b i-c)%4294967296+dig b i+c=dig a i+4294967296*(1-(4294967296+dig a i-dig b i-c)/4294967296):=oM;generalize 1-(4294967296+dig a i-dig b i-c)/4294967296=x at*;generalize (4294967296+dig a i-dig b i-c)%4294967296=y at*;generalize 4294967296^i=p at*
  have F:p*y+p*dig b i+p*c=p*dig a i+p*4294967296*x:=by
   rw[←KP,←KP,e,KP,KM]
  omega
 have hi:i=n:=by omega
 subst hi;have o:val (a.take i)=val a:=by rw[zru,XB ldef]
 have r:val (b.take i)=val b:=by rw[zru,XB (Qi d ldef)]
 rw[o,r]at k;have m:=jm out;rw[f]at m
 have e:val out=val a-val b:=by
  have:c=0∨c=1:=oM
  rcases this with rfl|rfl <;> omega
 refine zb.see 0 _ (jE out oM) rfl rfl rfl ?_;rw[e];exact zP .refl (zH d)
def zry(xs:LB)(n:Nat)(h:xs.length=n+2):∃r,r<4294967296^n/\val xs=(dig xs (n+1)*4294967296+dig xs n)*4294967296^n+r:=by
 refine⟨val (xs.take n),qZ xs n,?_⟩;have e:=kX xs n;have c:=zG xs n;have d:=zG xs (n+1);rw[kg (show xs.length<=n+1+1 by omega),Ky,XX]at d;rw[d]at c;rw[e,c];generalize dig xs (n+1)=a;generalize dig xs n=b;generalize 4294967296^n=p
 grind
def zrz{P v1 v2 rv top u2 ru q r:Nat}(i:rv<P)(h:ru<P)(j:2147483648<=v1)(k:v2<4294967296)(e:q*v1+r=top)(n:q<=4294967296)(a:q*v2<=r*4294967296+u2)(hQ:((top*4294967296+u2)*P+ru)/((v1*4294967296+v2)*P+rv)<=q):
  q=((top*4294967296+u2)*P+ru)/((v1*4294967296+v2)*P+rv)∨q=((top*4294967296+u2)*P+ru)/((v1*4294967296+v2)*P+rv)+1:=by
 have hP:0<P:=oM
 have hV:0<(v1*4294967296+v2)*P+rv:=by
  have:0<(v1*4294967296+v2)*P:=Nat.mul_pos oM hP;omega
 have key:(q-1)*((v1*4294967296+v2)*P+rv)<=(top*4294967296+u2)*P+ru:=by
  rcases KC q with b|b
  .subst b;simp
  obtain⟨p,rfl⟩:∃p,q=p+1:=⟨q-1,oM⟩;rw[QD]
  have l:p*((v1*4294967296+v2)*P+rv)<=p*((v1*4294967296+v2+1)*P):=by
   refine Kn _ ?_;rw[Kd _ 1 P];omega
  have g:p*(v1*4294967296+v2+1)<=top*4294967296+u2:=by
   have c:(p+1)*v1=p*v1+v1:=by rw[Kd];omega
   have d:(p+1)*v2=p*v2+v2:=by rw[Kd];omega
   have f:p*(v1*4294967296+v2+1)=(p*v1)*4294967296+p*v2+p:=by
    rw[KP,KP,KM];omega
   rw[c]at e;rw[d]at a;rw[f];omega
  have m:p*((v1*4294967296+v2+1)*P)<=(top*4294967296+u2)*P:=by
   rw[←KM];exact Xy _ g
  omega
 have:=(JH hV).2 key;omega
def zxG{P v1 v2 rv top u2 ru q r:Nat}(g:ru<P)(e:q*v1+r=top)(f:r*4294967296+u2<q*v2):
  ((top*4294967296+u2)*P+ru)/((v1*4294967296+v2)*P+rv)<q:=by
 have hP:0<P:=oM
 have j:0<q:=by
  rcases KC q with h|h
  .subst h;omega
  exact h
 have d:top*4294967296+u2+1<=q*(v1*4294967296+v2):=by
  have c:q*(v1*4294967296+v2)=(q*v1)*4294967296+q*v2:=by rw[KP,KM]
  rw[c];omega
 have a:(top*4294967296+u2)*P+ru<q*((v1*4294967296+v2)*P+rv):=by
  have b:(top*4294967296+u2+1)*P<=q*(v1*4294967296+v2)*P:=Xy _ d
  have i:q*(v1*4294967296+v2)*P<=q*((v1*4294967296+v2)*P+rv):=by
   rw[KM];exact Kn _ (Q8 _ _)
  rw[Kd _ 1 P]at b;omega
 have hV:0<(v1*4294967296+v2)*P+rv:=by
  rcases KC ((v1*4294967296+v2)*P+rv) with h|h
  .rw[h]at a;omega
  exact h
 exact(X3 hV).2 a
def zxH{p q c b ui y lo e a d U V R:Nat}(h:R+q*V=U+p*(c+b))(i:lo+4294967296*e=c+q*y)(j:a+lo+b=ui+4294967296*d):
  R+p*a+q*(V+p*y)=U+p*ui+p*4294967296*(e+d):=by
 have f:a+(c+q*y)+b=ui+4294967296*(e+d):=oM;have g:p*(a+(c+q*y)+b)=p*(ui+4294967296*(e+d)):=by rw[f]
 grind
def n_mul(d f:LB)(X:d.length<=400000000)(Y:f.length<=400000000):
  CX 447 [.sl dgE d,.sl dgE f] (.sl dgE (zn (val d*val f))):=by
 refine zc func447<|wg (jE d oM)<|wg (jE f oM) ?_;have la:=zL d;have lb:=zL f;have F:=zr (val d);have G:=zr (val f);generalize zn (val d)=a at*;generalize zn (val f)=b at*;rw[←F,←G];clear F G;intro N O;refine wa<|⟨Dig,dgE,0,rfl,wb7 ?_⟩;intro P
 refine⟨Nat×LB,λ⟨i,out⟩=>⟨[(23,i64 i),(22,i64 a.length),(21,.sl dgE a),(5,.own 0),(1,.sl dgE b)],[(0,qC out)],1,73,0⟩,
  λq=>q.1<=a.length/\q.2.length=a.length+b.length/\val q.2=val (a.take q.1)*val b/\∀j,q.1+b.length<=j->dig q.2 j=0,λq=>a.length-q.1,(0,List.replicate (a.length+b.length) 0),?_,?_,?_⟩
 .exact⟨Xh _,sI,by simp[zbf,val],λj _=>yV _ _⟩
 .exact zt [0] ⟨Xg (λn=>some (qC (List.replicate n 0))) oM,tV⟩
 rintro⟨i,out0⟩ ⟨J,v,h,s⟩
 dsimp only at J v h s;refine⟨λK=>?_,λK=>?_⟩
 .refine wb λx(T:a[i]?=some x)=>?_;have dx:=zX T;have A:=x.isLt;refine⟨λL=>?_,λL=>?_⟩
  .refine wa<|⟨(i+1,out0),⟨oN,v,?_,λj t=>s j (by dsimp only at t;omega)⟩,zf [0],oN⟩;dsimp only;rw[zU,dx,show x.val=0 by omega,Ky,XX];exact h
  intro Q
  refine⟨Nat×LB×Nat,λ⟨k,out,c⟩=>⟨[(32,i64 k),(31,i64 b.length),(30,.sl dgE b),(8,u64 c),(7,u32 x.val),(6,i64 i),(23,i64 i),(22,i64 a.length),(21,.sl dgE a),(5,.own 0),(1,.sl dgE b)],[(0,qC out)],1,73,0⟩,
   λq=>q.1<=b.length/\q.2.1.length=a.length+b.length/\q.2.2<4294967296/\val q.2.1+4294967296^(i+q.1)*q.2.2=val out0+4294967296^i*(x.val*val (b.take q.1))/\∀j,i+b.length<=j->dig q.2.1 j=0,λq=>b.length-q.1,(0,out0,0),?_,?_,?_⟩
  .exact⟨Xh _,v,oN,by simp[val],s⟩
  .exact zf [0]
  rintro⟨k,out,c⟩ ⟨H,u,D,m,g⟩
  dsimp only at H u D m g;refine⟨λI=>?_,λI=>?_⟩
  .refine wb λy(U:b[k]?=some y)=>?_;have dy:=zX U;have B:=y.isLt;have S:=zfa A B;(iterate 4 refine wa ?_);refine wb<|wb λz E=>?_;rw[show((i:Int)+k).toNat=i+k by omega]at E;have dz:=zX E;have V:=z.isLt;(iterate 4 refine wa ?_);refine Ar.wrap<|wb<|wb λW C=>?_;refine⟨dof (x.val*y.val+z.val+c),Xg (λn=>[u32 n]) (zbB oM),?_⟩;refine wb1<|wa ?_
   refine⟨(k+1,out.set (i+k) (dof (x.val*y.val+z.val+c)),(x.val*y.val+z.val+c)/4294967296),⟨oN,by simp[u],oN,?_,?_⟩,
    zQ [0] ⟨rfl,rfl,rfl,Xg (λn=>some (u64 n)) (by simp only[Int.reducePow];omega),rfl,rfl,rfl,rfl,rfl,rfl,rfl,tV⟩ ⟨Xg (λn=>some (qC (out.set n _))) oM,tV⟩,oN⟩
   .dsimp only;have l:=zas out (i+k) (dof (x.val*y.val+z.val+c)) oM;rw[kA,dz]at l;rw[zU,dy,←KL i k 1,X4];have e:=Kh (x.val*y.val+z.val+c) 4294967296;rw[Kl]at m l ⊢;exact zrv m l e
   intro j t;dsimp only;rw[jY,Xc oM];exact g j t
  have M:k=b.length:=by omega
  intro R;refine wa<|Ar.wrap<|wb<|wb λW C=>?_;refine⟨dof c,Xg (λn=>[u32 n]) (zbB rfl),?_⟩;refine wa ?_
  refine⟨(i+1,out.set (i+b.length) (dof c)),⟨oN,by simp[u],?_,?_⟩,
   zt [0] ⟨Xg (λn=>some (qC (out.set n _))) oM,tV⟩,oN⟩
  .dsimp only;have l:=zas out (i+b.length) (dof c) oM;rw[kA,g _ (Xj _),XB D]at l;rw[M,kY (Xj _),h]at m;rw[zU,dx];generalize val (out.set (i+b.length) _)=r at*;generalize 4294967296^i=p at*;generalize 4294967296^(i+b.length)=q at*;generalize val (a.take i)=w at*;generalize x.val=x at*;generalize val out=o at*;clear s g
   grind
  intro j t;dsimp only;rw[jY,Xc oM];exact g j oM
 have hi:i=a.length:=by omega
 rw[hi,kY (Xj _)]at h;refine zb.see 0 _ (jE out0 oM) rfl rfl rfl ?_;rw[h];exact .refl
def zhg{x y:Nat}{e:Int}(f:x<4294967296)(d:y<4294967296)(c:e=(x:Int)*2^32):vy .or .u64 e y=((x*4294967296+y:Nat):Int):=by
 have a:e=((x*4294967296:Nat):Int):=by rw[c];simp only[Int.reducePow];omega
 rw[a,zll oM oM];have:=Qj (i:=32) (b:=y) (by rw[show 2^32=4294967296 by decide];exact d) x;rw[show 2^32=4294967296 by decide,KD]at this;rw[←this]
def n_one(a:LB)(d:Nat)(w:a.length<=900000000)(y:d<4294967296)(v:d≠0):
  CX 466 [.sl dgE a,u32 d] (.tup [.sl dgE (zn (val a/d)),u32 (val a%d:Nat)]):=by
 refine zc func466 λs=>?_;refine⟨Dig,dgE,0,rfl,wb7 ?_⟩;intro t;refine wa ?_
 refine⟨Nat×LB×Nat,λ⟨j,out,r⟩=>⟨[(8,i64 ((j:Int)-1)),(7,u64 r),(6,.own 0),(0,.sl dgE a),(1,u32 d)],[(0,qC out)],1,43,0⟩,
  λq=>q.1<=a.length/\q.2.1.length=a.length/\q.2.2<d/\val (a.drop q.1)=d*val (q.2.1.drop q.1)+q.2.2,λq=>q.1,(a.length,List.replicate a.length 0,0),?_,?_,?_⟩
 .refine⟨Xj _,sI,oN,?_⟩;dsimp only;rw[kg (Xj _),kg sI,Ky]
 .exact zt [0] ⟨Xg (λn=>some (qC (List.replicate n 0))) oM,tV⟩
 rintro⟨j,out,r⟩ ⟨m,i,f,b⟩
 dsimp only at m i f b;refine⟨λo=>?_,λo=>?_⟩
 .refine wb1<|Ar.fit (by simp only[Int.reducePow];omega)<|wb λx l=>?_;rw[show((j:Int)-1).toNat=j-1 by omega]at l;have dx:=zX l;have h:=x.isLt;refine wa<|⟨_,(zhg oM h rfl).symm,?_⟩
  have k:(r*4294967296+x.val)/d<4294967296:=by
   rw[X3 oM];have:r*4294967296+4294967296<=4294967296*d:=oM;omega
  have u:(r*4294967296+x.val)%d<d:=Kq _ oM;have g:=Kh (r*4294967296+x.val) d;refine wa<|Dv.pos ⟨oM,oM,by show _<=(18446744073709551615:Int);omega⟩ ?_;have c:((r*4294967296+x.val:Nat):Int)/(d:Int)=(((r*4294967296+x.val)/d:Nat):Int):=by simp
  have e:((r*4294967296+x.val:Nat):Int)%(d:Int)=(((r*4294967296+x.val)%d:Nat):Int):=by simp
  rw[c];generalize (r*4294967296+x.val)/d=qd at*;refine wa<|wb<|wb λz A=>?_;refine⟨dof qd,Xg (λn=>[u32 n]) (by rw[kA,XB k]),?_⟩;refine wa<|Dv.pos ⟨oM,oM⟩ ?_;rw[e];generalize (r*4294967296+x.val)%d=rd at*;refine wa ?_
  refine⟨(j-1,out.set (j-1) (dof qd),rd),⟨oN,by simp[i],u,?_⟩,
   zQ [0] ⟨iR oM,rfl,rfl,rfl,rfl,tV⟩ ⟨Xg (λn=>some (qC (out.set n _))) oM,tV⟩,oN⟩
  dsimp only;rw[zG a,dx,show j-1+1=j by omega];refine zrw b oM g ?_;rw[zci oM,kA,XB k,show j-1+1=j by omega]
 have p:j=0:=by omega
 subst p;rw[Qd,Qd]at b
 have c:val out=val a/d:=by
  rw[b,QJ oM,Kr f,XX]
 have e:r=val a%d:=by
  rw[b,QK,XB f]
 refine zb.see 0 _ (jE out oM) rfl rfl rfl<|wa ?_;rw[c];exact zP .refl (ze (by rw[e]))
def zjB(v1 v2 u2 top:Nat):Nat->Nat->Nat
 |0,q=>q
 |f+1,q=>if 4294967296<=q∨(top-q*v1)*4294967296+u2<q*v2 then(if 4294967296<=top-(q-1)*v1 then q-1 else zjB v1 v2 u2 top f (q-1)) else q
def zrA{P v1 v2 rv top u2 ru Q:Nat}(b:rv<P)(a:ru<P)(c:2147483648<=v1)(d:v2<4294967296)(hQd:((top*4294967296+u2)*P+ru)/((v1*4294967296+v2)*P+rv)=Q)(hQ:Q<4294967296):∀(f q:Nat),q<f->q<=4294967297->q*v1<=top->Q<=q->
   zjB v1 v2 u2 top f q=Q∨zjB v1 v2 u2 top f q=Q+1
 |0,q,h,_,_,_=>oM
 |f+1,q,h,o,k,g=>by
  unfold zjB;have j:q*v1+(top-q*v1)=top:=oM
  by_cases e:4294967296<=q∨(top-q*v1)*4294967296+u2<q*v2
  .rw[Xe e]
   have l:Q<q:=by
    rcases e with e|e
    .omega
    rw[←hQd];exact zxG a j e
   have m:(q-1)*v1+v1=q*v1:=by
    have:q=(q-1)+1:=oM;rw[this,Kd];simp
   by_cases i:4294967296<=top-(q-1)*v1
   .rw[Xe i];have n:(q-1)*v2<=4294967296*4294967295:=QE oM oM;have:=zrz b a c d (q:=q-1) (r:=top-(q-1)*v1) (top:=top) (u2:=u2) oM oM oM (by rw[hQd];omega)
    rwa [hQd]at this
   rw[Xc i];exact zrA b a c d hQd hQ f (q-1) oM oM oM oM
  rw[Xc e];have:=zrz b a c d j (u2:=u2) oM oM (by rw[hQd];exact g)
  rwa [hQd]at this
def uN(U V:LB):Nat:=dig U V.length*4294967296+dig U (V.length-1)
def ziC(U V:LB):Nat:=zjB (dig V (V.length-1)) (dig V (V.length-2)) (dig U (V.length-2)) (uN U V) (uN U V/dig V (V.length-1)+1) (uN U V/dig V (V.length-1))
def zGJ{U V:LB}(hU:U.length=V.length+1)(m:2<=V.length)(k:val U<4294967296*val V):uN U V<(dig V (V.length-1)+1)*4294967296:=by
 obtain⟨n,c⟩:∃n,V.length=n+1:=⟨V.length-1,oM⟩;have g:=kX U n;have d:=zG U n;have e:=zG U (n+1);rw[kg (show U.length<=n+1+1 by omega),Ky,XX]at e;have h:=kX V n;have f:=zG V n;rw[kg (show V.length<=n+1 by omega),Ky,XX]at f;have l:=qZ V n;unfold uN;rw[c,QD];rw[e]at d;rw[d]at g;rw[f]at h;have o:=zed n;generalize 4294967296^n=p at*;generalize dig U n=a at*;generalize dig U (n+1)=b at*;generalize dig V n=v at*
 have i:p*(a+4294967296*b)<p*(4294967296*(v+1)):=by
  have j:p*(4294967296*(v+1))=4294967296*(p*v+p):=by
   rw[Nat.mul_left_comm,KP p v 1,Jq]
  rw[j];generalize p*(a+4294967296*b)=X at*;generalize p*v=Vc at*;omega
 have:=Yf i;omega
def znO{U V:LB}(hU:U.length=V.length+1)(k:2<=V.length)(l:2147483648<=dig V (V.length-1))(a:val U<4294967296*val V):
  (ziC U V=val U/val V∨ziC U V=val U/val V+1)/\val U/val V<=uN U V/dig V (V.length-1)/\uN U V/dig V (V.length-1)<=4294967297:=by
 have hest:=zz5 (r:=U) (b:=V) oM a;have htop:=zGJ hU k a
 have hVp:0<val V:=by
  rcases KC (val V) with h|h
  .rw[h]at a;omega
  exact h
 have hQ:val U/val V<4294967296:=(X3 hVp).2 a
 have d:uN U V/dig V (V.length-1)<=4294967297:=by
  have:uN U V/dig V (V.length-1)<4294967298:=by
   rw[X3 oM];omega
  omega
 refine⟨?_,hest,d⟩;obtain⟨n,c⟩:∃n,V.length=n+2:=⟨V.length-2,oM⟩;have f:=kX U n;have g:=zG U n;have i:=zG U (n+1);have e:=zG U (n+1+1);rw[kg (show U.length<=n+1+1+1 by omega),Ky,XX]at e;have j:=qZ U n;obtain⟨rv,m,o⟩:=zry V n c
 have eU:val U=(uN U V*4294967296+dig U (V.length-2))*4294967296^n+val (U.take n):=by
  unfold uN;rw[c,show n+2-1=n+1 by omega,show n+2-2=n by omega,f,g,i,e];generalize 4294967296^n=p
  grind
 have eV:val V=(dig V (V.length-1)*4294967296+dig V (V.length-2))*4294967296^n+rv:=by
  rw[c,show n+2-1=n+1 by omega,show n+2-2=n by omega];exact o
 have key:=zrA (P:=4294967296^n) (v1:=dig V (V.length-1)) (v2:=dig V (V.length-2)) (top:=uN U V) (u2:=dig U (V.length-2)) (Q:=val U/val V) m j l (yZ _ _) (by rw[←eU,←eV]) hQ
  (uN U V/dig V (V.length-1)+1) (uN U V/dig V (V.length-1)) oM d (JZ _ _) hest
 exact key
def zDO(U V:LB)(Q:V.length<=900000000)(hU:U.length=V.length+1)(M:2<=V.length)(D:2147483648<=dig V (V.length-1))(m:val U<4294967296*val V):
  CX 469 [.sl dgE U,.sl dgE V] (u64 (ziC U V:Nat)):=by
 obtain⟨_,hQ,p⟩:=znO hU M D m;have hG:ziC U V=zjB (dig V (V.length-1)) (dig V (V.length-2)) (dig U (V.length-2)) (uN U V) (uN U V/dig V (V.length-1)+1) (uN U V/dig V (V.length-1)):=rfl;refine zc func469 λL=>wc<|wb λx(O:U[V.length]?=some x)=>?_;have dx:=zX O;have v:=x.isLt;refine wa<|wb1<|Ar.fit (by simp only[Int.reducePow];omega)<|wa<|wb λy F=>?_;rw[show((V.length:Int)-1).toNat=V.length-1 by omega]at F;have dy:=zX F
 have A:=y.isLt;refine wa<|⟨_,(zhg v A rfl).symm,?_⟩;have ht:uN U V=x.val*4294967296+y.val:=by unfold uN;rw[dx,dy]
 rw[←ht];have N:uN U V<18446744073709551616:=oM;generalize uN U V=T at*;refine wc<|wa<|wb λv1 b=>?_;rw[show((V.length:Int)-1).toNat=V.length-1 by omega]at b;have G:=zX b;have h1l:=v1.isLt;rw[G]at D hQ p hG;refine wa<|Dv.pos ⟨oM,oM,by show _<=(18446744073709551615:Int);omega⟩<|wa<|wb λP hv1'=>?_;rw[show((V.length:Int)-1).toNat=V.length-1 by omega,b]at hv1'
 cases hv1'
 refine wa<|Dv.pos ⟨oM,oM⟩ ?_;have i:=Kh T v1.val;have o:T%v1.val<v1.val:=Kq _ oM
 refine⟨Nat×Nat×Nat,λ⟨f,q,r⟩=>⟨[(7,u64 q),(8,u64 r),(0,.sl dgE U),(1,.sl dgE V),(5,i64 V.length)],[],0,77,0⟩,
  λs=>s.2.1<s.1/\s.2.1<=4294967297/\s.2.2<4294967296/\s.2.1*v1.val+s.2.2=T/\ziC U V=zjB v1.val (dig V (V.length-2)) (dig U (V.length-2)) T s.1 s.2.1,λs=>s.1,
  (T/v1.val+1,T/v1.val,T%v1.val),?_,?_,?_⟩
 .exact⟨oN,p,oN,by dsimp only;rw[KD];exact i,hG⟩
 .exact jv [] ⟨Xg (λn=>some (u64 n)) sI,Xg (λn=>some (u64 n)) sI,rfl,rfl,rfl,tV⟩ trivial
 clear hG hQ p i o ht
 rintro⟨f,q,r⟩ ⟨H,I,C,J,a⟩
 dsimp only at H I C J a;obtain⟨l,rfl⟩:∃l,f=l+1:=⟨f-1,oM⟩;unfold zjB at a;have er:T-q*v1.val=r:=oM;rw[er]at a
 have dec:1<=q->(q-1)*v1.val+v1.val=q*v1.val:=λh=>by
  have:q=(q-1)+1:=oM;rw[this,Kd];simp
 refine wc<|wb1<|Br.mk (λe=>?_) (λe=>?_)
 .have e:4294967296<=q:=by simp only[Int.reducePow]at e;omega
  rw[Xe (.inl e)]at a;have K:=dec oM;have d:T-(q-1)*v1.val=r+v1.val:=oM;rw[d]at a;(iterate 2 refine wa ?_);refine wb λz k=>?_;rw[show((V.length:Int)-1).toNat=V.length-1 by omega,b]at k
  cases k
  (iterate 2 refine wa ?_);refine wb1<|Br.mk (λc=>?_) (λc=>?_)
  .rw[Xe (by simp only[Int.reducePow]at c;omega)]at a;exact ze oM
  rw[Xc (by simp only[Int.reducePow]at c;omega)]at a
  exact⟨(l,q-1,r+v1.val),⟨oN,oN,by dsimp only;simp only[Int.reducePow]at c;omega,oN,a⟩,
   jv [] ⟨Xg (λn=>some (u64 n)) oM,rfl,rfl,rfl,rfl,tV⟩ trivial,oN⟩
 have e:q<4294967296:=by simp only[Int.reducePow]at e;omega
 refine wa<|wb λv2 j=>?_;rw[show((V.length:Int)-2).toNat=V.length-2 by omega]at j;have B:=zX j;have h2l:=v2.isLt;have R:=zfa e h2l;(iterate 2 refine wa ?_);refine wb1<|Ar.fit (by simp only[Int.reducePow];omega)<|wa<|wb λw E=>?_;rw[show((V.length:Int)-2).toNat=V.length-2 by omega]at E;have dw:=zX E;have u:=w.isLt;refine wa<|⟨_,(zhg C u rfl).symm,?_⟩;rw[B,dw]at a;refine⟨λg=>?_,λg=>?_⟩
 .have g:r*4294967296+w.val<q*v2.val:=by
   rw[←Ke]at g;omega
  have t:1<=q:=by
   rcases KC q with h|h
   .subst h;omega
   exact h
  rw[Xe (.inr g)]at a;have K:=dec t;have d:T-(q-1)*v1.val=r+v1.val:=oM;rw[d]at a;rw[←B,←dw]at a;(iterate 2 refine wa ?_);refine wb λz k=>?_;rw[show((V.length:Int)-1).toNat=V.length-1 by omega,b]at k
  cases k
  (iterate 2 refine wa ?_);refine wb1<|Br.mk (λc=>?_) (λc=>?_)
  .rw[Xe (by simp only[Int.reducePow]at c;omega)]at a;exact ze oM
  rw[Xc (by simp only[Int.reducePow]at c;omega)]at a
  exact⟨(l,q-1,r+v1.val),⟨oN,oN,by dsimp only;simp only[Int.reducePow]at c;omega,oN,a⟩,
   jv [] ⟨Xg (λn=>some (u64 n)) oM,rfl,rfl,rfl,rfl,tV⟩ trivial,oN⟩
 have g:¬(4294967296<=q∨r*4294967296+w.val<q*v2.val):=by
  rw[←Ke]at g;omega
 rw[Xc g]at a;exact ze (by rw[a])
abbrev wl(x:BI):SV:=.agg (biE x)
end Go.Gs
