/- Natural numbers, the other text: quotient and remainder. -/
import Derived.Test.YtkngjacccoklaaaGreatDoorMA
import Derived.Test.YtkngjacccoklaaaGreatDoorMAM
import Derived.Lib.Mul64
set_option maxRecDepth 100000
set_option maxHeartbeats 8000000
set_option linter.all false
namespace Go.Gs
open Go.Proofs
def zpM{u q V d l w B qd rr nx:Nat}(h:w=V*qd+rr)(hn:nx=u+B*rr)(hd:V*d+l=nx)(hq:q=d+B*qd):u+B*w=V*q+l:=by
 subst h;subst hq;grind
def zbQ{xs:List Dig}{i:Nat}{d:Dig}(h:i<xs.length):val ((xs.set i d).drop i)=d.val+4294967296*val (xs.drop (i+1)):=by
 rw[zG,jQ,Xe ⟨rfl,h⟩,List.drop_set_of_lt oM]
def zhs(a b:List Dig)(ha:a.length<=400000000)(hb:b.length<=400000000)(hb0:val b≠0):
  CG0 304 [.sl dgE a,.sl dgE b] [] (.tup [.sl dgE (zm (val a/val b)),.sl dgE (zm (val a%val b)),i64 0]) []:=by
 refine zc Tryz.func304 ?_;refine zb.t (uH _ oM) ?_;intro hl;have hlen:=zJ b;refine⟨λh=>?_,λh=>?_⟩
 ·have:zm (val b)=[]:=XM.1 oM;exact absurd (yF.1 this) hb0
 have hne:zm (val b)≠[]:=λe=>hb0 (yF.1 e)
 have hnorm:=(vN (val b)).resolve_left hne;have htop:=zb2 hnorm;rw[zo]at htop;have hbits:=zgl (zm (val b));rw[zo]at hbits;have hpos:=zb1.2 hb0;have hnt:0<kA (dig (zm (val b)) ((zm (val b)).length-1)):=zb1.2 hnorm;intro hl2;refine Ar.o<|zb.t (zmf _ oM) ?_;rw[zo];refine Ar.o ?_;obtain⟨s,hs⟩:∃s:Nat,(32*((zm (val b)).length:Int)-(kA (val b):Int))=s:=⟨32*(zm (val b)).length-kA (val b),oM⟩;rw[hs];have hs32:s<32:=oM;refine zb.t (ztr a s oM oM)<|zb.t (ztr (zm (val b)) s oM oM) ?_;rw[zo]
 have hpow:2^s<=4294967296^1:=by rw[zbd];exact XH dC oM
 have hpow0:0<2^s:=KX dC
 have hUl:(zm (val a*2^s)).length<=a.length+1:=jL (by
  rw[Ke]
  exact Xw (KL (q9 a) hpow0) (Kf _ hpow))
 have hVl:(zm (val b*2^s)).length<=b.length+1:=jL (by
  rw[Ke]
  exact Xw (KL (q9 b) hpow0) (Kf _ hpow))
 have hV0:val b*2^s≠0:=Yd hb0 oM;have eq1:val a/val b=val a*2^s/(val b*2^s):=(Yo _ _ hpow0).symm;have eq2:val a%val b=val a*2^s%(val b*2^s)/2^s:=by rw[Yp,Nat.mul_div_cancel _ hpow0]
 rw[eq1,eq2];clear eq1 eq2 hpow hnt hnorm htop hpos hbits;generalize val a*2^s=U at*;generalize val b*2^s=V at*;have hvn:=(vN V).resolve_left λe=>hV0 (yF.1 e)
 intro hl3;refine⟨Dig,dgE,0,rfl,Ob.o7 ?_⟩;refine⟨Dig,dgE,[],rfl,Ob.mk ze5 ?_⟩;intro hl4;refine Ar.o ?_
 refine⟨Nat×List Dig×List Dig,λ⟨j,q,r⟩=>⟨[(13,i64 ((j:Int)-1)),(12,.own 1),(11,.own 0),(9,.sl dgE (zm U)),(10,.sl dgE (zm V)),(8,i64 s)],[(1,qq r),(0,qq q)],2,83,0⟩,
  λx=>x.1<=(zm U).length/\x.2.1.length=(zm U).length/\x.2.2.length<=(zm V).length/\val ((zm U).drop x.1)=V*val (x.2.1.drop x.1)+val x.2.2/\val x.2.2<V,λx=>x.1,
  ((zm U).length,List.replicate (zm U).length 0,[]),?_,?_,?_⟩
 ·refine⟨Xk _,by simp,by simp,?_,by dsimp only;rw[znU];omega⟩;dsimp only;rw[z8 (Xk _),z8 (by simp),znU,Ko]
 ·exact zu [0,1] ⟨rfl,Xg (λn=>some (qq (List.replicate n 0))) oM,trivial⟩
 rintro⟨j,q,r⟩ ⟨g1,g2,g3,g4,g5⟩
 dsimp only at g1 g2 g3 g4 g5;refine⟨λk1=>?_,λk1=>?_⟩
 ·refine Ob.o ?_;intro x hx;rw[show((j:Int)-1).toNat=j-1 by omega]at hx;have dx:=zU hx;have hxl:=x.isLt;refine⟨Dig,dgE,[x],rfl,Ob.mk (zhq x) ?_⟩
  refine⟨Nat,λk=>⟨[(15,i64 k),(14,.own 2),(13,i64 ((j:Int)-1)),(12,.own 1),(11,.own 0),(9,.sl dgE (zm U)),(10,.sl dgE (zm V)),(8,i64 s)],[(2,qq (x::r.take k)),(1,qq r),(0,qq q)],3,83,0⟩,
   λk=>k<=r.length,λk=>r.length-k,0,?_,?_,?_⟩
  ·exact Xh _
  ·exact zf [0,1,2]
  intro k hk;have hk:k<=r.length:=hk;intro hl5;refine⟨λk2=>?_,λk2=>?_⟩
  ·refine Ob.o<|Ob.o ?_;intro y hy;have hy:r[k]?=some y:=hy;refine⟨Dig,dgE,[y],rfl,Ob.mk (zhq y) ?_⟩;refine⟨_,rfl,Ob.mk (zhr (by simp;omega)) ?_⟩;refine Ar.o ?_
   refine⟨k+1,by show k+1<=r.length;omega,qI [(0,some 0),(1,some 1),(2,some 4)] rfl rfl rfl ⟨rfl,rfl,rfl,rfl,rfl,rfl,rfl,rfl,trivial⟩
    ⟨Xg (λl=>some (qq l)) (by rw[Xl,hy];rfl),rfl,rfl,trivial⟩,by dsimp only;omega⟩
  have hkr:k=r.length:=by omega
  subst hkr;have hnx:val (x::r)<4294967296*V:=by rw[vn];omega
  have hnl:(zm (val (x::r))).length<=r.length+1:=zJ (x::r);refine zb.fresh _ _ (jz _ (by simp;omega)) rfl (qP _) (.inr (qF _)) ?_;rw[X5];refine zb.fresh _ _ (zxi _ (zm V) oM oM hvn (by rw[zo,zo];exact hnx)) rfl (qP _) (.inr (qF _)) ?_;rw[zo,zo];have hdl:val (x::r)/V<4294967296:=by rw[XS oM];exact hnx
  have hml:val (x::r)%V<V:=Kk _ oM;have hdm:=X7 (val (x::r)) V;generalize val (x::r)/V=dq at*;generalize hmd:val (x::r)%V=md at*;refine Ar.o<|Ob.o<|Ob.o ?_;intro z hz;refine⟨dof dq,Xg (λn=>[u32 n]) (by rw[ky,Xy hdl]),?_⟩;refine Ar.o ?_
  refine⟨(j-1,q.set (j-1) (dof dq),zm md),⟨by dsimp only;omega,by simp[g2],qm (YA hml),?_,by dsimp only;rw[zo];exact hml⟩,
   zT [0,4] ⟨Xg (λn=>some (i64 n)) oM,rfl,rfl,rfl,rfl,rfl,trivial⟩ ⟨rfl,Xg (λn=>some (qq (q.set n _))) oM,trivial⟩,by dsimp only;omega⟩
  dsimp only;rw[zo,zG (zm U),dx,show j-1+1=j by omega];refine zpM g4 (vn x r) hdm ?_;rw[zbQ oM,ky,Xy hdl,show j-1+1=j by omega]
 have hj:j=0:=by omega
 subst hj;rw[KZ,KZ,zo]at g4;refine zb.fresh _ _ (jz _ oM) rfl (qP _) (.inr (qF _))<|Ar.o<|zb.fresh _ _ (zDe r s oM oM) rfl (qP _) (.inr (qF _)) ?_
 have e1:val q=U/V:=by
  rw[g4,Qz oM,Kh g5,XQ]
 have e2:val r=U%V:=by
  rw[g4,QA,Xy g5]
 exact zbP (.cons (z0 (by rw[e1])) (.cons (z0 (by rw[e2])) (.C .nil)))
structure BI where
 neg:Bool
 mag:List Dig
 deriving DecidableEq
def BI.v(a:BI):Int:=if a.neg then-(val a.mag:Int) else val a.mag
def ofZ(z:Int):BI:=⟨decide (z<0),zm z.natAbs⟩
def zY(z:Int):(ofZ z).v=z:=by
 unfold BI.v ofZ;simp only[zo,decide_eq_true_eq]
 split <;> omega
def BI.v_abs(a:BI):a.v.natAbs=val a.mag:=by unfold BI.v;split <;> omega
def BI.v_eq(a:BI):(a.neg=true/\a.v= -(val a.mag:Int))∨(a.neg=false/\a.v=(val a.mag:Int)):=by
 unfold BI.v;cases a.neg <;> simp
def zaM(z:Int):(ofZ z).neg=true↔z<0:=by simp[ofZ]
def jR(z:Int):(ofZ z).mag=zm z.natAbs:=rfl
def jk(z:Int):Nat:=(zm z.natAbs).length
def znX{z:Int}{k:Nat}(h:z.natAbs<4294967296^k):jk z<=k:=jL h
def zgm{z:Int}{k:Nat}(h:jk z<=k):z.natAbs<4294967296^k:=zcG h
def zac(z:Int):jk (-z)=jk z:=by simp[jk]
def k7(x y:Int):jk (x*y)<=jk x+jk y:=by
 refine znX ?_;rw[QF,Ke];exact Qa (zgm (Xk _)) (zgm (Xk _))
def zgn(x y:Int):jk (x+y)<=max (jk x) (jk y)+1:=by
 refine znX ?_;have h1:=zgm (Q8 (jk x) (jk y));have h2:=zgm (QW (jk x) (jk y));rw[XU];have:=Int.natAbs_add_le x y;omega
def zj1(x y:Int):jk (x-y)<=max (jk x) (jk y)+1:=by
 have:=zgn x (-y)
 rwa [zac,←Q9]at this
def zau(a:BI):jk a.v<=a.mag.length:=by
 unfold jk;rw[BI.v_abs];exact zJ _
def zb3{x y:Int}(h:x.natAbs<=y.natAbs):jk x<=jk y:=qm h
def jj{n:Int}(h: -9223372036854775808<=n/\n<=9223372036854775807):jk n<=2:=znX (by
 rw[show 4294967296^2=18446744073709551616 by decide];omega)
def z6(a b:Int):Int:=
 if a<0↔b<0 then((2*a.natAbs+b.natAbs)/(2*b.natAbs):Nat) else-((2*a.natAbs+b.natAbs)/(2*b.natAbs):Nat)
def zdD(a b:Int):(z6 a b).natAbs=(2*a.natAbs+b.natAbs)/(2*b.natAbs):=by
 unfold z6;generalize (2*a.natAbs+b.natAbs)/(2*b.natAbs)=q
 split <;> omega
def biE(a:BI):List SV:=[pr (a.neg=true),.sl dgE a.mag]
def zav(p:Prop)[i:Decidable p](m:List Dig)(hm:m.length<=1000000000):
  CG0 226 [.pr p i,.sl dgE m] [] (.agg (biE (ofZ (if p then-(val m:Int) else val m)))) []:=by
 refine zc Tryz.func226 ?_;refine zb.t (uH m hm)<|⟨λh=>?_,λh=>?_⟩
 ·intro hl;refine ji (.cons (zE ?_) (.cons (z0 ?_) .nil))
  ·rw[Xe h,zaM];have:=jy (n:=val m);omega
  rw[Xe h,jR];congr 1;omega
 refine ji (.cons (zd ?_) (.cons (z0 ?_) .nil))
 ·rw[Xc h,zaM];omega
 rw[Xc h,jR];congr 1
def zts(a:BI)(hm:a.mag.length<=1000000000):
  CG0 226 [pr (a.neg=true),.sl dgE a.mag] [] (.agg (biE (ofZ a.v))) []:=zav (a.neg=true) a.mag hm
def dTwo(c d:Dig):[c,d].length=2/\2<=281474976710656/\2*1<=16777216/\0<1/\∀x∈[c,d],(dgE x).length=1/\jX (dgE x)=true/\j9.flats (dgE x)=true:=
 ⟨rfl,dC,dC,dC,λ_ _=>⟨rfl,rfl,rfl⟩⟩
def znY(m:Nat)(h:m<18446744073709551616):val [dof m,dof (m/4294967296)]=m:=by
 simp only[val,ky];omega
def jM(n:Int)(hn:R64 n):CG0 157 [i64 n] [] (.agg (biE (ofZ n))) []:=by
 refine zc Tryz.func157 ?_;refine Ar.wrap<|Br.mk (λh=>?_) (λh=>?_)
 ·refine Ar.wrap ?_;have e:IntKind.u64.wrap (0-IntKind.u64.wrap n)=((n.natAbs:Nat):Int):=by rw[yk,yk];omega
  refine Ar.wrap<|Ob.o1<|Ar.wrap<|⟨Dig,dgE,[dof n.natAbs,dof (n.natAbs/4294967296)],congr (Xg (λn m=>[u32 n,u32 m]) (zbe e)) (zbe (by rw[e];simp only[Int.reducePow];omega)),Ob.mk (dTwo _ _) ?_⟩;refine zb.see 1 _ (zav (n<0) [dof n.natAbs,dof (n.natAbs/4294967296)] (by simp)) rfl rfl rfl ?_;rw[Xe h,znY _ oM,show(-(n.natAbs:Int))=n by omega];exact .refl
 have e:IntKind.u64.wrap n=((n.natAbs:Nat):Int):=by rw[yk];omega
 refine Ar.wrap<|Ob.o1<|Ar.wrap<|⟨Dig,dgE,[dof n.natAbs,dof (n.natAbs/4294967296)],congr (Xg (λn m=>[u32 n,u32 m]) (zbe e)) (zbe (by rw[e];simp only[Int.reducePow];omega)),Ob.mk (dTwo _ _) ?_⟩;refine zb.see 1 _ (zav (n<0) [dof n.natAbs,dof (n.natAbs/4294967296)] (by simp)) rfl rfl rfl ?_;rw[Xc h,znY _ oM,show(n.natAbs:Int)=n by omega];exact .refl
def zcH(a:BI)(ha:a.mag.length<=1000000000):CG0 158 [.agg (biE a)] [] (i64 a.v.sign) []:=by
 refine zc Tryz.func158 ?_;refine zb.t (zts a ha) ?_;intro hl;have h1:=jy (n:=a.v.natAbs);refine⟨λh=>?_,λh=>?_⟩
 ·have:a.v=0:=by rw[jR]at h;omega
  exact ze (by rw[this];rfl)
 have h0:a.v≠0:=by rw[jR]at h;omega
 refine⟨λh2=>?_,λh2=>?_⟩
 ·rw[zaM]at h2;exact ze (Kg h2).symm
 rw[zaM]at h2;exact ze (Kn oM).symm
def zCn(a b:BI):(if¬(a.neg=true↔b.neg=true) then-((val a.mag*val b.mag:Nat):Int) else((val a.mag*val b.mag:Nat):Int))=a.v*b.v:=by
 obtain⟨h1,h2⟩|⟨h1,h2⟩:=a.v_eq <;> obtain⟨h3,h4⟩|⟨h3,h4⟩:=b.v_eq <;> simp[h1,h2,h3,h4,Int.neg_mul,QR]
def zcI(a b:BI)(ha:a.mag.length<=400000000)(hb:b.mag.length<=400000000):CG0 277 [.agg (biE a),.agg (biE b)] [] (.agg (biE (ofZ (a.v*b.v)))) []:=by
 refine zc Tryz.func277 ?_;refine Dr.k<|zb.t (zAu a.mag b.mag ha hb) ?_
 have hl:(zm (val a.mag*val b.mag)).length<=1000000000:=by
  refine XC (jL (k:=a.mag.length+b.mag.length) ?_) oM;rw[Ke];exact Qa (q9 _) (q9 _)
 refine zb.t (zav (¬(a.neg=true↔b.neg=true)) _ hl) ?_;rw[zo,zCn];exact .refl
def zDf(a b:BI)(hb:b.v≠0):(if¬(a.neg=true↔b.neg=true) then-(((val a.mag+val a.mag+val b.mag)/(val b.mag+val b.mag):Nat):Int) else(((val a.mag+val a.mag+val b.mag)/(val b.mag+val b.mag):Nat):Int))=z6 a.v b.v:=by
 unfold z6;rw[BI.v_abs,BI.v_abs,Nat.two_mul,Nat.two_mul]
 by_cases h0:val a.mag=0
 ·have e:(val a.mag+val a.mag+val b.mag)/(val b.mag+val b.mag)=0:=by
   rw[h0];refine Kh ?_
   obtain⟨h1,h2⟩|⟨h1,h2⟩:=b.v_eq <;> omega
  rw[e];simp
 generalize ((val a.mag+val a.mag+val b.mag)/(val b.mag+val b.mag))=q
 have e:(a.neg=true↔b.neg=true)↔(a.v<0↔b.v<0):=by
  obtain⟨h1,h2⟩|⟨h1,h2⟩:=a.v_eq <;> obtain⟨h3,h4⟩|⟨h3,h4⟩:=b.v_eq <;> simp only[h1,h3] <;> simp <;> omega
 by_cases h:(a.v<0↔b.v<0)
 ·rw[Xc (not_not_intro (e.2 h)),Xe h]
 rw[Xe (λhh=>h (e.1 hh)),Xc h]
def zb4{a b:List Dig}{k:Nat}(ha:a.length<=k)(hb:b.length<=k):(zm (val a+val b)).length<=k+1:=by
 refine jL ?_;have h1:=Xw (q9 a) (XH (show 0<4294967296 by decide) ha);have h2:=Xw (q9 b) (XH (show 0<4294967296 by decide) hb);rw[XU];omega
def zpN(a b:BI)(ha:a.mag.length<=300000000)(hb:b.mag.length<=300000000)(h0:b.v≠0):
  CG0 419 [.agg (biE a),.agg (biE b)] [] (.tup [.agg (biE (ofZ (z6 a.v b.v))),i64 0]) []:=by
 refine zc Tryz.func419 ?_;refine zb.t (zcH b oM) ?_;refine⟨λh=>absurd (KS.1 h) h0,λ_=>?_⟩;refine Dr.k ?_;have l1:=zb4 ha ha;have l2:=zb4 hb hb;have l3:=zb4 l1 (show b.mag.length<=_ by omega);rw[zo]at l3;have hbp:val b.mag+val b.mag≠0:=by obtain⟨h1,h2⟩|⟨h1,h2⟩:=b.v_eq <;> omega
 refine zb.t (ziV a.mag a.mag oM oM)<|zb.t (ziV _ b.mag oM oM)<|zb.t (ziV b.mag b.mag oM oM) ?_;rw[zo];refine zb.t (zhs _ _ oM oM (by rw[zo];exact hbp)) ?_;rw[zo,zo];have l4:(zm ((val a.mag+val a.mag+val b.mag)/(val b.mag+val b.mag))).length<=1000000000:=XC (qm (K3 _ _)) oM;refine zb.t (zav (¬(a.neg=true↔b.neg=true)) _ l4) ?_;rw[zo,zDf a b h0];exact .refl
def zj2{x y:Nat}(hx:x<18446744073709551616)(hy:y<18446744073709551616):vk .or .u64 x y=((x|||y:Nat):Int):=by
 show IntKind.u64.wrap ((BitVec.ofInt 64 x|||BitVec.ofInt 64 y).toNat:Nat)=_;have h:x|||y<2^64:=Nat.or_lt_two_pow hx hy
 have e:(BitVec.ofInt 64 x|||BitVec.ofInt 64 y).toNat=x|||y:=by
  rw[BitVec.toNat_or,K5,K5];congr 1
  ·omega
  omega
 rw[e,yk];omega
def yZ(z:Int):Int:=if-9223372036854775808<=z/\z<=9223372036854775807 then z else 0
def zj3(a:BI)(ha:a.mag.length<=1000000000):
  CG0 214 [.agg (biE a)] [] (.tup [i64 (yZ a.v),pr (-9223372036854775808<=a.v/\a.v<=9223372036854775807)]) []:=by
 refine zc Tryz.func214 ?_;refine zb.t (zts a ha) ?_;generalize a.v=z
 have bad:¬(-9223372036854775808<=z/\z<=9223372036854775807)->LE (.tup [i64 0,bl false]) (.tup [i64 (yZ z),pr (-9223372036854775808<=z/\z<=9223372036854775807)]):=λh=>
  zM (ze (by rw[yZ,Xc h])) (zd h)
 refine⟨Nat,λi=>⟨[(6,i64 i),(5,u64 (val ((zm z.natAbs).take i))),(4,.loc 1 0)],[(1,.box 34 (biE (ofZ z))),(0,.box 34 (biE a))],2,51,0⟩,
  λi=>i<=2/\i<=(zm z.natAbs).length,λi=>2-i,0,?_,?_,?_⟩
 ·exact⟨oM,Xh _⟩
 ·exact zf [0,1]
 rintro i ⟨h1,h2⟩
 intro hl;refine⟨λh3=>?_,λh3=>?_⟩
 ·have h3:i<(zm z.natAbs).length:=by rw[jR]at h3;omega
  refine⟨λh4=>?_,λh4=>?_⟩
  ·refine bad λh5=>?_
   have:=jL (n:=z.natAbs) (k:=2) (by rw[show 4294967296^2=18446744073709551616 by decide];omega);omega
  refine Ob.mk (by rw[jR];omega) ?_;intro x hx;have hx:(zm z.natAbs)[i]?=some x:=hx;have dx:=zU hx;have hxl:=x.isLt;have ht:=qR (zm z.natAbs) i;have hts:=zQ (zm z.natAbs) i;rw[dx]at hts
  have key:∀n:Int,n=32*i->0<=n/\n<64/\0<=(x.val:Int)*2^n.toNat/\(x.val:Int)*2^n.toNat<=18446744073709551615/\
    vk .or .u64 (val ((zm z.natAbs).take i)) ((x.val:Int)*2^n.toNat)=val ((zm z.natAbs).take (i+1)):=λn hn=>by
   have:i=0∨i=1:=oM
   rcases this with rfl|rfl
   ·have:n=0:=by omega
    subst this;rw[hts];have e:=zj2 (x:=0) (y:=x.val) oM oM;have p:(x.val:Int)*2^(0:Int).toNat=(x.val:Int):=by simp
    rw[p,zlH];refine⟨oM,oM,oM,oM,?_⟩;rw[e];simp
   have:n=32:=by omega
   subst this;rw[hts];have e:=zj2 (x:=val ((zm z.natAbs).take 1)) (y:=4294967296*x.val) oM oM;have e2:=K8 (i:=32) (b:=val ((zm z.natAbs).take 1)) (by rw[show 2^32=4294967296 by decide];omega) x.val;rw[show 2^32=4294967296 by decide]at e2
   have e3:(x.val:Int)*2^(32:Int).toNat=((4294967296*x.val:Nat):Int):=by
    rw[show(32:Int).toNat=32 by decide];simp only[Int.reducePow];omega
   rw[e3];refine⟨oM,oM,oM,oM,?_⟩;rw[e,Nat.or_comm,←e2];omega
  obtain⟨k1,k2,k3,k4,k5⟩:=key (32*i) rfl;(iterate 3 refine Ar.o ?_);refine Ob.mk ⟨k1,k2⟩<|Ar.fit ⟨k3,k4⟩<|⟨_,k5.symm,?_⟩;exact Ar.o<|⟨i+1,⟨oM,oM⟩,zf [0,1],by dsimp only;omega⟩
 have h4:(zm z.natAbs).length=i:=by rw[jR]at h3;omega
 have e:val ((zm z.natAbs).take i)=z.natAbs:=by rw[kU oM,zo]
 have hz:z.natAbs<18446744073709551616:=by
  have:=qR (zm z.natAbs) i;rw[e]at this;refine Xw this (XC (XH dC h1) dC)
 have good:∀n:Int,n=z-> -9223372036854775808<=z/\z<=9223372036854775807->LE (.tup [i64 n,bl true]) (.tup [i64 (yZ z),pr (-9223372036854775808<=z/\z<=9223372036854775807)]):=λn hn h=>
  zM (ze (by rw[yZ,Xe h,hn])) (zI h)
 have hn:=zaM z;refine⟨λg1=>?_,λg1=>?_⟩
 ·rw[hn]at g1;refine⟨λg2=>?_,λg2=>?_⟩
  ·refine Ar.wrap<|Ar.wrap<|good _ ?_ oM;rw[e,yk];show IntKind.i64.wrap _=_;simp only[IntKind.wrap,IntKind.bits,IntKind.signed];simp;omega
  refine⟨λg3=>absurd (hn.2 g1) g3,λ_=>bad oM⟩
 refine⟨λg3=>?_,λg3=>absurd (λh=>g1 h) g3⟩;rw[hn]at g1;refine⟨λg2=>?_,λg2=>bad oM⟩;exact Ar.o<|good _ oM oM
def zht(a b c:Int)(ha:R64 a)(hb:R64 b)(hc:R64 c):CG0 361 [i64 a,i64 b,i64 c] []
  (.tup [i64 (yZ (z6 (a*b) c)),pr (c≠0/\ -9223372036854775808<=z6 (a*b) c/\z6 (a*b) c<=9223372036854775807)]) []:=by
 refine zc Tryz.func361 ?_;refine⟨λh=>?_,λh=>?_⟩
 ·refine zM (ze ?_) (zd λh'=>h'.1 h);subst h;simp[z6,yZ]
 have l1:=jj ha;have l2:=jj hb;have l3:=jj hc;have l4:=k7 a b;unfold jk at l1 l2 l3 l4;refine zb.t (jM a ha)<|zb.t (jM b hb)<|zb.t (zcI (ofZ a) (ofZ b) (by rw[jR];omega) (by rw[jR];omega)) ?_;rw[zY,zY];refine zb.t (jM c hc)<|zb.t (zpN (ofZ (a*b)) (ofZ c) (by rw[jR];omega) (by rw[jR];omega) (by rw[zY];exact h)) ?_;rw[zY,zY]
 have l5:(zm (z6 (a*b) c).natAbs).length<=6:=by
  refine jL (K6 (m:=2*(a*b).natAbs+c.natAbs) ?_ ?_)
  ·rw[zdD];exact K3 _ _
  have p1:=zgm (z:=a*b) (k:=4) (by unfold jk;omega);have e4:4294967296^4=340282366920938463463374607431768211456:=dC;have e6:4294967296^6=6277101735386680763835789423207666416102355444464034512896:=dC;rw[e4]at p1;rw[e6];omega
 refine zb.t (zj3 (ofZ (z6 (a*b) c)) (by rw[jR];omega)) ?_;rw[zY];exact zM .refl (zE ⟨λg=>⟨h,g⟩,λg=>g.2⟩)
def uc(a b:Int)(ha:R64 a)(hb:R64 b):CG0 297 [i64 a,i64 b] [] (i64 (yZ (z6 a b))) []:=by
 refine zc Tryz.func297 ?_;refine zb.t (zht a 1 b ha dC hb) ?_;rw[Int.mul_one];exact .refl
def zj4(n:Int)(hn:R64 n):CG0 468 [i64 n] [] (u64 (n.natAbs:Nat)) []:=by
 refine zc Tryz.func468 ?_;refine⟨λh=>?_,λh=>?_⟩
 ·exact Ar.wrap<|Ar.wrap<|ze (by rw[yk,yk];omega)
 exact Ar.o<|ze oM
def ztt(x:Nat):vk .and .u64 x 4294967295=((x%4294967296:Nat):Int):=by
 have e:(BitVec.ofInt 64 x&&&BitVec.ofInt 64 4294967295).toNat=x%4294967296:=by
  rw[BitVec.toNat_and];have h1:(BitVec.ofInt 64 4294967295).toNat=2^32-1:=dC;rw[h1,Ju,K5];rw[show(2:Nat)^32=4294967296 by decide];omega
 show IntKind.u64.wrap ((BitVec.ofInt 64 x&&&BitVec.ofInt 64 4294967295).toNat:Nat)=_;rw[e,yk];omega
def ztu(x y:Nat)(hx:x<18446744073709551616)(hy:y<18446744073709551616):
  CG0 456 [u64 x,u64 y] [] (.tup [u64 (x*y/18446744073709551616:Nat),u64 (x*y%18446744073709551616:Nat)]) []:=by
 refine zc Tryz.func456 ?_;obtain⟨k1,k2,k3,k4⟩:=Go.Lib.mul64_hi x y hx hy;have k0:(x/4294967296)*(y%4294967296)<=(x/4294967296)*(y%4294967296)+(x%4294967296)*(y%4294967296)/4294967296:=Jv _ _
 have k5:x*y/18446744073709551616<18446744073709551616:=by
  rw[XS dC];exact Qa hx hy
 refine⟨_,(ztt x).symm,?_⟩;refine Ob.o1<|⟨_,(ztt y).symm,?_⟩;refine Ob.o1 ?_;have ex:(x:Int)/2^32=((x/4294967296:Nat):Int):=by simp
 have ey:(y:Int)/2^32=((y/4294967296:Nat):Int):=by simp
 have hc:=Go.Lib.half_mul_le (a:=x%4294967296) (b:=y/4294967296) oM oM;have ha:=Go.Lib.half_mul_le (a:=x/4294967296) (b:=y/4294967296) oM oM;rw[ex,ey];generalize hx1:x/4294967296=x1 at*;generalize hx0:x%4294967296=x0 at*;generalize hy1:y/4294967296=y1 at*;generalize hy0:y%4294967296=y0 at*;(iterate 2 refine Ar.o ?_);refine Ob.o1 ?_;have e1:((x0:Int)*(y0:Int))/2^32=((x0*y0/4294967296:Nat):Int):=by simp
 rw[e1];generalize x0*y0/4294967296=w0 at*;refine Ar.o ?_;have e2:(x1:Int)*(y0:Int)+(w0:Int)=((x1*y0+w0:Nat):Int):=by simp
 rw[e2];generalize x1*y0+w0=t at*;refine⟨_,(ztt t).symm,?_⟩;refine Ob.o1 ?_;have e3:(t:Int)/2^32=((t/4294967296:Nat):Int):=by simp
 rw[e3];(iterate 4 refine Ar.o ?_);refine Ob.o1 ?_;have e4:(((t%4294967296:Nat):Int)+(x0:Int)*(y1:Int))/2^32=(((t%4294967296+x0*y1)/4294967296:Nat):Int):=by simp
 rw[e4];refine Ar.o<|Ar.wrap<|zM (ze ?_) (ze ?_)
 ·rw[←k4];simp
 rw[yk];simp
def zAw(lo y:Nat)(hlo:lo<18446744073709551616)(hy:y<18446744073709551616)(h0:y≠0):
  CG0 477 [u64 (0:Nat),u64 lo,u64 y] [] (.tup [u64 (lo/y:Nat),u64 (lo%y:Nat)]) []:=by
 refine zc Tryz.func477 ?_;refine⟨λh=>absurd h oM,λ_=>?_⟩;refine⟨λh=>absurd h oM,λ_=>?_⟩;refine⟨λ_=>?_,λh=>absurd rfl h⟩;exact Dr.k<|Dv.pos ⟨oM,oM,by show _<=(18446744073709551615:Int);omega⟩<|Dv.pos ⟨oM,oM⟩<|zM (ze (by simp)) (ze (by simp))
def rup(lo by_:Nat):Nat:=(2*lo+by_)/(2*by_)
def zxj{lo y:Nat}(h0:y≠0):rup lo y=if y<=2*(lo%y) then lo/y+1 else lo/y:=by
 unfold rup;have e:=X7 lo y;have hl:=Kk lo (X9 h0);generalize lo/y=q at*;generalize lo%y=r at*;subst e;have p:2*(y*q+r)+y=2*y*q+(2*r+y):=by rw[KF,KC];omega
 rw[p,Qz oM]
 split
 ·have:(2*r+y)/(2*y)=1:=by
   rw[Nat.div_eq_iff oM];omega
  omega
 have:(2*r+y)/(2*y)=0:=Kh oM;omega
def zDg(lo y:Nat)(hlo:lo<=9223372036854775808)(hy:y<18446744073709551616)(h0:y≠0):
  CG0 470 [.agg [u64 (0:Nat),u64 lo,u64 y]] [] (.tup [u64 (rup lo y:Nat),bl true]) []:=by
 refine zc Tryz.func470 ?_;refine⟨λh=>absurd h oM,λ_=>?_⟩;refine zb.t (zAw lo y oM hy h0) ?_;have hq:=K3 lo y;have hr:=Kk lo (X9 h0);have he:=zxj (lo:=lo) h0;generalize rup lo y=u at*;generalize lo/y=q at*;generalize lo%y=r at*;refine Ar.o<|Br.mk (λh=>?_) (λh=>?_)
 ·rw[Xe oM]at he;exact Ar.o<|zM (ze oM) (zwZ oM)
 rw[Xc oM]at he;exact zM (ze oM) .refl
def zxk(p:Prop)[i:Decidable p](lo y:Nat)(hlo:lo<=9223372036854775808)(hy:y<18446744073709551616)(h0:y≠0):
  CG0 469 [.pr p i,.val (.func (.func 470) #[.agg #[.int .u64 (0:Nat),.int .u64 (lo:Nat),.int .u64 (y:Nat)]] #[])] []
   (.tup [i64 (yZ (if p then-(rup lo y:Int) else rup lo y)),pr (-9223372036854775808<=(if p then-(rup lo y:Int) else rup lo y)/\(if p then-(rup lo y:Int) else rup lo y)<=9223372036854775807)]) []:=by
 refine zc Tryz.func469 ?_;refine zb.t (zDg lo y hlo hy h0) ?_
 have hu:rup lo y<18446744073709551616:=by
  rw[zxj h0];have:=K3 lo y
  split <;> omega
 generalize rup lo y=u at*
 have bad:∀z:Int,¬(-9223372036854775808<=z/\z<=9223372036854775807)->LE (.tup [i64 0,bl false]) (.tup [i64 (yZ z),pr (-9223372036854775808<=z/\z<=9223372036854775807)]):=λz h=>
  zM (ze (by rw[yZ,Xc h])) (zd h)
 have good:∀n z:Int,n=z-> -9223372036854775808<=z/\z<=9223372036854775807->LE (.tup [i64 n,bl true]) (.tup [i64 (yZ z),pr (-9223372036854775808<=z/\z<=9223372036854775807)]):=λn z hn h=>
  zM (ze (by rw[yZ,Xe h,hn])) (zI h)
 refine⟨λh=>bad _ (by split <;> omega),λh=>?_⟩
 have tail:(u:Int)<=9223372036854775808->((u:Int)=9223372036854775808->p)->IntKind.i64.wrap (IntKind.u64.wrap (-(u:Int)))= -(u:Int)/\(¬p->(u:Int)<=9223372036854775807):=λg1 g2=>by
  refine⟨?_,λhp=>?_⟩
  ·rw[yk];simp only[IntKind.wrap,IntKind.bits,IntKind.signed];simp;omega
  by_cases e:(u:Int)=9223372036854775808
  ·exact absurd (g2 e) hp
  omega
 refine⟨λh1=>?_,λh1=>?_⟩
 ·refine⟨λh2=>bad _ (by rw[Xc h2];omega),λh2=>?_⟩;have hp:=Xa.1 h2;obtain⟨t1,t2⟩:=tail oM (λ_=>hp);refine⟨λ_=>?_,λh3=>absurd hp h3⟩;exact Ar.wrap<|Ar.wrap<|good _ _ (by rw[Xe hp];exact t1) (by rw[Xe hp];omega)
 obtain⟨t1,t2⟩:=tail oM (λh=>absurd h h1);refine⟨λh3=>?_,λh3=>?_⟩
 ·exact Ar.wrap<|Ar.wrap<|good _ _ (by rw[Xe h3];exact t1) (by rw[Xe h3];omega)
 have:=t2 h3;exact Ar.o<|good _ _ (by rw[Xc h3]) (by rw[Xc h3];omega)
def zxl(a c:Int):(if¬(¬(a<0↔(1:Int)<0)↔c<0) then-(rup a.natAbs c.natAbs:Int) else(rup a.natAbs c.natAbs:Int))=z6 a c:=by
 unfold z6;show _=if a<0↔c<0 then((rup a.natAbs c.natAbs:Nat):Int) else-((rup a.natAbs c.natAbs:Nat):Int)
 generalize (rup a.natAbs c.natAbs:Int)=u
 by_cases h1:a<0 <;> by_cases h2:c<0 <;> simp[h1,h2]
def zu3(a c:Int)(ha:R64 a)(hc:R64 c):CG0 449 [i64 a,i64 1,i64 c] []
  (.tup [i64 (yZ (z6 a c)),pr (c≠0/\ -9223372036854775808<=z6 a c/\z6 a c<=9223372036854775807)]) []:=by
 refine zc Tryz.func449 ?_;refine⟨λh=>?_,λh=>?_⟩
 ·refine zM (ze ?_) (zd λh'=>h'.1 h);subst h;simp[z6,yZ]
 refine zb.t (zj4 a ha)<|zb.t (zj4 1 dC)<|zb.t (ztu a.natAbs (1:Int).natAbs oM oM) ?_;rw[show(1:Int).natAbs=1 by rfl,Je,Kh (show a.natAbs<18446744073709551616 by omega),Xy (show a.natAbs<18446744073709551616 by omega)];refine zb.t (zj4 c hc)<|zb.t (zxk (¬(¬(a<0↔(1:Int)<0)↔c<0)) a.natAbs c.natAbs oM oM oM) ?_;rw[zxl a c];exact zM .refl (zE ⟨λg=>⟨h,g⟩,λg=>g.2⟩)
def uV(a b:Int)(ha:R64 a)(hb:R64 b):CG0 400 [i64 a,i64 b] [] (i64 (yZ (z6 a b))) []:=by
 refine zc Tryz.func400 ?_;exact zb.t (zu3 a b ha hb)<|.refl
def znZ(a:List Dig)(ha:a.length<=1000000000):CG0 383 [.sl dgE a] [] (.full dgE (zm (val a))) []:=by
 refine zc Tryz.func383 ?_;intro hl0;refine⟨Nat,λn=>⟨[(3,i64 n),(0,.sl dgE a)],[],0,22,0⟩,λn=>n<=a.length/\∀i,n<=i->dig a i=0,λn=>n,a.length,?_,?_,?_⟩
 ·exact⟨Xk _,λi h=>zaL h⟩
 ·exact zC []
 rintro n ⟨h1,h2⟩
 have post:(n=0∨dig a (n-1)≠0)->((a.drop (0:Int).toNat).take ((n:Int)-0).toNat)=zm (val a):=λh3=>by
  rw[←zjY h3 h1 h2];simp
 refine⟨λh3=>?_,λh3=>?_⟩
 ·refine Ar.o<|Ob.o ?_;intro x hx;rw[show((n:Int)-1).toNat=n-1 by omega]at hx;have dx:=zU hx;refine⟨λh4=>?_,λh4=>?_⟩
  ·refine Ar.o<|⟨n-1,⟨oM,λi hi=>?_⟩,jh [] ⟨Xg (λn=>some (i64 n)) oM,rfl,trivial⟩ trivial,by dsimp only;omega⟩
   by_cases e:i=n-1
   ·subst e;rw[dx];omega
   exact h2 i oM
  refine zwB.full (Ob.mk ⟨⟨oM,oM,rfl,oM⟩,λ_ _=>rfl⟩ ?_);exact zto (post (.inr oM))
 refine zwB.full (Ob.mk ⟨⟨oM,oM,rfl,oM⟩,λ_ _=>rfl⟩ ?_);exact zto (post (.inl oM))
def jr(a:List Dig)(ha:a.length<=1000000000):CG0 383 [.sl dgE a] [] (.sl dgE (zm (val a))) []:=(znZ a ha).le (zcE rfl)
def zn0(q:List Dig)(hq:q.length<=1000000000):CG0 242 [.sl dgE q] [] (.sl dgE q) []:=by
 refine zc Tryz.func242 ?_
 by_cases h0:q=[]
 ·refine zeR.any (Br.mk ?_ ?_)
  ·subst h0;exact zD
  refine⟨Dig,dgE,[],rfl,Ob.mk ze5 ?_⟩;refine⟨q,rfl,Ob.mk (zhr (by simp only[Xr];omega)) ?_⟩;exact z0 rfl
 refine zeR.some (λh=>h0 (Xp h))<|⟨Dig,dgE,[],rfl,Ob.mk ze5 ?_⟩;refine⟨q,rfl,Ob.mk (zhr (by simp only[Xr];omega)) ?_⟩;exact z0 rfl
def zad(a:List Dig)(ha:a.length<=1000000000):CG0 325 [.sl dgE a] [] (.sl dgE (zm (val a))) []:=by
 refine zc Tryz.func325 ?_;exact zb.t (jr a ha)<|zb.t (zn0 _ (by have:=zJ a;omega))<|.refl
def zeq(n:Nat)(hn:n<18446744073709551616):CG0 381 [u64 n] [] (.sl dgE (zm n)) []:=by
 refine zc Tryz.func381 ?_;refine Ar.wrap<|Ob.o1<|Ar.wrap<|⟨Dig,dgE,[dof n,dof (n/4294967296)],congr (Xg (λn m=>[u32 n,u32 m]) (zbe rfl)) (zbe (by simp only[Int.reducePow];omega)),Ob.mk (dTwo _ _) ?_⟩;refine zb.see 0 _ (zad [dof n,dof (n/4294967296)] (by simp)) rfl rfl rfl ?_;rw[znY _ hn];exact .refl
def zer(a:List Dig)(i:Int)(hi:0<=i):CG0 446 [.sl dgE a,i64 i] [] (u64 (dig a i.toNat)) []:=by
 refine zc Tryz.func446 ?_;intro hl;refine⟨λh=>?_,λh=>?_⟩
 ·refine Ob.o ?_;intro x hx;have:=x.isLt;exact Ar.o<|ze (by rw[zU hx])
 exact ze (by rw[zaL oM];rfl)
def zj5{A B:Nat}(h:(zm A).length<(zm B).length):A<B:=by
 have h1:=zcG (n:=A) (Xk _);have h2:=znV (n:=B) (λe=>by rw[e,jZ]at h;simp at h);exact Xw h1 (XC (XH dC oM) h2)
def zCo(a b:List Dig)(ha:a.length<=1000000000)(hb:b.length<=1000000000):
  CG0 440 [.sl dgE a,.sl dgE b] [] (i64 (zgj (val a) (val b))) []:=by
 refine zc Tryz.func440 ?_;refine zb.t (jr a ha)<|zb.t (jr b hb) ?_;have la:=zJ a;have lb:=zJ b;generalize val a=A at*;generalize val b=B at*;intro hl1 hl2;refine⟨λh3=>?_,λh3=>?_⟩
 ·intro hl4 hl5;refine⟨λh6=>?_,λh6=>?_⟩
  ·have:=zj5 (A:=A) (B:=B) oM;exact ze (by rw[zgj,Xe this])
  have:=zj5 (A:=B) (B:=A) oM;exact ze (by rw[zgj,Xc oM,Xe this])
 have h3:(zm A).length=(zm B).length:=oM;intro hl7;refine Ar.o<|⟨Nat,λj=>⟨[(5,i64 ((j:Int)-1)),(0,.sl dgE (zm A)),(1,.sl dgE (zm B))],[],0,45,0⟩,λj=>j<=(zm A).length/\∀i,j<=i->dig (zm A) i=dig (zm B) i,λj=>j,(zm A).length,?_,?_,?_⟩
 ·exact⟨oM,λi hi=>by rw[zaL oM,zaL oM]⟩
 ·exact zC []
 rintro j ⟨h1,h2⟩
 refine⟨λh8=>?_,λh8=>?_⟩
 ·have h2':∀i,j-1+1<=i->dig (zm A) i=dig (zm B) i:=λi hi=>h2 i oM
  refine Dr.k<|Ob.o ?_;intro x hx;rw[show((j:Int)-1).toNat=j-1 by omega]at hx;have dx:=zU hx;refine Ob.o ?_;intro y hy;rw[show((j:Int)-1).toNat=j-1 by omega]at hy;have dy:=zU hy;refine⟨λh4=>?_,λh4=>?_⟩
  ·have:=zgk h2' oM;rw[zo,zo]at this;exact ze (by rw[zgj,Xe this])
  refine Dr.k<|Ob.o ?_;intro x' hx';rw[show((j:Int)-1).toNat=j-1 by omega,hx]at hx'
  cases hx'
  refine Ob.o ?_;intro y' hy';rw[show((j:Int)-1).toNat=j-1 by omega,hy]at hy'
  cases hy'
  refine⟨λh5=>?_,λh5=>?_⟩
  ·have:=zgk (λi hi=>(h2' i hi).symm) oM;rw[zo,zo]at this;exact ze (by rw[zgj,Xc oM,Xe this])
  refine Ar.o<|⟨j-1,⟨oM,λi hi=>?_⟩,jh [] ⟨Xg (λn=>some (i64 n)) oM,rfl,rfl,trivial⟩ trivial,by dsimp only;omega⟩
  by_cases hij:i=j-1
  ·subst hij;omega
  exact h2 i oM
 have hj:j=0:=by omega
 subst hj;have:=zme λi=>h2 i (Xh _)
 rw[zo,zo]at this;exact ze (by rw[zgj,Xc oM,Xc oM])
def zCp(a b:List Dig)(ha:a.length<=900000000)(hb:b.length<=900000000):
  CG0 385 [.sl dgE a,.sl dgE b] [] (.sl dgE (zm (val a+val b))) []:=by
 refine zc Tryz.func385 ?_;intro hl1 hl2;refine Ar.fit (by simp only[zc9];omega) ?_;have en:zc9 (a.length:Int) [(b.length:Int)]+1=((max a.length b.length+1:Nat):Int):=by simp only[zc9];omega
 change ∃_,_;rw[en];generalize hn:max a.length b.length+1=n at*;refine⟨Dig,dgE,0,rfl,Ob.o7 ?_⟩;intro hl3
 refine⟨Nat×List Dig×Nat,λ⟨i,out,c⟩=>⟨[(17,i64 i),(16,i64 n),(6,u64 c),(5,.own 0),(0,.sl dgE a),(1,.sl dgE b)],[(0,qq out)],1,39,0⟩,
  λq=>q.1<=n/\q.2.1.length=n/\q.2.2<=1/\(∀j,q.1<=j->dig q.2.1 j=0)/\val q.2.1+4294967296^q.1*q.2.2=val (a.take q.1)+val (b.take q.1),λq=>n-q.1,(0,List.replicate n 0,0),?_,?_,?_⟩
 ·exact⟨Xh _,by simp,Xh _,λj _=>yN _ _,by simp[zaT,val]⟩
 ·exact zT [0] ⟨rfl,Xg (λn=>some (i64 n)) (by simp),rfl,rfl,rfl,rfl,trivial⟩ ⟨rfl,trivial⟩
 rintro⟨i,out,c⟩ ⟨h1,h2,h3,h4,h5⟩
 dsimp only at h1 h2 h3 h4 h5;refine⟨λh6=>?_,λh6=>?_⟩
 ·have d1:=yR a i;have d2:=yR b i;refine zb.t (zer a _ oM)<|zb.t (zer b _ oM) ?_;simp only[XT];(iterate 2 refine Ar.o ?_);refine Ar.wrap<|Ob.o<|Ob.o ?_;intro z hz;refine⟨dof (dig a i+dig b i+c),Xg (λn=>[u32 n]) (zbe oM),?_⟩;refine Ob.o1<|Ar.o ?_
  refine⟨(i+1,out.set i (dof (dig a i+dig b i+c)),(dig a i+dig b i+c)/4294967296),⟨by dsimp only;omega,by simp[h2],by dsimp only;omega,λj hj=>?_,?_⟩,
   zT [0] ⟨rfl,rfl,Xg (λn=>some (u64 n)) (by simp only[Int.reducePow];omega),rfl,rfl,rfl,trivial⟩ ⟨rfl,trivial⟩,by dsimp only;omega⟩
  ·dsimp only at hj ⊢;rw[jQ,Xc oM];exact h4 j oM
  dsimp only;have hs:=v6 out i (dof (dig a i+dig b i+c)) oM;rw[h4 i (Xk _),ky,Ko,XQ]at hs;rw[hs,zQ,zQ,XU];have e:=X7 (dig a i+dig b i+c) 4294967296;generalize (dig a i+dig b i+c)/4294967296=x at*;generalize (dig a i+dig b i+c)%4294967296=y at*;generalize 4294967296^i=p at*;clear hs h4
  grind
 have hi:i=n:=by omega
 subst hi;rw[kU oM,kU oM]at h5
 have hc:c=0:=by
  have l1:=Xw (q9 a) (XH (show 0<4294967296 by decide) (show a.length<=i-1 by omega));have l2:=Xw (q9 b) (XH (show 0<4294967296 by decide) (show b.length<=i-1 by omega));have e:4294967296^i=4294967296^(i-1)*4294967296:=by rw[←XU];congr 1;omega
  have:c=0∨c=1:=oM
  rcases this with h|h
  ·exact h
  subst h;omega
 subst hc;refine zb.see 0 _ (jr out oM) rfl rfl rfl ?_;rw[show val out=val a+val b by omega];exact .refl
def zCq(a b:List Dig)(ha:a.length<=900000000)(hb:b.length<=900000000):
  CG0 390 [.sl dgE a,.sl dgE b] [] (.tup [.sl dgE (zm (val a-val b)),pr (val b<=val a)]) []:=by
 refine zc Tryz.func390 ?_;refine zb.t (zCo a b oM oM)<|⟨λh=>?_,λh=>?_⟩
 ·have hlt:=zeo.1 h;refine zM ?_ (zd oM);rw[Yq oM,jZ];exact zD
 have hle:val b<=val a:=QX λh'=>h (zeo.2 h')
 refine zb.t (jr a oM) ?_;have la:=zJ a;have ldef:=zcG (n:=val a) (Xk _);intro hl2;generalize hn:(zm (val a)).length=n at*;refine⟨Dig,dgE,0,rfl,Ob.o7 ?_⟩;intro hl3
 refine⟨Nat×List Dig×Nat,λ⟨i,out,c⟩=>⟨[(20,i64 i),(19,i64 n),(7,u64 c),(6,.own 0),(0,.sl dgE a),(1,.sl dgE b)],[(0,qq out)],1,42,0⟩,
  λq=>q.1<=n/\q.2.1.length=n/\q.2.2<=1/\(∀j,q.1<=j->dig q.2.1 j=0)/\val q.2.1+val (b.take q.1)=val (a.take q.1)+4294967296^q.1*q.2.2,λq=>n-q.1,(0,List.replicate n 0,0),?_,?_,?_⟩
 ·exact⟨Xh _,by simp,Xh _,λj _=>yN _ _,by simp[zaT,val]⟩
 ·exact zT [0] ⟨rfl,Xg (λn=>some (i64 n)) (by simp),rfl,rfl,rfl,rfl,trivial⟩ ⟨rfl,trivial⟩
 rintro⟨i,out,c⟩ ⟨h1,h2,h3,h4,h5⟩
 dsimp only at h1 h2 h3 h4 h5;refine⟨λh6=>?_,λh6=>?_⟩
 ·have d1:=yR a i;have d2:=yR b i;refine zb.t (zer a _ oM)<|zb.t (zer b _ oM) ?_;simp only[XT];refine Ar.wrap<|Ar.wrap<|Ar.wrap<|Ob.o<|Ob.o ?_;intro z hz;refine⟨dof (4294967296+dig a i-dig b i-c),Xg (λn=>[u32 n]) (by rw[zj0,yk,yk,ky];omega),?_⟩;refine Ob.o1<|Ar.o ?_
  refine⟨(i+1,out.set i (dof (4294967296+dig a i-dig b i-c)),1-(4294967296+dig a i-dig b i-c)/4294967296),⟨by dsimp only;omega,by simp[h2],by dsimp only;omega,λj hj=>?_,?_⟩,
   zT [0] ⟨rfl,rfl,Xg (λn=>some (u64 n)) (by rw[yk,yk];simp only[Int.reducePow];omega),rfl,rfl,rfl,trivial⟩ ⟨rfl,trivial⟩,by dsimp only;omega⟩
  ·dsimp only at hj ⊢;rw[jQ,Xc oM];exact h4 j oM
  dsimp only;have hs:=v6 out i (dof (4294967296+dig a i-dig b i-c)) oM;rw[h4 i (Xk _),ky,Ko,XQ]at hs;rw[hs,zQ,zQ,XU];have e:(4294967296+dig a i-dig b i-c)%4294967296+dig b i+c=dig a i+4294967296*(1-(4294967296+dig a i-dig b i-c)/4294967296):=oM;generalize 1-(4294967296+dig a i-dig b i-c)/4294967296=x at*;generalize (4294967296+dig a i-dig b i-c)%4294967296=y at*;generalize 4294967296^i=p at*
  have e2:p*y+p*dig b i+p*c=p*dig a i+p*4294967296*x:=by
   rw[←KF,←KF,e,KF,KC]
  omega
 have hi:i=n:=by omega
 subst hi;have ea:val (a.take i)=val a:=by rw[zpK,Xy ldef]
 have eb:val (b.take i)=val b:=by rw[zpK,Xy (K6 hle ldef)]
 rw[ea,eb]at h5;have e4:=q9 out;rw[h2]at e4
 have e:val out=val a-val b:=by
  have:c=0∨c=1:=oM
  rcases this with rfl|rfl <;> omega
 refine zb.see 0 _ (jr out oM) rfl rfl rfl ?_;rw[e];exact zM .refl (zI hle)
def zpO(xs:List Dig)(n:Nat)(h:xs.length=n+2):∃r,r<4294967296^n/\val xs=(dig xs (n+1)*4294967296+dig xs n)*4294967296^n+r:=by
 refine⟨val (xs.take n),qR xs n,?_⟩;have e1:=kT xs n;have e2:=zG xs n;have e3:=zG xs (n+1);rw[z8 (show xs.length<=n+1+1 by omega),Ko,XQ]at e3;rw[e3]at e2;rw[e1,e2];generalize dig xs (n+1)=a;generalize dig xs n=b;generalize 4294967296^n=p
 grind
def zpP{P v1 v2 rv top u2 ru q r:Nat}(hrv:rv<P)(hru:ru<P)(hv1:2147483648<=v1)(hv2:v2<4294967296)(e:q*v1+r=top)(hq:q<=4294967296)(hle:q*v2<=r*4294967296+u2)(hQ:((top*4294967296+u2)*P+ru)/((v1*4294967296+v2)*P+rv)<=q):
  q=((top*4294967296+u2)*P+ru)/((v1*4294967296+v2)*P+rv)∨q=((top*4294967296+u2)*P+ru)/((v1*4294967296+v2)*P+rv)+1:=by
 have hP:0<P:=oM
 have hV:0<(v1*4294967296+v2)*P+rv:=by
  have:0<(v1*4294967296+v2)*P:=Nat.mul_pos oM hP;omega
 have key:(q-1)*((v1*4294967296+v2)*P+rv)<=(top*4294967296+u2)*P+ru:=by
  rcases Ks q with h0|h0
  ·subst h0;simp
  obtain⟨p,rfl⟩:∃p,q=p+1:=⟨q-1,oM⟩;rw[Qr]
  have h1:p*((v1*4294967296+v2)*P+rv)<=p*((v1*4294967296+v2+1)*P):=by
   refine Kf _ ?_;rw[X0 _ 1 P];omega
  have h2:p*(v1*4294967296+v2+1)<=top*4294967296+u2:=by
   have a1:(p+1)*v1=p*v1+v1:=by rw[X0];omega
   have a2:(p+1)*v2=p*v2+v2:=by rw[X0];omega
   have a3:p*(v1*4294967296+v2+1)=(p*v1)*4294967296+p*v2+p:=by
    rw[KF,KF,KC];omega
   rw[a1]at e;rw[a2]at hle;rw[a3];omega
  have h3:p*((v1*4294967296+v2+1)*P)<=(top*4294967296+u2)*P:=by
   rw[←KC];exact Xu _ h2
  omega
 have:=(Jp hV).2 key;omega
def zu4{P v1 v2 rv top u2 ru q r:Nat}(hru:ru<P)(e:q*v1+r=top)(hgt:r*4294967296+u2<q*v2):
  ((top*4294967296+u2)*P+ru)/((v1*4294967296+v2)*P+rv)<q:=by
 have hP:0<P:=oM
 have hq:0<q:=by
  rcases Ks q with h|h
  ·subst h;omega
  exact h
 have h1:top*4294967296+u2+1<=q*(v1*4294967296+v2):=by
  have a3:q*(v1*4294967296+v2)=(q*v1)*4294967296+q*v2:=by rw[KF,KC]
  rw[a3];omega
 have h2:(top*4294967296+u2)*P+ru<q*((v1*4294967296+v2)*P+rv):=by
  have a1:(top*4294967296+u2+1)*P<=q*(v1*4294967296+v2)*P:=Xu _ h1
  have a2:q*(v1*4294967296+v2)*P<=q*((v1*4294967296+v2)*P+rv):=by
   rw[KC];exact Kf _ (Jv _ _)
  rw[X0 _ 1 P]at a1;omega
 have hV:0<(v1*4294967296+v2)*P+rv:=by
  rcases Ks ((v1*4294967296+v2)*P+rv) with h|h
  ·rw[h]at h2;omega
  exact h
 exact(XS hV).2 h2
def zu5{p q c b ui y lo c' ui' b' U V R:Nat}(h:R+q*V=U+p*(c+b))(hl:lo+4294967296*c'=c+q*y)(hu:ui'+lo+b=ui+4294967296*b'):
  R+p*ui'+q*(V+p*y)=U+p*ui+p*4294967296*(c'+b'):=by
 have e1:ui'+(c+q*y)+b=ui+4294967296*(c'+b'):=oM;have e2:p*(ui'+(c+q*y)+b)=p*(ui+4294967296*(c'+b')):=by rw[e1]
 grind
def n_mul(a0 b0:List Dig)(ha:a0.length<=400000000)(hb:b0.length<=400000000):
  CG0 439 [.sl dgE a0,.sl dgE b0] [] (.sl dgE (zm (val a0*val b0))) []:=by
 refine zc Tryz.func439 ?_;refine zb.t (jr a0 oM)<|zb.t (jr b0 oM) ?_;have la:=zJ a0;have lb:=zJ b0;have va:=zo (val a0);have vb:=zo (val b0);generalize zm (val a0)=a at*;generalize zm (val b0)=b at*;rw[←va,←vb];clear va vb;intro hl1 hl2;refine Ar.o<|⟨Dig,dgE,0,rfl,Ob.o7 ?_⟩;intro hl3
 refine⟨Nat×List Dig,λ⟨i,out⟩=>⟨[(23,i64 i),(22,i64 a.length),(21,.sl dgE a),(5,.own 0),(1,.sl dgE b)],[(0,qq out)],1,73,0⟩,
  λq=>q.1<=a.length/\q.2.length=a.length+b.length/\val q.2=val (a.take q.1)*val b/\∀j,q.1+b.length<=j->dig q.2 j=0,λq=>a.length-q.1,(0,List.replicate (a.length+b.length) 0),?_,?_,?_⟩
 ·exact⟨Xh _,by simp,by simp[zaT,val],λj _=>yN _ _⟩
 ·exact zu [0] ⟨Xg (λn=>some (qq (List.replicate n 0))) oM,trivial⟩
 rintro⟨i,out0⟩ ⟨h1,h2,h3,h4⟩
 dsimp only at h1 h2 h3 h4;refine⟨λh5=>?_,λh5=>?_⟩
 ·refine Ob.o ?_;intro x hx;have hx:a[i]?=some x:=hx;have dx:=zU hx;have hxl:=x.isLt;refine⟨λh6=>?_,λh6=>?_⟩
  ·refine Ar.o<|⟨(i+1,out0),⟨by dsimp only;omega,h2,?_,λj hj=>h4 j (by dsimp only at hj;omega)⟩,zf [0],by dsimp only;omega⟩;dsimp only;rw[zQ,dx,show x.val=0 by omega,Ko,XQ];exact h3
  intro hl6
  refine⟨Nat×List Dig×Nat,λ⟨k,out,c⟩=>⟨[(32,i64 k),(31,i64 b.length),(30,.sl dgE b),(8,u64 c),(7,u32 x.val),(6,i64 i),(23,i64 i),(22,i64 a.length),(21,.sl dgE a),(5,.own 0),(1,.sl dgE b)],[(0,qq out)],1,73,0⟩,
   λq=>q.1<=b.length/\q.2.1.length=a.length+b.length/\q.2.2<4294967296/\val q.2.1+4294967296^(i+q.1)*q.2.2=val out0+4294967296^i*(x.val*val (b.take q.1))/\∀j,i+b.length<=j->dig q.2.1 j=0,λq=>b.length-q.1,(0,out0,0),?_,?_,?_⟩
  ·exact⟨Xh _,h2,by dsimp only;omega,by simp[val],h4⟩
  ·exact zf [0]
  rintro⟨k,out,c⟩ ⟨g1,g2,g3,g4,g5⟩
  dsimp only at g1 g2 g3 g4 g5;refine⟨λg6=>?_,λg6=>?_⟩
  ·refine Ob.o ?_;intro y hy;have hy:b[k]?=some y:=hy;have dy:=zU hy;have hyl:=y.isLt;have hm0:=zep hxl hyl;(iterate 4 refine Ar.o ?_);refine Ob.o<|Ob.o ?_;intro z hz;rw[show((i:Int)+k).toNat=i+k by omega]at hz;have dz:=zU hz;have hzl:=z.isLt;(iterate 4 refine Ar.o ?_);refine Ar.wrap<|Ob.o<|Ob.o ?_;intro z' hz';refine⟨dof (x.val*y.val+z.val+c),Xg (λn=>[u32 n]) (zbe oM),?_⟩;refine Ob.o1<|Ar.o ?_
   refine⟨(k+1,out.set (i+k) (dof (x.val*y.val+z.val+c)),(x.val*y.val+z.val+c)/4294967296),⟨by dsimp only;omega,by simp[g2],by dsimp only;omega,?_,?_⟩,
    zT [0] ⟨rfl,rfl,rfl,Xg (λn=>some (u64 n)) (by simp only[Int.reducePow];omega),rfl,rfl,rfl,rfl,rfl,rfl,rfl,trivial⟩ ⟨Xg (λn=>some (qq (out.set n _))) oM,trivial⟩,by dsimp only;omega⟩
   ·dsimp only;have hs:=v6 out (i+k) (dof (x.val*y.val+z.val+c)) oM;rw[ky,dz]at hs;rw[zQ,dy,←KB i k 1,XU];have e:=X7 (x.val*y.val+z.val+c) 4294967296;rw[Ke]at g4 hs ⊢;exact zpL g4 hs e
   intro j hj;dsimp only;rw[jQ,Xc oM];exact g5 j hj
  have hk:k=b.length:=by omega
  intro hl8;refine Ar.o<|Ar.wrap<|Ob.o<|Ob.o ?_;intro z' hz';refine⟨dof c,Xg (λn=>[u32 n]) (zbe rfl),?_⟩;refine Ar.o ?_
  refine⟨(i+1,out.set (i+b.length) (dof c)),⟨by dsimp only;omega,by simp[g2],?_,?_⟩,
   zu [0] ⟨Xg (λn=>some (qq (out.set n _))) oM,trivial⟩,by dsimp only;omega⟩
  ·dsimp only;have hs:=v6 out (i+b.length) (dof c) oM;rw[ky,g5 _ (Xk _),Xy g3]at hs;rw[hk,kU (Xk _),h3]at g4;rw[zQ,dx];generalize val (out.set (i+b.length) _)=r at*;generalize 4294967296^i=p at*;generalize 4294967296^(i+b.length)=q at*;generalize val (a.take i)=w at*;generalize x.val=x at*;generalize val out=o at*;clear h4 g5
   grind
  intro j hj;dsimp only;rw[jQ,Xc oM];exact g5 j oM
 have hi:i=a.length:=by omega
 rw[hi,kU (Xk _)]at h3;refine zb.see 0 _ (jr out0 oM) rfl rfl rfl ?_;rw[h3];exact .refl
def zgo{x y:Nat}{e:Int}(hx:x<4294967296)(hy:y<4294967296)(he:e=(x:Int)*2^32):vk .or .u64 e y=((x*4294967296+y:Nat):Int):=by
 have h1:e=((x*4294967296:Nat):Int):=by rw[he];simp only[Int.reducePow];omega
 rw[h1,zj2 oM oM];have:=K8 (i:=32) (b:=y) (by rw[show 2^32=4294967296 by decide];exact hy) x;rw[show 2^32=4294967296 by decide,Kt]at this;rw[←this]
def n_one(a:List Dig)(d:Nat)(ha:a.length<=900000000)(hd:d<4294967296)(h0:d≠0):
  CG0 441 [.sl dgE a,u32 d] [] (.tup [.sl dgE (zm (val a/d)),u32 (val a%d:Nat)]) []:=by
 refine zc Tryz.func441 ?_;intro hl1;refine⟨Dig,dgE,0,rfl,Ob.o7 ?_⟩;intro hl2;refine Ar.o ?_
 refine⟨Nat×List Dig×Nat,λ⟨j,out,r⟩=>⟨[(8,i64 ((j:Int)-1)),(7,u64 r),(6,.own 0),(0,.sl dgE a),(1,u32 d)],[(0,qq out)],1,43,0⟩,
  λq=>q.1<=a.length/\q.2.1.length=a.length/\q.2.2<d/\val (a.drop q.1)=d*val (q.2.1.drop q.1)+q.2.2,λq=>q.1,(a.length,List.replicate a.length 0,0),?_,?_,?_⟩
 ·refine⟨Xk _,by simp,by dsimp only;omega,?_⟩;dsimp only;rw[z8 (Xk _),z8 (by simp),Ko]
 ·exact zu [0] ⟨Xg (λn=>some (qq (List.replicate n 0))) oM,trivial⟩
 rintro⟨j,out,r⟩ ⟨h1,h2,h3,h4⟩
 dsimp only at h1 h2 h3 h4;refine⟨λh5=>?_,λh5=>?_⟩
 ·refine Ob.o1<|Ar.fit (by simp only[Int.reducePow];omega)<|Ob.o ?_;intro x hx;rw[show((j:Int)-1).toNat=j-1 by omega]at hx;have dx:=zU hx;have hxl:=x.isLt;refine Ar.o<|⟨_,(zgo oM hxl rfl).symm,?_⟩
  have hq:(r*4294967296+x.val)/d<4294967296:=by
   rw[XS oM];have:r*4294967296+4294967296<=4294967296*d:=oM;omega
  have hm:(r*4294967296+x.val)%d<d:=Kk _ oM;have hdm:=X7 (r*4294967296+x.val) d;refine Ar.o<|Dv.pos ⟨oM,oM,by show _<=(18446744073709551615:Int);omega⟩ ?_;have e1:((r*4294967296+x.val:Nat):Int)/(d:Int)=(((r*4294967296+x.val)/d:Nat):Int):=by simp
  have e2:((r*4294967296+x.val:Nat):Int)%(d:Int)=(((r*4294967296+x.val)%d:Nat):Int):=by simp
  rw[e1];generalize (r*4294967296+x.val)/d=qd at*;refine Ar.o<|Ob.o<|Ob.o ?_;intro z hz;refine⟨dof qd,Xg (λn=>[u32 n]) (by rw[ky,Xy hq]),?_⟩;refine Ar.o<|Dv.pos ⟨oM,oM⟩ ?_;rw[e2];generalize (r*4294967296+x.val)%d=rd at*;refine Ar.o ?_
  refine⟨(j-1,out.set (j-1) (dof qd),rd),⟨by dsimp only;omega,by simp[h2],hm,?_⟩,
   zT [0] ⟨Xg (λn=>some (i64 n)) oM,rfl,rfl,rfl,rfl,trivial⟩ ⟨Xg (λn=>some (qq (out.set n _))) oM,trivial⟩,by dsimp only;omega⟩
  dsimp only;rw[zG a,dx,show j-1+1=j by omega];refine zpM h4 oM hdm ?_;rw[zbQ oM,ky,Xy hq,show j-1+1=j by omega]
 have hj:j=0:=by omega
 subst hj;rw[KZ,KZ]at h4
 have e1:val out=val a/d:=by
  rw[h4,Qz oM,Kh h3,XQ]
 have e2:r=val a%d:=by
  rw[h4,QA,Xy h3]
 refine zb.see 0 _ (jr out oM) rfl rfl rfl<|Ar.o ?_;rw[e1];exact zM .refl (ze (by rw[e2]))
def zij(v1 v2 u2 top:Nat):Nat->Nat->Nat
 |0,q=>q
 |f+1,q=>if 4294967296<=q∨(top-q*v1)*4294967296+u2<q*v2 then(if 4294967296<=top-(q-1)*v1 then q-1 else zij v1 v2 u2 top f (q-1)) else q
def zpQ{P v1 v2 rv top u2 ru Q:Nat}(hrv:rv<P)(hru:ru<P)(hv1:2147483648<=v1)(hv2:v2<4294967296)(hQd:((top*4294967296+u2)*P+ru)/((v1*4294967296+v2)*P+rv)=Q)(hQ:Q<4294967296):∀(f q:Nat),q<f->q<=4294967297->q*v1<=top->Q<=q->
   zij v1 v2 u2 top f q=Q∨zij v1 v2 u2 top f q=Q+1
 |0,q,h,_,_,_=>oM
 |f+1,q,h,hq,hle,hge=>by
  unfold zij;have hr:q*v1+(top-q*v1)=top:=oM
  by_cases hc:4294967296<=q∨(top-q*v1)*4294967296+u2<q*v2
  ·rw[Xe hc]
   have hlt:Q<q:=by
    rcases hc with hc|hc
    ·omega
    rw[←hQd];exact zu4 hru hr hc
   have hq1:(q-1)*v1+v1=q*v1:=by
    have:q=(q-1)+1:=oM;rw[this,X0];simp
   by_cases hb:4294967296<=top-(q-1)*v1
   ·rw[Xe hb];have h1:(q-1)*v2<=4294967296*4294967295:=Qs oM oM;have:=zpP hrv hru hv1 hv2 (q:=q-1) (r:=top-(q-1)*v1) (top:=top) (u2:=u2) oM oM oM (by rw[hQd];omega)
    rwa [hQd]at this
   rw[Xc hb];exact zpQ hrv hru hv1 hv2 hQd hQ f (q-1) oM oM oM oM
  rw[Xc hc];have:=zpP hrv hru hv1 hv2 hr (u2:=u2) oM oM (by rw[hQd];exact hge)
  rwa [hQd]at this
def uI(U V:List Dig):Nat:=dig U V.length*4294967296+dig U (V.length-1)
def zhu(U V:List Dig):Nat:=zij (dig V (V.length-1)) (dig V (V.length-2)) (dig U (V.length-2)) (uI U V) (uI U V/dig V (V.length-1)+1) (uI U V/dig V (V.length-1))
def zDh{U V:List Dig}(hU:U.length=V.length+1)(hn:2<=V.length)(hlt:val U<4294967296*val V):uI U V<(dig V (V.length-1)+1)*4294967296:=by
 obtain⟨n,hn'⟩:∃n,V.length=n+1:=⟨V.length-1,oM⟩;have e1:=kT U n;have e2:=zG U n;have e3:=zG U (n+1);rw[z8 (show U.length<=n+1+1 by omega),Ko,XQ]at e3;have f1:=kT V n;have f2:=zG V n;rw[z8 (show V.length<=n+1 by omega),Ko,XQ]at f2;have f3:=qR V n;unfold uI;rw[hn',Qr];rw[e3]at e2;rw[e2]at e1;rw[f2]at f1;have hp:=zdz n;generalize 4294967296^n=p at*;generalize dig U n=a at*;generalize dig U (n+1)=b at*;generalize dig V n=v at*
 have h1:p*(a+4294967296*b)<p*(4294967296*(v+1)):=by
  have h2:p*(4294967296*(v+1))=4294967296*(p*v+p):=by
   rw[Nat.mul_left_comm,KF p v 1,Je]
  rw[h2];generalize p*(a+4294967296*b)=X at*;generalize p*v=Y at*;omega
 have:=JS h1;omega
def zmg{U V:List Dig}(hU:U.length=V.length+1)(hn:2<=V.length)(hv:2147483648<=dig V (V.length-1))(hlt:val U<4294967296*val V):
  (zhu U V=val U/val V∨zhu U V=val U/val V+1)/\val U/val V<=uI U V/dig V (V.length-1)/\uI U V/dig V (V.length-1)<=4294967297:=by
 have hest:=zxg (r:=U) (b:=V) oM hlt;have htop:=zDh hU hn hlt
 have hVp:0<val V:=by
  rcases Ks (val V) with h|h
  ·rw[h]at hlt;omega
  exact h
 have hQ:val U/val V<4294967296:=(XS hVp).2 hlt
 have hq1:uI U V/dig V (V.length-1)<=4294967297:=by
  have:uI U V/dig V (V.length-1)<4294967298:=by
   rw[XS oM];omega
  omega
 refine⟨?_,hest,hq1⟩;obtain⟨n,hn'⟩:∃n,V.length=n+2:=⟨V.length-2,oM⟩;have e1:=kT U n;have e2:=zG U n;have e3:=zG U (n+1);have e4:=zG U (n+1+1);rw[z8 (show U.length<=n+1+1+1 by omega),Ko,XQ]at e4;have e5:=qR U n;obtain⟨rv,r1,r2⟩:=zpO V n hn'
 have eU:val U=(uI U V*4294967296+dig U (V.length-2))*4294967296^n+val (U.take n):=by
  unfold uI;rw[hn',show n+2-1=n+1 by omega,show n+2-2=n by omega,e1,e2,e3,e4];generalize 4294967296^n=p
  grind
 have eV:val V=(dig V (V.length-1)*4294967296+dig V (V.length-2))*4294967296^n+rv:=by
  rw[hn',show n+2-1=n+1 by omega,show n+2-2=n by omega];exact r2
 have key:=zpQ (P:=4294967296^n) (v1:=dig V (V.length-1)) (v2:=dig V (V.length-2)) (top:=uI U V) (u2:=dig U (V.length-2)) (Q:=val U/val V) r1 e5 hv (yR _ _) (by rw[←eU,←eV]) hQ
  (uI U V/dig V (V.length-1)+1) (uI U V/dig V (V.length-1)) oM hq1 (JG _ _) hest
 exact key
def zAx(U V:List Dig)(hl:V.length<=900000000)(hU:U.length=V.length+1)(hn:2<=V.length)(hv:2147483648<=dig V (V.length-1))(hlt:val U<4294967296*val V):
  CG0 444 [.sl dgE U,.sl dgE V] [] (u64 (zhu U V:Nat)) []:=by
 obtain⟨_,hQ,hq⟩:=zmg hU hn hv hlt;have hG:zhu U V=zij (dig V (V.length-1)) (dig V (V.length-2)) (dig U (V.length-2)) (uI U V) (uI U V/dig V (V.length-1)+1) (uI U V/dig V (V.length-1)):=rfl;refine zc Tryz.func444 ?_;intro hl1;refine Dr.k<|Ob.o ?_;intro x hx;have hx:U[V.length]?=some x:=hx;have dx:=zU hx;have hxl:=x.isLt;refine Ar.o<|Ob.o1<|Ar.fit (by simp only[Int.reducePow];omega)<|Ar.o<|Ob.o ?_;intro y hy;rw[show((V.length:Int)-1).toNat=V.length-1 by omega]at hy;have dy:=zU hy
 have hyl:=y.isLt;refine Ar.o<|⟨_,(zgo hxl hyl rfl).symm,?_⟩;have ht:uI U V=x.val*4294967296+y.val:=by unfold uI;rw[dx,dy]
 rw[←ht];have ht2:uI U V<18446744073709551616:=oM;generalize uI U V=T at*;refine Dr.k<|Ar.o<|Ob.o ?_;intro v1 hv1;rw[show((V.length:Int)-1).toNat=V.length-1 by omega]at hv1;have d1:=zU hv1;have h1l:=v1.isLt;rw[d1]at hv hQ hq hG;refine Ar.o<|Dv.pos ⟨oM,oM,by show _<=(18446744073709551615:Int);omega⟩<|Ar.o<|Ob.o ?_;intro v1' hv1';rw[show((V.length:Int)-1).toNat=V.length-1 by omega,hv1]at hv1'
 cases hv1'
 refine Ar.o<|Dv.pos ⟨oM,oM⟩ ?_;have hdm:=X7 T v1.val;have hml:T%v1.val<v1.val:=Kk _ oM
 refine⟨Nat×Nat×Nat,λ⟨f,q,r⟩=>⟨[(7,u64 q),(8,u64 r),(0,.sl dgE U),(1,.sl dgE V),(5,i64 V.length)],[],0,77,0⟩,
  λs=>s.2.1<s.1/\s.2.1<=4294967297/\s.2.2<4294967296/\s.2.1*v1.val+s.2.2=T/\zhu U V=zij v1.val (dig V (V.length-2)) (dig U (V.length-2)) T s.1 s.2.1,λs=>s.1,
  (T/v1.val+1,T/v1.val,T%v1.val),?_,?_,?_⟩
 ·exact⟨by dsimp only;omega,hq,by dsimp only;omega,by dsimp only;rw[Kt];exact hdm,hG⟩
 ·exact jh [] ⟨Xg (λn=>some (u64 n)) (by simp),Xg (λn=>some (u64 n)) (by simp),rfl,rfl,rfl,trivial⟩ trivial
 clear hG hQ hq hdm hml ht
 rintro⟨f,q,r⟩ ⟨g1,g2,g3,g4,g5⟩
 dsimp only at g1 g2 g3 g4 g5;obtain⟨f',rfl⟩:∃f',f=f'+1:=⟨f-1,oM⟩;unfold zij at g5;have er:T-q*v1.val=r:=oM;rw[er]at g5
 have dec:1<=q->(q-1)*v1.val+v1.val=q*v1.val:=λh=>by
  have:q=(q-1)+1:=oM;rw[this,X0];simp
 refine Dr.k<|Ob.o1<|Br.mk (λk1=>?_) (λk1=>?_)
 ·have k1:4294967296<=q:=by simp only[Int.reducePow]at k1;omega
  rw[Xe (.inl k1)]at g5;have hd:=dec oM;have er2:T-(q-1)*v1.val=r+v1.val:=oM;rw[er2]at g5;(iterate 2 refine Ar.o ?_);refine Ob.o ?_;intro z hz;rw[show((V.length:Int)-1).toNat=V.length-1 by omega,hv1]at hz
  cases hz
  (iterate 2 refine Ar.o ?_);refine Ob.o1<|Br.mk (λk3=>?_) (λk3=>?_)
  ·rw[Xe (by simp only[Int.reducePow]at k3;omega)]at g5;exact ze oM
  rw[Xc (by simp only[Int.reducePow]at k3;omega)]at g5
  exact⟨(f',q-1,r+v1.val),⟨by dsimp only;omega,by dsimp only;omega,by dsimp only;simp only[Int.reducePow]at k3;omega,by dsimp only;omega,g5⟩,
   jh [] ⟨Xg (λn=>some (u64 n)) oM,rfl,rfl,rfl,rfl,trivial⟩ trivial,by dsimp only;omega⟩
 have k1:q<4294967296:=by simp only[Int.reducePow]at k1;omega
 refine Ar.o<|Ob.o ?_;intro v2 hv2;rw[show((V.length:Int)-2).toNat=V.length-2 by omega]at hv2;have d2:=zU hv2;have h2l:=v2.isLt;have hm:=zep k1 h2l;(iterate 2 refine Ar.o ?_);refine Ob.o1<|Ar.fit (by simp only[Int.reducePow];omega)<|Ar.o<|Ob.o ?_;intro w hw;rw[show((V.length:Int)-2).toNat=V.length-2 by omega]at hw;have dw:=zU hw;have hwl:=w.isLt;refine Ar.o<|⟨_,(zgo g3 hwl rfl).symm,?_⟩;rw[d2,dw]at g5;refine⟨λk2=>?_,λk2=>?_⟩
 ·have k2:r*4294967296+w.val<q*v2.val:=by
   rw[←X1]at k2;omega
  have hq0:1<=q:=by
   rcases Ks q with h|h
   ·subst h;omega
   exact h
  rw[Xe (.inr k2)]at g5;have hd:=dec hq0;have er2:T-(q-1)*v1.val=r+v1.val:=oM;rw[er2]at g5;rw[←d2,←dw]at g5;(iterate 2 refine Ar.o ?_);refine Ob.o ?_;intro z hz;rw[show((V.length:Int)-1).toNat=V.length-1 by omega,hv1]at hz
  cases hz
  (iterate 2 refine Ar.o ?_);refine Ob.o1<|Br.mk (λk3=>?_) (λk3=>?_)
  ·rw[Xe (by simp only[Int.reducePow]at k3;omega)]at g5;exact ze oM
  rw[Xc (by simp only[Int.reducePow]at k3;omega)]at g5
  exact⟨(f',q-1,r+v1.val),⟨by dsimp only;omega,by dsimp only;omega,by dsimp only;simp only[Int.reducePow]at k3;omega,by dsimp only;omega,g5⟩,
   jh [] ⟨Xg (λn=>some (u64 n)) oM,rfl,rfl,rfl,rfl,trivial⟩ trivial,by dsimp only;omega⟩
 have k2:¬(4294967296<=q∨r*4294967296+w.val<q*v2.val):=by
  rw[←X1]at k2;omega
 rw[Xc k2]at g5;exact ze (by rw[g5])
end Go.Gs
