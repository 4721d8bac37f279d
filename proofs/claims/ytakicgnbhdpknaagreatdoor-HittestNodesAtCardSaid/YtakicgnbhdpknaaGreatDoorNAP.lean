/- Natural numbers, the other text: quotient and remainder. -/
import Derived.Test.YtakicgnbhdpknaaGreatDoorNAO
import Derived.Lib.Mul64
set_option maxRecDepth 100000
set_option maxHeartbeats 8000000
set_option linter.all false
namespace Go.Gs
open Proofs.Tryz
open Go.Proofs
def zpE{u q V d l w B qd rr nx:Nat}(h:w=V*qd+rr)(hn:nx=u+B*rr)(hd:V*d+l=nx)(hq:q=d+B*qd):u+B*w=V*q+l:=by
 subst h;subst hq;grind
def zbP{xs:LB}{i:Nat}{d:Dig}(h:i<xs.length):val ((xs.set i d).drop i)=d.val+4294967296*val (xs.drop (i+1)):=by
 rw[zG,jR,Xe ⟨rfl,h⟩,List.drop_set_of_lt oM]
def zhs(a b:LB)(ha:a.length<=400000000)(hb:b.length<=400000000)(hb0:val b≠0):
  CX 298 [.sl dgE a,.sl dgE b] (.tup [.sl dgE (zm (val a/val b)),.sl dgE (zm (val a%val b)),i64 0]):=by
 refine zc func298<|wg (uF _ oM) λhl=>?_;have hlen:=zJ b;refine⟨λh=>?_,λh=>?_⟩
 ·have:zm (val b)=[]:=XM.1 oM;exact absurd (yF.1 this) hb0
 have hne:zm (val b)≠[]:=λe=>hb0 (yF.1 e)
 have hnorm:=(vM (val b)).resolve_left hne;have htop:=zbZ hnorm;rw[zo]at htop;have hbits:=zgl (zm (val b));rw[zo]at hbits;have hpos:=zbY.2 hb0;have hnt:0<kA (dig (zm (val b)) ((zm (val b)).length-1)):=zbY.2 hnorm;intro hl2;refine wa<|wg (zmi _ oM) ?_;rw[zo];refine wa ?_;obtain⟨s,hs⟩:∃s:Nat,(32*((zm (val b)).length:Int)-(kA (val b):Int))=s:=⟨32*(zm (val b)).length-kA (val b),oM⟩;rw[hs];have hs32:s<32:=oM;refine wg (ztv a s oM oM)<|wg (ztv (zm (val b)) s oM oM) ?_;rw[zo]
 have hpow:2^s<=4294967296^1:=by rw[zbb];exact XH dC oM
 have hpow0:0<2^s:=KW dC
 have hUl:(zm (val a*2^s)).length<=a.length+1:=jM (by
  rw[Ke]
  exact Xw (KK (q9 a) hpow0) (Kf _ hpow))
 have hVl:(zm (val b*2^s)).length<=b.length+1:=jM (by
  rw[Ke]
  exact Xw (KK (q9 b) hpow0) (Kf _ hpow))
 have hV0:val b*2^s≠0:=Yc hb0 oM;have eq1:val a/val b=val a*2^s/(val b*2^s):=(Yn _ _ hpow0).symm;have eq2:val a%val b=val a*2^s%(val b*2^s)/2^s:=by rw[Yo,Nat.mul_div_cancel _ hpow0]
 rw[eq1,eq2];clear eq1 eq2 hpow hnt hnorm htop hpos hbits;generalize val a*2^s=U at*;generalize val b*2^s=V at*;have hvn:=(vM V).resolve_left λe=>hV0 (yF.1 e)
 intro hl3;refine⟨Dig,dgE,0,rfl,wb7 ?_⟩;refine⟨Dig,dgE,[],rfl,Ob.mk ze5 ?_⟩;intro hl4;refine wa ?_
 refine⟨Nat×LB×LB,λ⟨j,q,r⟩=>⟨[(13,i64 ((j:Int)-1)),(12,.own 1),(11,.own 0),(9,.sl dgE (zm U)),(10,.sl dgE (zm V)),(8,i64 s)],[(1,qr r),(0,qr q)],2,83,0⟩,
  λx=>x.1<=(zm U).length/\x.2.1.length=(zm U).length/\x.2.2.length<=(zm V).length/\val ((zm U).drop x.1)=V*val (x.2.1.drop x.1)+val x.2.2/\val x.2.2<V,λx=>x.1,
  ((zm U).length,List.replicate (zm U).length 0,[]),?_,?_,?_⟩
 ·refine⟨Xk _,sI,sI,?_,by dsimp only;rw[znX];omega⟩;dsimp only;rw[z8 (Xk _),z8 sI,znX,Ko]
 ·exact zu [0,1] ⟨rfl,Xg (λn=>some (qr (List.replicate n 0))) oM,tV⟩
 rintro⟨j,q,r⟩ ⟨g1,g2,g3,g4,g5⟩
 dsimp only at g1 g2 g3 g4 g5;refine⟨λk1=>?_,λk1=>?_⟩
 ·refine wb λx hx=>?_;rw[show((j:Int)-1).toNat=j-1 by omega]at hx;have dx:=zV hx;have hxl:=x.isLt;refine⟨Dig,dgE,[x],rfl,Ob.mk (zhq x) ?_⟩
  refine⟨Nat,λk=>⟨[(15,i64 k),(14,.own 2),(13,i64 ((j:Int)-1)),(12,.own 1),(11,.own 0),(9,.sl dgE (zm U)),(10,.sl dgE (zm V)),(8,i64 s)],[(2,qr (x::r.take k)),(1,qr r),(0,qr q)],3,83,0⟩,
   λk=>k<=r.length,λk=>r.length-k,0,?_,?_,?_⟩
  ·exact Xh _
  ·exact zf [0,1,2]
  intro k hk;have hk:k<=r.length:=hk;intro hl5;refine⟨λk2=>?_,λk2=>?_⟩
  ·refine wb<|wb λy(hy:r[k]?=some y)=>?_;refine⟨Dig,dgE,[y],rfl,Ob.mk (zhq y) ?_⟩;refine⟨_,rfl,Ob.mk (zhr (by simp;omega)) ?_⟩;refine wa ?_
   refine⟨k+1,by show k+1<=r.length;omega,qF [(0,some 0),(1,some 1),(2,some 4)] rfl rfl rfl ⟨rfl,rfl,rfl,rfl,rfl,rfl,rfl,rfl,tV⟩
    ⟨Xg (λl=>some (qr l)) (by rw[Xl,hy];rfl),rfl,rfl,tV⟩,oN⟩
  have hkr:k=r.length:=by omega
  subst hkr;have hnx:val (x::r)<4294967296*V:=by rw[vm];omega
  have hnl:(zm (val (x::r))).length<=r.length+1:=zJ (x::r);refine zb.fresh _ _ (jA _ (by simp;omega)) rfl (qP _) (.inr (qD _)) ?_;rw[X1];refine zb.fresh _ _ (zxh _ (zm V) oM oM hvn (by rw[zo,zo];exact hnx)) rfl (qP _) (.inr (qD _)) ?_;rw[zo,zo];have hdl:val (x::r)/V<4294967296:=by rw[XS oM];exact hnx
  have hml:val (x::r)%V<V:=Kk _ oM;have hdm:=X8 (val (x::r)) V;generalize val (x::r)/V=dq at*;generalize hmd:val (x::r)%V=md at*;refine wa<|wb<|wb λz hz=>?_;refine⟨dof dq,Xg (λn=>[u32 n]) (by rw[ky,Xy hdl]),?_⟩;refine wa ?_
  refine⟨(j-1,q.set (j-1) (dof dq),zm md),⟨oN,by simp[g2],qm (Yz hml),?_,by dsimp only;rw[zo];exact hml⟩,
   zS [0,4] ⟨iR oM,rfl,rfl,rfl,rfl,rfl,tV⟩ ⟨rfl,Xg (λn=>some (qr (q.set n _))) oM,tV⟩,oN⟩
  dsimp only;rw[zo,zG (zm U),dx,show j-1+1=j by omega];refine zpE g4 (vm x r) hdm ?_;rw[zbP oM,ky,Xy hdl,show j-1+1=j by omega]
 have hj:j=0:=by omega
 subst hj;rw[KY,KY,zo]at g4;refine zb.fresh _ _ (jA _ oM) rfl (qP _) (.inr (qD _))<|wa<|zb.fresh _ _ (zDb r s oM oM) rfl (qP _) (.inr (qD _)) ?_
 have e1:val q=U/V:=by
  rw[g4,Qy oM,Kh g5,XP]
 have e2:val r=U%V:=by
  rw[g4,Qz,Xy g5]
 exact zbO (.cons (zZ (by rw[e1])) (.cons (zZ (by rw[e2])) (.C .nil)))
structure BI where
 neg:Bool
 mag:LB
 deriving DecidableEq
def BI.v(a:BI):Int:=if a.neg then-(val a.mag:Int) else val a.mag
def ofZ(z:Int):BI:=⟨decide (z<0),zm z.natAbs⟩
def zY(z:Int):(ofZ z).v=z:=by
 unfold BI.v ofZ;simp only[zo,decide_eq_true_eq]
 split <;> omega
def BI.v_abs(a:BI):a.v.natAbs=val a.mag:=by unfold BI.v;split <;> omega
def BI.v_eq(a:BI):(a.neg=true/\a.v= -(val a.mag:Int))∨(a.neg=false/\a.v=(val a.mag:Int)):=by
 unfold BI.v;cases a.neg <;> simp
def zaM(z:Int):(ofZ z).neg=true↔z<0:=by simp[ofZ]
def jS(z:Int):(ofZ z).mag=zm z.natAbs:=rfl
def jm(z:Int):Nat:=(zm z.natAbs).length
def zn0{z:Int}{k:Nat}(h:z.natAbs<4294967296^k):jm z<=k:=jM h
def zgm{z:Int}{k:Nat}(h:jm z<=k):z.natAbs<4294967296^k:=zcD h
def zac(z:Int):jm (-z)=jm z:=by simp[jm]
def kZ(x y:Int):jm (x*y)<=jm x+jm y:=by
 refine zn0 ?_;rw[QE,Ke];exact K9 (zgm (Xk _)) (zgm (Xk _))
def zgn(x y:Int):jm (x+y)<=max (jm x) (jm y)+1:=by
 refine zn0 ?_;have h1:=zgm (Q6 (jm x) (jm y));have h2:=zgm (QX (jm x) (jm y));rw[XU];have:=Int.natAbs_add_le x y;omega
def zj0(x y:Int):jm (x-y)<=max (jm x) (jm y)+1:=by
 have:=zgn x (-y)
 rwa [zac,←Q7]at this
def zau(a:BI):jm a.v<=a.mag.length:=by
 unfold jm;rw[BI.v_abs];exact zJ _
def zb0{x y:Int}(h:x.natAbs<=y.natAbs):jm x<=jm y:=qm h
def jk{n:Int}(h: -9223372036854775808<=n/\n<=9223372036854775807):jm n<=2:=zn0 (by
 rw[show 4294967296^2=18446744073709551616 by decide];omega)
def z6(a b:Int):Int:=
 if a<0↔b<0 then((2*a.natAbs+b.natAbs)/(2*b.natAbs):Nat) else-((2*a.natAbs+b.natAbs)/(2*b.natAbs):Nat)
def zdC(a b:Int):(z6 a b).natAbs=(2*a.natAbs+b.natAbs)/(2*b.natAbs):=by
 unfold z6;generalize (2*a.natAbs+b.natAbs)/(2*b.natAbs)=q
 split <;> omega
def biE(a:BI):LR:=[pr (a.neg=true),.sl dgE a.mag]
def zav(p:Prop)[i:Decidable p](m:LB)(hm:m.length<=1000000000):
  CX 235 [.pr p i,.sl dgE m] (.agg (biE (ofZ (if p then-(val m:Int) else val m)))):=by
 refine zc func235<|wg (uF m hm)<|⟨λh=>?_,λh=>?_⟩
 ·intro hl;refine jj (.cons (zE ?_) (.cons (zZ ?_) .nil))
  ·rw[Xe h,zaM];have:=jz (n:=val m);omega
  rw[Xe h,jS];congr 1;omega
 refine jj (.cons (zd ?_) (.cons (zZ ?_) .nil))
 ·rw[Xc h,zaM];omega
 rw[Xc h,jS];congr 1
def ztw(a:BI)(hm:a.mag.length<=1000000000):
  CX 235 [pr (a.neg=true),.sl dgE a.mag] (.agg (biE (ofZ a.v))):=zav (a.neg=true) a.mag hm
def dTwo(c d:Dig):[c,d].length=2/\2<=281474976710656/\2*1<=16777216/\0<1/\∀x∈[c,d],(dgE x).length=1/\jY (dgE x)=true/\j9.flats (dgE x)=true:=
 ⟨rfl,dC,dC,dC,λ_ _=>⟨rfl,rfl,rfl⟩⟩
def zn1(m:Nat)(h:m<18446744073709551616):val [dof m,dof (m/4294967296)]=m:=by
 simp only[val,ky];omega
def jN(n:Int)(hn:R64 n):CX 160 [i64 n] (.agg (biE (ofZ n))):=by
 refine zc func160<|Ar.wrap<|Br.mk (λh=>?_) (λh=>?_)
 ·refine Ar.wrap ?_;have e:IntKind.u64.wrap (0-IntKind.u64.wrap n)=((n.natAbs:Nat):Int):=by rw[yl,yl];omega
  refine Ar.wrap<|wb1<|Ar.wrap<|⟨Dig,dgE,[dof n.natAbs,dof (n.natAbs/4294967296)],congr (Xg (λn m=>[u32 n,u32 m]) (zbc e)) (zbc (by rw[e];simp only[Int.reducePow];omega)),Ob.mk (dTwo _ _) ?_⟩;refine zb.see 1 _ (zav (n<0) [dof n.natAbs,dof (n.natAbs/4294967296)] sI) rfl rfl rfl ?_;rw[Xe h,zn1 _ oM,show(-(n.natAbs:Int))=n by omega];exact .refl
 have e:IntKind.u64.wrap n=((n.natAbs:Nat):Int):=by rw[yl];omega
 refine Ar.wrap<|wb1<|Ar.wrap<|⟨Dig,dgE,[dof n.natAbs,dof (n.natAbs/4294967296)],congr (Xg (λn m=>[u32 n,u32 m]) (zbc e)) (zbc (by rw[e];simp only[Int.reducePow];omega)),Ob.mk (dTwo _ _) ?_⟩;refine zb.see 1 _ (zav (n<0) [dof n.natAbs,dof (n.natAbs/4294967296)] sI) rfl rfl rfl ?_;rw[Xc h,zn1 _ oM,show(n.natAbs:Int)=n by omega];exact .refl
def zcE(a:BI)(ha:a.mag.length<=1000000000):CX 161 [.agg (biE a)] (i64 a.v.sign):=by
 refine zc func161<|wg (ztw a ha) λhl=>?_;have h1:=jz (n:=a.v.natAbs);refine⟨λh=>?_,λh=>?_⟩
 ·have:a.v=0:=by rw[jS]at h;omega
  exact ze (by rw[this];rfl)
 have h0:a.v≠0:=by rw[jS]at h;omega
 refine⟨λh2=>?_,λh2=>?_⟩
 ·rw[zaM]at h2;exact ze (Kg h2).symm
 rw[zaM]at h2;exact ze (Kn oM).symm
def zCp(a b:BI):(if¬(a.neg=true↔b.neg=true) then-((val a.mag*val b.mag:Nat):Int) else((val a.mag*val b.mag:Nat):Int))=a.v*b.v:=by
 obtain⟨h1,h2⟩|⟨h1,h2⟩:=a.v_eq <;> obtain⟨h3,h4⟩|⟨h3,h4⟩:=b.v_eq <;> simp[h1,h2,h3,h4,Int.neg_mul,QS]
def zcF(a b:BI)(ha:a.mag.length<=400000000)(hb:b.mag.length<=400000000):CX 200 [.agg (biE a),.agg (biE b)] (.agg (biE (ofZ (a.v*b.v)))):=by
 refine zc func200<|wc<|wg (zAv a.mag b.mag ha hb) ?_
 have hl:(zm (val a.mag*val b.mag)).length<=1000000000:=by
  refine XB (jM (k:=a.mag.length+b.mag.length) ?_) oM;rw[Ke];exact K9 (q9 _) (q9 _)
 refine wg (zav (¬(a.neg=true↔b.neg=true)) _ hl) ?_;rw[zo,zCp];exact .refl
def zDc(a b:BI)(hb:b.v≠0):(if¬(a.neg=true↔b.neg=true) then-(((val a.mag+val a.mag+val b.mag)/(val b.mag+val b.mag):Nat):Int) else(((val a.mag+val a.mag+val b.mag)/(val b.mag+val b.mag):Nat):Int))=z6 a.v b.v:=by
 unfold z6;rw[BI.v_abs,BI.v_abs,Nat.two_mul,Nat.two_mul]
 by_cases h0:val a.mag=0
 ·have e:(val a.mag+val a.mag+val b.mag)/(val b.mag+val b.mag)=0:=by
   rw[h0];refine Kh ?_
   obtain⟨h1,h2⟩|⟨h1,h2⟩:=b.v_eq <;> omega
  rw[e];simp
 generalize ((val a.mag+val a.mag+val b.mag)/(val b.mag+val b.mag))=q
 have e:(a.neg=true↔b.neg=true)↔(a.v<0↔b.v<0):=by
  obtain⟨h1,h2⟩|⟨h1,h2⟩:=a.v_eq <;> obtain⟨h3,h4⟩|⟨h3,h4⟩:=b.v_eq <;> simp only[h1,h3] <;> simp <;> omega
 by_cases h:(a.v<0↔b.v<0)
 ·rw[Xc (not_not_intro (e.2 h)),Xe h]
 rw[Xe (λhh=>h (e.1 hh)),Xc h]
def zb1{a b:LB}{k:Nat}(ha:a.length<=k)(hb:b.length<=k):(zm (val a+val b)).length<=k+1:=by
 refine jM ?_;have h1:=Xw (q9 a) (XH (show 0<4294967296 by decide) ha);have h2:=Xw (q9 b) (XH (show 0<4294967296 by decide) hb);rw[XU];omega
def zpF(a b:BI)(ha:a.mag.length<=300000000)(hb:b.mag.length<=300000000)(h0:b.v≠0):
  CX 454 [.agg (biE a),.agg (biE b)] (.tup [.agg (biE (ofZ (z6 a.v b.v))),i64 0]):=by
 refine zc func454 ?_;refine wg (zcE b oM) ?_;refine⟨λh=>absurd (KR.1 h) h0,λ_=>?_⟩;refine wc ?_;have l1:=zb1 ha ha;have l2:=zb1 hb hb;have l3:=zb1 l1 (show b.mag.length<=_ by omega);rw[zo]at l3;have hbp:val b.mag+val b.mag≠0:=by obtain⟨h1,h2⟩|⟨h1,h2⟩:=b.v_eq <;> omega
 refine wg (ziX a.mag a.mag oM oM)<|wg (ziX _ b.mag oM oM)<|wg (ziX b.mag b.mag oM oM) ?_;rw[zo];refine wg (zhs _ _ oM oM (by rw[zo];exact hbp)) ?_;rw[zo,zo];have l4:(zm ((val a.mag+val a.mag+val b.mag)/(val b.mag+val b.mag))).length<=1000000000:=XB (qm (K2 _ _)) oM;refine wg (zav (¬(a.neg=true↔b.neg=true)) _ l4) ?_;rw[zo,zDc a b h0];exact .refl
def zj1{x y:Nat}(hx:x<18446744073709551616)(hy:y<18446744073709551616):vh .or .u64 x y=((x|||y:Nat):Int):=by
 show IntKind.u64.wrap ((BitVec.ofInt 64 x|||BitVec.ofInt 64 y).toNat:Nat)=_;have h:x|||y<2^64:=Nat.or_lt_two_pow hx hy
 have e:(BitVec.ofInt 64 x|||BitVec.ofInt 64 y).toNat=x|||y:=by
  rw[BitVec.toNat_or,K3,K3];congr 1
  ·omega
  omega
 rw[e,yl];omega
def y4(z:Int):Int:=if-9223372036854775808<=z/\z<=9223372036854775807 then z else 0
def zj2(a:BI)(ha:a.mag.length<=1000000000):
  CX 285 [.agg (biE a)] (.tup [i64 (y4 a.v),pr (-9223372036854775808<=a.v/\a.v<=9223372036854775807)]):=by
 refine zc func285<|wg (ztw a ha) ?_;generalize a.v=z
 have bad:¬(-9223372036854775808<=z/\z<=9223372036854775807)->LE (.tup [i64 0,bl false]) (.tup [i64 (y4 z),pr (-9223372036854775808<=z/\z<=9223372036854775807)]):=λh=>
  zM (ze (by rw[y4,Xc h])) (zd h)
 refine⟨Nat,λi=>⟨[(6,i64 i),(5,u64 (val ((zm z.natAbs).take i))),(4,.loc 1 0)],[(1,.box 53 (biE (ofZ z))),(0,.box 53 (biE a))],2,51,0⟩,
  λi=>i<=2/\i<=(zm z.natAbs).length,λi=>2-i,0,?_,?_,?_⟩
 ·exact⟨oM,Xh _⟩
 ·exact zf [0,1]
 rintro i ⟨h1,h2⟩
 intro hl;refine⟨λh3=>?_,λh3=>?_⟩
 ·have h3:i<(zm z.natAbs).length:=by rw[jS]at h3;omega
  refine⟨λh4=>?_,λh4=>?_⟩
  ·refine bad λh5=>?_
   have:=jM (n:=z.natAbs) (k:=2) (by rw[show 4294967296^2=18446744073709551616 by decide];omega);omega
  refine Ob.mk (by rw[jS];omega) λx(hx:(zm z.natAbs)[i]?=some x)=>?_;have dx:=zV hx;have hxl:=x.isLt;have ht:=qR (zm z.natAbs) i;have hts:=zR (zm z.natAbs) i;rw[dx]at hts
  have key:∀n:Int,n=32*i->0<=n/\n<64/\0<=(x.val:Int)*2^n.toNat/\(x.val:Int)*2^n.toNat<=18446744073709551615/\
    vh .or .u64 (val ((zm z.natAbs).take i)) ((x.val:Int)*2^n.toNat)=val ((zm z.natAbs).take (i+1)):=λn hn=>by
   have:i=0∨i=1:=oM
   rcases this with rfl|rfl
   ·have:n=0:=by omega
    subst this;rw[hts];have e:=zj1 (x:=0) (y:=x.val) oM oM;have p:(x.val:Int)*2^(0:Int).toNat=(x.val:Int):=by simp
    rw[p,zlK];refine⟨oM,oM,oM,oM,?_⟩;rw[e];simp
   have:n=32:=by omega
   subst this;rw[hts];have e:=zj1 (x:=val ((zm z.natAbs).take 1)) (y:=4294967296*x.val) oM oM;have e2:=K6 (i:=32) (b:=val ((zm z.natAbs).take 1)) (by rw[show 2^32=4294967296 by decide];omega) x.val;rw[show 2^32=4294967296 by decide]at e2
   have e3:(x.val:Int)*2^(32:Int).toNat=((4294967296*x.val:Nat):Int):=by
    rw[show(32:Int).toNat=32 by decide];simp only[Int.reducePow];omega
   rw[e3];refine⟨oM,oM,oM,oM,?_⟩;rw[e,Nat.or_comm,←e2];omega
  obtain⟨k1,k2,k3,k4,k5⟩:=key (32*i) rfl;(iterate 3 refine wa ?_);refine Ob.mk ⟨k1,k2⟩<|Ar.fit ⟨k3,k4⟩<|⟨_,k5.symm,?_⟩;exact wa<|⟨i+1,⟨oM,oM⟩,zf [0,1],oN⟩
 have h4:(zm z.natAbs).length=i:=by rw[jS]at h3;omega
 have e:val ((zm z.natAbs).take i)=z.natAbs:=by rw[kT oM,zo]
 have hz:z.natAbs<18446744073709551616:=by
  have:=qR (zm z.natAbs) i;rw[e]at this;refine Xw this (XB (XH dC h1) dC)
 have good:∀n:Int,n=z-> -9223372036854775808<=z/\z<=9223372036854775807->LE (.tup [i64 n,bl true]) (.tup [i64 (y4 z),pr (-9223372036854775808<=z/\z<=9223372036854775807)]):=λn hn h=>
  zM (ze (by rw[y4,Xe h,hn])) (zH h)
 have hn:=zaM z;refine⟨λg1=>?_,λg1=>?_⟩
 ·rw[hn]at g1;refine⟨λg2=>?_,λg2=>?_⟩
  ·refine Ar.wrap<|Ar.wrap<|good _ ?_ oM;rw[e,yl];show IntKind.i64.wrap _=_;simp only[IntKind.wrap,IntKind.bits,IntKind.signed];simp;omega
  refine⟨λg3=>absurd (hn.2 g1) g3,λ_=>bad oM⟩
 refine⟨λg3=>?_,λg3=>absurd (λh=>g1 h) g3⟩;rw[hn]at g1;refine⟨λg2=>?_,λg2=>bad oM⟩;exact wa<|good _ oM oM
def zht(a b c:Int)(ha:R64 a)(hb:R64 b)(hc:R64 c):CG0 407 [i64 a,i64 b,i64 c] []
  (.tup [i64 (y4 (z6 (a*b) c)),pr (c≠0/\ -9223372036854775808<=z6 (a*b) c/\z6 (a*b) c<=9223372036854775807)]) []:=by
 refine zc func407<|Br.mk (λh=>?_) (λh=>?_)
 ·refine zM (ze ?_) (zd λh'=>h'.1 h);subst h;simp[z6,y4]
 have l1:=jk ha;have l2:=jk hb;have l3:=jk hc;have l4:=kZ a b;unfold jm at l1 l2 l3 l4;refine wg (jN a ha)<|wg (jN b hb)<|wg (zcF (ofZ a) (ofZ b) (by rw[jS];omega) (by rw[jS];omega)) ?_;rw[zY,zY];refine wg (jN c hc)<|wg (zpF (ofZ (a*b)) (ofZ c) (by rw[jS];omega) (by rw[jS];omega) (by rw[zY];exact h)) ?_;rw[zY,zY]
 have l5:(zm (z6 (a*b) c).natAbs).length<=6:=by
  refine jM (K4 (m:=2*(a*b).natAbs+c.natAbs) ?_ ?_)
  ·rw[zdC];exact K2 _ _
  have p1:=zgm (z:=a*b) (k:=4) (by unfold jm;omega);have e4:4294967296^4=340282366920938463463374607431768211456:=dC;have e6:4294967296^6=6277101735386680763835789423207666416102355444464034512896:=dC;rw[e4]at p1;rw[e6];omega
 refine wg (zj2 (ofZ (z6 (a*b) c)) (by rw[jS];omega)) ?_;rw[zY];exact zM .refl (zE ⟨λg=>⟨h,g⟩,λg=>g.2⟩)
def ub(a b:Int)(ha:R64 a)(hb:R64 b):CX 349 [i64 a,i64 b] (i64 (y4 (z6 a b))):=by
 refine zc func349<|wg (zht a 1 b ha dC hb) ?_;rw[Int.mul_one];exact .refl
def zj3(n:Int)(hn:R64 n):CX 486 [i64 n] (u64 (n.natAbs:Nat)):=by
 refine zc func486<|Br.mk (λh=>?_) (λh=>?_)
 ·exact Ar.wrap<|Ar.wrap<|ze (by rw[yl,yl];omega)
 exact wa<|ze oM
def ztx(x:Nat):vh .and .u64 x 4294967295=((x%4294967296:Nat):Int):=by
 have e:(BitVec.ofInt 64 x&&&BitVec.ofInt 64 4294967295).toNat=x%4294967296:=by
  rw[BitVec.toNat_and];have h1:(BitVec.ofInt 64 4294967295).toNat=2^32-1:=dC;rw[h1,Jr,K3];rw[show(2:Nat)^32=4294967296 by decide];omega
 show IntKind.u64.wrap ((BitVec.ofInt 64 x&&&BitVec.ofInt 64 4294967295).toNat:Nat)=_;rw[e,yl];omega
def zty(x y:Nat)(hx:x<18446744073709551616)(hy:y<18446744073709551616):
  CX 479 [u64 x,u64 y] (.tup [u64 (x*y/18446744073709551616:Nat),u64 (x*y%18446744073709551616:Nat)]):=by
 refine zc func479 ?_;obtain⟨k1,k2,k3,k4⟩:=Go.Lib.mul64_hi x y hx hy;have k0:(x/4294967296)*(y%4294967296)<=(x/4294967296)*(y%4294967296)+(x%4294967296)*(y%4294967296)/4294967296:=Js _ _
 have k5:x*y/18446744073709551616<18446744073709551616:=by
  rw[XS dC];exact K9 hx hy
 refine⟨_,(ztx x).symm,?_⟩;refine wb1<|⟨_,(ztx y).symm,?_⟩;refine wb1 ?_;have ex:(x:Int)/2^32=((x/4294967296:Nat):Int):=by simp
 have ey:(y:Int)/2^32=((y/4294967296:Nat):Int):=by simp
 have hc:=Go.Lib.half_mul_le (a:=x%4294967296) (b:=y/4294967296) oM oM;have ha:=Go.Lib.half_mul_le (a:=x/4294967296) (b:=y/4294967296) oM oM;rw[ex,ey];generalize hx1:x/4294967296=x1 at*;generalize hx0:x%4294967296=x0 at*;generalize hy1:y/4294967296=y1 at*;generalize hy0:y%4294967296=y0 at*;(iterate 2 refine wa ?_);refine wb1 ?_;have e1:((x0:Int)*(y0:Int))/2^32=((x0*y0/4294967296:Nat):Int):=by simp
 rw[e1];generalize x0*y0/4294967296=w0 at*;refine wa ?_;have e2:(x1:Int)*(y0:Int)+(w0:Int)=((x1*y0+w0:Nat):Int):=by simp
 rw[e2];generalize x1*y0+w0=t at*;refine⟨_,(ztx t).symm,?_⟩;refine wb1 ?_;have e3:(t:Int)/2^32=((t/4294967296:Nat):Int):=by simp
 rw[e3];(iterate 4 refine wa ?_);refine wb1 ?_;have e4:(((t%4294967296:Nat):Int)+(x0:Int)*(y1:Int))/2^32=(((t%4294967296+x0*y1)/4294967296:Nat):Int):=by simp
 rw[e4];refine wa<|Ar.wrap<|zM (ze ?_) (ze ?_)
 ·rw[←k4];simp
 rw[yl];simp
def zAx(lo y:Nat)(hlo:lo<18446744073709551616)(hy:y<18446744073709551616)(h0:y≠0):
  CX 495 [u64 (0:Nat),u64 lo,u64 y] (.tup [u64 (lo/y:Nat),u64 (lo%y:Nat)]):=by
 refine zc func495<|Br.mk (λh=>absurd h oM) (λ_=>?_);refine⟨λh=>absurd h oM,λ_=>?_⟩;refine⟨λ_=>?_,λh=>absurd rfl h⟩;exact wc<|Dv.pos ⟨oM,oM,by show _<=(18446744073709551615:Int);omega⟩<|Dv.pos ⟨oM,oM⟩<|zM (ze sI) (ze sI)
def rup(lo by_:Nat):Nat:=(2*lo+by_)/(2*by_)
def zxi{lo y:Nat}(h0:y≠0):rup lo y=if y<=2*(lo%y) then lo/y+1 else lo/y:=by
 unfold rup;have e:=X8 lo y;have hl:=Kk lo (Ka h0);generalize lo/y=q at*;generalize lo%y=r at*;subst e;have p:2*(y*q+r)+y=2*y*q+(2*r+y):=by rw[KE,KC];omega
 rw[p,Qy oM]
 split
 ·have:(2*r+y)/(2*y)=1:=by
   rw[Nat.div_eq_iff oM];omega
  omega
 have:(2*r+y)/(2*y)=0:=Kh oM;omega
def zDd(lo y:Nat)(hlo:lo<=9223372036854775808)(hy:y<18446744073709551616)(h0:y≠0):
  CX 488 [.agg [u64 (0:Nat),u64 lo,u64 y]] (.tup [u64 (rup lo y:Nat),bl true]):=by
 refine zc func488<|Br.mk (λh=>absurd h oM) (λ_=>?_);refine wg (zAx lo y oM hy h0) ?_;have hq:=K2 lo y;have hr:=Kk lo (Ka h0);have he:=zxi (lo:=lo) h0;generalize rup lo y=u at*;generalize lo/y=q at*;generalize lo%y=r at*;refine wa<|Br.mk (λh=>?_) (λh=>?_)
 ·rw[Xe oM]at he;exact wa<|zM (ze oM) (zw5 oM)
 rw[Xc oM]at he;exact zM (ze oM) .refl
def zxj(p:Prop)[i:Decidable p](lo y:Nat)(hlo:lo<=9223372036854775808)(hy:y<18446744073709551616)(h0:y≠0):
  CG0 487 [.pr p i,.val (.func (.func 488) #[.agg #[.int .u64 (0:Nat),.int .u64 (lo:Nat),.int .u64 (y:Nat)]] #[])] []
   (.tup [i64 (y4 (if p then-(rup lo y:Int) else rup lo y)),pr (-9223372036854775808<=(if p then-(rup lo y:Int) else rup lo y)/\(if p then-(rup lo y:Int) else rup lo y)<=9223372036854775807)]) []:=by
 refine zc func487<|wg (zDd lo y hlo hy h0) ?_
 have hu:rup lo y<18446744073709551616:=by
  rw[zxi h0];have:=K2 lo y
  split <;> omega
 generalize rup lo y=u at*
 have bad:∀z:Int,¬(-9223372036854775808<=z/\z<=9223372036854775807)->LE (.tup [i64 0,bl false]) (.tup [i64 (y4 z),pr (-9223372036854775808<=z/\z<=9223372036854775807)]):=λz h=>
  zM (ze (by rw[y4,Xc h])) (zd h)
 have good:∀n z:Int,n=z-> -9223372036854775808<=z/\z<=9223372036854775807->LE (.tup [i64 n,bl true]) (.tup [i64 (y4 z),pr (-9223372036854775808<=z/\z<=9223372036854775807)]):=λn z hn h=>
  zM (ze (by rw[y4,Xe h,hn])) (zH h)
 refine⟨λh=>bad _ (by split <;> omega),λh=>?_⟩
 have tail:(u:Int)<=9223372036854775808->((u:Int)=9223372036854775808->p)->IntKind.i64.wrap (IntKind.u64.wrap (-(u:Int)))= -(u:Int)/\(¬p->(u:Int)<=9223372036854775807):=λg1 g2=>by
  refine⟨?_,λhp=>?_⟩
  ·rw[yl];simp only[IntKind.wrap,IntKind.bits,IntKind.signed];simp;omega
  by_cases e:(u:Int)=9223372036854775808
  ·exact absurd (g2 e) hp
  omega
 refine⟨λh1=>?_,λh1=>?_⟩
 ·refine⟨λh2=>bad _ (by rw[Xc h2];omega),λh2=>?_⟩;have hp:=Xa.1 h2;obtain⟨t1,t2⟩:=tail oM (λ_=>hp);refine⟨λ_=>?_,λh3=>absurd hp h3⟩;exact Ar.wrap<|Ar.wrap<|good _ _ (by rw[Xe hp];exact t1) (by rw[Xe hp];omega)
 obtain⟨t1,t2⟩:=tail oM (λh=>absurd h h1);refine⟨λh3=>?_,λh3=>?_⟩
 ·exact Ar.wrap<|Ar.wrap<|good _ _ (by rw[Xe h3];exact t1) (by rw[Xe h3];omega)
 have:=t2 h3;exact wa<|good _ _ (by rw[Xc h3]) (by rw[Xc h3];omega)
def zxk(a c:Int):(if¬(¬(a<0↔(1:Int)<0)↔c<0) then-(rup a.natAbs c.natAbs:Int) else(rup a.natAbs c.natAbs:Int))=z6 a c:=by
 unfold z6;show _=if a<0↔c<0 then((rup a.natAbs c.natAbs:Nat):Int) else-((rup a.natAbs c.natAbs:Nat):Int)
 generalize (rup a.natAbs c.natAbs:Int)=u
 by_cases h1:a<0 <;> by_cases h2:c<0 <;> simp[h1,h2]
def zu6(a c:Int)(ha:R64 a)(hc:R64 c):CG0 472 [i64 a,i64 1,i64 c] []
  (.tup [i64 (y4 (z6 a c)),pr (c≠0/\ -9223372036854775808<=z6 a c/\z6 a c<=9223372036854775807)]) []:=by
 refine zc func472<|Br.mk (λh=>?_) (λh=>?_)
 ·refine zM (ze ?_) (zd λh'=>h'.1 h);subst h;simp[z6,y4]
 refine wg (zj3 a ha)<|wg (zj3 1 dC)<|wg (zty a.natAbs (1:Int).natAbs oM oM) ?_;rw[show(1:Int).natAbs=1 by rfl,Jb,Kh (show a.natAbs<18446744073709551616 by omega),Xy (show a.natAbs<18446744073709551616 by omega)];refine wg (zj3 c hc)<|wg (zxj (¬(¬(a<0↔(1:Int)<0)↔c<0)) a.natAbs c.natAbs oM oM oM) ?_;rw[zxk a c];exact zM .refl (zE ⟨λg=>⟨h,g⟩,λg=>g.2⟩)
def uT(a b:Int)(ha:R64 a)(hb:R64 b):CX 433 [i64 a,i64 b] (i64 (y4 (z6 a b))):=by
 exact zc func433<|wg (zu6 a b ha hb)<|.refl
def hI(n:Int):Int:=kS n (-1048576) 1048576
def js(p:Pt):Pt:=⟨hI p.x,hI p.y⟩
def qj(n:Int): -1048576<=hI n/\hI n<=1048576:=by unfold hI kS;split <;> (try split) <;> omega
def zbz{n:Int}(h: -1048576<=n/\n<=1048576):hI n=n:=(zdx dC).2 h
def jo(p:Pt):zr (js p):=⟨qj _,qj _⟩
def zen{p:Pt}(h:zr p):js p=p:=by
 cases p;unfold js;rw[zbz h.1,zbz h.2]
def zw(p q:Pt):Pt:=⟨p.x+q.x,p.y+q.y⟩
def zn(p q:Pt):Pt:=⟨p.x-q.x,p.y-q.y⟩
def addP(p q:Pt):Pt:=zw (js p) (js q)
def zad(p q:Pt):Pt:=zn (js p) (js q)
def perpP(p:Pt):Pt:=⟨-hI p.y,hI p.x⟩
def wdg(p q:Pt):Int:=p.x*q.y-p.y*q.x
def dtp(p q:Pt):Int:=p.x*q.x+p.y*q.y
def zaw(p q:Pt):Int:=wdg (js p) (js q)
def ziJ(p q:Pt):Int:=dtp (js p) (js q)
def sgn(n:Int):Int:=if n<0 then-1 else if 0<n then 1 else 0
def zu7(n:Int):kS n (-1) 1=sgn n:=by unfold kS sgn;split <;> (try split) <;> (try split) <;> omega
def ju{a b A B:Int}(ha: -A<=a/\a<=A)(hb: -B<=b/\b<=B): -(A*B)<=a*b/\a*b<=A*B:=by
 have h1:=XJ (show 0<=A-a by omega) (show 0<=B-b by omega);have h2:=XJ (show 0<=A-a by omega) (show 0<=B+b by omega);have h3:=XJ (show 0<=A+a by omega) (show 0<=B-b by omega);have h4:=XJ (show 0<=A+a by omega) (show 0<=B+b by omega);have e1:(A-a)*(B-b)=A*B-A*b-a*B+a*b:=by grind
 have e2:(A-a)*(B+b)=A*B+A*b-a*B-a*b:=by grind
 have e3:(A+a)*(B-b)=A*B-A*b+a*B-a*b:=by grind
 have e4:(A+a)*(B+b)=A*B+A*b+a*B+a*b:=by grind
 omega
def zeo{p q:Pt}(hp:zr p)(hq:zr q): -2199023255552<=dtp p q/\dtp p q<=2199023255552/\(-1099511627776<=p.x*q.x/\p.x*q.x<=1099511627776)/\(-1099511627776<=p.y*q.y/\p.y*q.y<=1099511627776):=by
 have h1:=ju hp.1 hq.1;have h2:=ju hp.2 hq.2;unfold dtp;omega
def zb2{p q:Pt}(hp:zr p)(hq:zr q): -2199023255552<=wdg p q/\wdg p q<=2199023255552/\(-1099511627776<=p.x*q.y/\p.x*q.y<=1099511627776)/\(-1099511627776<=p.y*q.x/\p.y*q.x<=1099511627776):=by
 have h1:=ju hp.1 hq.2;have h2:=ju hp.2 hq.1;unfold wdg;omega
def ja(x:Int):0<=x*x:=by
 rcases Int.le_total 0 x with h|h
 ·exact XJ h h
 have:=XJ (show 0<= -x by omega) (show 0<= -x by omega)
 rwa [Int.neg_mul_neg]at this
def sqL(n:Int):Nat->Int->Int
 |0,s=>s
 |k+1,s=>sqL n k (if (s+2^k)*(s+2^k)<=n then s+2^k else s)
def isq(n:Int):Int:=sqL n 32 0
def zj4(n:Int):∀(k:Nat) (s:Int),0<=s->s*s<=n->n<(s+2^k)*(s+2^k)->0<=sqL n k s/\sqL n k s*sqL n k s<=n/\n<(sqL n k s+1)*(sqL n k s+1)
 |0,s,h0,h1,h2=>by simp only[sqL];exact⟨h0,h1,by simpa using h2⟩
 |k+1,s,h0,h1,h2=>by
  have hp:(0:Int)<2^k:=Int.pow_pos dC;have e:(2:Int)^(k+1)=2^k+2^k:=by rw[Int.pow_succ];omega
  simp only[sqL]
  split
  ·rename_i h;refine zj4 n k _ oM h ?_;rw[e]at h2
   rwa [Yv]
  rename_i h;exact zj4 n k _ h0 h1 oM
def zgo{n:Int}(h0:0<=n)(h:n<18446744073709551616):0<=isq n/\isq n*isq n<=n/\n<(isq n+1)*(isq n+1):=
 zj4 n 32 0 dC (by simpa using h0) (by simpa using h)
def zxl{n:Int}(h0:0<=n)(h:n<18446744073709551616):isq n<4294967296:=by
 have hs:=zgo h0 h;refine Int.not_le.1 λhk=>?_
 have:=JH hk hk dC hs.1;omega
def sq_le{a b:Int}(ha:0<=b)(h:a*a<=b*b):a<=b:=by
 refine Jp.1 λhk=>?_
 have h1:=JH (show b+1<=a by omega) (show b+1<=a by omega) oM oM;have e:(b+1)*(b+1)=b*b+2*b+1:=by grind
 omega
def zr4{n a:Int}(h0:0<=n)(h:n<18446744073709551616)(h1:a*a<=n):a<=isq n:=by
 have hs:=zgo h0 h;have:a<=isq n+1:=sq_le oM oM
 by_cases e:a=isq n+1
 ·subst e;omega
 omega
def zpG(p:Pt):Int:=isq (65536*ziJ p p)
def zdD(a b:Int):Int:=(2*a+b)/(2*b)
def uG(a b:Pt)(n d:Int):Pt:=
 if d<1∨1099511627776<d then js a
 else⟨hI a.x+z6 (kS n 0 d*(hI b.x-hI a.x)) d,hI a.y+z6 (kS n 0 d*(hI b.y-hI a.y)) d⟩
def zn2(r:LU):Prop:=(r.length:Int)<=4096/\∀p∈r,zr p
instance (r:LU):Decidable (zn2 r):=wi
def u6(r:LU)(n:Nat):Int:=((List.range n).map λi=>zaw (r.getD i zp) (r.getD ((i+1)%r.length) zp)).sum
def zb3(r:LU):Int:=if zn2 r then u6 r r.length else 0
def ztz(r:LU):LU:=match r with
 |[]=>[]
 |p::q=>p::q.reverse
def kE(r:LU):LU:=if zb3 r=0 then[] else if zb3 r<0 then ztz r else r
def zfw(r:LU)(n:Nat):u6 r (n+1)=u6 r n+zaw (r.getD n zp) (r.getD ((n+1)%r.length) zp):=by
 unfold u6;rw[Kw,XA,QM];simp
def zik(r:LU)(n:Nat): -(2199023255552*(n:Int))<=u6 r n/\u6 r n<=2199023255552*(n:Int):=by
 induction n with
 |zero=>exact⟨by show _<=(0:Int);decide,by show(0:Int)<=_;decide⟩
 |succ n ih=>
  rw[zfw];have:=zb2 (jo (r.getD n zp)) (jo (r.getD ((n+1)%r.length) zp));unfold zaw;omega
def zr5(r:LU):(kE r).length=0∨(kE r).length=r.length:=by
 unfold kE
 split
 ·exact .inl rfl
 split
 ·right;unfold ztz;split <;> simp
 exact .inr rfl
def ki(w:Int):Prop:=1<=w/\w<=16384
instance (w:Int):Decidable (ki w):=wi
def zbq(n:Int):Prop:=n < -2097152∨2097152<n
instance (n:Int):Decidable (zbq n):=wj
def z5(v:Pt)(w:Int):Pt:=
 if¬ki w∨zbq v.x∨zbq v.y∨v=zp then zp
 else⟨z6 (-v.y*w*128) (isq (65536*(v.x*v.x+v.y*v.y))),z6 (v.x*w*128) (isq (65536*(v.x*v.x+v.y*v.y)))⟩
def jU(a b:Pt)(w:Int):LU:=
 if¬(ki w/\zr a/\zr b) then[]
 else kE [zn a (z5 (zn b a) w),zn b (z5 (zn b a) w),zw b (z5 (zn b a) w),zw a (z5 (zn b a) w)]
def yb:LU:=[⟨16384,0⟩,⟨15137,6270⟩,⟨11585,11585⟩,⟨6270,15137⟩,⟨0,16384⟩,⟨-6270,15137⟩,⟨-11585,11585⟩,⟨-15137,6270⟩,
 ⟨-16384,0⟩,⟨-15137,-6270⟩,⟨-11585,-11585⟩,⟨-6270,-15137⟩,⟨0,-16384⟩,⟨6270,-15137⟩,⟨11585,-11585⟩,⟨15137,-6270⟩]
def vC(p:Pt)(w:Int):LU:=
 if¬(ki w/\zr p) then[] else kE (yb.map λq=>zw p ⟨z6 (q.x*w) 32768,z6 (q.y*w) 32768⟩)
def zj5(a b:Pt)(w:Int):LU:=
 if¬(ki w/\zr a/\zr b) then[]
 else
  let n:=z5 (zn b a) w
  let e:Pt:=⟨n.y,-n.x⟩
  kE [zn b n,zw (zn b n) e,zw (zw b n) e,zw b n]
def zdE(p:Pt)(w:Int):LU:=
 if¬(ki w/\zr p) then[]
 else kE [⟨p.x-z6 w 2,p.y-z6 w 2⟩,⟨p.x+z6 w 2,p.y-z6 w 2⟩,⟨p.x+z6 w 2,p.y+z6 w 2⟩,⟨p.x-z6 w 2,p.y+z6 w 2⟩]
structure Pen where
 w:Int
 j:Int
 c:Int
 m:Int
 d:LV
 ph:Int
def uy(l:LV):Prop:=(∀n∈l,0<=n/\n<=1048576)/\(l=[]∨∃n∈l,0<n)/\l.length%2=0/\(l.length:Int)<=16
instance (l:LV):Decidable (uy l):=wi
def kC(p:Pen):Prop:=ki p.w/\(p.j=1∨p.j=2∨p.j=3)/\(p.c=3∨p.c=4∨p.c=5)/\(256<=p.m/\p.m<=65536)/\uy p.d/\(0<=p.ph/\p.ph<=1048576)
instance (p:Pen):Decidable (kC p):=wi
def uU(n m:Pt)(w lim:Int):Pt×Bool:=
 if¬(zr n/\zr m/\ki w/\256<=lim/\lim<=65536) then(zp,false)
 else
  let s:=zw n m
  let q:=s.x*s.x+s.y*s.y
  if q=0∨lim*lim*q<256*w*(256*w) then(zp,false) else(⟨z6 (s.x*w*w) (2*q),z6 (s.y*w*w) (2*q)⟩,true)
def zhu(p:Pt):Pt:=⟨-p.x,-p.y⟩
def qp(a v b:Pt)(w:Int):Pt×Pt×Bool:=
 if¬(zr a/\zr v/\zr b/\ki w) then(zp,zp,false)
 else
  let x:=zn v a
  let y:=zn b v
  if wdg x y=0 then(zp,zp,false) else if 0<wdg x y then(zhu (z5 x w),zhu (z5 y w),true) else(z5 x w,z5 y w,true)
def kM(r:LU):LQ:=if r=[] then[] else[r]
def qY(a v b:Pt)(p:Pen):LQ:=
 if¬(kC p/\zr a/\zr v/\zr b/\¬v=a/\¬v=b) then[]
 else if p.j=3 then kM (vC v p.w)
 else if (qp a v b p.w).2.2=false then[]
 else
  let n:=(qp a v b p.w).1
  let m:=(qp a v b p.w).2.1
  kM (kE (if p.j=1/\(uU n m p.w p.m).2=true then[v,zw v n,zw v (uU n m p.w p.m).1,zw v m] else[v,zw v n,zw v m]))
structure Sg where
 v:Int
 a:Pt
 b:Pt
 c:Pt
 deriving DecidableEq
def sgE(s:Sg):LR:=[i64 s.v,i64 s.a.x,i64 s.a.y,i64 s.b.x,i64 s.b.y,i64 s.c.x,i64 s.c.y]
def nm(v:Int):Int:=if v=1 then 1 else if v=2 then 1 else if v=3 then 2 else if v=4 then 3 else if v=5 then 0 else-1
def c_named(v:Int):CX 304 [i64 v] (i64 (nm v)):=by
 refine zc func304<|Br.mk (λh4=>?_) (λh4=>?_)
 ·exact Ar.fit dC<|Ar.fit dC<|Ar.fit dC<|ze (by rw[h4];rfl)
 refine⟨λh3=>?_,λh3=>?_⟩
 ·exact Ar.fit dC<|Ar.fit dC<|ze (by rw[h3];rfl)
 refine⟨λh1=>?_,λh1=>?_⟩
 ·refine⟨λ_=>?_,λh=>absurd h1 h⟩;exact Ar.fit dC<|ze (by rw[h1];rfl)
 refine⟨λh2=>?_,λh2=>?_⟩
 ·exact Ar.fit dC<|ze (by rw[h2];rfl)
 refine⟨λh5=>?_,λh5=>?_⟩
 ·exact ze (by rw[h5];rfl)
 exact ze (by unfold nm;rw[Xc h1,Xc h2,Xc h3,Xc h4,Xc h5])
def pk(n i:Int)(p:Pt):Prop:=zr p/\(n<=i->p=zp)
instance (n i:Int) (p:Pt):Decidable (pk n i p):=wi
def zc7(s:Sg):Prop:=pk (nm s.v) 0 s.a/\pk (nm s.v) 1 s.b/\pk (nm s.v) 2 s.c
instance (s:Sg):Decidable (zc7 s):=wi
def zpH{s:Sg}:zc7 s↔∀(j:Nat) x,[s.a,s.b,s.c][j]?=some x->pk (nm s.v) j x:=by
 constructor
 ·rintro⟨h1,h2,h3⟩ j x hx
  match j,hx with
  |0,hx=>cases hx;exact h1
  |1,hx=>cases hx;exact h2
  |2,hx=>cases hx;exact h3
 exact λh=>⟨h 0 _ rfl,h 1 _ rfl,h 2 _ rfl⟩
def zr6(s:Sg):CX 332 [.agg (sgE s)] (pr (zc7 s)):=by
 refine zc func332<|⟨Pt,ptE,[s.a,s.b,s.c],rfl,wb0 ?_⟩;intro _
 refine⟨Nat,λi=>⟨[(13,i64 i),(12,i64 3),(11,.own 1),(1,.loc 0 0)],[(1,.arr 28 ptE 2 [s.a,s.b,s.c]),(0,.box 108 (sgE s))],2,34,0⟩,
  λi=>i<=3/\∀(j:Nat) x,j<i->[s.a,s.b,s.c][j]?=some x->pk (nm s.v) j x,λi=>3-i,0,?_,?_,?_⟩
 ·exact⟨oM,λj x hj=>by omega⟩
 ·exact zf [0,1]
 rintro i ⟨h1,h2⟩
 refine⟨λh3=>?_,λh3=>?_⟩
 ·have h3:i<3:=by omega
  refine Ob.mk ⟨oM,by show(i:Int)<3;omega⟩<|Ob.mk ⟨oM,by show(i:Int)<3;omega⟩ λx(hx:[s.a,s.b,s.c][i]?=some x)=>?_;refine wg (kY x) ?_;have out:¬pk (nm s.v) i x->¬zc7 s:=λh hf=>h (zpH.1 hf i x hx)
  refine⟨λh4=>zd (out λh=>h4 h.1),λh4=>?_⟩;have h4:=Xa.1 h4;refine wg (c_named s.v) ?_
  have next:pk (nm s.v) i x->(i+1<=3/\∀(j:Nat) x,j<i+1->[s.a,s.b,s.c][j]?=some x->pk (nm s.v) j x):=λh=>⟨oM,λj y hj hy=>by
   by_cases e:j=i
   ·subst e;rw[hx]at hy;cases hy;exact h
   exact h2 j y oM hy⟩
  refine⟨λh5=>?_,λh5=>?_⟩
  ·refine⟨λh6=>zd (out λh=>h6 (qi.2 (h.2 h5))),λh6=>?_⟩;have h6:x=zp:=qi.1 (Xa.1 h6);exact wa<|⟨i+1,next ⟨h4,λ_=>h6⟩,zf [0,1],oN⟩
  exact wa<|⟨i+1,next ⟨h4,λh=>absurd h h5⟩,zf [0,1],oN⟩
 refine zH (zpH.2 λj x hx=>h2 j x ?_ hx);have:=(Xd.1 hx).1;have h3:¬((i:Int)<3):=h3;simp at this;omega
def zbQ(last v:Int):Prop:=v=1∨(last≠5/\(v≠5∨last≠1))
instance (last v:Int):Decidable (zbQ last v):=wj
def jO(last:Int)(s:Sg):Int:=if nm s.v<0 then 2 else if¬zbQ last s.v then 10 else if¬zc7 s then 6 else 0
def chk(last:Int)(i:Nat):List Sg->Int×Int
 |[]=>(0,0)
 |s::r=>if jO last s≠0 then(jO last s,i) else chk s.v (i+1) r
def zae(l:List Sg):Int×Int:=if 256<l.length then(5,256) else chk 5 0 l
def qM(l:List Sg):Prop:=(zae l).1=0
instance (l:List Sg):Decidable (qM l):=inferInstanceAs (Decidable (_=_))
def zgp{α:Type}{l:List α}{i:Nat}{x:α}(h:l[i]?=some x):l.drop i=x::l.drop (i+1):=by
 obtain⟨hl,he⟩:=Xd.1 h;rw[KS hl,he]
def twoI(c:Int×Int):SV:=.tup [i64 c.1,i64 c.2]
def zAy(l:List Sg):CX 263 [.sl sgE l] (twoI (zae l)):=by
 refine zc func263 ?_;have fin:∀{a b:Int},zae l=(a,b)->LE (.tup [i64 a,i64 b]) (twoI (zae l)):=λh=>by rw[h];exact .refl
 intro hl;refine⟨λh=>fin (by unfold zae;rw[Xe oM]),λh=>?_⟩;have hc:zae l=chk 5 0 l:=by unfold zae;rw[Xc oM]
 intro hl1;refine⟨Nat×Int,λq=>⟨[(13,i64 q.1),(12,i64 l.length),(11,.sl sgE l),(4,i64 q.2)],[],0,52,0⟩,λq=>q.1<=l.length/\chk 5 0 l=chk q.2 q.1 (l.drop q.1),λq=>l.length-q.1,(0,5),?_,?_,?_⟩
 ·exact⟨Xh _,rfl⟩
 ·exact zB []
 rintro⟨i,last⟩ ⟨h1,h2⟩
 have h1:i<=l.length:=h1;have h2:chk 5 0 l=chk last i (l.drop i):=h2;refine⟨λh3:(i:Int)<l.length=>?_,λh3=>?_⟩
 ·refine Ob.mk ⟨oN,h3⟩ λx(hx:l[i]?=some x)=>?_;rw[zgp hx]at h2
  have bad:∀{e:Int},jO last x=e->e≠0->zae l=(e,(i:Int)):=λh hn=>by
   rw[hc,h2];unfold chk;rw[Xe (by rw[h];exact hn),h]
  have good:jO last x=0->(i+1,x.v).1<=l.length/\chk 5 0 l=chk (i+1,x.v).2 (i+1,x.v).1 (l.drop (i+1,x.v).1):=λh=>⟨by show i+1<=_;omega,by
   show _=chk x.v (i+1) _;rw[h2];conv=>lhs;unfold chk
   rw[Xc (λhn=>hn h)]⟩
  refine⟨λj1=>?_,λj1=>?_⟩
  ·have st:zbQ last x.v:=.inl j1;refine wg (c_named x.v)<|⟨λk1=>fin (bad (by unfold jO;rw[Xe k1]) dC),λk1=>?_⟩;refine wg (zr6 x)<|⟨λk2=>fin (bad (by unfold jO;rw[Xc k1,Xc (λh=>h st),Xe k2]) dC),λk2=>?_⟩;exact Ar.fit oN<|⟨(i+1,x.v),good (by unfold jO;rw[Xc k1,Xc (λh=>h st),Xc k2]),zB [],by show l.length-(i+1)<l.length-i;omega⟩
  refine⟨λj2=>?_,λj2=>?_⟩
  ·refine⟨λj3=>?_,λj3=>?_⟩
   ·have st:zbQ last x.v:=.inr ⟨j2,.inl j3⟩;refine wg (c_named x.v)<|⟨λk1=>fin (bad (by unfold jO;rw[Xe k1]) dC),λk1=>?_⟩;refine wg (zr6 x)<|⟨λk2=>fin (bad (by unfold jO;rw[Xc k1,Xc (λh=>h st),Xe k2]) dC),λk2=>?_⟩;exact Ar.fit oN<|⟨(i+1,x.v),good (by unfold jO;rw[Xc k1,Xc (λh=>h st),Xc k2]),zB [],by show l.length-(i+1)<l.length-i;omega⟩
   refine wg (c_named x.v)<|⟨λk1=>fin (bad (by unfold jO;rw[Xe k1]) dC),λk1=>?_⟩;have j3:=Xa.1 j3
   have ns:¬last≠1->¬zbQ last x.v:=λk0 st=>by
    rcases st with st|⟨_,st|st⟩
    ·exact j1 st
    ·exact st j3
    exact k0 st
   refine⟨λk0=>fin (bad (by unfold jO;rw[Xc k1,Xe (ns k0)]) dC),λk0=>?_⟩;have st:zbQ last x.v:=.inr ⟨j2,.inr (Xa.1 k0)⟩;refine wg (zr6 x)<|⟨λk2=>fin (bad (by unfold jO;rw[Xc k1,Xc (λh=>h st),Xe k2]) dC),λk2=>?_⟩;exact Ar.fit oN<|⟨(i+1,x.v),good (by unfold jO;rw[Xc k1,Xc (λh=>h st),Xc k2]),zB [],by show l.length-(i+1)<l.length-i;omega⟩
  refine wg (c_named x.v)<|⟨λk1=>fin (bad (by unfold jO;rw[Xe k1]) dC),λk1=>?_⟩
  have ns:¬zbQ last x.v:=λst=>by
   rcases st with st|⟨st,_⟩
   ·exact j1 st
   exact j2 st
  exact fin (bad (by unfold jO;rw[Xc k1,Xe ns]) dC)
 refine fin (hc.trans (h2.trans ?_));rw[Kx (by have h3:¬(i:Int)<l.length:=h3;omega)];rfl
def ziY(l:List Sg):CX 186 [.sl sgE l] (pr (qM l)):=by
 exact zc func186<|wg (zAy l)<|zE K5
abbrev wl(x:BI):SV:=.agg (biE x)
abbrev LX:=List Sg
end Go.Gs
