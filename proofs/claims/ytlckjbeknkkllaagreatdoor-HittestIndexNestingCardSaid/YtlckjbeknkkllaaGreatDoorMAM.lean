/- A path under a transform, the program's. -/
import Derived.Test.YtlckjbeknkkllaaGreatDoorMAL
import Derived.RangeFuncRecord
import Derived.OrdersIn
import Derived.TacticsIn
import Derived.RangeFuncBox
set_option maxRecDepth 100000
set_option maxHeartbeats 8000000
set_option linter.all false
namespace Go.Gs
open Proofs.Tryz
open Go.Proofs
section
def qL(t:AF):LR->Int
 |[]=>0
 |p::r=>if (kU t p).2≠0 then(kU t p).2 else qL t r
def vQ(t:AF)(s:Sg):Sg:=zhC s.v ((z9 s).map λp=>(kU t p).1)
def trans(t:AF)(l:LW):LW×Int:=
 if¬kX l then([],10) else if qL t (qp l)≠0 then([],qL t (qp l)) else(l.map (vQ t),0)
def yB(t:AF):∀q r:LR,qL t (q++r)=if qL t q≠0 then qL t q else qL t r
 |[],r=>by simp[qL]
 |p::q,r=>by
  rw[JA,qL,qL,yB t q r]
  by_cases h:(kU t p).2=0
  ·simp[h]
  simp[h]
variable{q:LR}{p:Pt}
def zdd{t:AF}{k:Nat}(h0:qL t (q.take k)=0)(hp:q[k]?=some p):
  ((kU t p).2=0->qL t (q.take (k+1))=0)/\((kU t p).2≠0->qL t q=(kU t p).2):=by
 have e:q.take (k+1)=q.take k++[p]:=by rw[Xm,hp];rfl
 have e1:qL t (q.take (k+1))=(kU t p).2:=by
  rw[e,yB,h0]
  by_cases h:(kU t p).2=0 <;> simp[qL,h]
 refine⟨λh=>by rw[e1,h],λh=>?_⟩;have:=yB t (q.take (k+1)) (q.drop (k+1));rw[KG,e1,Xe h]at this;exact this
def zyi(s:Sg):(z9 s).length<=3:=by
 unfold z9;have:=zc5 s.v;simp only[Xv,Xq,Xt];omega
def zBj(l:LW)(t:AF)(ht:t.le 100000)(hlen:l.length<=300):CX 187 [.sl sgE l,wo t] (.tup [.sl sgE (trans t l).1,i64 (trans t l).2]):=by
 refine zd func187 ?_
 have bad:∀e:Int,trans t l=([],e)->LE (.tup [nS,i64 e]) (.tup [.sl sgE (trans t l).1,i64 (trans t l).2]):=λe h=>by
  rw[h];exact zW zw .refl
 refine wg (zif l)<|⟨λh1=>?_,λh1=>?_⟩
 ·exact bad 10 (by rw[trans,Xe h1])
 intro hl
 refine⟨Nat×Option LW,λq=>match q with
   |(i,none)=>⟨[(19,i64 i),(18,i64 l.length),(17,.sl sgE l),(6,.val (.slice none 0 0)),(3,.loc 0 0)],[(0,.box 49 (afE t))],1,53,0⟩
   |(i,some out)=>⟨[(19,i64 i),(18,i64 l.length),(17,.sl sgE l),(6,.own 1),(3,.loc 0 0)],[(1,.arr 83 sgE 7 out),(0,.box 49 (afE t))],2,53,0⟩,
  λq=>match q with
   |(i,none)=>i=0
   |(i,some out)=>i<=l.length/\out=(l.take i).map (vQ t)/\qL t (qp (l.take i))=0,λq=>l.length-q.1,(0,none),rfl,?_,?_⟩
 ·exact zi [0]
 have errs:∀(i:Nat) (x:Sg) (p:Pt) (k:Nat),qL t (qp (l.take i))=0->l[i]?=some x->qL t ((z9 x).take k)=0->(z9 x)[k]?=some p->(kU t p).2≠0->trans t l=([],(kU t p).2):=by
  intro i x p k h0 hx hk hp he;have e2:=(zdd hk hp).2 he
  have e3:qL t (qp l)=(kU t p).2:=by
   have hd:=zb4 hx
   have:qp l=qp (l.take i)++(z9 x++qp (l.drop (i+1))):=by
    conv=>lhs;rw[←KG i l,hd]
    simp[qp]
   rw[this,yB,h0];simp only[ne_eq,not_true_eq_false,if_false];rw[yB,e2,Xe he]
  rw[trans,Xb h1,e3,Xe he]
 have fin0:∀i x,qL t (qp (l.take i))=0->l[i]?=some x->qL t (z9 x)=0->qL t (qp (l.take (i+1)))=0:=λi x h0 hx hk=>by
  rw[zpf hx,yB,h0];simpa using hk
 rintro⟨i,_|out⟩ hI
 ·have hI:i=0:=hI;subst hI;have hi0:qL t (qp (l.take 0))=0:=rfl;have hil:0<=l.length:=Xg _;refine⟨λh2=>?_,λh2=>?_⟩
  ·refine wb λx(hx:l[0]?=some x)=>?_;refine wg (zpe x) λhl4=>?_
   refine⟨Nat×Option LR,λq=>match q with
     |(k,none)=>⟨[(26,i64 k),(25,i64 (z9 x).length),(24,.sl ptE (z9 x)),(9,.val (.slice none 0 0)),(8,.loc 1 0),(19,i64 (0:Nat)),(18,i64 l.length),(17,.sl sgE l),(6,.val (.slice none 0 0)),(3,.loc 0 0)],[(1,.box 83 (sgE x)),(0,.box 49 (afE t))],2,53,0⟩
     |(k,some to)=>⟨[(26,i64 k),(25,i64 (z9 x).length),(24,.sl ptE (z9 x)),(9,.own 2),(8,.loc 1 0),(19,i64 (0:Nat)),(18,i64 l.length),(17,.sl sgE l),(6,.val (.slice none 0 0)),(3,.loc 0 0)],[(2,.arr 28 ptE 2 to),(1,.box 83 (sgE x)),(0,.box 49 (afE t))],3,53,0⟩,
    λq=>match q with
     |(k,none)=>k=0
     |(k,some to)=>k<=(z9 x).length/\to=((z9 x).take k).map (λp=>(kU t p).1)/\qL t ((z9 x).take k)=0,λq=>(z9 x).length-q.1,(0,none),rfl,?_,?_⟩
   ·exact zi [0,1]
   have hx3:=zyi x
   rintro⟨k,_|to⟩ hK
   ·have hK:k=0:=hK;subst hK;have hk0:qL t ((z9 x).take 0)=0:=rfl;have hkl:0<=(z9 x).length:=Xg _;refine⟨λh4=>?_,λh4=>?_⟩
    ·refine wb λp(hp:(z9 x)[0]?=some p)=>?_;refine wg (zdX t p ht)<|⟨λh5=>?_,λh5=>?_⟩
     ·exact bad _ (errs 0 x p 0 hi0 hx hk0 hp h5)
     have h5:(kU t p).2=0:=Km h5;have hk1:=(zdd hk0 hp).1 h5;refine⟨Pt,ptE,[(kU t p).1],rfl,wb0 ?_⟩;refine⟨_,_,_,rfl,wb16 ?_⟩;refine Ar.fit dC ?_;refine⟨(1,some [(kU t p).1]),⟨oM,(by rw[Xm,hp];rfl),hk1⟩,zi [0,1,5],oN⟩
    have hp0:z9 x=[]:=XN.1 oM;have hgo:zhC x.v []=vQ t x:=by rw[vQ,hp0];rfl
    have hall:=fin0 0 x hi0 hx (by rw[hp0];rfl);refine wg ((znw x.v []).args (.C (.cons zw .nil))) ?_;rw[hgo];refine⟨Sg,sgE,[vQ t x],rfl,wb0 ?_⟩;refine⟨_,_,_,rfl,wb17 ?_⟩;refine Ar.fit dC ?_;refine⟨(1,some [vQ t x]),⟨oM,(by rw[Xm,hx];rfl),hall⟩,(by first|exact zi [0,2]|exact zi [0,3]|exact zi [0,4]|exact zi [0,5]|exact zi [0,6]|exact zi [0,7]|exact zi [0,8]),oN⟩
   obtain⟨hkl,hto,hk0⟩:=hK;refine⟨λh4=>?_,λh4=>?_⟩
   ·refine wb λp(hp:(z9 x)[k]?=some p)=>?_;refine wg (zdX t p ht)<|⟨λh5=>?_,λh5=>?_⟩
    ·exact bad _ (errs 0 x p k hi0 hx hk0 hp h5)
    have h5:(kU t p).2=0:=Km h5;have hk1:=(zdd hk0 hp).1 h5;refine⟨Pt,ptE,[(kU t p).1],rfl,wb0 ?_⟩;have htl:to.length=k:=by rw[hto];simp;omega
    refine⟨_,rfl,wb18 ?_⟩;refine wa ?_;refine⟨(k+1,some (to++[(kU t p).1])),⟨oM,(by rw[Xm,hp,hto];simp),hk1⟩,zi [0,1,6],oN⟩
   have hkk:k=(z9 x).length:=by omega
   subst hkk;rw[Kf]at hto hk0;have hgo:zhC x.v to=vQ t x:=by rw[vQ,hto]
   have hall:=fin0 0 x hi0 hx hk0;refine wg (znw x.v to) ?_;rw[hgo];refine⟨Sg,sgE,[vQ t x],rfl,wb0 ?_⟩;refine⟨_,_,_,rfl,wb17 ?_⟩;refine Ar.fit dC ?_;refine⟨(1,some [vQ t x]),⟨oM,(by rw[Xm,hx];rfl),hall⟩,(by first|exact zi [0,2]|exact zi [0,3]|exact zi [0,4]|exact zi [0,5]|exact zi [0,6]|exact zi [0,7]|exact zi [0,8]),oN⟩
  have hii:0=l.length:=by omega
  have htr:trans t l=(l.map (vQ t),0):=by
   rw[hii,Kf]at hi0;rw[trans,Xb h1,hi0,Xb (λk=>k rfl)]
  exact bad 0 (by rw[htr,XN.1 hii.symm];rfl)
 obtain⟨hil,hout,hi0⟩:=hI;refine⟨λh2=>?_,λh2=>?_⟩
 ·refine wb λx(hx:l[i]?=some x)=>?_;refine wg (zpe x) λhl4=>?_
  refine⟨Nat×Option LR,λq=>match q with
    |(k,none)=>⟨[(26,i64 k),(25,i64 (z9 x).length),(24,.sl ptE (z9 x)),(9,.val (.slice none 0 0)),(8,.loc 2 0),(19,i64 i),(18,i64 l.length),(17,.sl sgE l),(6,.own 1),(3,.loc 0 0)],[(2,.box 83 (sgE x)),(1,.arr 83 sgE 7 out),(0,.box 49 (afE t))],3,53,0⟩
    |(k,some to)=>⟨[(26,i64 k),(25,i64 (z9 x).length),(24,.sl ptE (z9 x)),(9,.own 3),(8,.loc 2 0),(19,i64 i),(18,i64 l.length),(17,.sl sgE l),(6,.own 1),(3,.loc 0 0)],[(3,.arr 28 ptE 2 to),(2,.box 83 (sgE x)),(1,.arr 83 sgE 7 out),(0,.box 49 (afE t))],4,53,0⟩,
   λq=>match q with
    |(k,none)=>k=0
    |(k,some to)=>k<=(z9 x).length/\to=((z9 x).take k).map (λp=>(kU t p).1)/\qL t ((z9 x).take k)=0,λq=>(z9 x).length-q.1,(0,none),rfl,?_,?_⟩
  ·exact zi [0,1,2]
  have hx3:=zyi x
  rintro⟨k,_|to⟩ hK
  ·have hK:k=0:=hK;subst hK;have hk0:qL t ((z9 x).take 0)=0:=rfl;have hkl:0<=(z9 x).length:=Xg _;refine⟨λh4=>?_,λh4=>?_⟩
   ·refine wb λp(hp:(z9 x)[0]?=some p)=>?_;refine wg (zdX t p ht)<|⟨λh5=>?_,λh5=>?_⟩
    ·exact bad _ (errs i x p 0 hi0 hx hk0 hp h5)
    have h5:(kU t p).2=0:=Km h5;have hk1:=(zdd hk0 hp).1 h5;refine⟨Pt,ptE,[(kU t p).1],rfl,wb0 ?_⟩;refine⟨_,_,_,rfl,wb16 ?_⟩;refine Ar.fit dC ?_;refine⟨(1,some [(kU t p).1]),⟨oM,(by rw[Xm,hp];rfl),hk1⟩,zi [0,1,2,6],oN⟩
   have hp0:z9 x=[]:=XN.1 oM;have hgo:zhC x.v []=vQ t x:=by rw[vQ,hp0];rfl
   have hall:=fin0 i x hi0 hx (by rw[hp0];rfl);refine wg ((znw x.v []).args (.C (.cons zw .nil))) ?_;rw[hgo];refine⟨Sg,sgE,[vQ t x],rfl,wb0 ?_⟩;have hol:out.length=i:=by rw[hout];simp;omega
   refine⟨_,rfl,wb19 ?_⟩;refine wa ?_;refine⟨(i+1,some (out++[vQ t x])),⟨oM,(by rw[Xm,hx,hout];simp),hall⟩,(by first|exact zi [0,2]|exact zi [0,3]|exact zi [0,4]|exact zi [0,5]|exact zi [0,6]|exact zi [0,7]|exact zi [0,8]),oN⟩
  obtain⟨hkl,hto,hk0⟩:=hK;refine⟨λh4=>?_,λh4=>?_⟩
  ·refine wb λp(hp:(z9 x)[k]?=some p)=>?_;refine wg (zdX t p ht)<|⟨λh5=>?_,λh5=>?_⟩
   ·exact bad _ (errs i x p k hi0 hx hk0 hp h5)
   have h5:(kU t p).2=0:=Km h5;have hk1:=(zdd hk0 hp).1 h5;refine⟨Pt,ptE,[(kU t p).1],rfl,wb0 ?_⟩;have htl:to.length=k:=by rw[hto];simp;omega
   refine⟨_,rfl,wb18 ?_⟩;refine wa ?_;refine⟨(k+1,some (to++[(kU t p).1])),⟨oM,(by rw[Xm,hp,hto];simp),hk1⟩,zi [0,1,2,7],oN⟩
  have hkk:k=(z9 x).length:=by omega
  subst hkk;rw[Kf]at hto hk0;have hgo:zhC x.v to=vQ t x:=by rw[vQ,hto]
  have hall:=fin0 i x hi0 hx hk0;refine wg (znw x.v to) ?_;rw[hgo];refine⟨Sg,sgE,[vQ t x],rfl,wb0 ?_⟩;have hol:out.length=i:=by rw[hout];simp;omega
  refine⟨_,rfl,wb19 ?_⟩;refine wa ?_;refine⟨(i+1,some (out++[vQ t x])),⟨oM,(by rw[Xm,hx,hout];simp),hall⟩,(by first|exact zi [0,2]|exact zi [0,3]|exact zi [0,4]|exact zi [0,5]|exact zi [0,6]|exact zi [0,7]|exact zi [0,8]),oN⟩
 have hii:i=l.length:=by omega
 have htr:trans t l=(l.map (vQ t),0):=by
  rw[hii,Kf]at hi0;rw[trans,Xb h1,hi0,Xb (λk=>k rfl)]
 rw[hii,Kf]at hout;rw[htr,←hout];exact zW .refl .refl
def part(f:Pt->Pt)(j:Nat)(s:Sg):Sg:=⟨s.v,if 1<=j then f s.a else s.a,if 2<=j then f s.b else s.b,if 3<=j then f s.c else s.c⟩
def zbw(f:Pt->Pt)(s:Sg):Sg:=part f (nm s.v).toNat s
variable{l:LW}
def zjK(h:kX l):∀p∈qp l,zm p:=λp hp=>by
 obtain⟨s,hs,hp⟩:=Qn.1 hp
 have hf:zb3 s:=by
  have e:=zvc l;rw[←e]at hs;obtain⟨g,hg,hsg⟩:=Yf.1 hs;obtain⟨k,m,mid,_,_,g3,_⟩:=zx2 h g hg;exact g3 s hsg
 have hp:=XQ hp;simp only[XD,XR,or_false]at hp
 rcases hp with rfl|rfl|rfl
 ·exact hf.1.1
 ·exact hf.2.1.1
 exact hf.2.2.1
def zty{f:Pt->Pt->Pt}(hf:∀p q,zm p->zm q->zm (f p q)):∀(q:LR) (p:Pt),zm p->(∀r∈q,zm r)->zm (q.foldl f p)
 |[],_,hp,_=>hp
 |a::q,p,hp,h=>zty hf q (f p a) (hf p a hp (h a (.head _))) λr hr=>h r (.tail _ hr)
def zyj{f:Pt->Pt->Pt}(hf:∀p q,zm p->zm q->zm (f p q))(h:∀r∈q,zm r):zm (bnd f q):=by
 cases q with
 |nil=>exact zp_ok
 |cons a r=>exact zty hf (a::r) a (h a (.head _)) h
def zED(f:Pt->Pt)(j:Nat)(s:Sg):(part f j s).v=s.v:=rfl
def zvs(f:Pt->Pt)(s:Sg):z9 (zbw f s)=(z9 s).map f:=by
 have hr:=zc5 s.v;have e:nm s.v<=0∨nm s.v=1∨nm s.v=2∨nm s.v=3:=oM;unfold z9 zbw;rw[zED]
 rcases e with e|e|e|e
 ·rw[show(nm s.v).toNat=0 by omega];rfl
 ·rw[show(nm s.v).toNat=1 by omega];rfl
 ·rw[show(nm s.v).toNat=2 by omega];rfl
 rw[show(nm s.v).toNat=3 by omega];rfl
def zBk(f:Pt->Pt)(l:LW):qp (l.map (zbw f))=(qp l).map f:=by
 induction l with
 |nil=>rfl
 |cons s r ih=>
  have e1:qp ((s::r).map (zbw f))=z9 (zbw f s)++qp (r.map (zbw f)):=rfl;have e2:qp (s::r)=z9 s++qp r:=rfl;rw[e1,e2,ih,zvs,XG]
def znC(h:p∈q):((bnd mnP q).x<=p.x/\(bnd mnP q).y<=p.y)/\p.x<=(bnd mxP q).x/\p.y<=(bnd mxP q).y:=by
 cases q with
 |nil=>cases h
 |cons a r=>
  obtain⟨_,h2,_⟩:=zto (a::r) a;obtain⟨_,k2,_⟩:=ztp (a::r) a;exact⟨h2 p h,k2 p h⟩
def tr(x y:Int):AF:=afQ ((1:Int):Rat) ((0:Int):Rat) ((0:Int):Rat) ((1:Int):Rat) (x:Rat) (y:Rat)
def sh(x y:Int)(p:Pt):Pt:=⟨p.x+x,p.y+y⟩
def zEE(x y:Int)(p:Pt):goP (tr x y) p=sh x y p:=by
 have h:∀a:Int,((a:Rat)+Rat.divInt 1 2).floor=a:=λa=>by
  rw[Rat.add_comm,Rat.floor_add_intCast,show(Rat.divInt 1 2).floor=0 by decide +kernel,Int.zero_add]
 have e1:zcu (tr x y) p.x p.y=((p.x+x:Int):Rat):=by
  unfold zcu tr afQ;simp only[kA];rw[Rat.intCast_add,show((1:Int):Rat)=1 from rfl,show((0:Int):Rat)=0 from rfl,Rat.one_mul,Rat.zero_mul,Rat.add_zero]
 have e2:zcv (tr x y) p.x p.y=((p.y+y:Int):Rat):=by
  unfold zcv tr afQ;simp only[kA];rw[Rat.intCast_add,show((1:Int):Rat)=1 from rfl,show((0:Int):Rat)=0 from rfl,Rat.one_mul,Rat.zero_mul,Rat.zero_add]
 unfold goP;rw[e1,e2,h,h];rfl
def zdY{n:Int}(h:R64 n):zaB (n:Rat)<=256:=by
 unfold zaB;rw[JM,JL];have h1:z1 1=1:=by decide +kernel
 have h2:z1 n.natAbs<=64:=by
  by_cases h0:n.natAbs=0
  ·rw[h0];decide
  have:=zaw h0;unfold R64 at h;refine QJ λk=>?_
  have:2^64<=2^(z1 n.natAbs-1):=XJ dC oM;omega
 omega
variable{x:Int}
def tr_ok{y:Int}(hx:R64 x)(hy:R64 y):(tr x y).ok:=by
 have a:=zdY (show R64 1 by decide);have b:=zdY (show R64 0 by decide);have c:=zdY hx;have d:=zdY hy;unfold AF.ok;simp only[okI,AF.nth,tr,afQ,kA,true_and];exact⟨⟨⟨⟨⟨a,b⟩,b⟩,a⟩,c⟩,d⟩
def znD{y:Int}(hx:R64 x)(hy:R64 y)(hp:zm p):kU (tr x y) p=if zm (sh x y p) then(sh x y p,0) else(zp,6):=by
 unfold kU;rw[Xb (λh=>h (tr_ok hx hy)),Xb (λh=>h hp),zEE]
def zpw{x y:Int}(hx:R64 x)(hy:R64 y):∀{q:LR},(∀p∈q,zm p)->(qL (tr x y) q=0/\∀p∈q,zm (sh x y p))∨qL (tr x y) q=6
 |[],_=>.inl ⟨rfl,λp h=>by cases h⟩
 |p::r,h=>by
  have hp:=znD hx hy (h p (.head _));unfold qL
  by_cases k:zm (sh x y p)
  ·rw[hp,Xe k,Xb (λh=>h rfl)]
   rcases zpw hx hy (λp h'=>h p (.tail _ h')) with⟨e,a⟩|e
   ·refine .inl ⟨e,λq hq=>?_⟩
    rcases XD.1 hq with rfl|hq
    ·exact k
    exact a q hq
   exact .inr e
  rw[hp,Xb k,Xe dC];exact .inr rfl
def zBl{y:Int}(hx:R64 x)(hy:R64 y){s:Sg}(hf:zb3 s)(h:∀p∈z9 s,zm p)(h':∀p∈z9 s,zm (sh x y p)):vQ (tr x y) s=zbw (sh x y) s:=by
 have e:(z9 s).map (λp=>(kU (tr x y) p).1)=(z9 s).map (sh x y):=Kg λp hp=>by rw[znD hx hy (h p hp),Xe (h' p hp)]
 unfold vQ;rw[e];obtain⟨f1,f2,f3⟩:=hf;have hr:=zc5 s.v;have k:nm s.v<=0∨nm s.v=1∨nm s.v=2∨nm s.v=3:=oM;unfold z9 zbw zhC part
 rcases k with k|k|k|k
 ·rw[show(nm s.v).toNat=0 by omega,f1.2 oM,f2.2 oM,f3.2 oM];rfl
 ·rw[show(nm s.v).toNat=1 by omega,f2.2 oM,f3.2 oM];rfl
 ·rw[show(nm s.v).toNat=2 by omega,f3.2 oM];rfl
 rw[show(nm s.v).toNat=3 by omega];rfl
def zfW:∀{l:LW} {last:Int},oks last l->∀s∈l,zb3 s
 |[],_,_,s,hs=>by cases hs
 |a::r,last,h,s,hs=>by
  rcases XD.1 hs with rfl|hs
  ·exact(vg.1 h.1).2.2
  exact zfW h.2 s hs
def shL(x y:Int)(l:LW):LW:=l.map (zbw (sh x y))
def zyk{y:Int}(hx:R64 x)(hy:R64 y)(h:kX l):(trans (tr x y) l=(shL x y l,0)/\∀p∈qp l,zm (sh x y p))∨trans (tr x y) l=([],6):=by
 have ho:=(vf.1 h).2;have hp:=zjK h;unfold trans;rw[Xb (λk=>k h)]
 obtain⟨e,a⟩|e:=zpw hx hy hp
 ·rw[e,Xb (λk=>k rfl)];refine .inl ⟨?_,a⟩;have:l.map (vQ (tr x y))=shL x y l:=Kg λs hs=>zBl hx hy (zfW ho s hs) (λp k=>hp p (Qn.2 ⟨s,hs,k⟩)) (λp k=>a p (Qn.2 ⟨s,hs,k⟩))
  rw[this]
 rw[e,Xe dC];exact .inr rfl
def zpx{x y:Int}(hx:R64 x)(hy:R64 y):∀{q:LR},(∀p∈q,zm p)->(∀p∈q,zm (sh x y p))->qL (tr x y) q=0
 |[],_,_=>rfl
 |p::r,h,k=>by
  have hp:=znD hx hy (h p (.head _));unfold qL;rw[hp,Xe (k p (.head _)),Xb (λh=>h rfl)];exact zpx hx hy (λp h'=>h p (.tail _ h')) (λp h'=>k p (.tail _ h'))
def zyl{x y:Int}(hx:R64 x)(hy:R64 y){l:LW}(h:kX l)(a:∀p∈qp l,zm (sh x y p)):trans (tr x y) l=(shL x y l,0):=by
 obtain⟨e,_⟩|e:=zyk hx hy h
 ·exact e
 have:=zpx hx hy (zjK h) a;unfold trans at e;rw[Xb (λk=>k h),this,Xb (λk=>k rfl)]at e;exact absurd (J9 e).2 dC
def ztz(p:Pt):sh 0 0 p=p:=zEo (JS _) (JS _)
def zym(l:LW):shL 0 0 l=l:=by
 unfold shL
 conv=>rhs;rw[←List.map_id l]
 refine Kg λs _=>?_
 obtain⟨v,a,c,d⟩:=s;unfold zbw part;dsimp only[id];congr 1 <;> (split <;> simp_all[ztz])
def zhJ{lo hi:Pt}{l:LW}{tol:Int}(h0:(kv l tol).2=0)(hb:∀p∈qp l,inB lo hi p):
  kX l/\zev tol/\yo (kv l tol).1<=4096/\∀q∈(kv l tol).1,q.pts≠[]/\yd q.pts/\∀z∈q.pts,inB lo hi z:=by
 unfold kv at h0 ⊢
 by_cases h1:¬kX l
 ·rw[Xe h1]at h0;exact absurd h0 dC
 rw[Xb h1]at h0 ⊢
 by_cases h2:¬zev tol
 ·rw[Xe h2]at h0;exact absurd h0 dC
 rw[Xb h2]at h0 ⊢
 by_cases h3:(jm l tol).2≠0
 ·rw[Xe h3]at h0;exact absurd h0 h3
 rw[Xb h3]at h0 ⊢
 by_cases h4:4096<yo (jm l tol).1
 ·rw[Xe h4]at h0;exact absurd h0 dC
 rw[Xb h4];have:=zjI (tol:=tol) (vf.1 (Xc.1 h1)).2 hb l.length (Xi _);rw[Kf]at this;exact⟨Xc.1 h1,Xc.1 h2,oN,(this (Xc.1 h3)).2⟩
def vk(l:LY):LN:=(l.filter λp=>decide (3<=p.pts.length)).map Pl.pts
def yG(l:LW)(t:AF)(tol:Int):LN×Int:=
 if (trans t l).2≠0 then([],(trans t l).2) else if (kv (trans t l).1 tol).2≠0 then([],(kv (trans t l).1 tol).2) else(vk (kv (trans t l).1 tol).1,0)
def zlN:∀l:LY,qx (vk l)<=yo l
 |[]=>Xi _
 |p::r=>by
  have ih:=zlN r;have e:yo (p::r)=p.pts.length+yo r:=by unfold yo;simp
  unfold vk at ih ⊢;rw[Ku]
  split
  ·have:qx ((p::r.filter λp=>decide (3<=p.pts.length)).map Pl.pts)=p.pts.length+qx ((r.filter λp=>decide (3<=p.pts.length)).map Pl.pts):=by unfold qx;simp
   omega
  omega
variable{r:LR}
def zvt{l:LY}(h:r∈vk l):∃p∈l,p.pts=r:=by
 unfold vk at h;obtain⟨p,hp,rfl⟩:=XL.1 h;exact⟨p,(QB.1 hp).1,rfl⟩
def zrN{lo hi:Pt}{l:LW}{t:AF}{tol:Int}(h0:(yG l t tol).2=0)(hb:∀p∈qp (trans t l).1,inB lo hi p):qx (yG l t tol).1<=4096/\∀r∈(yG l t tol).1,∀p∈r,inB lo hi p:=by
 unfold yG at h0 ⊢
 by_cases h1:(trans t l).2≠0
 ·rw[Xe h1]at h0;exact absurd h0 h1
 rw[Xb h1]at h0 ⊢
 by_cases h2:(kv (trans t l).1 tol).2≠0
 ·rw[Xe h2]at h0;exact absurd h0 h2
 rw[Xb h2];have f:=zhJ (Xc.1 h2) hb;refine⟨XE (zlN _) f.2.2.1,λr hr p hp=>?_⟩;obtain⟨q,hq,rfl⟩:=zvt hr;exact(f.2.2.2 q hq).2.2 p hp
def zlO{a b w:Int}(hw:0<=w)(h:2*(a.natAbs:Int)<=w*b.natAbs):((kQ a b).natAbs:Int)<=(w+1)/2:=by
 have e:=zjc a b;rw[e]
 by_cases hb:b.natAbs=0
 ·rw[hb];simp;omega
 have hb':(0:Int)<b.natAbs:=oM;generalize a.natAbs=A at*;generalize b.natAbs=B at*;rw[show(((2*A+B)/(2*B):Nat):Int)=(2*(A:Int)+B)/(2*B) by rw[Ye];simp];have h1:(2*(A:Int)+B)/(2*B)<=(w*B+B)/(2*B):=Int.ediv_le_ediv oM oM;have h2:(w*B+B:Int)=B*(w+1):=by grind
 have h3:(w*B+B:Int)/(2*B)=(w+1)/2:=by
  rw[h2,QL 2 (B:Int),Int.mul_ediv_mul_of_pos _ _ hb']
 omega
def zfX(w:Int)(p:Pt):Prop:=(p.x.natAbs:Int)<=(w+1)/2/\(p.y.natAbs:Int)<=(w+1)/2
def zBm{y:Int}(hx:¬zfN x)(hy:¬zfN y):256*(x.natAbs:Int)<=isq (65536*(x*x+y*y))/\256*(y.natAbs:Int)<=isq (65536*(x*x+y*y)):=by
 unfold zfN at hx hy;have h1:=jh (A:=2097152) (B:=2097152) (a:=x) (b:=x) oM oM;have h2:=jh (A:=2097152) (B:=2097152) (a:=y) (b:=y) oM oM;have h5:=j9 x;have h6:=j9 y;have e1:(x.natAbs:Int)*x.natAbs=x*x:=Int.natAbs_mul_self' x;have e2:(y.natAbs:Int)*y.natAbs=y*y:=Int.natAbs_mul_self' y;refine⟨zxQ oM oM ?_,zxQ oM oM ?_⟩
 ·rw[show 256*(x.natAbs:Int)*(256*(x.natAbs:Int))=65536*((x.natAbs:Int)*x.natAbs) by grind,e1];omega
 rw[show 256*(y.natAbs:Int)*(256*(y.natAbs:Int))=65536*((y.natAbs:Int)*y.natAbs) by grind,e2];omega
def zfY(v:Pt){w:Int}(hw:kg w):zfX w (kT v w):=by
 unfold kg at hw;unfold kT
 split
 ·exact⟨by show((0:Int).natAbs:Int)<=_;simp;omega,by show((0:Int).natAbs:Int)<=_;simp;omega⟩
 rename_i h;rw[not_or,not_or,not_or]at h;have ab:=zBm h.2.1 h.2.2.1;have hL:0<=isq (65536*(v.x*v.x+v.y*v.y)):=oM;generalize isq (65536*(v.x*v.x+v.y*v.y))=L at*;have eL:(L.natAbs:Int)=L:=Int.natAbs_of_nonneg hL;have wn:(w.natAbs:Int)=w:=Int.natAbs_of_nonneg oM;refine⟨zlO oM ?_,zlO oM ?_⟩
 ·rw[QX,QX,Int.natAbs_neg,eL,Kb,Kb,wn];have:=JD ab.2 (show 0<=w by omega);rw[show 2*((v.y.natAbs:Int)*w*((128:Int).natAbs:Nat))=w*(256*(v.y.natAbs:Int)) by simp;grind];exact this
 rw[QX,QX,eL,Kb,Kb,wn];have:=JD ab.1 (show 0<=w by omega);rw[show 2*((v.x.natAbs:Int)*w*((128:Int).natAbs:Nat))=w*(256*(v.x.natAbs:Int)) by simp;grind];exact this
def zvu(h:q∈qH r):q=r:=by
 unfold qH at h;split at h
 ·cases h
 exact Xu.1 h
end
section
variable{lo hi:Pt}{w m:Int}
end
def zpy{w:Int}{p:Pt}(h:zfX w p):zfX w (znu p):=by unfold zfX znu at*;dsimp only;omega
def zrO{a v b:Pt}{w:Int}(hw:kg w):zfX w (q9 a v b w).1/\zfX w (q9 a v b w).2.1:=by
 have z:zfX w zp:=by unfold kg at hw;exact⟨by show((0:Int).natAbs:Int)<=_;simp;omega,by show((0:Int).natAbs:Int)<=_;simp;omega⟩
 unfold q9
 split
 ·exact⟨z,z⟩
 dsimp only
 split
 ·exact⟨z,z⟩
 split
 ·exact⟨zpy (zfY _ hw),zpy (zfY _ hw)⟩
 exact⟨zfY _ hw,zfY _ hw⟩
def zpz{p:Pl}(h:(qP p).length<2):qf p=0:=by
 unfold qf;rw[show(qP p).length-1=0 by omega];rfl
def ztA{w:Int}{p:Pt}(hw:kg w)(h:zfX w p):zm p:=by unfold kg at hw;unfold zfX at h;unfold zm;omega
def zBn(n m:Pt)(w lim:Int):S50 (zb2 n m w lim).1.x/\S50 (zb2 n m w lim).1.y:=by
 unfold zb2
 split
 ·exact⟨dC,dC⟩
 rename_i h;obtain⟨hn,hm,hw,_⟩:=Xc.1 h;have hs:=zlL hn hm;dsimp only
 split
 ·exact⟨dC,dC⟩
 generalize zS n m=s at*;have t:=zfT hs.1 hw;have t':=zfT hs.2 hw;exact⟨ug (M:=1125899906842624) oM,ug (M:=1125899906842624) oM⟩
def zBo{a v b:Pt}{p:Pen}(h:kV p/\zm a/\zm v/\zm b/\¬v=a/\¬v=b):uY a v b p=
  if p.j=3 then qH (zcw v p.w) else if (q9 a v b p.w).2.2=false then[]
  else qH (qD (if p.j=1/\(zb2 (q9 a v b p.w).1 (q9 a v b p.w).2.1 p.w p.m).2=true then[v,zS v (q9 a v b p.w).1,zS v (zb2 (q9 a v b p.w).1 (q9 a v b p.w).2.1 p.w p.m).1,zS v (q9 a v b p.w).2.1]
   else[v,zS v (q9 a v b p.w).1,zS v (q9 a v b p.w).2.1])):=by
 unfold uY;rw[kD h]
def zEF(a v b:Pt)(p:Pen):CX 395 [wk a,wk v,wk b,ws p] (.sl zE (uY a v b p)):=by
 refine zd func395 ?_
 have bad:¬(kV p/\zm a/\zm v/\zm b/\¬v=a/\¬v=b)->LE nS (.sl zE (uY a v b p)):=λh=>by
  unfold uY;rw[Xe h];exact zw
 refine wg (zdV p)<|⟨λa1=>bad (λh=>a1 h.1),λa1=>?_⟩;refine wg (kC a)<|⟨λa2=>bad (λh=>a2 h.2.1),λa2=>?_⟩;refine wg (kC v)<|⟨λa3=>bad (λh=>a3 h.2.2.1),λa3=>?_⟩;refine wg (kC b)<|⟨λa4=>bad (λh=>a4 h.2.2.2.1),λa4=>?_⟩;refine⟨λa5=>bad (λh=>h.2.2.2.2.1 (qU.1 a5)),λa5=>?_⟩;refine⟨λa6=>bad (λh=>h.2.2.2.2.2 (qU.1 a6)),λa6=>?_⟩
 have hok:kV p/\zm a/\zm v/\zm b/\¬v=a/\¬v=b:=
  ⟨Xc.1 a1,Xc.1 a2,Xc.1 a3,Xc.1 a4,λe=>a5 (qU.2 e),λe=>a6 (qU.2 e)⟩
 have hv:=hok.2.2.1;have hw:=hok.1.1;have e:=zBo hok;refine⟨λj1:p.j=3=>?_,λj1:¬p.j=3=>?_⟩
 ·exact wg (zrJ v p.w)<|wg (znz (zcw v p.w))<|kM (e.trans (Xe j1)).symm
 rw[Xb j1]at e;refine wg (zBf a v b p.w)<|⟨λk=>?_,λk=>?_⟩
 ·have k:¬(q9 a v b p.w).2.2=true:=k;rw[Xe (by simpa using k)]at e;rw[e];exact zw
 have k:(q9 a v b p.w).2.2=true:=Xc.1 k;rw[Xb (by rw[k];decide)]at e;have oh:=zrO (a:=a) (v:=v) (b:=b) hw;have o1:=ztA hw oh.1;have o2:=ztA hw oh.2;generalize (q9 a v b p.w).1=n at*;generalize (q9 a v b p.w).2.1=m at*;refine wd<|wg (zdW v n hv.p45.s o1.p45.s)<|⟨Pt,ptE,[v,zS v n],rfl,wb0 ?_⟩;refine wh ?_
 have tail:∀(q:LR),(¬(p.j=1/\(zb2 n m p.w p.m).2=true))->q=[v,zS v n,zS v m]->LE (.sl zE (qH (qD q))) (.sl zE (uY a v b p)):=λq h hq=>by
  rw[e,Xb h,hq];exact .refl
 refine⟨λj2:p.j=1=>?_,λj2:¬p.j=1=>?_⟩
 ·refine wg (p_tip n m p.w p.m) ?_;have ht:=zBn n m p.w p.m;refine⟨λs1=>?_,λs1=>?_⟩
  ·refine wg (zdW v (zb2 n m p.w p.m).1 hv.p45.s ht)<|⟨Pt,ptE,[zS v (zb2 n m p.w p.m).1],rfl,wb0 ?_⟩;refine⟨[zS v (zb2 n m p.w p.m).1],rfl,wb13 ?_⟩;refine wg (zdW v m hv.p45.s o2.p45.s)<|⟨Pt,ptE,[zS v m],rfl,wb0 ?_⟩;refine⟨[zS v m],rfl,Ob.mk ⟨by show((3:Nat)+((1:Nat):Int))*16<=_;decide,by show 3+1<=_;decide,dC,λ_ _=>rfl⟩ ?_⟩;refine zb.see 11 _ (zaF [v,zS v n,zS v (zb2 n m p.w p.m).1,zS v m] (by show((4:Nat):Int)<=_;decide)) rfl rfl rfl<|wg (znz (qD [v,zS v n,zS v (zb2 n m p.w p.m).1,zS v m])) ?_
   rw[e,Xe ⟨j2,s1⟩];exact .refl
  refine wg (zdW v m hv.p45.s o2.p45.s)<|⟨Pt,ptE,[zS v m],rfl,wb0 ?_⟩;refine⟨[zS v m],rfl,wb13 ?_⟩;exact zb.see 9 _ (zaF [v,zS v n,zS v m] (by show((3:Nat):Int)<=_;decide)) rfl rfl rfl<|wg (znz (qD [v,zS v n,zS v m]))<|tail _ (λh=>s1 h.2) rfl
 refine wg (zdW v m hv.p45.s o2.p45.s)<|⟨Pt,ptE,[zS v m],rfl,wb0 ?_⟩;refine⟨[zS v m],rfl,wb13 ?_⟩;exact zb.see 8 _ (zaF [v,zS v n,zS v m] (by show((3:Nat):Int)<=_;decide)) rfl rfl rfl<|wg (znz (qD [v,zS v n,zS v m]))<|tail _ (λh=>j2 h.1) rfl
def zrP{l:LY}{i:Nat}{x:Pl}(h:l[i]?=some x):vk (l.take (i+1))=vk (l.take i)++if 3<=x.pts.length then[x.pts] else[]:=by
 unfold vk;rw[Xm,h]
 by_cases c:3<=x.pts.length
 ·simp[c]
 simp[c]
def zyn(l:LY):(vk l).length<=l.length:=by
 unfold vk;rw[Xz];exact K6 _ _
def zyo(l:LY)(hl:l.length<=4096)(hp:∀q∈l,q.pts.length<=4096):CX 189 [.sl plE l] (.sl zE (vk l)):=by
 refine zd func189 λhl1=>?_;refine⟨Nat,λi=>⟨[(3,.own 0),(6,.sl plE l),(7,i64 l.length),(8,i64 i)],[(0,.arr 155 zE 1 (vk (l.take i)))],1,24,0⟩,λi=>i<=l.length,λi=>l.length-i,0,?_,?_,?_⟩
 ·exact Xg _
 ·exact zA [(0,none)]
 rintro i hi
 have hlen:=zyn (l.take i);rw[Xv]at hlen;refine⟨λg:(i:Int)<l.length=>?_,λg:¬(i:Int)<l.length=>?_⟩
 ·refine wb λx(hx:l[i]?=some x)=>?_;intro hl3;have e:=zrP hx;refine⟨λc:(3:Int)<=x.pts.length=>?_,λc:¬(3:Int)<=x.pts.length=>?_⟩
  ·refine wg ((zny x.pts (hp x (Xf hx))).plain rfl)<|⟨LR,zE,[x.pts],rfl,wb0 ?_⟩;refine⟨[x.pts],rfl,Ob.mk ⟨(by show _*(24:Int)<=_;simp only[Xq,Xt];omega),(by simp only[Xq,Xt];omega),dC,λ_ _=>rfl⟩ ?_⟩;refine wa<|⟨i+1,oM,zt [3] ⟨aR ?_,tV⟩,oN⟩;rw[e,Xe oM]
  refine wa<|⟨i+1,oM,zt [0] ⟨aR ?_,tV⟩,oN⟩;rw[e,Xb oM,XM]
 exact kM (by rw[Xk oM])
def zdZ{a b c:Int}(ha: -1048576<=a/\a<=1048576)(hb: -1048576<=b/\b<=1048576)(hc: -1048576<=c/\c<=1048576):
  (-4194304<=a-2*b+c/\a-2*b+c<=4194304)/\0<=(a-2*b+c)*(a-2*b+c)/\(a-2*b+c)*(a-2*b+c)<=17592186044416:=by
 have h: -4194304<=a-2*b+c/\a-2*b+c<=4194304:=oM;have h1:=jh (A:=4194304) (B:=4194304) h h;have h2:=j9 (a-2*b+c);omega
def zeZ{a b c:Pt}(ha:zm a)(hb:zm b)(hc:zm c):0<=za2 a b c/\za2 a b c<=35184372088832:=by
 have h1:=zdZ ha.1 hb.1 hc.1;have h2:=zdZ ha.2 hb.2 hc.2;unfold za2;omega
def zjL(a b c:Pt)(ha:zm a)(hb:zm b)(hc:zm c):CX 436 [wk a,wk b,wk c] (i64 (za2 a b c)):=by
 have h1:=zdZ ha.1 hb.1 hc.1;have h2:=zdZ ha.2 hb.2 hc.2;unfold zm at ha hb hc;refine zd func436<|wc ?_;(iterate 9 refine wa ?_);exact .refl
def zrQ{need tol:Int}{i:Nat}(h:i<=64):vh need tol (65-i) i=if enough need tol i then((i:Int),0) else vh need tol (65-(i+1)) (i+1):=by
 rw[show 65-i=(64-i)+1 by omega,vh,show 65-(i+1)=64-i by omega]
def zrR{i:Nat}{tol:Int}(hi:i<=64)(ht:1<=tol/\tol<=256):
  (-65536<=16*(i:Int)*i/\16*(i:Int)*i<=65536)/\(-4194304<=16*(i:Int)*i*i/\16*(i:Int)*i*i<=4194304)/\
  (-268435456<=16*(i:Int)*i*i*i/\16*(i:Int)*i*i*i<=268435456)/\(-68719476736<=16*(i:Int)*i*i*i*tol/\16*(i:Int)*i*i*i*tol<=68719476736)/\
  (-17592186044416<=16*(i:Int)*i*i*i*tol*tol/\16*(i:Int)*i*i*i*tol*tol<=17592186044416):=by
 have h2:=jh (A:=1024) (B:=64) (a:=16*(i:Int)) (b:=i) oM oM;have h3:=jh (A:=65536) (B:=64) (a:=16*(i:Int)*i) (b:=i) oM oM;have h4:=jh (A:=4194304) (B:=64) (a:=16*(i:Int)*i*i) (b:=i) oM oM;have h5:=jh (A:=268435456) (B:=256) (a:=16*(i:Int)*i*i*i) (b:=tol) oM oM;have h6:=jh (A:=68719476736) (B:=256) (a:=16*(i:Int)*i*i*i*tol) (b:=tol) oM oM;omega
def ztB(c:Int×Int):SV:=.tup [i64 c.1,i64 c.2]
def zfZ{c:Int×Int}{a b:Int}(h:c=(a,b)):LE (.tup [i64 a,i64 b]) (ztB c):=by subst h;exact .refl
def zpA(need tol:Int)(l:LR)(hl:l.length<=4):CX 435 [i64 need,i64 tol,.sl ptE l] (ztB (jA need tol l)):=by
 refine zd func435 ?_;have bad:¬(1<=tol/\tol<=256)->jA need tol l=(0,2):=λh=>by unfold jA;rw[Xe h]
 refine⟨λa1=>zfZ (bad (λh=>by have a1:tol<1:=a1;omega)),λa1=>?_⟩;refine⟨λa2=>zfZ (bad (λh=>by have a2:256<tol:=a2;omega)),λa2=>?_⟩;have ht:1<=tol/\tol<=256:=⟨by have a1:¬tol<1:=a1;omega,by have a2:¬256<tol:=a2;omega⟩;intro hl2;refine⟨Nat,λi=>⟨[(0,i64 need),(1,i64 tol),(17,.sl ptE l),(18,i64 l.length),(19,i64 i)],[],0,46,0⟩,λi=>i<=l.length/\∀p∈l.take i,zm p,λi=>l.length-i,0,?_,?_,?_⟩
 ·exact⟨Xg _,λp hp=>by cases hp⟩
 ·exact zA []
 rintro i ⟨h1,h2⟩
 refine⟨λg:(i:Int)<l.length=>?_,λg:¬(i:Int)<l.length=>?_⟩
 ·refine wb λx(hx:l[i]?=some x)=>?_;refine wg (kC x)<|⟨λb=>?_,λb=>?_⟩
  ·refine zfZ ?_;unfold jA;rw[kD ht,Xe (λk=>b (k x (Xf hx)))]
  have b:=Xc.1 b;refine wa<|⟨i+1,⟨oM,λp hp=>?_⟩,zA [],oN⟩;rw[Xm,hx]at hp
  rcases Xr.1 hp with hp|hp
  ·exact h2 p hp
  simp at hp;rw[hp];exact b
 have hv:∀p∈l,zm p:=by rw[Xk oM]at h2;exact h2
 have e:jA need tol l=vh need tol 64 1:=by unfold jA;rw[kD ht,kD hv]
 refine⟨Nat,λi=>⟨[(0,i64 need),(1,i64 tol),(10,i64 i)],[],0,46,0⟩,λi=>1<=i/\i<=65/\vh need tol (65-i) i=vh need tol 64 1,λi=>65-i,1,?_,?_,?_⟩
 ·exact⟨dC,dC,rfl⟩
 ·exact zA []
 rintro i ⟨h3,h4,h5⟩
 refine⟨λg:(i:Int)<=64=>?_,λg:¬(i:Int)<=64=>?_⟩
 ·have ch:=zrR (i:=i) oM ht;have st:=zrQ (need:=need) (tol:=tol) (i:=i) oM;rw[h5]at st;(iterate 6 refine wa ?_);refine⟨λk:enough need tol i=>?_,λk:¬enough need tol i=>?_⟩
  ·exact zfZ (by rw[e,st,Xe k])
  refine wa ?_;refine⟨i+1,⟨oM,oM,by rw[st,Xb k]⟩,zA [],oN⟩
 have h6:i=65:=oM;subst h6;exact zfZ (by rw[e,←h5];rfl)
def zvv(a b c:Pt)(tol:Int)(ha:zm a)(hb:zm b)(hc:zm c):CX 379 [.agg (ptE a++ptE b++ptE c),i64 tol] (ztB (yU a b c tol)):=by
 refine zd func379<|zmS.data<|wc ?_;have r1:=zeZ ha hb hc;refine wg (zjL a b c ha hb hc)<|⟨Pt,ptE,[a,b,c],rfl,wb11 ?_⟩;exact wg (zpA (za2 a b c) tol [a,b,c] (by show 3<=4;decide))<|.refl
def zvw(a b c d:Pt)(tol:Int)(ha:zm a)(hb:zm b)(hc:zm c)(hd:zm d):CX 384 [.agg (ptE a++ptE b++ptE c++ptE d),i64 tol] (ztB (yV a b c d tol)):=by
 refine zd func384<|zmS.data<|wc ?_;have r1:=zeZ ha hb hc;refine wg (zjL a b c ha hb hc) ?_;have r2:=zeZ hb hc hd;refine wg (zjL b c d hb hc hd)<|Ar.fit (by show-9223372036854775808<=9*max (za2 a b c) (za2 b c d)/\9*max (za2 a b c) (za2 b c d)<=9223372036854775807;omega)<|⟨Pt,ptE,[a,b,c,d],rfl,wb11 ?_⟩;exact wg (zpA (9*max (za2 a b c) (za2 b c d)) tol [a,b,c,d] (by show 4<=4;decide))<|.refl
def zyp(a b:Int)(ha: -8796093022208<=a/\a<=8796093022208)(hb:0<b/\b<=1048576):CX 440 [i64 a,i64 b] (i64 (zfM a b)):=by
 have td:=tdm (m:=2*a+b) (n:=2*b) oM;have tr:=zrn (m:=2*a+b) (n:=2*b) oM ⟨oM,oM⟩;refine zd func440 ?_;(iterate 3 refine wa ?_);have e:zfM a b=(2*a+b)/(2*b):=rfl;have tr2:=tr.2 oM;have tr1:=tr.1;clear tr;refine Dv.any (by omega:2*b≠0)<|Ar.fit tr1<|Dv.any (by omega:2*b≠0)<|⟨λk=>?_,λk=>?_⟩
 ·have k:(2*a+b).tmod (2*b)<0:=k;exact Ar.fit (by unfold R64 at tr1;omega)<|zh (by rw[e];omega)
 have k:¬(2*a+b).tmod (2*b)<0:=k;exact zh (by rw[e];omega)
def zyq(l:LR)(i n:Int)(hl:l.length<=4):CX 438 [.sl ptE l,i64 i,i64 n] (pr (zve l i n)):=by
 refine zd func438 λhl1=>?_;refine⟨Nat,λk=>⟨[(1,i64 i),(2,i64 n),(9,.sl ptE l),(10,i64 l.length),(11,i64 k)],[],0,34,0⟩,λk=>k<=l.length/\∀p∈l.take k,zm p,λk=>l.length-k,0,?_,?_,?_⟩
 ·exact⟨Xg _,λp hp=>by cases hp⟩
 ·exact zA []
 rintro k ⟨h1,h2⟩
 refine⟨λg:(k:Int)<l.length=>?_,λg:¬(k:Int)<l.length=>?_⟩
 ·refine wb λx(hx:l[k]?=some x)=>?_;refine wg (kC x)<|⟨λb=>zc λq=>b (q.1 x (Xf hx)),λb=>?_⟩;have b:=Xc.1 b;refine wa<|⟨k+1,⟨oM,λp hp=>?_⟩,zA [],oN⟩;rw[Xm,hx]at hp
  rcases Xr.1 hp with hp|hp
  ·exact h2 p hp
  simp at hp;rw[hp];exact b
 have hv:∀p∈l,zm p:=by rw[Xk oM]at h2;exact h2
 refine⟨λh1=>?_,λh1=>zc (λk=>h1 k.2.1)⟩;refine⟨λh2=>?_,λh2=>zc (λk=>h2 k.2.2.1)⟩;refine⟨λh3=>?_,λh3=>zc (λk=>h3 k.2.2.2.1)⟩;exact zr ⟨λh4=>⟨hv,h1,h2,h3,h4⟩,λh=>h.2.2.2.2⟩
def zBp{k i n x y z:Int}(hk:0<=k/\k<=64)(hi:0<=i/\i<=64)(hn:1<=n/\n<=64)(hx: -1048576<=x/\x<=1048576)(hy: -1048576<=y/\y<=1048576)(hz: -1048576<=z/\z<=1048576):
  (-4096<=k*k/\k*k<=4096)/\(-4294967296<=k*k*x/\k*k*x<=4294967296)/\(-8192<=2*i*k/\2*i*k<=8192)/\(-8589934592<=2*i*k*y/\2*i*k*y<=8589934592)/\
  (-4096<=i*i/\i*i<=4096)/\(-4294967296<=i*i*z/\i*i*z<=4294967296)/\(0<n*n/\n*n<=4096):=by
 have h1:=jh (A:=64) (B:=64) (a:=k) (b:=k) oM oM;have h2:=jh (A:=4096) (B:=1048576) (a:=k*k) (b:=x) oM oM;have h3:=jh (A:=128) (B:=64) (a:=2*i) (b:=k) oM oM;have h4:=jh (A:=8192) (B:=1048576) (a:=2*i*k) (b:=y) oM oM;have h5:=jh (A:=64) (B:=64) (a:=i) (b:=i) oM oM;have h6:=jh (A:=4096) (B:=1048576) (a:=i*i) (b:=z) oM oM;have h7:=jh (A:=64) (B:=64) (a:=n) (b:=n) oM oM;have h8:=QW (show 0<n by omega) (show 0<n by omega);omega
def zBq{k i n x y z u:Int}(hk:0<=k/\k<=64)(hi:0<=i/\i<=64)(hn:1<=n/\n<=64)(hx: -1048576<=x/\x<=1048576)(hy: -1048576<=y/\y<=1048576)(hz: -1048576<=z/\z<=1048576)(hu: -1048576<=u/\u<=1048576):
  ((-4096<=k*k/\k*k<=4096)/\(-262144<=k*k*k/\k*k*k<=262144)/\(-274877906944<=k*k*k*x/\k*k*k*x<=274877906944))/\
  ((-12288<=3*i*k/\3*i*k<=12288)/\(-786432<=3*i*k*k/\3*i*k*k<=786432)/\(-824633720832<=3*i*k*k*y/\3*i*k*k*y<=824633720832))/\
  ((-12288<=3*i*i/\3*i*i<=12288)/\(-786432<=3*i*i*k/\3*i*i*k<=786432)/\(-824633720832<=3*i*i*k*z/\3*i*i*k*z<=824633720832))/\
  ((-4096<=i*i/\i*i<=4096)/\(-262144<=i*i*i/\i*i*i<=262144)/\(-274877906944<=i*i*i*u/\i*i*i*u<=274877906944))/\((0<n*n/\n*n<=4096)/\(0<n*n*n/\n*n*n<=262144)):=by
 have h1:=jh (A:=64) (B:=64) (a:=k) (b:=k) oM oM;have h2:=jh (A:=4096) (B:=64) (a:=k*k) (b:=k) oM oM;have h3:=jh (A:=262144) (B:=1048576) (a:=k*k*k) (b:=x) oM oM;have h4:=jh (A:=192) (B:=64) (a:=3*i) (b:=k) oM oM;have h5:=jh (A:=12288) (B:=64) (a:=3*i*k) (b:=k) oM oM;have h6:=jh (A:=786432) (B:=1048576) (a:=3*i*k*k) (b:=y) oM oM;have h7:=jh (A:=192) (B:=64) (a:=3*i) (b:=i) oM oM;have h8:=jh (A:=12288) (B:=64) (a:=3*i*i) (b:=k) oM oM
 have h9:=jh (A:=786432) (B:=1048576) (a:=3*i*i*k) (b:=z) oM oM;have i1:=jh (A:=64) (B:=64) (a:=i) (b:=i) oM oM;have i2:=jh (A:=4096) (B:=64) (a:=i*i) (b:=i) oM oM;have i3:=jh (A:=262144) (B:=1048576) (a:=i*i*i) (b:=u) oM oM;have n1:=jh (A:=64) (B:=64) (a:=n) (b:=n) oM oM;have n2:=jh (A:=4096) (B:=64) (a:=n*n) (b:=n) oM oM;have n3:=QW (show 0<n by omega) (show 0<n by omega);have n4:=QW n3 (show 0<n by omega);omega
def zlP(x y z k i n:Int)(hk:0<=k/\k<=64)(hi:0<=i/\i<=64)(hn:1<=n/\n<=64)(hx: -1048576<=x/\x<=1048576)(hy: -1048576<=y/\y<=1048576)(hz: -1048576<=z/\z<=1048576):
  CX 439 [i64 x,i64 y,i64 z,.ptr [i64 k],.ptr [i64 i],.ptr [i64 n]] (i64 (zfM (k*k*x+2*i*k*y+i*i*z) (n*n))):=by
 have t:=zBp hk hi hn hx hy hz;refine zd func439 ?_;(iterate 10 refine wa ?_);exact wg (zyp (k*k*x+2*i*k*y+i*i*z) (n*n) oM oM)<|.refl
def zvx{a b c:Pt}{i n:Int}(h:zve [a,b,c] i n):zaD a b c i n=⟨q1 i n a.x b.x c.x,q1 i n a.y b.y c.y⟩:=by
 unfold zaD;rw[kD h]
def zyr(a b c:Pt)(i n:Int):CX 383 [.agg (ptE a++ptE b++ptE c),i64 i,i64 n] (wk (zaD a b c i n)):=by
 refine zd func383<|zmS.data<|wc<|⟨Pt,ptE,[a,b,c],rfl,wb11 ?_⟩;refine wg (zyq [a,b,c] i n (by show 3<=4;decide))<|⟨λh=>?_,λh=>?_⟩
 ·refine zat (show SV.agg (ptE zp)=_ from ?_);unfold zaD;rw[Xe h]
 have h:=Xc.1 h;obtain⟨hv,n1,n2,i1,i2⟩:=h;have ha:=hv a sI;have hb:=hv b sI;have hc:=hv c sI;exact wa<|wc<|wg (zlP a.x b.x c.x (n-i) i n oM oM oM ha.1 hb.1 hc.1)<|wg (zlP a.y b.y c.y (n-i) i n oM oM oM ha.2 hb.2 hc.2)<|zat (Xj (λp=>SV.agg (ptE p)) (zvx ⟨hv,n1,n2,i1,i2⟩).symm)
def zlQ(x y z u k i n:Int)(hk:0<=k/\k<=64)(hi:0<=i/\i<=64)(hn:1<=n/\n<=64)(hx: -1048576<=x/\x<=1048576)(hy: -1048576<=y/\y<=1048576)(hz: -1048576<=z/\z<=1048576)(hu: -1048576<=u/\u<=1048576):
  CX 441 [i64 x,i64 y,i64 z,i64 u,.ptr [i64 k],.ptr [i64 i],.ptr [i64 n]] (i64 (zfM (k*k*k*x+3*i*k*k*y+3*i*i*k*z+i*i*i*u) (n*n*n))):=by
 have t:=zBq hk hi hn hx hy hz hu;refine zd func441 ?_;(iterate 19 refine wa ?_);exact wg (zyp (k*k*k*x+3*i*k*k*y+3*i*i*k*z+i*i*i*u) (n*n*n) oM oM)<|.refl
def zvy{a b c d:Pt}{i n:Int}(h:zve [a,b,c,d] i n):zaE a b c d i n=⟨c1 i n a.x b.x c.x d.x,c1 i n a.y b.y c.y d.y⟩:=by
 unfold zaE;rw[kD h]
def zys(a b c d:Pt)(i n:Int):CX 386 [.agg (ptE a++ptE b++ptE c++ptE d),i64 i,i64 n] (wk (zaE a b c d i n)):=by
 refine zd func386<|zmS.data<|wc<|⟨Pt,ptE,[a,b,c,d],rfl,wb11 ?_⟩;refine wg (zyq [a,b,c,d] i n (by show 4<=4;decide))<|⟨λh=>?_,λh=>?_⟩
 ·refine zat (show SV.agg (ptE zp)=_ from ?_);unfold zaE;rw[Xe h]
 have h:=Xc.1 h;obtain⟨hv,n1,n2,i1,i2⟩:=h;have ha:=hv a sI;have hb:=hv b sI;have hc:=hv c sI;have hd:=hv d sI;exact wa<|wc<|wg (zlQ a.x b.x c.x d.x (n-i) i n oM oM oM ha.1 hb.1 hc.1 hd.1)<|wg (zlQ a.y b.y c.y d.y (n-i) i n oM oM oM ha.2 hb.2 hc.2 hd.2)<|zat (Xj (λp=>SV.agg (ptE p)) (zvy ⟨hv,n1,n2,i1,i2⟩).symm)
def zf0(prev:SV->SV)(lm:LH):SV->SV
 |.loc k off=>(match lm k with
  |some (.box _ cs)=>.dptr ((cs.map prev).drop off)
  |_=>.junk)
 |.own k=>(match lm k with
  |some (.arr _ enc _ xs)=>.sl enc xs
  |_=>.junk)
 |.fn f cs=>.dfn f (frzs prev lm cs)
 |.agg cs=>.agg (frzs prev lm cs)
 |.ifc t s=>.ifc t (zf0 prev lm s)
 |.val v=>.val v
 |.pr p i=>.pr p i
 |.sl enc xs=>.sl enc xs
 |.dptr cs=>.dptr cs
 |.dfn f cs=>.dfn f cs
 |.bm f cs=>.bm f cs
 |.op v=>.op v
 |.nils=>.nils
 |.anyb=>.anyb
 |.full enc xs=>.full enc xs
 |_=>.junk
 where
 frzs (prev:SV->SV) (lm:LH):LQ->LQ
  |[]=>[]
  |c::cs=>zf0 prev lm c::frzs prev lm cs
def frz(lm:LH):Nat->SV->SV
 |0=>zf0 (λ_=>.junk) lm
 |n+1=>zf0 (frz lm n) lm
def zh2(lm:LH)(n:Nat)(s:SV):SV:=
 match s with
 |.tup cs=>.tup (cs.map (frz lm n))
 |s=>frz lm n s
def zjM(prev:SV->SV)(lm:LH):∀cs,zf0.frzs prev lm cs=cs.map (zf0 prev lm)
 |[]=>rfl
 |c::cs=>by rw[zf0.frzs,zjM prev lm cs];rfl
section
variable{Keep:LG}{M:LT}{ρ:ze}{w:World}{lm:LH}
def zyt(hlm:∀k m,lm k=some m->(k,m)∈M)(hm:zB Keep M ρ w){prev:SV->SV}(hp:∀{s:SV} {v:Value},G (λb=>Keep b∨Own M ρ b) (Own M ρ) ρ w s v->D Keep w (prev s) v):
  ∀(s:SV) {v:Value},G (λb=>Keep b∨Own M ρ b) (Own M ρ) ρ w s v->D Keep w (zf0 prev lm s) v:=by
 have hsub:∀b,Keep b->Keep b∨Own M ρ b:=λb h=>.inl h
 intro s
 induction s using SV.rec (motive_2:=λcs=>∀{vs:LZ},Gs (λb=>Keep b∨Own M ρ b) (Own M ρ) ρ w cs vs->∀(j:Nat) (s:SV) (v:Value),(zf0.frzs prev lm cs)[j]?=some s->vs[j]?=some v->D Keep w s v) with
 |val v=>intro u hg;rw[hg.val_inv];exact .val v
 |pr p i=>intro u hg;rw[hg.pr_inv];exact .pr p i
 |sl enc xs=>intro u hg;exact hg.sl_inv.less hsub
 |nils=>intro u hg;obtain⟨a,rfl⟩:=hg.nils_inv;exact .nils a
 |anyb=>intro u hg;obtain⟨b,rfl⟩:=hg.anyb_inv;exact .anyb b
 |full enc xs=>intro u hg;obtain⟨a,rfl,hd⟩:=hg.full_inv;exact .full enc xs a (hd.less hsub)
 |dptr cs _=>intro u hg;cases hg with|d _ _ h=>exact h.less hsub
 |dfn f cs _=>intro u hg;cases hg with|d _ _ h=>exact h.less hsub
 |bm f cs _=>intro u hg;cases hg with|d _ _ h=>exact h.less hsub
 |op v=>intro u hg;cases hg with|d _ _ h=>exact h.less hsub
 |ifc t s ih=>
  intro u hg;obtain⟨v,rfl,hv⟩:=hg.ifc_inv;exact .ifc t _ v (ih hv)
 |agg cs ih=>
  intro u hg;obtain⟨vs,rfl,hvs⟩:=hg.agg_inv;exact .agg _ vs (by rw[zjM,Xz];exact hvs.1) (ih hvs)
 |fn f cs ih=>
  intro u hg;obtain⟨vs,rfl,hvs⟩:=hg.fn_inv;exact .dfn f _ vs (by rw[zjM,Xz];exact hvs.1) (ih hvs)
 |loc k off=>
  intro u hg;obtain⟨b,hρ,rfl⟩:=hg.loc_inv;simp only[zf0]
  split
  ·rename_i T cs hk;have hmem:=hlm k _ hk;obtain⟨b',vs,h1,h2,h3,h4,h5⟩:=hm.rel k _ hmem;rw[hρ]at h1;cases h1
   have hb:=hm.old b ⟨k,_,_,hmem,hρ,rfl⟩;refine .dptr _ b off (λj=>(vs[off+j]?).getD undef) hb.1 hb.2 (λj hj=>?_) (λj s hs=>?_)
   ·have hj':off+j<vs.length:=by simp at hj;omega
    rw[zbm h2];simp only[Xa hj',KS];exact⟨tV,h4 _ (X5 hj')⟩
   rw[KD,XA]at hs
   cases hc:cs[off+j]? with
   |none=>simp[hc]at hs
   |some c=>
    simp[hc]at hs;subst hs;have hj':off+j<vs.length:=by have:=(Xd.1 hc).1;omega
    rw[Xa hj',KS];exact hp (h5 _ c _ hc (Xa hj'))
  exact .junk _
 |own k=>
  intro u hg;obtain⟨hρ,h1⟩:=hg.own_inv;simp only[zf0]
  split
  ·rename_i T α enc sz xs hk;have hmem:=hlm k _ hk;exact zej hm hmem (λb hb=>.inl hb) (λv b hv hb hk=>(hm.old b ⟨k,_,v,hmem,hv,hb⟩).2 hk) hρ
  exact .junk _
 |ptr cs _=>intro u _;exact .junk _
 |eloc _ _ _ _=>intro u _;exact .junk _
 |win _ _ _ _=>intro u _;exact .junk _
 |tup cs _=>intro u _;exact .junk _
 |junk=>intro u _;exact .junk _
 |nil=>rename_i vs _ j s v h _;simp[zf0.frzs]at h
 |cons c cs ihc ihcs=>
  rename_i vs hg j s v h hv;obtain⟨v0,vs',rfl,h1,h2⟩:=hg.cons_inv
  cases j with
  |zero=>simp[zf0.frzs]at h hv;subst h;subst hv;exact ihc h1
  |succ j=>exact ihcs h2 j s v (by simpa[zf0.frzs] using h) (by simpa using hv)
def zlR(hlm:∀k m,lm k=some m->(k,m)∈M)(hm:zB Keep M ρ w):∀(n:Nat) {s:SV} {v:Value},G (λb=>Keep b∨Own M ρ b) (Own M ρ) ρ w s v->D Keep w (frz lm n s) v
 |0,s,_,h=>zyt hlm hm (λ_=>.junk _) s h
 |n+1,s,_,h=>zyt hlm hm (λh=>zlR hlm hm n h) s h
end
section
def endF(n:Nat)(Γ:LS)(rs:List ResultVar)(r:SV)(e:Ex)(σ:St):Prop:=
 match e with
 |.exit _=>False
 |_=>zal σ Γ rs λs=>LE (zh2 (zH σ.M) n s) r
variable{P:Program}{Γ:LS}{f:FuncId}{fn:Func}{c:Code}{r:SV}
def yp(n:Nat)(hT:TOK P Γ)(hm:P.follows .mixedOrders=true){args:LQ}(hf:P.funcs[f]?=some fn)(hb:fn.body=some c)(hn:(fn.name== "runtime.NumGoroutine")=false) (hle:Nat.ble args.length fn.ntmps=true)
  (h:qS P Γ c ⟨qI 0 args,[],0,fn.ntmps,0⟩ (endF n Γ fn.results.toList r)):kK P f args [] r []:=by
 refine u5 hT hm hf hb hn hle h (λe σ h=>⟨σ,.refl,h⟩) (λe σ hq he=>?_) (λid σ hq=>hq)
 have hq:zal σ Γ fn.results.toList λs=>LE (zh2 (zH σ.M) n s) r:=by
  cases e with
  |exit id=>exact absurd rfl (he id)
  |normal=>exact hq
  |ret=>exact hq
 obtain⟨s,hle,h1⟩:=jb hT hq;refine⟨s,h1,λ{E ρ a w v} hr hW _ hg=>⟨ρ,?_,?_,?_⟩⟩
 ·have hs:=hr.stp;exact⟨hs.os,hs.tape,hs.output,hs.size,λb hb hn=>hs.block b hb λh=>hn ((hW b).1 h),λb hb=>absurd hb zF,hs.rho⟩
 ·exact(kS hr.mem.kp λ_ _ h=>hr.mem.glc h)
 have hd:∀{s:SV} {v:Value},G (λb=>E.Keep b∨Own σ.M ρ b) (Own σ.M ρ) ρ w s v->D (λb=>E.Keep b∨Own [] ρ b) w (frz (zH σ.M) n s) v:=λh=>
  (zlR (λk m h=>zn h) hr.mem n h).less λb hb=>hb.resolve_right zF
 refine hle _ _ _ _ _ ?_;unfold zh2
 split
 ·rename_i cs;obtain⟨vs,rfl,hvs⟩:=hg.tup_inv;refine .tup _ vs (by rw[Xz];exact hvs.1) λj s v hs hv=>?_
  rw[XA]at hs
  cases hc:cs[j]? with
  |none=>simp[hc]at hs
  |some c=>
   simp[hc]at hs;subst hs;exact .d _ _ (hd (hvs.2 j c v hc hv))
 exact .d _ _ (hd hg)
def zhK(n:Nat)(hT:TOK P Γ)(hm:P.follows .mixedOrders=true){args:LQ}{M:LT}(hf:P.funcs[f]?=some fn)(hb:fn.body=some c)(hn:(fn.name== "runtime.NumGoroutine")=false) (hle:Nat.ble args.length fn.ntmps=true)
  (h:qS P Γ c ⟨qI 0 args,M,M.length,fn.ntmps,M.length⟩ (endF n Γ fn.results.toList r)):kK P f args M r []:=by
 refine u5 hT hm hf hb hn hle h (λe σ h=>⟨σ,.refl,h⟩) (λe σ hq he=>?_) (λid σ hq=>hq)
 have hq:zal σ Γ fn.results.toList λs=>LE (zh2 (zH σ.M) n s) r:=by
  cases e with
  |exit id=>exact absurd rfl (he id)
  |normal=>exact hq
  |ret=>exact hq
 obtain⟨s,hle,h1⟩:=jb hT hq;refine⟨s,h1,λ{E ρ a w v} hr hW _ hg=>⟨ρ,?_,?_,?_⟩⟩
 ·have hs:=hr.stp;exact⟨hs.os,hs.tape,hs.output,hs.size,λb hb hn=>hs.block b hb λh=>hn ((hW b).1 h),λb hb=>absurd hb zF,hs.rho⟩
 ·exact(kS hr.mem.kp λ_ _ h=>hr.mem.glc h)
 have hd:∀{s:SV} {v:Value},G (λb=>E.Keep b∨Own σ.M ρ b) (Own σ.M ρ) ρ w s v->D (λb=>E.Keep b∨Own [] ρ b) w (frz (zH σ.M) n s) v:=λh=>
  (zlR (λk m h=>zn h) hr.mem n h).less λb hb=>hb.resolve_right zF
 refine hle _ _ _ _ _ ?_;unfold zh2
 split
 ·rename_i cs;obtain⟨vs,rfl,hvs⟩:=hg.tup_inv;refine .tup _ vs (by rw[Xz];exact hvs.1) λj s v hs hv=>?_
  rw[XA]at hs
  cases hc:cs[j]? with
  |none=>simp[hc]at hs
  |some c=>
   simp[hc]at hs;subst hs;exact .d _ _ (hd (hvs.2 j c v hc hv))
 exact .d _ _ (hd hg)
structure jE (F:Fence):Prop where
 fn:∀f,F.fn f
 depth:F.depth=none
 alive:F.alive=false
def jE.wide:jE Fence.wide:=⟨λ_=>trivial,rfl,rfl⟩
def jE.inRound{F:Fence}(h:jE F)(l:Nat):jE (F.inRound l):=⟨h.fn,h.depth,h.alive⟩
def jE.room{F:Fence}(h:jE F)(n:Nat):F.room n:=λd hd=>by rw[h.depth]at hd;cases hd
def jE.fenced{F:Fence}(h:jE F)(P:Program)(m:Machine):m.fenced P F:=by
 intro g _;exact⟨λha=>(by rw[h.alive]at ha;cases ha),.inl (h.fn _),λf _=>h.fn f,h.room _⟩
variable{F:Fence}{m:Machine}{m':Machine}
def jE.steps(h:jE F)(hs:Steps P m m'):StepsIn (Machine.fenced P F) P m m':=
 (StepsIn.of_steps hs).mono λm _=>h.fenced P m
def jE.comes(h:jE F){e:Ending}(hs:Comes P m m' e):ComesIn (Machine.fenced P F) P m m' e:=by
 cases e with
 |returned v=>exact h.steps hs
 |panicked c=>exact h.steps hs
 |outgrown=>exact hs
def jE.calls(h:jE F){n:Nat}{args:Array Value}{w:World}{R:Ending->World->Prop}(hc:Calls P f args w R):CallsIn F n P f args w R:=
 ⟨h.fn f,λcs _=>let ⟨e,w',fr,r,s,x⟩:=hc cs;⟨e,w',fr,r,h.comes s,x⟩⟩
def jE.rows(h:jE F){n:Nat}{row:String}{args:Array Value}{w:World}{R:Value->World->Prop}(hc:Go.Rows P row args w R):RowsIn F n P row args w R:=
 λc cs _=>let ⟨v,w',r,s⟩:=hc c cs;⟨v,w',r,h.steps s⟩
def jE.need(h:jE F){n:Nat}:F.depth.isSome=true->1<=n:=λhd=>by rw[h.depth]at hd;cases hd
variable{a:Act}{Q:LC}
def jE.op(h:jE F){n:Nat}{o:Oper}{w:World}{K:LD}(hd:∀c,o.op≠.defer c)(hw:o.wp P a w K Q):o.wpIn F n P a w K Q:=by
 refine⟨λf _=>h.fn f,?_⟩;rw[Oper.semAt_eq _ _ _ hd];unfold Oper.wp at hw;generalize (execOp a.eval o).run P w=r at*
 cases r with
 |ok x w'=>
  cases x <;> simp only[Oper.upon,Oper.uponIn]at hw ⊢
  case value=>exact hw
  case skip=>exact hw
  case defer=>exact hw
  case enter=>exact⟨h.need,(h.calls hw).mono λe w'' he=>by cases e <;> exact he⟩
  case row=>exact⟨h.need,h.rows hw⟩
 |halt x w'=>cases x <;> simp only[Oper.upon,Oper.uponIn]at hw ⊢;exact hw
def zpB(o:Oper):Bool:=match o.op with|.defer _=>false|_=>true
def ze0{o:Oper}(h:zpB o=true):∀c,o.op≠.defer c:=λc e=>by unfold zpB at h;rw[e]at h;cases h
def yf(l:List Oper):Bool:=l.all zpB
def zjN{l:List Oper}(h:yf l=true){o:Oper}(ho:o∈l):∀c,o.op≠.defer c:=ze0 (XV.1 h o ho)
def jE.list{F:Fence}(h:jE F){n:Nat}{P:Program}{ops:Array Oper}{Q:LC}(hQ:∀a w,¬Q .outgrown a w):∀{l:List Oper} {a:Act} {w:World},yf l=true->
  wpList P ops Q l a w->wpListIn F n P ops Q l a w
 |[],_,_,_,hw=>hw
 |o::r,a,w,hd,hw=>by
  have hd':zpB o=true/\yf r=true:=by unfold yf at hd ⊢;rw[YF,XC]at hd;exact hd
  unfold wpList at hw;unfold wpListIn
  split
  ·rename_i hwt;rw[Xe hwt]at hw;have hw:=hw.resolve_right λk=>by obtain⟨_,a',w',k⟩:=k;exact hQ _ _ k
   exact h.op (ze0 hd'.1) (Oper.wp_mono (λa w hk=>h.list hQ hd'.2 hk) hw)
  rename_i hwt;rw[Xb hwt]at hw;exact⟨λf _=>h.fn f,h.list hQ hd'.2 hw⟩
def jE.any{F:Fence}(h:jE F){n:Nat}{P:Program}{md:Region.Mode}{ops:Array Oper}{Q:LC}(hQ:∀a w,¬Q .outgrown a w)(hd:yf ops.toList=true):
  ∀{fuel:Nat} {listed:Array Bool} {a:Act} {w:World},wpAny P md ops Q fuel listed a w->wpAnyIn F n P md ops Q fuel listed a w
 |0,_,_,_,hw=>hw
 |fuel+1,listed,a,w,hw=>by
  refine⟨hw.1,λi hi=>?_⟩;have:=hw.2 i hi;unfold wpOp at this;unfold wpOpIn
  cases ho:ops[i]? with
  |none=>rw[ho]at this;exact h.any hQ hd this
  |some o=>
   rw[ho]at this;dsimp only at this ⊢;have hdo:=zjN hd (o:=o) (by rw[Array.mem_toList_iff];exact Array.mem_of_getElem? ho)
   split
   ·rename_i hwt;rw[Xe hwt]at this;have:=this.resolve_right λk=>by obtain⟨_,a',w',k⟩:=k;exact hQ _ _ k
    exact h.op hdo (Oper.wp_mono (λa w hk=>h.any hQ hd hk) this)
   rename_i hwt;rw[Xb hwt]at this;exact⟨λf _=>h.fn f,h.any hQ hd this⟩
def uj:Code->Bool
 |.region _ ops _=>yf ops.toList
 |.seq x y=>uj x&&uj y
 |.cond _ x y=>uj x&&uj y
 |.block _ c=>uj c
 |.loop c=>uj c
 |.scope _=>false
 |_=>true
variable{E:Env}
def uc.grown{Q:LF}(a:Act)(w:World):¬uc E Q .outgrown a w:=λh=>h
def zlS(hF:jE F){n:Nat}(hT:TOK P Γ)(hm:P.follows .mixedOrders=true){id:Nat}{ops:Array Oper}{draw:Bool}{σ:St}{Q:LF}{ρ:ze}{w:World}(hd:yf ops.toList=true)(hr:Rel E σ ρ a w)(h:qS P Γ (.region id ops draw) σ Q):(Code.region id ops draw).wpIn F n P (uc E Q) a w:=by
 cases draw with
 |false=>
  have h:uu P Γ false ops.toList ops.toList 0 σ (Q .normal):=h;refine wpIn_region_list (hF.list uc.grown hd ?_);have:=zib (Q:=uc E Q) hT (λσ ρ a w h hr=>⟨σ,ρ,h,hr⟩) hr h
  simpa using this
 |true=>
  have h:Dr (uD ops.toList=true) (uu P Γ true ops.toList ops.toList 0 σ (Q .normal)) (Ob (zeM ops.toList=true) (zak P Γ ops.toList ops.toList 0 [] σ (Q .normal))):=h;refine wpIn_region_any hm (hF.any uc.grown hd ?_)
  obtain⟨h1,h2⟩|⟨h1,h2⟩:=h
  ·exact zcV hT hr h1 h2 λσ ρ a w h hr=>⟨σ,ρ,h,hr⟩
  exact zfA hT hr h1 h2 λσ ρ a w h hr=>⟨σ,ρ,h,hr⟩
def vR{n:Nat}{w:World}(I:Nat->LD)(n₀:Nat)(h₀:I n₀ a w)(round:∀m a w,I m a w->c.wpIn F n P (Exit.then (λa' w'=>∃m',m'<m/\I m' a' w') Q) a w):(Code.loop c).wpIn F n P Q a w:=by
 refine wpIn_loop (λa w=>∃m,I m a w) (λa w=>leastOf (λm=>I m a w)) ⟨n₀,h₀⟩ λa w hI=>wpIn_mono (round _ a w (leastOf_spec hI).1) λe a' w' hq=>?_
 cases e with
 |normal=>
  obtain⟨m',hlt,hI'⟩:=hq;exact show(∃m,I m a' w')/\leastOf (λm=>I m a' w')<leastOf (λm=>I m a w) from⟨⟨m',hI'⟩,Qo ((leastOf_spec ⟨m',hI'⟩).2 m' hI') hlt⟩
 |exit id=>exact hq
 |goto l=>exact hq
 |ret=>exact hq
 |panic ch=>exact hq
 |outgrown=>exact hq
def y7{F:Fence}(hF:jE F){n:Nat}{P:Program}{Γ:LS}(hT:TOK P Γ)(hm:P.follows .mixedOrders=true){E:Env}:∀(c:Code) {σ:St} {Q:LF} {ρ:ze} {a:Act} {w:World},
  uj c=true->Rel E σ ρ a w->qS P Γ c σ Q->c.wpIn F n P (uc E Q) a w
 |.skip,σ,Q,ρ,a,w,_,hr,h=>wpIn_skip ⟨σ,ρ,h,hr⟩
 |.region id ops draw,σ,Q,ρ,a,w,hd,hr,h=>zlS hF hT hm hd hr h
 |.seq x y,σ,Q,ρ,a,w,hd,hr,h=>by
  have hd:uj x=true/\uj y=true:=by unfold uj at hd;rwa [XC]at hd
  refine wpIn_seq (wpIn_mono (y7 hF hT hm x hd.1 hr h) (λe a' w' hq=>?_))
  cases e with
  |normal=>obtain⟨σ',ρ',h',hr'⟩:=hq;exact y7 hF hT hm y hd.2 hr' h'
  |exit id=>exact hq
  |ret=>exact hq
  |_=>exact hq.elim
 |.cond c x y,σ,Q,ρ,a,w,hd,hr,h=>by
  have hd:uj x=true/\uj y=true:=by unfold uj at hd;rwa [XC]at hd
  obtain⟨s,h,hs⟩:=zbU h;have hg:=hs (a:=a) (λt s _ hl=>(hr.regs t s hl).2)
  split at h
  ·exact wpIn_cond_true hg.val_inv (y7 hF hT hm x hd.1 hr h)
  ·exact wpIn_cond_false hg.val_inv (y7 hF hT hm y hd.2 hr h)
  ·rename_i p i
   by_cases hp:p
   ·exact wpIn_cond_true (by rw[hg.pr_inv];simp[hp]) (y7 hF hT hm x hd.1 hr (h.yes hp))
   exact wpIn_cond_false (by rw[hg.pr_inv];simp[hp]) (y7 hF hT hm y hd.2 hr (h.no hp))
  ·obtain⟨b,hb⟩:=hg.anyb_inv
   cases b with
   |true=>exact wpIn_cond_true hb (y7 hF hT hm x hd.1 hr h.yes)
   |false=>exact wpIn_cond_false hb (y7 hF hT hm y hd.2 hr h.no)
  exact h.elim
 |.block id c,σ,Q,ρ,a,w,hd,hr,h=>by
  refine wpIn_block (wpIn_mono (y7 hF hT hm c hd hr h) (λe a' w' hq=>?_))
  cases e with
  |normal=>exact hq
  |exit j=>
   obtain⟨σ',ρ',h',hr'⟩:=hq;dsimp only at h';show(if j=id then uc E Q .normal a' w' else uc E Q (.exit j) a' w')
   split at h'
   ·rename_i hb;rw[Xe (Xh hb)];exact⟨σ',ρ',h',hr'⟩
   rename_i hb;rw[Xb (KO hb)];exact⟨σ',ρ',h',hr'⟩
  |ret=>exact hq
  |_=>exact hq.elim
 |.loop c,σ,Q,ρ,a,w,hd,hr,h=>by
  obtain⟨ι,S,I,μ,x0,h0,hsub,hround⟩:=h;obtain⟨ρ0,hr0⟩:=hsub E ρ a w hr;refine vR (λn a w=>∃x ρ,I x/\μ x=n/\Rel E (S x) ρ a w) (μ x0) ⟨x0,ρ0,h0,rfl,hr0⟩ λn a w hI=>?_
  obtain⟨x,ρ1,h1,rfl,hr1⟩:=hI;refine wpIn_mono (y7 hF hT hm c hd hr1 (hround x h1)) (λe a' w' hq=>?_)
  cases e with
  |normal=>
   obtain⟨σ',ρ',⟨x',h2,hs2,hlt⟩,hr'⟩:=hq;obtain⟨ρ2,hr2⟩:=hs2 E ρ' a' w' hr';exact⟨μ x',hlt,x',ρ2,h2,rfl,hr2⟩
  |exit id=>exact hq
  |ret=>exact hq
  |_=>exact hq.elim
 |.exit id,σ,Q,ρ,a,w,_,hr,h=>wpIn_exit ⟨σ,ρ,h,hr⟩
 |.ret,σ,Q,ρ,a,w,_,hr,h=>wpIn_ret ⟨σ,ρ,h,hr⟩
 |.rangeFunc _ _ _ _,_,_,_,_,_,_,_,h=>by cases h
 |.scope _,_,_,_,_,_,hd,_,_=>by cases hd
 |.label _,σ,Q,ρ,a,w,_,hr,h=>wpIn_label ⟨σ,ρ,h,hr⟩
 |.goto _,_,_,_,_,_,_,_,h=>by cases h
 |.refuse _,_,_,_,_,_,_,_,h=>by cases h
end
section put
variable{w:World}{l:Nat}{o o':Obj}
def zf1(hl:w.heap[l]?=some o)(ho:o.isCells=false){a:Addr}{v:Value}(h:w.cell? a=some v):(w.putObj l o').cell? a=some v:=by
 obtain⟨o2,h2,hc⟩:=cells_of_cell h
 have hne:a.block≠l:=by
  intro e;rw[e,hl]at h2
  cases h2
  rw[ho]at hc;cases hc
 exact(World.cell?_of_block (World.putObj_heap_other hne)).trans h
def kr.put(hl:w.heap[l]?=some o)(ho:o.isCells=false)(ho':o'.isCells=false):kr w (w.putObj l o'):=⟨rfl,λa=>by
 unfold World.frozen?
 by_cases e:a.block=l
 ·have hlt:=(X1.1 hl).1;rw[e,hl,World.putObj_heap_same hlt]
  cases o <;> cases o' <;> first|rfl|(cases ho;done)|(cases ho';done)
 rw[World.putObj_heap_other e]⟩
def D.put(hl:w.heap[l]?=some o)(ho:o.isCells=false){S:LG}{s:SV}{v:Value}(h:D S w s v):D S (w.putObj l o') s v:=by
 induction h with
 |val v=>exact .val v
 |pr p i=>exact .pr p i
 |agg cs vs hl h ih=>exact .agg cs vs hl ih
 |nil enc a=>exact .nil enc a
 |nils a=>exact .nils a
 |anyb b=>exact .anyb b
 |junk v=>exact .junk v
 |full enc xs a h ih=>exact .full enc xs a ih
 |sl enc xs sz b o cap c hb hS' hlen hcap hsz hc h ih=>
  exact .sl enc xs sz b o cap c (by rw[World.putObj_size];exact hb) hS' hlen hcap hsz (λi j hi hj=>⟨zf1 hl ho (hc i j hi hj).1,(hc i j hi hj).2⟩) ih
 |dptr cs b o c hb hS' hc h ih=>
  exact .dptr cs b o c (by rw[World.putObj_size];exact hb) hS' (λj hj=>⟨zf1 hl ho (hc j hj).1,(hc j hj).2⟩) ih
 |dfn f cs vs hl h ih=>exact .dfn f cs vs hl ih
 |bm f cs vs hl h ih=>exact .bm f cs vs hl ih
 |op v h=>exact .op v h
 |ifc t s v h ih=>exact .ifc t s v ih
def G.put(hl:w.heap[l]?=some o)(ho:o.isCells=false){S Pm:LG}{ρ:ze}{s:SV}{v:Value}(h:G S Pm ρ w s v):G S Pm ρ (w.putObj l o') s v:=by
 induction h with
 |d s v h=>exact .d s v (h.put hl ho)
 |loc k off b h=>exact .loc k off b h
 |own k v h h1=>exact .own k v h h1
 |eloc k sz i off b len cap h=>exact .eloc k sz i off b len cap h
 |win k sz lo n b len cap cap' h h1 h2=>exact .win k sz lo n b len cap cap' h h1 h2
 |ptr cs b o c hb hP' hc h=>
  exact .ptr cs b o c (by rw[World.putObj_size];exact hb) hP' (λj hj=>⟨zf1 hl ho (hc j hj).1,(hc j hj).2⟩) (λj s hs=>(h j s hs).put hl ho)
 |agg cs vs hl h ih=>exact .agg cs vs hl ih
 |tup cs vs hl h ih=>exact .tup cs vs hl ih
 |fn f cs vs hl h ih=>exact .fn f cs vs hl ih
 |ifc t s v h ih=>exact .ifc t s v ih
def je.put(hl:w.heap[l]?=some o)(ho:o.isCells=false)(hm:∀es c,o≠.map es c){S Pm:LG}{ρ:ze}{k:Nat}{m:Mem}(h:je S Pm ρ w k m):je S Pm ρ (w.putObj l o') k m:=by
 cases m with
 |box T cs=>
  obtain⟨b,vs,h1,h2,h3,h4,h5⟩:=h;refine⟨b,vs,h1,(World.putObj_heap_other λe=>?_).trans h2,h3,h4,λj s v hs' hv=>(h5 j s v hs' hv).put hl ho⟩;rw[e,hl]at h2;cases h2;cases ho
 |arr T enc sz xs=>
  obtain⟨v,cells,h1,h2,h3,h4,h5,h6⟩:=h;refine⟨v,cells,h1,ownsRow_putObj h2 o' hl ho,h3,h4,h5,λi j x s hx hj=>?_⟩;obtain⟨u,hu,hd⟩:=h6 i j x s hx hj;exact⟨u,hu,hd.put hl ho⟩
 |garr T sz xs=>
  obtain⟨v,cells,h1,h2,h3,h4,h5,h6⟩:=h;refine⟨v,cells,h1,ownsRow_putObj h2 o' hl ho,h3,h4,h5,λi j x s hx hj=>?_⟩;obtain⟨u,hu,hd⟩:=h6 i j x s hx hj;exact⟨u,hu,hd.put hl ho⟩
 |map es=>
  obtain⟨r,ents,clock,h1,h2,h3,h4⟩:=h;refine⟨r,ents,clock,h1,(World.putObj_heap_other λe=>?_).trans h2,h3,λi n s hi=>?_⟩
  ·rw[e,hl]at h2;cases h2;exact hm _ _ rfl
  obtain⟨e,g1,g2,g3⟩:=h4 i n s hi;exact⟨e,g1,g2,g3.put hl ho⟩
def zB.put(hl:w.heap[l]?=some o)(ho:o.isCells=false)(hm:∀es c,o≠.map es c){Keep:LG}{M:LT}{ρ:ze}(h:zB Keep M ρ w):zB Keep M ρ (w.putObj l o'):=
 ⟨λk m hk=>(h.rel k m hk).put hl ho hm,h.keys,h.apart,λb hb=>⟨by rw[World.putObj_size];exact(h.old b hb).1,(h.old b hb).2⟩,λb hb=>by rw[World.putObj_size];exact h.kp b hb,λg v hg=>by
  obtain⟨h1,h2⟩:=h.gl g v hg;refine⟨h1,(zeE (World.putObj_heap_other λe=>?_)).trans h2⟩;subst e
  cases o <;> simp[World.cell?,hl,Obj.isCells]at h2 ho⟩
def Rel.cut{E:Env}{σ:St}{ρ:ze}{a:Act}{w:World}(h:Rel E σ ρ a w):Rel ⟨w,E.ρ0,E.Keep,Own σ.M ρ,E.ds⟩ σ ρ a w:=
 ⟨h.size,h.defers,h.regs,h.mem,h.fresh,⟨rfl,rfl,.refl _,Xi _,λ_ _ _=>rfl,λ_ h=>.inl h,h.stp.rho⟩,h.mem.kp,h.low⟩
def Rel.put(hl:w.heap[l]?=some o)(ho:o.isCells=false)(hm:∀es c,o≠.map es c){E:Env}{σ:St}{ρ:ze}{a:Act}(h:Rel E σ ρ a w):
  Rel ⟨w.putObj l o',E.ρ0,E.Keep,Own σ.M ρ,E.ds⟩ σ ρ a (w.putObj l o'):=
 ⟨h.size,h.defers,λt s hl'=>⟨(h.regs t s hl').1,(h.regs t s hl').2.put hl ho⟩,h.mem.put hl ho hm,h.fresh,
  ⟨rfl,rfl,.refl _,Xi _,λ_ _ _=>rfl,λ_ h=>.inl h,h.stp.rho⟩,λb hb=>by rw[World.putObj_size];exact h.mem.kp b hb,h.low⟩
end put
section
def pfS:SV->Bool
 |.ptr _=>false
 |.agg cs=>pfs cs
 |.tup cs=>pfs cs
 |.fn _ cs=>pfs cs
 |.ifc _ s=>pfS s
 |_=>true
 where
 pfs:LQ->Bool
  |[]=>true
  |c::cs=>match pfS c with
   |true=>pfs cs
   |false=>false
def zd0:∀{cs:LQ},pfS.pfs cs=true->∀(j:Nat) (s:SV),cs[j]?=some s->pfS s=true
 |[],_,j,s,hj=>by simp at hj
 |c::cs,h,j,s,hj=>by
  unfold pfS.pfs at h
  split at h
  ·rename_i hc
   cases j with
   |zero=>cases hj;exact hc
   |succ j=>exact zd0 h j s (by simpa using hj)
  cases h
def G.pf{S S' Pm Pm':LG}{ρ:ze}{w w':World}(hz:w.heap.size<=w'.heap.size)(hS:∀b,b<w.heap.size->¬S b->¬S' b/\w'.heap[b]?=w.heap[b]?){s:SV}{v:Value}(h:G S Pm ρ w s v)(hp:pfS s=true):G S' Pm' ρ w' s v:=by
 induction h with
 |d s v h=>exact .d s v (h.mono hz hS)
 |loc k off b h=>exact .loc k off b h
 |own k v h h1=>exact .own k v h h1
 |eloc k sz i off b len cap h=>exact .eloc k sz i off b len cap h
 |win k sz lo n b len cap cap' h h1 h2=>exact .win k sz lo n b len cap cap' h h1 h2
 |ptr cs b o c hb hP' hc h=>cases hp
 |agg cs vs hl h ih=>exact .agg cs vs hl λj s v hs hv=>ih j s v hs hv (zd0 hp j s hs)
 |tup cs vs hl h ih=>exact .tup cs vs hl λj s v hs hv=>ih j s v hs hv (zd0 hp j s hs)
 |fn f cs vs hl h ih=>exact .fn f cs vs hl λj s v hs hv=>ih j s v hs hv (zd0 hp j s hs)
 |ifc t s v h ih=>exact .ifc t s v (ih hp)
variable{ρ:ze}{ρ':ze}
def G.low{S Pm:LG}{w:World}{n:Nat}(hρ:∀k v,k<n->ρ k=some v->ρ' k=some v){s:SV}{v:Value}(h:G S Pm ρ w s v)(hl:y8 n s=true):G S Pm ρ' w s v:=by
 induction h with
 |d s v h=>exact .d s v h
 |loc k off b h=>exact .loc k off b (hρ _ _ (by unfold y8 at hl;exact Yj ▸ hl) h)
 |own k v h h1=>exact .own k v (hρ _ _ (by unfold y8 at hl;exact Yj ▸ hl) h) h1
 |eloc k sz i off b len cap h=>exact .eloc k sz i off b len cap (hρ _ _ (by unfold y8 at hl;exact Yj ▸ hl) h)
 |win k sz lo n b len cap cap' h h1 h2=>exact .win k sz lo n b len cap cap' (hρ _ _ (by unfold y8 at hl;exact Yj ▸ hl) h) h1 h2
 |ptr cs b o c hb hP' hc h=>exact .ptr cs b o c hb hP' hc h
 |agg cs vs hl' h ih=>exact .agg cs vs hl' λj s v hs hv=>ih j s v hs hv (zao hl j s hs)
 |tup cs vs hl' h ih=>exact .tup cs vs hl' λj s v hs hv=>ih j s v hs hv (zao hl j s hs)
 |fn f cs vs hl' h ih=>exact .fn f cs vs hl' λj s v hs hv=>ih j s v hs hv (zao hl j s hs)
 |ifc t s v h ih=>exact .ifc t s v (ih (by unfold y8 at hl;exact hl))
def pfM:Mem->Prop
 |.box _ cs=>pfS.pfs cs=true
 |.arr _ _ _ _=>True
 |.garr _ _ xs=>∀x∈xs,pfS.pfs x=true
 |.map _=>True
def zjO(M:LT):Prop:=∀k m,(k,m)∈M->pfM m
def je.pf{S S' Pm Pm':LG}{ρ:ze}{w:World}{k:Nat}{m:Mem}(hS:∀b,S' b->S b)(hp:pfM m)(h:je S Pm ρ w k m):je S' Pm' ρ w k m:=by
 have hS':∀b,b<w.heap.size->¬S b->¬S' b/\w.heap[b]?=w.heap[b]? :=λb _ hn=>⟨λk=>hn (hS b k),rfl⟩
 cases m with
 |box T cs=>
  obtain⟨b,vs,h1,h2,h3,h4,h5⟩:=h;exact⟨b,vs,h1,h2,h3,h4,λj s v hs' hv=>(h5 j s v hs' hv).pf (Xi _) hS' (zd0 hp j s hs')⟩
 |arr T enc sz xs=>
  obtain⟨v,cells,h1,h2,h3,h4,h5,h6⟩:=h;refine⟨v,cells,h1,h2,h3,h4,h5,λi j x s hx hj=>?_⟩;obtain⟨u,hu,hd⟩:=h6 i j x s hx hj;exact⟨u,hu,hd.less hS⟩
 |garr T sz xs=>
  obtain⟨v,cells,h1,h2,h3,h4,h5,h6⟩:=h;refine⟨v,cells,h1,h2,h3,h4,h5,λi j x s hx hj=>?_⟩;obtain⟨u,hu,hd⟩:=h6 i j x s hx hj;exact⟨u,hu,hd.pf (Xi _) hS' (zd0 (hp x (Xf hx)) j s hj)⟩
 |map es=>
  obtain⟨r,ents,clock,h1,h2,h3,h4⟩:=h;refine⟨r,ents,clock,h1,h2,h3,λi n s hi=>?_⟩;obtain⟨e,g1,g2,g3⟩:=h4 i n s hi;exact⟨e,g1,g2,g3.less hS⟩
structure Mv (S S':LG) (w w':World):Prop extends Stp S S' (λ_=>none) (λ_=>none) w w' where
 gl:∀g v,GL g v->w.cell? ⟨g,0,none⟩=some v->w'.cell? ⟨g,0,none⟩=some v
variable{w':World}
def zB.other{K T T':LG}{M:LT}{w:World}(h:zB (λb=>K b∨T b) M ρ w)(hp:zjO M)(hmv:Mv T T' w w')(hd:∀b,T' b->¬Own M ρ b/\b<w'.heap.size):zB (λb=>K b∨T' b) M ρ w':=by
 have hno:∀b,Own M ρ b->¬T b:=λb hb ht=>(h.old b hb).2 (.inr ht)
 have hs:Stp (λb=>Own M ρ b∨T b) (λb=>Own M ρ b∨T' b) ρ ρ w w':=
  ⟨hmv.os,hmv.tape,hmv.output,hmv.size,λb hb hn=>hmv.block b hb λht=>hn (.inr ht),λb hb=>hb.elim (λh=>.inl (.inl h)) λht=>(hmv.own b ht).imp .inr id,λ_ _ h=>h⟩
 refine⟨λk m hk=>?_,h.keys,h.apart,λb hb=>⟨Xy (h.old b hb).1 hmv.size,λhk=>hk.elim (λk=>(h.old b hb).2 (.inl k)) λht=>(hd b ht).1 hb⟩,λb hb=>hb.elim (λk=>Xy (h.kp b (.inl k)) hmv.size) λht=>(hd b ht).2,λg v hg=>⟨(h.gl g v hg).1,hmv.gl g v hg (h.glc hg)⟩⟩
 have h1:je (λb=>K b∨(Own M ρ b∨T b)) (λb=>Own M ρ b∨T b) ρ w k m:=
  (h.rel k m hk).pf (λb hb=>hb.elim (λk=>.inl (.inl k)) λh=>h.elim .inr λht=>.inl (.inr ht)) (hp k m hk)
 have h2:=h1.keep hs rfl (λv b hv hb=>hmv.block b (h.old b ⟨k,m,v,hk,hv,hb⟩).1 (hno b ⟨k,m,v,hk,hv,hb⟩));exact h2.pf (λb hb=>hb.elim (λh=>h.elim .inl λht=>.inr (.inr ht)) λh=>.inr (.inl h)) (hp k m hk)
def zB.few{K K':LG}{M:LT}{ρ:ze}{w:World}(h:zB K M ρ w)(hp:zjO M)(hk:∀b,K' b->K b):zB K' M ρ w:=
 ⟨λk m hm=>(h.rel k m hm).pf (λ_ hb=>hb.imp (hk _) id) (hp k m hm),h.keys,h.apart,λb hb=>⟨(h.old b hb).1,λk=>(h.old b hb).2 (hk b k)⟩,λb hb=>h.kp b (hk b hb),h.gl⟩
def Ds(S:LG)(w:World)(cs:LQ)(vs:LZ):Prop:=
 vs.length=cs.length/\∀(j:Nat) (s:SV) (v:Value),cs[j]?=some s->vs[j]?=some v->D S w s v
def zew(P:Program)(f:FuncId)(caps:LQ){α:Type}(enc:α->LQ)(xs:List α):Prop:=
 zcD P f/\∀(SA:LG) (w:World) (vs:LZ) (l:Nat) (J:Nat->LG->LG->World->Prop) (Jx:LG->LG->World->Prop),
  (∀b,SA b->b<w.heap.size)->(∀g v,GL g v->w.cell? ⟨g,0,none⟩=some v)->Ds SA w caps vs->
  (∀i SA SB SB' W W',J i SA SB W->Mv SB SB' W W'->(∀b,SB' b->¬SA b/\b<W'.heap.size)->J i SA SB' W')->
  (∀SA SB SB' W W',Jx SA SB W->Mv SB SB' W W'->(∀b,SB' b->¬SA b/\b<W'.heap.size)->Jx SA SB' W')->
  (∀i x SA SB W args,xs[i]?=some x->J i SA SB W->(∀b,SA b->b<W.heap.size)->(∀b,SB b->¬SA b/\b<W.heap.size)->Ds (λb=>SA b∨SB b) W (enc x) args->
   YieldAt Fence.wide 0 P l (List.toArray args) W λe W'=>∃SA':LG,Mv SA SA' W W'/\(∀b,SA' b->¬SB b/\b<W'.heap.size)/\
    ((e=.returned (.bool true)/\J (i+1) SA' SB W')∨(e=.returned (.bool false)/\Jx SA' SB W')))->
  J 0 SA (λ_=>False) w->
  CallsIn Fence.wide 0 P f (List.toArray (.func (.yield l) #[] #[]::vs)) w λe W'=>(∃v,e=.returned v)/\∃SA' SB',J xs.length SA' SB' W'∨Jx SA' SB' W'
def zkZ:LB->LQ->LP->LP
 |p::ps,e::es,L=>(p,e)::zkZ ps es L
 |_,_,L=>L
def uO(l:List (Nat×Value))(A:Array Value):Array Value:=l.foldl (λtm p=>tm.setIfInBounds p.1 p.2) A
def zde:∀(l:List (Nat×Value)) (A:Array Value),(uO l A).size=A.size
 |[],_=>rfl
 |p::l,A=>by unfold uO;rw[KH];exact(zde l _).trans sI
def zca:∀(l:List (Nat×Value)) (A:Array Value) (t:Nat),(∀p∈l,p.1≠t)->(uO l A).getD t undef=A.getD t undef
 |[],_,_,_=>rfl
 |p::l,A,t,h=>by
  unfold uO;rw[KH];refine(zca l _ t λq hq=>h q (.tail _ hq)).trans ?_;rw[X8,KX (h p (.head _)),←X8]
def zlT:∀(l:List (Nat×Value)) (A:Array Value),(l.map Prod.fst).Nodup->∀(j:Nat) (t:Nat) (v:Value),l[j]?=some (t,v)->t<A.size->(uO l A).getD t undef=v
 |[],_,_,j,t,v,h,_=>by simp at h
 |p::l,A,hn,j,t,v,h,ht=>by
  rw[K8,QO]at hn;unfold uO;rw[KH]
  cases j with
  |zero=>
   cases h
   refine(zca l _ t λq hq e=>hn.1 (by rw[XL];exact⟨q,hq,e⟩)).trans ?_;simp[X8,ht]
  |succ j=>exact zlT l _ hn.2 j t v (by simpa using h) (by simpa using ht)
def zlU:∀(ps:LB) (es:LQ) (L:LP) (t:Nat) (s:SV),ps.length=es.length->z6 (zkZ ps es L) t=some s->
  (∃j:Nat,ps[j]?=some t/\es[j]?=some s)∨((∀p∈ps,p≠t)/\z6 L t=some s)
 |[],[],L,t,s,_,h=>.inr ⟨λ_ hp=>(by cases hp),h⟩
 |[],_::_,_,_,_,hl,_=>by cases hl
 |_::_,[],_,_,_,hl,_=>by cases hl
 |p::ps,e::es,L,t,s,hl,h=>by
  unfold zkZ at h;rw[zK]at h
  by_cases hp:p=t
  ·rw[Xe hp]at h
   cases h
   exact .inl ⟨0,by rw[hp];rfl,rfl⟩
  rw[Xb hp]at h
  rcases zlU ps es L t s (by simpa using hl) h with⟨j,h1,h2⟩|⟨h1,h2⟩
  ·exact .inl ⟨j+1,h1,h2⟩
  exact .inr ⟨λq hq=>by cases hq with
   |head=>exact hp
   |tail _ hq=>exact h1 q hq,h2⟩
def pfL(m:Nat):LP->Bool
 |[]=>true
 |(_,s)::r=>match pfS s with
  |true=>(match y8 m s with
   |true=>pfL m r
   |false=>false)
  |false=>false
def znE{m:Nat}:∀{L:LP} {t:Nat} {s:SV},pfL m L=true->z6 L t=some s->pfS s=true/\y8 m s=true
 |[],_,_,_,h=>by cases h
 |(k,s0)::r,t,s,h,hl=>by
  unfold pfL at h
  split at h
  ·rename_i h1
   split at h
   ·rename_i h2;rw[zK]at hl
    by_cases e:k=t
    ·rw[Xe e]at hl;cases hl;exact⟨h1,h2⟩
    rw[Xb e]at hl;exact znE h hl
   cases h
  cases h
def zlV(n:Nat):LB->Bool
 |[]=>true
 |p::r=>match Nat.blt p n with
  |true=>zlV n r
  |false=>false
def zlW{n:Nat}:∀{l:LB},zlV n l=true->∀p∈l,p<n
 |[],_,_,h=>by cases h
 |q::r,h,p,hp=>by
  unfold zlV at h
  split at h
  ·rename_i h1
   cases hp with
   |head=>exact Yj ▸ h1
   |tail _ hp=>exact zlW h p hp
  cases h
def zyu(σ:St):Prop:=∃E ρ a w,Rel E σ ρ a w
def ztC(P:Program)(Γ:LS)(f:FuncId)(caps:LQ)(ps:LB)(assign body:Code)(σ:St)(Q:LF):Prop:=
 ∃(β:Type) (enc:β->LQ) (ys:List β) (m:Nat) (L:LP) (S:Nat->LT) (nk:Nat->Nat),
  zew P f caps enc ys/\(∀y,(enc y).length=ps.length)/\(vI ps=true/\zlV σ.nt ps=true/\uj assign=true/\uj body=true)/\
  Sub σ ⟨L,S 0,nk 0,σ.nt,σ.n0⟩/\(σ.n0<=m/\pfL m L=true)/\(∀j,zjO (S j))/\
  (∀j y,ys[j]?=some y->zyu ⟨zkZ ps (enc y) L,S j,nk j,σ.nt,m⟩->qS P Γ assign ⟨zkZ ps (enc y) L,S j,nk j,σ.nt,m⟩ λe σ1=>match e with
   |.normal=>qS P Γ body σ1 λe σ2=>match e with
    |.normal=>Sub σ2 ⟨[],S (j+1),nk (j+1),σ.nt,m⟩
    |.exit id=>∃M' nk',Sub σ2 ⟨[],M',nk',σ.nt,m⟩/\zjO M'/\Q (.exit id) ⟨L,M',nk',σ.nt,σ.n0⟩
    |.ret=>∃M' nk',Sub σ2 ⟨[],M',nk',σ.nt,m⟩/\zjO M'/\Q .ret ⟨L,M',nk',σ.nt,σ.n0⟩
   |_=>False)/\
  (zyu ⟨L,S ys.length,nk ys.length,σ.nt,σ.n0⟩->Q .normal ⟨L,S ys.length,nk ys.length,σ.nt,σ.n0⟩)
structure RR (E E':Env) (σ:St) (ρ:ze) (a:Act) (w:World):Prop where
 rel:Rel E' σ ρ a w
 rho:E'.ρ0=E.ρ0
 kp:∀b,E.Keep b->E'.Keep b
 stp:Stp E.W0 (Own σ.M ρ) E.ρ0 ρ E.w0 w
 marks:∀d∈E'.ds,∃D,d={ target:=.collected D,args:=#[] }/\E'.Keep D/\E.w0.heap.size<=D/\w.heap[D]?=some (.deferred (some []))
 apart:E'.ds.Pairwise λd e=>∀D D',d.target=.collected D->e.target=.collected D'->D≠D'
variable{E:Env}{E':Env}{σ:St}{a:Act}{a':Act}
def RR.next{σ':St}{w:World}(h:RR E E' σ ρ a w)(h':Rel ⟨w,E'.ρ0,E'.Keep,Own σ.M ρ,E'.ds⟩ σ' ρ' a' w'):
  RR E ⟨w,E'.ρ0,E'.Keep,Own σ.M ρ,E'.ds⟩ σ' ρ' a' w':=by
 have hs:=h'.stp;refine⟨h',h.rho,h.kp,⟨hs.os.trans h.stp.os,hs.tape.trans h.stp.tape,h.stp.output.trans hs.output,XE h.stp.size hs.size,λb hb hn=>?_,λb hb=>?_,λk v hk=>?_⟩,λd hd=>?_,h.apart⟩
 ·refine(hs.block b (Xy hb h.stp.size) λho=>?_).trans (h.stp.block b hb hn);exact(h.stp.own b ho).elim hn λhge=>oM
 ·exact(hs.own b hb).elim (h.stp.own b) λhge=>.inr (XE h.stp.size hge)
 ·have:E'.ρ0 k=some v:=by rw[h.rho];exact hk
  exact hs.rho k v this
 obtain⟨D,e,hk,hge,hh⟩:=h.marks d hd;exact⟨D,e,hk,hge,(hs.block D (h.rel.mem.kp D hk) λho=>(h.rel.mem.old D ho).2 hk).trans hh⟩
def zjP(E:Env)(Q:LF):LC
 |.normal,a,w=>∃E' σ ρ,Q .normal σ/\RR E E' σ ρ a w
 |.exit id,a,w=>∃E' σ ρ,Q (.exit id) σ/\RR E E' σ ρ a w
 |.ret,a,w=>∃E' σ ρ,Q .ret σ/\RR E E' σ ρ a w
 |_,_,_=>False
def zjP.of{w:World}(h:RR E E' σ ρ a w){Q:LF}{e:Exit}(hp:uc ⟨w,E'.ρ0,E'.Keep,Own σ.M ρ,E'.ds⟩ Q e a' w'):zjP E Q e a' w':=by
 cases e with
 |normal=>obtain⟨σ',ρ',hq,hr⟩:=hp;exact⟨_,σ',ρ',hq,h.next hr⟩
 |exit id=>obtain⟨σ',ρ',hq,hr⟩:=hp;exact⟨_,σ',ρ',hq,h.next hr⟩
 |ret=>obtain⟨σ',ρ',hq,hr⟩:=hp;exact⟨_,σ',ρ',hq,h.next hr⟩
 |_=>exact hp
end
end Go.Gs
