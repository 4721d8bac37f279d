/- A path under a transform, the program's. -/
import Derived.Test.YtjgadnaphffpkaaGreatDoorMA
import Derived.Test.YtjgadnaphffpkaaGreatDoorMAS
import Derived.Test.YtjgadnaphffpkaaGreatDoorMAQ
import Derived.Test.YtjgadnaphffpkaaGreatDoorMAN
import Derived.Test.YtjgadnaphffpkaaGreatDoorMAK
set_option maxRecDepth 100000
set_option maxHeartbeats 8000000
set_option linter.all false
namespace Go.Gs
open Go.Proofs
def jo(t:AF):List Pt->Int
 | []=>0
 | p::r=>if (kI t p).2≠0 then(kI t p).2 else jo t r
def vN(t:AF)(s:Sg):Sg:=zjK s.v ((kN s).map λp=>(kI t p).1)
def trans(t:AF)(l:List Sg):List Sg×Int:=
 if ¬jn l then([],10) else if jo t (jh l)≠0 then([],jo t (jh l)) else(l.map (vN t),0)
theorem jE(t:AF):∀q r:List Pt,jo t (q++r)=if jo t q≠0 then jo t q else jo t r
 | [],r=>by simp[jo]
 | p::q,r=>by
  rw[Jb,jo,jo,jE t q r]
  by_cases h:(kI t p).2=0
  ·simp[h]
  ·simp[h]
theorem vp{t:AF}{q:List Pt}{k:Nat}{p:Pt}(h0:jo t (q.take k)=0)(hp:q[k]? =some p):
  ((kI t p).2=0->jo t (q.take (k+1))=0)/\((kI t p).2≠0->jo t q=(kI t p).2):=by
 have e:q.take (k+1)=q.take k++[p]:=by rw[Xm,hp];rfl
 have e1:jo t (q.take (k+1))=(kI t p).2:=by
  rw[e,jE,h0]
  by_cases h:(kI t p).2=0 <;> simp[jo,h]
 refine⟨λh=>by rw[e1,h],λh=>?_⟩;have:=jE t (q.take (k+1)) (q.drop (k+1));rw[Kf,e1,if_pos h]at this;exact this
theorem zwE(s:Sg):(kN s).length<=3:=by
 unfold kN;have:=zf5 s.v;simp only[Xk,Xl,Xs];omega
theorem zyQ(l:List Sg)(t:AF)(ht:t.le 100000)(hlen:l.length<=300):CG0 106 [.sl sgE l,.agg (afE t)] [] (.tup [.sl sgE (trans t l).1,i64 (trans t l).2]) []:=by
 refine zc Tryz.func106 ?_
 have bad:∀e:Int,trans t l=([],e)->LE (.tup [.val (.slice none 0 0),i64 e]) (.tup [.sl sgE (trans t l).1,i64 (trans t l).2]):=λe h=>by
  rw[h];exact zI zD .refl
 refine zb.t (zit l)<|⟨λh1=>?_,λh1=>?_⟩
 ·exact bad 10 (by rw[trans,if_pos h1])
 intro hl
 refine⟨Nat×Option (List Sg),λq=>match q with
   | (i,none)=>⟨[(19,i64 i),(18,i64 l.length),(17,.sl sgE l),(6,.val (.slice none 0 0)),(3,.loc 0 0)],[(0,.box 45 (afE t))],1,53,0⟩
   | (i,some out)=>⟨[(19,i64 i),(18,i64 l.length),(17,.sl sgE l),(6,.own 1),(3,.loc 0 0)],[(1,.arr 124 sgE 7 out),(0,.box 45 (afE t))],2,53,0⟩,
  λq=>match q with
   | (i,none)=>i=0
   | (i,some out)=>i<=l.length/\out=(l.take i).map (vN t)/\jo t (jh (l.take i))=0,λq=>l.length - q.1,(0,none),rfl,?_,?_⟩
 ·exact zf [0]
 have errs:∀(i:Nat) (x:Sg) (p:Pt) (k:Nat),jo t (jh (l.take i))=0->l[i]? =some x->jo t ((kN x).take k)=0->(kN x)[k]? =some p->(kI t p).2≠0->trans t l=([],(kI t p).2):=by
  intro i x p k h0 hx hk hp he;have e2:=(vp hk hp).2 he
  have e3:jo t (jh l)=(kI t p).2:=by
   have hd:=zf3 hx
   have:jh l=jh (l.take i)++(kN x++jh (l.drop (i+1))):=by
    conv=>lhs;rw[← Kf i l,hd]
    simp[jh]
   rw[this,jE,h0];simp only[ne_eq,not_true_eq_false,if_false];rw[jE,e2,if_pos he]
  rw[trans,if_neg h1,e3,if_pos he]
 have fin0:∀i x,jo t (jh (l.take i))=0->l[i]? =some x->jo t (kN x)=0->jo t (jh (l.take (i+1)))=0:=λi x h0 hx hk=>by
  rw[zhT hx,jE,h0];simpa using hk
 rintro⟨i,_ | out⟩ hI
 ·have hI:i=0:=hI;subst hI;have hi0:jo t (jh (l.take 0))=0:=rfl;have hil:0<=l.length:=Xe _;refine⟨λh2=>?_,λh2=>?_⟩
  ·refine Ob.o ?_;intro x hx;have hx:l[0]? =some x:=hx;refine zb.t (zo3 x) ?_;intro hl4
   refine⟨Nat×Option (List Pt),λq=>match q with
     | (k,none)=>⟨[(26,i64 k),(25,i64 (kN x).length),(24,.sl ptE (kN x)),(9,.val (.slice none 0 0)),(8,.loc 1 0),(19,i64 (0:Nat)),(18,i64 l.length),(17,.sl sgE l),(6,.val (.slice none 0 0)),(3,.loc 0 0)],[(1,.box 124 (sgE x)),(0,.box 45 (afE t))],2,53,0⟩
     | (k,some to)=>⟨[(26,i64 k),(25,i64 (kN x).length),(24,.sl ptE (kN x)),(9,.own 2),(8,.loc 1 0),(19,i64 (0:Nat)),(18,i64 l.length),(17,.sl sgE l),(6,.val (.slice none 0 0)),(3,.loc 0 0)],[(2,.arr 35 ptE 2 to),(1,.box 124 (sgE x)),(0,.box 45 (afE t))],3,53,0⟩,
    λq=>match q with
     | (k,none)=>k=0
     | (k,some to)=>k<=(kN x).length/\to=((kN x).take k).map (λp=>(kI t p).1)/\jo t ((kN x).take k)=0,λq=>(kN x).length - q.1,(0,none),rfl,?_,?_⟩
   ·exact zf [0,1]
   have hx3:=zwE x
   rintro⟨k,_ | to⟩ hK
   ·have hK:k=0:=hK;subst hK;have hk0:jo t ((kN x).take 0)=0:=rfl;have hkl:0<=(kN x).length:=Xe _;refine⟨λh4=>?_,λh4=>?_⟩
    ·refine Ob.o ?_;intro p hp;have hp:(kN x)[0]? =some p:=hp;refine zb.t (zcC t p ht)<|⟨λh5=>?_,λh5=>?_⟩
     ·exact bad _ (errs 0 x p 0 hi0 hx hk0 hp h5)
     have h5:(kI t p).2=0:=XK h5;have hk1:=(vp hk0 hp).1 h5;refine⟨Pt,ptE,[(kI t p).1],rfl,Ob.o0 ?_⟩;refine⟨_,_,_,rfl,Ob.o19 ?_⟩;refine Ar.fit dC ?_;refine⟨(1,some [(kI t p).1]),⟨oM,(by rw[Xm,hp];rfl),hk1⟩,zf [0,1,5],by dsimp only;omega⟩
    ·have hp0:kN x=[]:=XJ.1 oM;have hgo:zjK x.v []=vN t x:=by rw[vN,hp0];rfl
     have hall:=fin0 0 x hi0 hx (by rw[hp0];rfl);refine zb.t ((znd x.v []).args (.cons .refl (.cons zD .nil))) ?_;rw[hgo];refine⟨Sg,sgE,[vN t x],rfl,Ob.o0 ?_⟩;refine⟨_,_,_,rfl,Ob.o20 ?_⟩;refine Ar.fit dC ?_;refine⟨(1,some [vN t x]),⟨oM,(by rw[Xm,hx];rfl),hall⟩,(by first | exact zf [0,2] | exact zf [0,3] | exact zf [0,4] | exact zf [0,5] | exact zf [0,6] | exact zf [0,7] | exact zf [0,8]),by dsimp only;omega⟩
   ·obtain⟨hkl,hto,hk0⟩:=hK;refine⟨λh4=>?_,λh4=>?_⟩
    ·refine Ob.o ?_;intro p hp;have hp:(kN x)[k]? =some p:=hp;refine zb.t (zcC t p ht)<|⟨λh5=>?_,λh5=>?_⟩
     ·exact bad _ (errs 0 x p k hi0 hx hk0 hp h5)
     have h5:(kI t p).2=0:=XK h5;have hk1:=(vp hk0 hp).1 h5;refine⟨Pt,ptE,[(kI t p).1],rfl,Ob.o0 ?_⟩;have htl:to.length=k:=by rw[hto];simp;omega
     refine⟨_,rfl,Ob.o21 ?_⟩;refine Ar.o ?_;refine⟨(k+1,some (to++[(kI t p).1])),⟨oM,(by rw[Xm,hp,hto];simp),hk1⟩,zf [0,1,6],by dsimp only;omega⟩
    ·have hkk:k=(kN x).length:=by omega
     subst hkk;rw[X9]at hto hk0;have hgo:zjK x.v to=vN t x:=by rw[vN,hto]
     have hall:=fin0 0 x hi0 hx hk0;refine zb.t (znd x.v to) ?_;rw[hgo];refine⟨Sg,sgE,[vN t x],rfl,Ob.o0 ?_⟩;refine⟨_,_,_,rfl,Ob.o20 ?_⟩;refine Ar.fit dC ?_;refine⟨(1,some [vN t x]),⟨oM,(by rw[Xm,hx];rfl),hall⟩,(by first | exact zf [0,2] | exact zf [0,3] | exact zf [0,4] | exact zf [0,5] | exact zf [0,6] | exact zf [0,7] | exact zf [0,8]),by dsimp only;omega⟩
  ·have hii:0=l.length:=by omega
   have htr:trans t l=(l.map (vN t),0):=by
    rw[hii,X9]at hi0;rw[trans,if_neg h1,hi0,if_neg (λk=>k rfl)]
   exact bad 0 (by rw[htr,XJ.1 hii.symm];rfl)
 ·obtain⟨hil,hout,hi0⟩:=hI;refine⟨λh2=>?_,λh2=>?_⟩
  ·refine Ob.o ?_;intro x hx;have hx:l[i]? =some x:=hx;refine zb.t (zo3 x) ?_;intro hl4
   refine⟨Nat×Option (List Pt),λq=>match q with
     | (k,none)=>⟨[(26,i64 k),(25,i64 (kN x).length),(24,.sl ptE (kN x)),(9,.val (.slice none 0 0)),(8,.loc 2 0),(19,i64 i),(18,i64 l.length),(17,.sl sgE l),(6,.own 1),(3,.loc 0 0)],[(2,.box 124 (sgE x)),(1,.arr 124 sgE 7 out),(0,.box 45 (afE t))],3,53,0⟩
     | (k,some to)=>⟨[(26,i64 k),(25,i64 (kN x).length),(24,.sl ptE (kN x)),(9,.own 3),(8,.loc 2 0),(19,i64 i),(18,i64 l.length),(17,.sl sgE l),(6,.own 1),(3,.loc 0 0)],[(3,.arr 35 ptE 2 to),(2,.box 124 (sgE x)),(1,.arr 124 sgE 7 out),(0,.box 45 (afE t))],4,53,0⟩,
    λq=>match q with
     | (k,none)=>k=0
     | (k,some to)=>k<=(kN x).length/\to=((kN x).take k).map (λp=>(kI t p).1)/\jo t ((kN x).take k)=0,λq=>(kN x).length - q.1,(0,none),rfl,?_,?_⟩
   ·exact zf [0,1,2]
   have hx3:=zwE x
   rintro⟨k,_ | to⟩ hK
   ·have hK:k=0:=hK;subst hK;have hk0:jo t ((kN x).take 0)=0:=rfl;have hkl:0<=(kN x).length:=Xe _;refine⟨λh4=>?_,λh4=>?_⟩
    ·refine Ob.o ?_;intro p hp;have hp:(kN x)[0]? =some p:=hp;refine zb.t (zcC t p ht)<|⟨λh5=>?_,λh5=>?_⟩
     ·exact bad _ (errs i x p 0 hi0 hx hk0 hp h5)
     have h5:(kI t p).2=0:=XK h5;have hk1:=(vp hk0 hp).1 h5;refine⟨Pt,ptE,[(kI t p).1],rfl,Ob.o0 ?_⟩;refine⟨_,_,_,rfl,Ob.o19 ?_⟩;refine Ar.fit dC ?_;refine⟨(1,some [(kI t p).1]),⟨oM,(by rw[Xm,hp];rfl),hk1⟩,zf [0,1,2,6],by dsimp only;omega⟩
    ·have hp0:kN x=[]:=XJ.1 oM;have hgo:zjK x.v []=vN t x:=by rw[vN,hp0];rfl
     have hall:=fin0 i x hi0 hx (by rw[hp0];rfl);refine zb.t ((znd x.v []).args (.cons .refl (.cons zD .nil))) ?_;rw[hgo];refine⟨Sg,sgE,[vN t x],rfl,Ob.o0 ?_⟩;have hol:out.length=i:=by rw[hout];simp;omega
     refine⟨_,rfl,Ob.o22 ?_⟩;refine Ar.o ?_;refine⟨(i+1,some (out++[vN t x])),⟨oM,(by rw[Xm,hx,hout];simp),hall⟩,(by first | exact zf [0,2] | exact zf [0,3] | exact zf [0,4] | exact zf [0,5] | exact zf [0,6] | exact zf [0,7] | exact zf [0,8]),by dsimp only;omega⟩
   ·obtain⟨hkl,hto,hk0⟩:=hK;refine⟨λh4=>?_,λh4=>?_⟩
    ·refine Ob.o ?_;intro p hp;have hp:(kN x)[k]? =some p:=hp;refine zb.t (zcC t p ht)<|⟨λh5=>?_,λh5=>?_⟩
     ·exact bad _ (errs i x p k hi0 hx hk0 hp h5)
     have h5:(kI t p).2=0:=XK h5;have hk1:=(vp hk0 hp).1 h5;refine⟨Pt,ptE,[(kI t p).1],rfl,Ob.o0 ?_⟩;have htl:to.length=k:=by rw[hto];simp;omega
     refine⟨_,rfl,Ob.o21 ?_⟩;refine Ar.o ?_;refine⟨(k+1,some (to++[(kI t p).1])),⟨oM,(by rw[Xm,hp,hto];simp),hk1⟩,zf [0,1,2,7],by dsimp only;omega⟩
    ·have hkk:k=(kN x).length:=by omega
     subst hkk;rw[X9]at hto hk0;have hgo:zjK x.v to=vN t x:=by rw[vN,hto]
     have hall:=fin0 i x hi0 hx hk0;refine zb.t (znd x.v to) ?_;rw[hgo];refine⟨Sg,sgE,[vN t x],rfl,Ob.o0 ?_⟩;have hol:out.length=i:=by rw[hout];simp;omega
     refine⟨_,rfl,Ob.o22 ?_⟩;refine Ar.o ?_;refine⟨(i+1,some (out++[vN t x])),⟨oM,(by rw[Xm,hx,hout];simp),hall⟩,(by first | exact zf [0,2] | exact zf [0,3] | exact zf [0,4] | exact zf [0,5] | exact zf [0,6] | exact zf [0,7] | exact zf [0,8]),by dsimp only;omega⟩
  ·have hii:i=l.length:=by omega
   have htr:trans t l=(l.map (vN t),0):=by
    rw[hii,X9]at hi0;rw[trans,if_neg h1,hi0,if_neg (λk=>k rfl)]
   rw[hii,X9]at hout;rw[htr,← hout];exact zI .refl .refl
def part(f:Pt->Pt)(j:Nat)(s:Sg):Sg:=⟨s.v,if 1<=j then f s.a else s.a,if 2<=j then f s.b else s.b,if 3<=j then f s.c else s.c⟩
def zwF(f:Pt->Pt)(s:Sg):Sg:=part f (nm s.v).toNat s
theorem zwG{l:List Sg}(h:jn l):∀p∈jh l,zr p:=λp hp=>by
 obtain⟨s,hs,hp⟩:=Qt.1 hp
 have hf:ze6 s:=by
  have e:=zlF l;rw[← e]at hs;obtain⟨g,hg,hsg⟩:=List.mem_flatten.1 hs;obtain⟨k,m,mid,_,_,g3,_⟩:=zo4 h g hg;exact g3 s hsg
 have hp:=XC hp;simp only[Kn,Kw,or_false]at hp
 rcases hp with rfl | rfl | rfl
 ·exact hf.1.1
 ·exact hf.2.1.1
 ·exact hf.2.2.1
theorem zwH{l:List Sg}(h:jn l){s:Sg}(hs:s∈l):ze6 s:=by
 have e:=zlF l;rw[← e]at hs;obtain⟨g,hg,hsg⟩:=List.mem_flatten.1 hs;obtain⟨k,m,mid,_,_,g3,_⟩:=zo4 h g hg;exact g3 s hsg
theorem zpm:∀{l:List Sg} {last:Int},oks last l->∀s∈l,ze6 s
 | [],_,_,s,hs=>by cases hs
 | a::r,last,h,s,hs=>by
  rcases Kn.1 hs with rfl | hs
  ·exact(u1.1 h.1).2.2
  ·exact zpm h.2 s hs
theorem zpn{lo hi:Pt}{l:List Sg}{tol:Int}(h0:(z5 l tol).2=0)(hb:∀p∈jh l,inB lo hi p):
  jn l/\zeO tol/\jI (z5 l tol).1<=4096/\∀q∈(z5 l tol).1,q.pts≠[]/\jD q.pts/\∀z∈q.pts,inB lo hi z:=by
 unfold z5 at h0 ⊢
 by_cases h1:¬jn l
 ·rw[if_pos h1]at h0;exact absurd h0 dC
 rw[if_neg h1]at h0 ⊢
 by_cases h2:¬zeO tol
 ·rw[if_pos h2]at h0;exact absurd h0 dC
 rw[if_neg h2]at h0 ⊢
 by_cases h3:(jk l tol).2≠0
 ·rw[if_pos h3]at h0;exact absurd h0 h3
 rw[if_neg h3]at h0 ⊢
 by_cases h4:4096 < jI (jk l tol).1
 ·rw[if_pos h4]at h0;exact absurd h0 dC
 rw[if_neg h4];have:=zjW (tol:=tol) (zbY.1 (Xa.1 h1)).2 hb l.length (Xh _);rw[X9]at this;exact⟨Xa.1 h1,Xa.1 h2,by dsimp only;omega,(this (Xa.1 h3)).2⟩
def zar(l:List Pl):List (List Pt):=(l.filter λp=>decide (3<=p.pts.length)).map Pl.pts
def zac(l:List Sg)(t:AF)(tol:Int):List (List Pt)×Int:=
 if (trans t l).2≠0 then([],(trans t l).2) else if (z5 (trans t l).1 tol).2≠0 then([],(z5 (trans t l).1 tol).2) else(zar (z5 (trans t l).1 tol).1,0)
theorem zlM{a b w:Int}(hw:0<=w)(h:2*(a.natAbs:Int)<=w*b.natAbs):((zQ a b).natAbs:Int)<=(w+1) / 2:=by
 have e:=zdr a b;rw[e]
 by_cases hb:b.natAbs=0
 ·rw[hb];simp;omega
 have hb':(0:Int) < b.natAbs:=oM;generalize a.natAbs=A at*;generalize b.natAbs=B at*;rw[show(((2*A+B) / (2*B):Nat):Int)=(2*(A:Int)+B) / (2*B) by rw[JP];simp];have h1:(2*(A:Int)+B) / (2*B)<=(w*B+B) / (2*B):=Int.ediv_le_ediv oM oM;have h2:(w*B+B:Int)=B*(w+1):=by grind
 have h3:(w*B+B:Int) / (2*B)=(w+1) / 2:=by
  rw[h2,QE 2 (B:Int),Int.mul_ediv_mul_of_pos _ _ hb']
 omega
def zgd(w:Int)(p:Pt):Prop:=(p.x.natAbs:Int)<=(w+1) / 2/\(p.y.natAbs:Int)<=(w+1) / 2
theorem zyR{x y:Int}(hx:¬zbf x)(hy:¬zbf y):256*(x.natAbs:Int)<=isq (65536*(x*x+y*y))/\256*(y.natAbs:Int)<=isq (65536*(x*x+y*y)):=by
 unfold zbf at hx hy;have h1:=jx (A:=2097152) (B:=2097152) (a:=x) (b:=x) oM oM;have h2:=jx (A:=2097152) (B:=2097152) (a:=y) (b:=y) oM oM;have h5:=jg x;have h6:=jg y;have e1:(x.natAbs:Int)*x.natAbs=x*x:=Int.natAbs_mul_self' x;have e2:(y.natAbs:Int)*y.natAbs=y*y:=Int.natAbs_mul_self' y;refine⟨zq5 oM oM ?_,zq5 oM oM ?_⟩
 ·rw[show 256*(x.natAbs:Int)*(256*(x.natAbs:Int))=65536*((x.natAbs:Int)*x.natAbs) by grind,e1];omega
 ·rw[show 256*(y.natAbs:Int)*(256*(y.natAbs:Int))=65536*((y.natAbs:Int)*y.natAbs) by grind,e2];omega
theorem zge(v:Pt){w:Int}(hw:kr w):zgd w (z7 v w):=by
 unfold kr at hw;unfold z7
 split
 ·exact⟨by show((0:Int).natAbs:Int)<=_;simp;omega,by show((0:Int).natAbs:Int)<=_;simp;omega⟩
 ·rename_i h;rw[not_or,not_or,not_or]at h;have ab:=zyR h.2.1 h.2.2.1;have hL:0<=isq (65536*(v.x*v.x+v.y*v.y)):=oM;generalize isq (65536*(v.x*v.x+v.y*v.y))=L at*;have eL:(L.natAbs:Int)=L:=Jh hL;have wn:(w.natAbs:Int)=w:=Jh oM;refine⟨zlM oM ?_,zlM oM ?_⟩
  ·rw[Qs,Qs,Int.natAbs_neg,eL,X0,X0,wn];have:=Jg ab.2 (show 0<=w by omega);rw[show 2*((v.y.natAbs:Int)*w*((128:Int).natAbs:Nat))=w*(256*(v.y.natAbs:Int)) by simp;grind];exact this
  ·rw[Qs,Qs,eL,X0,X0,wn];have:=Jg ab.1 (show 0<=w by omega);rw[show 2*((v.x.natAbs:Int)*w*((128:Int).natAbs:Nat))=w*(256*(v.x.natAbs:Int)) by simp;grind];exact this
theorem zt2{r q:List Pt}(h:q∈kQ r):q=r:=by
 unfold kQ at h;split at h
 ·cases h
 ·exact Xr.1 h
section
variable {lo hi:Pt} {w m:Int}
end
theorem zpo{w:Int}{p:Pt}(h:zgd w p):zgd w (zg8 p):=by unfold zgd zg8 at*;dsimp only;omega
theorem zj0{a v b:Pt}{w:Int}(hw:kr w):zgd w (qx a v b w).1/\zgd w (qx a v b w).2.1:=by
 have z:zgd w zp:=by unfold kr at hw;exact⟨by show((0:Int).natAbs:Int)<=_;simp;omega,by show((0:Int).natAbs:Int)<=_;simp;omega⟩
 unfold qx
 split
 ·exact⟨z,z⟩
 ·dsimp only
  split
  ·exact⟨z,z⟩
  ·split
   ·exact⟨zpo (zge _ hw),zpo (zge _ hw)⟩
   ·exact⟨zge _ hw,zge _ hw⟩
theorem zsD{l:List Pt}{i:Nat}(h:i < l.length):nth l i∈l:=by
 unfold nth;rw[Xt,Xb h];exact KK h
theorem zfc{p:Pl}{z:Pt}(h:z∈(zu p).pts):z∈p.pts:=by
 unfold zu at h;dsimp only at h
 split at h
 ·exact zek (zph h)
 ·exact zek h
theorem zwI{a b M:Int}(hb:0 < b)(ha:0<=a)(h:a<=M*b):0<=zQ a b/\zQ a b<=M:=by
 obtain⟨Q,e⟩:∃Q:Nat,zQ a b=(Q:Int):=⟨_,by unfold zQ;rw[if_pos oM]⟩
 have hM:0<=M:=Jy.1 λk=>by
  have:=Int.mul_neg_of_neg_of_pos k hb;omega
 have h2:=zna (a:=a) (b:=b) (M:=M.toNat) oM (by
  have:((M.toNat*b.natAbs:Nat):Int)=M*b:=by rw[X0,QO hM,Jh oM]
  omega)
 omega
theorem zwJ{p:Pl}{z:Pt}(h:z∈ze p):z∈p.pts:=by
 unfold ze at h
 split at h
 ·rename_i c
  rcases Xo.1 h with h | h
  ·exact zfc h
  ·rw[Xr.1 h];exact zfc (zsD oM)
 ·exact zfc h
theorem zpp{p:Pl}(h:(ze p).length < 2):zK p=0:=by
 unfold zK;rw[show(ze p).length - 1=0 by omega];rfl
theorem ziu{w:Int}{p:Pt}(hw:kr w)(h:zgd w p):zr p:=by unfold kr at hw;unfold zgd at h;unfold zr;omega
theorem zsE(n m:Pt)(w lim:Int):S50 (uZ n m w lim).1.x/\S50 (uZ n m w lim).1.y:=by
 unfold uZ
 split
 ·exact⟨dC,dC⟩
 ·rename_i h;obtain⟨hn,hm,hw,_⟩:=Xa.1 h;have hs:=zhg hn hm;dsimp only
  split
  ·exact⟨dC,dC⟩
  ·generalize zz n m=s at*;have t:=zb0 hs.1 hw;have t':=zb0 hs.2 hw;exact⟨u0 (M:=1125899906842624) oM,u0 (M:=1125899906842624) oM⟩
theorem zsF{a v b:Pt}{p:Pen}(h:kF p/\zr a/\zr v/\zr b/\¬v=a/\¬v=b):jb a v b p=
  if p.j=3 then kQ (vA v p.w) else if (qx a v b p.w).2.2=false then[]
  else kQ (kG (if p.j=1/\(uZ (qx a v b p.w).1 (qx a v b p.w).2.1 p.w p.m).2=true then[v,zz v (qx a v b p.w).1,zz v (uZ (qx a v b p.w).1 (qx a v b p.w).2.1 p.w p.m).1,zz v (qx a v b p.w).2.1]
   else[v,zz v (qx a v b p.w).1,zz v (qx a v b p.w).2.1])):=by
 unfold jb;rw[kS h]
theorem zBl(a v b:Pt)(p:Pen):CG0 311 [.agg (ptE a),.agg (ptE v),.agg (ptE b),.agg (ji p)] [] (.sl zk (jb a v b p)) []:=by
 refine zc Tryz.func311 ?_
 have bad:¬(kF p/\zr a/\zr v/\zr b/\¬v=a/\¬v=b)->LE (.val (.slice none 0 0)) (.sl zk (jb a v b p)):=λh=>by
  unfold jb;rw[if_pos h];exact zD
 refine zb.t (zej p)<|⟨λa1=>bad (λh=>a1 h.1),λa1=>?_⟩;refine zb.t (qg a)<|⟨λa2=>bad (λh=>a2 h.2.1),λa2=>?_⟩;refine zb.t (qg v)<|⟨λa3=>bad (λh=>a3 h.2.2.1),λa3=>?_⟩;refine zb.t (qg b)<|⟨λa4=>bad (λh=>a4 h.2.2.2.1),λa4=>?_⟩;refine⟨λa5=>bad (λh=>h.2.2.2.2.1 (k8.1 a5)),λa5=>?_⟩;refine⟨λa6=>bad (λh=>h.2.2.2.2.2 (k8.1 a6)),λa6=>?_⟩
 have hok:kF p/\zr a/\zr v/\zr b/\¬v=a/\¬v=b:=
  ⟨Xa.1 a1,Xa.1 a2,Xa.1 a3,Xa.1 a4,λe=>a5 (k8.2 e),λe=>a6 (k8.2 e)⟩
 have hv:=hok.2.2.1;have hw:=hok.1.1;have e:=zsF hok;refine⟨λj1=>?_,λj1=>?_⟩
 ·have j1:p.j=3:=j1;exact zb.t (zrc v p.w)<|zb.t (znh (vA v p.w))<|z9 (e.trans (if_pos j1)).symm
 have j1:¬p.j=3:=j1;rw[if_neg j1]at e;refine zb.t (zyL a v b p.w)<|⟨λk=>?_,λk=>?_⟩
 ·have k:¬(qx a v b p.w).2.2=true:=k;rw[if_pos (by simpa using k)]at e;rw[e];exact zD
 have k:(qx a v b p.w).2.2=true:=Xa.1 k;rw[if_neg (by rw[k];decide)]at e;have oh:=zj0 (a:=a) (v:=v) (b:=b) hw;have o1:=ziu hw oh.1;have o2:=ziu hw oh.2;generalize (qx a v b p.w).1=n at*;generalize (qx a v b p.w).2.1=m at*;refine Dr.d<|zb.t (zen v n hv.p45.s o1.p45.s)<|⟨Pt,ptE,[v,zz v n],rfl,Ob.o0 ?_⟩;refine Ob.mk (by kernel_rfl) ?_
 have tail:∀(q:List Pt),(¬(p.j=1/\(uZ n m p.w p.m).2=true))->q=[v,zz v n,zz v m]->LE (.sl zk (kQ (kG q))) (.sl zk (jb a v b p)):=λq h hq=>by
  rw[e,if_neg h,hq];exact .refl
 refine⟨λj2=>?_,λj2=>?_⟩
 ·have j2:p.j=1:=j2;refine zb.t (p_tip n m p.w p.m) ?_;have ht:=zsE n m p.w p.m;refine⟨λs1=>?_,λs1=>?_⟩
  ·refine zb.t (zen v (uZ n m p.w p.m).1 hv.p45.s ht)<|⟨Pt,ptE,[zz v (uZ n m p.w p.m).1],rfl,Ob.o0 ?_⟩;refine⟨[zz v (uZ n m p.w p.m).1],rfl,Ob.o7 ?_⟩;refine zb.t (zen v m hv.p45.s o2.p45.s)<|⟨Pt,ptE,[zz v m],rfl,Ob.o0 ?_⟩;refine⟨[zz v m],rfl,Ob.o14 ?_⟩;refine zb.see 11 _ (za3 [v,zz v n,zz v (uZ n m p.w p.m).1,zz v m] (by show((4:Nat):Int)<=_;decide)) rfl rfl rfl<|zb.t (znh (kG [v,zz v n,zz v (uZ n m p.w p.m).1,zz v m])) ?_;rw[e,if_pos ⟨j2,s1⟩];exact .refl
  ·refine zb.t (zen v m hv.p45.s o2.p45.s)<|⟨Pt,ptE,[zz v m],rfl,Ob.o0 ?_⟩;refine⟨[zz v m],rfl,Ob.o7 ?_⟩;exact zb.see 9 _ (za3 [v,zz v n,zz v m] (by show((3:Nat):Int)<=_;decide)) rfl rfl rfl<|zb.t (znh (kG [v,zz v n,zz v m]))<|tail _ (λh=>s1 h.2) rfl
 ·have j2:¬p.j=1:=j2;refine zb.t (zen v m hv.p45.s o2.p45.s)<|⟨Pt,ptE,[zz v m],rfl,Ob.o0 ?_⟩;refine⟨[zz v m],rfl,Ob.o7 ?_⟩;exact zb.see 8 _ (za3 [v,zz v n,zz v m] (by show((3:Nat):Int)<=_;decide)) rfl rfl rfl<|zb.t (znh (kG [v,zz v n,zz v m]))<|tail _ (λh=>j2 h.1) rfl
theorem zBm(a v b:Pt)(p:Pen):CG0 316 [.agg (ptE a),.agg (ptE v),.agg (ptE b),.agg (ji p)] [] (.sl zk (jb a v b p)) []:=by
 refine zc Tryz.func316 ?_
 have bad:¬(kF p/\zr a/\zr v/\zr b/\¬v=a/\¬v=b)->LE (.val (.slice none 0 0)) (.sl zk (jb a v b p)):=λh=>by
  unfold jb;rw[if_pos h];exact zD
 refine zb.t (zcz p)<|⟨λa1=>bad (λh=>a1 h.1),λa1=>?_⟩;refine zb.t (kH a)<|⟨λa2=>bad (λh=>a2 h.2.1),λa2=>?_⟩;refine zb.t (kH v)<|⟨λa3=>bad (λh=>a3 h.2.2.1),λa3=>?_⟩;refine zb.t (kH b)<|⟨λa4=>bad (λh=>a4 h.2.2.2.1),λa4=>?_⟩;refine⟨λa5=>bad (λh=>h.2.2.2.2.1 (k8.1 a5)),λa5=>?_⟩;refine⟨λa6=>bad (λh=>h.2.2.2.2.2 (k8.1 a6)),λa6=>?_⟩
 have hok:kF p/\zr a/\zr v/\zr b/\¬v=a/\¬v=b:=
  ⟨Xa.1 a1,Xa.1 a2,Xa.1 a3,Xa.1 a4,λe=>a5 (k8.2 e),λe=>a6 (k8.2 e)⟩
 have hv:=hok.2.2.1;have hw:=hok.1.1;have e:=zsF hok
 have fin:∀(r:List Pt),jb a v b p=kQ r->((r.length:Int)=0->LE (.val (.slice none 0 0)) (.sl zk (jb a v b p)))/\(¬(r.length:Int)=0->jb a v b p=[r]):=λr hr=>by
  refine⟨λh=>?_,λh=>?_⟩
  ·have:r=[]:=Xn oM;rw[hr,this];exact zD
  ·rw[hr];unfold kQ;rw[if_neg (λk=>h (by rw[k];rfl))]
 refine⟨λj1=>?_,λj1=>?_⟩
 ·have j1:p.j=3:=j1;refine zb.t (zrb v p.w) ?_;intro hl;have f:=fin _ (e.trans (if_pos j1));refine⟨λz=>f.1 z,λz=>?_⟩;refine⟨List Pt,zk,[vA v p.w],rfl,Ob.o0 ?_⟩;exact z9 (f.2 z).symm
 have j1:¬p.j=3:=j1;rw[if_neg j1]at e;refine zb.t (zyM a v b p.w)<|⟨λk=>?_,λk=>?_⟩
 ·have k:¬(qx a v b p.w).2.2=true:=k;rw[if_pos (by simpa using k)]at e;rw[e];exact zD
 have k:(qx a v b p.w).2.2=true:=Xa.1 k;rw[if_neg (by rw[k];decide)]at e;have oh:=zj0 (a:=a) (v:=v) (b:=b) hw;have o1:=ziu hw oh.1;have o2:=ziu hw oh.2;generalize (qx a v b p.w).1=n at*;generalize (qx a v b p.w).2.1=m at*;refine zb.t (r_tip n m p.w p.m) ?_;have ht:=zsE n m p.w p.m;have cn:=zwh v n;rw[zjT hv o1]at cn;have cm:=zwh v m;rw[zjT hv o2]at cm;refine Dr.d<|zb.t cn<|⟨Pt,ptE,[v,zz v n],rfl,Ob.o0 ?_⟩;refine Ob.mk (by kernel_rfl) ?_
 have plain:(¬(p.j=1/\(uZ n m p.w p.m).2=true))->jb a v b p=kQ (kG [v,zz v n,zz v m]):=λh=>by
  rw[e,if_neg h]
 refine⟨λj2=>?_,λj2=>?_⟩
 ·have j2:p.j=1:=j2;refine⟨λs1=>?_,λs1=>?_⟩
  ·unfold zr at hv;(iterate 2 refine Ar.o ?_);refine⟨Pt,ptE,[zz v (uZ n m p.w p.m).1],rfl,Ob.o0 ?_⟩;refine⟨[zz v (uZ n m p.w p.m).1],rfl,Ob.o7 ?_⟩;refine zb.t cm<|⟨Pt,ptE,[zz v m],rfl,Ob.o0 ?_⟩;refine⟨[zz v m],rfl,Ob.o14 ?_⟩;refine zb.see 11 _ (za2 [v,zz v n,zz v (uZ n m p.w p.m).1,zz v m]) rfl rfl rfl ?_;intro hl;have f:=fin (kG [v,zz v n,zz v (uZ n m p.w p.m).1,zz v m]) (by rw[e,if_pos ⟨j2,s1⟩]);refine⟨λz=>f.1 z,λz=>?_⟩;refine⟨List Pt,zk,[kG [v,zz v n,zz v (uZ n m p.w p.m).1,zz v m]],rfl,Ob.o0 ?_⟩
   exact z9 (f.2 z).symm
  ·refine zb.t cm<|⟨Pt,ptE,[zz v m],rfl,Ob.o0 ?_⟩;refine⟨[zz v m],rfl,Ob.o7 ?_⟩;refine zb.see 9 _ (za2 [v,zz v n,zz v m]) rfl rfl rfl ?_;intro hl;have f:=fin (kG [v,zz v n,zz v m]) (plain λh=>s1 h.2);refine⟨λz=>f.1 z,λz=>?_⟩;refine⟨List Pt,zk,[kG [v,zz v n,zz v m]],rfl,Ob.o0 ?_⟩;exact z9 (f.2 z).symm
 ·have j2:¬p.j=1:=j2;refine zb.t cm<|⟨Pt,ptE,[zz v m],rfl,Ob.o0 ?_⟩;refine⟨[zz v m],rfl,Ob.o7 ?_⟩;refine zb.see 9 _ (za2 [v,zz v n,zz v m]) rfl rfl rfl ?_;intro hl;have f:=fin (kG [v,zz v n,zz v m]) (plain λh=>j2 h.1);refine⟨λz=>f.1 z,λz=>?_⟩;refine⟨List Pt,zk,[kG [v,zz v n,zz v m]],rfl,Ob.o0 ?_⟩;exact z9 (f.2 z).symm
theorem zj1{l:List Pl}{i:Nat}{x:Pl}(h:l[i]? =some x):zar (l.take (i+1))=zar (l.take i)++if 3<=x.pts.length then[x.pts] else[]:=by
 unfold zar;rw[Xm,h]
 by_cases c:3<=x.pts.length
 ·simp[c]
 ·simp[c]
theorem zpq(l:List Pl):(zar l).length<=l.length:=by
 unfold zar;rw[XF];exact Q7 _ _
theorem zwK(l:List Pl)(hl:l.length<=4096)(hp:∀q∈l,q.pts.length<=4096):CG0 108 [.sl plE l] [] (.sl zk (zar l)) []:=by
 refine zc Tryz.func108 ?_;intro hl1;refine⟨Nat,λi=>⟨[(3,.own 0),(6,.sl plE l),(7,i64 (l.length:Int)),(8,i64 (i:Int))],[(0,.arr 72 zk 1 (zar (l.take i)))],1,24,0⟩,λi=>i<=l.length,λi=>l.length - i,0,?_,?_,?_⟩
 ·exact Xe _
 ·exact zE [(0,none)]
 rintro i hi
 have hlen:=zpq (l.take i);rw[Xk]at hlen;refine⟨λg=>?_,λg=>?_⟩
 ·have g:(i:Int) < l.length:=g;refine Ob.o ?_;intro x hx;have hx:l[i]? =some x:=hx;intro hl3;have e:=zj1 hx;refine⟨λc=>?_,λc=>?_⟩
  ·have c:(3:Int)<=x.pts.length:=c;refine zb.t ((znf x.pts (hp x (Xd hx))).plain rfl)<|⟨List Pt,zk,[x.pts],rfl,Ob.o0 ?_⟩;refine⟨[x.pts],rfl,Ob.o15 ?_⟩;refine Ar.o<|⟨i+1,oM,zC [3] ⟨congrArg (λq=>some (Mem.arr 72 zk 1 q)) ?_,trivial⟩,by dsimp only;omega⟩;rw[e,if_pos oM]
  ·have c:¬(3:Int)<=x.pts.length:=c;refine Ar.o<|⟨i+1,oM,zC [0] ⟨congrArg (λq=>some (Mem.arr 72 zk 1 q)) ?_,trivial⟩,by dsimp only;omega⟩;rw[e,if_neg oM,XE]
 ·have g:¬(i:Int) < l.length:=g;exact z9 (by rw[Xg oM])
theorem zwL(l:List Pl)(hl:l.length<=4096)(hp:∀q∈l,q.pts.length<=4096):CG0 59 [.sl plE l] [] (.sl zk (zar l)) []:=by
 refine zc Tryz.func59 ?_;refine⟨List Pt,zk,[],rfl,Ob.o2 ?_⟩;refine⟨Nat,λi=>⟨[(3,.own 0),(0,.sl plE l),(4,i64 (i:Int))],[(0,.arr 72 zk 1 (zar (l.take i)))],1,29,0⟩,λi=>i<=l.length,λi=>l.length - i,0,?_,?_,?_⟩
 ·exact Xe _
 ·exact zf [0]
 rintro i hi
 have hlen:=zpq (l.take i);rw[Xk]at hlen;intro hl1;refine⟨λg=>?_,λg=>?_⟩
 ·have g:(i:Int) < l.length:=g;refine Ob.o ?_;intro x hx;have hx:l[i]? =some x:=hx;intro hl3;have e:=zj1 hx;refine⟨λc=>?_,λc=>?_⟩
  ·have c:(3:Int)<=x.pts.length:=c;refine Ob.o ?_;intro y hy;have ey:y=x:=Xj ((show l[i]? =some y from hy).symm.trans hx);rw[ey];refine zb.t (zo9 x.pts (hp x (Xd hx)))<|⟨List Pt,zk,[x.pts],rfl,Ob.o0 ?_⟩;refine⟨[x.pts],rfl,Ob.o15 ?_⟩;refine Ar.o<|⟨i+1,oM,zC [2] ⟨congrArg (λq=>some (Mem.arr 72 zk 1 q)) ?_,trivial⟩,by dsimp only;omega⟩;rw[e,if_pos oM]
  ·have c:¬(3:Int)<=x.pts.length:=c;refine Ar.o<|⟨i+1,oM,zC [0] ⟨congrArg (λq=>some (Mem.arr 72 zk 1 q)) ?_,trivial⟩,by dsimp only;omega⟩;rw[e,if_neg oM,XE]
 ·have g:¬(i:Int) < l.length:=g;exact z9 (by rw[Xg oM])
theorem zaK{a b c:Int}(ha: -1048576<=a/\a<=1048576)(hb: -1048576<=b/\b<=1048576)(hc: -1048576<=c/\c<=1048576):
  (-4194304<=a - 2*b+c/\a - 2*b+c<=4194304)/\0<=(a - 2*b+c)*(a - 2*b+c)/\(a - 2*b+c)*(a - 2*b+c)<=17592186044416:=by
 have h: -4194304<=a - 2*b+c/\a - 2*b+c<=4194304:=oM;have h1:=jx (A:=4194304) (B:=4194304) h h;have h2:=jg (a - 2*b+c);omega
theorem vO{a b c:Pt}(ha:zr a)(hb:zr b)(hc:zr c):0<=yu a b c/\yu a b c<=35184372088832:=by
 have h1:=zaK ha.1 hb.1 hc.1;have h2:=zaK ha.2 hb.2 hc.2;unfold yu;omega
theorem zj2(a b c:Pt)(ha:zr a)(hb:zr b)(hc:zr c):CG0 335 [.agg (ptE a),.agg (ptE b),.agg (ptE c)] [] (i64 (yu a b c)) []:=by
 have h1:=zaK ha.1 hb.1 hc.1;have h2:=zaK ha.2 hb.2 hc.2;unfold zr at ha hb hc;refine zc Tryz.func335 ?_;refine Dr.k ?_;(iterate 9 refine Ar.o ?_);exact .refl
theorem zrf(a b c:Pt)(ha:zr a)(hb:zr b)(hc:zr c):CG0 385 [.agg (ptE a),.agg (ptE b),.agg (ptE c)] [] (i64 (yu a b c)) []:=by
 have h1:=zaK ha.1 hb.1 hc.1;have h2:=zaK ha.2 hb.2 hc.2;unfold zr at ha hb hc;refine zc Tryz.func385 ?_;(iterate 9 refine Ar.o ?_);exact .refl
theorem zfd{need tol:Int}{i:Nat}(h:i<=64):yD need tol (65 - i) i=if enough need tol i then((i:Int),0) else yD need tol (65 - (i+1)) (i+1):=by
 rw[show 65 - i=(64 - i)+1 by omega,yD,show 65 - (i+1)=64 - i by omega]
theorem zfe{i:Nat}{tol:Int}(hi:i<=64)(ht:1<=tol/\tol<=256):
  (-65536<=16*(i:Int)*i/\16*(i:Int)*i<=65536)/\(-4194304<=16*(i:Int)*i*i/\16*(i:Int)*i*i<=4194304)/\
  (-268435456<=16*(i:Int)*i*i*i/\16*(i:Int)*i*i*i<=268435456)/\(-68719476736<=16*(i:Int)*i*i*i*tol/\16*(i:Int)*i*i*i*tol<=68719476736)/\
  (-17592186044416<=16*(i:Int)*i*i*i*tol*tol/\16*(i:Int)*i*i*i*tol*tol<=17592186044416):=by
 have h2:=jx (A:=1024) (B:=64) (a:=16*(i:Int)) (b:=i) oM oM;have h3:=jx (A:=65536) (B:=64) (a:=16*(i:Int)*i) (b:=i) oM oM;have h4:=jx (A:=4194304) (B:=64) (a:=16*(i:Int)*i*i) (b:=i) oM oM;have h5:=jx (A:=268435456) (B:=256) (a:=16*(i:Int)*i*i*i) (b:=tol) oM oM;have h6:=jx (A:=68719476736) (B:=256) (a:=16*(i:Int)*i*i*i*tol) (b:=tol) oM oM;omega
def zhZ(c:Int×Int):SV:=.tup [i64 c.1,i64 c.2]
theorem uu{c:Int×Int}{a b:Int}(h:c=(a,b)):LE (.tup [i64 a,i64 b]) (zhZ c):=by subst h;exact .refl
theorem zpr(need tol:Int)(l:List Pt)(hl:l.length<=4):CG0 334 [i64 need,i64 tol,.sl ptE l] [] (zhZ (kZ need tol l)) []:=by
 refine zc Tryz.func334 ?_;have bad:¬(1<=tol/\tol<=256)->kZ need tol l=(0,2):=λh=>by unfold kZ;rw[if_pos h]
 refine⟨λa1=>uu (bad (λh=>by have a1:tol < 1:=a1;omega)),λa1=>?_⟩;refine⟨λa2=>uu (bad (λh=>by have a2:256 < tol:=a2;omega)),λa2=>?_⟩;have ht:1<=tol/\tol<=256:=⟨by have a1:¬tol < 1:=a1;omega,by have a2:¬256 < tol:=a2;omega⟩;intro hl2;refine⟨Nat,λi=>⟨[(0,i64 need),(1,i64 tol),(17,.sl ptE l),(18,i64 (l.length:Int)),(19,i64 (i:Int))],[],0,46,0⟩,λi=>i<=l.length/\∀p∈l.take i,zr p,λi=>l.length - i,0,?_,?_,?_⟩
 ·exact⟨Xe _,λp hp=>by cases hp⟩
 ·exact zE []
 rintro i ⟨h1,h2⟩
 refine⟨λg=>?_,λg=>?_⟩
 ·have g:(i:Int) < l.length:=g;refine Ob.o ?_;intro x hx;have hx:l[i]? =some x:=hx;refine zb.t (qg x)<|⟨λb=>?_,λb=>?_⟩
  ·refine uu ?_;unfold kZ;rw[kS ht,if_pos (λk=>b (k x (Xd hx)))]
  ·have b:=Xa.1 b;refine Ar.o<|⟨i+1,⟨oM,λp hp=>?_⟩,zE [],by dsimp only;omega⟩;rw[Xm,hx]at hp
   rcases Xo.1 hp with hp | hp
   ·exact h2 p hp
   ·simp at hp;rw[hp];exact b
 have g:¬(i:Int) < l.length:=g;have hv:∀p∈l,zr p:=by rw[Xg oM]at h2;exact h2
 have e:kZ need tol l=yD need tol 64 1:=by unfold kZ;rw[kS ht,kS hv]
 refine⟨Nat,λi=>⟨[(0,i64 need),(1,i64 tol),(10,i64 (i:Int))],[],0,46,0⟩,λi=>1<=i/\i<=65/\yD need tol (65 - i) i=yD need tol 64 1,λi=>65 - i,1,?_,?_,?_⟩
 ·exact⟨dC,dC,rfl⟩
 ·exact zE []
 rintro i ⟨h3,h4,h5⟩
 refine⟨λg=>?_,λg=>?_⟩
 ·have g:(i:Int)<=64:=g;have ch:=zfe (i:=i) oM ht;have st:=zfd (need:=need) (tol:=tol) (i:=i) oM;rw[h5]at st;(iterate 6 refine Ar.o ?_);refine⟨λk=>?_,λk=>?_⟩
  ·have k:enough need tol i:=k;exact uu (by rw[e,st,if_pos k])
  ·have k:¬enough need tol i:=k;refine Ar.o ?_;refine⟨i+1,⟨oM,oM,by rw[st,if_neg k]⟩,zE [],by dsimp only;omega⟩
 ·have g:¬(i:Int)<=64:=g;have h6:i=65:=oM;subst h6;exact uu (by rw[e,← h5];rfl)
theorem zwM(tol:Int):CG0 118 [i64 tol] [] (pr (zeO tol)) []:=by
 refine zc Tryz.func118 ?_;refine⟨λh=>?_,λh=>zd (λk=>h k.1)⟩;exact zF ⟨λk=>⟨h,k⟩,λk=>k.2⟩
theorem znl(l:List Pt):CG0 352 [.sl ptE l] [] (pr (∀p∈l,zr p)) []:=by
 refine zc Tryz.func352 ?_;refine⟨Nat,λi=>⟨[(0,.sl ptE l),(3,i64 (i:Int))],[],0,16,0⟩,λi=>i<=l.length/\∀p∈l.take i,zr p,λi=>l.length - i,0,?_,?_,?_⟩
 ·exact⟨Xe _,λp hp=>by cases hp⟩
 ·exact zE []
 rintro i ⟨h1,h2⟩
 intro hl1;refine⟨λg=>?_,λg=>?_⟩
 ·have g:(i:Int) < l.length:=g;refine Ob.o ?_;intro x hx;have hx:l[i]? =some x:=hx;refine zb.t (kH x)<|⟨λb=>zd λk=>b (k x (Xd hx)),λb=>?_⟩;have b:=Xa.1 b;refine Ar.o<|⟨i+1,⟨oM,λp hp=>?_⟩,zE [],by dsimp only;omega⟩;rw[Xm,hx]at hp
  rcases Xo.1 hp with hp | hp
  ·exact h2 p hp
  ·simp at hp;rw[hp];exact b
 ·have g:¬(i:Int) < l.length:=g;rw[Xg oM]at h2;exact zT h2
theorem zyS(a b c:Pt)(tol:Int):CG0 350 [.sl ptE [a,b,c],i64 tol,i64 1] [] (zhZ (kZ (1*(yu a b c)) tol [a,b,c])) []:=by
 refine zc Tryz.func350 ?_;refine zb.t (zwM tol)<|⟨λa1=>uu (by unfold kZ;rw[if_pos (show ¬(1<=tol/\tol<=256) from a1)]),λa1=>?_⟩;have ht:1<=tol/\tol<=256:=Xa.1 a1;refine zb.t (znl [a,b,c])<|⟨λa2=>uu (by unfold kZ;rw[kS ht,if_pos a2]),λa2=>?_⟩;have hv:∀p∈[a,b,c],zr p:=Xa.1 a2;have e:kZ (1*(yu a b c)) tol [a,b,c]=yD (1*(yu a b c)) tol 64 1:=by unfold kZ;rw[kS ht,kS hv]
 have ha:=hv a (by simp);have hb:=hv b (by simp);have hc:=hv c (by simp);have r1:=vO ha hb hc;refine Dr.k<|Ob.mk (by show(0:Int)<=0/\(0:Int) < (3:Nat);decide) ?_;intro x hx
 cases (show some a=some x from hx)
 refine Ob.mk (by show(0:Int)<=1/\(1:Int) < (3:Nat);decide) ?_;intro x hx
 cases (show some b=some x from hx)
 refine Ob.mk (by show(0:Int)<=2/\(2:Int) < (3:Nat);decide) ?_;intro x hx
 cases (show some c=some x from hx)
 refine zb.t (zrf a b c ha hb hc) ?_;intro hl;refine⟨λk=>absurd k (by show ¬(3:Int) < (3:Nat);decide),λ_=>?_⟩;generalize hD:yu a b c=D at*;have rD:0<=D/\D<=35184372088832:=oM;refine⟨Nat,λi=>⟨[(1,i64 tol),(2,i64 1),(8,i64 D),(9,i64 (i:Int))],[],0,62,0⟩,λi=>1<=i/\i<=65/\yD (1*D) tol (65 - i) i=yD (1*D) tol 64 1,λi=>65 - i,1,?_,?_,?_⟩
 ·exact⟨dC,dC,rfl⟩
 ·exact zE []
 rintro i ⟨h3,h4,h5⟩
 refine⟨λg=>?_,λg=>?_⟩
 ·have g:(i:Int)<=64:=g;have ch:=zfe (i:=i) oM ht;have st:=zfd (need:=1*D) (tol:=tol) (i:=i) oM;rw[h5]at st;(iterate 7 refine Ar.o ?_);refine⟨λk=>?_,λk=>?_⟩
  ·have k:enough (1*D) tol i:=k;exact uu (by rw[e,st,if_pos k])
  ·have k:¬enough (1*D) tol i:=k;refine Ar.o ?_;refine⟨i+1,⟨oM,oM,by rw[st,if_neg k]⟩,zE [],by dsimp only;omega⟩
 ·have g:¬(i:Int)<=64:=g;have h6:i=65:=oM;subst h6;exact uu (by rw[e,← h5];rfl)
theorem zyT(a b c d:Pt)(tol:Int):CG0 350 [.sl ptE [a,b,c,d],i64 tol,i64 9] [] (zhZ (kZ (9*(max (yu a b c) (yu b c d))) tol [a,b,c,d])) []:=by
 refine zc Tryz.func350 ?_;refine zb.t (zwM tol)<|⟨λa1=>uu (by unfold kZ;rw[if_pos (show ¬(1<=tol/\tol<=256) from a1)]),λa1=>?_⟩;have ht:1<=tol/\tol<=256:=Xa.1 a1;refine zb.t (znl [a,b,c,d])<|⟨λa2=>uu (by unfold kZ;rw[kS ht,if_pos a2]),λa2=>?_⟩;have hv:∀p∈[a,b,c,d],zr p:=Xa.1 a2;have e:kZ (9*(max (yu a b c) (yu b c d))) tol [a,b,c,d]=yD (9*(max (yu a b c) (yu b c d))) tol 64 1:=by unfold kZ;rw[kS ht,kS hv]
 have ha:=hv a (by simp);have hb:=hv b (by simp);have hc:=hv c (by simp);have hd:=hv d (by simp);have r1:=vO ha hb hc;have r2:=vO hb hc hd;refine Dr.k<|Ob.mk (by show(0:Int)<=0/\(0:Int) < (4:Nat);decide) ?_;intro x hx
 cases (show some a=some x from hx)
 refine Ob.mk (by show(0:Int)<=1/\(1:Int) < (4:Nat);decide) ?_;intro x hx
 cases (show some b=some x from hx)
 refine Ob.mk (by show(0:Int)<=2/\(2:Int) < (4:Nat);decide) ?_;intro x hx
 cases (show some c=some x from hx)
 refine zb.t (zrf a b c ha hb hc) ?_;intro hl;refine⟨λ_=>?_,λk=>absurd (show(3:Int) < (4:Nat) by decide) k⟩;refine Dr.k<|Ob.mk (by show(0:Int)<=1/\(1:Int) < (4:Nat);decide) ?_;intro x hx
 cases (show some b=some x from hx)
 refine Ob.mk (by show(0:Int)<=2/\(2:Int) < (4:Nat);decide) ?_;intro x hx
 cases (show some c=some x from hx)
 refine Ob.mk (by show(0:Int)<=3/\(3:Int) < (4:Nat);decide) ?_;intro x hx
 cases (show some d=some x from hx)
 refine zb.t (zrf b c d hb hc hd) ?_;generalize hD:max (yu a b c) (yu b c d)=D at*;have rD:0<=D/\D<=35184372088832:=oM;refine⟨Nat,λi=>⟨[(1,i64 tol),(2,i64 9),(8,i64 D),(9,i64 (i:Int))],[],0,62,0⟩,λi=>1<=i/\i<=65/\yD (9*D) tol (65 - i) i=yD (9*D) tol 64 1,λi=>65 - i,1,?_,?_,?_⟩
 ·exact⟨dC,dC,rfl⟩
 ·exact jG [] ⟨rfl,rfl,congrArg (λq=>some (i64 q)) hD,rfl,trivial⟩ trivial
 rintro i ⟨h3,h4,h5⟩
 refine⟨λg=>?_,λg=>?_⟩
 ·have g:(i:Int)<=64:=g;have ch:=zfe (i:=i) oM ht;have st:=zfd (need:=9*D) (tol:=tol) (i:=i) oM;rw[h5]at st;(iterate 7 refine Ar.o ?_);refine⟨λk=>?_,λk=>?_⟩
  ·have k:enough (9*D) tol i:=k;exact uu (by rw[e,st,if_pos k])
  ·have k:¬enough (9*D) tol i:=k;refine Ar.o ?_;refine⟨i+1,⟨oM,oM,by rw[st,if_neg k]⟩,zE [],by dsimp only;omega⟩
 ·have g:¬(i:Int)<=64:=g;have h6:i=65:=oM;subst h6;exact uu (by rw[e,← h5];rfl)
theorem zt3(a b c:Pt)(tol:Int)(ha:zr a)(hb:zr b)(hc:zr c):CG0 286 [.agg (ptE a++ptE b++ptE c),i64 tol] [] (zhZ (j7 a b c tol)) []:=by
 refine zc Tryz.func286 ?_;refine zfz.data<|Dr.k ?_;have r1:=vO ha hb hc;refine zb.t (zj2 a b c ha hb hc)<|⟨Pt,ptE,[a,b,c],rfl,Ob.o13 ?_⟩;exact zb.t (zpr (yu a b c) tol [a,b,c] (by show 3<=4;decide))<|.refl
theorem zt4(a b c:Pt)(tol:Int):CG0 300 [.agg (ptE a++ptE b++ptE c),i64 tol] [] (zhZ (j7 a b c tol)) []:=by
 refine zc Tryz.func300 ?_;refine zfz.data<|⟨Pt,ptE,[a,b,c],rfl,Ob.o0 ?_⟩;have c0:=zyS a b c tol;rw[JI]at c0;exact zb.see 0 _ c0 rfl rfl rfl<|.refl
theorem zt5(a b c d:Pt)(tol:Int)(ha:zr a)(hb:zr b)(hc:zr c)(hd:zr d):CG0 291 [.agg (ptE a++ptE b++ptE c++ptE d),i64 tol] [] (zhZ (j8 a b c d tol)) []:=by
 refine zc Tryz.func291 ?_;refine zfz.data<|Dr.k ?_;have r1:=vO ha hb hc;refine zb.t (zj2 a b c ha hb hc) ?_;have r2:=vO hb hc hd;refine zb.t (zj2 b c d hb hc hd)<|Ar.fit (by show -9223372036854775808<=9*max (yu a b c) (yu b c d)/\9*max (yu a b c) (yu b c d)<=9223372036854775807;omega)<|⟨Pt,ptE,[a,b,c,d],rfl,Ob.o13 ?_⟩;exact zb.t (zpr (9*max (yu a b c) (yu b c d)) tol [a,b,c,d] (by show 4<=4;decide))<|.refl
theorem zt6(a b c d:Pt)(tol:Int):CG0 302 [.agg (ptE a++ptE b++ptE c++ptE d),i64 tol] [] (zhZ (j8 a b c d tol)) []:=by
 refine zc Tryz.func302 ?_;refine zfz.data<|⟨Pt,ptE,[a,b,c,d],rfl,Ob.o0 ?_⟩;have c0:=zyT a b c d tol;exact zb.see 0 _ c0 rfl rfl rfl<|.refl
theorem zwN(a b:Int)(ha: -8796093022208<=a/\a<=8796093022208)(hb:0 < b/\b<=1048576):CG0 339 [i64 a,i64 b] [] (i64 (zdx a b)) []:=by
 have td:=tdm (m:=2*a+b) (n:=2*b) oM;have tr:=zjk (m:=2*a+b) (n:=2*b) oM ⟨oM,oM⟩;refine zc Tryz.func339 ?_;(iterate 3 refine Ar.o ?_);have e:zdx a b=(2*a+b) / (2*b):=rfl;have tr2:=tr.2 oM;have tr1:=tr.1;clear tr;refine Dv.any (by omega:2*b≠0)<|Ar.fit tr1<|Dv.any (by omega:2*b≠0)<|⟨λk=>?_,λk=>?_⟩
 ·have k:(2*a+b).tmod (2*b) < 0:=k;exact Ar.fit (by unfold R64 at tr1;omega)<|zi (by rw[e];omega)
 ·have k:¬(2*a+b).tmod (2*b) < 0:=k;exact zi (by rw[e];omega)
theorem ziv(a b:Int)(ha: -8796093022208<=a/\a<=8796093022208)(hb:0 < b/\b<=1048576):CG0 353 [i64 a,i64 b] [] (i64 (zdx a b)) []:=by
 have td:=tdm (m:=2*a+b) (n:=2*b) oM;have tr:=zjk (m:=2*a+b) (n:=2*b) oM ⟨oM,oM⟩;refine zc Tryz.func353 ?_;(iterate 3 refine Ar.o ?_);have e:zdx a b=(2*a+b) / (2*b):=rfl;have tr2:=tr.2 oM;have tr1:=tr.1;clear tr;refine Dv.any (by omega:2*b≠0)<|Ar.fit tr1 ?_;(iterate 2 refine Ar.o ?_);refine⟨λk=>?_,λk=>?_⟩
 ·have k:2*a+b < 0:=k;(iterate 3 refine Ar.o ?_);refine Dv.any (by omega:2*b≠0)<|⟨λk2=>?_,λk2=>?_⟩
  ·have k2:¬(2*a+b).tmod (2*b)=0:=k2;exact Ar.fit (by unfold R64 at tr1;omega)<|zi (by rw[e];omega)
  ·have k2:(2*a+b).tmod (2*b)=0:=Xa.1 k2;exact zi (by rw[e];omega)
 ·have k:¬2*a+b < 0:=k;exact zi (by rw[e];omega)
theorem zsG(i n:Int):CG0 351 [i64 i,i64 n] [] (pr (1<=n/\n<=64/\0<=i/\i<=n)) []:=by
 refine zc Tryz.func351 ?_;refine⟨λh1=>?_,λh1=>zd (λk=>h1 k.1)⟩;refine⟨λh2=>?_,λh2=>zd (λk=>h2 k.2.1)⟩;refine⟨λh3=>?_,λh3=>zd (λk=>h3 k.2.2.1)⟩;exact zF ⟨λh4=>⟨h1,h2,h3,h4⟩,λh=>h.2.2.2⟩
theorem zwO(l:List Pt)(i n:Int)(hl:l.length<=4):CG0 337 [.sl ptE l,i64 i,i64 n] [] (pr (zo6 l i n)) []:=by
 refine zc Tryz.func337 ?_;intro hl1;refine⟨Nat,λk=>⟨[(1,i64 i),(2,i64 n),(9,.sl ptE l),(10,i64 (l.length:Int)),(11,i64 (k:Int))],[],0,34,0⟩,λk=>k<=l.length/\∀p∈l.take k,zr p,λk=>l.length - k,0,?_,?_,?_⟩
 ·exact⟨Xe _,λp hp=>by cases hp⟩
 ·exact zE []
 rintro k ⟨h1,h2⟩
 refine⟨λg=>?_,λg=>?_⟩
 ·have g:(k:Int) < l.length:=g;refine Ob.o ?_;intro x hx;have hx:l[k]? =some x:=hx;refine zb.t (qg x)<|⟨λb=>zd λq=>b (q.1 x (Xd hx)),λb=>?_⟩;have b:=Xa.1 b;refine Ar.o<|⟨k+1,⟨oM,λp hp=>?_⟩,zE [],by dsimp only;omega⟩;rw[Xm,hx]at hp
  rcases Xo.1 hp with hp | hp
  ·exact h2 p hp
  ·simp at hp;rw[hp];exact b
 have g:¬(k:Int) < l.length:=g;have hv:∀p∈l,zr p:=by rw[Xg oM]at h2;exact h2
 refine⟨λh1=>?_,λh1=>zd (λk=>h1 k.2.1)⟩;refine⟨λh2=>?_,λh2=>zd (λk=>h2 k.2.2.1)⟩;refine⟨λh3=>?_,λh3=>zd (λk=>h3 k.2.2.2.1)⟩;exact zF ⟨λh4=>⟨hv,h1,h2,h3,h4⟩,λh=>h.2.2.2.2⟩
theorem znm{k i n x y z:Int}(hk:0<=k/\k<=64)(hi:0<=i/\i<=64)(hn:1<=n/\n<=64)(hx: -1048576<=x/\x<=1048576)(hy: -1048576<=y/\y<=1048576)(hz: -1048576<=z/\z<=1048576):
  (-4096<=k*k/\k*k<=4096)/\(-4294967296<=k*k*x/\k*k*x<=4294967296)/\(-8192<=2*i*k/\2*i*k<=8192)/\(-8589934592<=2*i*k*y/\2*i*k*y<=8589934592)/\
  (-4096<=i*i/\i*i<=4096)/\(-4294967296<=i*i*z/\i*i*z<=4294967296)/\(0 < n*n/\n*n<=4096):=by
 have h1:=jx (A:=64) (B:=64) (a:=k) (b:=k) oM oM;have h2:=jx (A:=4096) (B:=1048576) (a:=k*k) (b:=x) oM oM;have h3:=jx (A:=128) (B:=64) (a:=2*i) (b:=k) oM oM;have h4:=jx (A:=8192) (B:=1048576) (a:=2*i*k) (b:=y) oM oM;have h5:=jx (A:=64) (B:=64) (a:=i) (b:=i) oM oM;have h6:=jx (A:=4096) (B:=1048576) (a:=i*i) (b:=z) oM oM;have h7:=jx (A:=64) (B:=64) (a:=n) (b:=n) oM oM;have h8:=QW (show 0 < n by omega) (show 0 < n by omega);omega
theorem znn{k i n x y z u:Int}(hk:0<=k/\k<=64)(hi:0<=i/\i<=64)(hn:1<=n/\n<=64)(hx: -1048576<=x/\x<=1048576)(hy: -1048576<=y/\y<=1048576)(hz: -1048576<=z/\z<=1048576)(hu: -1048576<=u/\u<=1048576):
  ((-4096<=k*k/\k*k<=4096)/\(-262144<=k*k*k/\k*k*k<=262144)/\(-274877906944<=k*k*k*x/\k*k*k*x<=274877906944))/\
  ((-12288<=3*i*k/\3*i*k<=12288)/\(-786432<=3*i*k*k/\3*i*k*k<=786432)/\(-824633720832<=3*i*k*k*y/\3*i*k*k*y<=824633720832))/\
  ((-12288<=3*i*i/\3*i*i<=12288)/\(-786432<=3*i*i*k/\3*i*i*k<=786432)/\(-824633720832<=3*i*i*k*z/\3*i*i*k*z<=824633720832))/\
  ((-4096<=i*i/\i*i<=4096)/\(-262144<=i*i*i/\i*i*i<=262144)/\(-274877906944<=i*i*i*u/\i*i*i*u<=274877906944))/\((0 < n*n/\n*n<=4096)/\(0 < n*n*n/\n*n*n<=262144)):=by
 have h1:=jx (A:=64) (B:=64) (a:=k) (b:=k) oM oM;have h2:=jx (A:=4096) (B:=64) (a:=k*k) (b:=k) oM oM;have h3:=jx (A:=262144) (B:=1048576) (a:=k*k*k) (b:=x) oM oM;have h4:=jx (A:=192) (B:=64) (a:=3*i) (b:=k) oM oM;have h5:=jx (A:=12288) (B:=64) (a:=3*i*k) (b:=k) oM oM;have h6:=jx (A:=786432) (B:=1048576) (a:=3*i*k*k) (b:=y) oM oM;have h7:=jx (A:=192) (B:=64) (a:=3*i) (b:=i) oM oM;have h8:=jx (A:=12288) (B:=64) (a:=3*i*i) (b:=k) oM oM
 have h9:=jx (A:=786432) (B:=1048576) (a:=3*i*i*k) (b:=z) oM oM;have i1:=jx (A:=64) (B:=64) (a:=i) (b:=i) oM oM;have i2:=jx (A:=4096) (B:=64) (a:=i*i) (b:=i) oM oM;have i3:=jx (A:=262144) (B:=1048576) (a:=i*i*i) (b:=u) oM oM;have n1:=jx (A:=64) (B:=64) (a:=n) (b:=n) oM oM;have n2:=jx (A:=4096) (B:=64) (a:=n*n) (b:=n) oM oM;have n3:=QW (show 0 < n by omega) (show 0 < n by omega);have n4:=QW n3 (show 0 < n by omega);omega
theorem zlN(x y z k i n:Int)(hk:0<=k/\k<=64)(hi:0<=i/\i<=64)(hn:1<=n/\n<=64)(hx: -1048576<=x/\x<=1048576)(hy: -1048576<=y/\y<=1048576)(hz: -1048576<=z/\z<=1048576):
  CG0 338 [i64 x,i64 y,i64 z,.ptr [i64 k],.ptr [i64 i],.ptr [i64 n]] [] (i64 (zdx (k*k*x+2*i*k*y+i*i*z) (n*n))) []:=by
 have t:=znm hk hi hn hx hy hz;refine zc Tryz.func338 ?_;(iterate 10 refine Ar.o ?_);exact zb.t (zwN (k*k*x+2*i*k*y+i*i*z) (n*n) oM oM)<|.refl
theorem zlO{a b c:Pt}{i n:Int}(h:zo6 [a,b,c] i n):yV a b c i n=⟨q1 i n a.x b.x c.x,q1 i n a.y b.y c.y⟩:=by
 unfold yV;rw[kS h]
theorem zwP(a b c:Pt)(i n:Int):CG0 290 [.agg (ptE a++ptE b++ptE c),i64 i,i64 n] [] (.agg (ptE (yV a b c i n))) []:=by
 refine zc Tryz.func290 ?_;refine zfz.data<|Dr.k<|⟨Pt,ptE,[a,b,c],rfl,Ob.o13 ?_⟩;refine zb.t (zwO [a,b,c] i n (by show 3<=4;decide))<|⟨λh=>?_,λh=>?_⟩
 ·refine ub (show SV.agg (ptE zp)=_ from ?_);unfold yV;rw[if_pos h]
 have h:=Xa.1 h;obtain⟨hv,n1,n2,i1,i2⟩:=h;have ha:=hv a (by simp);have hb:=hv b (by simp);have hc:=hv c (by simp);exact Ar.o<|Dr.k<|zb.t (zlN a.x b.x c.x (n - i) i n oM oM oM ha.1 hb.1 hc.1)<|zb.t (zlN a.y b.y c.y (n - i) i n oM oM oM ha.2 hb.2 hc.2)<|ub (congrArg (λp=>SV.agg (ptE p)) (zlO ⟨hv,n1,n2,i1,i2⟩).symm)
theorem zwQ(a b c:Pt)(i n:Int):CG0 301 [.agg (ptE a++ptE b++ptE c),i64 i,i64 n] [] (.agg (ptE (yV a b c i n))) []:=by
 refine zc Tryz.func301 ?_;refine zfz.data ?_
 have bad:¬zo6 [a,b,c] i n->LE (.agg (ptE zp)) (.agg (ptE (yV a b c i n))):=λh=>by
  refine ub ?_;unfold yV;rw[if_pos h]
 refine zb.t (zsG i n)<|⟨λh=>bad λk=>h ⟨k.2.1,k.2.2.1,k.2.2.2.1,k.2.2.2.2⟩,λh=>?_⟩;refine⟨Pt,ptE,[a,b,c],rfl,Ob.o0 ?_⟩;refine zb.see 1 _ (znl [a,b,c]) rfl rfl rfl<|Br.mk (λh2=>bad λk=>h2 k.1) (λh2=>?_);obtain⟨n1,n2,i1,i2⟩:=Xa.1 h;have hv:=Xa.1 h2;have ha:=hv a (by simp);have hb:=hv b (by simp);have hc:=hv c (by simp);have t1:=znm (k:=n - i) (i:=i) (n:=n) oM oM oM ha.1 hb.1 hc.1;have t2:=znm (k:=n - i) (i:=i) (n:=n) oM oM oM ha.2 hb.2 hc.2;refine Ar.o ?_
 (iterate 19 refine Ar.o ?_);exact zb.t (ziv ((n - i)*(n - i)*a.x+2*i*(n - i)*b.x+i*i*c.x) (n*n) oM oM)<|Ar.o<|zb.t (ziv ((n - i)*(n - i)*a.y+2*i*(n - i)*b.y+i*i*c.y) (n*n) oM oM)<|ub (congrArg (λp=>SV.agg (ptE p)) (zlO ⟨hv,n1,n2,i1,i2⟩).symm)
theorem zlP(x y z u k i n:Int)(hk:0<=k/\k<=64)(hi:0<=i/\i<=64)(hn:1<=n/\n<=64)(hx: -1048576<=x/\x<=1048576)(hy: -1048576<=y/\y<=1048576)(hz: -1048576<=z/\z<=1048576)(hu: -1048576<=u/\u<=1048576):
  CG0 340 [i64 x,i64 y,i64 z,i64 u,.ptr [i64 k],.ptr [i64 i],.ptr [i64 n]] [] (i64 (zdx (k*k*k*x+3*i*k*k*y+3*i*i*k*z+i*i*i*u) (n*n*n))) []:=by
 have t:=znn hk hi hn hx hy hz hu;refine zc Tryz.func340 ?_;(iterate 19 refine Ar.o ?_);exact zb.t (zwN (k*k*k*x+3*i*k*k*y+3*i*i*k*z+i*i*i*u) (n*n*n) oM oM)<|.refl
theorem zlQ{a b c d:Pt}{i n:Int}(h:zo6 [a,b,c,d] i n):yW a b c d i n=⟨c1 i n a.x b.x c.x d.x,c1 i n a.y b.y c.y d.y⟩:=by
 unfold yW;rw[kS h]
theorem zwR(a b c d:Pt)(i n:Int):CG0 293 [.agg (ptE a++ptE b++ptE c++ptE d),i64 i,i64 n] [] (.agg (ptE (yW a b c d i n))) []:=by
 refine zc Tryz.func293 ?_;refine zfz.data<|Dr.k<|⟨Pt,ptE,[a,b,c,d],rfl,Ob.o13 ?_⟩;refine zb.t (zwO [a,b,c,d] i n (by show 4<=4;decide))<|⟨λh=>?_,λh=>?_⟩
 ·refine ub (show SV.agg (ptE zp)=_ from ?_);unfold yW;rw[if_pos h]
 have h:=Xa.1 h;obtain⟨hv,n1,n2,i1,i2⟩:=h;have ha:=hv a (by simp);have hb:=hv b (by simp);have hc:=hv c (by simp);have hd:=hv d (by simp);exact Ar.o<|Dr.k<|zb.t (zlP a.x b.x c.x d.x (n - i) i n oM oM oM ha.1 hb.1 hc.1 hd.1)<|zb.t (zlP a.y b.y c.y d.y (n - i) i n oM oM oM ha.2 hb.2 hc.2 hd.2)<|ub (congrArg (λp=>SV.agg (ptE p)) (zlQ ⟨hv,n1,n2,i1,i2⟩).symm)
theorem zwS(a b c d:Pt)(i n:Int):CG0 303 [.agg (ptE a++ptE b++ptE c++ptE d),i64 i,i64 n] [] (.agg (ptE (yW a b c d i n))) []:=by
 refine zc Tryz.func303 ?_;refine zfz.data ?_
 have bad:¬zo6 [a,b,c,d] i n->LE (.agg (ptE zp)) (.agg (ptE (yW a b c d i n))):=λh=>by
  refine ub ?_;unfold yW;rw[if_pos h]
 refine zb.t (zsG i n)<|⟨λh=>bad λk=>h ⟨k.2.1,k.2.2.1,k.2.2.2.1,k.2.2.2.2⟩,λh=>?_⟩;refine⟨Pt,ptE,[a,b,c,d],rfl,Ob.o0 ?_⟩;refine zb.see 1 _ (znl [a,b,c,d]) rfl rfl rfl<|Br.mk (λh2=>bad λk=>h2 k.1) (λh2=>?_);obtain⟨n1,n2,i1,i2⟩:=Xa.1 h;have hv:=Xa.1 h2;have ha:=hv a (by simp);have hb:=hv b (by simp);have hc:=hv c (by simp);have hd:=hv d (by simp);have t1:=znn (k:=n - i) (i:=i) (n:=n) oM oM oM ha.1 hb.1 hc.1 hd.1
 have t2:=znn (k:=n - i) (i:=i) (n:=n) oM oM oM ha.2 hb.2 hc.2 hd.2;(iterate 32 refine Ar.o ?_)
 (iterate 5 refine Ar.o ?_);refine zb.t (ziv ((n - i)*(n - i)*(n - i)*a.x+3*i*(n - i)*(n - i)*b.x+3*i*i*(n - i)*c.x+i*i*i*d.x) (n*n*n) oM oM) ?_;(iterate 2 refine Ar.o ?_);exact zb.t (ziv ((n - i)*(n - i)*(n - i)*a.y+3*i*(n - i)*(n - i)*b.y+3*i*i*(n - i)*c.y+i*i*i*d.y) (n*n*n) oM oM)<|ub (congrArg (λp=>SV.agg (ptE p)) (zlQ ⟨hv,n1,n2,i1,i2⟩).symm)
def zgf(prev:SV->SV)(lm:Nat->Option Mem):SV->SV
 |.loc k off=>(match lm k with
  | some (.box _ cs)=>.dptr ((cs.map prev).drop off)
  | _=>.junk)
 |.own k=>(match lm k with
  | some (.arr _ enc _ xs)=>.sl enc xs
  | _=>.junk)
 | .fn f cs=>.dfn f (frzs prev lm cs)
 | .agg cs=>.agg (frzs prev lm cs)
 | .ifc t s=>.ifc t (zgf prev lm s)
 | .val v=>.val v
 | .pr p i=>.pr p i
 | .sl enc xs=>.sl enc xs
 | .dptr cs=>.dptr cs
 | .dfn f cs=>.dfn f cs
 | .bm f cs=>.bm f cs
 | .op v=>.op v
 | .nils=>.nils
 | .anyb=>.anyb
 | .full enc xs=>.full enc xs
 | _=>.junk
 where
 frzs (prev:SV->SV) (lm:Nat->Option Mem):List SV->List SV
  | []=>[]
  | c::cs=>zgf prev lm c::frzs prev lm cs
def frz(lm:Nat->Option Mem):Nat->SV->SV
 | 0=>zgf (λ_=>.junk) lm
 | n+1=>zgf (frz lm n) lm
def zic(lm:Nat->Option Mem)(n:Nat)(s:SV):SV:=
 match s with
 | .tup cs=>.tup (cs.map (frz lm n))
 | s=>frz lm n s
theorem zj3(prev:SV->SV)(lm:Nat->Option Mem):∀cs,zgf.frzs prev lm cs=cs.map (zgf prev lm)
 | []=>rfl
 | c::cs=>by rw[zgf.frzs,zj3 prev lm cs];rfl
section
variable {Keep:Nat->Prop} {M:List (Nat×Mem)} {ρ:zj} {w:World} {lm:Nat->Option Mem}
theorem zwT (hlm:∀k m,lm k=some m->(k,m)∈M) (hm:zN Keep M ρ w) {prev:SV->SV}
  (hp:∀{s:SV} {v:Value},G (λb=>Keep b∨Own M ρ b) (Own M ρ) ρ w s v->D Keep w (prev s) v):
  ∀(s:SV) {v:Value},G (λb=>Keep b∨Own M ρ b) (Own M ρ) ρ w s v->D Keep w (zgf prev lm s) v:=by
 have hsub:∀b,Keep b->Keep b∨Own M ρ b:=λb h=>.inl h
 intro s
 induction s using SV.rec (motive_2:=λcs=>∀{vs:List Value},Gs (λb=>Keep b∨Own M ρ b) (Own M ρ) ρ w cs vs->∀(j:Nat) (s:SV) (v:Value),(zgf.frzs prev lm cs)[j]? =some s->vs[j]? =some v->D Keep w s v) with
 | val v=>intro u hg;rw[hg.val_inv];exact .val v
 | pr p i=>intro u hg;rw[hg.pr_inv];exact .pr p i
 | sl enc xs=>intro u hg;exact hg.sl_inv.less hsub
 | nils=>intro u hg;obtain⟨a,rfl⟩:=hg.nils_inv;exact .nils a
 | anyb=>intro u hg;obtain⟨b,rfl⟩:=hg.anyb_inv;exact .anyb b
 | full enc xs=>intro u hg;obtain⟨a,rfl,hd⟩:=hg.full_inv;exact .full enc xs a (hd.less hsub)
 | dptr cs _=>intro u hg;cases hg with | d _ _ h=>exact h.less hsub
 | dfn f cs _=>intro u hg;cases hg with | d _ _ h=>exact h.less hsub
 | bm f cs _=>intro u hg;cases hg with | d _ _ h=>exact h.less hsub
 | op v=>intro u hg;cases hg with | d _ _ h=>exact h.less hsub
 | ifc t s ih=>
  intro u hg;obtain⟨v,rfl,hv⟩:=hg.ifc_inv;exact .ifc t _ v (ih hv)
 | agg cs ih=>
  intro u hg;obtain⟨vs,rfl,hvs⟩:=hg.agg_inv;exact .agg _ vs (by rw[zj3,XF];exact hvs.1) (ih hvs)
 | fn f cs ih=>
  intro u hg;obtain⟨vs,rfl,hvs⟩:=hg.fn_inv;exact .dfn f _ vs (by rw[zj3,XF];exact hvs.1) (ih hvs)
 | loc k off=>
  intro u hg;obtain⟨b,hρ,rfl⟩:=hg.loc_inv;simp only[zgf]
  split
  ·rename_i T cs hk;have hmem:=hlm k _ hk;obtain⟨b',vs,h1,h2,h3,h4,h5⟩:=hm.rel k _ hmem;rw[hρ]at h1;cases h1
   have hb:=hm.old b ⟨k,_,_,hmem,hρ,rfl⟩;refine .dptr _ b off (λj=>(vs[off+j]?).getD undef) hb.1 hb.2 (λj hj=>?_) (λj s hs=>?_)
   ·have hj':off+j < vs.length:=by simp at hj;omega
    rw[zfC h2];simp only[Xb hj',Qc];exact⟨trivial,h4 _ (KK hj')⟩
   ·rw[XU,XA]at hs
    cases hc:cs[off+j]? with
    | none=>simp[hc]at hs
    | some c=>
     simp[hc]at hs;subst hs;have hj':off+j < vs.length:=by have:=(Xc.1 hc).1;omega
     rw[Xb hj',Qc];exact hp (h5 _ c _ hc (Xb hj'))
  ·exact .junk _
 | own k=>
  intro u hg;obtain⟨hρ,h1⟩:=hg.own_inv;simp only[zgf]
  split
  ·rename_i T α enc sz xs hk;have hmem:=hlm k _ hk;exact ziT hm hmem (λb hb=>.inl hb) (λv b hv hb hk=>(hm.old b ⟨k,_,v,hmem,hv,hb⟩).2 hk) hρ
  ·exact .junk _
 | ptr cs _=>intro u _;exact .junk _
 | eloc _ _ _ _=>intro u _;exact .junk _
 | win _ _ _ _=>intro u _;exact .junk _
 | tup cs _=>intro u _;exact .junk _
 | junk=>intro u _;exact .junk _
 | nil=>rename_i vs _ j s v h _;simp[zgf.frzs]at h
 | cons c cs ihc ihcs=>
  rename_i vs hg j s v h hv;obtain⟨v0,vs',rfl,h1,h2⟩:=hg.cons_inv
  cases j with
  | zero=>simp[zgf.frzs]at h hv;subst h;subst hv;exact ihc h1
  | succ j=>exact ihcs h2 j s v (by simpa[zgf.frzs] using h) (by simpa using hv)
theorem zps(hlm:∀k m,lm k=some m->(k,m)∈M)(hm:zN Keep M ρ w):∀(n:Nat) {s:SV} {v:Value},G (λb=>Keep b∨Own M ρ b) (Own M ρ) ρ w s v->D Keep w (frz lm n s) v
 | 0,s,_,h=>zwT hlm hm (λ_=>.junk _) s h
 | n+1,s,_,h=>zwT hlm hm (λh=>zps hlm hm n h) s h
end
section
def endF(n:Nat)(Γ:List (TypeId×TI))(rs:List ResultVar)(r:SV)(e:Ex)(σ:St):Prop:=
 match e with
 | .exit _=>False
 | _=>zbI σ Γ rs λs=>LE (zic (zY σ.M) n s) r
variable{P:Program}{Γ:List (TypeId×TI)}{f:FuncId}{fn:Func}{c:Code}{r:SV}
theorem zcD (n:Nat)(hT:TOK P Γ) (hm:P.follows .mixedOrders=true){args:List SV}
  (hf:P.funcs[f]? =some fn) (hb:fn.body=some c) (hn:(fn.name== "runtime.NumGoroutine")=false) (hle:Nat.ble args.length fn.ntmps=true)
  (h:jK P Γ c ⟨yb 0 args,[],0,fn.ntmps,0⟩ (endF n Γ fn.results.toList r)):qF P f args [] r []:=by
 refine zaF hT hm hf hb hn hle h (λe σ h=>⟨σ,.refl,h⟩) (λe σ hq he=>?_) (λid σ hq=>hq)
 have hq:zbI σ Γ fn.results.toList λs=>LE (zic (zY σ.M) n s) r:=by
  cases e with
  | exit id=>exact absurd rfl (he id)
  | normal=>exact hq
  | ret=>exact hq
 obtain⟨s,hle,h1⟩:=yo hT hq;refine⟨s,h1,λ{E ρ a w v} hr hW _ hg=>⟨ρ,?_,?_,?_⟩⟩
 ·have hs:=hr.stp;exact⟨hs.os,hs.tape,hs.output,hs.size,λb hb hn=>hs.block b hb λh=>hn ((hW b).1 h),λb hb=>absurd hb zZ,hs.rho⟩
 ·exact(jd hr.mem.kp λ_ _ h=>hr.mem.glc h)
 ·have hd:∀{s:SV} {v:Value},G (λb=>E.Keep b∨Own σ.M ρ b) (Own σ.M ρ) ρ w s v->D (λb=>E.Keep b∨Own [] ρ b) w (frz (zY σ.M) n s) v:=λh=>
   (zps (λk m h=>zA h) hr.mem n h).less λb hb=>hb.resolve_right zZ
  refine hle _ _ _ _ _ ?_;unfold zic
  split
  ·rename_i cs;obtain⟨vs,rfl,hvs⟩:=hg.tup_inv;refine .tup _ vs (by rw[XF];exact hvs.1) λj s v hs hv=>?_
   rw[XA]at hs
   cases hc:cs[j]? with
   | none=>simp[hc]at hs
   | some c=>
    simp[hc]at hs;subst hs;exact .d _ _ (hd (hvs.2 j c v hc hv))
  ·exact .d _ _ (hd hg)
theorem zh0 (n:Nat)(hT:TOK P Γ) (hm:P.follows .mixedOrders=true){args:List SV} {M:List (Nat×Mem)}
  (hf:P.funcs[f]? =some fn) (hb:fn.body=some c) (hn:(fn.name== "runtime.NumGoroutine")=false) (hle:Nat.ble args.length fn.ntmps=true)
  (h:jK P Γ c ⟨yb 0 args,M,M.length,fn.ntmps,M.length⟩ (endF n Γ fn.results.toList r)):qF P f args M r []:=by
 refine zaF hT hm hf hb hn hle h (λe σ h=>⟨σ,.refl,h⟩) (λe σ hq he=>?_) (λid σ hq=>hq)
 have hq:zbI σ Γ fn.results.toList λs=>LE (zic (zY σ.M) n s) r:=by
  cases e with
  | exit id=>exact absurd rfl (he id)
  | normal=>exact hq
  | ret=>exact hq
 obtain⟨s,hle,h1⟩:=yo hT hq;refine⟨s,h1,λ{E ρ a w v} hr hW _ hg=>⟨ρ,?_,?_,?_⟩⟩
 ·have hs:=hr.stp;exact⟨hs.os,hs.tape,hs.output,hs.size,λb hb hn=>hs.block b hb λh=>hn ((hW b).1 h),λb hb=>absurd hb zZ,hs.rho⟩
 ·exact(jd hr.mem.kp λ_ _ h=>hr.mem.glc h)
 ·have hd:∀{s:SV} {v:Value},G (λb=>E.Keep b∨Own σ.M ρ b) (Own σ.M ρ) ρ w s v->D (λb=>E.Keep b∨Own [] ρ b) w (frz (zY σ.M) n s) v:=λh=>
   (zps (λk m h=>zA h) hr.mem n h).less λb hb=>hb.resolve_right zZ
  refine hle _ _ _ _ _ ?_;unfold zic
  split
  ·rename_i cs;obtain⟨vs,rfl,hvs⟩:=hg.tup_inv;refine .tup _ vs (by rw[XF];exact hvs.1) λj s v hs hv=>?_
   rw[XA]at hs
   cases hc:cs[j]? with
   | none=>simp[hc]at hs
   | some c=>
    simp[hc]at hs;subst hs;exact .d _ _ (hd (hvs.2 j c v hc hv))
  ·exact .d _ _ (hd hg)
end
end Go.Gs
