/- A path under a transform, the program's. -/
import Derived.Test.YtplllpkdmehklaaGreatDoorMA
import Derived.Test.YtplllpkdmehklaaGreatDoorMBD
import Derived.Test.YtplllpkdmehklaaGreatDoorMAZ
import Derived.Test.YtplllpkdmehklaaGreatDoorMAT
import Derived.Test.YtplllpkdmehklaaGreatDoorMBC
set_option maxRecDepth 100000
set_option maxHeartbeats 8000000
set_option linter.all false
namespace Go.Gs
open Go.Proofs
def jG(t:AF):List Pt->Int
 | []=>0
 | p::r=>if (kT t p).2≠0 then (kT t p).2 else jG t r
def zaP(t:AF)(s:Sg):Sg:=zfA s.v ((kj s).map fun p=>(kT t p).1)
def trans(t:AF)(l:List Sg):List Sg×Int:=
 if ¬qq l then ([],10) else if jG t (qb l)≠0 then ([],jG t (qb l)) else (l.map (zaP t),0)
theorem yY(t:AF):∀q r:List Pt,jG t (q++r)=if jG t q≠0 then jG t q else jG t r
 | [],r=>by simp [jG]
 | p::q,r=>by
  rw [List.cons_append,jG,jG,yY t q r]
  by_cases h:(kT t p).2=0
  ·simp [h]
  ·simp [h]
theorem zdg{t:AF}{q:List Pt}{k:Nat}{p:Pt}(h0:jG t (q.take k)=0)(hp:q[k]? =some p):
  ((kT t p).2=0->jG t (q.take (k+1))=0)/\((kT t p).2≠0->jG t q=(kT t p).2):=by
 have e:q.take (k+1)=q.take k++[p]:=by rw [List.take_add_one,hp];rfl
 have e1:jG t (q.take (k+1))=(kT t p).2:=by
  rw [e,yY,h0]
  by_cases h:(kT t p).2=0 <;> simp [jG,h]
 refine ⟨fun h=>by rw [e1,h],fun h=>?_⟩;have:=yY t (q.take (k+1)) (q.drop (k+1));rw [List.take_append_drop,e1,if_pos h] at this;exact this
theorem zwz(s:Sg):(kj s).length<=3:=by
 unfold kj;have:=zby s.v;simp only [List.length_take,List.length_cons,List.length_nil];omega
theorem zzc(l:List Sg)(t:AF)(ht:t.le 100000)(hlen:l.length<=300):zd Tryz.prog 124 [.sl sgE l,.agg (afE t)] [] (.tup [.sl sgE (trans t l).1,i64 (trans t l).2]) []:=by
 refine zc tok mix Tryz.func124 rfl rfl rfl ?_
 have bad:∀e:Int,trans t l=([],e)->LE (.tup [.val (.slice none 0 0),i64 e]) (.tup [.sl sgE (trans t l).1,i64 (trans t l).2]):=fun e h=>by
  rw [h];exact zU zC .refl
 refine zb.t (zhO l) ?_;refine Br.mk (fun h1=>?_) (fun h1=>?_)
 ·exact bad 10 (by rw [trans,if_pos h1])
 intro hl
 refine ⟨Nat×Option (List Sg),fun q=>match q with
   | (i,none)=>⟨[(19,i64 i),(18,i64 l.length),(17,.sl sgE l),(6,.val (.slice none 0 0)),(3,.loc 0 0)],[(0,.box 39 (afE t))],1,53,0⟩
   | (i,some out)=>⟨[(19,i64 i),(18,i64 l.length),(17,.sl sgE l),(6,.own 1),(3,.loc 0 0)],[(1,.arr 141 sgE 7 out),(0,.box 39 (afE t))],2,53,0⟩,
  fun q=>match q with
   | (i,none)=>i=0
   | (i,some out)=>i<=l.length/\out=(l.take i).map (zaP t)/\jG t (qb (l.take i))=0,fun q=>l.length - q.1,(0,none),rfl,?_,?_⟩
 ·exact zf [(0,some 0)]
 have errs:∀(i:Nat) (x:Sg) (p:Pt) (k:Nat),jG t (qb (l.take i))=0->l[i]? =some x->jG t ((kj x).take k)=0->(kj x)[k]? =some p->(kT t p).2≠0->trans t l=([],(kT t p).2):=by
  intro i x p k h0 hx hk hp he;have e2:=(zdg hk hp).2 he
  have e3:jG t (qb l)=(kT t p).2:=by
   have hd:=zmy hx
   have:qb l=qb (l.take i)++(kj x++qb (l.drop (i+1))):=by
    conv=>lhs;rw [← List.take_append_drop i l,hd]
    simp [qb]
   rw [this,yY,h0];simp only [ne_eq,not_true_eq_false,if_false];rw [yY,e2,if_pos he]
  rw [trans,if_neg h1,e3,if_pos he]
 have fin0:∀i x,jG t (qb (l.take i))=0->l[i]? =some x->jG t (kj x)=0->jG t (qb (l.take (i+1)))=0:=fun i x h0 hx hk=>by
  rw [zol hx,yY,h0];simpa using hk
 rintro ⟨i,_ | out⟩ hI
 ·have hI:i=0:=hI;subst hI;have hi0:jG t (qb (l.take 0))=0:=rfl;have hil:0<=l.length:=Nat.zero_le _;refine Br.mk (fun h2=>?_) (fun h2=>?_)
  ·refine Ob.o ?_;intro x hx;have hx:l[0]? =some x:=hx;refine zb.t (zok x) ?_;intro hl4
   refine ⟨Nat×Option (List Pt),fun q=>match q with
     | (k,none)=>⟨[(26,i64 k),(25,i64 (kj x).length),(24,.sl ptE (kj x)),(9,.val (.slice none 0 0)),(8,.loc 1 0),(19,i64 (0:Nat)),(18,i64 l.length),(17,.sl sgE l),(6,.val (.slice none 0 0)),(3,.loc 0 0)],[(1,.box 141 (sgE x)),(0,.box 39 (afE t))],2,53,0⟩
     | (k,some to)=>⟨[(26,i64 k),(25,i64 (kj x).length),(24,.sl ptE (kj x)),(9,.own 2),(8,.loc 1 0),(19,i64 (0:Nat)),(18,i64 l.length),(17,.sl sgE l),(6,.val (.slice none 0 0)),(3,.loc 0 0)],[(2,.arr 63 ptE 2 to),(1,.box 141 (sgE x)),(0,.box 39 (afE t))],3,53,0⟩,
    fun q=>match q with
     | (k,none)=>k=0
     | (k,some to)=>k<=(kj x).length/\to=((kj x).take k).map (fun p=>(kT t p).1)/\jG t ((kj x).take k)=0,fun q=>(kj x).length - q.1,(0,none),rfl,?_,?_⟩
   ·exact zf [(0,some 0),(1,some 1)]
   have hx3:=zwz x
   rintro ⟨k,_ | to⟩ hK
   ·have hK:k=0:=hK;subst hK;have hk0:jG t ((kj x).take 0)=0:=rfl;have hkl:0<=(kj x).length:=Nat.zero_le _;refine Br.mk (fun h4=>?_) (fun h4=>?_)
    ·refine Ob.o ?_;intro p hp;have hp:(kj x)[0]? =some p:=hp;refine zb.t (zce t p ht) ?_;refine Br.mk (fun h5=>?_) (fun h5=>?_)
     ·exact bad _ (errs 0 x p 0 hi0 hx hk0 hp h5)
     have h5:(kT t p).2=0:=Classical.byContradiction h5;have hk1:=(zdg hk0 hp).1 h5;refine ⟨Pt,ptE,[(kT t p).1],rfl,Ob.o0 ?_⟩;refine ⟨_,_,_,rfl,Ob.o17 ?_⟩;refine Ar.fit dC ?_;refine ⟨(1,some [(kT t p).1]),⟨oM,(by rw [List.take_add_one,hp];rfl),hk1⟩,zf [(0,some 0),(1,some 1),(2,some 5)],by dsimp only;omega⟩
    ·have hp0:kj x=[]:=List.length_eq_zero_iff.1 oM;have hgo:zfA x.v []=zaP t x:=by rw [zaP,hp0];rfl
     have hall:=fin0 0 x hi0 hx (by rw [hp0];rfl);refine zb.t ((zmA x.v []).args (.cons .refl (.cons zC .nil))) ?_;rw [hgo];refine ⟨Sg,sgE,[zaP t x],rfl,Ob.o0 ?_⟩;refine ⟨_,_,_,rfl,Ob.o18 ?_⟩;refine Ar.fit dC ?_
     refine ⟨(1,some [zaP t x]),⟨oM,(by rw [List.take_add_one,hx];rfl),hall⟩,(by first | exact zf [(0,some 0),(1,some 2)] | exact zf [(0,some 0),(1,some 3)] | exact zf [(0,some 0),(1,some 4)] | exact zf [(0,some 0),(1,some 5)] | exact zf [(0,some 0),(1,some 6)] | exact zf [(0,some 0),(1,some 7)] | exact zf [(0,some 0),(1,some 8)]),by dsimp only;omega⟩
   ·obtain ⟨hkl,hto,hk0⟩:=hK;refine Br.mk (fun h4=>?_) (fun h4=>?_)
    ·refine Ob.o ?_;intro p hp;have hp:(kj x)[k]? =some p:=hp;refine zb.t (zce t p ht) ?_;refine Br.mk (fun h5=>?_) (fun h5=>?_)
     ·exact bad _ (errs 0 x p k hi0 hx hk0 hp h5)
     have h5:(kT t p).2=0:=Classical.byContradiction h5;have hk1:=(zdg hk0 hp).1 h5;refine ⟨Pt,ptE,[(kT t p).1],rfl,Ob.o0 ?_⟩;have htl:to.length=k:=by rw [hto];simp;omega
     refine ⟨_,rfl,Ob.o19 ?_⟩;refine Ar.o ?_;refine ⟨(k+1,some (to++[(kT t p).1])),⟨oM,(by rw [List.take_add_one,hp,hto];simp),hk1⟩,zf [(0,some 0),(1,some 1),(2,some 6)],by dsimp only;omega⟩
    ·have hkk:k=(kj x).length:=by omega
     subst hkk;rw [List.take_length] at hto hk0;have hgo:zfA x.v to=zaP t x:=by rw [zaP,hto]
     have hall:=fin0 0 x hi0 hx hk0;refine zb.t (zmA x.v to) ?_;rw [hgo];refine ⟨Sg,sgE,[zaP t x],rfl,Ob.o0 ?_⟩;refine ⟨_,_,_,rfl,Ob.o18 ?_⟩;refine Ar.fit dC ?_;refine ⟨(1,some [zaP t x]),⟨oM,(by rw [List.take_add_one,hx];rfl),hall⟩,(by first | exact zf [(0,some 0),(1,some 2)] | exact zf [(0,some 0),(1,some 3)] | exact zf [(0,some 0),(1,some 4)] | exact zf [(0,some 0),(1,some 5)] | exact zf [(0,some 0),(1,some 6)] | exact zf [(0,some 0),(1,some 7)] | exact zf [(0,some 0),(1,some 8)]),by dsimp only;omega⟩
  ·have hii:0=l.length:=by omega
   have htr:trans t l=(l.map (zaP t),0):=by
    rw [hii,List.take_length] at hi0;rw [trans,if_neg h1,hi0,if_neg (fun k=>k rfl)]
   exact bad 0 (by rw [htr,List.length_eq_zero_iff.1 hii.symm];rfl)
 ·obtain ⟨hil,hout,hi0⟩:=hI;refine Br.mk (fun h2=>?_) (fun h2=>?_)
  ·refine Ob.o ?_;intro x hx;have hx:l[i]? =some x:=hx;refine zb.t (zok x) ?_;intro hl4
   refine ⟨Nat×Option (List Pt),fun q=>match q with
     | (k,none)=>⟨[(26,i64 k),(25,i64 (kj x).length),(24,.sl ptE (kj x)),(9,.val (.slice none 0 0)),(8,.loc 2 0),(19,i64 i),(18,i64 l.length),(17,.sl sgE l),(6,.own 1),(3,.loc 0 0)],[(2,.box 141 (sgE x)),(1,.arr 141 sgE 7 out),(0,.box 39 (afE t))],3,53,0⟩
     | (k,some to)=>⟨[(26,i64 k),(25,i64 (kj x).length),(24,.sl ptE (kj x)),(9,.own 3),(8,.loc 2 0),(19,i64 i),(18,i64 l.length),(17,.sl sgE l),(6,.own 1),(3,.loc 0 0)],[(3,.arr 63 ptE 2 to),(2,.box 141 (sgE x)),(1,.arr 141 sgE 7 out),(0,.box 39 (afE t))],4,53,0⟩,
    fun q=>match q with
     | (k,none)=>k=0
     | (k,some to)=>k<=(kj x).length/\to=((kj x).take k).map (fun p=>(kT t p).1)/\jG t ((kj x).take k)=0,fun q=>(kj x).length - q.1,(0,none),rfl,?_,?_⟩
   ·exact zf [(0,some 0),(1,some 1),(2,some 2)]
   have hx3:=zwz x
   rintro ⟨k,_ | to⟩ hK
   ·have hK:k=0:=hK;subst hK;have hk0:jG t ((kj x).take 0)=0:=rfl;have hkl:0<=(kj x).length:=Nat.zero_le _;refine Br.mk (fun h4=>?_) (fun h4=>?_)
    ·refine Ob.o ?_;intro p hp;have hp:(kj x)[0]? =some p:=hp;refine zb.t (zce t p ht) ?_;refine Br.mk (fun h5=>?_) (fun h5=>?_)
     ·exact bad _ (errs i x p 0 hi0 hx hk0 hp h5)
     have h5:(kT t p).2=0:=Classical.byContradiction h5;have hk1:=(zdg hk0 hp).1 h5;refine ⟨Pt,ptE,[(kT t p).1],rfl,Ob.o0 ?_⟩;refine ⟨_,_,_,rfl,Ob.o17 ?_⟩;refine Ar.fit dC ?_;refine ⟨(1,some [(kT t p).1]),⟨oM,(by rw [List.take_add_one,hp];rfl),hk1⟩,zf [(0,some 0),(1,some 1),(2,some 2),(3,some 6)],by dsimp only;omega⟩
    ·have hp0:kj x=[]:=List.length_eq_zero_iff.1 oM;have hgo:zfA x.v []=zaP t x:=by rw [zaP,hp0];rfl
     have hall:=fin0 i x hi0 hx (by rw [hp0];rfl);refine zb.t ((zmA x.v []).args (.cons .refl (.cons zC .nil))) ?_;rw [hgo];refine ⟨Sg,sgE,[zaP t x],rfl,Ob.o0 ?_⟩;have hol:out.length=i:=by rw [hout];simp;omega
     refine ⟨_,rfl,Ob.o20 ?_⟩;refine Ar.o ?_;refine ⟨(i+1,some (out++[zaP t x])),⟨oM,(by rw [List.take_add_one,hx,hout];simp),hall⟩,(by first | exact zf [(0,some 0),(1,some 2)] | exact zf [(0,some 0),(1,some 3)] | exact zf [(0,some 0),(1,some 4)] | exact zf [(0,some 0),(1,some 5)] | exact zf [(0,some 0),(1,some 6)] | exact zf [(0,some 0),(1,some 7)] | exact zf [(0,some 0),(1,some 8)]),by dsimp only;omega⟩
   ·obtain ⟨hkl,hto,hk0⟩:=hK;refine Br.mk (fun h4=>?_) (fun h4=>?_)
    ·refine Ob.o ?_;intro p hp;have hp:(kj x)[k]? =some p:=hp;refine zb.t (zce t p ht) ?_;refine Br.mk (fun h5=>?_) (fun h5=>?_)
     ·exact bad _ (errs i x p k hi0 hx hk0 hp h5)
     have h5:(kT t p).2=0:=Classical.byContradiction h5;have hk1:=(zdg hk0 hp).1 h5;refine ⟨Pt,ptE,[(kT t p).1],rfl,Ob.o0 ?_⟩;have htl:to.length=k:=by rw [hto];simp;omega
     refine ⟨_,rfl,Ob.o19 ?_⟩;refine Ar.o ?_;refine ⟨(k+1,some (to++[(kT t p).1])),⟨oM,(by rw [List.take_add_one,hp,hto];simp),hk1⟩,zf [(0,some 0),(1,some 1),(2,some 2),(3,some 7)],by dsimp only;omega⟩
    ·have hkk:k=(kj x).length:=by omega
     subst hkk;rw [List.take_length] at hto hk0;have hgo:zfA x.v to=zaP t x:=by rw [zaP,hto]
     have hall:=fin0 i x hi0 hx hk0;refine zb.t (zmA x.v to) ?_;rw [hgo];refine ⟨Sg,sgE,[zaP t x],rfl,Ob.o0 ?_⟩;have hol:out.length=i:=by rw [hout];simp;omega
     refine ⟨_,rfl,Ob.o20 ?_⟩;refine Ar.o ?_;refine ⟨(i+1,some (out++[zaP t x])),⟨oM,(by rw [List.take_add_one,hx,hout];simp),hall⟩,(by first | exact zf [(0,some 0),(1,some 2)] | exact zf [(0,some 0),(1,some 3)] | exact zf [(0,some 0),(1,some 4)] | exact zf [(0,some 0),(1,some 5)] | exact zf [(0,some 0),(1,some 6)] | exact zf [(0,some 0),(1,some 7)] | exact zf [(0,some 0),(1,some 8)]),by dsimp only;omega⟩
  ·have hii:i=l.length:=by omega
   have htr:trans t l=(l.map (zaP t),0):=by
    rw [hii,List.take_length] at hi0;rw [trans,if_neg h1,hi0,if_neg (fun k=>k rfl)]
   rw [hii,List.take_length] at hout;rw [htr,← hout];exact zU .refl .refl
theorem zqw{l:List Sg}(h:qq l):∀p∈qb l,zn p:=fun p hp=>by
 obtain ⟨s,hs,hp⟩:=List.mem_flatMap.1 hp
 have hf:zc7 s:=by
  have e:=ztw l;rw [← e] at hs;obtain ⟨g,hg,hsg⟩:=List.mem_flatten.1 hs;obtain ⟨k,m,mid,_,_,g3,_⟩:=zwf h g hg;exact g3 s hsg
 have hp:=List.mem_of_mem_take hp;simp only [List.mem_cons,List.not_mem_nil,or_false] at hp
 rcases hp with rfl | rfl | rfl
 ·exact hf.1.1
 ·exact hf.2.1.1
 ·exact hf.2.2.1
theorem zfH:∀{l:List Sg} {last:Int},oks last l->∀s∈l,zc7 s
 | [],_,_,s,hs=>by cases hs
 | a::r,last,h,s,hs=>by
  rcases List.mem_cons.1 hs with rfl | hs
  ·exact (yp.1 h.1).2.2
  ·exact zfH h.2 s hs
theorem zhg{lo hi:Pt}{l:List Sg}{tol:Int}(h0:(kr l tol).2=0)(hb:∀p∈qb l,inB lo hi p):
  qq l/\zet tol/\yw (kr l tol).1<=4096/\∀q∈(kr l tol).1,q.pts≠[]/\yC q.pts/\∀z∈q.pts,inB lo hi z:=by
 unfold kr at h0 ⊢
 by_cases h1:¬qq l
 ·rw [if_pos h1] at h0;exact absurd h0 dC
 rw [if_neg h1] at h0 ⊢
 by_cases h2:¬zet tol
 ·rw [if_pos h2] at h0;exact absurd h0 dC
 rw [if_neg h2] at h0 ⊢
 by_cases h3:(ja l tol).2≠0
 ·rw [if_pos h3] at h0;exact absurd h0 h3
 rw [if_neg h3] at h0 ⊢
 by_cases h4:4096 < yw (ja l tol).1
 ·rw [if_pos h4] at h0;exact absurd h0 dC
 rw [if_neg h4];have:=zfF (tol:=tol) (yg.1 (Decidable.not_not.1 h1)).2 hb l.length (Nat.le_refl _);rw [List.take_length] at this;exact ⟨Decidable.not_not.1 h1,Decidable.not_not.1 h2,by dsimp only;omega,(this (Decidable.not_not.1 h3)).2⟩
def yM(l:List Pl):List (List Pt):=(l.filter fun p=>decide (3<=p.pts.length)).map Pl.pts
def ym(l:List Sg)(t:AF)(tol:Int):List (List Pt)×Int:=
 if (trans t l).2≠0 then ([],(trans t l).2) else if (kr (trans t l).1 tol).2≠0 then ([],(kr (trans t l).1 tol).2) else (yM (kr (trans t l).1 tol).1,0)
theorem zk4{a b w:Int}(hw:0<=w)(h:2*(a.natAbs:Int)<=w*b.natAbs):((zX a b).natAbs:Int)<=(w+1) / 2:=by
 have e:=zfr a b;rw [e]
 by_cases hb:b.natAbs=0
 ·rw [hb];simp;omega
 have hb':(0:Int) < b.natAbs:=oM;generalize a.natAbs=A at*;generalize b.natAbs=B at*;rw [show (((2*A+B) / (2*B):Nat):Int)=(2*(A:Int)+B) / (2*B) by rw [Int.natCast_ediv];simp];have h1:(2*(A:Int)+B) / (2*B)<=(w*B+B) / (2*B):=Int.ediv_le_ediv oM oM;have h2:(w*B+B:Int)=B*(w+1):=by grind
 have h3:(w*B+B:Int) / (2*B)=(w+1) / 2:=by
  rw [h2,Int.mul_comm 2 (B:Int),Int.mul_ediv_mul_of_pos _ _ hb']
 omega
def zfI(w:Int)(p:Pt):Prop:=(p.x.natAbs:Int)<=(w+1) / 2/\(p.y.natAbs:Int)<=(w+1) / 2
theorem zzg{x y:Int}(hx:¬zfy x)(hy:¬zfy y):256*(x.natAbs:Int)<=isq (65536*(x*x+y*y))/\256*(y.natAbs:Int)<=isq (65536*(x*x+y*y)):=by
 unfold zfy at hx hy;have h1:=jy (A:=2097152) (B:=2097152) (a:=x) (b:=x) oM oM;have h2:=jy (A:=2097152) (B:=2097152) (a:=y) (b:=y) oM oM;have h5:=yA x;have h6:=yA y;have e1:(x.natAbs:Int)*x.natAbs=x*x:=Int.natAbs_mul_self' x;have e2:(y.natAbs:Int)*y.natAbs=y*y:=Int.natAbs_mul_self' y;refine ⟨zv4 oM oM ?_,zv4 oM oM ?_⟩
 ·rw [show 256*(x.natAbs:Int)*(256*(x.natAbs:Int))=65536*((x.natAbs:Int)*x.natAbs) by grind,e1];omega
 ·rw [show 256*(y.natAbs:Int)*(256*(y.natAbs:Int))=65536*((y.natAbs:Int)*y.natAbs) by grind,e2];omega
theorem zfJ(v:Pt){w:Int}(hw:kB w):zfI w (k8 v w):=by
 unfold kB at hw;unfold k8
 split
 ·exact ⟨by show ((0:Int).natAbs:Int)<=_;simp;omega,by show ((0:Int).natAbs:Int)<=_;simp;omega⟩
 ·rename_i h;rw [not_or,not_or,not_or] at h;have ab:=zzg h.2.1 h.2.2.1;have hL:0<=isq (65536*(v.x*v.x+v.y*v.y)):=oM;generalize isq (65536*(v.x*v.x+v.y*v.y))=L at*;have eL:(L.natAbs:Int)=L:=Int.natAbs_of_nonneg hL;have wn:(w.natAbs:Int)=w:=Int.natAbs_of_nonneg oM;refine ⟨zk4 oM ?_,zk4 oM ?_⟩
  ·rw [Int.natAbs_mul,Int.natAbs_mul,Int.natAbs_neg,eL,Int.natCast_mul,Int.natCast_mul,wn];have:=Int.mul_le_mul_of_nonneg_left ab.2 (show 0<=w by omega);rw [show 2*((v.y.natAbs:Int)*w*((128:Int).natAbs:Nat))=w*(256*(v.y.natAbs:Int)) by simp;grind];exact this
  ·rw [Int.natAbs_mul,Int.natAbs_mul,eL,Int.natCast_mul,Int.natCast_mul,wn];have:=Int.mul_le_mul_of_nonneg_left ab.1 (show 0<=w by omega);rw [show 2*((v.x.natAbs:Int)*w*((128:Int).natAbs:Nat))=w*(256*(v.x.natAbs:Int)) by simp;grind];exact this
theorem ztQ{r q:List Pt}(h:q∈qV r):q=r:=by
 unfold qV at h;split at h
 ·cases h
 ·exact List.mem_singleton.1 h
section
variable {lo hi:Pt} {w m:Int}
end
theorem zoE{w:Int}{p:Pt}(h:zfI w p):zfI w (zmx p):=by unfold zfI zmx at*;dsimp only;omega
theorem zqA{a v b:Pt}{w:Int}(hw:kB w):zfI w (jp a v b w).1/\zfI w (jp a v b w).2.1:=by
 have z:zfI w zp:=by unfold kB at hw;exact ⟨by show ((0:Int).natAbs:Int)<=_;simp;omega,by show ((0:Int).natAbs:Int)<=_;simp;omega⟩
 unfold jp
 split
 ·exact ⟨z,z⟩
 ·dsimp only
  split
  ·exact ⟨z,z⟩
  ·split
   ·exact ⟨zoE (zfJ _ hw),zoE (zfJ _ hw)⟩
   ·exact ⟨zfJ _ hw,zfJ _ hw⟩
theorem zoG{p:Pl}(h:(je p).length < 2):qr p=0:=by
 unfold qr;rw [show (je p).length - 1=0 by omega];rfl
theorem zr8{w:Int}{p:Pt}(hw:kB w)(h:zfI w p):zn p:=by unfold kB at hw;unfold zfI at h;unfold zn;omega
theorem zzh(n m:Pt)(w lim:Int):S50 (zca n m w lim).1.x/\S50 (zca n m w lim).1.y:=by
 unfold zca
 split
 ·exact ⟨dC,dC⟩
 ·rename_i h;obtain ⟨hn,hm,hw,_⟩:=Decidable.not_not.1 h;have hs:=zkZ hn hm;dsimp only
  split
  ·exact ⟨dC,dC⟩
  ·generalize zQ n m=s at*;have t:=zfE hs.1 hw;have t':=zfE hs.2 hw;exact ⟨uC (M:=1125899906842624) oM,uC (M:=1125899906842624) oM⟩
theorem zzi{a v b:Pt}{p:Pen}(h:qa p/\zn a/\zn v/\zn b/\¬v=a/\¬v=b):vd a v b p=
  if p.j=3 then qV (zcx v p.w) else if (jp a v b p.w).2.2=false then []
  else qV (qO (if p.j=1/\(zca (jp a v b p.w).1 (jp a v b p.w).2.1 p.w p.m).2=true then [v,zQ v (jp a v b p.w).1,zQ v (zca (jp a v b p.w).1 (jp a v b p.w).2.1 p.w p.m).1,zQ v (jp a v b p.w).2.1]
   else [v,zQ v (jp a v b p.w).1,zQ v (jp a v b p.w).2.1])):=by
 unfold vd;rw [qo h]
theorem zBJ(a v b:Pt)(p:Pen):zd Tryz.prog 295 [.agg (ptE a),.agg (ptE v),.agg (ptE b),.agg (ue p)] [] (.sl zu (vd a v b p)) []:=by
 refine zc tok mix Tryz.func295 rfl rfl rfl ?_
 have bad:¬(qa p/\zn a/\zn v/\zn b/\¬v=a/\¬v=b)->LE (.val (.slice none 0 0)) (.sl zu (vd a v b p)):=fun h=>by
  unfold vd;rw [if_pos h];exact zC
 refine zb.t (zd2 p) ?_;refine Br.mk (fun a1=>bad (fun h=>a1 h.1)) (fun a1=>?_);refine zb.t (kS a) ?_;refine Br.mk (fun a2=>bad (fun h=>a2 h.2.1)) (fun a2=>?_);refine zb.t (kS v) ?_;refine Br.mk (fun a3=>bad (fun h=>a3 h.2.2.1)) (fun a3=>?_);refine zb.t (kS b) ?_;refine Br.mk (fun a4=>bad (fun h=>a4 h.2.2.2.1)) (fun a4=>?_);refine Br.mk (fun a5=>bad (fun h=>h.2.2.2.2.1 (qJ.1 a5))) (fun a5=>?_);refine Br.mk (fun a6=>bad (fun h=>h.2.2.2.2.2 (qJ.1 a6))) (fun a6=>?_)
 have hok:qa p/\zn a/\zn v/\zn b/\¬v=a/\¬v=b:=
  ⟨Decidable.not_not.1 a1,Decidable.not_not.1 a2,Decidable.not_not.1 a3,Decidable.not_not.1 a4,fun e=>a5 (qJ.2 e),fun e=>a6 (qJ.2 e)⟩
 have hv:=hok.2.2.1;have hw:=hok.1.1;have e:=zzi hok;refine Br.mk (fun j1=>?_) (fun j1=>?_)
 ·have j1:p.j=3:=j1;refine zb.t (zqr v p.w) ?_;refine zb.t (zmF (zcx v p.w)) ?_;exact qy (e.trans (if_pos j1)).symm
 have j1:¬p.j=3:=j1;rw [if_neg j1] at e;refine zb.t (zy8 a v b p.w) ?_;refine Br.mk (fun k=>?_) (fun k=>?_)
 ·have k:¬(jp a v b p.w).2.2=true:=k;rw [if_pos (by simpa using k)] at e;rw [e];exact zC
 have k:(jp a v b p.w).2.2=true:=Decidable.not_not.1 k;rw [if_neg (by rw [k];decide)] at e;have oh:=zqA (a:=a) (v:=v) (b:=b) hw;have o1:=zr8 hw oh.1;have o2:=zr8 hw oh.2;generalize (jp a v b p.w).1=n at*;generalize (jp a v b p.w).2.1=m at*;refine Dr.d ?_;refine zb.t (zd4 v n hv.p45.s o1.p45.s) ?_;refine ⟨Pt,ptE,[v,zQ v n],rfl,Ob.o0 ?_⟩;refine Ob.mk (by kernel_rfl) ?_
 have tail:∀(q:List Pt),(¬(p.j=1/\(zca n m p.w p.m).2=true))->q=[v,zQ v n,zQ v m]->LE (.sl zu (qV (qO q))) (.sl zu (vd a v b p)):=fun q h hq=>by
  rw [e,if_neg h,hq];exact .refl
 refine Br.mk (fun j2=>?_) (fun j2=>?_)
 ·have j2:p.j=1:=j2;refine zb.t (p_tip n m p.w p.m) ?_;have ht:=zzh n m p.w p.m;refine Br.mk (fun s1=>?_) (fun s1=>?_)
  ·refine zb.t (zd4 v (zca n m p.w p.m).1 hv.p45.s ht) ?_;refine ⟨Pt,ptE,[zQ v (zca n m p.w p.m).1],rfl,Ob.o0 ?_⟩;refine ⟨[zQ v (zca n m p.w p.m).1],rfl,Ob.o9 ?_⟩;refine zb.t (zd4 v m hv.p45.s o2.p45.s) ?_;refine ⟨Pt,ptE,[zQ v m],rfl,Ob.o0 ?_⟩;refine ⟨[zQ v m],rfl,Ob.o16 ?_⟩;refine zb.see 11 _ (zaM [v,zQ v n,zQ v (zca n m p.w p.m).1,zQ v m] (by show ((4:Nat):Int)<=_;decide)) rfl rfl rfl ?_;refine zb.t (zmF (qO [v,zQ v n,zQ v (zca n m p.w p.m).1,zQ v m])) ?_;rw [e,if_pos ⟨j2,s1⟩];exact .refl
  ·refine zb.t (zd4 v m hv.p45.s o2.p45.s) ?_;refine ⟨Pt,ptE,[zQ v m],rfl,Ob.o0 ?_⟩;refine ⟨[zQ v m],rfl,Ob.o9 ?_⟩;refine zb.see 9 _ (zaM [v,zQ v n,zQ v m] (by show ((3:Nat):Int)<=_;decide)) rfl rfl rfl ?_;refine zb.t (zmF (qO [v,zQ v n,zQ v m])) ?_;exact tail _ (fun h=>s1 h.2) rfl
 ·have j2:¬p.j=1:=j2;refine zb.t (zd4 v m hv.p45.s o2.p45.s) ?_;refine ⟨Pt,ptE,[zQ v m],rfl,Ob.o0 ?_⟩;refine ⟨[zQ v m],rfl,Ob.o9 ?_⟩;refine zb.see 8 _ (zaM [v,zQ v n,zQ v m] (by show ((3:Nat):Int)<=_;decide)) rfl rfl rfl ?_;refine zb.t (zmF (qO [v,zQ v n,zQ v m])) ?_;exact tail _ (fun h=>j2 h.1) rfl
theorem zqB{l:List Pl}{i:Nat}{x:Pl}(h:l[i]? =some x):yM (l.take (i+1))=yM (l.take i)++if 3<=x.pts.length then [x.pts] else []:=by
 unfold yM;rw [List.take_add_one,h]
 by_cases c:3<=x.pts.length
 ·simp [c]
 ·simp [c]
theorem zoH(l:List Pl):(yM l).length<=l.length:=by
 unfold yM;rw [List.length_map];exact List.length_filter_le _ _
theorem zwL(l:List Pl)(hl:l.length<=4096)(hp:∀q∈l,q.pts.length<=4096):zd Tryz.prog 126 [.sl plE l] [] (.sl zu (yM l)) []:=by
 refine zc tok mix Tryz.func126 rfl rfl rfl ?_;intro hl1;refine ⟨Nat,fun i=>⟨[(3,.own 0),(6,.sl plE l),(7,i64 (l.length:Int)),(8,i64 (i:Int))],[(0,.arr 87 zu 1 (yM (l.take i)))],1,24,0⟩,fun i=>i<=l.length,fun i=>l.length - i,0,?_,?_,?_⟩
 ·exact Nat.zero_le _
 ·exact zf [(0,none)]
 rintro i hi
 have hlen:=zoH (l.take i);rw [List.length_take] at hlen;refine Br.mk (fun g=>?_) (fun g=>?_)
 ·have g:(i:Int) < l.length:=g;refine Ob.o ?_;intro x hx;have hx:l[i]? =some x:=hx;intro hl3;have e:=zqB hx;refine Br.mk (fun c=>?_) (fun c=>?_)
  ·have c:(3:Int)<=x.pts.length:=c;refine zb.t ((zmE x.pts (hp x (List.mem_of_getElem? hx))).plain rfl) ?_;refine ⟨List Pt,zu,[x.pts],rfl,Ob.o0 ?_⟩;refine ⟨[x.pts],rfl,Ob.mk ⟨(by show _*(24:Int)<=_;simp only [List.length_cons,List.length_nil];omega),(by simp only [List.length_cons,List.length_nil];omega),dC,fun _ _=>rfl⟩ ?_⟩;refine Ar.o ?_;refine ⟨i+1,oM,zY [(0,some 3)] ⟨congrArg (fun q=>some (Mem.arr 87 zu 1 q)) ?_,trivial⟩,by dsimp only;omega⟩;rw [e,if_pos oM]
  ·have c:¬(3:Int)<=x.pts.length:=c;refine Ar.o ?_;refine ⟨i+1,oM,zY [(0,some 0)] ⟨congrArg (fun q=>some (Mem.arr 87 zu 1 q)) ?_,trivial⟩,by dsimp only;omega⟩;rw [e,if_neg oM,List.append_nil]
 ·have g:¬(i:Int) < l.length:=g;exact qy (by rw [List.take_of_length_le oM])
theorem zd6{a b c:Int}(ha: -1048576<=a/\a<=1048576)(hb: -1048576<=b/\b<=1048576)(hc: -1048576<=c/\c<=1048576):
  (-4194304<=a - 2*b+c/\a - 2*b+c<=4194304)/\0<=(a - 2*b+c)*(a - 2*b+c)/\(a - 2*b+c)*(a - 2*b+c)<=17592186044416:=by
 have h: -4194304<=a - 2*b+c/\a - 2*b+c<=4194304:=oM;have h1:=jy (A:=4194304) (B:=4194304) h h;have h2:=yA (a - 2*b+c);omega
theorem zeP{a b c:Pt}(ha:zn a)(hb:zn b)(hc:zn c):0<=vN a b c/\vN a b c<=35184372088832:=by
 have h1:=zd6 ha.1 hb.1 hc.1;have h2:=zd6 ha.2 hb.2 hc.2;unfold vN;omega
theorem zjf(a b c:Pt)(ha:zn a)(hb:zn b)(hc:zn c):zd Tryz.prog 305 [.agg (ptE a),.agg (ptE b),.agg (ptE c)] [] (i64 (vN a b c)) []:=by
 have h1:=zd6 ha.1 hb.1 hc.1;have h2:=zd6 ha.2 hb.2 hc.2;unfold zn at ha hb hc;refine zc tok mix Tryz.func305 rfl rfl rfl ?_;refine Dr.k ?_;(iterate 9 refine Ar.o ?_);exact .refl
theorem zqC{need tol:Int}{i:Nat}(h:i<=64):vp need tol (65 - i) i=if enough need tol i then ((i:Int),0) else vp need tol (65 - (i+1)) (i+1):=by
 rw [show 65 - i=(64 - i)+1 by omega,vp,show 65 - (i+1)=64 - i by omega]
theorem zqD{i:Nat}{tol:Int}(hi:i<=64)(ht:1<=tol/\tol<=256):
  (-65536<=16*(i:Int)*i/\16*(i:Int)*i<=65536)/\(-4194304<=16*(i:Int)*i*i/\16*(i:Int)*i*i<=4194304)/\
  (-268435456<=16*(i:Int)*i*i*i/\16*(i:Int)*i*i*i<=268435456)/\(-68719476736<=16*(i:Int)*i*i*i*tol/\16*(i:Int)*i*i*i*tol<=68719476736)/\
  (-17592186044416<=16*(i:Int)*i*i*i*tol*tol/\16*(i:Int)*i*i*i*tol*tol<=17592186044416):=by
 have h2:=jy (A:=1024) (B:=64) (a:=16*(i:Int)) (b:=i) oM oM;have h3:=jy (A:=65536) (B:=64) (a:=16*(i:Int)*i) (b:=i) oM oM;have h4:=jy (A:=4194304) (B:=64) (a:=16*(i:Int)*i*i) (b:=i) oM oM;have h5:=jy (A:=268435456) (B:=256) (a:=16*(i:Int)*i*i*i) (b:=tol) oM oM;have h6:=jy (A:=68719476736) (B:=256) (a:=16*(i:Int)*i*i*i*tol) (b:=tol) oM oM;omega
def zr9(c:Int×Int):SV:=.tup [i64 c.1,i64 c.2]
theorem zfK{c:Int×Int}{a b:Int}(h:c=(a,b)):LE (.tup [i64 a,i64 b]) (zr9 c):=by subst h;exact .refl
theorem zoI(need tol:Int)(l:List Pt)(hl:l.length<=4):zd Tryz.prog 304 [i64 need,i64 tol,.sl ptE l] [] (zr9 (jd need tol l)) []:=by
 refine zc tok mix Tryz.func304 rfl rfl rfl ?_;have bad:¬(1<=tol/\tol<=256)->jd need tol l=(0,2):=fun h=>by unfold jd;rw [if_pos h]
 refine Br.mk (fun a1=>zfK (bad (fun h=>by have a1:tol < 1:=a1;omega))) (fun a1=>?_);refine Br.mk (fun a2=>zfK (bad (fun h=>by have a2:256 < tol:=a2;omega))) (fun a2=>?_);have ht:1<=tol/\tol<=256:=⟨by have a1:¬tol < 1:=a1;omega,by have a2:¬256 < tol:=a2;omega⟩;intro hl2;refine ⟨Nat,fun i=>⟨[(0,i64 need),(1,i64 tol),(17,.sl ptE l),(18,i64 (l.length:Int)),(19,i64 (i:Int))],[],0,46,0⟩,fun i=>i<=l.length/\∀p∈l.take i,zn p,fun i=>l.length - i,0,?_,?_,?_⟩
 ·exact ⟨Nat.zero_le _,fun p hp=>by cases hp⟩
 ·exact zf []
 rintro i ⟨h1,h2⟩
 refine Br.mk (fun g=>?_) (fun g=>?_)
 ·have g:(i:Int) < l.length:=g;refine Ob.o ?_;intro x hx;have hx:l[i]? =some x:=hx;refine zb.t (kS x) ?_;refine Br.mk (fun b=>?_) (fun b=>?_)
  ·refine zfK ?_;unfold jd;rw [qo ht,if_pos (fun k=>b (k x (List.mem_of_getElem? hx)))]
  ·have b:=Decidable.not_not.1 b;refine Ar.o ?_;refine ⟨i+1,⟨oM,fun p hp=>?_⟩,zf [],by dsimp only;omega⟩;rw [List.take_add_one,hx] at hp
   rcases List.mem_append.1 hp with hp | hp
   ·exact h2 p hp
   ·simp at hp;rw [hp];exact b
 have g:¬(i:Int) < l.length:=g;have hv:∀p∈l,zn p:=by rw [List.take_of_length_le oM] at h2;exact h2
 have e:jd need tol l=vp need tol 64 1:=by unfold jd;rw [qo ht,qo hv]
 refine ⟨Nat,fun i=>⟨[(0,i64 need),(1,i64 tol),(10,i64 (i:Int))],[],0,46,0⟩,fun i=>1<=i/\i<=65/\vp need tol (65 - i) i=vp need tol 64 1,fun i=>65 - i,1,?_,?_,?_⟩
 ·exact ⟨dC,dC,rfl⟩
 ·exact zf []
 rintro i ⟨h3,h4,h5⟩
 refine Br.mk (fun g=>?_) (fun g=>?_)
 ·have g:(i:Int)<=64:=g;have ch:=zqD (i:=i) oM ht;have st:=zqC (need:=need) (tol:=tol) (i:=i) oM;rw [h5] at st;(iterate 6 refine Ar.o ?_);refine Br.mk (fun k=>?_) (fun k=>?_)
  ·have k:enough need tol i:=k;exact zfK (by rw [e,st,if_pos k])
  ·have k:¬enough need tol i:=k;refine Ar.o ?_;refine ⟨i+1,⟨oM,oM,by rw [st,if_neg k]⟩,zf [],by dsimp only;omega⟩
 ·have g:¬(i:Int)<=64:=g;have h6:i=65:=oM;subst h6;exact zfK (by rw [e,← h5];rfl)
theorem ztS(a b c:Pt)(tol:Int)(ha:zn a)(hb:zn b)(hc:zn c):zd Tryz.prog 273 [.agg (ptE a++ptE b++ptE c),i64 tol] [] (zr9 (jE a b c tol)) []:=by
 refine zc tok mix Tryz.func273 rfl rfl rfl ?_;refine zkb.data ?_;refine Dr.k ?_;have r1:=zeP ha hb hc;refine zb.t (zjf a b c ha hb hc) ?_;refine ⟨Pt,ptE,[a,b,c],rfl,Ob.o10 ?_⟩;refine zb.t (zoI (vN a b c) tol [a,b,c] (by show 3<=4;decide)) ?_;exact .refl
theorem ztT(a b c d:Pt)(tol:Int)(ha:zn a)(hb:zn b)(hc:zn c)(hd:zn d):zd Tryz.prog 278 [.agg (ptE a++ptE b++ptE c++ptE d),i64 tol] [] (zr9 (jF a b c d tol)) []:=by
 refine zc tok mix Tryz.func278 rfl rfl rfl ?_;refine zkb.data ?_;refine Dr.k ?_;have r1:=zeP ha hb hc;refine zb.t (zjf a b c ha hb hc) ?_;have r2:=zeP hb hc hd;refine zb.t (zjf b c d hb hc hd) ?_;refine Ar.fit (by show -9223372036854775808<=9*max (vN a b c) (vN b c d)/\9*max (vN a b c) (vN b c d)<=9223372036854775807;omega) ?_;refine ⟨Pt,ptE,[a,b,c,d],rfl,Ob.o10 ?_⟩;refine zb.t (zoI (9*max (vN a b c) (vN b c d)) tol [a,b,c,d] (by show 4<=4;decide)) ?_;exact .refl
end Go.Gs
