/- A path under a transform, the program's. -/
import Derived.Test.YtplllpkdmehklaaGreatDoorMA
import Derived.Test.YtplllpkdmehklaaGreatDoorMBD
import Derived.Test.YtplllpkdmehklaaGreatDoorMAZ
import Derived.Test.YtplllpkdmehklaaGreatDoorMAT
set_option maxRecDepth 100000
set_option maxHeartbeats 8000000
set_option linter.all false
namespace Go.Gs
open Go.Proofs
def jG(t:AF):List Pt->Int
 | []=>0
 | p::r=>if (kT t p).2≠0 then (kT t p).2 else jG t r
def zaP(t:AF)(s:Sg):Sg:=zfA s.v ((kj s).map fun p=>(kT t p).1)
def trans(t:AF)(l:List Sg):List Sg×Int:=
 if ¬qq l then ([],10) else if jG t (qb l)≠0 then ([],jG t (qb l)) else (l.map (zaP t),0)
theorem yY(t:AF):∀q r:List Pt,jG t (q++r)=if jG t q≠0 then jG t q else jG t r
 | [],r=>by simp [jG]
 | p::q,r=>by
  rw [List.cons_append,jG,jG,yY t q r]
  by_cases h:(kT t p).2=0
  ·simp [h]
  ·simp [h]
theorem zdg{t:AF}{q:List Pt}{k:Nat}{p:Pt}(h0:jG t (q.take k)=0)(hp:q[k]? =some p):
  ((kT t p).2=0->jG t (q.take (k+1))=0)/\((kT t p).2≠0->jG t q=(kT t p).2):=by
 have e:q.take (k+1)=q.take k++[p]:=by rw [List.take_add_one,hp];rfl
 have e1:jG t (q.take (k+1))=(kT t p).2:=by
  rw [e,yY,h0]
  by_cases h:(kT t p).2=0 <;> simp [jG,h]
 refine ⟨fun h=>by rw [e1,h],fun h=>?_⟩;have:=yY t (q.take (k+1)) (q.drop (k+1));rw [List.take_append_drop,e1,if_pos h] at this;exact this
theorem zwz(s:Sg):(kj s).length<=3:=by
 unfold kj;have:=zby s.v;simp only [List.length_take,List.length_cons,List.length_nil];omega
theorem zzc(l:List Sg)(t:AF)(ht:t.le 100000)(hlen:l.length<=300):zd Tryz.prog 124 [.sl sgE l,.agg (afE t)] [] (.tup [.sl sgE (trans t l).1,i64 (trans t l).2]) []:=by
 refine zc tok mix Tryz.func124 rfl rfl rfl ?_
 have bad:∀e:Int,trans t l=([],e)->LE (.tup [.val (.slice none 0 0),i64 e]) (.tup [.sl sgE (trans t l).1,i64 (trans t l).2]):=fun e h=>by
  rw [h];exact zU zC .refl
 refine zb.t (zhO l) ?_;refine Br.mk (fun h1=>?_) (fun h1=>?_)
 ·exact bad 10 (by rw [trans,if_pos h1])
 intro hl
 refine ⟨Nat×Option (List Sg),fun q=>match q with
   | (i,none)=>⟨[(19,i64 i),(18,i64 l.length),(17,.sl sgE l),(6,.val (.slice none 0 0)),(3,.loc 0 0)],[(0,.box 39 (afE t))],1,53,0⟩
   | (i,some out)=>⟨[(19,i64 i),(18,i64 l.length),(17,.sl sgE l),(6,.own 1),(3,.loc 0 0)],[(1,.arr 141 sgE 7 out),(0,.box 39 (afE t))],2,53,0⟩,
  fun q=>match q with
   | (i,none)=>i=0
   | (i,some out)=>i<=l.length/\out=(l.take i).map (zaP t)/\jG t (qb (l.take i))=0,fun q=>l.length - q.1,(0,none),rfl,?_,?_⟩
 ·exact zf [(0,some 0)]
 have errs:∀(i:Nat) (x:Sg) (p:Pt) (k:Nat),jG t (qb (l.take i))=0->l[i]? =some x->jG t ((kj x).take k)=0->(kj x)[k]? =some p->(kT t p).2≠0->trans t l=([],(kT t p).2):=by
  intro i x p k h0 hx hk hp he;have e2:=(zdg hk hp).2 he
  have e3:jG t (qb l)=(kT t p).2:=by
   have hd:=zmy hx
   have:qb l=qb (l.take i)++(kj x++qb (l.drop (i+1))):=by
    conv=>lhs;rw [← List.take_append_drop i l,hd]
    simp [qb]
   rw [this,yY,h0];simp only [ne_eq,not_true_eq_false,if_false];rw [yY,e2,if_pos he]
  rw [trans,if_neg h1,e3,if_pos he]
 have fin0:∀i x,jG t (qb (l.take i))=0->l[i]? =some x->jG t (kj x)=0->jG t (qb (l.take (i+1)))=0:=fun i x h0 hx hk=>by
  rw [zol hx,yY,h0];simpa using hk
 rintro ⟨i,_ | out⟩ hI
 ·have hI:i=0:=hI;subst hI;have hi0:jG t (qb (l.take 0))=0:=rfl;have hil:0<=l.length:=Nat.zero_le _;refine Br.mk (fun h2=>?_) (fun h2=>?_)
  ·refine Ob.o ?_;intro x hx;have hx:l[0]? =some x:=hx;refine zb.t (zok x) ?_;intro hl4
   refine ⟨Nat×Option (List Pt),fun q=>match q with
     | (k,none)=>⟨[(26,i64 k),(25,i64 (kj x).length),(24,.sl ptE (kj x)),(9,.val (.slice none 0 0)),(8,.loc 1 0),(19,i64 (0:Nat)),(18,i64 l.length),(17,.sl sgE l),(6,.val (.slice none 0 0)),(3,.loc 0 0)],[(1,.box 141 (sgE x)),(0,.box 39 (afE t))],2,53,0⟩
     | (k,some to)=>⟨[(26,i64 k),(25,i64 (kj x).length),(24,.sl ptE (kj x)),(9,.own 2),(8,.loc 1 0),(19,i64 (0:Nat)),(18,i64 l.length),(17,.sl sgE l),(6,.val (.slice none 0 0)),(3,.loc 0 0)],[(2,.arr 63 ptE 2 to),(1,.box 141 (sgE x)),(0,.box 39 (afE t))],3,53,0⟩,
    fun q=>match q with
     | (k,none)=>k=0
     | (k,some to)=>k<=(kj x).length/\to=((kj x).take k).map (fun p=>(kT t p).1)/\jG t ((kj x).take k)=0,fun q=>(kj x).length - q.1,(0,none),rfl,?_,?_⟩
   ·exact zf [(0,some 0),(1,some 1)]
   have hx3:=zwz x
   rintro ⟨k,_ | to⟩ hK
   ·have hK:k=0:=hK;subst hK;have hk0:jG t ((kj x).take 0)=0:=rfl;have hkl:0<=(kj x).length:=Nat.zero_le _;refine Br.mk (fun h4=>?_) (fun h4=>?_)
    ·refine Ob.o ?_;intro p hp;have hp:(kj x)[0]? =some p:=hp;refine zb.t (zce t p ht) ?_;refine Br.mk (fun h5=>?_) (fun h5=>?_)
     ·exact bad _ (errs 0 x p 0 hi0 hx hk0 hp h5)
     have h5:(kT t p).2=0:=Classical.byContradiction h5;have hk1:=(zdg hk0 hp).1 h5;refine ⟨Pt,ptE,[(kT t p).1],rfl,Ob.o0 ?_⟩;refine ⟨_,_,_,rfl,Ob.o17 ?_⟩;refine Ar.fit dC ?_;refine ⟨(1,some [(kT t p).1]),⟨oM,(by rw [List.take_add_one,hp];rfl),hk1⟩,zf [(0,some 0),(1,some 1),(2,some 5)],by dsimp only;omega⟩
    ·have hp0:kj x=[]:=List.length_eq_zero_iff.1 oM;have hgo:zfA x.v []=zaP t x:=by rw [zaP,hp0];rfl
     have hall:=fin0 0 x hi0 hx (by rw [hp0];rfl);refine zb.t ((zmA x.v []).args (.cons .refl (.cons zC .nil))) ?_;rw [hgo];refine ⟨Sg,sgE,[zaP t x],rfl,Ob.o0 ?_⟩;refine ⟨_,_,_,rfl,Ob.o18 ?_⟩;refine Ar.fit dC ?_
     refine ⟨(1,some [zaP t x]),⟨oM,(by rw [List.take_add_one,hx];rfl),hall⟩,(by first | exact zf [(0,some 0),(1,some 2)] | exact zf [(0,some 0),(1,some 3)] | exact zf [(0,some 0),(1,some 4)] | exact zf [(0,some 0),(1,some 5)] | exact zf [(0,some 0),(1,some 6)] | exact zf [(0,some 0),(1,some 7)] | exact zf [(0,some 0),(1,some 8)]),by dsimp only;omega⟩
   ·obtain ⟨hkl,hto,hk0⟩:=hK;refine Br.mk (fun h4=>?_) (fun h4=>?_)
    ·refine Ob.o ?_;intro p hp;have hp:(kj x)[k]? =some p:=hp;refine zb.t (zce t p ht) ?_;refine Br.mk (fun h5=>?_) (fun h5=>?_)
     ·exact bad _ (errs 0 x p k hi0 hx hk0 hp h5)
     have h5:(kT t p).2=0:=Classical.byContradiction h5;have hk1:=(zdg hk0 hp).1 h5;refine ⟨Pt,ptE,[(kT t p).1],rfl,Ob.o0 ?_⟩;have htl:to.length=k:=by rw [hto];simp;omega
     refine ⟨_,rfl,Ob.o19 ?_⟩;refine Ar.o ?_;refine ⟨(k+1,some (to++[(kT t p).1])),⟨oM,(by rw [List.take_add_one,hp,hto];simp),hk1⟩,zf [(0,some 0),(1,some 1),(2,some 6)],by dsimp only;omega⟩
    ·have hkk:k=(kj x).length:=by omega
     subst hkk;rw [List.take_length] at hto hk0;have hgo:zfA x.v to=zaP t x:=by rw [zaP,hto]
     have hall:=fin0 0 x hi0 hx hk0;refine zb.t (zmA x.v to) ?_;rw [hgo];refine ⟨Sg,sgE,[zaP t x],rfl,Ob.o0 ?_⟩;refine ⟨_,_,_,rfl,Ob.o18 ?_⟩;refine Ar.fit dC ?_;refine ⟨(1,some [zaP t x]),⟨oM,(by rw [List.take_add_one,hx];rfl),hall⟩,(by first | exact zf [(0,some 0),(1,some 2)] | exact zf [(0,some 0),(1,some 3)] | exact zf [(0,some 0),(1,some 4)] | exact zf [(0,some 0),(1,some 5)] | exact zf [(0,some 0),(1,some 6)] | exact zf [(0,some 0),(1,some 7)] | exact zf [(0,some 0),(1,some 8)]),by dsimp only;omega⟩
  ·have hii:0=l.length:=by omega
   have htr:trans t l=(l.map (zaP t),0):=by
    rw [hii,List.take_length] at hi0;rw [trans,if_neg h1,hi0,if_neg (fun k=>k rfl)]
   exact bad 0 (by rw [htr,List.length_eq_zero_iff.1 hii.symm];rfl)
 ·obtain ⟨hil,hout,hi0⟩:=hI;refine Br.mk (fun h2=>?_) (fun h2=>?_)
  ·refine Ob.o ?_;intro x hx;have hx:l[i]? =some x:=hx;refine zb.t (zok x) ?_;intro hl4
   refine ⟨Nat×Option (List Pt),fun q=>match q with
     | (k,none)=>⟨[(26,i64 k),(25,i64 (kj x).length),(24,.sl ptE (kj x)),(9,.val (.slice none 0 0)),(8,.loc 2 0),(19,i64 i),(18,i64 l.length),(17,.sl sgE l),(6,.own 1),(3,.loc 0 0)],[(2,.box 141 (sgE x)),(1,.arr 141 sgE 7 out),(0,.box 39 (afE t))],3,53,0⟩
     | (k,some to)=>⟨[(26,i64 k),(25,i64 (kj x).length),(24,.sl ptE (kj x)),(9,.own 3),(8,.loc 2 0),(19,i64 i),(18,i64 l.length),(17,.sl sgE l),(6,.own 1),(3,.loc 0 0)],[(3,.arr 63 ptE 2 to),(2,.box 141 (sgE x)),(1,.arr 141 sgE 7 out),(0,.box 39 (afE t))],4,53,0⟩,
    fun q=>match q with
     | (k,none)=>k=0
     | (k,some to)=>k<=(kj x).length/\to=((kj x).take k).map (fun p=>(kT t p).1)/\jG t ((kj x).take k)=0,fun q=>(kj x).length - q.1,(0,none),rfl,?_,?_⟩
   ·exact zf [(0,some 0),(1,some 1),(2,some 2)]
   have hx3:=zwz x
   rintro ⟨k,_ | to⟩ hK
   ·have hK:k=0:=hK;subst hK;have hk0:jG t ((kj x).take 0)=0:=rfl;have hkl:0<=(kj x).length:=Nat.zero_le _;refine Br.mk (fun h4=>?_) (fun h4=>?_)
    ·refine Ob.o ?_;intro p hp;have hp:(kj x)[0]? =some p:=hp;refine zb.t (zce t p ht) ?_;refine Br.mk (fun h5=>?_) (fun h5=>?_)
     ·exact bad _ (errs i x p 0 hi0 hx hk0 hp h5)
     have h5:(kT t p).2=0:=Classical.byContradiction h5;have hk1:=(zdg hk0 hp).1 h5;refine ⟨Pt,ptE,[(kT t p).1],rfl,Ob.o0 ?_⟩;refine ⟨_,_,_,rfl,Ob.o17 ?_⟩;refine Ar.fit dC ?_;refine ⟨(1,some [(kT t p).1]),⟨oM,(by rw [List.take_add_one,hp];rfl),hk1⟩,zf [(0,some 0),(1,some 1),(2,some 2),(3,some 6)],by dsimp only;omega⟩
    ·have hp0:kj x=[]:=List.length_eq_zero_iff.1 oM;have hgo:zfA x.v []=zaP t x:=by rw [zaP,hp0];rfl
     have hall:=fin0 i x hi0 hx (by rw [hp0];rfl);refine zb.t ((zmA x.v []).args (.cons .refl (.cons zC .nil))) ?_;rw [hgo];refine ⟨Sg,sgE,[zaP t x],rfl,Ob.o0 ?_⟩;have hol:out.length=i:=by rw [hout];simp;omega
     refine ⟨_,rfl,Ob.o20 ?_⟩;refine Ar.o ?_;refine ⟨(i+1,some (out++[zaP t x])),⟨oM,(by rw [List.take_add_one,hx,hout];simp),hall⟩,(by first | exact zf [(0,some 0),(1,some 2)] | exact zf [(0,some 0),(1,some 3)] | exact zf [(0,some 0),(1,some 4)] | exact zf [(0,some 0),(1,some 5)] | exact zf [(0,some 0),(1,some 6)] | exact zf [(0,some 0),(1,some 7)] | exact zf [(0,some 0),(1,some 8)]),by dsimp only;omega⟩
   ·obtain ⟨hkl,hto,hk0⟩:=hK;refine Br.mk (fun h4=>?_) (fun h4=>?_)
    ·refine Ob.o ?_;intro p hp;have hp:(kj x)[k]? =some p:=hp;refine zb.t (zce t p ht) ?_;refine Br.mk (fun h5=>?_) (fun h5=>?_)
     ·exact bad _ (errs i x p k hi0 hx hk0 hp h5)
     have h5:(kT t p).2=0:=Classical.byContradiction h5;have hk1:=(zdg hk0 hp).1 h5;refine ⟨Pt,ptE,[(kT t p).1],rfl,Ob.o0 ?_⟩;have htl:to.length=k:=by rw [hto];simp;omega
     refine ⟨_,rfl,Ob.o19 ?_⟩;refine Ar.o ?_;refine ⟨(k+1,some (to++[(kT t p).1])),⟨oM,(by rw [List.take_add_one,hp,hto];simp),hk1⟩,zf [(0,some 0),(1,some 1),(2,some 2),(3,some 7)],by dsimp only;omega⟩
    ·have hkk:k=(kj x).length:=by omega
     subst hkk;rw [List.take_length] at hto hk0;have hgo:zfA x.v to=zaP t x:=by rw [zaP,hto]
     have hall:=fin0 i x hi0 hx hk0;refine zb.t (zmA x.v to) ?_;rw [hgo];refine ⟨Sg,sgE,[zaP t x],rfl,Ob.o0 ?_⟩;have hol:out.length=i:=by rw [hout];simp;omega
     refine ⟨_,rfl,Ob.o20 ?_⟩;refine Ar.o ?_;refine ⟨(i+1,some (out++[zaP t x])),⟨oM,(by rw [List.take_add_one,hx,hout];simp),hall⟩,(by first | exact zf [(0,some 0),(1,some 2)] | exact zf [(0,some 0),(1,some 3)] | exact zf [(0,some 0),(1,some 4)] | exact zf [(0,some 0),(1,some 5)] | exact zf [(0,some 0),(1,some 6)] | exact zf [(0,some 0),(1,some 7)] | exact zf [(0,some 0),(1,some 8)]),by dsimp only;omega⟩
  ·have hii:i=l.length:=by omega
   have htr:trans t l=(l.map (zaP t),0):=by
    rw [hii,List.take_length] at hi0;rw [trans,if_neg h1,hi0,if_neg (fun k=>k rfl)]
   rw [hii,List.take_length] at hout;rw [htr,← hout];exact zU .refl .refl
def part(f:Pt->Pt)(j:Nat)(s:Sg):Sg:=⟨s.v,if 1<=j then f s.a else s.a,if 2<=j then f s.b else s.b,if 3<=j then f s.c else s.c⟩
def ji(f:Pt->Pt)(s:Sg):Sg:=part f (nm s.v).toNat s
theorem zqw{l:List Sg}(h:qq l):∀p∈qb l,zn p:=fun p hp=>by
 obtain ⟨s,hs,hp⟩:=List.mem_flatMap.1 hp
 have hf:zc7 s:=by
  have e:=ztw l;rw [← e] at hs;obtain ⟨g,hg,hsg⟩:=List.mem_flatten.1 hs;obtain ⟨k,m,mid,_,_,g3,_⟩:=zwf h g hg;exact g3 s hsg
 have hp:=List.mem_of_mem_take hp;simp only [List.mem_cons,List.not_mem_nil,or_false] at hp
 rcases hp with rfl | rfl | rfl
 ·exact hf.1.1
 ·exact hf.2.1.1
 ·exact hf.2.2.1
theorem zwB(f:Pt->Pt)(j:Nat)(s:Sg):(part f j s).v=s.v:=rfl
theorem ztL(f:Pt->Pt)(s:Sg):kj (ji f s)=(kj s).map f:=by
 have hr:=zby s.v;have e:nm s.v<=0∨nm s.v=1∨nm s.v=2∨nm s.v=3:=oM;unfold kj ji;rw [zwB]
 rcases e with e | e | e | e
 ·rw [show (nm s.v).toNat=0 by omega];rfl
 ·rw [show (nm s.v).toNat=1 by omega];rfl
 ·rw [show (nm s.v).toNat=2 by omega];rfl
 ·rw [show (nm s.v).toNat=3 by omega];rfl
theorem zr3(f:Pt->Pt)(l:List Sg):qb (l.map (ji f))=(qb l).map f:=by
 induction l with
 | nil=>rfl
 | cons s r ih=>
  have e1:qb ((s::r).map (ji f))=kj (ji f s)++qb (r.map (ji f)):=rfl;have e2:qb (s::r)=kj s++qb r:=rfl;rw [e1,e2,ih,ztL,List.map_append]
theorem zqx{f:Pt->Pt}{s:Sg}(hf:zc7 s)(h:∀p∈kj s,zn (f p)):zc7 (ji f s):=by
 have hr:=zby s.v;obtain ⟨h1,h2,h3⟩:=hf;have mem:∀(j:Nat) (p:Pt),(j:Int) < nm s.v->[s.a,s.b,s.c][j]? =some p->p∈kj s:=fun j p hj hp=>List.mem_of_getElem? (i:=j) (by rw [zBr hj];exact hp)
 unfold ji;refine ⟨?_,?_,?_⟩ <;> rw [zwB]
 ·show pk _ 0 (if 1<=(nm s.v).toNat then f s.a else s.a)
  by_cases e:1<=(nm s.v).toNat
  ·rw [if_pos e];exact ⟨h _ (mem 0 s.a oM rfl),fun k=>by omega⟩
  ·rw [if_neg e];exact h1
 ·show pk _ 1 (if 2<=(nm s.v).toNat then f s.b else s.b)
  by_cases e:2<=(nm s.v).toNat
  ·rw [if_pos e];exact ⟨h _ (mem 1 s.b oM rfl),fun k=>by omega⟩
  ·rw [if_neg e];exact h2
 ·show pk _ 2 (if 3<=(nm s.v).toNat then f s.c else s.c)
  by_cases e:3<=(nm s.v).toNat
  ·rw [if_pos e];exact ⟨h _ (mem 2 s.c oM rfl),fun k=>by omega⟩
  ·rw [if_neg e];exact h3
theorem zmI{f:Pt->Pt}:∀{l:List Sg} {last:Int},(∀s∈l,∀p∈kj s,zn (f p))->oks last l->oks last (l.map (ji f))
 | [],_,_,_=>trivial
 | s::r,last,hp,h=>by
  obtain ⟨h1,h2⟩:=h;obtain ⟨k1,k2,k3⟩:=yp.1 h1;refine ⟨yp.2 ⟨k1,k2,zqx k3 (hp s (.head _))⟩,zmI (fun t ht=>hp t (.tail _ ht)) h2⟩
def tr(x y:Int):AF:=afQ ((1:Int):Rat) ((0:Int):Rat) ((0:Int):Rat) ((1:Int):Rat) (x:Rat) (y:Rat)
def sh(x y:Int)(p:Pt):Pt:=⟨p.x+x,p.y+y⟩
theorem zfH:∀{l:List Sg} {last:Int},oks last l->∀s∈l,zc7 s
 | [],_,_,s,hs=>by cases hs
 | a::r,last,h,s,hs=>by
  rcases List.mem_cons.1 hs with rfl | hs
  ·exact (yp.1 h.1).2.2
  ·exact zfH h.2 s hs
def shL(x y:Int)(l:List Sg):List Sg:=l.map (ji (sh x y))
theorem ztM{x y:Int}{l:List Sg}(h:qq l)(a:∀p∈qb l,zn (sh x y p)):qq (shL x y l):=by
 refine yg.2 ⟨by unfold shL;rw [List.length_map];exact zgy h,?_⟩;exact zmI (fun s hs p hp=>a p (List.mem_flatMap.2 ⟨s,hs,hp⟩)) (yg.1 h).2
theorem zAB{i n a b c x:Int}(hn:1<=n):q1 i n (a+x) (b+x) (c+x)=q1 i n a b c+x:=by
 unfold q1;have e:(n - i)*(n - i)*(a+x)+2*i*(n - i)*(b+x)+i*i*(c+x)=((n - i)*(n - i)*a+2*i*(n - i)*b+i*i*c)+(n*n)*x:=by grind
 rw [e,zof (Int.mul_pos oM oM)]
theorem zAC{i n a b c d x:Int}(hn:1<=n):c1 i n (a+x) (b+x) (c+x) (d+x)=c1 i n a b c d+x:=by
 unfold c1
 have e:(n - i)*(n - i)*(n - i)*(a+x)+3*i*(n - i)*(n - i)*(b+x)+3*i*i*(n - i)*(c+x)+i*i*i*(d+x)
   =((n - i)*(n - i)*(n - i)*a+3*i*(n - i)*(n - i)*b+3*i*i*(n - i)*c+i*i*i*d)+(n*n*n)*x:=by grind
 rw [e,zof (Int.mul_pos (Int.mul_pos oM oM) oM)]
theorem zmJ(x y:Int)(a b c:Pt):vN (sh x y a) (sh x y b) (sh x y c)=vN a b c:=by
 unfold vN sh;dsimp only;rw [show a.x+x - 2*(b.x+x)+(c.x+x)=a.x - 2*b.x+c.x by omega,show a.y+y - 2*(b.y+y)+(c.y+y)=a.y - 2*b.y+c.y by omega]
def two(x y:Int)(p:Pt):Prop:=zn p/\zn (sh x y p)
theorem zr5(x y:Int){p:Pt}:two x y p↔inB ⟨max (-1048576) (-1048576 - x),max (-1048576) (-1048576 - y)⟩ ⟨min 1048576 (1048576 - x),min 1048576 (1048576 - y)⟩ p:=by
 unfold two zn inB sh;dsimp only;omega
theorem zk2{need tol:Int}{l m:List Pt}(hl:∀p∈l,zn p)(hm:∀p∈m,zn p):jd need tol l=jd need tol m:=by
 unfold jd;rw [qo hl,qo hm]
theorem ztN{x y:Int}{a b c:Pt}{i n:Int}(h:∀p∈[a,b,c],two x y p)(hn:1<=n/\n<=64)(hi:0<=i/\i<=n):uf (sh x y a) (sh x y b) (sh x y c) i n=sh x y (uf a b c i n):=by
 have h':∀p∈[sh x y a,sh x y b,sh x y c],zn p:=fun p hp=>by
  obtain ⟨q,hq,rfl⟩:=List.mem_map.1 (show p∈[a,b,c].map (sh x y) from hp);exact (h q hq).2
 unfold uf;rw [if_neg (fun k=>k ⟨h',hn.1,hn.2,hi.1,hi.2⟩),if_neg (fun k=>k ⟨fun p hp=>(h p hp).1,hn.1,hn.2,hi.1,hi.2⟩)];exact zda (zAB hn.1) (zAB hn.1)
theorem ztO{x y:Int}{a b c d:Pt}{i n:Int}(h:∀p∈[a,b,c,d],two x y p)(hn:1<=n/\n<=64)(hi:0<=i/\i<=n):ug (sh x y a) (sh x y b) (sh x y c) (sh x y d) i n=sh x y (ug a b c d i n):=by
 have h':∀p∈[sh x y a,sh x y b,sh x y c,sh x y d],zn p:=fun p hp=>by
  obtain ⟨q,hq,rfl⟩:=List.mem_map.1 (show p∈[a,b,c,d].map (sh x y) from hp);exact (h q hq).2
 unfold ug;rw [if_neg (fun k=>k ⟨h',hn.1,hn.2,hi.1,hi.2⟩),if_neg (fun k=>k ⟨fun p hp=>(h p hp).1,hn.1,hn.2,hi.1,hi.2⟩)];exact zda (zAC hn.1) (zAC hn.1)
theorem zoC{f g:Int->Pt}{k:Pt->Pt}{n:Nat}(h:∀i:Nat,i < n->g ((i:Int)+1)=k (f ((i:Int)+1))):zde g n=(zde f n).map k:=by
 unfold zde;rw [List.map_map];exact List.map_congr_left fun i hi=>h i (List.mem_range.1 hi)
theorem zwD{x y:Int}{a b c:Pt}{tol:Int}(h:∀p∈[a,b,c],two x y p):zaK (sh x y a) (sh x y b) (sh x y c) tol=((zaK a b c tol).1.map (sh x y),(zaK a b c tol).2):=by
 have h':∀p∈[sh x y a,sh x y b,sh x y c],zn p:=fun p hp=>by
  obtain ⟨q,hq,rfl⟩:=List.mem_map.1 (show p∈[a,b,c].map (sh x y) from hp);exact (h q hq).2
 have e:jE (sh x y a) (sh x y b) (sh x y c) tol=jE a b c tol:=by
  unfold jE;rw [zmJ];exact zk2 h' fun p hp=>(h p hp).1
 unfold zaK;rw [e]
 split
 ·rfl
 ·rename_i k;have ok:1<=(jE a b c tol).1/\(jE a b c tol).1<=64:=(uO (Decidable.not_not.1 k)).1;exact Prod.ext (zoC (f:=fun i=>uf a b c i (jE a b c tol).1) (g:=fun i=>uf (sh x y a) (sh x y b) (sh x y c) i (jE a b c tol).1) (k:=sh x y) (n:=(jE a b c tol).1.toNat) fun i hi=>ztN (i:=(i:Int)+1) (n:=(jE a b c tol).1) h ok ⟨oM,oM⟩) rfl
theorem zwE{x y:Int}{a b c d:Pt}{tol:Int}(h:∀p∈[a,b,c,d],two x y p):zaL (sh x y a) (sh x y b) (sh x y c) (sh x y d) tol=((zaL a b c d tol).1.map (sh x y),(zaL a b c d tol).2):=by
 have h':∀p∈[sh x y a,sh x y b,sh x y c,sh x y d],zn p:=fun p hp=>by
  obtain ⟨q,hq,rfl⟩:=List.mem_map.1 (show p∈[a,b,c,d].map (sh x y) from hp);exact (h q hq).2
 have e:jF (sh x y a) (sh x y b) (sh x y c) (sh x y d) tol=jF a b c d tol:=by
  unfold jF;rw [zmJ,zmJ];exact zk2 h' fun p hp=>(h p hp).1
 unfold zaL;rw [e]
 split
 ·rfl
 ·rename_i k;have ok:1<=(jF a b c d tol).1/\(jF a b c d tol).1<=64:=(uO (Decidable.not_not.1 k)).1;exact Prod.ext (zoC (f:=fun i=>ug a b c d i (jF a b c d tol).1) (g:=fun i=>ug (sh x y a) (sh x y b) (sh x y c) (sh x y d) i (jF a b c d tol).1) (k:=sh x y) (n:=(jF a b c d tol).1.toNat) fun i hi=>ztO (i:=(i:Int)+1) (n:=(jF a b c d tol).1) h ok ⟨oM,oM⟩) rfl
theorem zwF{f:Pt->Pt}{s:Sg}(h:s.v=1∨s.v=2):ji f s=⟨s.v,f s.a,s.b,s.c⟩:=by
 unfold ji part;rcases h with h | h <;> rw [h] <;> rfl
theorem flip3{f:Pt->Pt}{s:Sg}(h:s.v=3):ji f s=⟨s.v,f s.a,f s.b,s.c⟩:=by unfold ji part;rw [h];rfl
theorem flip4{f:Pt->Pt}{s:Sg}(h:s.v=4):ji f s=⟨s.v,f s.a,f s.b,f s.c⟩:=by unfold ji part;rw [h];rfl
theorem zqy{f:Pt->Pt}{s:Sg}:(ji f s).v=s.v:=rfl
theorem zBH{x y tol:Int}{p:Pt}{s:Sg}(he:0<=nm s.v)(h5:s.v≠5)(hp:two x y p)(hs:∀q∈kj s,two x y q):
  q9 (sh x y p) (ji (sh x y) s) tol=((q9 p s tol).1.map (sh x y),(q9 p s tol).2):=by
 unfold q9;rw [zqy]
 rcases zgz he with h | h | h | h | h
 ·rw [if_neg oM,if_neg oM,if_neg oM,if_neg oM,zwF (.inl h)];rfl
 ·rw [if_neg oM,if_neg oM,if_neg oM,if_neg oM,zwF (.inr h)];rfl
 ·rw [if_pos h,if_pos h,flip3 h];rw [zwt h] at hs
  exact zwD fun q hq=>by
   cases hq with
   | head=>exact hp
   | tail _ hq=>exact hs q hq
 ·rw [if_neg oM,if_pos h,if_neg oM,if_pos h,flip4 h];rw [zwu h] at hs
  exact zwE fun q hq=>by
   cases hq with
   | head=>exact hp
   | tail _ hq=>exact hs q hq
 ·exact absurd h h5
theorem zwG{x y:Int}{p q:Pt}(h:sh x y p=sh x y q):p=q:=by
 have h1:=congrArg Pt.x h;have h2:=congrArg Pt.y h;unfold sh at h1 h2;dsimp only at h1 h2;exact zda oM oM
theorem zBI(x y:Int)(q:List Pt)(p:Pt):yk (q.map (sh x y)) (sh x y p)=(yk q p).map (sh x y):=by
 unfold yk;rw [List.getLast?_map]
 cases h:q.getLast? with
 | none=>simp
 | some z=>
  by_cases k:z=p
  ·subst k;simp
  ·rw [Option.map_some,if_neg (fun e=>k (zwG (Option.some.inj e))),if_neg (fun e=>k (Option.some.inj e))];simp
theorem zr6(x y:Int):∀(more q:List Pt),qc (q.map (sh x y)) (more.map (sh x y))=(qc q more).map (sh x y)
 | [],_=>rfl
 | p::r,q=>by
  show qc (yk (q.map (sh x y)) (sh x y p)) (r.map (sh x y))=_;rw [zBI];exact zr6 x y r (yk q p)
theorem zzd(x y:Int)(q:List Pt):qi (q.map (sh x y))=(qi q).map (sh x y):=by
 unfold qi;rw [List.length_map,List.getLast?_map,List.head?_map]
 have e:(Option.map (sh x y) q.getLast?=Option.map (sh x y) q.head?)↔q.getLast?=q.head?:=by
  constructor
  ·intro h
   cases h1:q.getLast? with
   | none=>cases h2:q.head? with
    | none=>rfl
    | some b=>rw [h1,h2] at h;cases h
   | some a=>cases h2:q.head? with
    | none=>rw [h1,h2] at h;cases h
    | some b=>rw [h1,h2] at h;rw [zwG (Option.some.inj h)]
  ·intro h;rw [h]
 by_cases k:1 < q.length/\q.getLast?=q.head?
 ·rw [if_pos k,if_pos ⟨k.1,e.2 k.2⟩,List.map_dropLast]
 ·rw [if_neg k,if_neg (fun h=>k ⟨h.1,e.1 h.2⟩)]
def zeO(x y:Int)(p:Pl):Pl:=⟨p.pts.map (sh x y),p.cl⟩
theorem zwH{x y:Int}{l:List Pt}(h:l≠[]):zaN (l.map (sh x y))=sh x y (zaN l):=by
 unfold zaN;rw [List.getLastD_eq_getLast?,List.getLastD_eq_getLast?,List.getLast?_map,List.getLast?_eq_some_getLast h];rfl
theorem zze{x y tol:Int}{S:List Pl}{last:Int}{s:Sg}{lo hi:Pt}(hb:∀p,inB lo hi p->two x y p)(h:InvP lo hi S last)(he:js last s=0)(hx:∀p∈kj s,two x y p):
  jU tol (S.map (zeO x y),0) (ji (sh x y) s)=((jU tol (S,0) s).1.map (zeO x y),(jU tol (S,0) s).2):=by
 obtain ⟨e1,e2,e3⟩:=yp.1 he;rw [zd5,zd5,zqy]
 by_cases h1:s.v=1
 ·rw [if_pos h1,if_pos h1,zwF (.inl h1)];exact Prod.ext (by simp [zeO]) rfl
 rw [if_neg h1,if_neg h1];obtain ⟨hl,hv⟩:=e2.resolve_left h1;obtain ⟨cl,p,rfl,hc⟩:∃cl p,S=cl++[p]/\(p.cl=true↔last=5):=h.1.resolve_left (fun k=>hl k.2);obtain ⟨p1,p2,p3⟩:=h.2 p (by simp);have eg:(cl++[p]).getLastD ⟨[],false⟩=p:=by simp
 have eg':((cl++[p]).map (zeO x y)).getLastD ⟨[],false⟩=zeO x y p:=by simp
 rw [eg,eg']
 have key:zaO (zeO x y p) (ji (sh x y) s) tol=(zeO x y (zaO p s tol).1,(zaO p s tol).2):=by
  unfold zaO;rw [zqy]
  by_cases h5:s.v=5
  ·rw [if_pos h5,if_pos h5];show ((⟨qi (p.pts.map (sh x y)),true⟩:Pl),(0:Int))=_;rw [zzd];rfl
  rw [if_neg h5,if_neg h5]
  have e:q9 (zaN (zeO x y p).pts) (ji (sh x y) s) tol=((q9 (zaN p.pts) s tol).1.map (sh x y),(q9 (zaN p.pts) s tol).2):=by
   show q9 (zaN (p.pts.map (sh x y))) _ tol=_;rw [zwH p1];exact zBH e1 h5 (hb _ (p3 _ (zk0 p1))) hx
  rw [e]
  split
  ·rfl
  ·show ((⟨qc (p.pts.map (sh x y)) _,p.cl⟩:Pl),(0:Int))=_;rw [zr6];rfl
 rw [key]
 split
 ·rfl
 ·refine Prod.ext ?_ rfl;dsimp only;rw [List.map_append,List.map_append,List.map_singleton,List.map_singleton,List.dropLast_concat,List.dropLast_concat]
theorem zoD{x y tol:Int}{l:List Sg}(hv:oks 5 l)(hb:∀p∈qb l,two x y p):∀i,i<=l.length->ja ((shL x y l).take i) tol=((ja (l.take i) tol).1.map (zeO x y),(ja (l.take i) tol).2)
 | 0,_=>rfl
 | i+1,hi=>by
  have hx:l[i]? =some l[i]:=List.getElem?_eq_getElem oM;have hx':(shL x y l)[i]? =some (ji (sh x y) l[i]):=by unfold shL;rw [List.getElem?_map,hx];rfl
  have ih:=zoD (tol:=tol) hv hb i oM;rw [vr hx,vr hx',ih]
  by_cases h0:(ja (l.take i) tol).2=0
  ·have inv:=zfF (tol:=tol) hv (fun p hp=>(zr5 x y).1 (hb p hp)) i oM h0;have e:ja (l.take i) tol=((ja (l.take i) tol).1,0):=by rw [← h0]
   rw [h0];rw [e];exact zze (fun p hp=>(zr5 x y).2 hp) inv (zqu hv hx) (fun p hp=>hb p (List.mem_flatMap.2 ⟨_,List.getElem_mem _,hp⟩))
  ·unfold jU;rw [if_pos h0,if_pos h0];rfl
theorem zzf(x y:Int)(S:List Pl):yw (S.map (zeO x y))=yw S:=by
 unfold yw;rw [List.map_map];congr 1;exact List.map_congr_left fun p _=>by simp [zeO]
theorem zwI{x y tol:Int}{l:List Sg}(h:qq l)(hb:∀p∈qb l,zn (sh x y p)):kr (shL x y l) tol=((kr l tol).1.map (zeO x y),(kr l tol).2):=by
 have hv:=ztM h hb;have e:=zoD (x:=x) (y:=y) (tol:=tol) (yg.1 h).2 (fun p hp=>⟨zqw h p hp,hb p hp⟩) l.length (Nat.le_refl _);rw [List.take_of_length_le (by unfold shL;rw [List.length_map];exact Nat.le_refl _),List.take_length] at e;unfold kr;rw [qo h,qo hv,e]
 by_cases h1:zet tol
 ·rw [qo h1,qo h1]
  by_cases h2:(ja l tol).2=0
  ·rw [jQ h2,jQ h2];dsimp only;rw [zzf]
   split <;> rfl
  ·rw [if_pos h2,if_pos h2];rfl
 ·rw [if_pos h1,if_pos h1];rfl
theorem zhg{lo hi:Pt}{l:List Sg}{tol:Int}(h0:(kr l tol).2=0)(hb:∀p∈qb l,inB lo hi p):
  qq l/\zet tol/\yw (kr l tol).1<=4096/\∀q∈(kr l tol).1,q.pts≠[]/\yC q.pts/\∀z∈q.pts,inB lo hi z:=by
 unfold kr at h0 ⊢
 by_cases h1:¬qq l
 ·rw [if_pos h1] at h0;exact absurd h0 dC
 rw [if_neg h1] at h0 ⊢
 by_cases h2:¬zet tol
 ·rw [if_pos h2] at h0;exact absurd h0 dC
 rw [if_neg h2] at h0 ⊢
 by_cases h3:(ja l tol).2≠0
 ·rw [if_pos h3] at h0;exact absurd h0 h3
 rw [if_neg h3] at h0 ⊢
 by_cases h4:4096 < yw (ja l tol).1
 ·rw [if_pos h4] at h0;exact absurd h0 dC
 rw [if_neg h4];have:=zfF (tol:=tol) (yg.1 (Decidable.not_not.1 h1)).2 hb l.length (Nat.le_refl _);rw [List.take_length] at this;exact ⟨Decidable.not_not.1 h1,Decidable.not_not.1 h2,by dsimp only;omega,(this (Decidable.not_not.1 h3)).2⟩
def yM(l:List Pl):List (List Pt):=(l.filter fun p=>decide (3<=p.pts.length)).map Pl.pts
def ym(l:List Sg)(t:AF)(tol:Int):List (List Pt)×Int:=
 if (trans t l).2≠0 then ([],(trans t l).2) else if (kr (trans t l).1 tol).2≠0 then ([],(kr (trans t l).1 tol).2) else (yM (kr (trans t l).1 tol).1,0)
theorem zwJ(x y:Int)(l:List Pl):yM (l.map (zeO x y))=(yM l).map (List.map (sh x y)):=by
 unfold yM;rw [List.filter_map,List.map_map,List.map_map];have e:((fun p:Pl=>decide (3<=p.pts.length))∘zeO x y)=fun p=>decide (3<=p.pts.length):=by funext p;simp [zeO]
 rw [e];rfl
theorem zk3:∀l:List Pl,qh (yM l)<=yw l
 | []=>Nat.le_refl _
 | p::r=>by
  have ih:=zk3 r;have e:yw (p::r)=p.pts.length+yw r:=by unfold yw;simp
  unfold yM at ih ⊢;rw [List.filter_cons]
  split
  ·have:qh ((p::r.filter fun p=>decide (3<=p.pts.length)).map Pl.pts)=p.pts.length+qh ((r.filter fun p=>decide (3<=p.pts.length)).map Pl.pts):=by unfold qh;simp
   omega
  ·omega
theorem ztP{l:List Pl}{r:List Pt}(h:r∈yM l):∃p∈l,p.pts=r:=by
 unfold yM at h;obtain ⟨p,hp,rfl⟩:=List.mem_map.1 h;exact ⟨p,(List.mem_filter.1 hp).1,rfl⟩
theorem zqz{lo hi:Pt}{l:List Sg}{t:AF}{tol:Int}(h0:(ym l t tol).2=0)(hb:∀p∈qb (trans t l).1,inB lo hi p):qh (ym l t tol).1<=4096/\∀r∈(ym l t tol).1,∀p∈r,inB lo hi p:=by
 unfold ym at h0 ⊢
 by_cases h1:(trans t l).2≠0
 ·rw [if_pos h1] at h0;exact absurd h0 h1
 rw [if_neg h1] at h0 ⊢
 by_cases h2:(kr (trans t l).1 tol).2≠0
 ·rw [if_pos h2] at h0;exact absurd h0 h2
 rw [if_neg h2];have f:=zhg (Decidable.not_not.1 h2) hb;refine ⟨Nat.le_trans (zk3 _) f.2.2.1,fun r hr p hp=>?_⟩;obtain ⟨q,hq,rfl⟩:=ztP hr;exact (f.2.2.2 q hq).2.2 p hp
theorem zk4{a b w:Int}(hw:0<=w)(h:2*(a.natAbs:Int)<=w*b.natAbs):((zX a b).natAbs:Int)<=(w+1) / 2:=by
 have e:=zfr a b;rw [e]
 by_cases hb:b.natAbs=0
 ·rw [hb];simp;omega
 have hb':(0:Int) < b.natAbs:=oM;generalize a.natAbs=A at*;generalize b.natAbs=B at*;rw [show (((2*A+B) / (2*B):Nat):Int)=(2*(A:Int)+B) / (2*B) by rw [Int.natCast_ediv];simp];have h1:(2*(A:Int)+B) / (2*B)<=(w*B+B) / (2*B):=Int.ediv_le_ediv oM oM;have h2:(w*B+B:Int)=B*(w+1):=by grind
 have h3:(w*B+B:Int) / (2*B)=(w+1) / 2:=by
  rw [h2,Int.mul_comm 2 (B:Int),Int.mul_ediv_mul_of_pos _ _ hb']
 omega
def zfI(w:Int)(p:Pt):Prop:=(p.x.natAbs:Int)<=(w+1) / 2/\(p.y.natAbs:Int)<=(w+1) / 2
theorem zzg{x y:Int}(hx:¬zfy x)(hy:¬zfy y):256*(x.natAbs:Int)<=isq (65536*(x*x+y*y))/\256*(y.natAbs:Int)<=isq (65536*(x*x+y*y)):=by
 unfold zfy at hx hy;have h1:=jy (A:=2097152) (B:=2097152) (a:=x) (b:=x) oM oM;have h2:=jy (A:=2097152) (B:=2097152) (a:=y) (b:=y) oM oM;have h5:=yA x;have h6:=yA y;have e1:(x.natAbs:Int)*x.natAbs=x*x:=Int.natAbs_mul_self' x;have e2:(y.natAbs:Int)*y.natAbs=y*y:=Int.natAbs_mul_self' y;refine ⟨zv4 oM oM ?_,zv4 oM oM ?_⟩
 ·rw [show 256*(x.natAbs:Int)*(256*(x.natAbs:Int))=65536*((x.natAbs:Int)*x.natAbs) by grind,e1];omega
 ·rw [show 256*(y.natAbs:Int)*(256*(y.natAbs:Int))=65536*((y.natAbs:Int)*y.natAbs) by grind,e2];omega
theorem zfJ(v:Pt){w:Int}(hw:kB w):zfI w (k8 v w):=by
 unfold kB at hw;unfold k8
 split
 ·exact ⟨by show ((0:Int).natAbs:Int)<=_;simp;omega,by show ((0:Int).natAbs:Int)<=_;simp;omega⟩
 ·rename_i h;rw [not_or,not_or,not_or] at h;have ab:=zzg h.2.1 h.2.2.1;have hL:0<=isq (65536*(v.x*v.x+v.y*v.y)):=oM;generalize isq (65536*(v.x*v.x+v.y*v.y))=L at*;have eL:(L.natAbs:Int)=L:=Int.natAbs_of_nonneg hL;have wn:(w.natAbs:Int)=w:=Int.natAbs_of_nonneg oM;refine ⟨zk4 oM ?_,zk4 oM ?_⟩
  ·rw [Int.natAbs_mul,Int.natAbs_mul,Int.natAbs_neg,eL,Int.natCast_mul,Int.natCast_mul,wn];have:=Int.mul_le_mul_of_nonneg_left ab.2 (show 0<=w by omega);rw [show 2*((v.y.natAbs:Int)*w*((128:Int).natAbs:Nat))=w*(256*(v.y.natAbs:Int)) by simp;grind];exact this
  ·rw [Int.natAbs_mul,Int.natAbs_mul,eL,Int.natCast_mul,Int.natCast_mul,wn];have:=Int.mul_le_mul_of_nonneg_left ab.1 (show 0<=w by omega);rw [show 2*((v.x.natAbs:Int)*w*((128:Int).natAbs:Nat))=w*(256*(v.x.natAbs:Int)) by simp;grind];exact this
theorem ztQ{r q:List Pt}(h:q∈qV r):q=r:=by
 unfold qV at h;split at h
 ·cases h
 ·exact List.mem_singleton.1 h
section
variable {lo hi:Pt} {w m:Int}
end
theorem zoE{w:Int}{p:Pt}(h:zfI w p):zfI w (zmx p):=by unfold zfI zmx at*;dsimp only;omega
theorem zqA{a v b:Pt}{w:Int}(hw:kB w):zfI w (jp a v b w).1/\zfI w (jp a v b w).2.1:=by
 have z:zfI w zp:=by unfold kB at hw;exact ⟨by show ((0:Int).natAbs:Int)<=_;simp;omega,by show ((0:Int).natAbs:Int)<=_;simp;omega⟩
 unfold jp
 split
 ·exact ⟨z,z⟩
 ·dsimp only
  split
  ·exact ⟨z,z⟩
  ·split
   ·exact ⟨zoE (zfJ _ hw),zoE (zfJ _ hw)⟩
   ·exact ⟨zfJ _ hw,zfJ _ hw⟩
theorem zoG{p:Pl}(h:(je p).length < 2):qr p=0:=by
 unfold qr;rw [show (je p).length - 1=0 by omega];rfl
end Go.Gs
