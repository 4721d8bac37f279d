/- Dashes: where the pen is down, in the first text. -/
import Derived.Test.YtplllpkdmehklaaGreatDoorMA
import Derived.Test.YtplllpkdmehklaaGreatDoorMBM
set_option maxRecDepth 100000
set_option maxHeartbeats 8000000
set_option linter.all false
namespace Go.Gs
open Go.Proofs
theorem zxp(pen:Pen)(t:Nat):phD pen t=((t:Int)+256*pen.ph) % uD pen.d:=by unfold phD;exact (Int.add_emod ..).symm
theorem zgE{d:List Int}(h:∀n∈d,0<=n){i:Nat}(hi:i<=d.length):0<=qP d i/\qP d i<=uD d:=by
 have h1:=zgB h (Nat.zero_le i);have h2:=zgB h hi;rw [vu] at h1;rw [vO] at h2;exact ⟨h1,h2⟩
theorem ph_at {pen:Pen} {i a t:Nat} {e lft:Int} (hn:∀n∈pen.d,0<=n) (he:pen.d[i]? =some e) (hl:lft<=256*e)
  (hc:uD pen.d ∣ qP pen.d (i+1) - lft - ((a:Int)+256*pen.ph)) (h1:a<=t) (h2:(t:Int) - a < lft):phD pen t=qP pen.d (i+1) - lft+((t:Int) - a):=by
 have hi:i < pen.d.length:=(List.getElem?_eq_some_iff.1 he).1;have hp:=zgE hn (show i<=pen.d.length by omega);have hq:=zgE hn (show i+1<=pen.d.length by omega);have hs:=vt he;obtain ⟨q,hq'⟩:=hc;rw [zxp];have e1:(t:Int)+256*pen.ph=(qP pen.d (i+1) - lft+((t:Int) - a))+uD pen.d*(-q):=by rw [Int.mul_neg];omega
 rw [e1,Int.add_mul_emod_self_left];exact Int.emod_eq_of_lt oM oM
theorem on_at {pen:Pen} {i a t:Nat} {e lft:Int} (hn:∀n∈pen.d,0<=n) (he:pen.d[i]? =some e) (hl:lft<=256*e)
  (hc:uD pen.d ∣ qP pen.d (i+1) - lft - ((a:Int)+256*pen.ph)) (h1:a<=t) (h2:(t:Int) - a < lft):onD pen t↔i % 2=0:=by
 have hs:=vt he;unfold onD;rw [ph_at hn he hl hc h1 h2,zhQ hn he oM oM];show (0+i) % 2=0↔_;rw [Nat.zero_add]
theorem zzx {pen:Pen} {i a b:Nat} {lft e':Int} (hi:i < pen.d.length) (he':pen.d[(i+1) % pen.d.length]? =some e')
  (hc:uD pen.d ∣ qP pen.d (i+1) - lft - ((a:Int)+256*pen.ph)) (hb:(b:Int)=a+lft):
  uD pen.d ∣ qP pen.d ((i+1) % pen.d.length+1) - 256*e' - ((b:Int)+256*pen.ph):=by
 rw [vt he']
 by_cases h:i+1 < pen.d.length
 ·rw [Nat.mod_eq_of_lt h]
  rwa [show qP pen.d (i+1)+256*e' - 256*e' - ((b:Int)+256*pen.ph)=qP pen.d (i+1) - lft - ((a:Int)+256*pen.ph) by omega]
 ·have hl:i+1=pen.d.length:=by omega
  rw [hl,Nat.mod_self,vu];rw [hl,vO] at hc;rw [show (0:Int)+256*e' - 256*e' - ((b:Int)+256*pen.ph)=(uD pen.d - lft - ((a:Int)+256*pen.ph)) - uD pen.d by omega];exact Int.dvd_sub hc (Int.dvd_refl _)
def uS(r:Nat)(d:List Int)(n:Nat):Int:=((List.range n).map fun i=>if i % 2=r then d.getD i 0 else 0).sum
theorem zlo(r:Nat)(d:List Int)(n:Nat):uS r d (n+1)=uS r d n+if n % 2=r then d.getD n 0 else 0:=by
 unfold uS;rw [List.range_succ,List.map_append,List.sum_append];simp
theorem zfU{r:Nat}{d:List Int}{n:Nat}{x:Int}(hx:d[n]? =some x)(h:n % 2=r):uS r d (n+1)=uS r d n+x:=by
 rw [zlo,if_pos h,List.getD_eq_getElem?_getD,hx];rfl
theorem zjs{r:Nat}{d:List Int}{n:Nat}(h:¬n % 2=r):uS r d (n+1)=uS r d n:=by
 rw [zlo,if_neg h,Int.add_zero]
theorem zfV(d:List Int):∀n,n<=d.length->256*(uS 0 d n+uS 1 d n)=qP d n
 | 0,_=>rfl
 | n+1,h=>by
  have ih:=zfV d n oM;have hx:d[n]? =some d[n]:=List.getElem?_eq_getElem oM;rw [vt hx]
  rcases Nat.mod_two_eq_zero_or_one n with k | k
  ·rw [zfU hx k,zjs (r:=1) oM];omega
  ·rw [zfU hx k,zjs (r:=0) oM];omega
theorem zjt(d:List Int):drawn d=256*uS 0 d d.length:=rfl
theorem zcj{r:Nat}{d:List Int}(h:∀n∈d,0<=n):∀n,n<=d.length->0<=uS r d n
 | 0,_=>Int.le_refl 0
 | n+1,hn=>by
  have ih:=zcj (r:=r) h n oM;have hx:d[n]? =some d[n]:=List.getElem?_eq_getElem oM;have:=h d[n] (List.getElem_mem _)
  by_cases k:n % 2=r
  ·rw [zfU hx k];omega
  ·rw [zjs k];exact ih
theorem zck{d:List Int}(h:v6 d):(∀n∈d,0<=n)/\(∀n∈d,n<=1048576)/\d.length<=16/\uD d<=4294967296:=by
 have h2:∀n∈d,n<=1048576:=fun n hn=>(h.1 n hn).2
 have h3:d.length<=16:=by have:=h.2.2.2;omega
 have:=zwx h2;exact ⟨fun n hn=>(h.1 n hn).1,h2,h3,by unfold uD;omega⟩
def frI:Option Nat->Int
 | none=> -1
 | some f=>f
theorem zmT{o:Option Nat}(h:frI o < 0):o=none:=by
 cases o with
 | none=>rfl
 | some f=>have h:(f:Int) < 0:=h;omega
theorem zmU{o:Option Nat}(h:¬frI o < 0):∃f,o=some f/\frI o=f:=by
 cases o with
 | none=>exact absurd (show (-1:Int) < 0 by decide) h
 | some f=>exact ⟨f,rfl,rfl⟩
theorem zuc(pen:Pen)(hk:qa pen)(hper:0 < uD pen.d):zd Tryz.prog 256 [.agg (ue pen),i64 0] [] (.tup [i64 ((zhf pen.d (phD pen 0) 0).1:Int),i64 (zhf pen.d (phD pen 0) 0).2]) []:=by
 refine zc tok mix Tryz.func256 rfl rfl rfl ?_;obtain ⟨d1,d2,d3,d4⟩:=zck hk.2.2.2.2.1;have hph:=hk.2.2.2.2.2;intro hl1;refine ⟨Nat,fun i=>⟨[(1,i64 0),(2,.loc 0 0),(6,i64 (qP pen.d i)),(13,.sl uR pen.d),(14,i64 (pen.d.length:Int)),(15,i64 (i:Int))],[(0,.box 46 (ue pen))],1,57,0⟩,fun i=>i<=pen.d.length,fun i=>pen.d.length - i,0,?_,?_,?_⟩
 ·exact Nat.zero_le _
 ·exact zf [(0,some 0)]
 rintro i hi
 have hpi:=zgE d1 hi;refine Br.mk (fun g=>?_) (fun g=>?_)
 ·have g:(i:Int) < pen.d.length:=g;refine Ob.o ?_;intro x hx;have hx:pen.d[i]? =some x:=hx;have hx1:=d1 x (List.mem_of_getElem? hx);have hx2:=d2 x (List.mem_of_getElem? hx);(iterate 3 refine Ar.o ?_);exact ⟨i+1,oM,z9 [(0,some 0)] ⟨rfl,rfl,congrArg (fun q=>some (i64 q)) (vt hx).symm,rfl,rfl,rfl,trivial⟩ ⟨rfl,trivial⟩,by dsimp only;omega⟩
 have g:¬(i:Int) < pen.d.length:=g;have ei:i=pen.d.length:=oM;have eP:qP pen.d i=uD pen.d:=by rw [ei,vO]
 have m1:=Int.emod_nonneg (256*pen.ph) (show qP pen.d i≠0 by omega);have m2:=Int.emod_lt_of_pos (256*pen.ph) (show 0 < qP pen.d i by omega);have m3:(0:Int) % qP pen.d i=0:=Int.zero_emod _;have m4:=Int.emod_nonneg (0 % qP pen.d i+256*pen.ph % qP pen.d i) (show qP pen.d i≠0 by omega);have m5:=Int.emod_lt_of_pos (0 % qP pen.d i+256*pen.ph % qP pen.d i) (show 0 < qP pen.d i by omega);refine Dr.k ?_;refine Dv.pos ⟨oM,oM⟩ ?_;refine Ar.o ?_;refine Dv.pos ⟨oM,oM⟩ ?_;refine Ar.o ?_;refine Dv.pos ⟨oM,oM⟩ ?_
 have ek:phD pen 0=(0 % qP pen.d i+256*pen.ph % qP pen.d i) % qP pen.d i:=by rw [eP];rfl
 rw [← ek] at m4 m5;intro hl2;refine ⟨Nat,fun i=>⟨[(9,i64 (phD pen 0 - qP pen.d i)),(36,.sl uR pen.d),(37,i64 (pen.d.length:Int)),(38,i64 (i:Int))],[],0,57,0⟩,fun i=>i<=pen.d.length/\qP pen.d i<=phD pen 0,fun i=>pen.d.length - i,0,?_,?_,?_⟩
 ·exact ⟨Nat.zero_le _,by rw [vu];exact m4⟩
 ·exact z9 [] ⟨congrArg (fun q=>some (i64 q)) (by rw [vu,Int.sub_zero];exact ek.symm),rfl,rfl,rfl,trivial⟩ trivial
 rw [eP] at m5
 rintro i ⟨hi,hle⟩
 have hpi:=zgE d1 hi;refine Br.mk (fun g=>?_) (fun g=>?_)
 ·have g:(i:Int) < pen.d.length:=g;refine Ob.o ?_;intro x hx;have hx:pen.d[i]? =some x:=hx;have hx1:=d1 x (List.mem_of_getElem? hx);have hx2:=d2 x (List.mem_of_getElem? hx);have hs:=vt hx;refine Ar.o ?_;refine Br.mk (fun c=>?_) (fun c=>?_)
  ·have c:phD pen 0 - qP pen.d i < 256*x:=c;have hp:=zhQ (i0:=0) d1 hx hle oM;(iterate 2 refine Ar.o ?_);refine zU (zj ?_) (zj ?_)
   ·rw [hp];show (i:Int)=((0+i:Nat):Int);omega
   ·rw [hp];dsimp only;omega
  ·have c:¬phD pen 0 - qP pen.d i < 256*x:=c;(iterate 3 refine Ar.o ?_);exact ⟨i+1,⟨oM,oM⟩,z9 [] ⟨congrArg (fun q=>some (i64 q)) (by rw [hs];omega),rfl,rfl,rfl,trivial⟩ trivial,by dsimp only;omega⟩
 ·have g:¬(i:Int) < pen.d.length:=g;have:qP pen.d i=uD pen.d:=by rw [show i=pen.d.length by omega,vO]
  omega
def runE(q:Nat×Nat):List SV:=[i64 (q.1:Int),i64 (q.2:Int)]
theorem zzy{pen:Pen}{long:Int}(h1:qa pen)(h2:¬long < 1)(h3:¬uS 1 pen.d pen.d.length=0)(h4:¬uS 0 pen.d pen.d.length=0):qC pen long=zfG (onD pen) long.toNat:=by
 have hs:=zfV pen.d pen.d.length (Nat.le_refl _);rw [vO] at hs;have hd:=zjt pen.d;unfold qC;rw [if_neg (fun h=>by rcases h with h | h | h;exact h h1;exact h2 h;omega),if_neg oM]
theorem zqR{pen:Pen}{long:Int}(h1:qa pen)(h2:¬long < 1)(h3:uS 1 pen.d pen.d.length=0):qC pen long=[(0,long.toNat)]:=by
 have hs:=zfV pen.d pen.d.length (Nat.le_refl _);rw [vO] at hs;have hd:=zjt pen.d;unfold qC;rw [if_neg (fun h=>by rcases h with h | h | h;exact h h1;exact h2 h;omega),if_pos oM]
theorem zud{pen:Pen}{long:Int}(h1:qa pen)(h2:¬long < 1)(h3:¬uS 1 pen.d pen.d.length=0)(h4:uS 0 pen.d pen.d.length=0)(h5:∀n∈pen.d,0<=n):qC pen long=[]:=by
 have hs:=zfV pen.d pen.d.length (Nat.le_refl _);rw [vO] at hs;have hd:=zjt pen.d;have hp:=zcj (r:=1) h5 pen.d.length (Nat.le_refl _);unfold qC;rw [if_pos (.inr (.inr ⟨oM,oM⟩))]
theorem zo4{pen:Pen}{long:Int}(h:¬qa pen∨long < 1):qC pen long=[]:=by
 unfold qC;rw [if_pos (by rcases h with h | h;exact .inl h;exact .inr (.inl h))]
structure Wk where
 a:Nat
 i:Nat
 l:Int
def okW(pen:Pen)(long:Int)(s:Wk):Prop:=
 (s.a:Int)<=long/\s.i < pen.d.length/\0<=s.l/\(∃e,pen.d[s.i]? =some e/\s.l<=256*e)/\((s.a:Int) < long->uD pen.d ∣ qP pen.d (s.i+1) - s.l - ((s.a:Int)+256*pen.ph))
def jj(pen:Pen)(long:Int)(s:Wk):Wk:=⟨s.a+(min s.l (long - s.a)).toNat,(s.i+1) % pen.d.length,256*pen.d.getD ((s.i+1) % pen.d.length) 0⟩
def muW(pen:Pen)(long:Int)(j:Nat)(s:Wk):Nat:=(long.toNat - s.a)*(pen.d.length+2)+if s.l=0 then 1+(j+pen.d.length - 1 - s.i) % pen.d.length else 0
theorem zzz{pen:Pen}{long:Int}{s:Wk}(hd:v6 pen.d)(h:okW pen long s)(hlt:(s.a:Int) < long):okW pen long (jj pen long s):=by
 obtain ⟨h1,h2,h3,⟨e,h4,h5⟩,h6⟩:=h;obtain ⟨d1,d2,d3,d4⟩:=zck hd;have hm:(s.i+1) % pen.d.length < pen.d.length:=Nat.mod_lt _ oM
 have hx:pen.d[(s.i+1) % pen.d.length]? =some (pen.d.getD ((s.i+1) % pen.d.length) 0):=by
  rw [List.getD_eq_getElem?_getD,List.getElem?_eq_getElem hm];rfl
 have hx1:=d1 _ (List.mem_of_getElem? hx);refine ⟨by unfold jj;dsimp only;omega,hm,by unfold jj;dsimp only;omega,⟨_,hx,Int.le_refl _⟩,fun hl=>?_⟩;unfold jj at hl ⊢;dsimp only at hl ⊢;exact zzx h2 hx (h6 hlt) oM
theorem zzA{pen:Pen}{long:Int}{s:Wk}{j:Nat}(hd:v6 pen.d)(h:okW pen long s)(hlt:(s.a:Int) < long)(hj:∃x,pen.d[j]? =some x/\0 < x):muW pen long j (jj pen long s) < muW pen long j s:=by
 obtain ⟨h1,h2,h3,⟨e,h4,h5⟩,h6⟩:=h;obtain ⟨x,hx,hx0⟩:=hj;have hjl:j < pen.d.length:=(List.getElem?_eq_some_iff.1 hx).1;unfold muW jj;dsimp only
 by_cases z:s.l=0
 ·rw [if_pos z];have e0:(min s.l (long - s.a)).toNat=0:=oM;rw [e0,Nat.add_zero];refine Nat.add_lt_add_left ?_ _
  split
  ·rename_i hz
   -- the next is none of the entries that are more than zero
   have hne:(s.i+1) % pen.d.length≠j:=fun he=>by
    rw [he,List.getD_eq_getElem?_getD,hx] at hz;have hz:256*x=0:=hz;omega
   have key:(j+pen.d.length - 1 - (s.i+1) % pen.d.length) % pen.d.length+1=(j+pen.d.length - 1 - s.i) % pen.d.length:=by
    by_cases c:s.i+1 < pen.d.length
    ·rw [Nat.mod_eq_of_lt c] at hne ⊢
     by_cases c2:s.i < j
     ·rw [show j+pen.d.length - 1 - (s.i+1)=(j - 1 - (s.i+1))+pen.d.length by omega,show j+pen.d.length - 1 - s.i=(j - 1 - s.i)+pen.d.length by omega,Nat.add_mod_right,Nat.add_mod_right,Nat.mod_eq_of_lt oM,Nat.mod_eq_of_lt oM];omega
     ·rw [Nat.mod_eq_of_lt oM,Nat.mod_eq_of_lt oM];omega
    ·have hl:s.i+1=pen.d.length:=by omega
     rw [hl,Nat.mod_self] at hne ⊢;rw [show j+pen.d.length - 1 - 0=(j - 1)+pen.d.length by omega,Nat.add_mod_right,Nat.mod_eq_of_lt (show j - 1 < pen.d.length by omega),Nat.mod_eq_of_lt (show j+pen.d.length - 1 - s.i < pen.d.length by omega)];omega
   omega
  ·omega
 ·rw [if_neg z];have hm:(j+pen.d.length - 1 - (s.i+1) % pen.d.length) % pen.d.length < pen.d.length:=Nat.mod_lt _ oM;have e1:long.toNat - s.a=(long.toNat - (s.a+(min s.l (long - s.a)).toNat))+(min s.l (long - s.a)).toNat:=oM;have e2:1<=(min s.l (long - s.a)).toNat:=oM;have e3:1*(pen.d.length+2)<=(min s.l (long - s.a)).toNat*(pen.d.length+2):=Nat.mul_le_mul_right _ e2;rw [e1,Nat.add_mul]
  split <;> omega
theorem zxq{pen:Pen}{long:Int}{s:Wk}(hd:v6 pen.d)(h:okW pen long s)(hlt:(s.a:Int) < long)(hm:¬min s.l (long - s.a)=0):
  (s.i % 2=0->qI (onD pen) (jj pen long s).a=((qI (onD pen) s.a).1,some ((qI (onD pen) s.a).2.getD s.a)))/\(¬s.i % 2=0->qI (onD pen) (jj pen long s).a=(zfG (onD pen) s.a,none)):=by
 obtain ⟨h1,h2,h3,⟨e,h4,h5⟩,h6⟩:=h;obtain ⟨d1,d2,d3,d4⟩:=zck hd
 have on:∀t,s.a<=t->t < (jj pen long s).a->(onD pen t↔s.i % 2=0):=fun t ht ht2=>by
  unfold jj at ht2;dsimp only at ht2;exact on_at d1 h4 h5 (h6 hlt) ht oM
 have hab:s.a < (jj pen long s).a:=by unfold jj;dsimp only;omega
 exact ⟨fun k=>zBF hab fun t a b=>(on t a b).2 k,fun k=>zzb hab fun t a b c=>k ((on t a b).1 c)⟩
theorem zzB(pen:Pen)(long:Int)(hlong:long<=70368744177664):zk7 Tryz.prog 255 [.dptr (ue pen),.dptr [i64 long]] runE (qC pen long):=by
 refine zmM (caps:=[.dptr (ue pen),.dptr [i64 long]]) (enc:=runE) (xs:=qC pen long) tok mix Tryz.func255 rfl rfl rfl rfl (fun l=>?_);have bad:¬qa pen∨long < 1->0=(qC pen long).length:=fun h=>by rw [zo4 h];rfl
 refine zb.t (zd2 pen) ?_;refine Br.mk (fun k=>.inr (bad (.inl k))) (fun k=>?_);have hk:qa pen:=Decidable.not_not.1 k;refine Br.mk (fun k2=>.inr (bad (.inr (by have k2:long<=0:=k2;omega)))) (fun k2=>?_);have k2:¬long<=0:=k2;have hd:=hk.2.2.2.2.1;obtain ⟨d1,d2,d3,d4⟩:=zck hd;intro hl1
 refine ⟨Nat,fun i=>⟨[(0,.val (.func (.yield l) #[] #[])),(1,.dptr (ue pen)),(2,.dptr [i64 long]),(4,.loc 0 0),(20,.sl uR pen.d),(21,i64 (pen.d.length:Int)),(22,i64 (i:Int))],[(0,.box 27 [i64 (uS 0 pen.d i),i64 (uS 1 pen.d i)])],1,103,0⟩,fun _=>0,fun i=>i<=pen.d.length,fun i=>pen.d.length - i,0,?_,?_,rfl,rfl,?_⟩
 ·exact Nat.zero_le _
 ·exact zf [(0,some 0)]
 rintro i hi
 have hs:=zfV pen.d i hi;have hpi:=zgE d1 hi;have p0:=zcj (r:=0) d1 i hi;have p1:=zcj (r:=1) d1 i hi;refine Br.mk (fun g=>?_) (fun g=>?_)
 ·have g:(i:Int) < pen.d.length:=g;refine Ob.o ?_;intro x hx;have hx:pen.d[i]? =some x:=hx;have hx1:=d1 x (List.mem_of_getElem? hx);have hx2:=d2 x (List.mem_of_getElem? hx);refine Dv.pos ⟨oM,dC⟩ ?_
  rcases Nat.mod_two_eq_zero_or_one i with h | h
  ·rw [show (i:Int) % 2=0 by omega];(iterate 2 refine Ar.o ?_);exact ⟨i+1,oM,zY [(0,some 0)] ⟨(show some (Mem.box 27 [i64 (uS 0 pen.d i+x),i64 (uS 1 pen.d i)])=some (Mem.box 27 [i64 (uS 0 pen.d (i+1)),i64 (uS 1 pen.d (i+1))]) by rw [zfU hx h,zjs (r:=1) oM]),trivial⟩,rfl,rfl,by dsimp only;omega⟩
  ·rw [show (i:Int) % 2=1 by omega];(iterate 2 refine Ar.o ?_);exact ⟨i+1,oM,zY [(0,some 0)] ⟨(show some (Mem.box 27 [i64 (uS 0 pen.d i),i64 (uS 1 pen.d i+x)])=some (Mem.box 27 [i64 (uS 0 pen.d (i+1)),i64 (uS 1 pen.d (i+1))]) by rw [zfU hx h,zjs (r:=0) oM]),trivial⟩,rfl,rfl,by dsimp only;omega⟩
 have g:¬(i:Int) < pen.d.length:=g;have ei:i=pen.d.length:=oM;refine Br.mk (fun q1=>?_) (fun q1=>?_)
 ·have q1:uS 1 pen.d i=0:=q1;rw [ei] at q1;have e:=zqR (long:=long) hk oM q1;refine ⟨rfl,(0,long.toNat),by rw [e];rfl,rfl,.cons .refl (.cons (zj (show long=((long.toNat:Nat):Int) by omega)) .nil),(fun k m h=>?_),?_⟩
  ·cases h with
   | head=>rfl
   | tail _ h=>cases h
  ·exact Br.mk (.inr (by rw [e];rfl)) (.inl rfl)
 have q1:¬uS 1 pen.d i=0:=q1;rw [ei] at q1;refine Br.mk (fun q0=>?_) (fun q0=>?_)
 ·have q0:uS 0 pen.d i=0:=q0;rw [ei] at q0;exact .inr (by rw [zud (long:=long) hk oM q1 q0 d1];rfl)
 have q0:¬uS 0 pen.d i=0:=q0;rw [ei] at q0 hs p0 p1;rw [vO] at hs;have eR:=zzy (long:=long) hk oM q1 q0;have hper:0 < uD pen.d:=oM
 obtain ⟨j,y,hj,hy⟩:∃(j:Nat) (y:Int),pen.d[j]? =some y/\0 < y:=by
  have hn:=hd.2.1.resolve_left fun h=>q1 (by rw [h];rfl)
  obtain ⟨n,hn,h0⟩:=hn;obtain ⟨j,hj,he⟩:=List.getElem_of_mem hn;exact ⟨j,n,by rw [List.getElem?_eq_getElem hj,he],h0⟩
 refine zb.t (zuc pen hk hper) ?_
 -- where it begins
 have k0:=Int.emod_nonneg ((0:Nat)+256*pen.ph) (show uD pen.d≠0 by omega);have k1:=Int.emod_lt_of_pos ((0:Nat)+256*pen.ph) hper;rw [← zxp pen 0] at k0 k1;obtain ⟨i0,e0,g1,g2,g3⟩:=zr1 d1 k0 k1;have gp:=zhQ (i0:=0) d1 g1 g2 g3;rw [Nat.zero_add] at gp;have gs:=vt g1
 have ok0:okW pen long ⟨0,i0,qP pen.d i0+256*e0 - phD pen (0:Nat)⟩:=by
  refine ⟨by dsimp only;omega,(List.getElem?_eq_some_iff.1 g1).1,by dsimp only;omega,⟨e0,g1,by dsimp only;omega⟩,fun _=>?_⟩;dsimp only;rw [show qP pen.d (i0+1) - (qP pen.d i0+256*e0 - phD pen (0:Nat)) - (((0:Nat):Int)+256*pen.ph)=phD pen (0:Nat) - (((0:Nat):Int)+256*pen.ph) by omega,zxp];have:=Int.emod_add_mul_ediv (((0:Nat):Int)+256*pen.ph) (uD pen.d);exact ⟨-((((0:Nat):Int)+256*pen.ph) / uD pen.d),by rw [Int.mul_neg];omega⟩
 have gp:zhf pen.d (phD pen 0) 0=(i0,qP pen.d i0+256*e0 - phD pen (0:Nat)):=gp;refine ⟨Wk,fun s=>⟨[(0,.val (.func (.yield l) #[] #[])),(1,.dptr (ue pen)),(2,.dptr [i64 long]),(7,i64 (frI (qI (onD pen) s.a).2)),(8,i64 (s.i:Int)),(9,i64 s.l),(10,i64 (s.a:Int))],[],0,103,0⟩,fun s=>(qI (onD pen) s.a).1.length,okW pen long,muW pen long j,⟨0,i0,qP pen.d i0+256*e0 - phD pen (0:Nat)⟩,ok0,?_,rfl,rfl,?_⟩
 ·exact z9 [] ⟨rfl,rfl,rfl,rfl,congrArg (fun q=>some (i64 q)) (by rw [gp]),congrArg (fun q=>some (i64 q)) (by rw [gp]),rfl,trivial⟩ trivial
 rintro s hs0
 obtain ⟨h1,h2,h3,⟨e,h4,h5⟩,h6⟩:=id hs0;have hpl:=zgE d1 (show s.i<=pen.d.length by omega);have he2:=d2 e (List.mem_of_getElem? h4);refine Br.mk (fun c=>?_) (fun c=>?_);rotate_left
 ·have c:¬(s.a:Int) < long:=c;have ea:s.a=long.toNat:=oM;have eF:qC pen long=(qI (onD pen) s.a).1++((qI (onD pen) s.a).2.map fun f=>(f,s.a)).toList:=by rw [eR,← ea];rfl
  refine Br.mk (fun f=>?_) (fun f=>?_)
  ·have f:0<=frI (qI (onD pen) s.a).2:=f;obtain ⟨q,hq,hq2⟩:=zmU (show ¬frI (qI (onD pen) s.a).2 < 0 by omega);rw [hq] at eF;refine ⟨rfl,(q,s.a),by rw [eF];exact List.getElem?_concat_length ..,rfl,.cons (zj hq2) (.cons (zj (show long=((s.a:Nat):Int) by omega)) .nil),(fun _ _ h=>by cases h),?_⟩;exact Br.mk (.inr (by rw [eF,List.length_append];rfl)) (.inl rfl)
  ·have f:¬0<=frI (qI (onD pen) s.a).2:=f;rw [zmT (show frI (qI (onD pen) s.a).2 < 0 by omega)] at eF;exact .inr (by rw [eF];exact (congrArg List.length (List.append_nil _)).symm)
 have c:(s.a:Int) < long:=c;have nok:=zzz hd hs0 c;have nmu:=zzA hd hs0 c ⟨y,hj,hy⟩;have nrun:=zxq hd hs0 c;have na:((jj pen long s).a:Int)=s.a+min s.l (long - s.a):=by unfold jj;dsimp only;omega
 have ni:(((jj pen long s).i:Nat):Int)=((s.i:Int)+1) % pen.d.length:=by unfold jj;dsimp only;exact Int.natCast_emod ..
 have m3:=Int.emod_nonneg ((s.i:Int)+1) (show (pen.d.length:Int)≠0 by omega);have m4:=Int.emod_lt_of_pos ((s.i:Int)+1) (show 0 < (pen.d.length:Int) by omega)
 have e2:(((s.i:Int)+1) % pen.d.length).toNat=(s.i+1) % pen.d.length:=by
  rw [show (s.i:Int)+1=((s.i+1:Nat):Int) by omega];omega
 have tailX:∀x,pen.d[(((s.i:Int)+1) % pen.d.length).toNat]? =some x->(0<=x/\x<=1048576)/\(jj pen long s).l=256*x:=fun x hx=>by
  refine ⟨⟨d1 x (List.mem_of_getElem? hx),d2 x (List.mem_of_getElem? hx)⟩,?_⟩;rw [e2] at hx;unfold jj;dsimp only;rw [List.getD_eq_getElem?_getD,hx];rfl
 have hmin:zcE s.l [long - (s.a:Int)]=min s.l (long - s.a):=rfl;refine Ar.o ?_;refine Br.mk (fun z=>?_) (fun z=>?_)
 ·have z:min s.l (long - s.a)=0:=z;have ea:(jj pen long s).a=s.a:=oM;(iterate 2 refine Ar.o ?_);intro hl2;refine Dv.pos ⟨oM,oM⟩ ?_;refine Ob.mk ⟨m3,m4⟩ ?_;intro x hx;obtain ⟨hx1,hx2⟩:=tailX x hx;refine Ar.o ?_;exact ⟨jj pen long s,nok,z9 [] ⟨rfl,rfl,rfl,congrArg (fun q=>some (i64 (frI (qI (onD pen) q).2))) ea.symm,congrArg (fun q=>some (i64 q)) ni.symm,congrArg (fun q=>some (i64 q)) hx2.symm,congrArg (fun q=>some (i64 q)) na.symm,trivial⟩ trivial,congrArg (fun q=>(qI (onD pen) q).1.length) ea.symm,rfl,nmu⟩
 have z:¬min s.l (long - s.a)=0:=z;obtain ⟨rOn,rOff⟩:=nrun z;have rF:=zwy (on:=onD pen) (show (jj pen long s).a<=long.toNat by have:=nok.1;omega);rw [← eR] at rF;refine Dv.pos ⟨oM,dC⟩ ?_;refine Br.mk (fun ev=>?_) (fun ev=>?_)
 ·have ev:s.i % 2=0:=by have ev:(s.i:Int) % 2=0:=ev;omega
  have rOn:=rOn ev;have cnt:(qI (onD pen) s.a).1.length=(qI (onD pen) (jj pen long s).a).1.length:=by rw [rOn]
  refine Br.mk (fun f=>?_) (fun f=>?_)
  ·have f:frI (qI (onD pen) s.a).2 < 0:=f;have hfr:(s.a:Int)=frI (qI (onD pen) (jj pen long s).a).2:=by rw [rOn,zmT f];rfl
   (iterate 2 refine Ar.o ?_);intro hl2;refine Dv.pos ⟨oM,oM⟩ ?_;refine Ob.mk ⟨m3,m4⟩ ?_;intro x hx;obtain ⟨hx1,hx2⟩:=tailX x hx;refine Ar.o ?_;exact ⟨jj pen long s,nok,z9 [] ⟨rfl,rfl,rfl,congrArg (fun q=>some (i64 q)) hfr,congrArg (fun q=>some (i64 q)) ni.symm,congrArg (fun q=>some (i64 q)) hx2.symm,congrArg (fun q=>some (i64 q)) na.symm,trivial⟩ trivial,cnt,rfl,nmu⟩
  ·have f:¬frI (qI (onD pen) s.a).2 < 0:=f;obtain ⟨q,hq,hq2⟩:=zmU f;have hfr:frI (qI (onD pen) s.a).2=frI (qI (onD pen) (jj pen long s).a).2:=by rw [rOn,hq];rfl
   refine Dv.pos ⟨oM,dC⟩ ?_;refine Br.mk (fun od=>absurd (show (s.i:Int) % 2=1 from od) oM) (fun _=>?_);(iterate 2 refine Ar.o ?_);intro hl2;refine Dv.pos ⟨oM,oM⟩ ?_;refine Ob.mk ⟨m3,m4⟩ ?_;intro x hx;obtain ⟨hx1,hx2⟩:=tailX x hx;refine Ar.o ?_;exact ⟨jj pen long s,nok,z9 [] ⟨rfl,rfl,rfl,congrArg (fun q=>some (i64 q)) hfr,congrArg (fun q=>some (i64 q)) ni.symm,congrArg (fun q=>some (i64 q)) hx2.symm,congrArg (fun q=>some (i64 q)) na.symm,trivial⟩ trivial,cnt,rfl,nmu⟩
 have ev:¬s.i % 2=0:=by have ev:¬(s.i:Int) % 2=0:=ev;omega
 have rOff:=rOff ev;refine Dv.pos ⟨oM,dC⟩ ?_;refine Br.mk (fun _=>?_) (fun od=>absurd (show (s.i:Int) % 2=1 by omega) od);refine Br.mk (fun f=>?_) (fun f=>?_)
 ·have f:0<=frI (qI (onD pen) s.a).2:=f;obtain ⟨q,hq,hq2⟩:=zmU (show ¬frI (qI (onD pen) s.a).2 < 0 by omega);have eA:(qI (onD pen) (jj pen long s).a).1=(qI (onD pen) s.a).1++[(q,s.a)]:=by rw [rOff];unfold zfG;rw [hq];rfl
  obtain ⟨r,hr⟩:=rF;rw [eA] at hr;refine ⟨rfl,(q,s.a),?_,rfl,.cons (zj hq2) (.cons .refl .nil),(fun _ _ h=>by cases h),?_⟩
  ·show (qC pen long)[(qI (onD pen) s.a).1.length]? =some (q,s.a);rw [hr,List.append_assoc,List.getElem?_append_right (Nat.le_refl _),Nat.sub_self];rfl
  refine Br.mk ?_ (.inl rfl);have hfr:(-1:Int)=frI (qI (onD pen) (jj pen long s).a).2:=by rw [rOff];rfl
  have cnt:(qI (onD pen) s.a).1.length+1=(qI (onD pen) (jj pen long s).a).1.length:=by rw [eA,List.length_append];rfl
  (iterate 2 refine Ar.o ?_);intro hl2;refine Dv.pos ⟨oM,oM⟩ ?_;refine Ob.mk ⟨m3,m4⟩ ?_;intro x hx;obtain ⟨hx1,hx2⟩:=tailX x hx;refine Ar.o ?_;exact ⟨jj pen long s,nok,z9 [] ⟨rfl,rfl,rfl,congrArg (fun q=>some (i64 q)) hfr,congrArg (fun q=>some (i64 q)) ni.symm,congrArg (fun q=>some (i64 q)) hx2.symm,congrArg (fun q=>some (i64 q)) na.symm,trivial⟩ trivial,cnt,rfl,nmu⟩
 ·have f:¬0<=frI (qI (onD pen) s.a).2:=f;have hq:=zmT (show frI (qI (onD pen) s.a).2 < 0 by omega);have hfr:frI (qI (onD pen) s.a).2=frI (qI (onD pen) (jj pen long s).a).2:=by rw [rOff,hq]
  have cnt:(qI (onD pen) s.a).1.length=(qI (onD pen) (jj pen long s).a).1.length:=by rw [rOff];unfold zfG;rw [hq];exact (congrArg List.length (List.append_nil _)).symm
  (iterate 2 refine Ar.o ?_);intro hl2;refine Dv.pos ⟨oM,oM⟩ ?_;refine Ob.mk ⟨m3,m4⟩ ?_;intro x hx;obtain ⟨hx1,hx2⟩:=tailX x hx;refine Ar.o ?_;exact ⟨jj pen long s,nok,z9 [] ⟨rfl,rfl,rfl,congrArg (fun q=>some (i64 q)) hfr,congrArg (fun q=>some (i64 q)) ni.symm,congrArg (fun q=>some (i64 q)) hx2.symm,congrArg (fun q=>some (i64 q)) na.symm,trivial⟩ trivial,cnt,rfl,nmu⟩
theorem p_on(pen:Pen)(long:Int):zd Tryz.prog 208 [.agg (ue pen),i64 long] [] (.dfn 255 [.dptr (ue pen),.dptr [i64 long]]) []:=by
 refine vv 2 tok mix Tryz.func208 rfl rfl rfl ?_;exact .refl
theorem zxr{c:List Pt}{x:Int}{i:Nat}(h:¬x < atS c i):zkk c x i=i:=by
 cases i with
 | zero=>rfl
 | succ i=>unfold zkk;rw [if_neg h]
theorem zBV{c:List Pt}{x:Int}{i:Nat}(h:x < atS c (i+1)):zkk c x (i+1)=zkk c x i:=by
 show (if x < atS c (i+1) then zkk c x i else i+1)=_;rw [if_pos h]
theorem zxs{q:Pl}{i:Nat}(h2:2<=(zR q).length)(hi:i<=(zR q).length - 2):nth q.pts ((i+1) % q.pts.length)=nth (zR q) (i+1):=by
 by_cases h:q.cl=true/\2<=q.pts.length
 ·have hl:=zci h.1 h.2
  by_cases e:i+1=q.pts.length
  ·rw [e,Nat.mod_self,zo3 h.1 h.2]
  ·rw [Nat.mod_eq_of_lt oM,zaT oM]
 ·have hl:=za9 h;rw [Nat.mod_eq_of_lt oM,zaT oM]
def meQ(q:Pl):Me:=⟨q.pts,tsL (zR q) ((zR q).length - 1),atS (zR q) ((zR q).length - 1)⟩
theorem zzC{p:Pl}(h:∀q∈p.pts,zn q):zsn p=meQ (zL p):=if_pos h
theorem zso(q:Pl)(x:Int)(hq:q.pts.length<=4096)(h2:2<=(zR q).length)(hx:0<=x/\x<=70368744177664):zd Tryz.prog 257 [.agg (meE (meQ q)),i64 x] [] (.agg (ptE (zhx (zR q) x))) []:=by
 refine zc tok mix Tryz.func257 rfl rfl rfl ?_;have ll:=yQ q;have tl:(meQ q).ts.length=(zR q).length - 1:=zhS ..;intro hl1;refine Ar.o ?_;refine ⟨Nat,fun i=>⟨[(1,i64 x),(2,.loc 0 0),(4,.loc 1 0),(5,i64 (i:Int))],[(0,.box 229 (meE (meQ q))),(1,.box 63 [i64 0,i64 0])],2,68,0⟩,fun i=>i<=(zR q).length - 2/\zkk (zR q) x ((zR q).length - 2)=zkk (zR q) x i,fun i=>i,(zR q).length - 2,?_,?_,?_⟩
 ·exact ⟨Nat.le_refl _,rfl⟩
 ·exact z9 [(0,some 0),(1,some 1)] ⟨rfl,rfl,rfl,congrArg (fun q=>some (i64 q)) (by rw [tl];omega),trivial⟩ ⟨rfl,rfl,trivial⟩
 rintro i ⟨hi,hidx⟩
 have ar:=zbG (zR q) i;have ar2:=zbG (zR q) (i+1);have ar3:=zbG (zR q) ((zR q).length - 1);refine Br.mk (fun g=>Ob.mk (by have g:(0:Int) < (i:Int):=g;omega) fun y hy=>Br.mk (fun c=>?_) (fun c=>?_)) (fun g=>?_)
 ·have g:(0:Int) < (i:Int):=g;have hy:=zgD (show (tsL (zR q) ((zR q).length - 1))[i]? =some y from hy);have c:x < y:=c;obtain ⟨k,rfl⟩:∃k,i=k+1:=⟨i - 1,oM⟩;refine Ar.o ?_;exact ⟨k,⟨oM,by rw [hidx,zBV (by rw [← hy];exact c)]⟩,z9 [(0,some 0),(1,some 1)] ⟨rfl,rfl,rfl,congrArg (fun q=>some (i64 q)) oM,trivial⟩ ⟨rfl,rfl,trivial⟩,Nat.lt_succ_self k⟩
 all_goals
  have hix:zkk (zR q) x ((zR q).length - 2)=i:=by
   first
   | exact hidx.trans (zxr (by rw [← zgD (show (tsL (zR q) ((zR q).length - 1))[i]? =some y from hy)];exact c))
   | exact hidx.trans (by rw [show i=0 by have g:¬(0:Int) < (i:Int):=g;omega];rfl)
  clear g;refine Ar.o ?_;intro hl2;refine Br.mk (fun d=>Ar.fit oM (Ob.mk ⟨oM,d⟩ fun z hz=>?_)) (fun d=>?_)
  all_goals
   have hn:1<=q.pts.length:=oM;have m3:=Int.emod_nonneg ((i:Int)+1) (show (q.pts.length:Int)≠0 by omega);have m4:=Int.emod_lt_of_pos ((i:Int)+1) (show 0 < (q.pts.length:Int) by omega)
   have e2:(((i:Int)+1) % q.pts.length).toNat=(i+1) % q.pts.length:=by
    rw [show (i:Int)+1=((i+1:Nat):Int) by omega];omega
   refine Dr.k ?_;refine Ob.mk (show 0<=(i:Int)/\(i:Int) < q.pts.length by omega) ?_;intro a ha;have ha:=uG (show q.pts[i]? =some a from ha);rw [← zaT (q:=q) (i:=i) oM] at ha;refine Ar.o ?_;intro hl3;refine Dv.pos ⟨oM,(show 0 < (q.pts.length:Int) by omega)⟩ ?_;refine Ob.mk ⟨m3,m4⟩ ?_;intro b hb;have hb:=uG (show q.pts[(((i:Int)+1) % q.pts.length).toNat]? =some b from hb);rw [e2,zxs h2 hi] at hb;refine Ob.mk (show 0<=(i:Int)/\(i:Int) < ((meQ q).ts.length:Int) by omega) ?_;intro u hu
   have hu:=zgD (show (tsL (zR q) ((zR q).length - 1))[i]? =some u from hu);refine Ar.o ?_;refine Ob.mk (show 0<=(i:Int)/\(i:Int) < ((meQ q).ts.length:Int) by omega) ?_;intro u' hu';have hu':=zgD (show (tsL (zR q) ((zR q).length - 1))[i]? =some u' from hu')
   have key:∀T,T=atS (zR q) (i+1)->zaJ a b (x - u) (T - u')=zhx (zR q) x:=fun T h=>by
    unfold zhx;dsimp only;rw [hix,h,hu,hu',ha,hb]
   first
   |have hT:=zgD (show (tsL (zR q) ((zR q).length - 1))[i+1]? =some z from hz)
    refine Ar.o ?_;refine zb.t (zmz a b (x - u) (z - u')) ?_;exact zaD (congrArg (fun p=>SV.agg (ptE p)) (key _ hT))
   |have d:¬(i:Int)+1 < ((meQ q).ts.length:Int):=d
    have hT:atS (zR q) ((zR q).length - 1)=atS (zR q) (i+1):=by rw [show (zR q).length - 1=i+1 by omega]
    refine Ar.fit (show -9223372036854775808<=atS (zR q) ((zR q).length - 1) - u'/\atS (zR q) ((zR q).length - 1) - u'<=9223372036854775807 by omega) ?_;refine zb.t (zmz a b (x - u) (atS (zR q) ((zR q).length - 1) - u')) ?_;exact zaD (congrArg (fun p=>SV.agg (ptE p)) (key _ hT))
end Go.Gs
