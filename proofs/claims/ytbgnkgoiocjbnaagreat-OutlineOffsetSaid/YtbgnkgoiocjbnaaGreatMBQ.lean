/- Dashes: the intervals one by one, in the first text. -/
import Derived.Test.YtbgnkgoiocjbnaaGreatMA
import Derived.Test.YtbgnkgoiocjbnaaGreatMBP
import Derived.Test.YtbgnkgoiocjbnaaGreatMAO
import Derived.RowKit3
import Derived.Below
import GoSem.Claim
import Derived.Test.YtbgnkgoiocjbnaaGreatMBB
import Derived.Test.YtbgnkgoiocjbnaaGreatMBD
set_option maxRecDepth 100000
set_option maxHeartbeats 8000000
set_option linter.all false
namespace Go.Gs
open Go.Proofs
def runE(q:Nat×Nat):List SV:=[i64 (q.1:Int),i64 (q.2:Int)]
theorem ztM{pen:Pen}{long:Int}(h1:k8 pen)(h2:¬long < 1)(h3:¬yV 1 pen.d pen.d.length=0)(h4:¬yV 0 pen.d pen.d.length=0):qh pen long=zd1 (onD pen) long.toNat:=by
 have hs:=zec pen.d pen.d.length (Nat.le_refl _);rw [uG] at hs;have hd:=zhl pen.d;unfold qh;rw [if_neg (fun h=>by rcases h with h | h | h;exact h h1;exact h2 h;omega),if_neg oM]
theorem znj{pen:Pen}{long:Int}(h1:k8 pen)(h2:¬long < 1)(h3:yV 1 pen.d pen.d.length=0):qh pen long=[(0,long.toNat)]:=by
 have hs:=zec pen.d pen.d.length (Nat.le_refl _);rw [uG] at hs;have hd:=zhl pen.d;unfold qh;rw [if_neg (fun h=>by rcases h with h | h | h;exact h h1;exact h2 h;omega),if_pos oM]
theorem zpW{pen:Pen}{long:Int}(h1:k8 pen)(h2:¬long < 1)(h3:¬yV 1 pen.d pen.d.length=0)(h4:yV 0 pen.d pen.d.length=0)(h5:∀n∈pen.d,0<=n):qh pen long=[]:=by
 have hs:=zec pen.d pen.d.length (Nat.le_refl _);rw [uG] at hs;have hd:=zhl pen.d;have hp:=zbd (r:=1) h5 pen.d.length (Nat.le_refl _);unfold qh;rw [if_pos (.inr (.inr ⟨oM,oM⟩))]
theorem zmb{pen:Pen}{long:Int}(h:¬k8 pen∨long < 1):qh pen long=[]:=by
 unfold qh;rw [if_pos (by rcases h with h | h;exact .inl h;exact .inr (.inl h))]
structure Wk where
 a:Nat
 i:Nat
 l:Int
def okW(pen:Pen)(long:Int)(s:Wk):Prop:=
 (s.a:Int)<=long/\s.i < pen.d.length/\0<=s.l/\(∃e,pen.d[s.i]? =some e/\s.l<=256*e)/\((s.a:Int) < long->yJ pen.d ∣ qz pen.d (s.i+1) - s.l - ((s.a:Int)+256*pen.ph))
def qL(pen:Pen)(long:Int)(s:Wk):Wk:=⟨s.a+(min s.l (long - s.a)).toNat,(s.i+1) % pen.d.length,256*pen.d.getD ((s.i+1) % pen.d.length) 0⟩
def muW(pen:Pen)(long:Int)(j:Nat)(s:Wk):Nat:=(long.toNat - s.a)*(pen.d.length+2)+if s.l=0 then 1+(j+pen.d.length - 1 - s.i) % pen.d.length else 0
theorem ztN{pen:Pen}{long:Int}{s:Wk}(hd:uQ pen.d)(h:okW pen long s)(hlt:(s.a:Int) < long):okW pen long (qL pen long s):=by
 obtain ⟨h1,h2,h3,⟨e,h4,h5⟩,h6⟩:=h;obtain ⟨d1,d2,d3,d4⟩:=zbe hd;have hm:(s.i+1) % pen.d.length < pen.d.length:=Nat.mod_lt _ oM
 have hx:pen.d[(s.i+1) % pen.d.length]? =some (pen.d.getD ((s.i+1) % pen.d.length) 0):=by
  rw [List.getD_eq_getElem?_getD,List.getElem?_eq_getElem hm];rfl
 have hx1:=d1 _ (List.mem_of_getElem? hx);refine ⟨by unfold qL;dsimp only;omega,hm,by unfold qL;dsimp only;omega,⟨_,hx,Int.le_refl _⟩,fun hl=>?_⟩;unfold qL at hl ⊢;dsimp only at hl ⊢;exact ztL h2 hx (h6 hlt) oM
theorem ztO{pen:Pen}{long:Int}{s:Wk}{j:Nat}(hd:uQ pen.d)(h:okW pen long s)(hlt:(s.a:Int) < long)(hj:∃x,pen.d[j]? =some x/\0 < x):muW pen long j (qL pen long s) < muW pen long j s:=by
 obtain ⟨h1,h2,h3,⟨e,h4,h5⟩,h6⟩:=h;obtain ⟨x,hx,hx0⟩:=hj;have hjl:j < pen.d.length:=(List.getElem?_eq_some_iff.1 hx).1;unfold muW qL;dsimp only
 by_cases z:s.l=0
 ·rw [if_pos z];have e0:(min s.l (long - s.a)).toNat=0:=oM;rw [e0,Nat.add_zero];refine Nat.add_lt_add_left ?_ _
  split
  ·rename_i hz
   -- the next is none of the entries that are more than zero
   have hne:(s.i+1) % pen.d.length≠j:=fun he=>by
    rw [he,List.getD_eq_getElem?_getD,hx] at hz;have hz:256*x=0:=hz;omega
   have key:(j+pen.d.length - 1 - (s.i+1) % pen.d.length) % pen.d.length+1=(j+pen.d.length - 1 - s.i) % pen.d.length:=by
    by_cases c:s.i+1 < pen.d.length
    ·rw [Nat.mod_eq_of_lt c] at hne ⊢
     by_cases c2:s.i < j
     ·rw [show j+pen.d.length - 1 - (s.i+1)=(j - 1 - (s.i+1))+pen.d.length by omega,show j+pen.d.length - 1 - s.i=(j - 1 - s.i)+pen.d.length by omega,Nat.add_mod_right,Nat.add_mod_right,Nat.mod_eq_of_lt oM,Nat.mod_eq_of_lt oM];omega
     ·rw [Nat.mod_eq_of_lt oM,Nat.mod_eq_of_lt oM];omega
    ·have hl:s.i+1=pen.d.length:=by omega
     rw [hl,Nat.mod_self] at hne ⊢;rw [show j+pen.d.length - 1 - 0=(j - 1)+pen.d.length by omega,Nat.add_mod_right,Nat.mod_eq_of_lt (show j - 1 < pen.d.length by omega),Nat.mod_eq_of_lt (show j+pen.d.length - 1 - s.i < pen.d.length by omega)];omega
   omega
  ·omega
 ·rw [if_neg z];have hm:(j+pen.d.length - 1 - (s.i+1) % pen.d.length) % pen.d.length < pen.d.length:=Nat.mod_lt _ oM;have e1:long.toNat - s.a=(long.toNat - (s.a+(min s.l (long - s.a)).toNat))+(min s.l (long - s.a)).toNat:=oM;have e2:1<=(min s.l (long - s.a)).toNat:=oM;have e3:1*(pen.d.length+2)<=(min s.l (long - s.a)).toNat*(pen.d.length+2):=Nat.mul_le_mul_right _ e2;rw [e1,Nat.add_mul]
  split <;> omega
theorem zsr{pen:Pen}{long:Int}{s:Wk}(hd:uQ pen.d)(h:okW pen long s)(hlt:(s.a:Int) < long)(hm:¬min s.l (long - s.a)=0):
  (s.i % 2=0->qp (onD pen) (qL pen long s).a=((qp (onD pen) s.a).1,some ((qp (onD pen) s.a).2.getD s.a)))/\(¬s.i % 2=0->qp (onD pen) (qL pen long s).a=(zd1 (onD pen) s.a,none)):=by
 obtain ⟨h1,h2,h3,⟨e,h4,h5⟩,h6⟩:=h;obtain ⟨d1,d2,d3,d4⟩:=zbe hd
 have on:∀t,s.a<=t->t < (qL pen long s).a->(onD pen t↔s.i % 2=0):=fun t ht ht2=>by
  unfold qL at ht2;dsimp only at ht2;exact zxA d1 h4 h5 (h6 hlt) ht oM
 have hab:s.a < (qL pen long s).a:=by unfold qL;dsimp only;omega
 exact ⟨fun k=>zvl hab fun t a b=>(on t a b).2 k,fun k=>ztm hab fun t a b c=>k ((on t a b).1 c)⟩
theorem ztP(pen:Pen)(long:Int)(hlong:long<=70368744177664):zix Tryz.prog 139 [.dptr (yi pen),.dptr [i64 long]] runE (qh pen long):=by
 refine zjW (caps:=[.dptr (yi pen),.dptr [i64 long]]) (enc:=runE) (xs:=qh pen long) tok mix Tryz.func139 rfl rfl rfl rfl (fun l=>?_);have bad:¬k8 pen∨long < 1->0=(qh pen long).length:=fun h=>by rw [zmb h];rfl
 refine zb.t (zdW pen) ?_;refine Br.mk (fun k=>.inr (bad (.inl k))) (fun k=>?_);have hk:k8 pen:=Decidable.not_not.1 k;refine Br.mk (fun k2=>.inr (bad (.inr (by have k2:long<=0:=k2;omega)))) (fun k2=>?_);have k2:¬long<=0:=k2;have hd:=hk.2.2.2.2.1;obtain ⟨d1,d2,d3,d4⟩:=zbe hd;intro hl1
 refine ⟨Nat,fun i=>⟨[(0,.val (.func (.yield l) #[] #[])),(1,.dptr (yi pen)),(2,.dptr [i64 long]),(4,.loc 0 0),(20,.sl zdT pen.d),(21,i64 (pen.d.length:Int)),(22,i64 (i:Int))],[(0,.box 134 [i64 (yV 0 pen.d i),i64 (yV 1 pen.d i)])],1,103,0⟩,fun _=>0,fun i=>i<=pen.d.length,fun i=>pen.d.length - i,0,?_,?_,rfl,rfl,?_⟩
 ·exact Nat.zero_le _
 ·exact zh [(0,some 0)]
 rintro i hi
 have hs:=zec pen.d i hi;have hpi:=zeI d1 hi;have p0:=zbd (r:=0) d1 i hi;have p1:=zbd (r:=1) d1 i hi;refine Br.mk (fun g=>?_) (fun g=>?_)
 ·have g:(i:Int) < pen.d.length:=g;refine Ob.o ?_;intro x hx;have hx:pen.d[i]? =some x:=hx;have hx1:=d1 x (List.mem_of_getElem? hx);have hx2:=d2 x (List.mem_of_getElem? hx);refine Dv.pos ⟨oM,dC⟩ ?_
  rcases Nat.mod_two_eq_zero_or_one i with h | h
  ·rw [show (i:Int) % 2=0 by omega];(iterate 2 refine Ar.o ?_);exact ⟨i+1,oM,zM [(0,some 0)] ⟨(show some (Mem.box 134 [i64 (yV 0 pen.d i+x),i64 (yV 1 pen.d i)])=some (Mem.box 134 [i64 (yV 0 pen.d (i+1)),i64 (yV 1 pen.d (i+1))]) by rw [zeb hx h,zhk (r:=1) oM]),trivial⟩,rfl,rfl,by dsimp only;omega⟩
  ·rw [show (i:Int) % 2=1 by omega];(iterate 2 refine Ar.o ?_);exact ⟨i+1,oM,zM [(0,some 0)] ⟨(show some (Mem.box 134 [i64 (yV 0 pen.d i),i64 (yV 1 pen.d i+x)])=some (Mem.box 134 [i64 (yV 0 pen.d (i+1)),i64 (yV 1 pen.d (i+1))]) by rw [zeb hx h,zhk (r:=0) oM]),trivial⟩,rfl,rfl,by dsimp only;omega⟩
 have g:¬(i:Int) < pen.d.length:=g;have ei:i=pen.d.length:=oM;refine Br.mk (fun q1=>?_) (fun q1=>?_)
 ·have q1:yV 1 pen.d i=0:=q1;rw [ei] at q1;have e:=znj (long:=long) hk oM q1;refine ⟨rfl,(0,long.toNat),by rw [e];rfl,rfl,.cons .refl (.cons (zu (show long=((long.toNat:Nat):Int) by omega)) .nil),(fun k m h=>?_),?_⟩
  ·cases h with
   | head=>rfl
   | tail _ h=>cases h
  ·exact Br.mk (.inr (by rw [e];rfl)) (.inl rfl)
 have q1:¬yV 1 pen.d i=0:=q1;rw [ei] at q1;refine Br.mk (fun q0=>?_) (fun q0=>?_)
 ·have q0:yV 0 pen.d i=0:=q0;rw [ei] at q0;exact .inr (by rw [zpW (long:=long) hk oM q1 q0 d1];rfl)
 have q0:¬yV 0 pen.d i=0:=q0;rw [ei] at q0 hs p0 p1;rw [uG] at hs;have eR:=ztM (long:=long) hk oM q1 q0;have hper:0 < yJ pen.d:=oM
 obtain ⟨j,y,hj,hy⟩:∃(j:Nat) (y:Int),pen.d[j]? =some y/\0 < y:=by
  have hn:=hd.2.1.resolve_left fun h=>q1 (by rw [h];rfl)
  obtain ⟨n,hn,h0⟩:=hn;obtain ⟨j,hj,he⟩:=List.getElem_of_mem hn;exact ⟨j,n,by rw [List.getElem?_eq_getElem hj,he],h0⟩
 refine zb.t (zpV pen hk hper) ?_
 -- where it begins
 have k0:=Int.emod_nonneg ((0:Nat)+256*pen.ph) (show yJ pen.d≠0 by omega);have k1:=Int.emod_lt_of_pos ((0:Nat)+256*pen.ph) hper;rw [← zsq pen 0] at k0 k1;obtain ⟨i0,e0,g1,g2,g3⟩:=zoj d1 k0 k1;have gp:=zfz (i0:=0) d1 g1 g2 g3;rw [Nat.zero_add] at gp;have gs:=um g1
 have ok0:okW pen long ⟨0,i0,qz pen.d i0+256*e0 - phD pen (0:Nat)⟩:=by
  refine ⟨by dsimp only;omega,(List.getElem?_eq_some_iff.1 g1).1,by dsimp only;omega,⟨e0,g1,by dsimp only;omega⟩,fun _=>?_⟩;dsimp only;rw [show qz pen.d (i0+1) - (qz pen.d i0+256*e0 - phD pen (0:Nat)) - (((0:Nat):Int)+256*pen.ph)=phD pen (0:Nat) - (((0:Nat):Int)+256*pen.ph) by omega,zsq];have:=Int.emod_add_mul_ediv (((0:Nat):Int)+256*pen.ph) (yJ pen.d);exact ⟨-((((0:Nat):Int)+256*pen.ph) / yJ pen.d),by rw [Int.mul_neg];omega⟩
 have gp:ze6 pen.d (phD pen 0) 0=(i0,qz pen.d i0+256*e0 - phD pen (0:Nat)):=gp;refine ⟨Wk,fun s=>⟨[(0,.val (.func (.yield l) #[] #[])),(1,.dptr (yi pen)),(2,.dptr [i64 long]),(7,i64 (frI (qp (onD pen) s.a).2)),(8,i64 (s.i:Int)),(9,i64 s.l),(10,i64 (s.a:Int))],[],0,103,0⟩,fun s=>(qp (onD pen) s.a).1.length,okW pen long,muW pen long j,⟨0,i0,qz pen.d i0+256*e0 - phD pen (0:Nat)⟩,ok0,?_,rfl,rfl,?_⟩
 ·exact z0 [] ⟨rfl,rfl,rfl,rfl,congrArg (fun q=>some (i64 q)) (by rw [gp]),congrArg (fun q=>some (i64 q)) (by rw [gp]),rfl,trivial⟩ trivial
 rintro s hs0
 obtain ⟨h1,h2,h3,⟨e,h4,h5⟩,h6⟩:=id hs0;have hpl:=zeI d1 (show s.i<=pen.d.length by omega);have he2:=d2 e (List.mem_of_getElem? h4);refine Br.mk (fun c=>?_) (fun c=>?_);rotate_left
 ·have c:¬(s.a:Int) < long:=c;have ea:s.a=long.toNat:=oM;have eF:qh pen long=(qp (onD pen) s.a).1++((qp (onD pen) s.a).2.map fun f=>(f,s.a)).toList:=by rw [eR,← ea];rfl
  refine Br.mk (fun f=>?_) (fun f=>?_)
  ·have f:0<=frI (qp (onD pen) s.a).2:=f;obtain ⟨q,hq,hq2⟩:=zj9 (show ¬frI (qp (onD pen) s.a).2 < 0 by omega);rw [hq] at eF;refine ⟨rfl,(q,s.a),by rw [eF];exact List.getElem?_concat_length ..,rfl,.cons (zu hq2) (.cons (zu (show long=((s.a:Nat):Int) by omega)) .nil),(fun _ _ h=>by cases h),?_⟩;exact Br.mk (.inr (by rw [eF,List.length_append];rfl)) (.inl rfl)
  ·have f:¬0<=frI (qp (onD pen) s.a).2:=f;rw [zj8 (show frI (qp (onD pen) s.a).2 < 0 by omega)] at eF;exact .inr (by rw [eF];exact (congrArg List.length (List.append_nil _)).symm)
 have c:(s.a:Int) < long:=c;have nok:=ztN hd hs0 c;have nmu:=ztO hd hs0 c ⟨y,hj,hy⟩;have nrun:=zsr hd hs0 c;have na:((qL pen long s).a:Int)=s.a+min s.l (long - s.a):=by unfold qL;dsimp only;omega
 have ni:(((qL pen long s).i:Nat):Int)=((s.i:Int)+1) % pen.d.length:=by unfold qL;dsimp only;exact Int.natCast_emod ..
 have m3:=Int.emod_nonneg ((s.i:Int)+1) (show (pen.d.length:Int)≠0 by omega);have m4:=Int.emod_lt_of_pos ((s.i:Int)+1) (show 0 < (pen.d.length:Int) by omega)
 have e2:(((s.i:Int)+1) % pen.d.length).toNat=(s.i+1) % pen.d.length:=by
  rw [show (s.i:Int)+1=((s.i+1:Nat):Int) by omega];omega
 have tailX:∀x,pen.d[(((s.i:Int)+1) % pen.d.length).toNat]? =some x->(0<=x/\x<=1048576)/\(qL pen long s).l=256*x:=fun x hx=>by
  refine ⟨⟨d1 x (List.mem_of_getElem? hx),d2 x (List.mem_of_getElem? hx)⟩,?_⟩;rw [e2] at hx;unfold qL;dsimp only;rw [List.getD_eq_getElem?_getD,hx];rfl
 have hmin:zac s.l [long - (s.a:Int)]=min s.l (long - s.a):=rfl;refine Ar.o ?_;refine Br.mk (fun z=>?_) (fun z=>?_)
 ·have z:min s.l (long - s.a)=0:=z;have ea:(qL pen long s).a=s.a:=oM;(iterate 2 refine Ar.o ?_);intro hl2;refine Dv.pos ⟨oM,oM⟩ ?_;refine Ob.mk ⟨m3,m4⟩ ?_;intro x hx;obtain ⟨hx1,hx2⟩:=tailX x hx;refine Ar.o ?_;exact ⟨qL pen long s,nok,z0 [] ⟨rfl,rfl,rfl,congrArg (fun q=>some (i64 (frI (qp (onD pen) q).2))) ea.symm,congrArg (fun q=>some (i64 q)) ni.symm,congrArg (fun q=>some (i64 q)) hx2.symm,congrArg (fun q=>some (i64 q)) na.symm,trivial⟩ trivial,congrArg (fun q=>(qp (onD pen) q).1.length) ea.symm,rfl,nmu⟩
 have z:¬min s.l (long - s.a)=0:=z;obtain ⟨rOn,rOff⟩:=nrun z;have rF:=zrz (on:=onD pen) (show (qL pen long s).a<=long.toNat by have:=nok.1;omega);rw [← eR] at rF;refine Dv.pos ⟨oM,dC⟩ ?_;refine Br.mk (fun ev=>?_) (fun ev=>?_)
 ·have ev:s.i % 2=0:=by have ev:(s.i:Int) % 2=0:=ev;omega
  have rOn:=rOn ev;have cnt:(qp (onD pen) s.a).1.length=(qp (onD pen) (qL pen long s).a).1.length:=by rw [rOn]
  refine Br.mk (fun f=>?_) (fun f=>?_)
  ·have f:frI (qp (onD pen) s.a).2 < 0:=f;have hfr:(s.a:Int)=frI (qp (onD pen) (qL pen long s).a).2:=by rw [rOn,zj8 f];rfl
   (iterate 2 refine Ar.o ?_);intro hl2;refine Dv.pos ⟨oM,oM⟩ ?_;refine Ob.mk ⟨m3,m4⟩ ?_;intro x hx;obtain ⟨hx1,hx2⟩:=tailX x hx;refine Ar.o ?_;exact ⟨qL pen long s,nok,z0 [] ⟨rfl,rfl,rfl,congrArg (fun q=>some (i64 q)) hfr,congrArg (fun q=>some (i64 q)) ni.symm,congrArg (fun q=>some (i64 q)) hx2.symm,congrArg (fun q=>some (i64 q)) na.symm,trivial⟩ trivial,cnt,rfl,nmu⟩
  ·have f:¬frI (qp (onD pen) s.a).2 < 0:=f;obtain ⟨q,hq,hq2⟩:=zj9 f;have hfr:frI (qp (onD pen) s.a).2=frI (qp (onD pen) (qL pen long s).a).2:=by rw [rOn,hq];rfl
   refine Dv.pos ⟨oM,dC⟩ ?_;refine Br.mk (fun od=>absurd (show (s.i:Int) % 2=1 from od) oM) (fun _=>?_);(iterate 2 refine Ar.o ?_);intro hl2;refine Dv.pos ⟨oM,oM⟩ ?_;refine Ob.mk ⟨m3,m4⟩ ?_;intro x hx;obtain ⟨hx1,hx2⟩:=tailX x hx;refine Ar.o ?_;exact ⟨qL pen long s,nok,z0 [] ⟨rfl,rfl,rfl,congrArg (fun q=>some (i64 q)) hfr,congrArg (fun q=>some (i64 q)) ni.symm,congrArg (fun q=>some (i64 q)) hx2.symm,congrArg (fun q=>some (i64 q)) na.symm,trivial⟩ trivial,cnt,rfl,nmu⟩
 have ev:¬s.i % 2=0:=by have ev:¬(s.i:Int) % 2=0:=ev;omega
 have rOff:=rOff ev;refine Dv.pos ⟨oM,dC⟩ ?_;refine Br.mk (fun _=>?_) (fun od=>absurd (show (s.i:Int) % 2=1 by omega) od);refine Br.mk (fun f=>?_) (fun f=>?_)
 ·have f:0<=frI (qp (onD pen) s.a).2:=f;obtain ⟨q,hq,hq2⟩:=zj9 (show ¬frI (qp (onD pen) s.a).2 < 0 by omega);have eA:(qp (onD pen) (qL pen long s).a).1=(qp (onD pen) s.a).1++[(q,s.a)]:=by rw [rOff];unfold zd1;rw [hq];rfl
  obtain ⟨r,hr⟩:=rF;rw [eA] at hr;refine ⟨rfl,(q,s.a),?_,rfl,.cons (zu hq2) (.cons .refl .nil),(fun _ _ h=>by cases h),?_⟩
  ·show (qh pen long)[(qp (onD pen) s.a).1.length]? =some (q,s.a);rw [hr,List.append_assoc,List.getElem?_append_right (Nat.le_refl _),Nat.sub_self];rfl
  refine Br.mk ?_ (.inl rfl);have hfr:(-1:Int)=frI (qp (onD pen) (qL pen long s).a).2:=by rw [rOff];rfl
  have cnt:(qp (onD pen) s.a).1.length+1=(qp (onD pen) (qL pen long s).a).1.length:=by rw [eA,List.length_append];rfl
  (iterate 2 refine Ar.o ?_);intro hl2;refine Dv.pos ⟨oM,oM⟩ ?_;refine Ob.mk ⟨m3,m4⟩ ?_;intro x hx;obtain ⟨hx1,hx2⟩:=tailX x hx;refine Ar.o ?_;exact ⟨qL pen long s,nok,z0 [] ⟨rfl,rfl,rfl,congrArg (fun q=>some (i64 q)) hfr,congrArg (fun q=>some (i64 q)) ni.symm,congrArg (fun q=>some (i64 q)) hx2.symm,congrArg (fun q=>some (i64 q)) na.symm,trivial⟩ trivial,cnt,rfl,nmu⟩
 ·have f:¬0<=frI (qp (onD pen) s.a).2:=f;have hq:=zj8 (show frI (qp (onD pen) s.a).2 < 0 by omega);have hfr:frI (qp (onD pen) s.a).2=frI (qp (onD pen) (qL pen long s).a).2:=by rw [rOff,hq]
  have cnt:(qp (onD pen) s.a).1.length=(qp (onD pen) (qL pen long s).a).1.length:=by rw [rOff];unfold zd1;rw [hq];exact (congrArg List.length (List.append_nil _)).symm
  (iterate 2 refine Ar.o ?_);intro hl2;refine Dv.pos ⟨oM,oM⟩ ?_;refine Ob.mk ⟨m3,m4⟩ ?_;intro x hx;obtain ⟨hx1,hx2⟩:=tailX x hx;refine Ar.o ?_;exact ⟨qL pen long s,nok,z0 [] ⟨rfl,rfl,rfl,congrArg (fun q=>some (i64 q)) hfr,congrArg (fun q=>some (i64 q)) ni.symm,congrArg (fun q=>some (i64 q)) hx2.symm,congrArg (fun q=>some (i64 q)) na.symm,trivial⟩ trivial,cnt,rfl,nmu⟩
theorem p_on(pen:Pen)(long:Int):zd Tryz.prog 86 [.agg (yi pen),i64 long] [] (.dfn 139 [.dptr (yi pen),.dptr [i64 long]]) []:=by
 refine zdg 2 tok mix Tryz.func86 rfl rfl rfl ?_;exact .refl
theorem zss{c:List Pt}{x:Int}{i:Nat}(h:¬x < atS c i):zd2 c x i=i:=by
 cases i with
 | zero=>rfl
 | succ i=>unfold zd2;rw [if_neg h]
theorem zvH{c:List Pt}{x:Int}{i:Nat}(h:x < atS c (i+1)):zd2 c x (i+1)=zd2 c x i:=by
 show (if x < atS c (i+1) then zd2 c x i else i+1)=_;rw [if_pos h]
theorem zst{q:Pl}{i:Nat}(h2:2<=(zN q).length)(hi:i<=(zN q).length - 2):nth q.pts ((i+1) % q.pts.length)=nth (zN q) (i+1):=by
 by_cases h:q.cl=true/\2<=q.pts.length
 ·have hl:=zbc h.1 h.2
  by_cases e:i+1=q.pts.length
  ·rw [e,Nat.mod_self,zma h.1 h.2]
  ·rw [Nat.mod_eq_of_lt oM,vN oM]
 ·have hl:=v6 h;rw [Nat.mod_eq_of_lt oM,vN oM]
def meQ(q:Pl):Me:=⟨q.pts,tsL (zN q) ((zN q).length - 1),atS (zN q) ((zN q).length - 1)⟩
theorem ztQ{p:Pl}(h:∀q∈p.pts,zo q):zoD p=meQ (zE p):=if_pos h
theorem zoE(q:Pl)(x:Int)(hq:q.pts.length<=4096)(h2:2<=(zN q).length)(hx:0<=x/\x<=70368744177664):zd Tryz.prog 141 [.agg (meE (meQ q)),i64 x] [] (.agg (ptE (zd3 (zN q) x))) []:=by
 refine zc tok mix Tryz.func141 rfl rfl rfl ?_;have ll:=yd q;have tl:(meQ q).ts.length=(zN q).length - 1:=zfE ..;intro hl1;refine Ar.o ?_;refine ⟨Nat,fun i=>⟨[(1,i64 x),(2,.loc 0 0),(4,.loc 1 0),(5,i64 (i:Int))],[(0,.box 118 (meE (meQ q))),(1,.box 52 [i64 0,i64 0])],2,68,0⟩,fun i=>i<=(zN q).length - 2/\zd2 (zN q) x ((zN q).length - 2)=zd2 (zN q) x i,fun i=>i,(zN q).length - 2,?_,?_,?_⟩
 ·exact ⟨Nat.le_refl _,rfl⟩
 ·exact z0 [(0,some 0),(1,some 1)] ⟨rfl,rfl,rfl,congrArg (fun q=>some (i64 q)) (by rw [tl];omega),trivial⟩ ⟨rfl,rfl,trivial⟩
 rintro i ⟨hi,hidx⟩
 have ar:=zaF (zN q) i;have ar2:=zaF (zN q) (i+1);have ar3:=zaF (zN q) ((zN q).length - 1);refine Br.mk (fun g=>Ob.mk (by have g:(0:Int) < (i:Int):=g;omega) fun y hy=>Br.mk (fun c=>?_) (fun c=>?_)) (fun g=>?_)
 ·have g:(0:Int) < (i:Int):=g;have hy:=zeH (show (tsL (zN q) ((zN q).length - 1))[i]? =some y from hy);have c:x < y:=c;obtain ⟨k,rfl⟩:∃k,i=k+1:=⟨i - 1,oM⟩;refine Ar.o ?_;exact ⟨k,⟨oM,by rw [hidx,zvH (by rw [← hy];exact c)]⟩,z0 [(0,some 0),(1,some 1)] ⟨rfl,rfl,rfl,congrArg (fun q=>some (i64 q)) oM,trivial⟩ ⟨rfl,rfl,trivial⟩,Nat.lt_succ_self k⟩
 all_goals
  have hix:zd2 (zN q) x ((zN q).length - 2)=i:=by
   first
   | exact hidx.trans (zss (by rw [← zeH (show (tsL (zN q) ((zN q).length - 1))[i]? =some y from hy)];exact c))
   | exact hidx.trans (by rw [show i=0 by have g:¬(0:Int) < (i:Int):=g;omega];rfl)
  clear g;refine Ar.o ?_;intro hl2;refine Br.mk (fun d=>Ar.fit oM (Ob.mk ⟨oM,d⟩ fun z hz=>?_)) (fun d=>?_)
  all_goals
   have hn:1<=q.pts.length:=oM;have m3:=Int.emod_nonneg ((i:Int)+1) (show (q.pts.length:Int)≠0 by omega);have m4:=Int.emod_lt_of_pos ((i:Int)+1) (show 0 < (q.pts.length:Int) by omega)
   have e2:(((i:Int)+1) % q.pts.length).toNat=(i+1) % q.pts.length:=by
    rw [show (i:Int)+1=((i+1:Nat):Int) by omega];omega
   refine Dr.k ?_;refine Ob.mk (show 0<=(i:Int)/\(i:Int) < q.pts.length by omega) ?_;intro a ha;have ha:=yL (show q.pts[i]? =some a from ha);rw [← vN (q:=q) (i:=i) oM] at ha;refine Ar.o ?_;intro hl3;refine Dv.pos ⟨oM,(show 0 < (q.pts.length:Int) by omega)⟩ ?_;refine Ob.mk ⟨m3,m4⟩ ?_;intro b hb;have hb:=yL (show q.pts[(((i:Int)+1) % q.pts.length).toNat]? =some b from hb);rw [e2,zst h2 hi] at hb;refine Ob.mk (show 0<=(i:Int)/\(i:Int) < ((meQ q).ts.length:Int) by omega) ?_;intro u hu
   have hu:=zeH (show (tsL (zN q) ((zN q).length - 1))[i]? =some u from hu);refine Ar.o ?_;refine Ob.mk (show 0<=(i:Int)/\(i:Int) < ((meQ q).ts.length:Int) by omega) ?_;intro u' hu';have hu':=zeH (show (tsL (zN q) ((zN q).length - 1))[i]? =some u' from hu')
   have key:∀T,T=atS (zN q) (i+1)->zeY a b (x - u) (T - u')=zd3 (zN q) x:=fun T h=>by
    unfold zd3;dsimp only;rw [hix,h,hu,hu',ha,hb]
   first
   |have hT:=zeH (show (tsL (zN q) ((zN q).length - 1))[i+1]? =some z from hz)
    refine Ar.o ?_;refine zb.t (zq5 a b (x - u) (z - u')) ?_;exact j8 (congrArg (fun p=>SV.agg (ptE p)) (key _ hT))
   |have d:¬(i:Int)+1 < ((meQ q).ts.length:Int):=d
    have hT:atS (zN q) ((zN q).length - 1)=atS (zN q) (i+1):=by rw [show (zN q).length - 1=i+1 by omega]
    refine Ar.fit (show -9223372036854775808<=atS (zN q) ((zN q).length - 1) - u'/\atS (zN q) ((zN q).length - 1) - u'<=9223372036854775807 by omega) ?_;refine zb.t (zq5 a b (x - u) (atS (zN q) ((zN q).length - 1) - u')) ?_;exact j8 (congrArg (fun p=>SV.agg (ptE p)) (key _ hT))
theorem zsu(q:List Pt)(x:Pt)(hq:0 < q.length/\q.length<=100000):zd Tryz.prog 142 [.agg (ptE x),.loc 0 0] [(0,.box 76 [.own 1]),(1,.arr 52 ptE 2 q)] (.tup []) [(0,.box 76 [.own 2]),(2,.arr 52 ptE 2 (jH q x))]:=by
 refine uq tok mix Tryz.func142 rfl rfl rfl ?_;refine Dr.d ?_;intro hl;refine Ar.o ?_;refine Ob.o ?_;refine Ob.o ?_;intro z hz
 have hz:q[q.length - 1]? =some z:=by
  have hz:q[((q.length:Int) - 1).toNat]? =some z:=hz
  rwa [show ((q.length:Int) - 1).toNat=q.length - 1 by omega] at hz
 refine Ob.mk (by kernel_rfl) ?_;refine Br.mk (fun k=>?_) (fun k=>?_)
 ·have k:¬z=x:=fun h=>k (qx.2 h)
  refine ⟨Pt,ptE,[x],rfl,Ob.o0 ?_⟩;refine ⟨[x],rfl,Ob.o3 ?_⟩;refine ⟨⟨[],[(0,.box 76 [.own 2]),(2,.arr 52 ptE 2 (jH q x))],3,15,2⟩,zM [(0,some 0),(1,some 1),(2,some 4)] ⟨rfl,congrArg (fun q=>some (Mem.arr 52 ptE 2 q)) (zjZ hz k).symm,trivial⟩,rfl,.refl⟩
 ·have k:z=x:=qx.1 (Decidable.not_not.1 k);refine ⟨⟨[],[(0,.box 76 [.own 2]),(2,.arr 52 ptE 2 (jH q x))],3,15,2⟩,zM [(0,some 0),(1,some 1),(2,some 1)] ⟨rfl,congrArg (fun q=>some (Mem.arr 52 ptE 2 q)) (zm8 hz k).symm,trivial⟩,rfl,.refl⟩
theorem ziS(q more:List Pt)(x:Pt):z6 q (more++[x])=jH (z6 q more) x:=by unfold z6;rw [List.foldl_append];rfl
theorem ziT(c:List Pt)(f t:Int)(n:Nat):zio c f t (n+1)=zio c f t n++if f < atS c n/\atS c n < t then [nth c n] else []:=by
 unfold zio;rw [List.range_succ,List.filter_append,List.map_append];congr 1
 by_cases h:f < atS c n/\atS c n < t
 ·rw [if_pos h,List.filter_cons_of_pos (by simpa using h)];rfl
 ·rw [if_neg h,List.filter_cons_of_neg (by simpa using h)];rfl
def zai(c:List Pt)(f t:Int)(n:Nat):List Pt:=z6 [] ([zd3 c f]++zio c f t n)
theorem zmc{c:List Pt}{f t:Int}{n:Nat}(h:f < atS c n/\atS c n < t):zai c f t (n+1)=jH (zai c f t n) (nth c n):=by
 unfold zai;rw [ziT,if_pos h,← List.append_assoc,ziS]
theorem zoF{c:List Pt}{f t:Int}{n:Nat}(h:¬(f < atS c n/\atS c n < t)):zai c f t (n+1)=zai c f t n:=by
 unfold zai;rw [ziT,if_neg h,List.append_nil]
theorem zmd(c:List Pt)(f t:Int):zbq c f t=jH (zai c f t (c.length - 1)) (zd3 c t):=by
 unfold zbq zai;rw [ziS]
theorem zme(c:List Pt)(f t:Int)(n:Nat):0 < (zai c f t n).length/\(zai c f t n).length<=n+1:=by
 induction n with
 | zero=>exact ⟨Nat.lt_succ_self 0,Nat.le_refl 1⟩
 | succ n ih=>
  by_cases h:f < atS c n/\atS c n < t
  ·rw [zmc h];have h1:=zjY (zai c f t n) (nth c n);refine ⟨?_,oM⟩;unfold jH
   split
   ·exact ih.1
   ·simp
  ·rw [zoF h];omega
theorem ztR(c:List Pt)(f t:Int):0 < (zbq c f t).length/\(zbq c f t).length<=c.length+2:=by
 rw [zmd];have h:=zme c f t (c.length - 1);have h1:=zjY (zai c f t (c.length - 1)) (zd3 c t);refine ⟨?_,oM⟩;unfold jH
 split
 ·exact h.1
 ·simp
theorem zuy(q:Pl)(f t:Int)(hq:q.pts.length<=4096)(h2:2<=(zN q).length)(hf:0<=f/\f<=70368744177664)(ht:0<=t/\t<=70368744177664):zd Tryz.prog 87 [.agg (meE (meQ q)),i64 f,i64 t] [] (.sl ptE (zbq (zN q) f t)) []:=by
 refine zc tok mix Tryz.func87 rfl rfl rfl ?_;have ll:=yd q;have tl:(meQ q).ts.length=(zN q).length - 1:=zfE ..;refine zb.t (zoE q f hq h2 hf) ?_;refine ⟨Pt,ptE,[zd3 (zN q) f],rfl,Ob.o0 ?_⟩;intro hl1;refine ⟨Nat,fun i=>⟨[(1,i64 f),(2,i64 t),(3,.loc 0 0),(7,.loc 1 0),(8,.fn 142 [.loc 1 0]),(17,.sl zdT (meQ q).ts),(18,i64 ((meQ q).ts.length:Int)),(19,i64 (i:Int))],[(0,.box 118 (meE (meQ q))),(1,.box 76 [.own 2]),(2,.arr 52 ptE 2 (zai (zN q) f t i))],3,46,0⟩,fun i=>i<=(zN q).length - 1,fun i=>(zN q).length - i,0,?_,?_,?_⟩
 ·exact Nat.zero_le _
 ·exact zh [(0,some 0),(1,some 2),(2,some 1)]
 rintro i hi
 have cl:=zme (zN q) f t i;refine Br.mk (fun g=>?_) (fun g=>?_)
 ·have g:(i:Int) < ((meQ q).ts.length:Int):=g;have stay:¬(f < atS (zN q) i/\atS (zN q) i < t)->zai (zN q) f t i=zai (zN q) f t (i+1):=fun h=>(zoF h).symm
  refine Ob.o ?_;intro y hy;have hy:=zeH (show (tsL (zN q) ((zN q).length - 1))[i]? =some y from hy);refine Br.mk (fun k1=>Br.mk (fun k2=>?_) (fun k2=>?_)) (fun k1=>?_);rotate_left
  ·have k2:¬y < t:=k2;refine Ar.o ?_;exact ⟨i+1,oM,zM [(0,some 0),(1,some 1),(2,some 2)] ⟨rfl,rfl,congrArg (fun q=>some (Mem.arr 52 ptE 2 q)) (stay fun h=>k2 (by rw [hy];exact h.2)),trivial⟩,by dsimp only;omega⟩
  ·have k1:¬f < y:=k1;refine Ar.o ?_;exact ⟨i+1,oM,zM [(0,some 0),(1,some 1),(2,some 2)] ⟨rfl,rfl,congrArg (fun q=>some (Mem.arr 52 ptE 2 q)) (stay fun h=>k1 (by rw [hy];exact h.1)),trivial⟩,by dsimp only;omega⟩
  ·have k1:f < y:=k1;have k2:y < t:=k2;rw [hy] at k1 k2;refine Ob.mk (show 0<=(i:Int)/\(i:Int) < (q.pts.length:Int) by omega) ?_;intro x hx;have hx:=yL (show q.pts[i]? =some x from hx);rw [← vN (q:=q) (i:=i) oM] at hx
   refine zb.give [1,2] 1 [.agg (ptE x),.loc 0 0] [(0,.box 76 [.own 1]),(1,.arr 52 ptE 2 (zai (zN q) f t i))] [(0,.box 76 [.own 2]),(2,.arr 52 ptE 2 (jH (zai (zN q) f t i) x))] (.tup []) (zsu (zai (zN q) f t i) x ⟨cl.1,oM⟩)
    LEs.refl rfl rfl rfl ⟨⟨_,rfl,rfl,rfl⟩,⟨_,rfl,rfl,trivial⟩,trivial⟩ rfl ⟨⟨rfl,rfl⟩,⟨rfl,trivial⟩,trivial⟩ ?_
   refine Ar.o ?_;exact ⟨i+1,oM,zM [(0,some 0),(1,some 1),(2,some 3)] ⟨rfl,rfl,congrArg (fun q=>some (Mem.arr 52 ptE 2 q)) (by rw [zmc ⟨k1,k2⟩,hx]),trivial⟩,by dsimp only;omega⟩
 have g:¬(i:Int) < ((meQ q).ts.length:Int):=g;have ei:i=(zN q).length - 1:=oM;refine zb.t (zoE q t hq h2 ht) ?_
 refine zb.give [1,2] 1 [.agg (ptE (zd3 (zN q) t)),.loc 0 0] [(0,.box 76 [.own 1]),(1,.arr 52 ptE 2 (zai (zN q) f t i))] [(0,.box 76 [.own 2]),(2,.arr 52 ptE 2 (jH (zai (zN q) f t i) (zd3 (zN q) t)))] (.tup []) (zsu (zai (zN q) f t i) (zd3 (zN q) t) ⟨cl.1,oM⟩)
  LEs.refl rfl rfl rfl ⟨⟨_,rfl,rfl,rfl⟩,⟨_,rfl,rfl,trivial⟩,trivial⟩ rfl ⟨⟨rfl,rfl⟩,⟨rfl,trivial⟩,trivial⟩ ?_
 refine qb ?_;rw [zmd,ei]
theorem law_walk' {P:Program} {f:FuncId} {args:List SV} {vs:List Value} {w:World} (h:zd P f args [] (bl true) [])
  (hg:∀S Pm:Nat->Prop,(∀b,¬S b)->(∀b,¬Pm b)->Gs S Pm (fun _=>none) w args vs):
  Calls P f vs.toArray w fun e w'=>e=.returned (.bool true)/\RowKit.Grown w w'/\RowKit.Below w.heap.size w w':=by
 refine (h.2 (fun _=>False) (fun _=>none) w vs (fun _ h=>h.elim) (qm (fun _ h=>h.elim)) (fun _ _=>rfl) (hg _ _ (fun b hb=>hb.elim id zP) (fun b=>zP))).mono ?_
 rintro e w' ⟨v,ρ',rfl,hs,_,hv⟩
 refine ⟨by rw [hv.val_inv],⟨⟨hs.os,hs.output.1,fun i hi=>?_⟩,hs.output.2,hs.size⟩,⟨hs.os,hs.tape,hs.output.1,hs.size,fun i hi=>hs.block i hi zP⟩⟩;rw [hs.block i hi zP]
 cases w.heap[i]? with
 | none=>rfl
 | some o=>cases o <;> simp
theorem r64{n:Int}(h:(Lit.int .i64 n).wf=true):R64 n:=by
 simp only [Lit.wf,Bool.and_eq_true,decide_eq_true_eq] at h;exact h
def ziX(t:AF):List BR:=[t.a,t.b,t.c,t.d,t.e,t.f]
theorem zsx{t:AF}{i:Nat}{x:BR}(h:(ziX t)[i]? =some x):x=t.nth i:=by
 have:i < 6:=(List.getElem?_eq_some_iff.1 h).1;have e:i=0∨i=1∨i=2∨i=3∨i=4∨i=5:=oM
 rcases e with rfl | rfl | rfl | rfl | rfl | rfl <;> (cases h;rfl)
theorem zsy{t:AF}{n:Nat}(h:t.le n):∀i,(t.nth i).len<=n:=fun i=>by
 obtain ⟨h1,h2,h3,h4,h5,h6⟩:=h;unfold AF.nth;split <;> assumption
theorem zp1(t:AF):zd Tryz.prog 116 [.agg (afE t)] [] (.sl brE (ziX t)) []:=by
 refine zc tok mix Tryz.func116 rfl rfl rfl ?_;refine ⟨BR,brE,ziX t,rfl,Ob.o0 ?_⟩;exact .refl
theorem zaG(t:AF)(ht:t.le 100000000):zd Tryz.prog 59 [.agg (afE t)] [] (pr t.ok) []:=by
 refine zc tok mix Tryz.func59 rfl rfl rfl ?_;refine zb.t (zp1 t) ?_;refine ⟨Nat,fun i=>⟨[(4,i64 i),(3,.sl brE (ziX t))],[],1,19,0⟩,fun i=>i<=6/\okI t i,fun i=>6 - i,0,⟨Nat.zero_le _,trivial⟩,?_,?_⟩
 ·exact zh []
 rintro i ⟨h1,h2⟩
 intro hl;have hl6:(ziX t).length=6:=rfl;refine Br.mk (fun h3=>?_) (fun h3=>?_)
 ·refine Ob.o4 ?_;intro x hx;have hx:(ziX t)[i]? =some x:=hx;have hx:=zsx hx;subst hx;refine zb.t (zpu (t.nth i) (zsy ht i)) ?_;refine Br.mk (fun h4=>?_) (fun h4=>?_)
  ·refine ze fun h=>?_
   have e:i=0∨i=1∨i=2∨i=3∨i=4∨i=5:=oM;simp only [AF.ok,okI] at h
   rcases e with rfl | rfl | rfl | rfl | rfl | rfl <;> omega
  ·refine Ar.o ?_;exact ⟨i+1,⟨oM,h2,oM⟩,zh [],by dsimp only;omega⟩
 ·have:i=6:=by omega
  subst this;exact kC h2
theorem v7(a b c d:BR)(ha:a.len<=10000000)(hb:b.len<=10000000)(hc:c.len<=10000000)(hd:d.len<=10000000):
  zd Tryz.prog 118 [.agg (brE a),.agg (brE b),.agg (brE c),.agg (brE d)] [] (.agg (brE (ofQ (a.v*b.v+c.v*d.v)))) []:=by
 have l1:=kR a;have l2:=kR b;have l3:=kR c;have l4:=kR d;have m1:=zaz a.v b.v;have m2:=zaz c.v d.v;refine zc tok mix Tryz.func118 rfl rfl rfl ?_;refine Dr.k ?_;refine zb.t (zrp a b oM oM) ?_;refine zb.t (zrp c d oM oM) ?_;refine zb.t (zda (ofQ (a.v*b.v)) (ofQ (c.v*d.v)) (by rw [zJ];omega) (by rw [zJ];omega)) ?_;rw [kE,kE];exact .refl
theorem zp2(t:AF)(x y:BR)(ht:t.le 5000000)(hx:x.len<=5000000)(hy:y.len<=5000000):
  zd Tryz.prog 107 [.agg (afE t),.agg (brE x),.agg (brE y)] [] (.tup [.agg (brE (ofQ (jX t x.v y.v))),.agg (brE (ofQ (jY t x.v y.v)))]) []:=by
 obtain ⟨ha,hb,hc,hd,he,hf⟩:=ht;have m1:=qo t.a x t.c y t.e ha hx hc hy he;have m2:=qo t.b x t.d y t.f hb hx hd hy hf;refine zc tok mix Tryz.func107 rfl rfl rfl ?_;refine Dr.k ?_;refine zb.t (v7 t.a x t.c y oM oM oM oM) ?_;refine zb.t (zda (ofQ (t.a.v*x.v+t.c.v*y.v)) t.e (by rw [zJ];omega) oM) ?_;refine zb.t (v7 t.b x t.d y oM oM oM oM) ?_;refine zb.t (zda (ofQ (t.b.v*x.v+t.d.v*y.v)) t.f (by rw [zJ];omega) oM) ?_;rw [kE,kE];exact .refl
end Go.Gs
