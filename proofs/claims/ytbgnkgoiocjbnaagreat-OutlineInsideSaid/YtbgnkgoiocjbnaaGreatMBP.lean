/- Strokes of many polylines, both texts. -/
import Derived.Test.YtbgnkgoiocjbnaaGreatMA
import Derived.Test.YtbgnkgoiocjbnaaGreatMBO
set_option maxRecDepth 100000
set_option maxHeartbeats 8000000
set_option linter.all false
namespace Go.Gs
open Go.Proofs
def vM(l:List Pl)(pen:Pen):List (List Pt):=l.flatMap fun p=>(kA p pen).1
theorem ziP{l:List Pl}{pen:Pen}{i:Nat}{x:Pl}(h:l[i]? =some x):vM (l.take (i+1)) pen=vM (l.take i) pen++(kA x pen).1:=by
 unfold vM;rw [List.take_add_one,h,List.flatMap_append];simp
theorem zb5{pen:Pen}:∀{l:List Pl},(∀p∈l,(kA p pen).2=0)->ko l pen=(vM l pen,0)
 | [],_=>rfl
 | p::r,h=>by
  have ih:=zb5 fun q hq=>h q (.tail _ hq)
  unfold ko;rw [kF (h p (.head _)),ih];rfl
theorem zba{pen:Pen}:∀{l:List Pl} {i:Nat} {x:Pl},l[i]? =some x->(∀p∈l.take i,(kA p pen).2=0)->¬(kA x pen).2=0->ko l pen=([],(kA x pen).2)
 | p::r,0,x,h,_,hx=>by
  cases h
  unfold ko;rw [if_pos hx]
 | p::r,i+1,x,h,ha,hx=>by
  have ih:=zba (l:=r) (i:=i) h (fun q hq=>ha q (by rw [List.take_succ_cons];exact .tail _ hq)) hx;unfold ko;rw [kF (ha p (by rw [List.take_succ_cons];exact .head _)),ih];exact if_pos hx
theorem zbb{p:Pl}{pen:Pen}(h:(kA p pen).2=0)(hp:p.pts.length<=4096):vK (kA p pen).1/\kN (kA p pen).1<=4096/\(kA p pen).1.length<=10000:=by
 have rc:=ziO (pen:=pen) hp;unfold kA at h ⊢
 split at h <;> rename_i k1
 ·cases h
 rw [if_neg k1]
 split at h <;> rename_i k2
 ·cases h
 rw [if_neg k2]
 split at h <;> rename_i k3
 ·cases h
 rw [if_neg k3]
 split at h <;> rename_i k4
 ·cases h
 rw [if_neg k4]
 split at h <;> rename_i k5
 ·cases h
 rw [if_neg k5];exact ⟨Decidable.not_not.1 k4,by dsimp only;omega,rc.2⟩
theorem zdk{pen:Pen}:∀{l:List Pl},(∀p∈l,(kA p pen).2=0)->(∀p∈l,p.pts.length<=4096)->vK (vM l pen)/\kN (vM l pen)<=4096*l.length/\(vM l pen).length<=10000*l.length
 | [],_,_=>⟨fun r hr=>(by cases hr),Nat.le_refl 0,Nat.le_refl 0⟩
 | p::r,h,hl=>by
  obtain ⟨i1,i2,i3⟩:=zdk (l:=r) (fun q hq=>h q (.tail _ hq)) (fun q hq=>hl q (.tail _ hq));obtain ⟨f1,f2,f3⟩:=zbb (h p (.head _)) (hl p (.head _));have e:vM (p::r) pen=(kA p pen).1++vM r pen:=rfl;rw [e,zj6,List.length_append,List.length_cons];refine ⟨fun q hq=>?_,oM,oM⟩
  rcases List.mem_append.1 hq with hq | hq
  ·exact f1 q hq
  ·exact i1 q hq
theorem zhi{P:Pl->Prop}{l:List Pl}{i:Nat}{x:Pl}(h:l[i]? =some x)(ha:∀p∈l.take i,P p)(hx:P x):∀p∈l.take (i+1),P p:=by
 intro p hp;rw [List.take_add_one,h] at hp
 rcases List.mem_append.1 hp with hp | hp
 ·exact ha p hp
 ·simp at hp;rw [hp];exact hx
theorem zpU(l:List Pl)(pen:Pen)(hl:l.length<=16777216)(hp:∀q∈l,q.pts.length<=4096):zd Tryz.prog 45 [.sl plE l,.agg (yi pen)] [] (rgE (kQ l pen)) []:=by
 refine zc tok mix Tryz.func45 rfl rfl rfl ?_;have es:kQ l pen=if ¬k8 pen then ([],13) else if (ko l pen).2≠0 then ([],(ko l pen).2) else if 4096 < kN (ko l pen).1 then ([],5) else ((ko l pen).1,0):=rfl
 refine zb.t (zdW pen) ?_;refine Br.mk (fun k=>?_) (fun k=>?_)
 ·have k:¬k8 pen:=k;exact qT (by rw [es,if_pos k])
 have k:k8 pen:=Decidable.not_not.1 k;rw [zV k] at es;intro hl1;refine ⟨Nat,fun i=>⟨[(3,.loc 0 0),(6,.own 1),(16,.sl plE l),(17,i64 (l.length:Int)),(18,i64 (i:Int))],[(0,.box 42 (yi pen)),(1,.arr 76 zw 1 (vM (l.take i) pen))],2,43,0⟩,fun i=>i<=l.length/\∀q∈l.take i,(kA q pen).2=0,fun i=>l.length - i,0,?_,?_,?_⟩
 ·exact ⟨Nat.zero_le _,fun q hq=>by cases hq⟩
 ·exact zh [(0,some 0),(1,none)]
 rintro i ⟨h1,h2⟩
 obtain ⟨f1,f2,f3⟩:=zdk h2 fun q hq=>hp q (List.mem_of_mem_take hq)
 rw [List.length_take] at f2 f3;refine Br.mk (fun g=>?_) (fun g=>?_)
 ·have g:(i:Int) < l.length:=g;refine Ob.o ?_;intro x hx;have hx:l[i]? =some x:=hx;have hpx:=hp x (List.mem_of_getElem? hx);refine zb.t (zhh x pen hpx) ?_;refine Br.mk (fun z=>?_) (fun z=>?_)
  ·have z:¬(kA x pen).2=0:=z;refine qT ?_;rw [es,zba hx h2 z];exact if_pos z
  have z:(kA x pen).2=0:=Decidable.not_not.1 z;obtain ⟨s1,s2,s3⟩:=zbb z hpx;refine ⟨(kA x pen).1,rfl,Ob.mk ⟨(by show _*(24:Int)<=_;omega),oM,dC,fun _ _=>rfl⟩ ?_⟩;refine Ar.o ?_;exact ⟨i+1,⟨oM,zhi hx h2 z⟩,zM [(0,some 0),(1,some 3)] ⟨rfl,congrArg (fun q=>some (Mem.arr 76 zw 1 q)) (ziP hx).symm,trivial⟩,by dsimp only;omega⟩
 have g:¬(i:Int) < l.length:=g;have et:l.take i=l:=List.take_of_length_le oM;rw [et] at h2 f1;rw [zb5 h2,kF rfl] at es;have et2:vM (l.take i) pen=vM l pen:=by rw [et]
 refine zb.t (zhd (vM (l.take i) pen) oM) ?_;refine Br.mk (fun k5=>?_) (fun k5=>?_)
 ·have k5:(4096:Int) < (if vK (vM (l.take i) pen) then (kN (vM (l.take i) pen):Int) else 0):=k5;rw [et,if_pos f1] at k5;exact qT (by rw [es,if_pos (by dsimp only;omega)])
 have k5:¬(4096:Int) < (if vK (vM (l.take i) pen) then (kN (vM (l.take i) pen):Int) else 0):=k5;rw [et,if_pos f1] at k5;rw [if_neg (by dsimp only;omega)] at es;rw [es];exact zS (qb et2) .refl
theorem zwW(l:List Pl)(pen:Pen)(hl:l.length<=16777216)(hp:∀q∈l,q.pts.length<=4096):zd Tryz.prog 48 [.sl plE l,.agg (yi pen)] [] (rgE (kQ l pen)) []:=by
 refine zc tok mix Tryz.func48 rfl rfl rfl ?_;have es:kQ l pen=if ¬k8 pen then ([],13) else if (ko l pen).2≠0 then ([],(ko l pen).2) else if 4096 < kN (ko l pen).1 then ([],5) else ((ko l pen).1,0):=rfl
 refine zb.t (zta pen) ?_;refine Br.mk (fun k=>?_) (fun k=>?_)
 ·have k:¬k8 pen:=k;exact qT (by rw [es,if_pos k])
 have k:k8 pen:=Decidable.not_not.1 k;rw [zV k] at es;refine ⟨List Pt,zw,[],rfl,Ob.o2 ?_⟩;refine ⟨Nat,fun i=>⟨[(0,.sl plE l),(3,.loc 0 0),(6,.own 1),(7,i64 (i:Int))],[(0,.box 42 (yi pen)),(1,.arr 76 zw 1 (vM (l.take i) pen))],2,50,0⟩,fun i=>i<=l.length/\∀q∈l.take i,(kA q pen).2=0,fun i=>l.length - i,0,?_,?_,?_⟩
 ·exact ⟨Nat.zero_le _,fun q hq=>by cases hq⟩
 ·exact zh [(0,some 0),(1,some 1)]
 rintro i ⟨h1,h2⟩
 obtain ⟨f1,f2,f3⟩:=zdk h2 fun q hq=>hp q (List.mem_of_mem_take hq)
 rw [List.length_take] at f2 f3;intro hl1;refine Br.mk (fun g=>?_) (fun g=>?_)
 ·have g:(i:Int) < l.length:=g;refine Dr.d ?_;refine Ob.o ?_;intro x hx;have hx:l[i]? =some x:=hx;have hpx:=hp x (List.mem_of_getElem? hx);refine zb.t (zwk x pen hpx) ?_;refine Ob.mk (by kernel_rfl) ?_;refine Br.mk (fun z=>?_) (fun z=>?_)
  ·have z:¬(kA x pen).2=0:=z;refine qT ?_;rw [es,zba hx h2 z];exact if_pos z
  have z:(kA x pen).2=0:=Decidable.not_not.1 z;obtain ⟨s1,s2,s3⟩:=zbb z hpx;refine ⟨Nat,fun j=>⟨[(0,.sl plE l),(3,.loc 0 0),(6,.own 1),(7,i64 (i:Int)),(8,.sl zw (kA x pen).1),(10,i64 (j:Int))],[(0,.box 42 (yi pen)),(1,.arr 76 zw 1 (vM (l.take i) pen++(kA x pen).1.take j))],2,50,0⟩,fun j=>j<=(kA x pen).1.length,fun j=>(kA x pen).1.length - j,0,?_,?_,?_⟩
  ·exact Nat.zero_le _
  ·exact zM [(0,some 0),(1,some 1)] ⟨rfl,congrArg (fun q=>some (Mem.arr 76 zw 1 q)) (List.append_nil _).symm,trivial⟩
  rintro j hj
  intro hl3;refine Br.mk (fun k2=>?_) (fun k2=>?_)
  ·have k2:(j:Int) < (kA x pen).1.length:=k2;refine Ob.o ?_;intro r hr;have hr:(kA x pen).1[j]? =some r:=hr;refine ⟨List Pt,zw,[r],rfl,Ob.o0 ?_⟩;refine ⟨[r],rfl,Ob.o23 ?_⟩;refine Ar.o ?_;exact ⟨j+1,oM,zM [(0,some 0),(1,some 3)] ⟨rfl,congrArg (fun q=>some (Mem.arr 76 zw 1 q)) (by rw [List.take_add_one,hr];exact List.append_assoc ..),trivial⟩,by dsimp only;omega⟩
  have k2:¬(j:Int) < (kA x pen).1.length:=k2;refine Ar.o ?_;exact ⟨i+1,⟨oM,zhi hx h2 z⟩,zM [(0,some 0),(1,some 1)] ⟨rfl,congrArg (fun q=>some (Mem.arr 76 zw 1 q)) (by rw [show (kA x pen).1.take j=(kA x pen).1 from List.take_of_length_le oM,ziP hx]),trivial⟩,by dsimp only;omega⟩
 have g:¬(i:Int) < l.length:=g;have et:l.take i=l:=List.take_of_length_le oM;rw [et] at h2;rw [zb5 h2,kF rfl] at es;have et2:vM (l.take i) pen=vM l pen:=by rw [et]
 refine zb.t (zws (vM (l.take i) pen) oM) ?_;refine Br.mk (fun k5=>?_) (fun k5=>?_)
 ·have k5:(4096:Int) < kN (vM (l.take i) pen):=k5;rw [et] at k5;exact qT (by rw [es,if_pos (by dsimp only;omega)])
 have k5:¬(4096:Int) < kN (vM (l.take i) pen):=k5;rw [et] at k5;rw [if_neg (by dsimp only;omega)] at es;rw [es];exact zS (qb et2) .refl
def zN(q:Pl):List Pt:=if q.cl=true/\2<=q.pts.length then q.pts++[nth q.pts 0] else q.pts
theorem zaE(p:Pl):qE p=zN (zE p):=rfl
theorem zl9{q:Pl}(h:q.cl=true)(k:2<=q.pts.length):zN q=q.pts++[nth q.pts 0]:=if_pos ⟨h,k⟩
theorem ztJ{q:Pl}(h:¬(q.cl=true/\2<=q.pts.length)):zN q=q.pts:=if_neg h
theorem vN{q:Pl}{i:Nat}(h:i < q.pts.length):nth (zN q) i=nth q.pts i:=by
 unfold zN
 split
 ·show (q.pts++[nth q.pts 0]).getD i zp=q.pts.getD i zp;rw [List.getD_eq_getElem?_getD,List.getElem?_append_left h];exact (List.getD_eq_getElem?_getD ..).symm
 ·rfl
theorem zma{q:Pl}(h:q.cl=true)(k:2<=q.pts.length):nth (zN q) q.pts.length=nth q.pts 0:=by
 rw [zl9 h k];show (q.pts++[nth q.pts 0]).getD q.pts.length zp=nth q.pts 0;rw [List.getD_eq_getElem?_getD,List.getElem?_append_right (Nat.le_refl _),Nat.sub_self];rfl
theorem zbc{q:Pl}(h:q.cl=true)(k:2<=q.pts.length):(zN q).length=q.pts.length+1:=by rw [zl9 h k,List.length_append];rfl
theorem v6{q:Pl}(h:¬(q.cl=true/\2<=q.pts.length)):(zN q).length=q.pts.length:=by rw [ztJ h]
theorem yd(q:Pl):q.pts.length<=(zN q).length/\(zN q).length<=q.pts.length+1:=by
 by_cases h:q.cl=true/\2<=q.pts.length
 ·rw [zbc h.1 h.2];omega
 ·rw [v6 h];omega
def zhj(q:Pl):List (Pt×Pt):=(List.range ((zN q).length - 1)).map fun i=>(nth (zN q) i,nth (zN q) (i+1))
def segE(s:Pt×Pt):List SV:=[.agg (ptE s.1),.agg (ptE s.2)]
theorem zj7{q:Pl}{i:Nat}(h:i < (zN q).length - 1):(zhj q)[i]? =some (nth (zN q) i,nth (zN q) (i+1)):=by
 unfold zhj;rw [List.getElem?_map,List.getElem?_range h];rfl
theorem zea(q:Pl):(zhj q).length=(zN q).length - 1:=by unfold zhj;simp
theorem zni(q:Pl):zd Tryz.prog 135 [.agg (plE q)] [] (.dfn 202 [.dptr (plE q)]) []:=by
 refine zdg 2 tok mix Tryz.func135 rfl rfl rfl ?_;exact .refl
theorem ztK(q:Pl)(hq:q.pts.length<=4096):zix Tryz.prog 202 [.dptr (plE q)] segE (zhj q):=by
 refine zjW (caps:=[.dptr (plE q)]) (enc:=segE) (xs:=zhj q) tok mix Tryz.func202 rfl rfl rfl rfl (fun l=>?_);intro hl1;refine ⟨Nat,fun k=>⟨[(0,.val (.func (.yield l) #[] #[])),(1,.dptr (plE q)),(3,i64 (q.pts.length:Int)),(4,i64 ((k:Int)+1))],[],0,45,0⟩,fun k=>k,fun k=>k<=q.pts.length - 1,fun k=>q.pts.length - k,0,?_,?_,rfl,rfl,?_⟩
 ·exact Nat.zero_le _
 ·exact zh []
 rintro k hk
 have ll:=yd q;refine Br.mk (fun g=>?_) (fun g=>?_)
 ·have g:(k:Int)+1 < q.pts.length:=g;refine YDr.split 12 (Ob.mk (by decide +kernel) ?_);refine Ar.o ?_;refine Ob.o ?_;intro x hx
  have hx:=yL (show q.pts[k]? =some x by
   have hx:q.pts[((k:Int)+1 - 1).toNat]? =some x:=hx
   rwa [show ((k:Int)+1 - 1).toNat=k by omega] at hx)
  refine Ob.o ?_;intro y hy;have hy:=yL (show q.pts[k+1]? =some y from hy);refine ⟨rfl,(x,y),(by show (zhj q)[k]? =some (x,y);rw [zj7 oM,vN oM,vN oM,hx,hy]),rfl,.cons .refl (.cons .refl .nil),(fun _ _ h=>by cases h),?_⟩;refine Br.mk ?_ ?_
  ·refine Ar.o ?_;refine ⟨k+1,oM,z0 [] ⟨rfl,rfl,rfl,congrArg (fun q=>some (i64 q)) oM,trivial⟩ trivial,rfl,rfl,by dsimp only;omega⟩
  ·exact .inl rfl
 have g:¬(k:Int)+1 < q.pts.length:=g;have ek:k=q.pts.length - 1:=oM;have no:¬(q.cl=true/\2<=q.pts.length)->k=(zhj q).length:=fun h=>by rw [zea,v6 h];exact ek
 refine Br.mk (fun c=>?_) (fun c=>.inr (no fun h=>c h.1));have c:q.cl=true:=c;refine Br.mk (fun n1=>?_) (fun n1=>.inr (no fun h=>by have n1:¬(1:Int) < q.pts.length:=n1;omega));have n1:(1:Int) < q.pts.length:=n1;have le:=zbc c (show 2<=q.pts.length by omega);refine YDr.split 11 (Ob.mk (by decide +kernel) ?_);refine Ar.o ?_;refine Ob.o ?_;intro x hx
 have hx:=yL (show q.pts[q.pts.length - 1]? =some x by
  have hx:q.pts[((q.pts.length:Int) - 1).toNat]? =some x:=hx
  rwa [show ((q.pts.length:Int) - 1).toNat=q.pts.length - 1 by omega] at hx)
 refine Ob.o ?_;intro y hy;have hy:=yL (show q.pts[0]? =some y from hy);refine ⟨rfl,(x,y),?_,rfl,.cons .refl (.cons .refl .nil),(fun _ _ h=>by cases h),?_⟩
 ·show (zhj q)[k]? =some (x,y);rw [zj7 oM,ek,vN oM,show q.pts.length - 1+1=q.pts.length by omega,zma c oM,hx,hy]
 ·refine Br.mk ?_ ?_
  ·refine .inr ?_;show k+1=(zhj q).length;rw [zea];omega
  ·exact .inl rfl
structure Me where
 ln:List Pt
 ts:List Int
 lg:Int
def meE(m:Me):List SV:=[.sl ptE m.ln,.sl zdT m.ts,i64 m.lg]
def tsL(c:List Pt)(n:Nat):List Int:=(List.range n).map (atS c)
def zoD(p:Pl):Me:=if ∀q∈p.pts,zo q then ⟨(zE p).pts,tsL (qE p) ((qE p).length - 1),qf p⟩ else ⟨[],[],0⟩
theorem zsp(c:List Pt)(n:Nat):tsL c (n+1)=tsL c n++[atS c n]:=by
 unfold tsL;rw [List.range_succ,List.map_append];rfl
theorem zfE(c:List Pt)(n:Nat):(tsL c n).length=n:=by unfold tsL;simp
theorem zeH{c:List Pt}{n i:Nat}{x:Int}(h:(tsL c n)[i]? =some x):x=atS c i:=by
 have hi:i < n:=by have:=(List.getElem?_eq_some_iff.1 h).1;rwa [zfE] at this
 unfold tsL at h;rw [List.getElem?_map,List.getElem?_range hi] at h;exact (Option.some.inj h).symm
theorem zfc(a b:Pt):0<=zjN a b/\zjN a b < 4294967296:=zh9 _
theorem zaF(c:List Pt)(n:Nat):0<=atS c n/\atS c n<=4294967296*(n:Int):=by
 induction n with
 | zero=>exact ⟨Int.le_refl 0,by show (0:Int)<=_;decide⟩
 | succ n ih=>
  have:=zfc (nth c n) (nth c (n+1));unfold atS;omega
theorem ziQ(p:Pl)(hp:p.pts.length<=4096):zd Tryz.prog 84 [.agg (plE p)] [] (.tup [.agg (meE (zoD p)),pr (∀q∈p.pts,zo q)]) []:=by
 refine zbZ 2 tok mix Tryz.func84 rfl rfl rfl ?_;intro hl1;refine ⟨Nat,fun i=>⟨[(1,.loc 0 0),(2,.loc 1 0),(11,.sl ptE p.pts),(12,i64 (p.pts.length:Int)),(13,i64 (i:Int))],[(0,.box 85 [.sl ptE p.pts,pr (p.cl=true)]),(1,.box 118 [.val (.slice none 0 0),.val (.slice none 0 0),i64 0])],2,47,0⟩,fun i=>i<=p.pts.length/\∀q∈p.pts.take i,zo q,fun i=>p.pts.length - i,0,?_,?_,?_⟩
 ·exact ⟨Nat.zero_le _,fun q hq=>by cases hq⟩
 ·exact zh [(0,some 0),(1,some 1)]
 rintro i ⟨h1,h2⟩
 refine Br.mk (fun g=>?_) (fun g=>?_)
 ·have g:(i:Int) < p.pts.length:=g;refine Ob.o ?_;intro x hx;have hx:p.pts[i]? =some x:=hx;refine zb.t (qc x) ?_;refine Br.mk (fun k=>?_) (fun k=>?_)
  ·have k:¬∀q∈p.pts,zo q:=fun h=>k (h x (List.mem_of_getElem? hx))
   have e:zoD p=⟨[],[],0⟩:=if_neg k;rw [e];exact zS (jJ (.cons ku (.cons ku (.cons .refl .nil)))) (ze k)
  ·have k:=Decidable.not_not.1 k;refine Ar.o ?_;refine ⟨i+1,⟨oM,fun q hq=>?_⟩,zh [(0,some 0),(1,some 1)],by dsimp only;omega⟩;rw [List.take_add_one,hx] at hq
   rcases List.mem_append.1 hq with hq | hq
   ·exact h2 q hq
   ·simp at hq;rw [hq];exact k
 have g:¬(i:Int) < p.pts.length:=g;rw [List.take_of_length_le oM] at h2;have dl:=yM p;have ll:=yd (zE p);refine zb.t (zd9 p hp) ?_;refine zb.t (zni (zE p)) ?_
 refine ⟨Pt×Pt,segE,zhj (zE p),2,[(2,.loc 0 0),(7,.loc 1 0)],fun j=>[(0,.box 118 [.val (.slice none 0 0),.val (.slice none 0 0),i64 0]),(1,.box 118 [.sl ptE (zE p).pts,.own 2,i64 (atS (qE p) j)]),(2,.arr 3 zdT 1 (tsL (qE p) j))],fun _=>3,ztK (zE p) oM,fun _=>rfl,⟨rfl,rfl,rfl,rfl⟩,
  zh [(0,some 1),(1,some 3),(2,none)],⟨Nat.zero_le _,rfl⟩,fun j=>?_,?_,?_⟩
 ·intro k m hm;simp only [List.mem_cons,List.not_mem_nil,or_false,Prod.mk.injEq] at hm
  rcases hm with ⟨_,rfl⟩ | ⟨_,rfl⟩ | ⟨_,rfl⟩
  ·rfl
  ·rfl
  ·trivial
 ·intro j y hy;have hj:j < (qE p).length - 1:=by have:=(List.getElem?_eq_some_iff.1 hy).1;rwa [zea] at this
  have hy:y=(nth (qE p) j,nth (qE p) (j+1)):=by rw [zj7 hj] at hy;exact (Option.some.inj hy).symm
  have hat:=zaF (qE p) j;have hpc:=zfc y.1 y.2;have e1:=zfE (qE p) j;have ll':(qE p).length<=4097:=by rw [zaE];omega
  refine ⟨Int,zdT,[atS (qE p) j],rfl,Ob.o0 ?_⟩;refine ⟨[atS (qE p) j],rfl,Ob.mk ⟨(by show _*(8:Int)<=_;simp only [List.length_cons,List.length_nil];omega),(by simp only [List.length_cons,List.length_nil];omega),dC,fun _ _=>rfl⟩ ?_⟩;refine Dr.d ?_;refine zb.t (p_sub y.2 y.1) ?_;refine zb.t (zq4 (zv1 y.2 y.1)) ?_;unfold zjN at hpc;refine Ar.o ?_;refine Ob.mk (by kernel_rfl) ?_
  refine zM [(0,some 0),(1,some 1),(2,some 6)] ⟨rfl,congrArg (fun q=>some (Mem.box 118 [.sl ptE (zE p).pts,.own 6,i64 q])) ?_,congrArg (fun q=>some (Mem.arr 3 zdT 1 q)) (zsp _ _).symm,trivial⟩;rw [hy];rfl
 ·have e:zoD p=⟨(zE p).pts,tsL (qE p) ((qE p).length - 1),qf p⟩:=if_pos h2;rw [e];have e2:=zea (zE p);rw [← zaE] at e2;refine zS (jJ (.cons .refl (.cons (qb ?_) (.cons (zu ?_) .nil)))) (kC h2)
  ·rw [e2]
  ·rw [e2];rfl
theorem zsq(pen:Pen)(t:Nat):phD pen t=((t:Int)+256*pen.ph) % yJ pen.d:=by unfold phD;exact (Int.add_emod ..).symm
theorem zeI{d:List Int}(h:∀n∈d,0<=n){i:Nat}(hi:i<=d.length):0<=qz d i/\qz d i<=yJ d:=by
 have h1:=zeB h (Nat.zero_le i);have h2:=zeB h hi;rw [un] at h1;rw [uG] at h2;exact ⟨h1,h2⟩
theorem ph_at {pen:Pen} {i a t:Nat} {e lft:Int} (hn:∀n∈pen.d,0<=n) (he:pen.d[i]? =some e) (hl:lft<=256*e)
  (hc:yJ pen.d ∣ qz pen.d (i+1) - lft - ((a:Int)+256*pen.ph)) (h1:a<=t) (h2:(t:Int) - a < lft):phD pen t=qz pen.d (i+1) - lft+((t:Int) - a):=by
 have hi:i < pen.d.length:=(List.getElem?_eq_some_iff.1 he).1;have hp:=zeI hn (show i<=pen.d.length by omega);have hq:=zeI hn (show i+1<=pen.d.length by omega);have hs:=um he;obtain ⟨q,hq'⟩:=hc;rw [zsq];have e1:(t:Int)+256*pen.ph=(qz pen.d (i+1) - lft+((t:Int) - a))+yJ pen.d*(-q):=by rw [Int.mul_neg];omega
 rw [e1,Int.add_mul_emod_self_left];exact Int.emod_eq_of_lt oM oM
theorem zxA {pen:Pen} {i a t:Nat} {e lft:Int} (hn:∀n∈pen.d,0<=n) (he:pen.d[i]? =some e) (hl:lft<=256*e)
  (hc:yJ pen.d ∣ qz pen.d (i+1) - lft - ((a:Int)+256*pen.ph)) (h1:a<=t) (h2:(t:Int) - a < lft):onD pen t↔i % 2=0:=by
 have hs:=um he;unfold onD;rw [ph_at hn he hl hc h1 h2,zfz hn he oM oM];show (0+i) % 2=0↔_;rw [Nat.zero_add]
theorem ztL {pen:Pen} {i a b:Nat} {lft e':Int} (hi:i < pen.d.length) (he':pen.d[(i+1) % pen.d.length]? =some e')
  (hc:yJ pen.d ∣ qz pen.d (i+1) - lft - ((a:Int)+256*pen.ph)) (hb:(b:Int)=a+lft):
  yJ pen.d ∣ qz pen.d ((i+1) % pen.d.length+1) - 256*e' - ((b:Int)+256*pen.ph):=by
 rw [um he']
 by_cases h:i+1 < pen.d.length
 ·rw [Nat.mod_eq_of_lt h]
  rwa [show qz pen.d (i+1)+256*e' - 256*e' - ((b:Int)+256*pen.ph)=qz pen.d (i+1) - lft - ((a:Int)+256*pen.ph) by omega]
 ·have hl:i+1=pen.d.length:=by omega
  rw [hl,Nat.mod_self,un];rw [hl,uG] at hc;rw [show (0:Int)+256*e' - 256*e' - ((b:Int)+256*pen.ph)=(yJ pen.d - lft - ((a:Int)+256*pen.ph)) - yJ pen.d by omega];exact Int.dvd_sub hc (Int.dvd_refl _)
def yV(r:Nat)(d:List Int)(n:Nat):Int:=((List.range n).map fun i=>if i % 2=r then d.getD i 0 else 0).sum
theorem ziR(r:Nat)(d:List Int)(n:Nat):yV r d (n+1)=yV r d n+if n % 2=r then d.getD n 0 else 0:=by
 unfold yV;rw [List.range_succ,List.map_append,List.sum_append];simp
theorem zeb{r:Nat}{d:List Int}{n:Nat}{x:Int}(hx:d[n]? =some x)(h:n % 2=r):yV r d (n+1)=yV r d n+x:=by
 rw [ziR,if_pos h,List.getD_eq_getElem?_getD,hx];rfl
theorem zhk{r:Nat}{d:List Int}{n:Nat}(h:¬n % 2=r):yV r d (n+1)=yV r d n:=by
 rw [ziR,if_neg h,Int.add_zero]
theorem zec(d:List Int):∀n,n<=d.length->256*(yV 0 d n+yV 1 d n)=qz d n
 | 0,_=>rfl
 | n+1,h=>by
  have ih:=zec d n oM;have hx:d[n]? =some d[n]:=List.getElem?_eq_getElem oM;rw [um hx]
  rcases Nat.mod_two_eq_zero_or_one n with k | k
  ·rw [zeb hx k,zhk (r:=1) oM];omega
  ·rw [zeb hx k,zhk (r:=0) oM];omega
theorem zhl(d:List Int):drawn d=256*yV 0 d d.length:=rfl
theorem zbd{r:Nat}{d:List Int}(h:∀n∈d,0<=n):∀n,n<=d.length->0<=yV r d n
 | 0,_=>Int.le_refl 0
 | n+1,hn=>by
  have ih:=zbd (r:=r) h n oM;have hx:d[n]? =some d[n]:=List.getElem?_eq_getElem oM;have:=h d[n] (List.getElem_mem _)
  by_cases k:n % 2=r
  ·rw [zeb hx k];omega
  ·rw [zhk k];exact ih
theorem zbe{d:List Int}(h:uQ d):(∀n∈d,0<=n)/\(∀n∈d,n<=1048576)/\d.length<=16/\yJ d<=4294967296:=by
 have h2:∀n∈d,n<=1048576:=fun n hn=>(h.1 n hn).2
 have h3:d.length<=16:=by have:=h.2.2.2;omega
 have:=zry h2;exact ⟨fun n hn=>(h.1 n hn).1,h2,h3,by unfold yJ;omega⟩
def frI:Option Nat->Int
 | none=> -1
 | some f=>f
theorem zj8{o:Option Nat}(h:frI o < 0):o=none:=by
 cases o with
 | none=>rfl
 | some f=>have h:(f:Int) < 0:=h;omega
theorem zj9{o:Option Nat}(h:¬frI o < 0):∃f,o=some f/\frI o=f:=by
 cases o with
 | none=>exact absurd (show (-1:Int) < 0 by decide) h
 | some f=>exact ⟨f,rfl,rfl⟩
theorem zpV(pen:Pen)(hk:k8 pen)(hper:0 < yJ pen.d):zd Tryz.prog 140 [.agg (yi pen),i64 0] [] (.tup [i64 ((ze6 pen.d (phD pen 0) 0).1:Int),i64 (ze6 pen.d (phD pen 0) 0).2]) []:=by
 refine zc tok mix Tryz.func140 rfl rfl rfl ?_;obtain ⟨d1,d2,d3,d4⟩:=zbe hk.2.2.2.2.1;have hph:=hk.2.2.2.2.2;intro hl1;refine ⟨Nat,fun i=>⟨[(1,i64 0),(2,.loc 0 0),(6,i64 (qz pen.d i)),(13,.sl zdT pen.d),(14,i64 (pen.d.length:Int)),(15,i64 (i:Int))],[(0,.box 42 (yi pen))],1,57,0⟩,fun i=>i<=pen.d.length,fun i=>pen.d.length - i,0,?_,?_,?_⟩
 ·exact Nat.zero_le _
 ·exact zh [(0,some 0)]
 rintro i hi
 have hpi:=zeI d1 hi;refine Br.mk (fun g=>?_) (fun g=>?_)
 ·have g:(i:Int) < pen.d.length:=g;refine Ob.o ?_;intro x hx;have hx:pen.d[i]? =some x:=hx;have hx1:=d1 x (List.mem_of_getElem? hx);have hx2:=d2 x (List.mem_of_getElem? hx);(iterate 3 refine Ar.o ?_);exact ⟨i+1,oM,z0 [(0,some 0)] ⟨rfl,rfl,congrArg (fun q=>some (i64 q)) (um hx).symm,rfl,rfl,rfl,trivial⟩ ⟨rfl,trivial⟩,by dsimp only;omega⟩
 have g:¬(i:Int) < pen.d.length:=g;have ei:i=pen.d.length:=oM;have eP:qz pen.d i=yJ pen.d:=by rw [ei,uG]
 have m1:=Int.emod_nonneg (256*pen.ph) (show qz pen.d i≠0 by omega);have m2:=Int.emod_lt_of_pos (256*pen.ph) (show 0 < qz pen.d i by omega);have m3:(0:Int) % qz pen.d i=0:=Int.zero_emod _;have m4:=Int.emod_nonneg (0 % qz pen.d i+256*pen.ph % qz pen.d i) (show qz pen.d i≠0 by omega);have m5:=Int.emod_lt_of_pos (0 % qz pen.d i+256*pen.ph % qz pen.d i) (show 0 < qz pen.d i by omega);refine Dr.k ?_;refine Dv.pos ⟨oM,oM⟩ ?_;refine Ar.o ?_;refine Dv.pos ⟨oM,oM⟩ ?_;refine Ar.o ?_;refine Dv.pos ⟨oM,oM⟩ ?_
 have ek:phD pen 0=(0 % qz pen.d i+256*pen.ph % qz pen.d i) % qz pen.d i:=by rw [eP];rfl
 rw [← ek] at m4 m5;intro hl2;refine ⟨Nat,fun i=>⟨[(9,i64 (phD pen 0 - qz pen.d i)),(36,.sl zdT pen.d),(37,i64 (pen.d.length:Int)),(38,i64 (i:Int))],[],0,57,0⟩,fun i=>i<=pen.d.length/\qz pen.d i<=phD pen 0,fun i=>pen.d.length - i,0,?_,?_,?_⟩
 ·exact ⟨Nat.zero_le _,by rw [un];exact m4⟩
 ·exact z0 [] ⟨congrArg (fun q=>some (i64 q)) (by rw [un,Int.sub_zero];exact ek.symm),rfl,rfl,rfl,trivial⟩ trivial
 rw [eP] at m5
 rintro i ⟨hi,hle⟩
 have hpi:=zeI d1 hi;refine Br.mk (fun g=>?_) (fun g=>?_)
 ·have g:(i:Int) < pen.d.length:=g;refine Ob.o ?_;intro x hx;have hx:pen.d[i]? =some x:=hx;have hx1:=d1 x (List.mem_of_getElem? hx);have hx2:=d2 x (List.mem_of_getElem? hx);have hs:=um hx;refine Ar.o ?_;refine Br.mk (fun c=>?_) (fun c=>?_)
  ·have c:phD pen 0 - qz pen.d i < 256*x:=c;have hp:=zfz (i0:=0) d1 hx hle oM;(iterate 2 refine Ar.o ?_);refine zS (zu ?_) (zu ?_)
   ·rw [hp];show (i:Int)=((0+i:Nat):Int);omega
   ·rw [hp];dsimp only;omega
  ·have c:¬phD pen 0 - qz pen.d i < 256*x:=c;(iterate 3 refine Ar.o ?_);exact ⟨i+1,⟨oM,oM⟩,z0 [] ⟨congrArg (fun q=>some (i64 q)) (by rw [hs];omega),rfl,rfl,rfl,trivial⟩ trivial,by dsimp only;omega⟩
 ·have g:¬(i:Int) < pen.d.length:=g;have:qz pen.d i=yJ pen.d:=by rw [show i=pen.d.length by omega,uG]
  omega
end Go.Gs
