/- The law ImageAverages. -/
import Derived.Test.YtjfbljononkmcaaMA
import Derived.Test.YtjfbljononkmcaaMAZ
import Derived.Test.YtjfbljononkmcaaMAS
import Derived.Test.YtjfbljononkmcaaMAQ
import Derived.RowKit3
import Derived.Below
import GoSem.Claim
set_option maxRecDepth 100000
set_option maxHeartbeats 8000000
set_option linter.all false
namespace Go.Gs
open Go.Proofs
theorem zjb(m:Img)(p:Pix)(h:zi8 m p):zf Try.prog 35 [.agg (kj m),.agg (kd p)] [] (pr (qr m)) []:=by
 refine zh tok mix Try.func35 rfl rfl rfl ?_;intro hl;have hl:m.px.length<=9223372036854775807:=hl;refine ⟨Nat,fun i=>⟨[(9,i64 (i:Int)),(8,i64 (m.px.length:Int)),(3,.loc 1 0),(2,.loc 0 0)],[(1,.box 37 (kd p)),(0,.box 28 (kj m))],2,22,0⟩,fun i=>i<=m.px.length,fun i=>m.px.length - i,0,Nat.zero_le _,?_,?_⟩
 ·exact zo [(0,some 0),(1,some 1)]
 intro i hi;have hi:i<=m.px.length:=hi;refine Br.mk (fun g=>?_) (fun g=>?_)
 ·have g:(i:Int) < (m.px.length:Int):=g;refine Dr.k ?_;refine Ob.o ?_;intro x hx;have hxp:=h x (List.mem_of_getElem? hx);refine Br.mk (fun k=>absurd (zgA.2 hxp) k) (fun _=>?_);refine Ar.o ?_;exact ⟨i+1,by show i+1<=m.px.length;omega,zo [(0,some 0),(1,some 1)],by dsimp only;omega⟩
 ·refine ze.t (zgz m) ?_;exact .refl
theorem c_law10(m:Img)(v a b:Int)(hp:P8s m)(hv:R8 v)(ha:R8 a)(hb:R8 b):zf Try.prog 10 [.agg (kj m),u8 v,.agg [u8 a,u8 b]] [] (bl true) []:=by
 unfold R8 at ha hb;have hv':0<=v/\v<=255:=hv;refine zh tok mix Try.func10 rfl rfl rfl ?_;refine BoxC.own ?_;intro hl0;have hl0:m.px.length<=9223372036854775807:=hl0;refine Br.mk (fun _=>ze.to _ vp rfl .refl) (fun _=>?_);refine ze.t (zgz m) ?_;refine Br.mk (fun _=>ze.to _ vp rfl .refl) (fun hm=>?_);have hm:¬¬qr m:=hm;have hm:qr m:=Decidable.not_not.1 hm;obtain ⟨m1,m2,_⟩:=id hm;have cr:zf Try.prog 26 [.agg (kj m),i64 m.w,i64 m.h] [] (resT (ziB m m.w m.h)) []:=(zjB m m.w m.h hl0 hp (by unfold R64;omega) (by unfold R64;omega)).plain rfl
 rw [zjG hm hp] at cr;have cr:zf Try.prog 26 [.agg (kj m),i64 m.w,i64 m.h] [] (.tup [.agg (kj m),i64 0]) []:=cr;refine ze.t cr ?_;refine Br.mk (fun k=>absurd rfl k) (fun _=>?_);refine ze.t (zgB m m) ?_;refine Br.mk (fun k=>absurd rfl k) (fun _=>?_);clear cr m1 m2
 refine ⟨Nat ⊕ Unit,fun x=>x.elim (fun i:Nat=>⟨[(53,i64 (i:Int)),(10,.loc 2 0),(9,.loc 1 0),(5,.loc 0 0),(1,u8 v)],[(3,.arr 37 kd 4 (List.replicate i (ziE v))),(2,.box 28 [i64 4,i64 4,.own 3]),(1,.box 37 (kd (ziE v))),(0,.box 58 [u8 a,u8 b])],4,177,0⟩)
   (fun _=>⟨[(53,i64 16),(10,.loc 2 0),(9,.loc 1 0),(5,.loc 0 0),(1,u8 v)],[(2,.box 28 (kj (qL v))),(1,.box 37 (kd (ziE v))),(0,.box 58 [u8 a,u8 b])],3,177,0⟩),
  fun x=>x.elim (fun i:Nat=>i < 16) (fun _=>True),fun x=>x.elim (fun i:Nat=>17 - i) (fun _=>0),.inl 0,(by decide:(0:Nat) < 16),?_,?_⟩
 ·exact zo [(0,some 1),(1,some 3),(2,some 4),(3,none)]
 rintro (i | _) hi
 ·have hi:i < 16:=hi;refine Br.mk (fun g=>?_) (fun g=>absurd (show (i:Int) < 16 by omega) g);refine ⟨Pix,kd,[ziE v],rfl,Ob.mk (zgM _) ?_⟩;refine ⟨[ziE v],rfl,Ob.mk (zgN (by rw [List.length_replicate];omega)) ?_⟩;refine Ar.o ?_
  by_cases h15:i+1 < 16
  ·exact ⟨.inl (i+1),h15,kD [(0,some 0),(1,some 1),(2,some 2),(3,some 5)] ⟨pixc List.replicate_succ'.symm,rfl,rfl,rfl,trivial⟩,by show 17 - (i+1) < 17 - i;omega⟩
  ·obtain rfl:i=15:=by omega
   refine ⟨.inr (),trivial,?_,by show 0 < 17 - 15;decide⟩
   exact (zkc 5 2 (enc:=kd) (ys:=List.replicate 15 (ziE v)++[ziE v]) (cs:=[i64 4,i64 4,.own 5]) (cs':=kj (qL v)) rfl rfl rfl (fun j s' hs'=>by
    match j,hs' with
    | 0,hs'=>cases hs';exact ⟨_,rfl,.inl rfl⟩
    | 1,hs'=>cases hs';exact ⟨_,rfl,.inl rfl⟩
    | 2,hs'=>cases hs';exact ⟨_,rfl,.inr ⟨rfl,congrArg (SV.sl kd) List.replicate_succ'⟩⟩
    | j+3,hs'=>cases hs')).trans (zo [(0,some 0),(1,some 1),(2,some 2)])
 refine Br.mk (fun k=>absurd k dC) (fun _=>?_);have one_ok:=zjg hv;have one_8:=zkv hv;have one_l:(qL v).px.length=16:=List.length_replicate;refine Dv.pos ⟨oM,dC⟩ ?_;(iterate 2 refine Ar.o ?_);refine Dv.pos ⟨oM,dC⟩ ?_;(iterate 2 refine Ar.o ?_)
 have szOK:ziH (1+a % 10) (1+b % 10):=by
  have:=zaU (show 0<=1+a % 10 by omega) (show 1+a % 10<=10 by omega) (show 0<=1+b % 10 by omega) (show 1+b % 10<=10 by omega);exact ⟨oM,oM,oM⟩
 obtain ⟨z1,z2,z3⟩:=zjQ one_ok (zjn hv) (zjY hv) (ziX v) szOK;have cr:zf Try.prog 26 [.agg (kj (qL v)),i64 (1+a % 10),i64 (1+b % 10)] [] (resT (ziB (qL v) (1+a % 10) (1+b % 10))) []:=(zjB (qL v) _ _ oM one_8 (by unfold R64;omega) (by unfold R64;omega)).plain rfl;generalize ziB (qL v) (1+a % 10) (1+b % 10)=r at*;obtain ⟨ri,re⟩:=r;have z1:re=0:=z1;subst z1;have cr:zf Try.prog 26 [.agg (kj (qL v)),i64 (1+a % 10),i64 (1+b % 10)] [] (.tup [.agg (kj ri),i64 0]) []:=cr;refine ze.t cr ?_;(iterate 2 refine Ar.o ?_)
 obtain ⟨il,i1,i2⟩:=zky hv (n:=1+a) oM;have cq:=zhE (qL v) (1+a) oM one_8;rw [i2] at cq;have cq:zf Try.prog 31 [.agg (kj (qL v)),i64 (1+a)] [] (.tup [.sl kd [ziE v],.sl zq il,i64 0]) []:=cq;refine ze.t cq ?_
 have dit:ziG (qL v) 2=(⟨4,4,ziT (qL v) 2⟩,0):=by
  unfold ziG;rw [if_neg (fun c=>c one_ok),if_neg dC];rfl
 have cd:zf Try.prog 23 [.agg (kj (qL v)),i64 2] [] (.tup [.agg (kj (ziG (qL v) 2).1),i64 (ziG (qL v) 2).2]) []:=(zke (qL v) 2 oM one_8).plain rfl;rw [dit] at cd;have dl:(ziT (qL v) 2).length=16:=by rw [zjp,one_l]
 have wh:=zkb hv;generalize ziT (qL v) 2=dp at*;have cd:zf Try.prog 23 [.agg (kj (qL v)),i64 2] [] (.tup [.agg [i64 4,i64 4,.sl kd dp],i64 0]) []:=cd;refine ze.t cd ?_;clear cr cq cd i2 dit szOK;refine Dr.k ?_;refine Br.mk (fun k=>absurd rfl k) (fun _=>?_);refine Br.mk (fun k=>absurd rfl k) (fun _=>?_);refine Br.mk (fun k=>absurd rfl k) (fun _=>?_);intro _;refine Br.mk (fun k=>absurd rfl k) (fun _=>?_);refine Ob.mk (by show (0:Int)<=0/\(0:Int) < 1;decide) ?_;intro x hx;have hxp:x=ziE v:=(Option.some.inj hx).symm
 refine Br.mk (fun k=>absurd (zgA.2 hxp) k) (fun _=>?_);intro _;refine Br.mk (fun k=>absurd (show (il.length:Int)=16 by omega) k) (fun _=>?_);intro _;refine Br.mk (fun k=>absurd (show (dp.length:Int)=16 by omega) k) (fun _=>?_);intro _
 refine ⟨Nat,fun i=>⟨[(128,i64 (i:Int)),(127,i64 (dp.length:Int)),(18,i64 (ziS dp i:Int)),(16,.loc 3 0),(11,.loc 2 0),(10,.loc 1 0),(9,.loc 0 0),(1,u8 v)],[(3,.box 28 [i64 4,i64 4,.sl kd dp]),(2,.box 28 (kj ri)),(1,.box 28 (kj (qL v))),(0,.box 37 (kd (ziE v)))],4,177,0⟩,
  fun i=>i<=dp.length,fun i=>dp.length - i,0,Nat.zero_le _,?_,?_⟩
 ·exact zo [(0,some 1),(1,some 2),(2,some 3),(3,some 4)]
 intro i hi;have hi:i<=dp.length:=hi;have hwl:=zj9 dp i;refine Br.mk (fun g=>?_) (fun g=>?_)
 ·have g:(i:Int) < (dp.length:Int):=g;refine Ob.o ?_;intro x hx;have hx:dp[i]? =some x:=hx;have ws:=zjL hx;refine Br.mk (fun k=>?_) (fun k=>?_)
  ·have k:x.r=255:=k;rw [if_pos k] at ws;(iterate 2 refine Ar.o ?_);exact ⟨i+1,by show i+1<=dp.length;omega,ki [(0,some 0),(1,some 1),(2,some 2),(3,some 3)] ⟨rfl,rfl,qv oM,rfl,rfl,rfl,rfl,rfl,trivial⟩ ⟨rfl,rfl,rfl,rfl,trivial⟩,by dsimp only;omega⟩
  ·have k:¬x.r=255:=k;rw [if_neg k] at ws;refine Ar.o ?_;exact ⟨i+1,by show i+1<=dp.length;omega,ki [(0,some 0),(1,some 1),(2,some 2),(3,some 3)] ⟨rfl,rfl,qv oM,rfl,rfl,rfl,rfl,rfl,trivial⟩ ⟨rfl,rfl,rfl,rfl,trivial⟩,by dsimp only;omega⟩
 have g:¬(i:Int) < (dp.length:Int):=g;have i16:i=16:=oM;have hmip:=c_mip (qL v) ⟨one_ok,one_8⟩ (by rw [zjH];decide);rw [zjH] at hmip;refine ze.give [] 4 [.agg (kj (qL v))] [] (zjo (qL v) 3) (.own 0) hmip LEs.refl rfl rfl rfl trivial rfl ⟨⟨rfl,zkM rfl⟩,⟨rfl,trivial⟩,⟨rfl,trivial⟩,⟨rfl,trivial⟩,trivial⟩ ?_;obtain ⟨j1,j2⟩:=zjt hv 1;obtain ⟨k1,k2⟩:=zjt hv 2;refine Dr.k ?_;refine ze.t (zjb ri (ziE v) z3) ?_;refine Br.mk (fun _=>?_) (fun k=>absurd z2 k);intro _;refine Br.mk (fun _=>?_) (fun k=>absurd rfl k)
 refine Ob.mk (by show (0:Int)<=1/\(1:Int) < 3;decide) ?_;refine Ob.mk (by show (0:Int)<=1/\(1:Int) < 3;decide) ?_;intro x hx;have hx:x=[i64 (itI (qL v) 1).w,i64 (itI (qL v) 1).h,.own 6]:=(Option.some.inj hx).symm;rw [hx];refine ze.t (zjb (itI (qL v) 1) (ziE v) j2) ?_;refine Br.mk (fun _=>?_) (fun k=>absurd j1 k);refine Ob.mk (by show (0:Int)<=2/\(2:Int) < 3;decide) ?_;refine Ob.mk (by show (0:Int)<=2/\(2:Int) < 3;decide) ?_;intro x hx;have hx:x=[i64 (itI (qL v) 2).w,i64 (itI (qL v) 2).h,.own 7]:=(Option.some.inj hx).symm;rw [hx]
 refine ze.t (zjb (itI (qL v) 2) (ziE v) k2) ?_;refine Br.mk (fun _=>?_) (fun k=>absurd k1 k);(iterate 3 refine Ar.o ?_);refine Dv.pos ⟨oM,dC,by show 32*v+255<=9223372036854775807;omega⟩ ?_;refine Br.mk (fun _=>?_) (fun k=>absurd (show (ziS dp i:Int)=(32*v+255) / 510 by rw [i16];exact wh) k);refine ze.t vp ?_;exact .refl
theorem law_walk' {P:Program} {f:FuncId} {args:List SV} {vs:List Value} {w:World} (h:zf P f args [] (bl true) [])
  (hg:∀S Pm:Nat->Prop,(∀b,¬S b)->(∀b,¬Pm b)->Gs S Pm (fun _=>none) w args vs) (hgl:∀g v,GL g v->w.cell? ⟨g,0,none⟩=some v:=by intro _ _ h;cases h):
  Calls P f vs.toArray w fun e w'=>e=.returned (.bool true)/\RowKit.Grown w w'/\RowKit.Below w.heap.size w w':=by
 refine (h.2 (fun _=>False) (fun _=>none) w vs (fun _ h=>h.elim) (kV (fun _ h=>h.elim) hgl) (fun _ _=>rfl) (hg _ _ (fun b hb=>hb.elim id zw) (fun b=>zw))).mono ?_
 rintro e w' ⟨v,ρ',rfl,hs,_,hv⟩
 refine ⟨by rw [hv.val_inv],⟨⟨hs.os,hs.output.1,fun i hi=>?_⟩,hs.output.2,hs.size⟩,⟨hs.os,hs.tape,hs.output.1,hs.size,fun i hi=>hs.block i hi zw⟩⟩;rw [hs.block i hi zw]
 cases w.heap[i]? with
 | none=>rfl
 | some o=>cases o <;> simp
theorem r64{n:Int}(h:(Lit.int .i64 n).wf=true):R64 n:=by
 simp only [Lit.wf,Bool.and_eq_true,decide_eq_true_eq] at h;exact h
theorem r8{n:Int}(h:(Lit.int .u8 n).wf=true):R8 n:=by
 simp only [Lit.wf,Bool.and_eq_true,decide_eq_true_eq] at h;exact h
end Go.Gs
