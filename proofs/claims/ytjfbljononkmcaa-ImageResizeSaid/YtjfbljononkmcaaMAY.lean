/- The law ImageResize. -/
import Derived.Test.YtjfbljononkmcaaMA
import Derived.Test.YtjfbljononkmcaaMAX
set_option maxRecDepth 100000
set_option maxHeartbeats 8000000
set_option linter.all false
namespace Go.Gs
open Go.Proofs
theorem kX {σ:St} (k k0:Nat) {T T0:TypeId} {α:Type} {enc:α->List SV} {sz:Nat} {ys:List α} {cs cs':List SV} (hk:zm σ.M k=some (.arr T enc sz ys))
  (h0:zm σ.M k0=some (.box T0 cs)) (hl:cs'.length=cs.length) (hx:∀(j:Nat) s',cs'[j]? =some s'->∃s,cs[j]? =some s/\(s'=s∨(s=.own k/\s'=.sl enc ys))):
  Sub σ ⟨σ.L,zN (zy σ.M k) k0 (.box T0 cs'),σ.nk,σ.nt,σ.n0⟩:=by
 intro E ρ a w hr;refine ⟨ρ,?_⟩;have hmem:=zj hk;have hsub:∀x∈zy σ.M k,x∈σ.M:=fun x hx=>zq x hx
 have hpd:=zL (k:=k) hr.mem.keys;have hkeys:(zN (zy σ.M k) k0 (.box T0 cs')).map (·.1)=(zy σ.M k).map (·.1):=qz;have hown:∀b,Own (zN (zy σ.M k) k0 (.box T0 cs')) ρ b->Own (zy σ.M k) ρ b:=fun b hb=>qt hkeys.symm hb
 have hown2:∀b,Own (zy σ.M k) ρ b->Own σ.M ρ b:=fun b ⟨k',m,v,h1,h2,h3⟩=>⟨k',m,v,hsub _ h1,h2,h3⟩
 have hg:∀s v,G (fun b=>E.Keep b∨Own σ.M ρ b) (Own σ.M ρ) ρ w s v->
   G (fun b=>E.Keep b∨Own (zN (zy σ.M k) k0 (.box T0 cs')) ρ b) (Own (zN (zy σ.M k) k0 (.box T0 cs')) ρ) ρ w s v:=fun s v h=>
  h.mono (Nat.le_refl _) (fun b _ hb=>⟨fun h=>hb (h.imp id fun h=>hown2 b (hown b h)),rfl⟩) (fun b _ hb=>⟨fun h=>hb (hown2 b (hown b h)),rfl⟩) (fun _ _ h=>h)
 have hs:Stp (Own σ.M ρ) (Own (zN (zy σ.M k) k0 (.box T0 cs')) ρ) ρ ρ w w:=
  ⟨rfl,rfl,.refl _,Nat.le_refl _,fun _ _ _=>rfl,fun b hb=>.inl (hown2 b (hown b hb)),fun _ _ h=>h⟩
 have hd:∀v,ρ k=some v->D (fun b=>E.Keep b∨Own (zN (zy σ.M k) k0 (.box T0 cs')) ρ b) w (.sl enc ys) v:=fun v hv=>
  vT hr.mem hmem (fun b hb=>hb.imp id fun h=>hown2 b (hown b h)) (fun v' b hv' hb hSb=>by
   rcases hSb with hSb | hSb
   ·exact (hr.mem.old b ⟨k,_,v',hmem,hv',hb⟩).2 hSb
   ·obtain ⟨k',m',v1,h4,h5,h6⟩:=hown b hSb
    exact hr.mem.apart k _ k' m' v' v1 b hmem (hsub _ h4) (Ne.symm (kw hr.mem.keys _ h4)) hv' h5 hb h6) hv
 refine ⟨hr.size,hr.defers,fun t s hl=>⟨(hr.regs t s hl).1,hg s _ (hr.regs t s hl).2⟩,⟨fun k1 m1 h1=>?_,ko hkeys hpd,fun k1 m1 k2 m2 v1 v2 b h1 h2=>?_,fun b hb=>hr.mem.old b (hown2 b (hown b hb)),hr.mem.kp,hr.mem.glO fun b hb=>hown2 b (hown b hb)⟩,
  hr.fresh,hr.stp.trans hs,hr.keep,hr.low⟩
 ·rcases z2 hpd _ h1 with ⟨_,h2⟩ | h2
  ·exact (hr.mem.rel k1 m1 (hsub _ h2)).keep hs rfl (fun _ _ _ _=>rfl)
  ·cases h2
   obtain ⟨b,vs,g1,g2,g3,g4,g5⟩:=hr.mem.rel k0 _ (zj h0);refine ⟨b,vs,g1,g2,by rw [hl];exact g3,g4,fun j s' v hs' hv=>?_⟩;obtain ⟨s,e1,e2⟩:=hx j s' hs';have hgu:=g5 j s v e1 hv
   rcases e2 with rfl | ⟨rfl,rfl⟩
   ·exact hg _ _ hgu
   ·exact .d _ _ (hd v hgu.own_inv.1)
 ·have back:∀k1 m1,(k1,m1)∈zN (zy σ.M k) k0 (.box T0 cs')->∃m',(k1,m')∈σ.M:=fun k1 m1 h=>by
   rcases z2 hpd _ h with ⟨_,h2⟩ | h2
   ·exact ⟨m1,hsub _ h2⟩
   ·cases h2;exact ⟨_,zj h0⟩
  obtain ⟨m1',h1'⟩:=back _ _ h1;obtain ⟨m2',h2'⟩:=back _ _ h2;exact hr.mem.apart k1 m1' k2 m2' v1 v2 b h1' h2'
theorem zgR:LE (.val (.slice none 0 0)) (.sl ze []):=fun _ _ _ _ _ hg=>by
 rw [hg.val_inv];exact .d _ _ (.nil _ _)
theorem zgm(m:Img)(h:¬qo m)(hl:m.px.length<=9223372036854775807):zf Try.prog 28 [.agg (ze m)] [] (.val (.slice none 0 0)) []:=by
 refine zk tok mix Try.func28 rfl rfl rfl ?_;refine zc.t (vy m hl) ?_;exact Br.mk (fun _=>.refl) (fun k=>absurd h k)
theorem zbk:zf Try.prog 30 [.val (.slice none 0 0),.sl ze []] [] (pr (([]:List Img)=[])) []:=(qv [] []).args (.cons zgR (.cons .refl .nil))
def resT(c:Img×Int):SV:=.tup [.agg (ze c.1),i64 c.2]
theorem ku{n:Nat}{l:List (List SV)}(h:(l.all fun x=>ye.lows n x)=true):∀x∈l,ye.lows n x=true:=fun x hx=>List.all_eq_true.1 h x hx
theorem zD{n:Nat}{l:List (List SV)}(h:(l.all fun x=>yf.outs n x)=true):∀x∈l,yf.outs n x=true:=fun x hx=>List.all_eq_true.1 h x hx
def kO(f:Nat->List Pix)(i:Nat)(q:List Pix)(j:Nat):List Pix:=if j=i then q else f j
def c77:Pix:=⟨0,0,0,77⟩
theorem c_law8(m:Img)(w h:Int)(rw_:R64 w)(rh:R64 h)(hp:∀q∈m.px,P8 q):zf Try.prog 8 [.agg (ze m),i64 w,i64 h] [] (bl true) []:=by
 refine zk tok mix Try.func8 rfl rfl rfl ?_;intro hl0;have ca:zf Try.prog 26 [.agg (ze m),i64 w,i64 h] [] (resT (qk m w h)) []:=(zgf m w h hl0 hp rw_ rh).plain rfl;have cb:zf Try.prog 27 [.agg (ze m),i64 w,i64 h] [] (resT (qk m w h)) []:=(ze6 m w h hp).plain rfl;have cm':=zhp m hp;generalize qk m w h=c at*;refine Br.mk (fun _=>zc.to _ kz rfl .refl) (fun h100=>?_);have h100:m.px.length<=100:=by have h100:¬100 < (m.px.length:Int):=h100;omega
 refine zc.t (zdy w h) ?_;refine Br.mk (fun hs=>?_) (fun hs=>?_);have hwh:=kZ (show 0<=w by omega) (show w<=4096 by omega) (show 0<=h by omega) (show h<=4096 by omega);refine Ar.o ?_;refine Br.mk (fun _=>zc.to _ kz rfl .refl) (fun _=>?_)
 all_goals
  refine ⟨Pix,zb,[],rfl,Ob.o39 ?_⟩;refine ⟨m.px,rfl,Ob.mk ⟨(by show (([]:List Pix).length+m.px.length:Int)*(4:Int)<=_;rw [List.length_nil];omega),(by rw [List.length_nil];omega),dC,fun _ _=>rfl⟩ ?_⟩;refine zc.t ca ?_;refine zc.t cb ?_
  by_cases hm:qo m
  rotate_left
  ·have hmip:=zgm m hm hl0;have cm2:zf Try.prog 29 [.agg (ze m)] [] (.sl ze []) []:=by rw [show zeZ m=[] from if_neg hm] at cm';exact cm'
   refine zc.t hmip ?_;refine zc.t cm2 ?_;refine zc.t (zV c.1 c.1) ?_;refine Br.mk (fun k=>absurd rfl k) (fun _=>?_);refine Br.mk (fun k=>absurd rfl k) (fun _=>?_);refine zc.t zbk ?_;refine Br.mk (fun k=>absurd rfl k) (fun _=>?_);refine ⟨Unit,fun _=>⟨[(73,i64 0),(72,i64 0),(3,.loc 0 0),(7,.loc 1 0)],[(1,.box 28 (ze m)),(0,.box 28 (ze m))],2,108,0⟩,fun _=>True,fun _=>0,(),trivial,?_,?_⟩
   ·exact (kX 3 1 (enc:=zb) (ys:=m.px) (cs:=[i64 m.w,i64 m.h,.own 3]) (cs':=ze m) rfl rfl rfl (fun j s' hs'=>by
     match j,hs' with
     | 0,hs'=>cases hs';exact ⟨_,rfl,.inl rfl⟩
     | 1,hs'=>cases hs';exact ⟨_,rfl,.inl rfl⟩
     | 2,hs'=>cases hs';exact ⟨_,rfl,.inr ⟨rfl,rfl⟩⟩
     | j+3,hs'=>cases hs')).trans (z3 [(0,some 0),(1,some 1)])
   intro _ _;refine Br.mk (fun k=>absurd k dC) (fun _=>?_);refine Dr.d ?_;refine zc.t (zV m m) ?_;refine Br.mk (fun _=>?_) (fun k=>absurd rfl k);refine zc.t hmip ?_;refine zc.t cm2 ?_;refine zc.t zbk ?_;refine Br.mk (fun _=>?_) (fun k=>absurd rfl k);refine zc.t kz ?_;refine Ob.mk (by kernel_rfl) ?_;exact .refl
  have h8:=mip_8 hm h100;have hmip:=c_mip m ⟨hm,hp⟩ h8;obtain ⟨s1,_,_,_⟩:=uK hm;have eL:zeZ m=zP m (z5 m):=if_pos hm;rw [eL] at cm';have hn8:z5 m=1∨z5 m=2∨z5 m=3∨z5 m=4∨z5 m=5∨z5 m=6∨z5 m=7∨z5 m=8:=oM;clear ca cb eL s1 h8 rw_ rh;generalize z5 m=N at*
  rcases hn8 with rfl | rfl | rfl | rfl | rfl | rfl | rfl | rfl
  ·refine zc.give [] 2 [.agg (ze m)] [] (zJ m 1) (.own 0) hmip LEs.refl rfl rfl rfl trivial rfl ⟨⟨rfl,zD rfl⟩,⟨rfl,trivial⟩,trivial⟩ ?_;refine zc.t cm' ?_;refine zc.t (zV c.1 c.1) ?_;refine Br.mk (fun k=>absurd rfl k) (fun _=>?_);refine Br.mk (fun k=>absurd rfl k) (fun _=>?_);refine zc.give [6,7] 0 [.own 0,.sl ze (zP m 1)] (zJ m 1) (zJ m 1) _ (zel m (zP m 1)) LEs.refl rfl rfl rfl ⟨⟨_,rfl,rfl,ku rfl⟩,⟨_,rfl,rfl,trivial⟩,trivial⟩ rfl ⟨⟨rfl,zD rfl⟩,⟨rfl,trivial⟩,trivial⟩ ?_;refine Br.mk (fun k=>absurd rfl k) (fun _=>?_);intro hl1
   refine ⟨Nat×(Nat->List Pix),fun z=>⟨[(73,i64 (z.1:Int)),(72,i64 (1:Nat)),(12,.own 0),(3,.loc 1 0),(7,.loc 2 0)],[(0,.garr 28 3 [[i64 (itI m 0).w,i64 (itI m 0).h,.own 3]]),(1,.box 28 (ze m)),(2,.box 28 (ze m)),(3,.arr 37 zb 4 (z.2 0))],4,108,0⟩,fun z=>z.1<=1,fun z=>1 - z.1,(0,fun j=>(itI m j).px),Nat.zero_le _,?_,?_⟩
   ·refine (kX 3 1 (enc:=zb) (ys:=m.px) (cs:=[i64 m.w,i64 m.h,.own 3]) (cs':=ze m) rfl rfl rfl (fun j s' hs'=>by
     match j,hs' with
     | 0,hs'=>cases hs';exact ⟨_,rfl,.inl rfl⟩
     | 1,hs'=>cases hs';exact ⟨_,rfl,.inl rfl⟩
     | 2,hs'=>cases hs';exact ⟨_,rfl,.inr ⟨rfl,rfl⟩⟩
     | j+3,hs'=>cases hs')).trans (zi [(0,some 6),(1,some 0),(2,some 1),(3,some 7)] ⟨⟨_,rfl,rfl,fun i x hx=>?_⟩,rfl,rfl,rfl,trivial⟩)
    match i,hx with
    | 0,hx=>cases hx;exact ⟨_,rfl,rfl⟩
    | i+1,hx=>cases hx
   rintro ⟨i,f⟩ hi
   have hi:i<=1:=hi;have hin:i=0∨i=1:=oM
   rcases hin with rfl | rfl
   ·refine Br.mk (fun _=>?_) (fun k=>absurd (show ((0:Nat):Int) < ((1:Nat):Int) by decide) k);refine Ob.o2 ?_;refine Ob.o2 ?_;intro x hx;have hx:x=[i64 (itI m 0).w,i64 (itI m 0).h,.own 3]:=(Option.some.inj hx).symm;rw [hx];intro hl2;have hl2:(f 0).length<=281474976710656:=hl2
    refine ⟨Nat×List Pix,fun z=>⟨[(82,i64 (z.1:Int)),(81,i64 ((f 0).length:Int)),(14,i64 (0:Nat)),(73,i64 (0:Nat)),(72,i64 (1:Nat)),(12,.own 0),(3,.loc 1 0),(7,.loc 2 0)],[(0,.garr 28 3 [[i64 (itI m 0).w,i64 (itI m 0).h,.own 3]]),(1,.box 28 (ze m)),(2,.box 28 (ze m)),(3,.arr 37 zb 4 z.2)],4,108,0⟩,fun z=>z.1<=(f 0).length/\z.2.length=(f 0).length,fun z=>(f 0).length - z.1,(0,f 0),⟨Nat.zero_le _,rfl⟩,?_,?_⟩
    ·refine zi [(0,some 0),(1,some 1),(2,some 2),(3,some 3)] ⟨⟨_,rfl,rfl,fun i x hx=>?_⟩,rfl,rfl,rfl,trivial⟩
     match i,hx with
     | 0,hx=>cases hx;exact ⟨_,rfl,rfl⟩
     | i+1,hx=>cases hx
    rintro ⟨k,q⟩ ⟨hk,hq⟩
    have hk:k<=(f 0).length:=hk;have hq:q.length=(f 0).length:=hq;refine Br.mk (fun g=>?_) (fun g=>?_)
    ·have g:(k:Int) < ((f 0).length:Int):=g;refine Ob.o2 ?_;refine Ob.o2 ?_;intro x hx;have hx:x=[i64 (itI m 0).w,i64 (itI m 0).h,.own 3]:=(Option.some.inj hx).symm;rw [hx];refine Ob.o ?_;refine Ob.o ?_;intro y _;refine ⟨c77,rfl,?_⟩;refine Ar.o ?_;refine ⟨(k+1,q.set k c77),⟨by show k+1<=_;omega,by show (q.set k c77).length=_;rw [List.length_set];exact hq⟩,zi [(0,some 0),(1,some 1),(2,some 2),(3,some 3)] ⟨⟨_,rfl,rfl,fun i x hx=>?_⟩,rfl,rfl,rfl,trivial⟩,by dsimp only;omega⟩
     match i,hx with
     | 0,hx=>cases hx;exact ⟨_,rfl,rfl⟩
     | i+1,hx=>cases hx
    ·refine Ar.fit (show -9223372036854775808<=((0:Nat):Int)+1/\((0:Nat):Int)+1<=9223372036854775807 by decide) ?_;refine ⟨(1,kO f 0 q),(show (1:Nat)<=1 by decide),zi [(0,some 0),(1,some 1),(2,some 2),(3,some 3)] ⟨⟨_,rfl,rfl,fun i x hx=>?_⟩,rfl,rfl,rfl,trivial⟩,(show (1:Nat) - 1 < 1 - 0 by decide)⟩
     match i,hx with
     | 0,hx=>cases hx;exact ⟨_,rfl,rfl⟩
     | i+1,hx=>cases hx
   ·refine Br.mk (fun k=>absurd k (show ¬((1:Nat):Int) < ((1:Nat):Int) by decide)) (fun _=>?_);refine Dr.d ?_;refine zc.t (zV m m) ?_;refine Br.mk (fun _=>?_) (fun k=>absurd rfl k);refine zc.give [] 2 [.agg (ze m)] [] (zJ m 1) (.own 0) hmip LEs.refl rfl rfl rfl trivial rfl ⟨⟨rfl,zD rfl⟩,⟨rfl,trivial⟩,trivial⟩ ?_;refine zc.t cm' ?_;refine zc.give [4,5] 0 [.own 0,.sl ze (zP m 1)] (zJ m 1) (zJ m 1) _ (zel m (zP m 1)) LEs.refl rfl rfl rfl ⟨⟨_,rfl,rfl,ku rfl⟩,⟨_,rfl,rfl,trivial⟩,trivial⟩ rfl ⟨⟨rfl,zD rfl⟩,⟨rfl,trivial⟩,trivial⟩ ?_
    refine Br.mk (fun _=>?_) (fun k=>absurd rfl k);refine zc.t kz ?_;refine Ob.mk (by kernel_rfl) ?_;exact .refl
  ·refine zc.give [] 3 [.agg (ze m)] [] (zJ m 2) (.own 0) hmip LEs.refl rfl rfl rfl trivial rfl ⟨⟨rfl,zD rfl⟩,⟨rfl,trivial⟩,⟨rfl,trivial⟩,trivial⟩ ?_;refine zc.t cm' ?_;refine zc.t (zV c.1 c.1) ?_;refine Br.mk (fun k=>absurd rfl k) (fun _=>?_);refine Br.mk (fun k=>absurd rfl k) (fun _=>?_);refine zc.give [6,7,8] 0 [.own 0,.sl ze (zP m 2)] (zJ m 2) (zJ m 2) _ (zem m (zP m 2)) LEs.refl rfl rfl rfl ⟨⟨_,rfl,rfl,ku rfl⟩,⟨_,rfl,rfl,trivial⟩,⟨_,rfl,rfl,trivial⟩,trivial⟩ rfl ⟨⟨rfl,zD rfl⟩,⟨rfl,trivial⟩,⟨rfl,trivial⟩,trivial⟩ ?_
   refine Br.mk (fun k=>absurd rfl k) (fun _=>?_);intro hl1;refine ⟨Nat×(Nat->List Pix),fun z=>⟨[(73,i64 (z.1:Int)),(72,i64 (2:Nat)),(12,.own 0),(3,.loc 1 0),(7,.loc 2 0)],[(0,.garr 28 3 [[i64 (itI m 0).w,i64 (itI m 0).h,.own 3],[i64 (itI m 1).w,i64 (itI m 1).h,.own 4]]),(1,.box 28 (ze m)),(2,.box 28 (ze m)),(3,.arr 37 zb 4 (z.2 0)),(4,.arr 37 zb 4 (z.2 1))],5,108,0⟩,fun z=>z.1<=2,fun z=>2 - z.1,(0,fun j=>(itI m j).px),Nat.zero_le _,?_,?_⟩
   ·refine (kX 3 1 (enc:=zb) (ys:=m.px) (cs:=[i64 m.w,i64 m.h,.own 3]) (cs':=ze m) rfl rfl rfl (fun j s' hs'=>by
     match j,hs' with
     | 0,hs'=>cases hs';exact ⟨_,rfl,.inl rfl⟩
     | 1,hs'=>cases hs';exact ⟨_,rfl,.inl rfl⟩
     | 2,hs'=>cases hs';exact ⟨_,rfl,.inr ⟨rfl,rfl⟩⟩
     | j+3,hs'=>cases hs')).trans (zi [(0,some 6),(1,some 0),(2,some 1),(3,some 7),(4,some 8)] ⟨⟨_,rfl,rfl,fun i x hx=>?_⟩,rfl,rfl,rfl,rfl,trivial⟩)
    match i,hx with
    | 0,hx=>cases hx;exact ⟨_,rfl,rfl⟩
    | 1,hx=>cases hx;exact ⟨_,rfl,rfl⟩
    | i+2,hx=>cases hx
   rintro ⟨i,f⟩ hi
   have hi:i<=2:=hi;have hin:i=0∨i=1∨i=2:=oM
   rcases hin with rfl | rfl | rfl
   ·refine Br.mk (fun _=>?_) (fun k=>absurd (show ((0:Nat):Int) < ((2:Nat):Int) by decide) k);refine Ob.o3 ?_;refine Ob.o3 ?_;intro x hx;have hx:x=[i64 (itI m 0).w,i64 (itI m 0).h,.own 3]:=(Option.some.inj hx).symm;rw [hx];intro hl2;have hl2:(f 0).length<=281474976710656:=hl2
    refine ⟨Nat×List Pix,fun z=>⟨[(82,i64 (z.1:Int)),(81,i64 ((f 0).length:Int)),(14,i64 (0:Nat)),(73,i64 (0:Nat)),(72,i64 (2:Nat)),(12,.own 0),(3,.loc 1 0),(7,.loc 2 0)],[(0,.garr 28 3 [[i64 (itI m 0).w,i64 (itI m 0).h,.own 3],[i64 (itI m 1).w,i64 (itI m 1).h,.own 4]]),(1,.box 28 (ze m)),(2,.box 28 (ze m)),(3,.arr 37 zb 4 z.2),(4,.arr 37 zb 4 (f 1))],5,108,0⟩,fun z=>z.1<=(f 0).length/\z.2.length=(f 0).length,fun z=>(f 0).length - z.1,(0,f 0),⟨Nat.zero_le _,rfl⟩,?_,?_⟩
    ·refine zi [(0,some 0),(1,some 1),(2,some 2),(3,some 3),(4,some 4)] ⟨⟨_,rfl,rfl,fun i x hx=>?_⟩,rfl,rfl,rfl,rfl,trivial⟩
     match i,hx with
     | 0,hx=>cases hx;exact ⟨_,rfl,rfl⟩
     | 1,hx=>cases hx;exact ⟨_,rfl,rfl⟩
     | i+2,hx=>cases hx
    rintro ⟨k,q⟩ ⟨hk,hq⟩
    have hk:k<=(f 0).length:=hk;have hq:q.length=(f 0).length:=hq;refine Br.mk (fun g=>?_) (fun g=>?_)
    ·have g:(k:Int) < ((f 0).length:Int):=g;refine Ob.o3 ?_;refine Ob.o3 ?_;intro x hx;have hx:x=[i64 (itI m 0).w,i64 (itI m 0).h,.own 3]:=(Option.some.inj hx).symm;rw [hx];refine Ob.o ?_;refine Ob.o ?_;intro y _;refine ⟨c77,rfl,?_⟩;refine Ar.o ?_;refine ⟨(k+1,q.set k c77),⟨by show k+1<=_;omega,by show (q.set k c77).length=_;rw [List.length_set];exact hq⟩,zi [(0,some 0),(1,some 1),(2,some 2),(3,some 3),(4,some 4)] ⟨⟨_,rfl,rfl,fun i x hx=>?_⟩,rfl,rfl,rfl,rfl,trivial⟩,by dsimp only;omega⟩
     match i,hx with
     | 0,hx=>cases hx;exact ⟨_,rfl,rfl⟩
     | 1,hx=>cases hx;exact ⟨_,rfl,rfl⟩
     | i+2,hx=>cases hx
    ·refine Ar.fit (show -9223372036854775808<=((0:Nat):Int)+1/\((0:Nat):Int)+1<=9223372036854775807 by decide) ?_;refine ⟨(1,kO f 0 q),(show (1:Nat)<=2 by decide),zi [(0,some 0),(1,some 1),(2,some 2),(3,some 3),(4,some 4)] ⟨⟨_,rfl,rfl,fun i x hx=>?_⟩,rfl,rfl,rfl,rfl,trivial⟩,(show (2:Nat) - 1 < 2 - 0 by decide)⟩
     match i,hx with
     | 0,hx=>cases hx;exact ⟨_,rfl,rfl⟩
     | 1,hx=>cases hx;exact ⟨_,rfl,rfl⟩
     | i+2,hx=>cases hx
   ·refine Br.mk (fun _=>?_) (fun k=>absurd (show ((1:Nat):Int) < ((2:Nat):Int) by decide) k);refine Ob.o4 ?_;refine Ob.o4 ?_;intro x hx;have hx:x=[i64 (itI m 1).w,i64 (itI m 1).h,.own 4]:=(Option.some.inj hx).symm;rw [hx];intro hl2;have hl2:(f 1).length<=281474976710656:=hl2
    refine ⟨Nat×List Pix,fun z=>⟨[(82,i64 (z.1:Int)),(81,i64 ((f 1).length:Int)),(14,i64 (1:Nat)),(73,i64 (1:Nat)),(72,i64 (2:Nat)),(12,.own 0),(3,.loc 1 0),(7,.loc 2 0)],[(0,.garr 28 3 [[i64 (itI m 0).w,i64 (itI m 0).h,.own 3],[i64 (itI m 1).w,i64 (itI m 1).h,.own 4]]),(1,.box 28 (ze m)),(2,.box 28 (ze m)),(3,.arr 37 zb 4 (f 0)),(4,.arr 37 zb 4 z.2)],5,108,0⟩,fun z=>z.1<=(f 1).length/\z.2.length=(f 1).length,fun z=>(f 1).length - z.1,(0,f 1),⟨Nat.zero_le _,rfl⟩,?_,?_⟩
    ·refine zi [(0,some 0),(1,some 1),(2,some 2),(3,some 3),(4,some 4)] ⟨⟨_,rfl,rfl,fun i x hx=>?_⟩,rfl,rfl,rfl,rfl,trivial⟩
     match i,hx with
     | 0,hx=>cases hx;exact ⟨_,rfl,rfl⟩
     | 1,hx=>cases hx;exact ⟨_,rfl,rfl⟩
     | i+2,hx=>cases hx
    rintro ⟨k,q⟩ ⟨hk,hq⟩
    have hk:k<=(f 1).length:=hk;have hq:q.length=(f 1).length:=hq;refine Br.mk (fun g=>?_) (fun g=>?_)
    ·have g:(k:Int) < ((f 1).length:Int):=g;refine Ob.o4 ?_;refine Ob.o4 ?_;intro x hx;have hx:x=[i64 (itI m 1).w,i64 (itI m 1).h,.own 4]:=(Option.some.inj hx).symm;rw [hx];refine Ob.o ?_;refine Ob.o ?_;intro y _;refine ⟨c77,rfl,?_⟩;refine Ar.o ?_;refine ⟨(k+1,q.set k c77),⟨by show k+1<=_;omega,by show (q.set k c77).length=_;rw [List.length_set];exact hq⟩,zi [(0,some 0),(1,some 1),(2,some 2),(3,some 3),(4,some 4)] ⟨⟨_,rfl,rfl,fun i x hx=>?_⟩,rfl,rfl,rfl,rfl,trivial⟩,by dsimp only;omega⟩
     match i,hx with
     | 0,hx=>cases hx;exact ⟨_,rfl,rfl⟩
     | 1,hx=>cases hx;exact ⟨_,rfl,rfl⟩
     | i+2,hx=>cases hx
    ·refine Ar.fit (show -9223372036854775808<=((1:Nat):Int)+1/\((1:Nat):Int)+1<=9223372036854775807 by decide) ?_;refine ⟨(2,kO f 1 q),(show (2:Nat)<=2 by decide),zi [(0,some 0),(1,some 1),(2,some 2),(3,some 3),(4,some 4)] ⟨⟨_,rfl,rfl,fun i x hx=>?_⟩,rfl,rfl,rfl,rfl,trivial⟩,(show (2:Nat) - 2 < 2 - 1 by decide)⟩
     match i,hx with
     | 0,hx=>cases hx;exact ⟨_,rfl,rfl⟩
     | 1,hx=>cases hx;exact ⟨_,rfl,rfl⟩
     | i+2,hx=>cases hx
   ·refine Br.mk (fun k=>absurd k (show ¬((2:Nat):Int) < ((2:Nat):Int) by decide)) (fun _=>?_);refine Dr.d ?_;refine zc.t (zV m m) ?_;refine Br.mk (fun _=>?_) (fun k=>absurd rfl k);refine zc.give [] 3 [.agg (ze m)] [] (zJ m 2) (.own 0) hmip LEs.refl rfl rfl rfl trivial rfl ⟨⟨rfl,zD rfl⟩,⟨rfl,trivial⟩,⟨rfl,trivial⟩,trivial⟩ ?_;refine zc.t cm' ?_
    refine zc.give [5,6,7] 0 [.own 0,.sl ze (zP m 2)] (zJ m 2) (zJ m 2) _ (zem m (zP m 2)) LEs.refl rfl rfl rfl ⟨⟨_,rfl,rfl,ku rfl⟩,⟨_,rfl,rfl,trivial⟩,⟨_,rfl,rfl,trivial⟩,trivial⟩ rfl ⟨⟨rfl,zD rfl⟩,⟨rfl,trivial⟩,⟨rfl,trivial⟩,trivial⟩ ?_;refine Br.mk (fun _=>?_) (fun k=>absurd rfl k);refine zc.t kz ?_;refine Ob.mk (by kernel_rfl) ?_;exact .refl
  ·refine zc.give [] 4 [.agg (ze m)] [] (zJ m 3) (.own 0) hmip LEs.refl rfl rfl rfl trivial rfl ⟨⟨rfl,zD rfl⟩,⟨rfl,trivial⟩,⟨rfl,trivial⟩,⟨rfl,trivial⟩,trivial⟩ ?_;refine zc.t cm' ?_;refine zc.t (zV c.1 c.1) ?_;refine Br.mk (fun k=>absurd rfl k) (fun _=>?_);refine Br.mk (fun k=>absurd rfl k) (fun _=>?_)
   refine zc.give [6,7,8,9] 0 [.own 0,.sl ze (zP m 3)] (zJ m 3) (zJ m 3) _ (zen m (zP m 3)) LEs.refl rfl rfl rfl ⟨⟨_,rfl,rfl,ku rfl⟩,⟨_,rfl,rfl,trivial⟩,⟨_,rfl,rfl,trivial⟩,⟨_,rfl,rfl,trivial⟩,trivial⟩ rfl ⟨⟨rfl,zD rfl⟩,⟨rfl,trivial⟩,⟨rfl,trivial⟩,⟨rfl,trivial⟩,trivial⟩ ?_;refine Br.mk (fun k=>absurd rfl k) (fun _=>?_);intro hl1
   refine ⟨Nat×(Nat->List Pix),fun z=>⟨[(73,i64 (z.1:Int)),(72,i64 (3:Nat)),(12,.own 0),(3,.loc 1 0),(7,.loc 2 0)],[(0,.garr 28 3 [[i64 (itI m 0).w,i64 (itI m 0).h,.own 3],[i64 (itI m 1).w,i64 (itI m 1).h,.own 4],[i64 (itI m 2).w,i64 (itI m 2).h,.own 5]]),(1,.box 28 (ze m)),(2,.box 28 (ze m)),(3,.arr 37 zb 4 (z.2 0)),(4,.arr 37 zb 4 (z.2 1)),(5,.arr 37 zb 4 (z.2 2))],6,108,0⟩,fun z=>z.1<=3,fun z=>3 - z.1,(0,fun j=>(itI m j).px),Nat.zero_le _,?_,?_⟩
   ·refine (kX 3 1 (enc:=zb) (ys:=m.px) (cs:=[i64 m.w,i64 m.h,.own 3]) (cs':=ze m) rfl rfl rfl (fun j s' hs'=>by
     match j,hs' with
     | 0,hs'=>cases hs';exact ⟨_,rfl,.inl rfl⟩
     | 1,hs'=>cases hs';exact ⟨_,rfl,.inl rfl⟩
     | 2,hs'=>cases hs';exact ⟨_,rfl,.inr ⟨rfl,rfl⟩⟩
     | j+3,hs'=>cases hs')).trans (zi [(0,some 6),(1,some 0),(2,some 1),(3,some 7),(4,some 8),(5,some 9)] ⟨⟨_,rfl,rfl,fun i x hx=>?_⟩,rfl,rfl,rfl,rfl,rfl,trivial⟩)
    match i,hx with
    | 0,hx=>cases hx;exact ⟨_,rfl,rfl⟩
    | 1,hx=>cases hx;exact ⟨_,rfl,rfl⟩
    | 2,hx=>cases hx;exact ⟨_,rfl,rfl⟩
    | i+3,hx=>cases hx
   rintro ⟨i,f⟩ hi
   have hi:i<=3:=hi;have hin:i=0∨i=1∨i=2∨i=3:=oM
   rcases hin with rfl | rfl | rfl | rfl
   ·refine Br.mk (fun _=>?_) (fun k=>absurd (show ((0:Nat):Int) < ((3:Nat):Int) by decide) k);refine Ob.o5 ?_;refine Ob.o5 ?_;intro x hx;have hx:x=[i64 (itI m 0).w,i64 (itI m 0).h,.own 3]:=(Option.some.inj hx).symm;rw [hx];intro hl2;have hl2:(f 0).length<=281474976710656:=hl2
    refine ⟨Nat×List Pix,fun z=>⟨[(82,i64 (z.1:Int)),(81,i64 ((f 0).length:Int)),(14,i64 (0:Nat)),(73,i64 (0:Nat)),(72,i64 (3:Nat)),(12,.own 0),(3,.loc 1 0),(7,.loc 2 0)],[(0,.garr 28 3 [[i64 (itI m 0).w,i64 (itI m 0).h,.own 3],[i64 (itI m 1).w,i64 (itI m 1).h,.own 4],[i64 (itI m 2).w,i64 (itI m 2).h,.own 5]]),(1,.box 28 (ze m)),(2,.box 28 (ze m)),(3,.arr 37 zb 4 z.2),(4,.arr 37 zb 4 (f 1)),(5,.arr 37 zb 4 (f 2))],6,108,0⟩,fun z=>z.1<=(f 0).length/\z.2.length=(f 0).length,fun z=>(f 0).length - z.1,(0,f 0),⟨Nat.zero_le _,rfl⟩,?_,?_⟩
    ·refine zi [(0,some 0),(1,some 1),(2,some 2),(3,some 3),(4,some 4),(5,some 5)] ⟨⟨_,rfl,rfl,fun i x hx=>?_⟩,rfl,rfl,rfl,rfl,rfl,trivial⟩
     match i,hx with
     | 0,hx=>cases hx;exact ⟨_,rfl,rfl⟩
     | 1,hx=>cases hx;exact ⟨_,rfl,rfl⟩
     | 2,hx=>cases hx;exact ⟨_,rfl,rfl⟩
     | i+3,hx=>cases hx
    rintro ⟨k,q⟩ ⟨hk,hq⟩
    have hk:k<=(f 0).length:=hk;have hq:q.length=(f 0).length:=hq;refine Br.mk (fun g=>?_) (fun g=>?_)
    ·have g:(k:Int) < ((f 0).length:Int):=g;refine Ob.o5 ?_;refine Ob.o5 ?_;intro x hx;have hx:x=[i64 (itI m 0).w,i64 (itI m 0).h,.own 3]:=(Option.some.inj hx).symm;rw [hx];refine Ob.o ?_;refine Ob.o ?_;intro y _;refine ⟨c77,rfl,?_⟩;refine Ar.o ?_;refine ⟨(k+1,q.set k c77),⟨by show k+1<=_;omega,by show (q.set k c77).length=_;rw [List.length_set];exact hq⟩,zi [(0,some 0),(1,some 1),(2,some 2),(3,some 3),(4,some 4),(5,some 5)] ⟨⟨_,rfl,rfl,fun i x hx=>?_⟩,rfl,rfl,rfl,rfl,rfl,trivial⟩,by dsimp only;omega⟩
     match i,hx with
     | 0,hx=>cases hx;exact ⟨_,rfl,rfl⟩
     | 1,hx=>cases hx;exact ⟨_,rfl,rfl⟩
     | 2,hx=>cases hx;exact ⟨_,rfl,rfl⟩
     | i+3,hx=>cases hx
    ·refine Ar.fit (show -9223372036854775808<=((0:Nat):Int)+1/\((0:Nat):Int)+1<=9223372036854775807 by decide) ?_;refine ⟨(1,kO f 0 q),(show (1:Nat)<=3 by decide),zi [(0,some 0),(1,some 1),(2,some 2),(3,some 3),(4,some 4),(5,some 5)] ⟨⟨_,rfl,rfl,fun i x hx=>?_⟩,rfl,rfl,rfl,rfl,rfl,trivial⟩,(show (3:Nat) - 1 < 3 - 0 by decide)⟩
     match i,hx with
     | 0,hx=>cases hx;exact ⟨_,rfl,rfl⟩
     | 1,hx=>cases hx;exact ⟨_,rfl,rfl⟩
     | 2,hx=>cases hx;exact ⟨_,rfl,rfl⟩
     | i+3,hx=>cases hx
   ·refine Br.mk (fun _=>?_) (fun k=>absurd (show ((1:Nat):Int) < ((3:Nat):Int) by decide) k);refine Ob.o6 ?_;refine Ob.o6 ?_;intro x hx;have hx:x=[i64 (itI m 1).w,i64 (itI m 1).h,.own 4]:=(Option.some.inj hx).symm;rw [hx];intro hl2;have hl2:(f 1).length<=281474976710656:=hl2
    refine ⟨Nat×List Pix,fun z=>⟨[(82,i64 (z.1:Int)),(81,i64 ((f 1).length:Int)),(14,i64 (1:Nat)),(73,i64 (1:Nat)),(72,i64 (3:Nat)),(12,.own 0),(3,.loc 1 0),(7,.loc 2 0)],[(0,.garr 28 3 [[i64 (itI m 0).w,i64 (itI m 0).h,.own 3],[i64 (itI m 1).w,i64 (itI m 1).h,.own 4],[i64 (itI m 2).w,i64 (itI m 2).h,.own 5]]),(1,.box 28 (ze m)),(2,.box 28 (ze m)),(3,.arr 37 zb 4 (f 0)),(4,.arr 37 zb 4 z.2),(5,.arr 37 zb 4 (f 2))],6,108,0⟩,fun z=>z.1<=(f 1).length/\z.2.length=(f 1).length,fun z=>(f 1).length - z.1,(0,f 1),⟨Nat.zero_le _,rfl⟩,?_,?_⟩
    ·refine zi [(0,some 0),(1,some 1),(2,some 2),(3,some 3),(4,some 4),(5,some 5)] ⟨⟨_,rfl,rfl,fun i x hx=>?_⟩,rfl,rfl,rfl,rfl,rfl,trivial⟩
     match i,hx with
     | 0,hx=>cases hx;exact ⟨_,rfl,rfl⟩
     | 1,hx=>cases hx;exact ⟨_,rfl,rfl⟩
     | 2,hx=>cases hx;exact ⟨_,rfl,rfl⟩
     | i+3,hx=>cases hx
    rintro ⟨k,q⟩ ⟨hk,hq⟩
    have hk:k<=(f 1).length:=hk;have hq:q.length=(f 1).length:=hq;refine Br.mk (fun g=>?_) (fun g=>?_)
    ·have g:(k:Int) < ((f 1).length:Int):=g;refine Ob.o6 ?_;refine Ob.o6 ?_;intro x hx;have hx:x=[i64 (itI m 1).w,i64 (itI m 1).h,.own 4]:=(Option.some.inj hx).symm;rw [hx];refine Ob.o ?_;refine Ob.o ?_;intro y _;refine ⟨c77,rfl,?_⟩;refine Ar.o ?_;refine ⟨(k+1,q.set k c77),⟨by show k+1<=_;omega,by show (q.set k c77).length=_;rw [List.length_set];exact hq⟩,zi [(0,some 0),(1,some 1),(2,some 2),(3,some 3),(4,some 4),(5,some 5)] ⟨⟨_,rfl,rfl,fun i x hx=>?_⟩,rfl,rfl,rfl,rfl,rfl,trivial⟩,by dsimp only;omega⟩
     match i,hx with
     | 0,hx=>cases hx;exact ⟨_,rfl,rfl⟩
     | 1,hx=>cases hx;exact ⟨_,rfl,rfl⟩
     | 2,hx=>cases hx;exact ⟨_,rfl,rfl⟩
     | i+3,hx=>cases hx
    ·refine Ar.fit (show -9223372036854775808<=((1:Nat):Int)+1/\((1:Nat):Int)+1<=9223372036854775807 by decide) ?_;refine ⟨(2,kO f 1 q),(show (2:Nat)<=3 by decide),zi [(0,some 0),(1,some 1),(2,some 2),(3,some 3),(4,some 4),(5,some 5)] ⟨⟨_,rfl,rfl,fun i x hx=>?_⟩,rfl,rfl,rfl,rfl,rfl,trivial⟩,(show (3:Nat) - 2 < 3 - 1 by decide)⟩
     match i,hx with
     | 0,hx=>cases hx;exact ⟨_,rfl,rfl⟩
     | 1,hx=>cases hx;exact ⟨_,rfl,rfl⟩
     | 2,hx=>cases hx;exact ⟨_,rfl,rfl⟩
     | i+3,hx=>cases hx
   ·refine Br.mk (fun _=>?_) (fun k=>absurd (show ((2:Nat):Int) < ((3:Nat):Int) by decide) k);refine Ob.o7 ?_;refine Ob.o7 ?_;intro x hx;have hx:x=[i64 (itI m 2).w,i64 (itI m 2).h,.own 5]:=(Option.some.inj hx).symm;rw [hx];intro hl2;have hl2:(f 2).length<=281474976710656:=hl2
    refine ⟨Nat×List Pix,fun z=>⟨[(82,i64 (z.1:Int)),(81,i64 ((f 2).length:Int)),(14,i64 (2:Nat)),(73,i64 (2:Nat)),(72,i64 (3:Nat)),(12,.own 0),(3,.loc 1 0),(7,.loc 2 0)],[(0,.garr 28 3 [[i64 (itI m 0).w,i64 (itI m 0).h,.own 3],[i64 (itI m 1).w,i64 (itI m 1).h,.own 4],[i64 (itI m 2).w,i64 (itI m 2).h,.own 5]]),(1,.box 28 (ze m)),(2,.box 28 (ze m)),(3,.arr 37 zb 4 (f 0)),(4,.arr 37 zb 4 (f 1)),(5,.arr 37 zb 4 z.2)],6,108,0⟩,fun z=>z.1<=(f 2).length/\z.2.length=(f 2).length,fun z=>(f 2).length - z.1,(0,f 2),⟨Nat.zero_le _,rfl⟩,?_,?_⟩
    ·refine zi [(0,some 0),(1,some 1),(2,some 2),(3,some 3),(4,some 4),(5,some 5)] ⟨⟨_,rfl,rfl,fun i x hx=>?_⟩,rfl,rfl,rfl,rfl,rfl,trivial⟩
     match i,hx with
     | 0,hx=>cases hx;exact ⟨_,rfl,rfl⟩
     | 1,hx=>cases hx;exact ⟨_,rfl,rfl⟩
     | 2,hx=>cases hx;exact ⟨_,rfl,rfl⟩
     | i+3,hx=>cases hx
    rintro ⟨k,q⟩ ⟨hk,hq⟩
    have hk:k<=(f 2).length:=hk;have hq:q.length=(f 2).length:=hq;refine Br.mk (fun g=>?_) (fun g=>?_)
    ·have g:(k:Int) < ((f 2).length:Int):=g;refine Ob.o7 ?_;refine Ob.o7 ?_;intro x hx;have hx:x=[i64 (itI m 2).w,i64 (itI m 2).h,.own 5]:=(Option.some.inj hx).symm;rw [hx];refine Ob.o ?_;refine Ob.o ?_;intro y _;refine ⟨c77,rfl,?_⟩;refine Ar.o ?_;refine ⟨(k+1,q.set k c77),⟨by show k+1<=_;omega,by show (q.set k c77).length=_;rw [List.length_set];exact hq⟩,zi [(0,some 0),(1,some 1),(2,some 2),(3,some 3),(4,some 4),(5,some 5)] ⟨⟨_,rfl,rfl,fun i x hx=>?_⟩,rfl,rfl,rfl,rfl,rfl,trivial⟩,by dsimp only;omega⟩
     match i,hx with
     | 0,hx=>cases hx;exact ⟨_,rfl,rfl⟩
     | 1,hx=>cases hx;exact ⟨_,rfl,rfl⟩
     | 2,hx=>cases hx;exact ⟨_,rfl,rfl⟩
     | i+3,hx=>cases hx
    ·refine Ar.fit (show -9223372036854775808<=((2:Nat):Int)+1/\((2:Nat):Int)+1<=9223372036854775807 by decide) ?_;refine ⟨(3,kO f 2 q),(show (3:Nat)<=3 by decide),zi [(0,some 0),(1,some 1),(2,some 2),(3,some 3),(4,some 4),(5,some 5)] ⟨⟨_,rfl,rfl,fun i x hx=>?_⟩,rfl,rfl,rfl,rfl,rfl,trivial⟩,(show (3:Nat) - 3 < 3 - 2 by decide)⟩
     match i,hx with
     | 0,hx=>cases hx;exact ⟨_,rfl,rfl⟩
     | 1,hx=>cases hx;exact ⟨_,rfl,rfl⟩
     | 2,hx=>cases hx;exact ⟨_,rfl,rfl⟩
     | i+3,hx=>cases hx
   ·refine Br.mk (fun k=>absurd k (show ¬((3:Nat):Int) < ((3:Nat):Int) by decide)) (fun _=>?_);refine Dr.d ?_;refine zc.t (zV m m) ?_;refine Br.mk (fun _=>?_) (fun k=>absurd rfl k);refine zc.give [] 4 [.agg (ze m)] [] (zJ m 3) (.own 0) hmip LEs.refl rfl rfl rfl trivial rfl ⟨⟨rfl,zD rfl⟩,⟨rfl,trivial⟩,⟨rfl,trivial⟩,⟨rfl,trivial⟩,trivial⟩ ?_;refine zc.t cm' ?_
    refine zc.give [6,7,8,9] 0 [.own 0,.sl ze (zP m 3)] (zJ m 3) (zJ m 3) _ (zen m (zP m 3)) LEs.refl rfl rfl rfl ⟨⟨_,rfl,rfl,ku rfl⟩,⟨_,rfl,rfl,trivial⟩,⟨_,rfl,rfl,trivial⟩,⟨_,rfl,rfl,trivial⟩,trivial⟩ rfl ⟨⟨rfl,zD rfl⟩,⟨rfl,trivial⟩,⟨rfl,trivial⟩,⟨rfl,trivial⟩,trivial⟩ ?_;refine Br.mk (fun _=>?_) (fun k=>absurd rfl k);refine zc.t kz ?_;refine Ob.mk (by kernel_rfl) ?_;exact .refl
  ·refine zc.give [] 5 [.agg (ze m)] [] (zJ m 4) (.own 0) hmip LEs.refl rfl rfl rfl trivial rfl ⟨⟨rfl,zD rfl⟩,⟨rfl,trivial⟩,⟨rfl,trivial⟩,⟨rfl,trivial⟩,⟨rfl,trivial⟩,trivial⟩ ?_;refine zc.t cm' ?_;refine zc.t (zV c.1 c.1) ?_;refine Br.mk (fun k=>absurd rfl k) (fun _=>?_);refine Br.mk (fun k=>absurd rfl k) (fun _=>?_)
   refine zc.give [6,7,8,9,10] 0 [.own 0,.sl ze (zP m 4)] (zJ m 4) (zJ m 4) _ (zeo m (zP m 4)) LEs.refl rfl rfl rfl ⟨⟨_,rfl,rfl,ku rfl⟩,⟨_,rfl,rfl,trivial⟩,⟨_,rfl,rfl,trivial⟩,⟨_,rfl,rfl,trivial⟩,⟨_,rfl,rfl,trivial⟩,trivial⟩ rfl ⟨⟨rfl,zD rfl⟩,⟨rfl,trivial⟩,⟨rfl,trivial⟩,⟨rfl,trivial⟩,⟨rfl,trivial⟩,trivial⟩ ?_;refine Br.mk (fun k=>absurd rfl k) (fun _=>?_);intro hl1
   refine ⟨Nat×(Nat->List Pix),fun z=>⟨[(73,i64 (z.1:Int)),(72,i64 (4:Nat)),(12,.own 0),(3,.loc 1 0),(7,.loc 2 0)],[(0,.garr 28 3 [[i64 (itI m 0).w,i64 (itI m 0).h,.own 3],[i64 (itI m 1).w,i64 (itI m 1).h,.own 4],[i64 (itI m 2).w,i64 (itI m 2).h,.own 5],[i64 (itI m 3).w,i64 (itI m 3).h,.own 6]]),(1,.box 28 (ze m)),(2,.box 28 (ze m)),(3,.arr 37 zb 4 (z.2 0)),(4,.arr 37 zb 4 (z.2 1)),(5,.arr 37 zb 4 (z.2 2)),(6,.arr 37 zb 4 (z.2 3))],7,108,0⟩,fun z=>z.1<=4,fun z=>4 - z.1,(0,fun j=>(itI m j).px),Nat.zero_le _,?_,?_⟩
   ·refine (kX 3 1 (enc:=zb) (ys:=m.px) (cs:=[i64 m.w,i64 m.h,.own 3]) (cs':=ze m) rfl rfl rfl (fun j s' hs'=>by
     match j,hs' with
     | 0,hs'=>cases hs';exact ⟨_,rfl,.inl rfl⟩
     | 1,hs'=>cases hs';exact ⟨_,rfl,.inl rfl⟩
     | 2,hs'=>cases hs';exact ⟨_,rfl,.inr ⟨rfl,rfl⟩⟩
     | j+3,hs'=>cases hs')).trans (zi [(0,some 6),(1,some 0),(2,some 1),(3,some 7),(4,some 8),(5,some 9),(6,some 10)] ⟨⟨_,rfl,rfl,fun i x hx=>?_⟩,rfl,rfl,rfl,rfl,rfl,rfl,trivial⟩)
    match i,hx with
    | 0,hx=>cases hx;exact ⟨_,rfl,rfl⟩
    | 1,hx=>cases hx;exact ⟨_,rfl,rfl⟩
    | 2,hx=>cases hx;exact ⟨_,rfl,rfl⟩
    | 3,hx=>cases hx;exact ⟨_,rfl,rfl⟩
    | i+4,hx=>cases hx
   rintro ⟨i,f⟩ hi
   have hi:i<=4:=hi;have hin:i=0∨i=1∨i=2∨i=3∨i=4:=oM
   rcases hin with rfl | rfl | rfl | rfl | rfl
   ·refine Br.mk (fun _=>?_) (fun k=>absurd (show ((0:Nat):Int) < ((4:Nat):Int) by decide) k);refine Ob.o8 ?_;refine Ob.o8 ?_;intro x hx;have hx:x=[i64 (itI m 0).w,i64 (itI m 0).h,.own 3]:=(Option.some.inj hx).symm;rw [hx];intro hl2;have hl2:(f 0).length<=281474976710656:=hl2
    refine ⟨Nat×List Pix,fun z=>⟨[(82,i64 (z.1:Int)),(81,i64 ((f 0).length:Int)),(14,i64 (0:Nat)),(73,i64 (0:Nat)),(72,i64 (4:Nat)),(12,.own 0),(3,.loc 1 0),(7,.loc 2 0)],[(0,.garr 28 3 [[i64 (itI m 0).w,i64 (itI m 0).h,.own 3],[i64 (itI m 1).w,i64 (itI m 1).h,.own 4],[i64 (itI m 2).w,i64 (itI m 2).h,.own 5],[i64 (itI m 3).w,i64 (itI m 3).h,.own 6]]),(1,.box 28 (ze m)),(2,.box 28 (ze m)),(3,.arr 37 zb 4 z.2),(4,.arr 37 zb 4 (f 1)),(5,.arr 37 zb 4 (f 2)),(6,.arr 37 zb 4 (f 3))],7,108,0⟩,fun z=>z.1<=(f 0).length/\z.2.length=(f 0).length,fun z=>(f 0).length - z.1,(0,f 0),⟨Nat.zero_le _,rfl⟩,?_,?_⟩
    ·refine zi [(0,some 0),(1,some 1),(2,some 2),(3,some 3),(4,some 4),(5,some 5),(6,some 6)] ⟨⟨_,rfl,rfl,fun i x hx=>?_⟩,rfl,rfl,rfl,rfl,rfl,rfl,trivial⟩
     match i,hx with
     | 0,hx=>cases hx;exact ⟨_,rfl,rfl⟩
     | 1,hx=>cases hx;exact ⟨_,rfl,rfl⟩
     | 2,hx=>cases hx;exact ⟨_,rfl,rfl⟩
     | 3,hx=>cases hx;exact ⟨_,rfl,rfl⟩
     | i+4,hx=>cases hx
    rintro ⟨k,q⟩ ⟨hk,hq⟩
    have hk:k<=(f 0).length:=hk;have hq:q.length=(f 0).length:=hq;refine Br.mk (fun g=>?_) (fun g=>?_)
    ·have g:(k:Int) < ((f 0).length:Int):=g;refine Ob.o8 ?_;refine Ob.o8 ?_;intro x hx;have hx:x=[i64 (itI m 0).w,i64 (itI m 0).h,.own 3]:=(Option.some.inj hx).symm;rw [hx];refine Ob.o ?_;refine Ob.o ?_;intro y _;refine ⟨c77,rfl,?_⟩;refine Ar.o ?_;refine ⟨(k+1,q.set k c77),⟨by show k+1<=_;omega,by show (q.set k c77).length=_;rw [List.length_set];exact hq⟩,zi [(0,some 0),(1,some 1),(2,some 2),(3,some 3),(4,some 4),(5,some 5),(6,some 6)] ⟨⟨_,rfl,rfl,fun i x hx=>?_⟩,rfl,rfl,rfl,rfl,rfl,rfl,trivial⟩,by dsimp only;omega⟩
     match i,hx with
     | 0,hx=>cases hx;exact ⟨_,rfl,rfl⟩
     | 1,hx=>cases hx;exact ⟨_,rfl,rfl⟩
     | 2,hx=>cases hx;exact ⟨_,rfl,rfl⟩
     | 3,hx=>cases hx;exact ⟨_,rfl,rfl⟩
     | i+4,hx=>cases hx
    ·refine Ar.fit (show -9223372036854775808<=((0:Nat):Int)+1/\((0:Nat):Int)+1<=9223372036854775807 by decide) ?_;refine ⟨(1,kO f 0 q),(show (1:Nat)<=4 by decide),zi [(0,some 0),(1,some 1),(2,some 2),(3,some 3),(4,some 4),(5,some 5),(6,some 6)] ⟨⟨_,rfl,rfl,fun i x hx=>?_⟩,rfl,rfl,rfl,rfl,rfl,rfl,trivial⟩,(show (4:Nat) - 1 < 4 - 0 by decide)⟩
     match i,hx with
     | 0,hx=>cases hx;exact ⟨_,rfl,rfl⟩
     | 1,hx=>cases hx;exact ⟨_,rfl,rfl⟩
     | 2,hx=>cases hx;exact ⟨_,rfl,rfl⟩
     | 3,hx=>cases hx;exact ⟨_,rfl,rfl⟩
     | i+4,hx=>cases hx
   ·refine Br.mk (fun _=>?_) (fun k=>absurd (show ((1:Nat):Int) < ((4:Nat):Int) by decide) k);refine Ob.o9 ?_;refine Ob.o9 ?_;intro x hx;have hx:x=[i64 (itI m 1).w,i64 (itI m 1).h,.own 4]:=(Option.some.inj hx).symm;rw [hx];intro hl2;have hl2:(f 1).length<=281474976710656:=hl2
    refine ⟨Nat×List Pix,fun z=>⟨[(82,i64 (z.1:Int)),(81,i64 ((f 1).length:Int)),(14,i64 (1:Nat)),(73,i64 (1:Nat)),(72,i64 (4:Nat)),(12,.own 0),(3,.loc 1 0),(7,.loc 2 0)],[(0,.garr 28 3 [[i64 (itI m 0).w,i64 (itI m 0).h,.own 3],[i64 (itI m 1).w,i64 (itI m 1).h,.own 4],[i64 (itI m 2).w,i64 (itI m 2).h,.own 5],[i64 (itI m 3).w,i64 (itI m 3).h,.own 6]]),(1,.box 28 (ze m)),(2,.box 28 (ze m)),(3,.arr 37 zb 4 (f 0)),(4,.arr 37 zb 4 z.2),(5,.arr 37 zb 4 (f 2)),(6,.arr 37 zb 4 (f 3))],7,108,0⟩,fun z=>z.1<=(f 1).length/\z.2.length=(f 1).length,fun z=>(f 1).length - z.1,(0,f 1),⟨Nat.zero_le _,rfl⟩,?_,?_⟩
    ·refine zi [(0,some 0),(1,some 1),(2,some 2),(3,some 3),(4,some 4),(5,some 5),(6,some 6)] ⟨⟨_,rfl,rfl,fun i x hx=>?_⟩,rfl,rfl,rfl,rfl,rfl,rfl,trivial⟩
     match i,hx with
     | 0,hx=>cases hx;exact ⟨_,rfl,rfl⟩
     | 1,hx=>cases hx;exact ⟨_,rfl,rfl⟩
     | 2,hx=>cases hx;exact ⟨_,rfl,rfl⟩
     | 3,hx=>cases hx;exact ⟨_,rfl,rfl⟩
     | i+4,hx=>cases hx
    rintro ⟨k,q⟩ ⟨hk,hq⟩
    have hk:k<=(f 1).length:=hk;have hq:q.length=(f 1).length:=hq;refine Br.mk (fun g=>?_) (fun g=>?_)
    ·have g:(k:Int) < ((f 1).length:Int):=g;refine Ob.o9 ?_;refine Ob.o9 ?_;intro x hx;have hx:x=[i64 (itI m 1).w,i64 (itI m 1).h,.own 4]:=(Option.some.inj hx).symm;rw [hx];refine Ob.o ?_;refine Ob.o ?_;intro y _;refine ⟨c77,rfl,?_⟩;refine Ar.o ?_;refine ⟨(k+1,q.set k c77),⟨by show k+1<=_;omega,by show (q.set k c77).length=_;rw [List.length_set];exact hq⟩,zi [(0,some 0),(1,some 1),(2,some 2),(3,some 3),(4,some 4),(5,some 5),(6,some 6)] ⟨⟨_,rfl,rfl,fun i x hx=>?_⟩,rfl,rfl,rfl,rfl,rfl,rfl,trivial⟩,by dsimp only;omega⟩
     match i,hx with
     | 0,hx=>cases hx;exact ⟨_,rfl,rfl⟩
     | 1,hx=>cases hx;exact ⟨_,rfl,rfl⟩
     | 2,hx=>cases hx;exact ⟨_,rfl,rfl⟩
     | 3,hx=>cases hx;exact ⟨_,rfl,rfl⟩
     | i+4,hx=>cases hx
    ·refine Ar.fit (show -9223372036854775808<=((1:Nat):Int)+1/\((1:Nat):Int)+1<=9223372036854775807 by decide) ?_;refine ⟨(2,kO f 1 q),(show (2:Nat)<=4 by decide),zi [(0,some 0),(1,some 1),(2,some 2),(3,some 3),(4,some 4),(5,some 5),(6,some 6)] ⟨⟨_,rfl,rfl,fun i x hx=>?_⟩,rfl,rfl,rfl,rfl,rfl,rfl,trivial⟩,(show (4:Nat) - 2 < 4 - 1 by decide)⟩
     match i,hx with
     | 0,hx=>cases hx;exact ⟨_,rfl,rfl⟩
     | 1,hx=>cases hx;exact ⟨_,rfl,rfl⟩
     | 2,hx=>cases hx;exact ⟨_,rfl,rfl⟩
     | 3,hx=>cases hx;exact ⟨_,rfl,rfl⟩
     | i+4,hx=>cases hx
   ·refine Br.mk (fun _=>?_) (fun k=>absurd (show ((2:Nat):Int) < ((4:Nat):Int) by decide) k);refine Ob.o10 ?_;refine Ob.o10 ?_;intro x hx;have hx:x=[i64 (itI m 2).w,i64 (itI m 2).h,.own 5]:=(Option.some.inj hx).symm;rw [hx];intro hl2;have hl2:(f 2).length<=281474976710656:=hl2
    refine ⟨Nat×List Pix,fun z=>⟨[(82,i64 (z.1:Int)),(81,i64 ((f 2).length:Int)),(14,i64 (2:Nat)),(73,i64 (2:Nat)),(72,i64 (4:Nat)),(12,.own 0),(3,.loc 1 0),(7,.loc 2 0)],[(0,.garr 28 3 [[i64 (itI m 0).w,i64 (itI m 0).h,.own 3],[i64 (itI m 1).w,i64 (itI m 1).h,.own 4],[i64 (itI m 2).w,i64 (itI m 2).h,.own 5],[i64 (itI m 3).w,i64 (itI m 3).h,.own 6]]),(1,.box 28 (ze m)),(2,.box 28 (ze m)),(3,.arr 37 zb 4 (f 0)),(4,.arr 37 zb 4 (f 1)),(5,.arr 37 zb 4 z.2),(6,.arr 37 zb 4 (f 3))],7,108,0⟩,fun z=>z.1<=(f 2).length/\z.2.length=(f 2).length,fun z=>(f 2).length - z.1,(0,f 2),⟨Nat.zero_le _,rfl⟩,?_,?_⟩
    ·refine zi [(0,some 0),(1,some 1),(2,some 2),(3,some 3),(4,some 4),(5,some 5),(6,some 6)] ⟨⟨_,rfl,rfl,fun i x hx=>?_⟩,rfl,rfl,rfl,rfl,rfl,rfl,trivial⟩
     match i,hx with
     | 0,hx=>cases hx;exact ⟨_,rfl,rfl⟩
     | 1,hx=>cases hx;exact ⟨_,rfl,rfl⟩
     | 2,hx=>cases hx;exact ⟨_,rfl,rfl⟩
     | 3,hx=>cases hx;exact ⟨_,rfl,rfl⟩
     | i+4,hx=>cases hx
    rintro ⟨k,q⟩ ⟨hk,hq⟩
    have hk:k<=(f 2).length:=hk;have hq:q.length=(f 2).length:=hq;refine Br.mk (fun g=>?_) (fun g=>?_)
    ·have g:(k:Int) < ((f 2).length:Int):=g;refine Ob.o10 ?_;refine Ob.o10 ?_;intro x hx;have hx:x=[i64 (itI m 2).w,i64 (itI m 2).h,.own 5]:=(Option.some.inj hx).symm;rw [hx];refine Ob.o ?_;refine Ob.o ?_;intro y _;refine ⟨c77,rfl,?_⟩;refine Ar.o ?_;refine ⟨(k+1,q.set k c77),⟨by show k+1<=_;omega,by show (q.set k c77).length=_;rw [List.length_set];exact hq⟩,zi [(0,some 0),(1,some 1),(2,some 2),(3,some 3),(4,some 4),(5,some 5),(6,some 6)] ⟨⟨_,rfl,rfl,fun i x hx=>?_⟩,rfl,rfl,rfl,rfl,rfl,rfl,trivial⟩,by dsimp only;omega⟩
     match i,hx with
     | 0,hx=>cases hx;exact ⟨_,rfl,rfl⟩
     | 1,hx=>cases hx;exact ⟨_,rfl,rfl⟩
     | 2,hx=>cases hx;exact ⟨_,rfl,rfl⟩
     | 3,hx=>cases hx;exact ⟨_,rfl,rfl⟩
     | i+4,hx=>cases hx
    ·refine Ar.fit (show -9223372036854775808<=((2:Nat):Int)+1/\((2:Nat):Int)+1<=9223372036854775807 by decide) ?_;refine ⟨(3,kO f 2 q),(show (3:Nat)<=4 by decide),zi [(0,some 0),(1,some 1),(2,some 2),(3,some 3),(4,some 4),(5,some 5),(6,some 6)] ⟨⟨_,rfl,rfl,fun i x hx=>?_⟩,rfl,rfl,rfl,rfl,rfl,rfl,trivial⟩,(show (4:Nat) - 3 < 4 - 2 by decide)⟩
     match i,hx with
     | 0,hx=>cases hx;exact ⟨_,rfl,rfl⟩
     | 1,hx=>cases hx;exact ⟨_,rfl,rfl⟩
     | 2,hx=>cases hx;exact ⟨_,rfl,rfl⟩
     | 3,hx=>cases hx;exact ⟨_,rfl,rfl⟩
     | i+4,hx=>cases hx
   ·refine Br.mk (fun _=>?_) (fun k=>absurd (show ((3:Nat):Int) < ((4:Nat):Int) by decide) k);refine Ob.o11 ?_;refine Ob.o11 ?_;intro x hx;have hx:x=[i64 (itI m 3).w,i64 (itI m 3).h,.own 6]:=(Option.some.inj hx).symm;rw [hx];intro hl2;have hl2:(f 3).length<=281474976710656:=hl2
    refine ⟨Nat×List Pix,fun z=>⟨[(82,i64 (z.1:Int)),(81,i64 ((f 3).length:Int)),(14,i64 (3:Nat)),(73,i64 (3:Nat)),(72,i64 (4:Nat)),(12,.own 0),(3,.loc 1 0),(7,.loc 2 0)],[(0,.garr 28 3 [[i64 (itI m 0).w,i64 (itI m 0).h,.own 3],[i64 (itI m 1).w,i64 (itI m 1).h,.own 4],[i64 (itI m 2).w,i64 (itI m 2).h,.own 5],[i64 (itI m 3).w,i64 (itI m 3).h,.own 6]]),(1,.box 28 (ze m)),(2,.box 28 (ze m)),(3,.arr 37 zb 4 (f 0)),(4,.arr 37 zb 4 (f 1)),(5,.arr 37 zb 4 (f 2)),(6,.arr 37 zb 4 z.2)],7,108,0⟩,fun z=>z.1<=(f 3).length/\z.2.length=(f 3).length,fun z=>(f 3).length - z.1,(0,f 3),⟨Nat.zero_le _,rfl⟩,?_,?_⟩
    ·refine zi [(0,some 0),(1,some 1),(2,some 2),(3,some 3),(4,some 4),(5,some 5),(6,some 6)] ⟨⟨_,rfl,rfl,fun i x hx=>?_⟩,rfl,rfl,rfl,rfl,rfl,rfl,trivial⟩
     match i,hx with
     | 0,hx=>cases hx;exact ⟨_,rfl,rfl⟩
     | 1,hx=>cases hx;exact ⟨_,rfl,rfl⟩
     | 2,hx=>cases hx;exact ⟨_,rfl,rfl⟩
     | 3,hx=>cases hx;exact ⟨_,rfl,rfl⟩
     | i+4,hx=>cases hx
    rintro ⟨k,q⟩ ⟨hk,hq⟩
    have hk:k<=(f 3).length:=hk;have hq:q.length=(f 3).length:=hq;refine Br.mk (fun g=>?_) (fun g=>?_)
    ·have g:(k:Int) < ((f 3).length:Int):=g;refine Ob.o11 ?_;refine Ob.o11 ?_;intro x hx;have hx:x=[i64 (itI m 3).w,i64 (itI m 3).h,.own 6]:=(Option.some.inj hx).symm;rw [hx];refine Ob.o ?_;refine Ob.o ?_;intro y _;refine ⟨c77,rfl,?_⟩;refine Ar.o ?_;refine ⟨(k+1,q.set k c77),⟨by show k+1<=_;omega,by show (q.set k c77).length=_;rw [List.length_set];exact hq⟩,zi [(0,some 0),(1,some 1),(2,some 2),(3,some 3),(4,some 4),(5,some 5),(6,some 6)] ⟨⟨_,rfl,rfl,fun i x hx=>?_⟩,rfl,rfl,rfl,rfl,rfl,rfl,trivial⟩,by dsimp only;omega⟩
     match i,hx with
     | 0,hx=>cases hx;exact ⟨_,rfl,rfl⟩
     | 1,hx=>cases hx;exact ⟨_,rfl,rfl⟩
     | 2,hx=>cases hx;exact ⟨_,rfl,rfl⟩
     | 3,hx=>cases hx;exact ⟨_,rfl,rfl⟩
     | i+4,hx=>cases hx
    ·refine Ar.fit (show -9223372036854775808<=((3:Nat):Int)+1/\((3:Nat):Int)+1<=9223372036854775807 by decide) ?_;refine ⟨(4,kO f 3 q),(show (4:Nat)<=4 by decide),zi [(0,some 0),(1,some 1),(2,some 2),(3,some 3),(4,some 4),(5,some 5),(6,some 6)] ⟨⟨_,rfl,rfl,fun i x hx=>?_⟩,rfl,rfl,rfl,rfl,rfl,rfl,trivial⟩,(show (4:Nat) - 4 < 4 - 3 by decide)⟩
     match i,hx with
     | 0,hx=>cases hx;exact ⟨_,rfl,rfl⟩
     | 1,hx=>cases hx;exact ⟨_,rfl,rfl⟩
     | 2,hx=>cases hx;exact ⟨_,rfl,rfl⟩
     | 3,hx=>cases hx;exact ⟨_,rfl,rfl⟩
     | i+4,hx=>cases hx
   ·refine Br.mk (fun k=>absurd k (show ¬((4:Nat):Int) < ((4:Nat):Int) by decide)) (fun _=>?_);refine Dr.d ?_;refine zc.t (zV m m) ?_;refine Br.mk (fun _=>?_) (fun k=>absurd rfl k);refine zc.give [] 5 [.agg (ze m)] [] (zJ m 4) (.own 0) hmip LEs.refl rfl rfl rfl trivial rfl ⟨⟨rfl,zD rfl⟩,⟨rfl,trivial⟩,⟨rfl,trivial⟩,⟨rfl,trivial⟩,⟨rfl,trivial⟩,trivial⟩ ?_;refine zc.t cm' ?_
    refine zc.give [7,8,9,10,11] 0 [.own 0,.sl ze (zP m 4)] (zJ m 4) (zJ m 4) _ (zeo m (zP m 4)) LEs.refl rfl rfl rfl ⟨⟨_,rfl,rfl,ku rfl⟩,⟨_,rfl,rfl,trivial⟩,⟨_,rfl,rfl,trivial⟩,⟨_,rfl,rfl,trivial⟩,⟨_,rfl,rfl,trivial⟩,trivial⟩ rfl ⟨⟨rfl,zD rfl⟩,⟨rfl,trivial⟩,⟨rfl,trivial⟩,⟨rfl,trivial⟩,⟨rfl,trivial⟩,trivial⟩ ?_;refine Br.mk (fun _=>?_) (fun k=>absurd rfl k);refine zc.t kz ?_;refine Ob.mk (by kernel_rfl) ?_;exact .refl
  ·refine zc.give [] 6 [.agg (ze m)] [] (zJ m 5) (.own 0) hmip LEs.refl rfl rfl rfl trivial rfl ⟨⟨rfl,zD rfl⟩,⟨rfl,trivial⟩,⟨rfl,trivial⟩,⟨rfl,trivial⟩,⟨rfl,trivial⟩,⟨rfl,trivial⟩,trivial⟩ ?_;refine zc.t cm' ?_;refine zc.t (zV c.1 c.1) ?_;refine Br.mk (fun k=>absurd rfl k) (fun _=>?_);refine Br.mk (fun k=>absurd rfl k) (fun _=>?_)
   refine zc.give [6,7,8,9,10,11] 0 [.own 0,.sl ze (zP m 5)] (zJ m 5) (zJ m 5) _ (zep m (zP m 5)) LEs.refl rfl rfl rfl ⟨⟨_,rfl,rfl,ku rfl⟩,⟨_,rfl,rfl,trivial⟩,⟨_,rfl,rfl,trivial⟩,⟨_,rfl,rfl,trivial⟩,⟨_,rfl,rfl,trivial⟩,⟨_,rfl,rfl,trivial⟩,trivial⟩ rfl ⟨⟨rfl,zD rfl⟩,⟨rfl,trivial⟩,⟨rfl,trivial⟩,⟨rfl,trivial⟩,⟨rfl,trivial⟩,⟨rfl,trivial⟩,trivial⟩ ?_;refine Br.mk (fun k=>absurd rfl k) (fun _=>?_);intro hl1
   refine ⟨Nat×(Nat->List Pix),fun z=>⟨[(73,i64 (z.1:Int)),(72,i64 (5:Nat)),(12,.own 0),(3,.loc 1 0),(7,.loc 2 0)],[(0,.garr 28 3 [[i64 (itI m 0).w,i64 (itI m 0).h,.own 3],[i64 (itI m 1).w,i64 (itI m 1).h,.own 4],[i64 (itI m 2).w,i64 (itI m 2).h,.own 5],[i64 (itI m 3).w,i64 (itI m 3).h,.own 6],[i64 (itI m 4).w,i64 (itI m 4).h,.own 7]]),(1,.box 28 (ze m)),(2,.box 28 (ze m)),(3,.arr 37 zb 4 (z.2 0)),(4,.arr 37 zb 4 (z.2 1)),(5,.arr 37 zb 4 (z.2 2)),(6,.arr 37 zb 4 (z.2 3)),(7,.arr 37 zb 4 (z.2 4))],8,108,0⟩,fun z=>z.1<=5,fun z=>5 - z.1,(0,fun j=>(itI m j).px),Nat.zero_le _,?_,?_⟩
   ·refine (kX 3 1 (enc:=zb) (ys:=m.px) (cs:=[i64 m.w,i64 m.h,.own 3]) (cs':=ze m) rfl rfl rfl (fun j s' hs'=>by
     match j,hs' with
     | 0,hs'=>cases hs';exact ⟨_,rfl,.inl rfl⟩
     | 1,hs'=>cases hs';exact ⟨_,rfl,.inl rfl⟩
     | 2,hs'=>cases hs';exact ⟨_,rfl,.inr ⟨rfl,rfl⟩⟩
     | j+3,hs'=>cases hs')).trans (zi [(0,some 6),(1,some 0),(2,some 1),(3,some 7),(4,some 8),(5,some 9),(6,some 10),(7,some 11)] ⟨⟨_,rfl,rfl,fun i x hx=>?_⟩,rfl,rfl,rfl,rfl,rfl,rfl,rfl,trivial⟩)
    match i,hx with
    | 0,hx=>cases hx;exact ⟨_,rfl,rfl⟩
    | 1,hx=>cases hx;exact ⟨_,rfl,rfl⟩
    | 2,hx=>cases hx;exact ⟨_,rfl,rfl⟩
    | 3,hx=>cases hx;exact ⟨_,rfl,rfl⟩
    | 4,hx=>cases hx;exact ⟨_,rfl,rfl⟩
    | i+5,hx=>cases hx
   rintro ⟨i,f⟩ hi
   have hi:i<=5:=hi;have hin:i=0∨i=1∨i=2∨i=3∨i=4∨i=5:=oM
   rcases hin with rfl | rfl | rfl | rfl | rfl | rfl
   ·refine Br.mk (fun _=>?_) (fun k=>absurd (show ((0:Nat):Int) < ((5:Nat):Int) by decide) k);refine Ob.o12 ?_;refine Ob.o12 ?_;intro x hx;have hx:x=[i64 (itI m 0).w,i64 (itI m 0).h,.own 3]:=(Option.some.inj hx).symm;rw [hx];intro hl2;have hl2:(f 0).length<=281474976710656:=hl2
    refine ⟨Nat×List Pix,fun z=>⟨[(82,i64 (z.1:Int)),(81,i64 ((f 0).length:Int)),(14,i64 (0:Nat)),(73,i64 (0:Nat)),(72,i64 (5:Nat)),(12,.own 0),(3,.loc 1 0),(7,.loc 2 0)],[(0,.garr 28 3 [[i64 (itI m 0).w,i64 (itI m 0).h,.own 3],[i64 (itI m 1).w,i64 (itI m 1).h,.own 4],[i64 (itI m 2).w,i64 (itI m 2).h,.own 5],[i64 (itI m 3).w,i64 (itI m 3).h,.own 6],[i64 (itI m 4).w,i64 (itI m 4).h,.own 7]]),(1,.box 28 (ze m)),(2,.box 28 (ze m)),(3,.arr 37 zb 4 z.2),(4,.arr 37 zb 4 (f 1)),(5,.arr 37 zb 4 (f 2)),(6,.arr 37 zb 4 (f 3)),(7,.arr 37 zb 4 (f 4))],8,108,0⟩,fun z=>z.1<=(f 0).length/\z.2.length=(f 0).length,fun z=>(f 0).length - z.1,(0,f 0),⟨Nat.zero_le _,rfl⟩,?_,?_⟩
    ·refine zi [(0,some 0),(1,some 1),(2,some 2),(3,some 3),(4,some 4),(5,some 5),(6,some 6),(7,some 7)] ⟨⟨_,rfl,rfl,fun i x hx=>?_⟩,rfl,rfl,rfl,rfl,rfl,rfl,rfl,trivial⟩
     match i,hx with
     | 0,hx=>cases hx;exact ⟨_,rfl,rfl⟩
     | 1,hx=>cases hx;exact ⟨_,rfl,rfl⟩
     | 2,hx=>cases hx;exact ⟨_,rfl,rfl⟩
     | 3,hx=>cases hx;exact ⟨_,rfl,rfl⟩
     | 4,hx=>cases hx;exact ⟨_,rfl,rfl⟩
     | i+5,hx=>cases hx
    rintro ⟨k,q⟩ ⟨hk,hq⟩
    have hk:k<=(f 0).length:=hk;have hq:q.length=(f 0).length:=hq;refine Br.mk (fun g=>?_) (fun g=>?_)
    ·have g:(k:Int) < ((f 0).length:Int):=g;refine Ob.o12 ?_;refine Ob.o12 ?_;intro x hx;have hx:x=[i64 (itI m 0).w,i64 (itI m 0).h,.own 3]:=(Option.some.inj hx).symm;rw [hx];refine Ob.o ?_;refine Ob.o ?_;intro y _;refine ⟨c77,rfl,?_⟩;refine Ar.o ?_
     refine ⟨(k+1,q.set k c77),⟨by show k+1<=_;omega,by show (q.set k c77).length=_;rw [List.length_set];exact hq⟩,zi [(0,some 0),(1,some 1),(2,some 2),(3,some 3),(4,some 4),(5,some 5),(6,some 6),(7,some 7)] ⟨⟨_,rfl,rfl,fun i x hx=>?_⟩,rfl,rfl,rfl,rfl,rfl,rfl,rfl,trivial⟩,by dsimp only;omega⟩
     match i,hx with
     | 0,hx=>cases hx;exact ⟨_,rfl,rfl⟩
     | 1,hx=>cases hx;exact ⟨_,rfl,rfl⟩
     | 2,hx=>cases hx;exact ⟨_,rfl,rfl⟩
     | 3,hx=>cases hx;exact ⟨_,rfl,rfl⟩
     | 4,hx=>cases hx;exact ⟨_,rfl,rfl⟩
     | i+5,hx=>cases hx
    ·refine Ar.fit (show -9223372036854775808<=((0:Nat):Int)+1/\((0:Nat):Int)+1<=9223372036854775807 by decide) ?_;refine ⟨(1,kO f 0 q),(show (1:Nat)<=5 by decide),zi [(0,some 0),(1,some 1),(2,some 2),(3,some 3),(4,some 4),(5,some 5),(6,some 6),(7,some 7)] ⟨⟨_,rfl,rfl,fun i x hx=>?_⟩,rfl,rfl,rfl,rfl,rfl,rfl,rfl,trivial⟩,(show (5:Nat) - 1 < 5 - 0 by decide)⟩
     match i,hx with
     | 0,hx=>cases hx;exact ⟨_,rfl,rfl⟩
     | 1,hx=>cases hx;exact ⟨_,rfl,rfl⟩
     | 2,hx=>cases hx;exact ⟨_,rfl,rfl⟩
     | 3,hx=>cases hx;exact ⟨_,rfl,rfl⟩
     | 4,hx=>cases hx;exact ⟨_,rfl,rfl⟩
     | i+5,hx=>cases hx
   ·refine Br.mk (fun _=>?_) (fun k=>absurd (show ((1:Nat):Int) < ((5:Nat):Int) by decide) k);refine Ob.o13 ?_;refine Ob.o13 ?_;intro x hx;have hx:x=[i64 (itI m 1).w,i64 (itI m 1).h,.own 4]:=(Option.some.inj hx).symm;rw [hx];intro hl2;have hl2:(f 1).length<=281474976710656:=hl2
    refine ⟨Nat×List Pix,fun z=>⟨[(82,i64 (z.1:Int)),(81,i64 ((f 1).length:Int)),(14,i64 (1:Nat)),(73,i64 (1:Nat)),(72,i64 (5:Nat)),(12,.own 0),(3,.loc 1 0),(7,.loc 2 0)],[(0,.garr 28 3 [[i64 (itI m 0).w,i64 (itI m 0).h,.own 3],[i64 (itI m 1).w,i64 (itI m 1).h,.own 4],[i64 (itI m 2).w,i64 (itI m 2).h,.own 5],[i64 (itI m 3).w,i64 (itI m 3).h,.own 6],[i64 (itI m 4).w,i64 (itI m 4).h,.own 7]]),(1,.box 28 (ze m)),(2,.box 28 (ze m)),(3,.arr 37 zb 4 (f 0)),(4,.arr 37 zb 4 z.2),(5,.arr 37 zb 4 (f 2)),(6,.arr 37 zb 4 (f 3)),(7,.arr 37 zb 4 (f 4))],8,108,0⟩,fun z=>z.1<=(f 1).length/\z.2.length=(f 1).length,fun z=>(f 1).length - z.1,(0,f 1),⟨Nat.zero_le _,rfl⟩,?_,?_⟩
    ·refine zi [(0,some 0),(1,some 1),(2,some 2),(3,some 3),(4,some 4),(5,some 5),(6,some 6),(7,some 7)] ⟨⟨_,rfl,rfl,fun i x hx=>?_⟩,rfl,rfl,rfl,rfl,rfl,rfl,rfl,trivial⟩
     match i,hx with
     | 0,hx=>cases hx;exact ⟨_,rfl,rfl⟩
     | 1,hx=>cases hx;exact ⟨_,rfl,rfl⟩
     | 2,hx=>cases hx;exact ⟨_,rfl,rfl⟩
     | 3,hx=>cases hx;exact ⟨_,rfl,rfl⟩
     | 4,hx=>cases hx;exact ⟨_,rfl,rfl⟩
     | i+5,hx=>cases hx
    rintro ⟨k,q⟩ ⟨hk,hq⟩
    have hk:k<=(f 1).length:=hk;have hq:q.length=(f 1).length:=hq;refine Br.mk (fun g=>?_) (fun g=>?_)
    ·have g:(k:Int) < ((f 1).length:Int):=g;refine Ob.o13 ?_;refine Ob.o13 ?_;intro x hx;have hx:x=[i64 (itI m 1).w,i64 (itI m 1).h,.own 4]:=(Option.some.inj hx).symm;rw [hx];refine Ob.o ?_;refine Ob.o ?_;intro y _;refine ⟨c77,rfl,?_⟩;refine Ar.o ?_
     refine ⟨(k+1,q.set k c77),⟨by show k+1<=_;omega,by show (q.set k c77).length=_;rw [List.length_set];exact hq⟩,zi [(0,some 0),(1,some 1),(2,some 2),(3,some 3),(4,some 4),(5,some 5),(6,some 6),(7,some 7)] ⟨⟨_,rfl,rfl,fun i x hx=>?_⟩,rfl,rfl,rfl,rfl,rfl,rfl,rfl,trivial⟩,by dsimp only;omega⟩
     match i,hx with
     | 0,hx=>cases hx;exact ⟨_,rfl,rfl⟩
     | 1,hx=>cases hx;exact ⟨_,rfl,rfl⟩
     | 2,hx=>cases hx;exact ⟨_,rfl,rfl⟩
     | 3,hx=>cases hx;exact ⟨_,rfl,rfl⟩
     | 4,hx=>cases hx;exact ⟨_,rfl,rfl⟩
     | i+5,hx=>cases hx
    ·refine Ar.fit (show -9223372036854775808<=((1:Nat):Int)+1/\((1:Nat):Int)+1<=9223372036854775807 by decide) ?_;refine ⟨(2,kO f 1 q),(show (2:Nat)<=5 by decide),zi [(0,some 0),(1,some 1),(2,some 2),(3,some 3),(4,some 4),(5,some 5),(6,some 6),(7,some 7)] ⟨⟨_,rfl,rfl,fun i x hx=>?_⟩,rfl,rfl,rfl,rfl,rfl,rfl,rfl,trivial⟩,(show (5:Nat) - 2 < 5 - 1 by decide)⟩
     match i,hx with
     | 0,hx=>cases hx;exact ⟨_,rfl,rfl⟩
     | 1,hx=>cases hx;exact ⟨_,rfl,rfl⟩
     | 2,hx=>cases hx;exact ⟨_,rfl,rfl⟩
     | 3,hx=>cases hx;exact ⟨_,rfl,rfl⟩
     | 4,hx=>cases hx;exact ⟨_,rfl,rfl⟩
     | i+5,hx=>cases hx
   ·refine Br.mk (fun _=>?_) (fun k=>absurd (show ((2:Nat):Int) < ((5:Nat):Int) by decide) k);refine Ob.o14 ?_;refine Ob.o14 ?_;intro x hx;have hx:x=[i64 (itI m 2).w,i64 (itI m 2).h,.own 5]:=(Option.some.inj hx).symm;rw [hx];intro hl2;have hl2:(f 2).length<=281474976710656:=hl2
    refine ⟨Nat×List Pix,fun z=>⟨[(82,i64 (z.1:Int)),(81,i64 ((f 2).length:Int)),(14,i64 (2:Nat)),(73,i64 (2:Nat)),(72,i64 (5:Nat)),(12,.own 0),(3,.loc 1 0),(7,.loc 2 0)],[(0,.garr 28 3 [[i64 (itI m 0).w,i64 (itI m 0).h,.own 3],[i64 (itI m 1).w,i64 (itI m 1).h,.own 4],[i64 (itI m 2).w,i64 (itI m 2).h,.own 5],[i64 (itI m 3).w,i64 (itI m 3).h,.own 6],[i64 (itI m 4).w,i64 (itI m 4).h,.own 7]]),(1,.box 28 (ze m)),(2,.box 28 (ze m)),(3,.arr 37 zb 4 (f 0)),(4,.arr 37 zb 4 (f 1)),(5,.arr 37 zb 4 z.2),(6,.arr 37 zb 4 (f 3)),(7,.arr 37 zb 4 (f 4))],8,108,0⟩,fun z=>z.1<=(f 2).length/\z.2.length=(f 2).length,fun z=>(f 2).length - z.1,(0,f 2),⟨Nat.zero_le _,rfl⟩,?_,?_⟩
    ·refine zi [(0,some 0),(1,some 1),(2,some 2),(3,some 3),(4,some 4),(5,some 5),(6,some 6),(7,some 7)] ⟨⟨_,rfl,rfl,fun i x hx=>?_⟩,rfl,rfl,rfl,rfl,rfl,rfl,rfl,trivial⟩
     match i,hx with
     | 0,hx=>cases hx;exact ⟨_,rfl,rfl⟩
     | 1,hx=>cases hx;exact ⟨_,rfl,rfl⟩
     | 2,hx=>cases hx;exact ⟨_,rfl,rfl⟩
     | 3,hx=>cases hx;exact ⟨_,rfl,rfl⟩
     | 4,hx=>cases hx;exact ⟨_,rfl,rfl⟩
     | i+5,hx=>cases hx
    rintro ⟨k,q⟩ ⟨hk,hq⟩
    have hk:k<=(f 2).length:=hk;have hq:q.length=(f 2).length:=hq;refine Br.mk (fun g=>?_) (fun g=>?_)
    ·have g:(k:Int) < ((f 2).length:Int):=g;refine Ob.o14 ?_;refine Ob.o14 ?_;intro x hx;have hx:x=[i64 (itI m 2).w,i64 (itI m 2).h,.own 5]:=(Option.some.inj hx).symm;rw [hx];refine Ob.o ?_;refine Ob.o ?_;intro y _;refine ⟨c77,rfl,?_⟩;refine Ar.o ?_
     refine ⟨(k+1,q.set k c77),⟨by show k+1<=_;omega,by show (q.set k c77).length=_;rw [List.length_set];exact hq⟩,zi [(0,some 0),(1,some 1),(2,some 2),(3,some 3),(4,some 4),(5,some 5),(6,some 6),(7,some 7)] ⟨⟨_,rfl,rfl,fun i x hx=>?_⟩,rfl,rfl,rfl,rfl,rfl,rfl,rfl,trivial⟩,by dsimp only;omega⟩
     match i,hx with
     | 0,hx=>cases hx;exact ⟨_,rfl,rfl⟩
     | 1,hx=>cases hx;exact ⟨_,rfl,rfl⟩
     | 2,hx=>cases hx;exact ⟨_,rfl,rfl⟩
     | 3,hx=>cases hx;exact ⟨_,rfl,rfl⟩
     | 4,hx=>cases hx;exact ⟨_,rfl,rfl⟩
     | i+5,hx=>cases hx
    ·refine Ar.fit (show -9223372036854775808<=((2:Nat):Int)+1/\((2:Nat):Int)+1<=9223372036854775807 by decide) ?_;refine ⟨(3,kO f 2 q),(show (3:Nat)<=5 by decide),zi [(0,some 0),(1,some 1),(2,some 2),(3,some 3),(4,some 4),(5,some 5),(6,some 6),(7,some 7)] ⟨⟨_,rfl,rfl,fun i x hx=>?_⟩,rfl,rfl,rfl,rfl,rfl,rfl,rfl,trivial⟩,(show (5:Nat) - 3 < 5 - 2 by decide)⟩
     match i,hx with
     | 0,hx=>cases hx;exact ⟨_,rfl,rfl⟩
     | 1,hx=>cases hx;exact ⟨_,rfl,rfl⟩
     | 2,hx=>cases hx;exact ⟨_,rfl,rfl⟩
     | 3,hx=>cases hx;exact ⟨_,rfl,rfl⟩
     | 4,hx=>cases hx;exact ⟨_,rfl,rfl⟩
     | i+5,hx=>cases hx
   ·refine Br.mk (fun _=>?_) (fun k=>absurd (show ((3:Nat):Int) < ((5:Nat):Int) by decide) k);refine Ob.o15 ?_;refine Ob.o15 ?_;intro x hx;have hx:x=[i64 (itI m 3).w,i64 (itI m 3).h,.own 6]:=(Option.some.inj hx).symm;rw [hx];intro hl2;have hl2:(f 3).length<=281474976710656:=hl2
    refine ⟨Nat×List Pix,fun z=>⟨[(82,i64 (z.1:Int)),(81,i64 ((f 3).length:Int)),(14,i64 (3:Nat)),(73,i64 (3:Nat)),(72,i64 (5:Nat)),(12,.own 0),(3,.loc 1 0),(7,.loc 2 0)],[(0,.garr 28 3 [[i64 (itI m 0).w,i64 (itI m 0).h,.own 3],[i64 (itI m 1).w,i64 (itI m 1).h,.own 4],[i64 (itI m 2).w,i64 (itI m 2).h,.own 5],[i64 (itI m 3).w,i64 (itI m 3).h,.own 6],[i64 (itI m 4).w,i64 (itI m 4).h,.own 7]]),(1,.box 28 (ze m)),(2,.box 28 (ze m)),(3,.arr 37 zb 4 (f 0)),(4,.arr 37 zb 4 (f 1)),(5,.arr 37 zb 4 (f 2)),(6,.arr 37 zb 4 z.2),(7,.arr 37 zb 4 (f 4))],8,108,0⟩,fun z=>z.1<=(f 3).length/\z.2.length=(f 3).length,fun z=>(f 3).length - z.1,(0,f 3),⟨Nat.zero_le _,rfl⟩,?_,?_⟩
    ·refine zi [(0,some 0),(1,some 1),(2,some 2),(3,some 3),(4,some 4),(5,some 5),(6,some 6),(7,some 7)] ⟨⟨_,rfl,rfl,fun i x hx=>?_⟩,rfl,rfl,rfl,rfl,rfl,rfl,rfl,trivial⟩
     match i,hx with
     | 0,hx=>cases hx;exact ⟨_,rfl,rfl⟩
     | 1,hx=>cases hx;exact ⟨_,rfl,rfl⟩
     | 2,hx=>cases hx;exact ⟨_,rfl,rfl⟩
     | 3,hx=>cases hx;exact ⟨_,rfl,rfl⟩
     | 4,hx=>cases hx;exact ⟨_,rfl,rfl⟩
     | i+5,hx=>cases hx
    rintro ⟨k,q⟩ ⟨hk,hq⟩
    have hk:k<=(f 3).length:=hk;have hq:q.length=(f 3).length:=hq;refine Br.mk (fun g=>?_) (fun g=>?_)
    ·have g:(k:Int) < ((f 3).length:Int):=g;refine Ob.o15 ?_;refine Ob.o15 ?_;intro x hx;have hx:x=[i64 (itI m 3).w,i64 (itI m 3).h,.own 6]:=(Option.some.inj hx).symm;rw [hx];refine Ob.o ?_;refine Ob.o ?_;intro y _;refine ⟨c77,rfl,?_⟩;refine Ar.o ?_
     refine ⟨(k+1,q.set k c77),⟨by show k+1<=_;omega,by show (q.set k c77).length=_;rw [List.length_set];exact hq⟩,zi [(0,some 0),(1,some 1),(2,some 2),(3,some 3),(4,some 4),(5,some 5),(6,some 6),(7,some 7)] ⟨⟨_,rfl,rfl,fun i x hx=>?_⟩,rfl,rfl,rfl,rfl,rfl,rfl,rfl,trivial⟩,by dsimp only;omega⟩
     match i,hx with
     | 0,hx=>cases hx;exact ⟨_,rfl,rfl⟩
     | 1,hx=>cases hx;exact ⟨_,rfl,rfl⟩
     | 2,hx=>cases hx;exact ⟨_,rfl,rfl⟩
     | 3,hx=>cases hx;exact ⟨_,rfl,rfl⟩
     | 4,hx=>cases hx;exact ⟨_,rfl,rfl⟩
     | i+5,hx=>cases hx
    ·refine Ar.fit (show -9223372036854775808<=((3:Nat):Int)+1/\((3:Nat):Int)+1<=9223372036854775807 by decide) ?_;refine ⟨(4,kO f 3 q),(show (4:Nat)<=5 by decide),zi [(0,some 0),(1,some 1),(2,some 2),(3,some 3),(4,some 4),(5,some 5),(6,some 6),(7,some 7)] ⟨⟨_,rfl,rfl,fun i x hx=>?_⟩,rfl,rfl,rfl,rfl,rfl,rfl,rfl,trivial⟩,(show (5:Nat) - 4 < 5 - 3 by decide)⟩
     match i,hx with
     | 0,hx=>cases hx;exact ⟨_,rfl,rfl⟩
     | 1,hx=>cases hx;exact ⟨_,rfl,rfl⟩
     | 2,hx=>cases hx;exact ⟨_,rfl,rfl⟩
     | 3,hx=>cases hx;exact ⟨_,rfl,rfl⟩
     | 4,hx=>cases hx;exact ⟨_,rfl,rfl⟩
     | i+5,hx=>cases hx
   ·refine Br.mk (fun _=>?_) (fun k=>absurd (show ((4:Nat):Int) < ((5:Nat):Int) by decide) k);refine Ob.o16 ?_;refine Ob.o16 ?_;intro x hx;have hx:x=[i64 (itI m 4).w,i64 (itI m 4).h,.own 7]:=(Option.some.inj hx).symm;rw [hx];intro hl2;have hl2:(f 4).length<=281474976710656:=hl2
    refine ⟨Nat×List Pix,fun z=>⟨[(82,i64 (z.1:Int)),(81,i64 ((f 4).length:Int)),(14,i64 (4:Nat)),(73,i64 (4:Nat)),(72,i64 (5:Nat)),(12,.own 0),(3,.loc 1 0),(7,.loc 2 0)],[(0,.garr 28 3 [[i64 (itI m 0).w,i64 (itI m 0).h,.own 3],[i64 (itI m 1).w,i64 (itI m 1).h,.own 4],[i64 (itI m 2).w,i64 (itI m 2).h,.own 5],[i64 (itI m 3).w,i64 (itI m 3).h,.own 6],[i64 (itI m 4).w,i64 (itI m 4).h,.own 7]]),(1,.box 28 (ze m)),(2,.box 28 (ze m)),(3,.arr 37 zb 4 (f 0)),(4,.arr 37 zb 4 (f 1)),(5,.arr 37 zb 4 (f 2)),(6,.arr 37 zb 4 (f 3)),(7,.arr 37 zb 4 z.2)],8,108,0⟩,fun z=>z.1<=(f 4).length/\z.2.length=(f 4).length,fun z=>(f 4).length - z.1,(0,f 4),⟨Nat.zero_le _,rfl⟩,?_,?_⟩
    ·refine zi [(0,some 0),(1,some 1),(2,some 2),(3,some 3),(4,some 4),(5,some 5),(6,some 6),(7,some 7)] ⟨⟨_,rfl,rfl,fun i x hx=>?_⟩,rfl,rfl,rfl,rfl,rfl,rfl,rfl,trivial⟩
     match i,hx with
     | 0,hx=>cases hx;exact ⟨_,rfl,rfl⟩
     | 1,hx=>cases hx;exact ⟨_,rfl,rfl⟩
     | 2,hx=>cases hx;exact ⟨_,rfl,rfl⟩
     | 3,hx=>cases hx;exact ⟨_,rfl,rfl⟩
     | 4,hx=>cases hx;exact ⟨_,rfl,rfl⟩
     | i+5,hx=>cases hx
    rintro ⟨k,q⟩ ⟨hk,hq⟩
    have hk:k<=(f 4).length:=hk;have hq:q.length=(f 4).length:=hq;refine Br.mk (fun g=>?_) (fun g=>?_)
    ·have g:(k:Int) < ((f 4).length:Int):=g;refine Ob.o16 ?_;refine Ob.o16 ?_;intro x hx;have hx:x=[i64 (itI m 4).w,i64 (itI m 4).h,.own 7]:=(Option.some.inj hx).symm;rw [hx];refine Ob.o ?_;refine Ob.o ?_;intro y _;refine ⟨c77,rfl,?_⟩;refine Ar.o ?_
     refine ⟨(k+1,q.set k c77),⟨by show k+1<=_;omega,by show (q.set k c77).length=_;rw [List.length_set];exact hq⟩,zi [(0,some 0),(1,some 1),(2,some 2),(3,some 3),(4,some 4),(5,some 5),(6,some 6),(7,some 7)] ⟨⟨_,rfl,rfl,fun i x hx=>?_⟩,rfl,rfl,rfl,rfl,rfl,rfl,rfl,trivial⟩,by dsimp only;omega⟩
     match i,hx with
     | 0,hx=>cases hx;exact ⟨_,rfl,rfl⟩
     | 1,hx=>cases hx;exact ⟨_,rfl,rfl⟩
     | 2,hx=>cases hx;exact ⟨_,rfl,rfl⟩
     | 3,hx=>cases hx;exact ⟨_,rfl,rfl⟩
     | 4,hx=>cases hx;exact ⟨_,rfl,rfl⟩
     | i+5,hx=>cases hx
    ·refine Ar.fit (show -9223372036854775808<=((4:Nat):Int)+1/\((4:Nat):Int)+1<=9223372036854775807 by decide) ?_;refine ⟨(5,kO f 4 q),(show (5:Nat)<=5 by decide),zi [(0,some 0),(1,some 1),(2,some 2),(3,some 3),(4,some 4),(5,some 5),(6,some 6),(7,some 7)] ⟨⟨_,rfl,rfl,fun i x hx=>?_⟩,rfl,rfl,rfl,rfl,rfl,rfl,rfl,trivial⟩,(show (5:Nat) - 5 < 5 - 4 by decide)⟩
     match i,hx with
     | 0,hx=>cases hx;exact ⟨_,rfl,rfl⟩
     | 1,hx=>cases hx;exact ⟨_,rfl,rfl⟩
     | 2,hx=>cases hx;exact ⟨_,rfl,rfl⟩
     | 3,hx=>cases hx;exact ⟨_,rfl,rfl⟩
     | 4,hx=>cases hx;exact ⟨_,rfl,rfl⟩
     | i+5,hx=>cases hx
   ·refine Br.mk (fun k=>absurd k (show ¬((5:Nat):Int) < ((5:Nat):Int) by decide)) (fun _=>?_);refine Dr.d ?_;refine zc.t (zV m m) ?_;refine Br.mk (fun _=>?_) (fun k=>absurd rfl k);refine zc.give [] 6 [.agg (ze m)] [] (zJ m 5) (.own 0) hmip LEs.refl rfl rfl rfl trivial rfl ⟨⟨rfl,zD rfl⟩,⟨rfl,trivial⟩,⟨rfl,trivial⟩,⟨rfl,trivial⟩,⟨rfl,trivial⟩,⟨rfl,trivial⟩,trivial⟩ ?_;refine zc.t cm' ?_
    refine zc.give [8,9,10,11,12,13] 0 [.own 0,.sl ze (zP m 5)] (zJ m 5) (zJ m 5) _ (zep m (zP m 5)) LEs.refl rfl rfl rfl ⟨⟨_,rfl,rfl,ku rfl⟩,⟨_,rfl,rfl,trivial⟩,⟨_,rfl,rfl,trivial⟩,⟨_,rfl,rfl,trivial⟩,⟨_,rfl,rfl,trivial⟩,⟨_,rfl,rfl,trivial⟩,trivial⟩ rfl ⟨⟨rfl,zD rfl⟩,⟨rfl,trivial⟩,⟨rfl,trivial⟩,⟨rfl,trivial⟩,⟨rfl,trivial⟩,⟨rfl,trivial⟩,trivial⟩ ?_;refine Br.mk (fun _=>?_) (fun k=>absurd rfl k);refine zc.t kz ?_;refine Ob.mk (by kernel_rfl) ?_;exact .refl
  ·refine zc.give [] 7 [.agg (ze m)] [] (zJ m 6) (.own 0) hmip LEs.refl rfl rfl rfl trivial rfl ⟨⟨rfl,zD rfl⟩,⟨rfl,trivial⟩,⟨rfl,trivial⟩,⟨rfl,trivial⟩,⟨rfl,trivial⟩,⟨rfl,trivial⟩,⟨rfl,trivial⟩,trivial⟩ ?_;refine zc.t cm' ?_;refine zc.t (zV c.1 c.1) ?_;refine Br.mk (fun k=>absurd rfl k) (fun _=>?_);refine Br.mk (fun k=>absurd rfl k) (fun _=>?_)
   refine zc.give [6,7,8,9,10,11,12] 0 [.own 0,.sl ze (zP m 6)] (zJ m 6) (zJ m 6) _ (zeq m (zP m 6)) LEs.refl rfl rfl rfl ⟨⟨_,rfl,rfl,ku rfl⟩,⟨_,rfl,rfl,trivial⟩,⟨_,rfl,rfl,trivial⟩,⟨_,rfl,rfl,trivial⟩,⟨_,rfl,rfl,trivial⟩,⟨_,rfl,rfl,trivial⟩,⟨_,rfl,rfl,trivial⟩,trivial⟩ rfl ⟨⟨rfl,zD rfl⟩,⟨rfl,trivial⟩,⟨rfl,trivial⟩,⟨rfl,trivial⟩,⟨rfl,trivial⟩,⟨rfl,trivial⟩,⟨rfl,trivial⟩,trivial⟩ ?_;refine Br.mk (fun k=>absurd rfl k) (fun _=>?_);intro hl1
   refine ⟨Nat×(Nat->List Pix),fun z=>⟨[(73,i64 (z.1:Int)),(72,i64 (6:Nat)),(12,.own 0),(3,.loc 1 0),(7,.loc 2 0)],[(0,.garr 28 3 [[i64 (itI m 0).w,i64 (itI m 0).h,.own 3],[i64 (itI m 1).w,i64 (itI m 1).h,.own 4],[i64 (itI m 2).w,i64 (itI m 2).h,.own 5],[i64 (itI m 3).w,i64 (itI m 3).h,.own 6],[i64 (itI m 4).w,i64 (itI m 4).h,.own 7],[i64 (itI m 5).w,i64 (itI m 5).h,.own 8]]),(1,.box 28 (ze m)),(2,.box 28 (ze m)),(3,.arr 37 zb 4 (z.2 0)),(4,.arr 37 zb 4 (z.2 1)),(5,.arr 37 zb 4 (z.2 2)),(6,.arr 37 zb 4 (z.2 3)),(7,.arr 37 zb 4 (z.2 4)),(8,.arr 37 zb 4 (z.2 5))],9,108,0⟩,fun z=>z.1<=6,fun z=>6 - z.1,(0,fun j=>(itI m j).px),Nat.zero_le _,?_,?_⟩
   ·refine (kX 3 1 (enc:=zb) (ys:=m.px) (cs:=[i64 m.w,i64 m.h,.own 3]) (cs':=ze m) rfl rfl rfl (fun j s' hs'=>by
     match j,hs' with
     | 0,hs'=>cases hs';exact ⟨_,rfl,.inl rfl⟩
     | 1,hs'=>cases hs';exact ⟨_,rfl,.inl rfl⟩
     | 2,hs'=>cases hs';exact ⟨_,rfl,.inr ⟨rfl,rfl⟩⟩
     | j+3,hs'=>cases hs')).trans (zi [(0,some 6),(1,some 0),(2,some 1),(3,some 7),(4,some 8),(5,some 9),(6,some 10),(7,some 11),(8,some 12)] ⟨⟨_,rfl,rfl,fun i x hx=>?_⟩,rfl,rfl,rfl,rfl,rfl,rfl,rfl,rfl,trivial⟩)
    match i,hx with
    | 0,hx=>cases hx;exact ⟨_,rfl,rfl⟩
    | 1,hx=>cases hx;exact ⟨_,rfl,rfl⟩
    | 2,hx=>cases hx;exact ⟨_,rfl,rfl⟩
    | 3,hx=>cases hx;exact ⟨_,rfl,rfl⟩
    | 4,hx=>cases hx;exact ⟨_,rfl,rfl⟩
    | 5,hx=>cases hx;exact ⟨_,rfl,rfl⟩
    | i+6,hx=>cases hx
   rintro ⟨i,f⟩ hi
   have hi:i<=6:=hi;have hin:i=0∨i=1∨i=2∨i=3∨i=4∨i=5∨i=6:=oM
   rcases hin with rfl | rfl | rfl | rfl | rfl | rfl | rfl
   ·refine Br.mk (fun _=>?_) (fun k=>absurd (show ((0:Nat):Int) < ((6:Nat):Int) by decide) k);refine Ob.o17 ?_;refine Ob.o17 ?_;intro x hx;have hx:x=[i64 (itI m 0).w,i64 (itI m 0).h,.own 3]:=(Option.some.inj hx).symm;rw [hx];intro hl2;have hl2:(f 0).length<=281474976710656:=hl2
    refine ⟨Nat×List Pix,fun z=>⟨[(82,i64 (z.1:Int)),(81,i64 ((f 0).length:Int)),(14,i64 (0:Nat)),(73,i64 (0:Nat)),(72,i64 (6:Nat)),(12,.own 0),(3,.loc 1 0),(7,.loc 2 0)],[(0,.garr 28 3 [[i64 (itI m 0).w,i64 (itI m 0).h,.own 3],[i64 (itI m 1).w,i64 (itI m 1).h,.own 4],[i64 (itI m 2).w,i64 (itI m 2).h,.own 5],[i64 (itI m 3).w,i64 (itI m 3).h,.own 6],[i64 (itI m 4).w,i64 (itI m 4).h,.own 7],[i64 (itI m 5).w,i64 (itI m 5).h,.own 8]]),(1,.box 28 (ze m)),(2,.box 28 (ze m)),(3,.arr 37 zb 4 z.2),(4,.arr 37 zb 4 (f 1)),(5,.arr 37 zb 4 (f 2)),(6,.arr 37 zb 4 (f 3)),(7,.arr 37 zb 4 (f 4)),(8,.arr 37 zb 4 (f 5))],9,108,0⟩,fun z=>z.1<=(f 0).length/\z.2.length=(f 0).length,fun z=>(f 0).length - z.1,(0,f 0),⟨Nat.zero_le _,rfl⟩,?_,?_⟩
    ·refine zi [(0,some 0),(1,some 1),(2,some 2),(3,some 3),(4,some 4),(5,some 5),(6,some 6),(7,some 7),(8,some 8)] ⟨⟨_,rfl,rfl,fun i x hx=>?_⟩,rfl,rfl,rfl,rfl,rfl,rfl,rfl,rfl,trivial⟩
     match i,hx with
     | 0,hx=>cases hx;exact ⟨_,rfl,rfl⟩
     | 1,hx=>cases hx;exact ⟨_,rfl,rfl⟩
     | 2,hx=>cases hx;exact ⟨_,rfl,rfl⟩
     | 3,hx=>cases hx;exact ⟨_,rfl,rfl⟩
     | 4,hx=>cases hx;exact ⟨_,rfl,rfl⟩
     | 5,hx=>cases hx;exact ⟨_,rfl,rfl⟩
     | i+6,hx=>cases hx
    rintro ⟨k,q⟩ ⟨hk,hq⟩
    have hk:k<=(f 0).length:=hk;have hq:q.length=(f 0).length:=hq;refine Br.mk (fun g=>?_) (fun g=>?_)
    ·have g:(k:Int) < ((f 0).length:Int):=g;refine Ob.o17 ?_;refine Ob.o17 ?_;intro x hx;have hx:x=[i64 (itI m 0).w,i64 (itI m 0).h,.own 3]:=(Option.some.inj hx).symm;rw [hx];refine Ob.o ?_;refine Ob.o ?_;intro y _;refine ⟨c77,rfl,?_⟩;refine Ar.o ?_
     refine ⟨(k+1,q.set k c77),⟨by show k+1<=_;omega,by show (q.set k c77).length=_;rw [List.length_set];exact hq⟩,zi [(0,some 0),(1,some 1),(2,some 2),(3,some 3),(4,some 4),(5,some 5),(6,some 6),(7,some 7),(8,some 8)] ⟨⟨_,rfl,rfl,fun i x hx=>?_⟩,rfl,rfl,rfl,rfl,rfl,rfl,rfl,rfl,trivial⟩,by dsimp only;omega⟩
     match i,hx with
     | 0,hx=>cases hx;exact ⟨_,rfl,rfl⟩
     | 1,hx=>cases hx;exact ⟨_,rfl,rfl⟩
     | 2,hx=>cases hx;exact ⟨_,rfl,rfl⟩
     | 3,hx=>cases hx;exact ⟨_,rfl,rfl⟩
     | 4,hx=>cases hx;exact ⟨_,rfl,rfl⟩
     | 5,hx=>cases hx;exact ⟨_,rfl,rfl⟩
     | i+6,hx=>cases hx
    ·refine Ar.fit (show -9223372036854775808<=((0:Nat):Int)+1/\((0:Nat):Int)+1<=9223372036854775807 by decide) ?_;refine ⟨(1,kO f 0 q),(show (1:Nat)<=6 by decide),zi [(0,some 0),(1,some 1),(2,some 2),(3,some 3),(4,some 4),(5,some 5),(6,some 6),(7,some 7),(8,some 8)] ⟨⟨_,rfl,rfl,fun i x hx=>?_⟩,rfl,rfl,rfl,rfl,rfl,rfl,rfl,rfl,trivial⟩,(show (6:Nat) - 1 < 6 - 0 by decide)⟩
     match i,hx with
     | 0,hx=>cases hx;exact ⟨_,rfl,rfl⟩
     | 1,hx=>cases hx;exact ⟨_,rfl,rfl⟩
     | 2,hx=>cases hx;exact ⟨_,rfl,rfl⟩
     | 3,hx=>cases hx;exact ⟨_,rfl,rfl⟩
     | 4,hx=>cases hx;exact ⟨_,rfl,rfl⟩
     | 5,hx=>cases hx;exact ⟨_,rfl,rfl⟩
     | i+6,hx=>cases hx
   ·refine Br.mk (fun _=>?_) (fun k=>absurd (show ((1:Nat):Int) < ((6:Nat):Int) by decide) k);refine Ob.o18 ?_;refine Ob.o18 ?_;intro x hx;have hx:x=[i64 (itI m 1).w,i64 (itI m 1).h,.own 4]:=(Option.some.inj hx).symm;rw [hx];intro hl2;have hl2:(f 1).length<=281474976710656:=hl2
    refine ⟨Nat×List Pix,fun z=>⟨[(82,i64 (z.1:Int)),(81,i64 ((f 1).length:Int)),(14,i64 (1:Nat)),(73,i64 (1:Nat)),(72,i64 (6:Nat)),(12,.own 0),(3,.loc 1 0),(7,.loc 2 0)],[(0,.garr 28 3 [[i64 (itI m 0).w,i64 (itI m 0).h,.own 3],[i64 (itI m 1).w,i64 (itI m 1).h,.own 4],[i64 (itI m 2).w,i64 (itI m 2).h,.own 5],[i64 (itI m 3).w,i64 (itI m 3).h,.own 6],[i64 (itI m 4).w,i64 (itI m 4).h,.own 7],[i64 (itI m 5).w,i64 (itI m 5).h,.own 8]]),(1,.box 28 (ze m)),(2,.box 28 (ze m)),(3,.arr 37 zb 4 (f 0)),(4,.arr 37 zb 4 z.2),(5,.arr 37 zb 4 (f 2)),(6,.arr 37 zb 4 (f 3)),(7,.arr 37 zb 4 (f 4)),(8,.arr 37 zb 4 (f 5))],9,108,0⟩,fun z=>z.1<=(f 1).length/\z.2.length=(f 1).length,fun z=>(f 1).length - z.1,(0,f 1),⟨Nat.zero_le _,rfl⟩,?_,?_⟩
    ·refine zi [(0,some 0),(1,some 1),(2,some 2),(3,some 3),(4,some 4),(5,some 5),(6,some 6),(7,some 7),(8,some 8)] ⟨⟨_,rfl,rfl,fun i x hx=>?_⟩,rfl,rfl,rfl,rfl,rfl,rfl,rfl,rfl,trivial⟩
     match i,hx with
     | 0,hx=>cases hx;exact ⟨_,rfl,rfl⟩
     | 1,hx=>cases hx;exact ⟨_,rfl,rfl⟩
     | 2,hx=>cases hx;exact ⟨_,rfl,rfl⟩
     | 3,hx=>cases hx;exact ⟨_,rfl,rfl⟩
     | 4,hx=>cases hx;exact ⟨_,rfl,rfl⟩
     | 5,hx=>cases hx;exact ⟨_,rfl,rfl⟩
     | i+6,hx=>cases hx
    rintro ⟨k,q⟩ ⟨hk,hq⟩
    have hk:k<=(f 1).length:=hk;have hq:q.length=(f 1).length:=hq;refine Br.mk (fun g=>?_) (fun g=>?_)
    ·have g:(k:Int) < ((f 1).length:Int):=g;refine Ob.o18 ?_;refine Ob.o18 ?_;intro x hx;have hx:x=[i64 (itI m 1).w,i64 (itI m 1).h,.own 4]:=(Option.some.inj hx).symm;rw [hx];refine Ob.o ?_;refine Ob.o ?_;intro y _;refine ⟨c77,rfl,?_⟩;refine Ar.o ?_
     refine ⟨(k+1,q.set k c77),⟨by show k+1<=_;omega,by show (q.set k c77).length=_;rw [List.length_set];exact hq⟩,zi [(0,some 0),(1,some 1),(2,some 2),(3,some 3),(4,some 4),(5,some 5),(6,some 6),(7,some 7),(8,some 8)] ⟨⟨_,rfl,rfl,fun i x hx=>?_⟩,rfl,rfl,rfl,rfl,rfl,rfl,rfl,rfl,trivial⟩,by dsimp only;omega⟩
     match i,hx with
     | 0,hx=>cases hx;exact ⟨_,rfl,rfl⟩
     | 1,hx=>cases hx;exact ⟨_,rfl,rfl⟩
     | 2,hx=>cases hx;exact ⟨_,rfl,rfl⟩
     | 3,hx=>cases hx;exact ⟨_,rfl,rfl⟩
     | 4,hx=>cases hx;exact ⟨_,rfl,rfl⟩
     | 5,hx=>cases hx;exact ⟨_,rfl,rfl⟩
     | i+6,hx=>cases hx
    ·refine Ar.fit (show -9223372036854775808<=((1:Nat):Int)+1/\((1:Nat):Int)+1<=9223372036854775807 by decide) ?_;refine ⟨(2,kO f 1 q),(show (2:Nat)<=6 by decide),zi [(0,some 0),(1,some 1),(2,some 2),(3,some 3),(4,some 4),(5,some 5),(6,some 6),(7,some 7),(8,some 8)] ⟨⟨_,rfl,rfl,fun i x hx=>?_⟩,rfl,rfl,rfl,rfl,rfl,rfl,rfl,rfl,trivial⟩,(show (6:Nat) - 2 < 6 - 1 by decide)⟩
     match i,hx with
     | 0,hx=>cases hx;exact ⟨_,rfl,rfl⟩
     | 1,hx=>cases hx;exact ⟨_,rfl,rfl⟩
     | 2,hx=>cases hx;exact ⟨_,rfl,rfl⟩
     | 3,hx=>cases hx;exact ⟨_,rfl,rfl⟩
     | 4,hx=>cases hx;exact ⟨_,rfl,rfl⟩
     | 5,hx=>cases hx;exact ⟨_,rfl,rfl⟩
     | i+6,hx=>cases hx
   ·refine Br.mk (fun _=>?_) (fun k=>absurd (show ((2:Nat):Int) < ((6:Nat):Int) by decide) k);refine Ob.o19 ?_;refine Ob.o19 ?_;intro x hx;have hx:x=[i64 (itI m 2).w,i64 (itI m 2).h,.own 5]:=(Option.some.inj hx).symm;rw [hx];intro hl2;have hl2:(f 2).length<=281474976710656:=hl2
    refine ⟨Nat×List Pix,fun z=>⟨[(82,i64 (z.1:Int)),(81,i64 ((f 2).length:Int)),(14,i64 (2:Nat)),(73,i64 (2:Nat)),(72,i64 (6:Nat)),(12,.own 0),(3,.loc 1 0),(7,.loc 2 0)],[(0,.garr 28 3 [[i64 (itI m 0).w,i64 (itI m 0).h,.own 3],[i64 (itI m 1).w,i64 (itI m 1).h,.own 4],[i64 (itI m 2).w,i64 (itI m 2).h,.own 5],[i64 (itI m 3).w,i64 (itI m 3).h,.own 6],[i64 (itI m 4).w,i64 (itI m 4).h,.own 7],[i64 (itI m 5).w,i64 (itI m 5).h,.own 8]]),(1,.box 28 (ze m)),(2,.box 28 (ze m)),(3,.arr 37 zb 4 (f 0)),(4,.arr 37 zb 4 (f 1)),(5,.arr 37 zb 4 z.2),(6,.arr 37 zb 4 (f 3)),(7,.arr 37 zb 4 (f 4)),(8,.arr 37 zb 4 (f 5))],9,108,0⟩,fun z=>z.1<=(f 2).length/\z.2.length=(f 2).length,fun z=>(f 2).length - z.1,(0,f 2),⟨Nat.zero_le _,rfl⟩,?_,?_⟩
    ·refine zi [(0,some 0),(1,some 1),(2,some 2),(3,some 3),(4,some 4),(5,some 5),(6,some 6),(7,some 7),(8,some 8)] ⟨⟨_,rfl,rfl,fun i x hx=>?_⟩,rfl,rfl,rfl,rfl,rfl,rfl,rfl,rfl,trivial⟩
     match i,hx with
     | 0,hx=>cases hx;exact ⟨_,rfl,rfl⟩
     | 1,hx=>cases hx;exact ⟨_,rfl,rfl⟩
     | 2,hx=>cases hx;exact ⟨_,rfl,rfl⟩
     | 3,hx=>cases hx;exact ⟨_,rfl,rfl⟩
     | 4,hx=>cases hx;exact ⟨_,rfl,rfl⟩
     | 5,hx=>cases hx;exact ⟨_,rfl,rfl⟩
     | i+6,hx=>cases hx
    rintro ⟨k,q⟩ ⟨hk,hq⟩
    have hk:k<=(f 2).length:=hk;have hq:q.length=(f 2).length:=hq;refine Br.mk (fun g=>?_) (fun g=>?_)
    ·have g:(k:Int) < ((f 2).length:Int):=g;refine Ob.o19 ?_;refine Ob.o19 ?_;intro x hx;have hx:x=[i64 (itI m 2).w,i64 (itI m 2).h,.own 5]:=(Option.some.inj hx).symm;rw [hx];refine Ob.o ?_;refine Ob.o ?_;intro y _;refine ⟨c77,rfl,?_⟩;refine Ar.o ?_
     refine ⟨(k+1,q.set k c77),⟨by show k+1<=_;omega,by show (q.set k c77).length=_;rw [List.length_set];exact hq⟩,zi [(0,some 0),(1,some 1),(2,some 2),(3,some 3),(4,some 4),(5,some 5),(6,some 6),(7,some 7),(8,some 8)] ⟨⟨_,rfl,rfl,fun i x hx=>?_⟩,rfl,rfl,rfl,rfl,rfl,rfl,rfl,rfl,trivial⟩,by dsimp only;omega⟩
     match i,hx with
     | 0,hx=>cases hx;exact ⟨_,rfl,rfl⟩
     | 1,hx=>cases hx;exact ⟨_,rfl,rfl⟩
     | 2,hx=>cases hx;exact ⟨_,rfl,rfl⟩
     | 3,hx=>cases hx;exact ⟨_,rfl,rfl⟩
     | 4,hx=>cases hx;exact ⟨_,rfl,rfl⟩
     | 5,hx=>cases hx;exact ⟨_,rfl,rfl⟩
     | i+6,hx=>cases hx
    ·refine Ar.fit (show -9223372036854775808<=((2:Nat):Int)+1/\((2:Nat):Int)+1<=9223372036854775807 by decide) ?_;refine ⟨(3,kO f 2 q),(show (3:Nat)<=6 by decide),zi [(0,some 0),(1,some 1),(2,some 2),(3,some 3),(4,some 4),(5,some 5),(6,some 6),(7,some 7),(8,some 8)] ⟨⟨_,rfl,rfl,fun i x hx=>?_⟩,rfl,rfl,rfl,rfl,rfl,rfl,rfl,rfl,trivial⟩,(show (6:Nat) - 3 < 6 - 2 by decide)⟩
     match i,hx with
     | 0,hx=>cases hx;exact ⟨_,rfl,rfl⟩
     | 1,hx=>cases hx;exact ⟨_,rfl,rfl⟩
     | 2,hx=>cases hx;exact ⟨_,rfl,rfl⟩
     | 3,hx=>cases hx;exact ⟨_,rfl,rfl⟩
     | 4,hx=>cases hx;exact ⟨_,rfl,rfl⟩
     | 5,hx=>cases hx;exact ⟨_,rfl,rfl⟩
     | i+6,hx=>cases hx
   ·refine Br.mk (fun _=>?_) (fun k=>absurd (show ((3:Nat):Int) < ((6:Nat):Int) by decide) k);refine Ob.o20 ?_;refine Ob.o20 ?_;intro x hx;have hx:x=[i64 (itI m 3).w,i64 (itI m 3).h,.own 6]:=(Option.some.inj hx).symm;rw [hx];intro hl2;have hl2:(f 3).length<=281474976710656:=hl2
    refine ⟨Nat×List Pix,fun z=>⟨[(82,i64 (z.1:Int)),(81,i64 ((f 3).length:Int)),(14,i64 (3:Nat)),(73,i64 (3:Nat)),(72,i64 (6:Nat)),(12,.own 0),(3,.loc 1 0),(7,.loc 2 0)],[(0,.garr 28 3 [[i64 (itI m 0).w,i64 (itI m 0).h,.own 3],[i64 (itI m 1).w,i64 (itI m 1).h,.own 4],[i64 (itI m 2).w,i64 (itI m 2).h,.own 5],[i64 (itI m 3).w,i64 (itI m 3).h,.own 6],[i64 (itI m 4).w,i64 (itI m 4).h,.own 7],[i64 (itI m 5).w,i64 (itI m 5).h,.own 8]]),(1,.box 28 (ze m)),(2,.box 28 (ze m)),(3,.arr 37 zb 4 (f 0)),(4,.arr 37 zb 4 (f 1)),(5,.arr 37 zb 4 (f 2)),(6,.arr 37 zb 4 z.2),(7,.arr 37 zb 4 (f 4)),(8,.arr 37 zb 4 (f 5))],9,108,0⟩,fun z=>z.1<=(f 3).length/\z.2.length=(f 3).length,fun z=>(f 3).length - z.1,(0,f 3),⟨Nat.zero_le _,rfl⟩,?_,?_⟩
    ·refine zi [(0,some 0),(1,some 1),(2,some 2),(3,some 3),(4,some 4),(5,some 5),(6,some 6),(7,some 7),(8,some 8)] ⟨⟨_,rfl,rfl,fun i x hx=>?_⟩,rfl,rfl,rfl,rfl,rfl,rfl,rfl,rfl,trivial⟩
     match i,hx with
     | 0,hx=>cases hx;exact ⟨_,rfl,rfl⟩
     | 1,hx=>cases hx;exact ⟨_,rfl,rfl⟩
     | 2,hx=>cases hx;exact ⟨_,rfl,rfl⟩
     | 3,hx=>cases hx;exact ⟨_,rfl,rfl⟩
     | 4,hx=>cases hx;exact ⟨_,rfl,rfl⟩
     | 5,hx=>cases hx;exact ⟨_,rfl,rfl⟩
     | i+6,hx=>cases hx
    rintro ⟨k,q⟩ ⟨hk,hq⟩
    have hk:k<=(f 3).length:=hk;have hq:q.length=(f 3).length:=hq;refine Br.mk (fun g=>?_) (fun g=>?_)
    ·have g:(k:Int) < ((f 3).length:Int):=g;refine Ob.o20 ?_;refine Ob.o20 ?_;intro x hx;have hx:x=[i64 (itI m 3).w,i64 (itI m 3).h,.own 6]:=(Option.some.inj hx).symm;rw [hx];refine Ob.o ?_;refine Ob.o ?_;intro y _;refine ⟨c77,rfl,?_⟩;refine Ar.o ?_
     refine ⟨(k+1,q.set k c77),⟨by show k+1<=_;omega,by show (q.set k c77).length=_;rw [List.length_set];exact hq⟩,zi [(0,some 0),(1,some 1),(2,some 2),(3,some 3),(4,some 4),(5,some 5),(6,some 6),(7,some 7),(8,some 8)] ⟨⟨_,rfl,rfl,fun i x hx=>?_⟩,rfl,rfl,rfl,rfl,rfl,rfl,rfl,rfl,trivial⟩,by dsimp only;omega⟩
     match i,hx with
     | 0,hx=>cases hx;exact ⟨_,rfl,rfl⟩
     | 1,hx=>cases hx;exact ⟨_,rfl,rfl⟩
     | 2,hx=>cases hx;exact ⟨_,rfl,rfl⟩
     | 3,hx=>cases hx;exact ⟨_,rfl,rfl⟩
     | 4,hx=>cases hx;exact ⟨_,rfl,rfl⟩
     | 5,hx=>cases hx;exact ⟨_,rfl,rfl⟩
     | i+6,hx=>cases hx
    ·refine Ar.fit (show -9223372036854775808<=((3:Nat):Int)+1/\((3:Nat):Int)+1<=9223372036854775807 by decide) ?_;refine ⟨(4,kO f 3 q),(show (4:Nat)<=6 by decide),zi [(0,some 0),(1,some 1),(2,some 2),(3,some 3),(4,some 4),(5,some 5),(6,some 6),(7,some 7),(8,some 8)] ⟨⟨_,rfl,rfl,fun i x hx=>?_⟩,rfl,rfl,rfl,rfl,rfl,rfl,rfl,rfl,trivial⟩,(show (6:Nat) - 4 < 6 - 3 by decide)⟩
     match i,hx with
     | 0,hx=>cases hx;exact ⟨_,rfl,rfl⟩
     | 1,hx=>cases hx;exact ⟨_,rfl,rfl⟩
     | 2,hx=>cases hx;exact ⟨_,rfl,rfl⟩
     | 3,hx=>cases hx;exact ⟨_,rfl,rfl⟩
     | 4,hx=>cases hx;exact ⟨_,rfl,rfl⟩
     | 5,hx=>cases hx;exact ⟨_,rfl,rfl⟩
     | i+6,hx=>cases hx
   ·refine Br.mk (fun _=>?_) (fun k=>absurd (show ((4:Nat):Int) < ((6:Nat):Int) by decide) k);refine Ob.o21 ?_;refine Ob.o21 ?_;intro x hx;have hx:x=[i64 (itI m 4).w,i64 (itI m 4).h,.own 7]:=(Option.some.inj hx).symm;rw [hx];intro hl2;have hl2:(f 4).length<=281474976710656:=hl2
    refine ⟨Nat×List Pix,fun z=>⟨[(82,i64 (z.1:Int)),(81,i64 ((f 4).length:Int)),(14,i64 (4:Nat)),(73,i64 (4:Nat)),(72,i64 (6:Nat)),(12,.own 0),(3,.loc 1 0),(7,.loc 2 0)],[(0,.garr 28 3 [[i64 (itI m 0).w,i64 (itI m 0).h,.own 3],[i64 (itI m 1).w,i64 (itI m 1).h,.own 4],[i64 (itI m 2).w,i64 (itI m 2).h,.own 5],[i64 (itI m 3).w,i64 (itI m 3).h,.own 6],[i64 (itI m 4).w,i64 (itI m 4).h,.own 7],[i64 (itI m 5).w,i64 (itI m 5).h,.own 8]]),(1,.box 28 (ze m)),(2,.box 28 (ze m)),(3,.arr 37 zb 4 (f 0)),(4,.arr 37 zb 4 (f 1)),(5,.arr 37 zb 4 (f 2)),(6,.arr 37 zb 4 (f 3)),(7,.arr 37 zb 4 z.2),(8,.arr 37 zb 4 (f 5))],9,108,0⟩,fun z=>z.1<=(f 4).length/\z.2.length=(f 4).length,fun z=>(f 4).length - z.1,(0,f 4),⟨Nat.zero_le _,rfl⟩,?_,?_⟩
    ·refine zi [(0,some 0),(1,some 1),(2,some 2),(3,some 3),(4,some 4),(5,some 5),(6,some 6),(7,some 7),(8,some 8)] ⟨⟨_,rfl,rfl,fun i x hx=>?_⟩,rfl,rfl,rfl,rfl,rfl,rfl,rfl,rfl,trivial⟩
     match i,hx with
     | 0,hx=>cases hx;exact ⟨_,rfl,rfl⟩
     | 1,hx=>cases hx;exact ⟨_,rfl,rfl⟩
     | 2,hx=>cases hx;exact ⟨_,rfl,rfl⟩
     | 3,hx=>cases hx;exact ⟨_,rfl,rfl⟩
     | 4,hx=>cases hx;exact ⟨_,rfl,rfl⟩
     | 5,hx=>cases hx;exact ⟨_,rfl,rfl⟩
     | i+6,hx=>cases hx
    rintro ⟨k,q⟩ ⟨hk,hq⟩
    have hk:k<=(f 4).length:=hk;have hq:q.length=(f 4).length:=hq;refine Br.mk (fun g=>?_) (fun g=>?_)
    ·have g:(k:Int) < ((f 4).length:Int):=g;refine Ob.o21 ?_;refine Ob.o21 ?_;intro x hx;have hx:x=[i64 (itI m 4).w,i64 (itI m 4).h,.own 7]:=(Option.some.inj hx).symm;rw [hx];refine Ob.o ?_;refine Ob.o ?_;intro y _;refine ⟨c77,rfl,?_⟩;refine Ar.o ?_
     refine ⟨(k+1,q.set k c77),⟨by show k+1<=_;omega,by show (q.set k c77).length=_;rw [List.length_set];exact hq⟩,zi [(0,some 0),(1,some 1),(2,some 2),(3,some 3),(4,some 4),(5,some 5),(6,some 6),(7,some 7),(8,some 8)] ⟨⟨_,rfl,rfl,fun i x hx=>?_⟩,rfl,rfl,rfl,rfl,rfl,rfl,rfl,rfl,trivial⟩,by dsimp only;omega⟩
     match i,hx with
     | 0,hx=>cases hx;exact ⟨_,rfl,rfl⟩
     | 1,hx=>cases hx;exact ⟨_,rfl,rfl⟩
     | 2,hx=>cases hx;exact ⟨_,rfl,rfl⟩
     | 3,hx=>cases hx;exact ⟨_,rfl,rfl⟩
     | 4,hx=>cases hx;exact ⟨_,rfl,rfl⟩
     | 5,hx=>cases hx;exact ⟨_,rfl,rfl⟩
     | i+6,hx=>cases hx
    ·refine Ar.fit (show -9223372036854775808<=((4:Nat):Int)+1/\((4:Nat):Int)+1<=9223372036854775807 by decide) ?_;refine ⟨(5,kO f 4 q),(show (5:Nat)<=6 by decide),zi [(0,some 0),(1,some 1),(2,some 2),(3,some 3),(4,some 4),(5,some 5),(6,some 6),(7,some 7),(8,some 8)] ⟨⟨_,rfl,rfl,fun i x hx=>?_⟩,rfl,rfl,rfl,rfl,rfl,rfl,rfl,rfl,trivial⟩,(show (6:Nat) - 5 < 6 - 4 by decide)⟩
     match i,hx with
     | 0,hx=>cases hx;exact ⟨_,rfl,rfl⟩
     | 1,hx=>cases hx;exact ⟨_,rfl,rfl⟩
     | 2,hx=>cases hx;exact ⟨_,rfl,rfl⟩
     | 3,hx=>cases hx;exact ⟨_,rfl,rfl⟩
     | 4,hx=>cases hx;exact ⟨_,rfl,rfl⟩
     | 5,hx=>cases hx;exact ⟨_,rfl,rfl⟩
     | i+6,hx=>cases hx
   ·refine Br.mk (fun _=>?_) (fun k=>absurd (show ((5:Nat):Int) < ((6:Nat):Int) by decide) k);refine Ob.o22 ?_;refine Ob.o22 ?_;intro x hx;have hx:x=[i64 (itI m 5).w,i64 (itI m 5).h,.own 8]:=(Option.some.inj hx).symm;rw [hx];intro hl2;have hl2:(f 5).length<=281474976710656:=hl2
    refine ⟨Nat×List Pix,fun z=>⟨[(82,i64 (z.1:Int)),(81,i64 ((f 5).length:Int)),(14,i64 (5:Nat)),(73,i64 (5:Nat)),(72,i64 (6:Nat)),(12,.own 0),(3,.loc 1 0),(7,.loc 2 0)],[(0,.garr 28 3 [[i64 (itI m 0).w,i64 (itI m 0).h,.own 3],[i64 (itI m 1).w,i64 (itI m 1).h,.own 4],[i64 (itI m 2).w,i64 (itI m 2).h,.own 5],[i64 (itI m 3).w,i64 (itI m 3).h,.own 6],[i64 (itI m 4).w,i64 (itI m 4).h,.own 7],[i64 (itI m 5).w,i64 (itI m 5).h,.own 8]]),(1,.box 28 (ze m)),(2,.box 28 (ze m)),(3,.arr 37 zb 4 (f 0)),(4,.arr 37 zb 4 (f 1)),(5,.arr 37 zb 4 (f 2)),(6,.arr 37 zb 4 (f 3)),(7,.arr 37 zb 4 (f 4)),(8,.arr 37 zb 4 z.2)],9,108,0⟩,fun z=>z.1<=(f 5).length/\z.2.length=(f 5).length,fun z=>(f 5).length - z.1,(0,f 5),⟨Nat.zero_le _,rfl⟩,?_,?_⟩
    ·refine zi [(0,some 0),(1,some 1),(2,some 2),(3,some 3),(4,some 4),(5,some 5),(6,some 6),(7,some 7),(8,some 8)] ⟨⟨_,rfl,rfl,fun i x hx=>?_⟩,rfl,rfl,rfl,rfl,rfl,rfl,rfl,rfl,trivial⟩
     match i,hx with
     | 0,hx=>cases hx;exact ⟨_,rfl,rfl⟩
     | 1,hx=>cases hx;exact ⟨_,rfl,rfl⟩
     | 2,hx=>cases hx;exact ⟨_,rfl,rfl⟩
     | 3,hx=>cases hx;exact ⟨_,rfl,rfl⟩
     | 4,hx=>cases hx;exact ⟨_,rfl,rfl⟩
     | 5,hx=>cases hx;exact ⟨_,rfl,rfl⟩
     | i+6,hx=>cases hx
    rintro ⟨k,q⟩ ⟨hk,hq⟩
    have hk:k<=(f 5).length:=hk;have hq:q.length=(f 5).length:=hq;refine Br.mk (fun g=>?_) (fun g=>?_)
    ·have g:(k:Int) < ((f 5).length:Int):=g;refine Ob.o22 ?_;refine Ob.o22 ?_;intro x hx;have hx:x=[i64 (itI m 5).w,i64 (itI m 5).h,.own 8]:=(Option.some.inj hx).symm;rw [hx];refine Ob.o ?_;refine Ob.o ?_;intro y _;refine ⟨c77,rfl,?_⟩;refine Ar.o ?_
     refine ⟨(k+1,q.set k c77),⟨by show k+1<=_;omega,by show (q.set k c77).length=_;rw [List.length_set];exact hq⟩,zi [(0,some 0),(1,some 1),(2,some 2),(3,some 3),(4,some 4),(5,some 5),(6,some 6),(7,some 7),(8,some 8)] ⟨⟨_,rfl,rfl,fun i x hx=>?_⟩,rfl,rfl,rfl,rfl,rfl,rfl,rfl,rfl,trivial⟩,by dsimp only;omega⟩
     match i,hx with
     | 0,hx=>cases hx;exact ⟨_,rfl,rfl⟩
     | 1,hx=>cases hx;exact ⟨_,rfl,rfl⟩
     | 2,hx=>cases hx;exact ⟨_,rfl,rfl⟩
     | 3,hx=>cases hx;exact ⟨_,rfl,rfl⟩
     | 4,hx=>cases hx;exact ⟨_,rfl,rfl⟩
     | 5,hx=>cases hx;exact ⟨_,rfl,rfl⟩
     | i+6,hx=>cases hx
    ·refine Ar.fit (show -9223372036854775808<=((5:Nat):Int)+1/\((5:Nat):Int)+1<=9223372036854775807 by decide) ?_;refine ⟨(6,kO f 5 q),(show (6:Nat)<=6 by decide),zi [(0,some 0),(1,some 1),(2,some 2),(3,some 3),(4,some 4),(5,some 5),(6,some 6),(7,some 7),(8,some 8)] ⟨⟨_,rfl,rfl,fun i x hx=>?_⟩,rfl,rfl,rfl,rfl,rfl,rfl,rfl,rfl,trivial⟩,(show (6:Nat) - 6 < 6 - 5 by decide)⟩
     match i,hx with
     | 0,hx=>cases hx;exact ⟨_,rfl,rfl⟩
     | 1,hx=>cases hx;exact ⟨_,rfl,rfl⟩
     | 2,hx=>cases hx;exact ⟨_,rfl,rfl⟩
     | 3,hx=>cases hx;exact ⟨_,rfl,rfl⟩
     | 4,hx=>cases hx;exact ⟨_,rfl,rfl⟩
     | 5,hx=>cases hx;exact ⟨_,rfl,rfl⟩
     | i+6,hx=>cases hx
   ·refine Br.mk (fun k=>absurd k (show ¬((6:Nat):Int) < ((6:Nat):Int) by decide)) (fun _=>?_);refine Dr.d ?_;refine zc.t (zV m m) ?_;refine Br.mk (fun _=>?_) (fun k=>absurd rfl k);refine zc.give [] 7 [.agg (ze m)] [] (zJ m 6) (.own 0) hmip LEs.refl rfl rfl rfl trivial rfl ⟨⟨rfl,zD rfl⟩,⟨rfl,trivial⟩,⟨rfl,trivial⟩,⟨rfl,trivial⟩,⟨rfl,trivial⟩,⟨rfl,trivial⟩,⟨rfl,trivial⟩,trivial⟩ ?_;refine zc.t cm' ?_
    refine zc.give [9,10,11,12,13,14,15] 0 [.own 0,.sl ze (zP m 6)] (zJ m 6) (zJ m 6) _ (zeq m (zP m 6)) LEs.refl rfl rfl rfl ⟨⟨_,rfl,rfl,ku rfl⟩,⟨_,rfl,rfl,trivial⟩,⟨_,rfl,rfl,trivial⟩,⟨_,rfl,rfl,trivial⟩,⟨_,rfl,rfl,trivial⟩,⟨_,rfl,rfl,trivial⟩,⟨_,rfl,rfl,trivial⟩,trivial⟩ rfl ⟨⟨rfl,zD rfl⟩,⟨rfl,trivial⟩,⟨rfl,trivial⟩,⟨rfl,trivial⟩,⟨rfl,trivial⟩,⟨rfl,trivial⟩,⟨rfl,trivial⟩,trivial⟩ ?_;refine Br.mk (fun _=>?_) (fun k=>absurd rfl k);refine zc.t kz ?_;refine Ob.mk (by kernel_rfl) ?_;exact .refl
  ·refine zc.give [] 8 [.agg (ze m)] [] (zJ m 7) (.own 0) hmip LEs.refl rfl rfl rfl trivial rfl ⟨⟨rfl,zD rfl⟩,⟨rfl,trivial⟩,⟨rfl,trivial⟩,⟨rfl,trivial⟩,⟨rfl,trivial⟩,⟨rfl,trivial⟩,⟨rfl,trivial⟩,⟨rfl,trivial⟩,trivial⟩ ?_;refine zc.t cm' ?_;refine zc.t (zV c.1 c.1) ?_;refine Br.mk (fun k=>absurd rfl k) (fun _=>?_);refine Br.mk (fun k=>absurd rfl k) (fun _=>?_)
   refine zc.give [6,7,8,9,10,11,12,13] 0 [.own 0,.sl ze (zP m 7)] (zJ m 7) (zJ m 7) _ (zer m (zP m 7)) LEs.refl rfl rfl rfl ⟨⟨_,rfl,rfl,ku rfl⟩,⟨_,rfl,rfl,trivial⟩,⟨_,rfl,rfl,trivial⟩,⟨_,rfl,rfl,trivial⟩,⟨_,rfl,rfl,trivial⟩,⟨_,rfl,rfl,trivial⟩,⟨_,rfl,rfl,trivial⟩,⟨_,rfl,rfl,trivial⟩,trivial⟩ rfl ⟨⟨rfl,zD rfl⟩,⟨rfl,trivial⟩,⟨rfl,trivial⟩,⟨rfl,trivial⟩,⟨rfl,trivial⟩,⟨rfl,trivial⟩,⟨rfl,trivial⟩,⟨rfl,trivial⟩,trivial⟩ ?_;refine Br.mk (fun k=>absurd rfl k) (fun _=>?_);intro hl1
   refine ⟨Nat×(Nat->List Pix),fun z=>⟨[(73,i64 (z.1:Int)),(72,i64 (7:Nat)),(12,.own 0),(3,.loc 1 0),(7,.loc 2 0)],[(0,.garr 28 3 [[i64 (itI m 0).w,i64 (itI m 0).h,.own 3],[i64 (itI m 1).w,i64 (itI m 1).h,.own 4],[i64 (itI m 2).w,i64 (itI m 2).h,.own 5],[i64 (itI m 3).w,i64 (itI m 3).h,.own 6],[i64 (itI m 4).w,i64 (itI m 4).h,.own 7],[i64 (itI m 5).w,i64 (itI m 5).h,.own 8],[i64 (itI m 6).w,i64 (itI m 6).h,.own 9]]),(1,.box 28 (ze m)),(2,.box 28 (ze m)),(3,.arr 37 zb 4 (z.2 0)),(4,.arr 37 zb 4 (z.2 1)),(5,.arr 37 zb 4 (z.2 2)),(6,.arr 37 zb 4 (z.2 3)),(7,.arr 37 zb 4 (z.2 4)),(8,.arr 37 zb 4 (z.2 5)),(9,.arr 37 zb 4 (z.2 6))],10,108,0⟩,fun z=>z.1<=7,fun z=>7 - z.1,(0,fun j=>(itI m j).px),Nat.zero_le _,?_,?_⟩
   ·refine (kX 3 1 (enc:=zb) (ys:=m.px) (cs:=[i64 m.w,i64 m.h,.own 3]) (cs':=ze m) rfl rfl rfl (fun j s' hs'=>by
     match j,hs' with
     | 0,hs'=>cases hs';exact ⟨_,rfl,.inl rfl⟩
     | 1,hs'=>cases hs';exact ⟨_,rfl,.inl rfl⟩
     | 2,hs'=>cases hs';exact ⟨_,rfl,.inr ⟨rfl,rfl⟩⟩
     | j+3,hs'=>cases hs')).trans (zi [(0,some 6),(1,some 0),(2,some 1),(3,some 7),(4,some 8),(5,some 9),(6,some 10),(7,some 11),(8,some 12),(9,some 13)] ⟨⟨_,rfl,rfl,fun i x hx=>?_⟩,rfl,rfl,rfl,rfl,rfl,rfl,rfl,rfl,rfl,trivial⟩)
    match i,hx with
    | 0,hx=>cases hx;exact ⟨_,rfl,rfl⟩
    | 1,hx=>cases hx;exact ⟨_,rfl,rfl⟩
    | 2,hx=>cases hx;exact ⟨_,rfl,rfl⟩
    | 3,hx=>cases hx;exact ⟨_,rfl,rfl⟩
    | 4,hx=>cases hx;exact ⟨_,rfl,rfl⟩
    | 5,hx=>cases hx;exact ⟨_,rfl,rfl⟩
    | 6,hx=>cases hx;exact ⟨_,rfl,rfl⟩
    | i+7,hx=>cases hx
   rintro ⟨i,f⟩ hi
   have hi:i<=7:=hi;have hin:i=0∨i=1∨i=2∨i=3∨i=4∨i=5∨i=6∨i=7:=oM
   rcases hin with rfl | rfl | rfl | rfl | rfl | rfl | rfl | rfl
   ·refine Br.mk (fun _=>?_) (fun k=>absurd (show ((0:Nat):Int) < ((7:Nat):Int) by decide) k);refine Ob.o23 ?_;refine Ob.o23 ?_;intro x hx;have hx:x=[i64 (itI m 0).w,i64 (itI m 0).h,.own 3]:=(Option.some.inj hx).symm;rw [hx];intro hl2;have hl2:(f 0).length<=281474976710656:=hl2
    refine ⟨Nat×List Pix,fun z=>⟨[(82,i64 (z.1:Int)),(81,i64 ((f 0).length:Int)),(14,i64 (0:Nat)),(73,i64 (0:Nat)),(72,i64 (7:Nat)),(12,.own 0),(3,.loc 1 0),(7,.loc 2 0)],[(0,.garr 28 3 [[i64 (itI m 0).w,i64 (itI m 0).h,.own 3],[i64 (itI m 1).w,i64 (itI m 1).h,.own 4],[i64 (itI m 2).w,i64 (itI m 2).h,.own 5],[i64 (itI m 3).w,i64 (itI m 3).h,.own 6],[i64 (itI m 4).w,i64 (itI m 4).h,.own 7],[i64 (itI m 5).w,i64 (itI m 5).h,.own 8],[i64 (itI m 6).w,i64 (itI m 6).h,.own 9]]),(1,.box 28 (ze m)),(2,.box 28 (ze m)),(3,.arr 37 zb 4 z.2),(4,.arr 37 zb 4 (f 1)),(5,.arr 37 zb 4 (f 2)),(6,.arr 37 zb 4 (f 3)),(7,.arr 37 zb 4 (f 4)),(8,.arr 37 zb 4 (f 5)),(9,.arr 37 zb 4 (f 6))],10,108,0⟩,fun z=>z.1<=(f 0).length/\z.2.length=(f 0).length,fun z=>(f 0).length - z.1,(0,f 0),⟨Nat.zero_le _,rfl⟩,?_,?_⟩
    ·refine zi [(0,some 0),(1,some 1),(2,some 2),(3,some 3),(4,some 4),(5,some 5),(6,some 6),(7,some 7),(8,some 8),(9,some 9)] ⟨⟨_,rfl,rfl,fun i x hx=>?_⟩,rfl,rfl,rfl,rfl,rfl,rfl,rfl,rfl,rfl,trivial⟩
     match i,hx with
     | 0,hx=>cases hx;exact ⟨_,rfl,rfl⟩
     | 1,hx=>cases hx;exact ⟨_,rfl,rfl⟩
     | 2,hx=>cases hx;exact ⟨_,rfl,rfl⟩
     | 3,hx=>cases hx;exact ⟨_,rfl,rfl⟩
     | 4,hx=>cases hx;exact ⟨_,rfl,rfl⟩
     | 5,hx=>cases hx;exact ⟨_,rfl,rfl⟩
     | 6,hx=>cases hx;exact ⟨_,rfl,rfl⟩
     | i+7,hx=>cases hx
    rintro ⟨k,q⟩ ⟨hk,hq⟩
    have hk:k<=(f 0).length:=hk;have hq:q.length=(f 0).length:=hq;refine Br.mk (fun g=>?_) (fun g=>?_)
    ·have g:(k:Int) < ((f 0).length:Int):=g;refine Ob.o23 ?_;refine Ob.o23 ?_;intro x hx;have hx:x=[i64 (itI m 0).w,i64 (itI m 0).h,.own 3]:=(Option.some.inj hx).symm;rw [hx];refine Ob.o ?_;refine Ob.o ?_;intro y _;refine ⟨c77,rfl,?_⟩;refine Ar.o ?_
     refine ⟨(k+1,q.set k c77),⟨by show k+1<=_;omega,by show (q.set k c77).length=_;rw [List.length_set];exact hq⟩,zi [(0,some 0),(1,some 1),(2,some 2),(3,some 3),(4,some 4),(5,some 5),(6,some 6),(7,some 7),(8,some 8),(9,some 9)] ⟨⟨_,rfl,rfl,fun i x hx=>?_⟩,rfl,rfl,rfl,rfl,rfl,rfl,rfl,rfl,rfl,trivial⟩,by dsimp only;omega⟩
     match i,hx with
     | 0,hx=>cases hx;exact ⟨_,rfl,rfl⟩
     | 1,hx=>cases hx;exact ⟨_,rfl,rfl⟩
     | 2,hx=>cases hx;exact ⟨_,rfl,rfl⟩
     | 3,hx=>cases hx;exact ⟨_,rfl,rfl⟩
     | 4,hx=>cases hx;exact ⟨_,rfl,rfl⟩
     | 5,hx=>cases hx;exact ⟨_,rfl,rfl⟩
     | 6,hx=>cases hx;exact ⟨_,rfl,rfl⟩
     | i+7,hx=>cases hx
    ·refine Ar.fit (show -9223372036854775808<=((0:Nat):Int)+1/\((0:Nat):Int)+1<=9223372036854775807 by decide) ?_;refine ⟨(1,kO f 0 q),(show (1:Nat)<=7 by decide),zi [(0,some 0),(1,some 1),(2,some 2),(3,some 3),(4,some 4),(5,some 5),(6,some 6),(7,some 7),(8,some 8),(9,some 9)] ⟨⟨_,rfl,rfl,fun i x hx=>?_⟩,rfl,rfl,rfl,rfl,rfl,rfl,rfl,rfl,rfl,trivial⟩,(show (7:Nat) - 1 < 7 - 0 by decide)⟩
     match i,hx with
     | 0,hx=>cases hx;exact ⟨_,rfl,rfl⟩
     | 1,hx=>cases hx;exact ⟨_,rfl,rfl⟩
     | 2,hx=>cases hx;exact ⟨_,rfl,rfl⟩
     | 3,hx=>cases hx;exact ⟨_,rfl,rfl⟩
     | 4,hx=>cases hx;exact ⟨_,rfl,rfl⟩
     | 5,hx=>cases hx;exact ⟨_,rfl,rfl⟩
     | 6,hx=>cases hx;exact ⟨_,rfl,rfl⟩
     | i+7,hx=>cases hx
   ·refine Br.mk (fun _=>?_) (fun k=>absurd (show ((1:Nat):Int) < ((7:Nat):Int) by decide) k);refine Ob.o24 ?_;refine Ob.o24 ?_;intro x hx;have hx:x=[i64 (itI m 1).w,i64 (itI m 1).h,.own 4]:=(Option.some.inj hx).symm;rw [hx];intro hl2;have hl2:(f 1).length<=281474976710656:=hl2
    refine ⟨Nat×List Pix,fun z=>⟨[(82,i64 (z.1:Int)),(81,i64 ((f 1).length:Int)),(14,i64 (1:Nat)),(73,i64 (1:Nat)),(72,i64 (7:Nat)),(12,.own 0),(3,.loc 1 0),(7,.loc 2 0)],[(0,.garr 28 3 [[i64 (itI m 0).w,i64 (itI m 0).h,.own 3],[i64 (itI m 1).w,i64 (itI m 1).h,.own 4],[i64 (itI m 2).w,i64 (itI m 2).h,.own 5],[i64 (itI m 3).w,i64 (itI m 3).h,.own 6],[i64 (itI m 4).w,i64 (itI m 4).h,.own 7],[i64 (itI m 5).w,i64 (itI m 5).h,.own 8],[i64 (itI m 6).w,i64 (itI m 6).h,.own 9]]),(1,.box 28 (ze m)),(2,.box 28 (ze m)),(3,.arr 37 zb 4 (f 0)),(4,.arr 37 zb 4 z.2),(5,.arr 37 zb 4 (f 2)),(6,.arr 37 zb 4 (f 3)),(7,.arr 37 zb 4 (f 4)),(8,.arr 37 zb 4 (f 5)),(9,.arr 37 zb 4 (f 6))],10,108,0⟩,fun z=>z.1<=(f 1).length/\z.2.length=(f 1).length,fun z=>(f 1).length - z.1,(0,f 1),⟨Nat.zero_le _,rfl⟩,?_,?_⟩
    ·refine zi [(0,some 0),(1,some 1),(2,some 2),(3,some 3),(4,some 4),(5,some 5),(6,some 6),(7,some 7),(8,some 8),(9,some 9)] ⟨⟨_,rfl,rfl,fun i x hx=>?_⟩,rfl,rfl,rfl,rfl,rfl,rfl,rfl,rfl,rfl,trivial⟩
     match i,hx with
     | 0,hx=>cases hx;exact ⟨_,rfl,rfl⟩
     | 1,hx=>cases hx;exact ⟨_,rfl,rfl⟩
     | 2,hx=>cases hx;exact ⟨_,rfl,rfl⟩
     | 3,hx=>cases hx;exact ⟨_,rfl,rfl⟩
     | 4,hx=>cases hx;exact ⟨_,rfl,rfl⟩
     | 5,hx=>cases hx;exact ⟨_,rfl,rfl⟩
     | 6,hx=>cases hx;exact ⟨_,rfl,rfl⟩
     | i+7,hx=>cases hx
    rintro ⟨k,q⟩ ⟨hk,hq⟩
    have hk:k<=(f 1).length:=hk;have hq:q.length=(f 1).length:=hq;refine Br.mk (fun g=>?_) (fun g=>?_)
    ·have g:(k:Int) < ((f 1).length:Int):=g;refine Ob.o24 ?_;refine Ob.o24 ?_;intro x hx;have hx:x=[i64 (itI m 1).w,i64 (itI m 1).h,.own 4]:=(Option.some.inj hx).symm;rw [hx];refine Ob.o ?_;refine Ob.o ?_;intro y _;refine ⟨c77,rfl,?_⟩;refine Ar.o ?_
     refine ⟨(k+1,q.set k c77),⟨by show k+1<=_;omega,by show (q.set k c77).length=_;rw [List.length_set];exact hq⟩,zi [(0,some 0),(1,some 1),(2,some 2),(3,some 3),(4,some 4),(5,some 5),(6,some 6),(7,some 7),(8,some 8),(9,some 9)] ⟨⟨_,rfl,rfl,fun i x hx=>?_⟩,rfl,rfl,rfl,rfl,rfl,rfl,rfl,rfl,rfl,trivial⟩,by dsimp only;omega⟩
     match i,hx with
     | 0,hx=>cases hx;exact ⟨_,rfl,rfl⟩
     | 1,hx=>cases hx;exact ⟨_,rfl,rfl⟩
     | 2,hx=>cases hx;exact ⟨_,rfl,rfl⟩
     | 3,hx=>cases hx;exact ⟨_,rfl,rfl⟩
     | 4,hx=>cases hx;exact ⟨_,rfl,rfl⟩
     | 5,hx=>cases hx;exact ⟨_,rfl,rfl⟩
     | 6,hx=>cases hx;exact ⟨_,rfl,rfl⟩
     | i+7,hx=>cases hx
    ·refine Ar.fit (show -9223372036854775808<=((1:Nat):Int)+1/\((1:Nat):Int)+1<=9223372036854775807 by decide) ?_;refine ⟨(2,kO f 1 q),(show (2:Nat)<=7 by decide),zi [(0,some 0),(1,some 1),(2,some 2),(3,some 3),(4,some 4),(5,some 5),(6,some 6),(7,some 7),(8,some 8),(9,some 9)] ⟨⟨_,rfl,rfl,fun i x hx=>?_⟩,rfl,rfl,rfl,rfl,rfl,rfl,rfl,rfl,rfl,trivial⟩,(show (7:Nat) - 2 < 7 - 1 by decide)⟩
     match i,hx with
     | 0,hx=>cases hx;exact ⟨_,rfl,rfl⟩
     | 1,hx=>cases hx;exact ⟨_,rfl,rfl⟩
     | 2,hx=>cases hx;exact ⟨_,rfl,rfl⟩
     | 3,hx=>cases hx;exact ⟨_,rfl,rfl⟩
     | 4,hx=>cases hx;exact ⟨_,rfl,rfl⟩
     | 5,hx=>cases hx;exact ⟨_,rfl,rfl⟩
     | 6,hx=>cases hx;exact ⟨_,rfl,rfl⟩
     | i+7,hx=>cases hx
   ·refine Br.mk (fun _=>?_) (fun k=>absurd (show ((2:Nat):Int) < ((7:Nat):Int) by decide) k);refine Ob.o25 ?_;refine Ob.o25 ?_;intro x hx;have hx:x=[i64 (itI m 2).w,i64 (itI m 2).h,.own 5]:=(Option.some.inj hx).symm;rw [hx];intro hl2;have hl2:(f 2).length<=281474976710656:=hl2
    refine ⟨Nat×List Pix,fun z=>⟨[(82,i64 (z.1:Int)),(81,i64 ((f 2).length:Int)),(14,i64 (2:Nat)),(73,i64 (2:Nat)),(72,i64 (7:Nat)),(12,.own 0),(3,.loc 1 0),(7,.loc 2 0)],[(0,.garr 28 3 [[i64 (itI m 0).w,i64 (itI m 0).h,.own 3],[i64 (itI m 1).w,i64 (itI m 1).h,.own 4],[i64 (itI m 2).w,i64 (itI m 2).h,.own 5],[i64 (itI m 3).w,i64 (itI m 3).h,.own 6],[i64 (itI m 4).w,i64 (itI m 4).h,.own 7],[i64 (itI m 5).w,i64 (itI m 5).h,.own 8],[i64 (itI m 6).w,i64 (itI m 6).h,.own 9]]),(1,.box 28 (ze m)),(2,.box 28 (ze m)),(3,.arr 37 zb 4 (f 0)),(4,.arr 37 zb 4 (f 1)),(5,.arr 37 zb 4 z.2),(6,.arr 37 zb 4 (f 3)),(7,.arr 37 zb 4 (f 4)),(8,.arr 37 zb 4 (f 5)),(9,.arr 37 zb 4 (f 6))],10,108,0⟩,fun z=>z.1<=(f 2).length/\z.2.length=(f 2).length,fun z=>(f 2).length - z.1,(0,f 2),⟨Nat.zero_le _,rfl⟩,?_,?_⟩
    ·refine zi [(0,some 0),(1,some 1),(2,some 2),(3,some 3),(4,some 4),(5,some 5),(6,some 6),(7,some 7),(8,some 8),(9,some 9)] ⟨⟨_,rfl,rfl,fun i x hx=>?_⟩,rfl,rfl,rfl,rfl,rfl,rfl,rfl,rfl,rfl,trivial⟩
     match i,hx with
     | 0,hx=>cases hx;exact ⟨_,rfl,rfl⟩
     | 1,hx=>cases hx;exact ⟨_,rfl,rfl⟩
     | 2,hx=>cases hx;exact ⟨_,rfl,rfl⟩
     | 3,hx=>cases hx;exact ⟨_,rfl,rfl⟩
     | 4,hx=>cases hx;exact ⟨_,rfl,rfl⟩
     | 5,hx=>cases hx;exact ⟨_,rfl,rfl⟩
     | 6,hx=>cases hx;exact ⟨_,rfl,rfl⟩
     | i+7,hx=>cases hx
    rintro ⟨k,q⟩ ⟨hk,hq⟩
    have hk:k<=(f 2).length:=hk;have hq:q.length=(f 2).length:=hq;refine Br.mk (fun g=>?_) (fun g=>?_)
    ·have g:(k:Int) < ((f 2).length:Int):=g;refine Ob.o25 ?_;refine Ob.o25 ?_;intro x hx;have hx:x=[i64 (itI m 2).w,i64 (itI m 2).h,.own 5]:=(Option.some.inj hx).symm;rw [hx];refine Ob.o ?_;refine Ob.o ?_;intro y _;refine ⟨c77,rfl,?_⟩;refine Ar.o ?_
     refine ⟨(k+1,q.set k c77),⟨by show k+1<=_;omega,by show (q.set k c77).length=_;rw [List.length_set];exact hq⟩,zi [(0,some 0),(1,some 1),(2,some 2),(3,some 3),(4,some 4),(5,some 5),(6,some 6),(7,some 7),(8,some 8),(9,some 9)] ⟨⟨_,rfl,rfl,fun i x hx=>?_⟩,rfl,rfl,rfl,rfl,rfl,rfl,rfl,rfl,rfl,trivial⟩,by dsimp only;omega⟩
     match i,hx with
     | 0,hx=>cases hx;exact ⟨_,rfl,rfl⟩
     | 1,hx=>cases hx;exact ⟨_,rfl,rfl⟩
     | 2,hx=>cases hx;exact ⟨_,rfl,rfl⟩
     | 3,hx=>cases hx;exact ⟨_,rfl,rfl⟩
     | 4,hx=>cases hx;exact ⟨_,rfl,rfl⟩
     | 5,hx=>cases hx;exact ⟨_,rfl,rfl⟩
     | 6,hx=>cases hx;exact ⟨_,rfl,rfl⟩
     | i+7,hx=>cases hx
    ·refine Ar.fit (show -9223372036854775808<=((2:Nat):Int)+1/\((2:Nat):Int)+1<=9223372036854775807 by decide) ?_;refine ⟨(3,kO f 2 q),(show (3:Nat)<=7 by decide),zi [(0,some 0),(1,some 1),(2,some 2),(3,some 3),(4,some 4),(5,some 5),(6,some 6),(7,some 7),(8,some 8),(9,some 9)] ⟨⟨_,rfl,rfl,fun i x hx=>?_⟩,rfl,rfl,rfl,rfl,rfl,rfl,rfl,rfl,rfl,trivial⟩,(show (7:Nat) - 3 < 7 - 2 by decide)⟩
     match i,hx with
     | 0,hx=>cases hx;exact ⟨_,rfl,rfl⟩
     | 1,hx=>cases hx;exact ⟨_,rfl,rfl⟩
     | 2,hx=>cases hx;exact ⟨_,rfl,rfl⟩
     | 3,hx=>cases hx;exact ⟨_,rfl,rfl⟩
     | 4,hx=>cases hx;exact ⟨_,rfl,rfl⟩
     | 5,hx=>cases hx;exact ⟨_,rfl,rfl⟩
     | 6,hx=>cases hx;exact ⟨_,rfl,rfl⟩
     | i+7,hx=>cases hx
   ·refine Br.mk (fun _=>?_) (fun k=>absurd (show ((3:Nat):Int) < ((7:Nat):Int) by decide) k);refine Ob.o26 ?_;refine Ob.o26 ?_;intro x hx;have hx:x=[i64 (itI m 3).w,i64 (itI m 3).h,.own 6]:=(Option.some.inj hx).symm;rw [hx];intro hl2;have hl2:(f 3).length<=281474976710656:=hl2
    refine ⟨Nat×List Pix,fun z=>⟨[(82,i64 (z.1:Int)),(81,i64 ((f 3).length:Int)),(14,i64 (3:Nat)),(73,i64 (3:Nat)),(72,i64 (7:Nat)),(12,.own 0),(3,.loc 1 0),(7,.loc 2 0)],[(0,.garr 28 3 [[i64 (itI m 0).w,i64 (itI m 0).h,.own 3],[i64 (itI m 1).w,i64 (itI m 1).h,.own 4],[i64 (itI m 2).w,i64 (itI m 2).h,.own 5],[i64 (itI m 3).w,i64 (itI m 3).h,.own 6],[i64 (itI m 4).w,i64 (itI m 4).h,.own 7],[i64 (itI m 5).w,i64 (itI m 5).h,.own 8],[i64 (itI m 6).w,i64 (itI m 6).h,.own 9]]),(1,.box 28 (ze m)),(2,.box 28 (ze m)),(3,.arr 37 zb 4 (f 0)),(4,.arr 37 zb 4 (f 1)),(5,.arr 37 zb 4 (f 2)),(6,.arr 37 zb 4 z.2),(7,.arr 37 zb 4 (f 4)),(8,.arr 37 zb 4 (f 5)),(9,.arr 37 zb 4 (f 6))],10,108,0⟩,fun z=>z.1<=(f 3).length/\z.2.length=(f 3).length,fun z=>(f 3).length - z.1,(0,f 3),⟨Nat.zero_le _,rfl⟩,?_,?_⟩
    ·refine zi [(0,some 0),(1,some 1),(2,some 2),(3,some 3),(4,some 4),(5,some 5),(6,some 6),(7,some 7),(8,some 8),(9,some 9)] ⟨⟨_,rfl,rfl,fun i x hx=>?_⟩,rfl,rfl,rfl,rfl,rfl,rfl,rfl,rfl,rfl,trivial⟩
     match i,hx with
     | 0,hx=>cases hx;exact ⟨_,rfl,rfl⟩
     | 1,hx=>cases hx;exact ⟨_,rfl,rfl⟩
     | 2,hx=>cases hx;exact ⟨_,rfl,rfl⟩
     | 3,hx=>cases hx;exact ⟨_,rfl,rfl⟩
     | 4,hx=>cases hx;exact ⟨_,rfl,rfl⟩
     | 5,hx=>cases hx;exact ⟨_,rfl,rfl⟩
     | 6,hx=>cases hx;exact ⟨_,rfl,rfl⟩
     | i+7,hx=>cases hx
    rintro ⟨k,q⟩ ⟨hk,hq⟩
    have hk:k<=(f 3).length:=hk;have hq:q.length=(f 3).length:=hq;refine Br.mk (fun g=>?_) (fun g=>?_)
    ·have g:(k:Int) < ((f 3).length:Int):=g;refine Ob.o26 ?_;refine Ob.o26 ?_;intro x hx;have hx:x=[i64 (itI m 3).w,i64 (itI m 3).h,.own 6]:=(Option.some.inj hx).symm;rw [hx];refine Ob.o ?_;refine Ob.o ?_;intro y _;refine ⟨c77,rfl,?_⟩;refine Ar.o ?_
     refine ⟨(k+1,q.set k c77),⟨by show k+1<=_;omega,by show (q.set k c77).length=_;rw [List.length_set];exact hq⟩,zi [(0,some 0),(1,some 1),(2,some 2),(3,some 3),(4,some 4),(5,some 5),(6,some 6),(7,some 7),(8,some 8),(9,some 9)] ⟨⟨_,rfl,rfl,fun i x hx=>?_⟩,rfl,rfl,rfl,rfl,rfl,rfl,rfl,rfl,rfl,trivial⟩,by dsimp only;omega⟩
     match i,hx with
     | 0,hx=>cases hx;exact ⟨_,rfl,rfl⟩
     | 1,hx=>cases hx;exact ⟨_,rfl,rfl⟩
     | 2,hx=>cases hx;exact ⟨_,rfl,rfl⟩
     | 3,hx=>cases hx;exact ⟨_,rfl,rfl⟩
     | 4,hx=>cases hx;exact ⟨_,rfl,rfl⟩
     | 5,hx=>cases hx;exact ⟨_,rfl,rfl⟩
     | 6,hx=>cases hx;exact ⟨_,rfl,rfl⟩
     | i+7,hx=>cases hx
    ·refine Ar.fit (show -9223372036854775808<=((3:Nat):Int)+1/\((3:Nat):Int)+1<=9223372036854775807 by decide) ?_;refine ⟨(4,kO f 3 q),(show (4:Nat)<=7 by decide),zi [(0,some 0),(1,some 1),(2,some 2),(3,some 3),(4,some 4),(5,some 5),(6,some 6),(7,some 7),(8,some 8),(9,some 9)] ⟨⟨_,rfl,rfl,fun i x hx=>?_⟩,rfl,rfl,rfl,rfl,rfl,rfl,rfl,rfl,rfl,trivial⟩,(show (7:Nat) - 4 < 7 - 3 by decide)⟩
     match i,hx with
     | 0,hx=>cases hx;exact ⟨_,rfl,rfl⟩
     | 1,hx=>cases hx;exact ⟨_,rfl,rfl⟩
     | 2,hx=>cases hx;exact ⟨_,rfl,rfl⟩
     | 3,hx=>cases hx;exact ⟨_,rfl,rfl⟩
     | 4,hx=>cases hx;exact ⟨_,rfl,rfl⟩
     | 5,hx=>cases hx;exact ⟨_,rfl,rfl⟩
     | 6,hx=>cases hx;exact ⟨_,rfl,rfl⟩
     | i+7,hx=>cases hx
   ·refine Br.mk (fun _=>?_) (fun k=>absurd (show ((4:Nat):Int) < ((7:Nat):Int) by decide) k);refine Ob.o27 ?_;refine Ob.o27 ?_;intro x hx;have hx:x=[i64 (itI m 4).w,i64 (itI m 4).h,.own 7]:=(Option.some.inj hx).symm;rw [hx];intro hl2;have hl2:(f 4).length<=281474976710656:=hl2
    refine ⟨Nat×List Pix,fun z=>⟨[(82,i64 (z.1:Int)),(81,i64 ((f 4).length:Int)),(14,i64 (4:Nat)),(73,i64 (4:Nat)),(72,i64 (7:Nat)),(12,.own 0),(3,.loc 1 0),(7,.loc 2 0)],[(0,.garr 28 3 [[i64 (itI m 0).w,i64 (itI m 0).h,.own 3],[i64 (itI m 1).w,i64 (itI m 1).h,.own 4],[i64 (itI m 2).w,i64 (itI m 2).h,.own 5],[i64 (itI m 3).w,i64 (itI m 3).h,.own 6],[i64 (itI m 4).w,i64 (itI m 4).h,.own 7],[i64 (itI m 5).w,i64 (itI m 5).h,.own 8],[i64 (itI m 6).w,i64 (itI m 6).h,.own 9]]),(1,.box 28 (ze m)),(2,.box 28 (ze m)),(3,.arr 37 zb 4 (f 0)),(4,.arr 37 zb 4 (f 1)),(5,.arr 37 zb 4 (f 2)),(6,.arr 37 zb 4 (f 3)),(7,.arr 37 zb 4 z.2),(8,.arr 37 zb 4 (f 5)),(9,.arr 37 zb 4 (f 6))],10,108,0⟩,fun z=>z.1<=(f 4).length/\z.2.length=(f 4).length,fun z=>(f 4).length - z.1,(0,f 4),⟨Nat.zero_le _,rfl⟩,?_,?_⟩
    ·refine zi [(0,some 0),(1,some 1),(2,some 2),(3,some 3),(4,some 4),(5,some 5),(6,some 6),(7,some 7),(8,some 8),(9,some 9)] ⟨⟨_,rfl,rfl,fun i x hx=>?_⟩,rfl,rfl,rfl,rfl,rfl,rfl,rfl,rfl,rfl,trivial⟩
     match i,hx with
     | 0,hx=>cases hx;exact ⟨_,rfl,rfl⟩
     | 1,hx=>cases hx;exact ⟨_,rfl,rfl⟩
     | 2,hx=>cases hx;exact ⟨_,rfl,rfl⟩
     | 3,hx=>cases hx;exact ⟨_,rfl,rfl⟩
     | 4,hx=>cases hx;exact ⟨_,rfl,rfl⟩
     | 5,hx=>cases hx;exact ⟨_,rfl,rfl⟩
     | 6,hx=>cases hx;exact ⟨_,rfl,rfl⟩
     | i+7,hx=>cases hx
    rintro ⟨k,q⟩ ⟨hk,hq⟩
    have hk:k<=(f 4).length:=hk;have hq:q.length=(f 4).length:=hq;refine Br.mk (fun g=>?_) (fun g=>?_)
    ·have g:(k:Int) < ((f 4).length:Int):=g;refine Ob.o27 ?_;refine Ob.o27 ?_;intro x hx;have hx:x=[i64 (itI m 4).w,i64 (itI m 4).h,.own 7]:=(Option.some.inj hx).symm;rw [hx];refine Ob.o ?_;refine Ob.o ?_;intro y _;refine ⟨c77,rfl,?_⟩;refine Ar.o ?_
     refine ⟨(k+1,q.set k c77),⟨by show k+1<=_;omega,by show (q.set k c77).length=_;rw [List.length_set];exact hq⟩,zi [(0,some 0),(1,some 1),(2,some 2),(3,some 3),(4,some 4),(5,some 5),(6,some 6),(7,some 7),(8,some 8),(9,some 9)] ⟨⟨_,rfl,rfl,fun i x hx=>?_⟩,rfl,rfl,rfl,rfl,rfl,rfl,rfl,rfl,rfl,trivial⟩,by dsimp only;omega⟩
     match i,hx with
     | 0,hx=>cases hx;exact ⟨_,rfl,rfl⟩
     | 1,hx=>cases hx;exact ⟨_,rfl,rfl⟩
     | 2,hx=>cases hx;exact ⟨_,rfl,rfl⟩
     | 3,hx=>cases hx;exact ⟨_,rfl,rfl⟩
     | 4,hx=>cases hx;exact ⟨_,rfl,rfl⟩
     | 5,hx=>cases hx;exact ⟨_,rfl,rfl⟩
     | 6,hx=>cases hx;exact ⟨_,rfl,rfl⟩
     | i+7,hx=>cases hx
    ·refine Ar.fit (show -9223372036854775808<=((4:Nat):Int)+1/\((4:Nat):Int)+1<=9223372036854775807 by decide) ?_;refine ⟨(5,kO f 4 q),(show (5:Nat)<=7 by decide),zi [(0,some 0),(1,some 1),(2,some 2),(3,some 3),(4,some 4),(5,some 5),(6,some 6),(7,some 7),(8,some 8),(9,some 9)] ⟨⟨_,rfl,rfl,fun i x hx=>?_⟩,rfl,rfl,rfl,rfl,rfl,rfl,rfl,rfl,rfl,trivial⟩,(show (7:Nat) - 5 < 7 - 4 by decide)⟩
     match i,hx with
     | 0,hx=>cases hx;exact ⟨_,rfl,rfl⟩
     | 1,hx=>cases hx;exact ⟨_,rfl,rfl⟩
     | 2,hx=>cases hx;exact ⟨_,rfl,rfl⟩
     | 3,hx=>cases hx;exact ⟨_,rfl,rfl⟩
     | 4,hx=>cases hx;exact ⟨_,rfl,rfl⟩
     | 5,hx=>cases hx;exact ⟨_,rfl,rfl⟩
     | 6,hx=>cases hx;exact ⟨_,rfl,rfl⟩
     | i+7,hx=>cases hx
   ·refine Br.mk (fun _=>?_) (fun k=>absurd (show ((5:Nat):Int) < ((7:Nat):Int) by decide) k);refine Ob.o28 ?_;refine Ob.o28 ?_;intro x hx;have hx:x=[i64 (itI m 5).w,i64 (itI m 5).h,.own 8]:=(Option.some.inj hx).symm;rw [hx];intro hl2;have hl2:(f 5).length<=281474976710656:=hl2
    refine ⟨Nat×List Pix,fun z=>⟨[(82,i64 (z.1:Int)),(81,i64 ((f 5).length:Int)),(14,i64 (5:Nat)),(73,i64 (5:Nat)),(72,i64 (7:Nat)),(12,.own 0),(3,.loc 1 0),(7,.loc 2 0)],[(0,.garr 28 3 [[i64 (itI m 0).w,i64 (itI m 0).h,.own 3],[i64 (itI m 1).w,i64 (itI m 1).h,.own 4],[i64 (itI m 2).w,i64 (itI m 2).h,.own 5],[i64 (itI m 3).w,i64 (itI m 3).h,.own 6],[i64 (itI m 4).w,i64 (itI m 4).h,.own 7],[i64 (itI m 5).w,i64 (itI m 5).h,.own 8],[i64 (itI m 6).w,i64 (itI m 6).h,.own 9]]),(1,.box 28 (ze m)),(2,.box 28 (ze m)),(3,.arr 37 zb 4 (f 0)),(4,.arr 37 zb 4 (f 1)),(5,.arr 37 zb 4 (f 2)),(6,.arr 37 zb 4 (f 3)),(7,.arr 37 zb 4 (f 4)),(8,.arr 37 zb 4 z.2),(9,.arr 37 zb 4 (f 6))],10,108,0⟩,fun z=>z.1<=(f 5).length/\z.2.length=(f 5).length,fun z=>(f 5).length - z.1,(0,f 5),⟨Nat.zero_le _,rfl⟩,?_,?_⟩
    ·refine zi [(0,some 0),(1,some 1),(2,some 2),(3,some 3),(4,some 4),(5,some 5),(6,some 6),(7,some 7),(8,some 8),(9,some 9)] ⟨⟨_,rfl,rfl,fun i x hx=>?_⟩,rfl,rfl,rfl,rfl,rfl,rfl,rfl,rfl,rfl,trivial⟩
     match i,hx with
     | 0,hx=>cases hx;exact ⟨_,rfl,rfl⟩
     | 1,hx=>cases hx;exact ⟨_,rfl,rfl⟩
     | 2,hx=>cases hx;exact ⟨_,rfl,rfl⟩
     | 3,hx=>cases hx;exact ⟨_,rfl,rfl⟩
     | 4,hx=>cases hx;exact ⟨_,rfl,rfl⟩
     | 5,hx=>cases hx;exact ⟨_,rfl,rfl⟩
     | 6,hx=>cases hx;exact ⟨_,rfl,rfl⟩
     | i+7,hx=>cases hx
    rintro ⟨k,q⟩ ⟨hk,hq⟩
    have hk:k<=(f 5).length:=hk;have hq:q.length=(f 5).length:=hq;refine Br.mk (fun g=>?_) (fun g=>?_)
    ·have g:(k:Int) < ((f 5).length:Int):=g;refine Ob.o28 ?_;refine Ob.o28 ?_;intro x hx;have hx:x=[i64 (itI m 5).w,i64 (itI m 5).h,.own 8]:=(Option.some.inj hx).symm;rw [hx];refine Ob.o ?_;refine Ob.o ?_;intro y _;refine ⟨c77,rfl,?_⟩;refine Ar.o ?_
     refine ⟨(k+1,q.set k c77),⟨by show k+1<=_;omega,by show (q.set k c77).length=_;rw [List.length_set];exact hq⟩,zi [(0,some 0),(1,some 1),(2,some 2),(3,some 3),(4,some 4),(5,some 5),(6,some 6),(7,some 7),(8,some 8),(9,some 9)] ⟨⟨_,rfl,rfl,fun i x hx=>?_⟩,rfl,rfl,rfl,rfl,rfl,rfl,rfl,rfl,rfl,trivial⟩,by dsimp only;omega⟩
     match i,hx with
     | 0,hx=>cases hx;exact ⟨_,rfl,rfl⟩
     | 1,hx=>cases hx;exact ⟨_,rfl,rfl⟩
     | 2,hx=>cases hx;exact ⟨_,rfl,rfl⟩
     | 3,hx=>cases hx;exact ⟨_,rfl,rfl⟩
     | 4,hx=>cases hx;exact ⟨_,rfl,rfl⟩
     | 5,hx=>cases hx;exact ⟨_,rfl,rfl⟩
     | 6,hx=>cases hx;exact ⟨_,rfl,rfl⟩
     | i+7,hx=>cases hx
    ·refine Ar.fit (show -9223372036854775808<=((5:Nat):Int)+1/\((5:Nat):Int)+1<=9223372036854775807 by decide) ?_;refine ⟨(6,kO f 5 q),(show (6:Nat)<=7 by decide),zi [(0,some 0),(1,some 1),(2,some 2),(3,some 3),(4,some 4),(5,some 5),(6,some 6),(7,some 7),(8,some 8),(9,some 9)] ⟨⟨_,rfl,rfl,fun i x hx=>?_⟩,rfl,rfl,rfl,rfl,rfl,rfl,rfl,rfl,rfl,trivial⟩,(show (7:Nat) - 6 < 7 - 5 by decide)⟩
     match i,hx with
     | 0,hx=>cases hx;exact ⟨_,rfl,rfl⟩
     | 1,hx=>cases hx;exact ⟨_,rfl,rfl⟩
     | 2,hx=>cases hx;exact ⟨_,rfl,rfl⟩
     | 3,hx=>cases hx;exact ⟨_,rfl,rfl⟩
     | 4,hx=>cases hx;exact ⟨_,rfl,rfl⟩
     | 5,hx=>cases hx;exact ⟨_,rfl,rfl⟩
     | 6,hx=>cases hx;exact ⟨_,rfl,rfl⟩
     | i+7,hx=>cases hx
   ·refine Br.mk (fun _=>?_) (fun k=>absurd (show ((6:Nat):Int) < ((7:Nat):Int) by decide) k);refine Ob.o29 ?_;refine Ob.o29 ?_;intro x hx;have hx:x=[i64 (itI m 6).w,i64 (itI m 6).h,.own 9]:=(Option.some.inj hx).symm;rw [hx];intro hl2;have hl2:(f 6).length<=281474976710656:=hl2
    refine ⟨Nat×List Pix,fun z=>⟨[(82,i64 (z.1:Int)),(81,i64 ((f 6).length:Int)),(14,i64 (6:Nat)),(73,i64 (6:Nat)),(72,i64 (7:Nat)),(12,.own 0),(3,.loc 1 0),(7,.loc 2 0)],[(0,.garr 28 3 [[i64 (itI m 0).w,i64 (itI m 0).h,.own 3],[i64 (itI m 1).w,i64 (itI m 1).h,.own 4],[i64 (itI m 2).w,i64 (itI m 2).h,.own 5],[i64 (itI m 3).w,i64 (itI m 3).h,.own 6],[i64 (itI m 4).w,i64 (itI m 4).h,.own 7],[i64 (itI m 5).w,i64 (itI m 5).h,.own 8],[i64 (itI m 6).w,i64 (itI m 6).h,.own 9]]),(1,.box 28 (ze m)),(2,.box 28 (ze m)),(3,.arr 37 zb 4 (f 0)),(4,.arr 37 zb 4 (f 1)),(5,.arr 37 zb 4 (f 2)),(6,.arr 37 zb 4 (f 3)),(7,.arr 37 zb 4 (f 4)),(8,.arr 37 zb 4 (f 5)),(9,.arr 37 zb 4 z.2)],10,108,0⟩,fun z=>z.1<=(f 6).length/\z.2.length=(f 6).length,fun z=>(f 6).length - z.1,(0,f 6),⟨Nat.zero_le _,rfl⟩,?_,?_⟩
    ·refine zi [(0,some 0),(1,some 1),(2,some 2),(3,some 3),(4,some 4),(5,some 5),(6,some 6),(7,some 7),(8,some 8),(9,some 9)] ⟨⟨_,rfl,rfl,fun i x hx=>?_⟩,rfl,rfl,rfl,rfl,rfl,rfl,rfl,rfl,rfl,trivial⟩
     match i,hx with
     | 0,hx=>cases hx;exact ⟨_,rfl,rfl⟩
     | 1,hx=>cases hx;exact ⟨_,rfl,rfl⟩
     | 2,hx=>cases hx;exact ⟨_,rfl,rfl⟩
     | 3,hx=>cases hx;exact ⟨_,rfl,rfl⟩
     | 4,hx=>cases hx;exact ⟨_,rfl,rfl⟩
     | 5,hx=>cases hx;exact ⟨_,rfl,rfl⟩
     | 6,hx=>cases hx;exact ⟨_,rfl,rfl⟩
     | i+7,hx=>cases hx
    rintro ⟨k,q⟩ ⟨hk,hq⟩
    have hk:k<=(f 6).length:=hk;have hq:q.length=(f 6).length:=hq;refine Br.mk (fun g=>?_) (fun g=>?_)
    ·have g:(k:Int) < ((f 6).length:Int):=g;refine Ob.o29 ?_;refine Ob.o29 ?_;intro x hx;have hx:x=[i64 (itI m 6).w,i64 (itI m 6).h,.own 9]:=(Option.some.inj hx).symm;rw [hx];refine Ob.o ?_;refine Ob.o ?_;intro y _;refine ⟨c77,rfl,?_⟩;refine Ar.o ?_
     refine ⟨(k+1,q.set k c77),⟨by show k+1<=_;omega,by show (q.set k c77).length=_;rw [List.length_set];exact hq⟩,zi [(0,some 0),(1,some 1),(2,some 2),(3,some 3),(4,some 4),(5,some 5),(6,some 6),(7,some 7),(8,some 8),(9,some 9)] ⟨⟨_,rfl,rfl,fun i x hx=>?_⟩,rfl,rfl,rfl,rfl,rfl,rfl,rfl,rfl,rfl,trivial⟩,by dsimp only;omega⟩
     match i,hx with
     | 0,hx=>cases hx;exact ⟨_,rfl,rfl⟩
     | 1,hx=>cases hx;exact ⟨_,rfl,rfl⟩
     | 2,hx=>cases hx;exact ⟨_,rfl,rfl⟩
     | 3,hx=>cases hx;exact ⟨_,rfl,rfl⟩
     | 4,hx=>cases hx;exact ⟨_,rfl,rfl⟩
     | 5,hx=>cases hx;exact ⟨_,rfl,rfl⟩
     | 6,hx=>cases hx;exact ⟨_,rfl,rfl⟩
     | i+7,hx=>cases hx
    ·refine Ar.fit (show -9223372036854775808<=((6:Nat):Int)+1/\((6:Nat):Int)+1<=9223372036854775807 by decide) ?_;refine ⟨(7,kO f 6 q),(show (7:Nat)<=7 by decide),zi [(0,some 0),(1,some 1),(2,some 2),(3,some 3),(4,some 4),(5,some 5),(6,some 6),(7,some 7),(8,some 8),(9,some 9)] ⟨⟨_,rfl,rfl,fun i x hx=>?_⟩,rfl,rfl,rfl,rfl,rfl,rfl,rfl,rfl,rfl,trivial⟩,(show (7:Nat) - 7 < 7 - 6 by decide)⟩
     match i,hx with
     | 0,hx=>cases hx;exact ⟨_,rfl,rfl⟩
     | 1,hx=>cases hx;exact ⟨_,rfl,rfl⟩
     | 2,hx=>cases hx;exact ⟨_,rfl,rfl⟩
     | 3,hx=>cases hx;exact ⟨_,rfl,rfl⟩
     | 4,hx=>cases hx;exact ⟨_,rfl,rfl⟩
     | 5,hx=>cases hx;exact ⟨_,rfl,rfl⟩
     | 6,hx=>cases hx;exact ⟨_,rfl,rfl⟩
     | i+7,hx=>cases hx
   ·refine Br.mk (fun k=>absurd k (show ¬((7:Nat):Int) < ((7:Nat):Int) by decide)) (fun _=>?_);refine Dr.d ?_;refine zc.t (zV m m) ?_;refine Br.mk (fun _=>?_) (fun k=>absurd rfl k);refine zc.give [] 8 [.agg (ze m)] [] (zJ m 7) (.own 0) hmip LEs.refl rfl rfl rfl trivial rfl ⟨⟨rfl,zD rfl⟩,⟨rfl,trivial⟩,⟨rfl,trivial⟩,⟨rfl,trivial⟩,⟨rfl,trivial⟩,⟨rfl,trivial⟩,⟨rfl,trivial⟩,⟨rfl,trivial⟩,trivial⟩ ?_;refine zc.t cm' ?_
    refine zc.give [10,11,12,13,14,15,16,17] 0 [.own 0,.sl ze (zP m 7)] (zJ m 7) (zJ m 7) _ (zer m (zP m 7)) LEs.refl rfl rfl rfl ⟨⟨_,rfl,rfl,ku rfl⟩,⟨_,rfl,rfl,trivial⟩,⟨_,rfl,rfl,trivial⟩,⟨_,rfl,rfl,trivial⟩,⟨_,rfl,rfl,trivial⟩,⟨_,rfl,rfl,trivial⟩,⟨_,rfl,rfl,trivial⟩,⟨_,rfl,rfl,trivial⟩,trivial⟩ rfl ⟨⟨rfl,zD rfl⟩,⟨rfl,trivial⟩,⟨rfl,trivial⟩,⟨rfl,trivial⟩,⟨rfl,trivial⟩,⟨rfl,trivial⟩,⟨rfl,trivial⟩,⟨rfl,trivial⟩,trivial⟩ ?_;refine Br.mk (fun _=>?_) (fun k=>absurd rfl k);refine zc.t kz ?_;refine Ob.mk (by kernel_rfl) ?_
    exact .refl
  ·refine zc.give [] 9 [.agg (ze m)] [] (zJ m 8) (.own 0) hmip LEs.refl rfl rfl rfl trivial rfl ⟨⟨rfl,zD rfl⟩,⟨rfl,trivial⟩,⟨rfl,trivial⟩,⟨rfl,trivial⟩,⟨rfl,trivial⟩,⟨rfl,trivial⟩,⟨rfl,trivial⟩,⟨rfl,trivial⟩,⟨rfl,trivial⟩,trivial⟩ ?_;refine zc.t cm' ?_;refine zc.t (zV c.1 c.1) ?_;refine Br.mk (fun k=>absurd rfl k) (fun _=>?_);refine Br.mk (fun k=>absurd rfl k) (fun _=>?_)
   refine zc.give [6,7,8,9,10,11,12,13,14] 0 [.own 0,.sl ze (zP m 8)] (zJ m 8) (zJ m 8) _ (zes m (zP m 8)) LEs.refl rfl rfl rfl ⟨⟨_,rfl,rfl,ku rfl⟩,⟨_,rfl,rfl,trivial⟩,⟨_,rfl,rfl,trivial⟩,⟨_,rfl,rfl,trivial⟩,⟨_,rfl,rfl,trivial⟩,⟨_,rfl,rfl,trivial⟩,⟨_,rfl,rfl,trivial⟩,⟨_,rfl,rfl,trivial⟩,⟨_,rfl,rfl,trivial⟩,trivial⟩ rfl ⟨⟨rfl,zD rfl⟩,⟨rfl,trivial⟩,⟨rfl,trivial⟩,⟨rfl,trivial⟩,⟨rfl,trivial⟩,⟨rfl,trivial⟩,⟨rfl,trivial⟩,⟨rfl,trivial⟩,⟨rfl,trivial⟩,trivial⟩ ?_;refine Br.mk (fun k=>absurd rfl k) (fun _=>?_);intro hl1
   refine ⟨Nat×(Nat->List Pix),fun z=>⟨[(73,i64 (z.1:Int)),(72,i64 (8:Nat)),(12,.own 0),(3,.loc 1 0),(7,.loc 2 0)],[(0,.garr 28 3 [[i64 (itI m 0).w,i64 (itI m 0).h,.own 3],[i64 (itI m 1).w,i64 (itI m 1).h,.own 4],[i64 (itI m 2).w,i64 (itI m 2).h,.own 5],[i64 (itI m 3).w,i64 (itI m 3).h,.own 6],[i64 (itI m 4).w,i64 (itI m 4).h,.own 7],[i64 (itI m 5).w,i64 (itI m 5).h,.own 8],[i64 (itI m 6).w,i64 (itI m 6).h,.own 9],[i64 (itI m 7).w,i64 (itI m 7).h,.own 10]]),(1,.box 28 (ze m)),(2,.box 28 (ze m)),(3,.arr 37 zb 4 (z.2 0)),(4,.arr 37 zb 4 (z.2 1)),(5,.arr 37 zb 4 (z.2 2)),(6,.arr 37 zb 4 (z.2 3)),(7,.arr 37 zb 4 (z.2 4)),(8,.arr 37 zb 4 (z.2 5)),(9,.arr 37 zb 4 (z.2 6)),(10,.arr 37 zb 4 (z.2 7))],11,108,0⟩,fun z=>z.1<=8,fun z=>8 - z.1,(0,fun j=>(itI m j).px),Nat.zero_le _,?_,?_⟩
   ·refine (kX 3 1 (enc:=zb) (ys:=m.px) (cs:=[i64 m.w,i64 m.h,.own 3]) (cs':=ze m) rfl rfl rfl (fun j s' hs'=>by
     match j,hs' with
     | 0,hs'=>cases hs';exact ⟨_,rfl,.inl rfl⟩
     | 1,hs'=>cases hs';exact ⟨_,rfl,.inl rfl⟩
     | 2,hs'=>cases hs';exact ⟨_,rfl,.inr ⟨rfl,rfl⟩⟩
     | j+3,hs'=>cases hs')).trans (zi [(0,some 6),(1,some 0),(2,some 1),(3,some 7),(4,some 8),(5,some 9),(6,some 10),(7,some 11),(8,some 12),(9,some 13),(10,some 14)] ⟨⟨_,rfl,rfl,fun i x hx=>?_⟩,rfl,rfl,rfl,rfl,rfl,rfl,rfl,rfl,rfl,rfl,trivial⟩)
    match i,hx with
    | 0,hx=>cases hx;exact ⟨_,rfl,rfl⟩
    | 1,hx=>cases hx;exact ⟨_,rfl,rfl⟩
    | 2,hx=>cases hx;exact ⟨_,rfl,rfl⟩
    | 3,hx=>cases hx;exact ⟨_,rfl,rfl⟩
    | 4,hx=>cases hx;exact ⟨_,rfl,rfl⟩
    | 5,hx=>cases hx;exact ⟨_,rfl,rfl⟩
    | 6,hx=>cases hx;exact ⟨_,rfl,rfl⟩
    | 7,hx=>cases hx;exact ⟨_,rfl,rfl⟩
    | i+8,hx=>cases hx
   rintro ⟨i,f⟩ hi
   have hi:i<=8:=hi;have hin:i=0∨i=1∨i=2∨i=3∨i=4∨i=5∨i=6∨i=7∨i=8:=oM
   rcases hin with rfl | rfl | rfl | rfl | rfl | rfl | rfl | rfl | rfl
   ·refine Br.mk (fun _=>?_) (fun k=>absurd (show ((0:Nat):Int) < ((8:Nat):Int) by decide) k);refine Ob.o30 ?_;refine Ob.o30 ?_;intro x hx;have hx:x=[i64 (itI m 0).w,i64 (itI m 0).h,.own 3]:=(Option.some.inj hx).symm;rw [hx];intro hl2;have hl2:(f 0).length<=281474976710656:=hl2
    refine ⟨Nat×List Pix,fun z=>⟨[(82,i64 (z.1:Int)),(81,i64 ((f 0).length:Int)),(14,i64 (0:Nat)),(73,i64 (0:Nat)),(72,i64 (8:Nat)),(12,.own 0),(3,.loc 1 0),(7,.loc 2 0)],[(0,.garr 28 3 [[i64 (itI m 0).w,i64 (itI m 0).h,.own 3],[i64 (itI m 1).w,i64 (itI m 1).h,.own 4],[i64 (itI m 2).w,i64 (itI m 2).h,.own 5],[i64 (itI m 3).w,i64 (itI m 3).h,.own 6],[i64 (itI m 4).w,i64 (itI m 4).h,.own 7],[i64 (itI m 5).w,i64 (itI m 5).h,.own 8],[i64 (itI m 6).w,i64 (itI m 6).h,.own 9],[i64 (itI m 7).w,i64 (itI m 7).h,.own 10]]),(1,.box 28 (ze m)),(2,.box 28 (ze m)),(3,.arr 37 zb 4 z.2),(4,.arr 37 zb 4 (f 1)),(5,.arr 37 zb 4 (f 2)),(6,.arr 37 zb 4 (f 3)),(7,.arr 37 zb 4 (f 4)),(8,.arr 37 zb 4 (f 5)),(9,.arr 37 zb 4 (f 6)),(10,.arr 37 zb 4 (f 7))],11,108,0⟩,fun z=>z.1<=(f 0).length/\z.2.length=(f 0).length,fun z=>(f 0).length - z.1,(0,f 0),⟨Nat.zero_le _,rfl⟩,?_,?_⟩
    ·refine zi [(0,some 0),(1,some 1),(2,some 2),(3,some 3),(4,some 4),(5,some 5),(6,some 6),(7,some 7),(8,some 8),(9,some 9),(10,some 10)] ⟨⟨_,rfl,rfl,fun i x hx=>?_⟩,rfl,rfl,rfl,rfl,rfl,rfl,rfl,rfl,rfl,rfl,trivial⟩
     match i,hx with
     | 0,hx=>cases hx;exact ⟨_,rfl,rfl⟩
     | 1,hx=>cases hx;exact ⟨_,rfl,rfl⟩
     | 2,hx=>cases hx;exact ⟨_,rfl,rfl⟩
     | 3,hx=>cases hx;exact ⟨_,rfl,rfl⟩
     | 4,hx=>cases hx;exact ⟨_,rfl,rfl⟩
     | 5,hx=>cases hx;exact ⟨_,rfl,rfl⟩
     | 6,hx=>cases hx;exact ⟨_,rfl,rfl⟩
     | 7,hx=>cases hx;exact ⟨_,rfl,rfl⟩
     | i+8,hx=>cases hx
    rintro ⟨k,q⟩ ⟨hk,hq⟩
    have hk:k<=(f 0).length:=hk;have hq:q.length=(f 0).length:=hq;refine Br.mk (fun g=>?_) (fun g=>?_)
    ·have g:(k:Int) < ((f 0).length:Int):=g;refine Ob.o30 ?_;refine Ob.o30 ?_;intro x hx;have hx:x=[i64 (itI m 0).w,i64 (itI m 0).h,.own 3]:=(Option.some.inj hx).symm;rw [hx];refine Ob.o ?_;refine Ob.o ?_;intro y _;refine ⟨c77,rfl,?_⟩;refine Ar.o ?_
     refine ⟨(k+1,q.set k c77),⟨by show k+1<=_;omega,by show (q.set k c77).length=_;rw [List.length_set];exact hq⟩,zi [(0,some 0),(1,some 1),(2,some 2),(3,some 3),(4,some 4),(5,some 5),(6,some 6),(7,some 7),(8,some 8),(9,some 9),(10,some 10)] ⟨⟨_,rfl,rfl,fun i x hx=>?_⟩,rfl,rfl,rfl,rfl,rfl,rfl,rfl,rfl,rfl,rfl,trivial⟩,by dsimp only;omega⟩
     match i,hx with
     | 0,hx=>cases hx;exact ⟨_,rfl,rfl⟩
     | 1,hx=>cases hx;exact ⟨_,rfl,rfl⟩
     | 2,hx=>cases hx;exact ⟨_,rfl,rfl⟩
     | 3,hx=>cases hx;exact ⟨_,rfl,rfl⟩
     | 4,hx=>cases hx;exact ⟨_,rfl,rfl⟩
     | 5,hx=>cases hx;exact ⟨_,rfl,rfl⟩
     | 6,hx=>cases hx;exact ⟨_,rfl,rfl⟩
     | 7,hx=>cases hx;exact ⟨_,rfl,rfl⟩
     | i+8,hx=>cases hx
    ·refine Ar.fit (show -9223372036854775808<=((0:Nat):Int)+1/\((0:Nat):Int)+1<=9223372036854775807 by decide) ?_;refine ⟨(1,kO f 0 q),(show (1:Nat)<=8 by decide),zi [(0,some 0),(1,some 1),(2,some 2),(3,some 3),(4,some 4),(5,some 5),(6,some 6),(7,some 7),(8,some 8),(9,some 9),(10,some 10)] ⟨⟨_,rfl,rfl,fun i x hx=>?_⟩,rfl,rfl,rfl,rfl,rfl,rfl,rfl,rfl,rfl,rfl,trivial⟩,(show (8:Nat) - 1 < 8 - 0 by decide)⟩
     match i,hx with
     | 0,hx=>cases hx;exact ⟨_,rfl,rfl⟩
     | 1,hx=>cases hx;exact ⟨_,rfl,rfl⟩
     | 2,hx=>cases hx;exact ⟨_,rfl,rfl⟩
     | 3,hx=>cases hx;exact ⟨_,rfl,rfl⟩
     | 4,hx=>cases hx;exact ⟨_,rfl,rfl⟩
     | 5,hx=>cases hx;exact ⟨_,rfl,rfl⟩
     | 6,hx=>cases hx;exact ⟨_,rfl,rfl⟩
     | 7,hx=>cases hx;exact ⟨_,rfl,rfl⟩
     | i+8,hx=>cases hx
   ·refine Br.mk (fun _=>?_) (fun k=>absurd (show ((1:Nat):Int) < ((8:Nat):Int) by decide) k);refine Ob.o31 ?_;refine Ob.o31 ?_;intro x hx;have hx:x=[i64 (itI m 1).w,i64 (itI m 1).h,.own 4]:=(Option.some.inj hx).symm;rw [hx];intro hl2;have hl2:(f 1).length<=281474976710656:=hl2
    refine ⟨Nat×List Pix,fun z=>⟨[(82,i64 (z.1:Int)),(81,i64 ((f 1).length:Int)),(14,i64 (1:Nat)),(73,i64 (1:Nat)),(72,i64 (8:Nat)),(12,.own 0),(3,.loc 1 0),(7,.loc 2 0)],[(0,.garr 28 3 [[i64 (itI m 0).w,i64 (itI m 0).h,.own 3],[i64 (itI m 1).w,i64 (itI m 1).h,.own 4],[i64 (itI m 2).w,i64 (itI m 2).h,.own 5],[i64 (itI m 3).w,i64 (itI m 3).h,.own 6],[i64 (itI m 4).w,i64 (itI m 4).h,.own 7],[i64 (itI m 5).w,i64 (itI m 5).h,.own 8],[i64 (itI m 6).w,i64 (itI m 6).h,.own 9],[i64 (itI m 7).w,i64 (itI m 7).h,.own 10]]),(1,.box 28 (ze m)),(2,.box 28 (ze m)),(3,.arr 37 zb 4 (f 0)),(4,.arr 37 zb 4 z.2),(5,.arr 37 zb 4 (f 2)),(6,.arr 37 zb 4 (f 3)),(7,.arr 37 zb 4 (f 4)),(8,.arr 37 zb 4 (f 5)),(9,.arr 37 zb 4 (f 6)),(10,.arr 37 zb 4 (f 7))],11,108,0⟩,fun z=>z.1<=(f 1).length/\z.2.length=(f 1).length,fun z=>(f 1).length - z.1,(0,f 1),⟨Nat.zero_le _,rfl⟩,?_,?_⟩
    ·refine zi [(0,some 0),(1,some 1),(2,some 2),(3,some 3),(4,some 4),(5,some 5),(6,some 6),(7,some 7),(8,some 8),(9,some 9),(10,some 10)] ⟨⟨_,rfl,rfl,fun i x hx=>?_⟩,rfl,rfl,rfl,rfl,rfl,rfl,rfl,rfl,rfl,rfl,trivial⟩
     match i,hx with
     | 0,hx=>cases hx;exact ⟨_,rfl,rfl⟩
     | 1,hx=>cases hx;exact ⟨_,rfl,rfl⟩
     | 2,hx=>cases hx;exact ⟨_,rfl,rfl⟩
     | 3,hx=>cases hx;exact ⟨_,rfl,rfl⟩
     | 4,hx=>cases hx;exact ⟨_,rfl,rfl⟩
     | 5,hx=>cases hx;exact ⟨_,rfl,rfl⟩
     | 6,hx=>cases hx;exact ⟨_,rfl,rfl⟩
     | 7,hx=>cases hx;exact ⟨_,rfl,rfl⟩
     | i+8,hx=>cases hx
    rintro ⟨k,q⟩ ⟨hk,hq⟩
    have hk:k<=(f 1).length:=hk;have hq:q.length=(f 1).length:=hq;refine Br.mk (fun g=>?_) (fun g=>?_)
    ·have g:(k:Int) < ((f 1).length:Int):=g;refine Ob.o31 ?_;refine Ob.o31 ?_;intro x hx;have hx:x=[i64 (itI m 1).w,i64 (itI m 1).h,.own 4]:=(Option.some.inj hx).symm;rw [hx];refine Ob.o ?_;refine Ob.o ?_;intro y _;refine ⟨c77,rfl,?_⟩;refine Ar.o ?_
     refine ⟨(k+1,q.set k c77),⟨by show k+1<=_;omega,by show (q.set k c77).length=_;rw [List.length_set];exact hq⟩,zi [(0,some 0),(1,some 1),(2,some 2),(3,some 3),(4,some 4),(5,some 5),(6,some 6),(7,some 7),(8,some 8),(9,some 9),(10,some 10)] ⟨⟨_,rfl,rfl,fun i x hx=>?_⟩,rfl,rfl,rfl,rfl,rfl,rfl,rfl,rfl,rfl,rfl,trivial⟩,by dsimp only;omega⟩
     match i,hx with
     | 0,hx=>cases hx;exact ⟨_,rfl,rfl⟩
     | 1,hx=>cases hx;exact ⟨_,rfl,rfl⟩
     | 2,hx=>cases hx;exact ⟨_,rfl,rfl⟩
     | 3,hx=>cases hx;exact ⟨_,rfl,rfl⟩
     | 4,hx=>cases hx;exact ⟨_,rfl,rfl⟩
     | 5,hx=>cases hx;exact ⟨_,rfl,rfl⟩
     | 6,hx=>cases hx;exact ⟨_,rfl,rfl⟩
     | 7,hx=>cases hx;exact ⟨_,rfl,rfl⟩
     | i+8,hx=>cases hx
    ·refine Ar.fit (show -9223372036854775808<=((1:Nat):Int)+1/\((1:Nat):Int)+1<=9223372036854775807 by decide) ?_;refine ⟨(2,kO f 1 q),(show (2:Nat)<=8 by decide),zi [(0,some 0),(1,some 1),(2,some 2),(3,some 3),(4,some 4),(5,some 5),(6,some 6),(7,some 7),(8,some 8),(9,some 9),(10,some 10)] ⟨⟨_,rfl,rfl,fun i x hx=>?_⟩,rfl,rfl,rfl,rfl,rfl,rfl,rfl,rfl,rfl,rfl,trivial⟩,(show (8:Nat) - 2 < 8 - 1 by decide)⟩
     match i,hx with
     | 0,hx=>cases hx;exact ⟨_,rfl,rfl⟩
     | 1,hx=>cases hx;exact ⟨_,rfl,rfl⟩
     | 2,hx=>cases hx;exact ⟨_,rfl,rfl⟩
     | 3,hx=>cases hx;exact ⟨_,rfl,rfl⟩
     | 4,hx=>cases hx;exact ⟨_,rfl,rfl⟩
     | 5,hx=>cases hx;exact ⟨_,rfl,rfl⟩
     | 6,hx=>cases hx;exact ⟨_,rfl,rfl⟩
     | 7,hx=>cases hx;exact ⟨_,rfl,rfl⟩
     | i+8,hx=>cases hx
   ·refine Br.mk (fun _=>?_) (fun k=>absurd (show ((2:Nat):Int) < ((8:Nat):Int) by decide) k);refine Ob.o32 ?_;refine Ob.o32 ?_;intro x hx;have hx:x=[i64 (itI m 2).w,i64 (itI m 2).h,.own 5]:=(Option.some.inj hx).symm;rw [hx];intro hl2;have hl2:(f 2).length<=281474976710656:=hl2
    refine ⟨Nat×List Pix,fun z=>⟨[(82,i64 (z.1:Int)),(81,i64 ((f 2).length:Int)),(14,i64 (2:Nat)),(73,i64 (2:Nat)),(72,i64 (8:Nat)),(12,.own 0),(3,.loc 1 0),(7,.loc 2 0)],[(0,.garr 28 3 [[i64 (itI m 0).w,i64 (itI m 0).h,.own 3],[i64 (itI m 1).w,i64 (itI m 1).h,.own 4],[i64 (itI m 2).w,i64 (itI m 2).h,.own 5],[i64 (itI m 3).w,i64 (itI m 3).h,.own 6],[i64 (itI m 4).w,i64 (itI m 4).h,.own 7],[i64 (itI m 5).w,i64 (itI m 5).h,.own 8],[i64 (itI m 6).w,i64 (itI m 6).h,.own 9],[i64 (itI m 7).w,i64 (itI m 7).h,.own 10]]),(1,.box 28 (ze m)),(2,.box 28 (ze m)),(3,.arr 37 zb 4 (f 0)),(4,.arr 37 zb 4 (f 1)),(5,.arr 37 zb 4 z.2),(6,.arr 37 zb 4 (f 3)),(7,.arr 37 zb 4 (f 4)),(8,.arr 37 zb 4 (f 5)),(9,.arr 37 zb 4 (f 6)),(10,.arr 37 zb 4 (f 7))],11,108,0⟩,fun z=>z.1<=(f 2).length/\z.2.length=(f 2).length,fun z=>(f 2).length - z.1,(0,f 2),⟨Nat.zero_le _,rfl⟩,?_,?_⟩
    ·refine zi [(0,some 0),(1,some 1),(2,some 2),(3,some 3),(4,some 4),(5,some 5),(6,some 6),(7,some 7),(8,some 8),(9,some 9),(10,some 10)] ⟨⟨_,rfl,rfl,fun i x hx=>?_⟩,rfl,rfl,rfl,rfl,rfl,rfl,rfl,rfl,rfl,rfl,trivial⟩
     match i,hx with
     | 0,hx=>cases hx;exact ⟨_,rfl,rfl⟩
     | 1,hx=>cases hx;exact ⟨_,rfl,rfl⟩
     | 2,hx=>cases hx;exact ⟨_,rfl,rfl⟩
     | 3,hx=>cases hx;exact ⟨_,rfl,rfl⟩
     | 4,hx=>cases hx;exact ⟨_,rfl,rfl⟩
     | 5,hx=>cases hx;exact ⟨_,rfl,rfl⟩
     | 6,hx=>cases hx;exact ⟨_,rfl,rfl⟩
     | 7,hx=>cases hx;exact ⟨_,rfl,rfl⟩
     | i+8,hx=>cases hx
    rintro ⟨k,q⟩ ⟨hk,hq⟩
    have hk:k<=(f 2).length:=hk;have hq:q.length=(f 2).length:=hq;refine Br.mk (fun g=>?_) (fun g=>?_)
    ·have g:(k:Int) < ((f 2).length:Int):=g;refine Ob.o32 ?_;refine Ob.o32 ?_;intro x hx;have hx:x=[i64 (itI m 2).w,i64 (itI m 2).h,.own 5]:=(Option.some.inj hx).symm;rw [hx];refine Ob.o ?_;refine Ob.o ?_;intro y _;refine ⟨c77,rfl,?_⟩;refine Ar.o ?_
     refine ⟨(k+1,q.set k c77),⟨by show k+1<=_;omega,by show (q.set k c77).length=_;rw [List.length_set];exact hq⟩,zi [(0,some 0),(1,some 1),(2,some 2),(3,some 3),(4,some 4),(5,some 5),(6,some 6),(7,some 7),(8,some 8),(9,some 9),(10,some 10)] ⟨⟨_,rfl,rfl,fun i x hx=>?_⟩,rfl,rfl,rfl,rfl,rfl,rfl,rfl,rfl,rfl,rfl,trivial⟩,by dsimp only;omega⟩
     match i,hx with
     | 0,hx=>cases hx;exact ⟨_,rfl,rfl⟩
     | 1,hx=>cases hx;exact ⟨_,rfl,rfl⟩
     | 2,hx=>cases hx;exact ⟨_,rfl,rfl⟩
     | 3,hx=>cases hx;exact ⟨_,rfl,rfl⟩
     | 4,hx=>cases hx;exact ⟨_,rfl,rfl⟩
     | 5,hx=>cases hx;exact ⟨_,rfl,rfl⟩
     | 6,hx=>cases hx;exact ⟨_,rfl,rfl⟩
     | 7,hx=>cases hx;exact ⟨_,rfl,rfl⟩
     | i+8,hx=>cases hx
    ·refine Ar.fit (show -9223372036854775808<=((2:Nat):Int)+1/\((2:Nat):Int)+1<=9223372036854775807 by decide) ?_;refine ⟨(3,kO f 2 q),(show (3:Nat)<=8 by decide),zi [(0,some 0),(1,some 1),(2,some 2),(3,some 3),(4,some 4),(5,some 5),(6,some 6),(7,some 7),(8,some 8),(9,some 9),(10,some 10)] ⟨⟨_,rfl,rfl,fun i x hx=>?_⟩,rfl,rfl,rfl,rfl,rfl,rfl,rfl,rfl,rfl,rfl,trivial⟩,(show (8:Nat) - 3 < 8 - 2 by decide)⟩
     match i,hx with
     | 0,hx=>cases hx;exact ⟨_,rfl,rfl⟩
     | 1,hx=>cases hx;exact ⟨_,rfl,rfl⟩
     | 2,hx=>cases hx;exact ⟨_,rfl,rfl⟩
     | 3,hx=>cases hx;exact ⟨_,rfl,rfl⟩
     | 4,hx=>cases hx;exact ⟨_,rfl,rfl⟩
     | 5,hx=>cases hx;exact ⟨_,rfl,rfl⟩
     | 6,hx=>cases hx;exact ⟨_,rfl,rfl⟩
     | 7,hx=>cases hx;exact ⟨_,rfl,rfl⟩
     | i+8,hx=>cases hx
   ·refine Br.mk (fun _=>?_) (fun k=>absurd (show ((3:Nat):Int) < ((8:Nat):Int) by decide) k);refine Ob.o33 ?_;refine Ob.o33 ?_;intro x hx;have hx:x=[i64 (itI m 3).w,i64 (itI m 3).h,.own 6]:=(Option.some.inj hx).symm;rw [hx];intro hl2;have hl2:(f 3).length<=281474976710656:=hl2
    refine ⟨Nat×List Pix,fun z=>⟨[(82,i64 (z.1:Int)),(81,i64 ((f 3).length:Int)),(14,i64 (3:Nat)),(73,i64 (3:Nat)),(72,i64 (8:Nat)),(12,.own 0),(3,.loc 1 0),(7,.loc 2 0)],[(0,.garr 28 3 [[i64 (itI m 0).w,i64 (itI m 0).h,.own 3],[i64 (itI m 1).w,i64 (itI m 1).h,.own 4],[i64 (itI m 2).w,i64 (itI m 2).h,.own 5],[i64 (itI m 3).w,i64 (itI m 3).h,.own 6],[i64 (itI m 4).w,i64 (itI m 4).h,.own 7],[i64 (itI m 5).w,i64 (itI m 5).h,.own 8],[i64 (itI m 6).w,i64 (itI m 6).h,.own 9],[i64 (itI m 7).w,i64 (itI m 7).h,.own 10]]),(1,.box 28 (ze m)),(2,.box 28 (ze m)),(3,.arr 37 zb 4 (f 0)),(4,.arr 37 zb 4 (f 1)),(5,.arr 37 zb 4 (f 2)),(6,.arr 37 zb 4 z.2),(7,.arr 37 zb 4 (f 4)),(8,.arr 37 zb 4 (f 5)),(9,.arr 37 zb 4 (f 6)),(10,.arr 37 zb 4 (f 7))],11,108,0⟩,fun z=>z.1<=(f 3).length/\z.2.length=(f 3).length,fun z=>(f 3).length - z.1,(0,f 3),⟨Nat.zero_le _,rfl⟩,?_,?_⟩
    ·refine zi [(0,some 0),(1,some 1),(2,some 2),(3,some 3),(4,some 4),(5,some 5),(6,some 6),(7,some 7),(8,some 8),(9,some 9),(10,some 10)] ⟨⟨_,rfl,rfl,fun i x hx=>?_⟩,rfl,rfl,rfl,rfl,rfl,rfl,rfl,rfl,rfl,rfl,trivial⟩
     match i,hx with
     | 0,hx=>cases hx;exact ⟨_,rfl,rfl⟩
     | 1,hx=>cases hx;exact ⟨_,rfl,rfl⟩
     | 2,hx=>cases hx;exact ⟨_,rfl,rfl⟩
     | 3,hx=>cases hx;exact ⟨_,rfl,rfl⟩
     | 4,hx=>cases hx;exact ⟨_,rfl,rfl⟩
     | 5,hx=>cases hx;exact ⟨_,rfl,rfl⟩
     | 6,hx=>cases hx;exact ⟨_,rfl,rfl⟩
     | 7,hx=>cases hx;exact ⟨_,rfl,rfl⟩
     | i+8,hx=>cases hx
    rintro ⟨k,q⟩ ⟨hk,hq⟩
    have hk:k<=(f 3).length:=hk;have hq:q.length=(f 3).length:=hq;refine Br.mk (fun g=>?_) (fun g=>?_)
    ·have g:(k:Int) < ((f 3).length:Int):=g;refine Ob.o33 ?_;refine Ob.o33 ?_;intro x hx;have hx:x=[i64 (itI m 3).w,i64 (itI m 3).h,.own 6]:=(Option.some.inj hx).symm;rw [hx];refine Ob.o ?_;refine Ob.o ?_;intro y _;refine ⟨c77,rfl,?_⟩;refine Ar.o ?_
     refine ⟨(k+1,q.set k c77),⟨by show k+1<=_;omega,by show (q.set k c77).length=_;rw [List.length_set];exact hq⟩,zi [(0,some 0),(1,some 1),(2,some 2),(3,some 3),(4,some 4),(5,some 5),(6,some 6),(7,some 7),(8,some 8),(9,some 9),(10,some 10)] ⟨⟨_,rfl,rfl,fun i x hx=>?_⟩,rfl,rfl,rfl,rfl,rfl,rfl,rfl,rfl,rfl,rfl,trivial⟩,by dsimp only;omega⟩
     match i,hx with
     | 0,hx=>cases hx;exact ⟨_,rfl,rfl⟩
     | 1,hx=>cases hx;exact ⟨_,rfl,rfl⟩
     | 2,hx=>cases hx;exact ⟨_,rfl,rfl⟩
     | 3,hx=>cases hx;exact ⟨_,rfl,rfl⟩
     | 4,hx=>cases hx;exact ⟨_,rfl,rfl⟩
     | 5,hx=>cases hx;exact ⟨_,rfl,rfl⟩
     | 6,hx=>cases hx;exact ⟨_,rfl,rfl⟩
     | 7,hx=>cases hx;exact ⟨_,rfl,rfl⟩
     | i+8,hx=>cases hx
    ·refine Ar.fit (show -9223372036854775808<=((3:Nat):Int)+1/\((3:Nat):Int)+1<=9223372036854775807 by decide) ?_;refine ⟨(4,kO f 3 q),(show (4:Nat)<=8 by decide),zi [(0,some 0),(1,some 1),(2,some 2),(3,some 3),(4,some 4),(5,some 5),(6,some 6),(7,some 7),(8,some 8),(9,some 9),(10,some 10)] ⟨⟨_,rfl,rfl,fun i x hx=>?_⟩,rfl,rfl,rfl,rfl,rfl,rfl,rfl,rfl,rfl,rfl,trivial⟩,(show (8:Nat) - 4 < 8 - 3 by decide)⟩
     match i,hx with
     | 0,hx=>cases hx;exact ⟨_,rfl,rfl⟩
     | 1,hx=>cases hx;exact ⟨_,rfl,rfl⟩
     | 2,hx=>cases hx;exact ⟨_,rfl,rfl⟩
     | 3,hx=>cases hx;exact ⟨_,rfl,rfl⟩
     | 4,hx=>cases hx;exact ⟨_,rfl,rfl⟩
     | 5,hx=>cases hx;exact ⟨_,rfl,rfl⟩
     | 6,hx=>cases hx;exact ⟨_,rfl,rfl⟩
     | 7,hx=>cases hx;exact ⟨_,rfl,rfl⟩
     | i+8,hx=>cases hx
   ·refine Br.mk (fun _=>?_) (fun k=>absurd (show ((4:Nat):Int) < ((8:Nat):Int) by decide) k);refine Ob.o34 ?_;refine Ob.o34 ?_;intro x hx;have hx:x=[i64 (itI m 4).w,i64 (itI m 4).h,.own 7]:=(Option.some.inj hx).symm;rw [hx];intro hl2;have hl2:(f 4).length<=281474976710656:=hl2
    refine ⟨Nat×List Pix,fun z=>⟨[(82,i64 (z.1:Int)),(81,i64 ((f 4).length:Int)),(14,i64 (4:Nat)),(73,i64 (4:Nat)),(72,i64 (8:Nat)),(12,.own 0),(3,.loc 1 0),(7,.loc 2 0)],[(0,.garr 28 3 [[i64 (itI m 0).w,i64 (itI m 0).h,.own 3],[i64 (itI m 1).w,i64 (itI m 1).h,.own 4],[i64 (itI m 2).w,i64 (itI m 2).h,.own 5],[i64 (itI m 3).w,i64 (itI m 3).h,.own 6],[i64 (itI m 4).w,i64 (itI m 4).h,.own 7],[i64 (itI m 5).w,i64 (itI m 5).h,.own 8],[i64 (itI m 6).w,i64 (itI m 6).h,.own 9],[i64 (itI m 7).w,i64 (itI m 7).h,.own 10]]),(1,.box 28 (ze m)),(2,.box 28 (ze m)),(3,.arr 37 zb 4 (f 0)),(4,.arr 37 zb 4 (f 1)),(5,.arr 37 zb 4 (f 2)),(6,.arr 37 zb 4 (f 3)),(7,.arr 37 zb 4 z.2),(8,.arr 37 zb 4 (f 5)),(9,.arr 37 zb 4 (f 6)),(10,.arr 37 zb 4 (f 7))],11,108,0⟩,fun z=>z.1<=(f 4).length/\z.2.length=(f 4).length,fun z=>(f 4).length - z.1,(0,f 4),⟨Nat.zero_le _,rfl⟩,?_,?_⟩
    ·refine zi [(0,some 0),(1,some 1),(2,some 2),(3,some 3),(4,some 4),(5,some 5),(6,some 6),(7,some 7),(8,some 8),(9,some 9),(10,some 10)] ⟨⟨_,rfl,rfl,fun i x hx=>?_⟩,rfl,rfl,rfl,rfl,rfl,rfl,rfl,rfl,rfl,rfl,trivial⟩
     match i,hx with
     | 0,hx=>cases hx;exact ⟨_,rfl,rfl⟩
     | 1,hx=>cases hx;exact ⟨_,rfl,rfl⟩
     | 2,hx=>cases hx;exact ⟨_,rfl,rfl⟩
     | 3,hx=>cases hx;exact ⟨_,rfl,rfl⟩
     | 4,hx=>cases hx;exact ⟨_,rfl,rfl⟩
     | 5,hx=>cases hx;exact ⟨_,rfl,rfl⟩
     | 6,hx=>cases hx;exact ⟨_,rfl,rfl⟩
     | 7,hx=>cases hx;exact ⟨_,rfl,rfl⟩
     | i+8,hx=>cases hx
    rintro ⟨k,q⟩ ⟨hk,hq⟩
    have hk:k<=(f 4).length:=hk;have hq:q.length=(f 4).length:=hq;refine Br.mk (fun g=>?_) (fun g=>?_)
    ·have g:(k:Int) < ((f 4).length:Int):=g;refine Ob.o34 ?_;refine Ob.o34 ?_;intro x hx;have hx:x=[i64 (itI m 4).w,i64 (itI m 4).h,.own 7]:=(Option.some.inj hx).symm;rw [hx];refine Ob.o ?_;refine Ob.o ?_;intro y _;refine ⟨c77,rfl,?_⟩;refine Ar.o ?_
     refine ⟨(k+1,q.set k c77),⟨by show k+1<=_;omega,by show (q.set k c77).length=_;rw [List.length_set];exact hq⟩,zi [(0,some 0),(1,some 1),(2,some 2),(3,some 3),(4,some 4),(5,some 5),(6,some 6),(7,some 7),(8,some 8),(9,some 9),(10,some 10)] ⟨⟨_,rfl,rfl,fun i x hx=>?_⟩,rfl,rfl,rfl,rfl,rfl,rfl,rfl,rfl,rfl,rfl,trivial⟩,by dsimp only;omega⟩
     match i,hx with
     | 0,hx=>cases hx;exact ⟨_,rfl,rfl⟩
     | 1,hx=>cases hx;exact ⟨_,rfl,rfl⟩
     | 2,hx=>cases hx;exact ⟨_,rfl,rfl⟩
     | 3,hx=>cases hx;exact ⟨_,rfl,rfl⟩
     | 4,hx=>cases hx;exact ⟨_,rfl,rfl⟩
     | 5,hx=>cases hx;exact ⟨_,rfl,rfl⟩
     | 6,hx=>cases hx;exact ⟨_,rfl,rfl⟩
     | 7,hx=>cases hx;exact ⟨_,rfl,rfl⟩
     | i+8,hx=>cases hx
    ·refine Ar.fit (show -9223372036854775808<=((4:Nat):Int)+1/\((4:Nat):Int)+1<=9223372036854775807 by decide) ?_;refine ⟨(5,kO f 4 q),(show (5:Nat)<=8 by decide),zi [(0,some 0),(1,some 1),(2,some 2),(3,some 3),(4,some 4),(5,some 5),(6,some 6),(7,some 7),(8,some 8),(9,some 9),(10,some 10)] ⟨⟨_,rfl,rfl,fun i x hx=>?_⟩,rfl,rfl,rfl,rfl,rfl,rfl,rfl,rfl,rfl,rfl,trivial⟩,(show (8:Nat) - 5 < 8 - 4 by decide)⟩
     match i,hx with
     | 0,hx=>cases hx;exact ⟨_,rfl,rfl⟩
     | 1,hx=>cases hx;exact ⟨_,rfl,rfl⟩
     | 2,hx=>cases hx;exact ⟨_,rfl,rfl⟩
     | 3,hx=>cases hx;exact ⟨_,rfl,rfl⟩
     | 4,hx=>cases hx;exact ⟨_,rfl,rfl⟩
     | 5,hx=>cases hx;exact ⟨_,rfl,rfl⟩
     | 6,hx=>cases hx;exact ⟨_,rfl,rfl⟩
     | 7,hx=>cases hx;exact ⟨_,rfl,rfl⟩
     | i+8,hx=>cases hx
   ·refine Br.mk (fun _=>?_) (fun k=>absurd (show ((5:Nat):Int) < ((8:Nat):Int) by decide) k);refine Ob.o35 ?_;refine Ob.o35 ?_;intro x hx;have hx:x=[i64 (itI m 5).w,i64 (itI m 5).h,.own 8]:=(Option.some.inj hx).symm;rw [hx];intro hl2;have hl2:(f 5).length<=281474976710656:=hl2
    refine ⟨Nat×List Pix,fun z=>⟨[(82,i64 (z.1:Int)),(81,i64 ((f 5).length:Int)),(14,i64 (5:Nat)),(73,i64 (5:Nat)),(72,i64 (8:Nat)),(12,.own 0),(3,.loc 1 0),(7,.loc 2 0)],[(0,.garr 28 3 [[i64 (itI m 0).w,i64 (itI m 0).h,.own 3],[i64 (itI m 1).w,i64 (itI m 1).h,.own 4],[i64 (itI m 2).w,i64 (itI m 2).h,.own 5],[i64 (itI m 3).w,i64 (itI m 3).h,.own 6],[i64 (itI m 4).w,i64 (itI m 4).h,.own 7],[i64 (itI m 5).w,i64 (itI m 5).h,.own 8],[i64 (itI m 6).w,i64 (itI m 6).h,.own 9],[i64 (itI m 7).w,i64 (itI m 7).h,.own 10]]),(1,.box 28 (ze m)),(2,.box 28 (ze m)),(3,.arr 37 zb 4 (f 0)),(4,.arr 37 zb 4 (f 1)),(5,.arr 37 zb 4 (f 2)),(6,.arr 37 zb 4 (f 3)),(7,.arr 37 zb 4 (f 4)),(8,.arr 37 zb 4 z.2),(9,.arr 37 zb 4 (f 6)),(10,.arr 37 zb 4 (f 7))],11,108,0⟩,fun z=>z.1<=(f 5).length/\z.2.length=(f 5).length,fun z=>(f 5).length - z.1,(0,f 5),⟨Nat.zero_le _,rfl⟩,?_,?_⟩
    ·refine zi [(0,some 0),(1,some 1),(2,some 2),(3,some 3),(4,some 4),(5,some 5),(6,some 6),(7,some 7),(8,some 8),(9,some 9),(10,some 10)] ⟨⟨_,rfl,rfl,fun i x hx=>?_⟩,rfl,rfl,rfl,rfl,rfl,rfl,rfl,rfl,rfl,rfl,trivial⟩
     match i,hx with
     | 0,hx=>cases hx;exact ⟨_,rfl,rfl⟩
     | 1,hx=>cases hx;exact ⟨_,rfl,rfl⟩
     | 2,hx=>cases hx;exact ⟨_,rfl,rfl⟩
     | 3,hx=>cases hx;exact ⟨_,rfl,rfl⟩
     | 4,hx=>cases hx;exact ⟨_,rfl,rfl⟩
     | 5,hx=>cases hx;exact ⟨_,rfl,rfl⟩
     | 6,hx=>cases hx;exact ⟨_,rfl,rfl⟩
     | 7,hx=>cases hx;exact ⟨_,rfl,rfl⟩
     | i+8,hx=>cases hx
    rintro ⟨k,q⟩ ⟨hk,hq⟩
    have hk:k<=(f 5).length:=hk;have hq:q.length=(f 5).length:=hq;refine Br.mk (fun g=>?_) (fun g=>?_)
    ·have g:(k:Int) < ((f 5).length:Int):=g;refine Ob.o35 ?_;refine Ob.o35 ?_;intro x hx;have hx:x=[i64 (itI m 5).w,i64 (itI m 5).h,.own 8]:=(Option.some.inj hx).symm;rw [hx];refine Ob.o ?_;refine Ob.o ?_;intro y _;refine ⟨c77,rfl,?_⟩;refine Ar.o ?_
     refine ⟨(k+1,q.set k c77),⟨by show k+1<=_;omega,by show (q.set k c77).length=_;rw [List.length_set];exact hq⟩,zi [(0,some 0),(1,some 1),(2,some 2),(3,some 3),(4,some 4),(5,some 5),(6,some 6),(7,some 7),(8,some 8),(9,some 9),(10,some 10)] ⟨⟨_,rfl,rfl,fun i x hx=>?_⟩,rfl,rfl,rfl,rfl,rfl,rfl,rfl,rfl,rfl,rfl,trivial⟩,by dsimp only;omega⟩
     match i,hx with
     | 0,hx=>cases hx;exact ⟨_,rfl,rfl⟩
     | 1,hx=>cases hx;exact ⟨_,rfl,rfl⟩
     | 2,hx=>cases hx;exact ⟨_,rfl,rfl⟩
     | 3,hx=>cases hx;exact ⟨_,rfl,rfl⟩
     | 4,hx=>cases hx;exact ⟨_,rfl,rfl⟩
     | 5,hx=>cases hx;exact ⟨_,rfl,rfl⟩
     | 6,hx=>cases hx;exact ⟨_,rfl,rfl⟩
     | 7,hx=>cases hx;exact ⟨_,rfl,rfl⟩
     | i+8,hx=>cases hx
    ·refine Ar.fit (show -9223372036854775808<=((5:Nat):Int)+1/\((5:Nat):Int)+1<=9223372036854775807 by decide) ?_;refine ⟨(6,kO f 5 q),(show (6:Nat)<=8 by decide),zi [(0,some 0),(1,some 1),(2,some 2),(3,some 3),(4,some 4),(5,some 5),(6,some 6),(7,some 7),(8,some 8),(9,some 9),(10,some 10)] ⟨⟨_,rfl,rfl,fun i x hx=>?_⟩,rfl,rfl,rfl,rfl,rfl,rfl,rfl,rfl,rfl,rfl,trivial⟩,(show (8:Nat) - 6 < 8 - 5 by decide)⟩
     match i,hx with
     | 0,hx=>cases hx;exact ⟨_,rfl,rfl⟩
     | 1,hx=>cases hx;exact ⟨_,rfl,rfl⟩
     | 2,hx=>cases hx;exact ⟨_,rfl,rfl⟩
     | 3,hx=>cases hx;exact ⟨_,rfl,rfl⟩
     | 4,hx=>cases hx;exact ⟨_,rfl,rfl⟩
     | 5,hx=>cases hx;exact ⟨_,rfl,rfl⟩
     | 6,hx=>cases hx;exact ⟨_,rfl,rfl⟩
     | 7,hx=>cases hx;exact ⟨_,rfl,rfl⟩
     | i+8,hx=>cases hx
   ·refine Br.mk (fun _=>?_) (fun k=>absurd (show ((6:Nat):Int) < ((8:Nat):Int) by decide) k);refine Ob.o36 ?_;refine Ob.o36 ?_;intro x hx;have hx:x=[i64 (itI m 6).w,i64 (itI m 6).h,.own 9]:=(Option.some.inj hx).symm;rw [hx];intro hl2;have hl2:(f 6).length<=281474976710656:=hl2
    refine ⟨Nat×List Pix,fun z=>⟨[(82,i64 (z.1:Int)),(81,i64 ((f 6).length:Int)),(14,i64 (6:Nat)),(73,i64 (6:Nat)),(72,i64 (8:Nat)),(12,.own 0),(3,.loc 1 0),(7,.loc 2 0)],[(0,.garr 28 3 [[i64 (itI m 0).w,i64 (itI m 0).h,.own 3],[i64 (itI m 1).w,i64 (itI m 1).h,.own 4],[i64 (itI m 2).w,i64 (itI m 2).h,.own 5],[i64 (itI m 3).w,i64 (itI m 3).h,.own 6],[i64 (itI m 4).w,i64 (itI m 4).h,.own 7],[i64 (itI m 5).w,i64 (itI m 5).h,.own 8],[i64 (itI m 6).w,i64 (itI m 6).h,.own 9],[i64 (itI m 7).w,i64 (itI m 7).h,.own 10]]),(1,.box 28 (ze m)),(2,.box 28 (ze m)),(3,.arr 37 zb 4 (f 0)),(4,.arr 37 zb 4 (f 1)),(5,.arr 37 zb 4 (f 2)),(6,.arr 37 zb 4 (f 3)),(7,.arr 37 zb 4 (f 4)),(8,.arr 37 zb 4 (f 5)),(9,.arr 37 zb 4 z.2),(10,.arr 37 zb 4 (f 7))],11,108,0⟩,fun z=>z.1<=(f 6).length/\z.2.length=(f 6).length,fun z=>(f 6).length - z.1,(0,f 6),⟨Nat.zero_le _,rfl⟩,?_,?_⟩
    ·refine zi [(0,some 0),(1,some 1),(2,some 2),(3,some 3),(4,some 4),(5,some 5),(6,some 6),(7,some 7),(8,some 8),(9,some 9),(10,some 10)] ⟨⟨_,rfl,rfl,fun i x hx=>?_⟩,rfl,rfl,rfl,rfl,rfl,rfl,rfl,rfl,rfl,rfl,trivial⟩
     match i,hx with
     | 0,hx=>cases hx;exact ⟨_,rfl,rfl⟩
     | 1,hx=>cases hx;exact ⟨_,rfl,rfl⟩
     | 2,hx=>cases hx;exact ⟨_,rfl,rfl⟩
     | 3,hx=>cases hx;exact ⟨_,rfl,rfl⟩
     | 4,hx=>cases hx;exact ⟨_,rfl,rfl⟩
     | 5,hx=>cases hx;exact ⟨_,rfl,rfl⟩
     | 6,hx=>cases hx;exact ⟨_,rfl,rfl⟩
     | 7,hx=>cases hx;exact ⟨_,rfl,rfl⟩
     | i+8,hx=>cases hx
    rintro ⟨k,q⟩ ⟨hk,hq⟩
    have hk:k<=(f 6).length:=hk;have hq:q.length=(f 6).length:=hq;refine Br.mk (fun g=>?_) (fun g=>?_)
    ·have g:(k:Int) < ((f 6).length:Int):=g;refine Ob.o36 ?_;refine Ob.o36 ?_;intro x hx;have hx:x=[i64 (itI m 6).w,i64 (itI m 6).h,.own 9]:=(Option.some.inj hx).symm;rw [hx];refine Ob.o ?_;refine Ob.o ?_;intro y _;refine ⟨c77,rfl,?_⟩;refine Ar.o ?_
     refine ⟨(k+1,q.set k c77),⟨by show k+1<=_;omega,by show (q.set k c77).length=_;rw [List.length_set];exact hq⟩,zi [(0,some 0),(1,some 1),(2,some 2),(3,some 3),(4,some 4),(5,some 5),(6,some 6),(7,some 7),(8,some 8),(9,some 9),(10,some 10)] ⟨⟨_,rfl,rfl,fun i x hx=>?_⟩,rfl,rfl,rfl,rfl,rfl,rfl,rfl,rfl,rfl,rfl,trivial⟩,by dsimp only;omega⟩
     match i,hx with
     | 0,hx=>cases hx;exact ⟨_,rfl,rfl⟩
     | 1,hx=>cases hx;exact ⟨_,rfl,rfl⟩
     | 2,hx=>cases hx;exact ⟨_,rfl,rfl⟩
     | 3,hx=>cases hx;exact ⟨_,rfl,rfl⟩
     | 4,hx=>cases hx;exact ⟨_,rfl,rfl⟩
     | 5,hx=>cases hx;exact ⟨_,rfl,rfl⟩
     | 6,hx=>cases hx;exact ⟨_,rfl,rfl⟩
     | 7,hx=>cases hx;exact ⟨_,rfl,rfl⟩
     | i+8,hx=>cases hx
    ·refine Ar.fit (show -9223372036854775808<=((6:Nat):Int)+1/\((6:Nat):Int)+1<=9223372036854775807 by decide) ?_;refine ⟨(7,kO f 6 q),(show (7:Nat)<=8 by decide),zi [(0,some 0),(1,some 1),(2,some 2),(3,some 3),(4,some 4),(5,some 5),(6,some 6),(7,some 7),(8,some 8),(9,some 9),(10,some 10)] ⟨⟨_,rfl,rfl,fun i x hx=>?_⟩,rfl,rfl,rfl,rfl,rfl,rfl,rfl,rfl,rfl,rfl,trivial⟩,(show (8:Nat) - 7 < 8 - 6 by decide)⟩
     match i,hx with
     | 0,hx=>cases hx;exact ⟨_,rfl,rfl⟩
     | 1,hx=>cases hx;exact ⟨_,rfl,rfl⟩
     | 2,hx=>cases hx;exact ⟨_,rfl,rfl⟩
     | 3,hx=>cases hx;exact ⟨_,rfl,rfl⟩
     | 4,hx=>cases hx;exact ⟨_,rfl,rfl⟩
     | 5,hx=>cases hx;exact ⟨_,rfl,rfl⟩
     | 6,hx=>cases hx;exact ⟨_,rfl,rfl⟩
     | 7,hx=>cases hx;exact ⟨_,rfl,rfl⟩
     | i+8,hx=>cases hx
   ·refine Br.mk (fun _=>?_) (fun k=>absurd (show ((7:Nat):Int) < ((8:Nat):Int) by decide) k);refine Ob.o37 ?_;refine Ob.o37 ?_;intro x hx;have hx:x=[i64 (itI m 7).w,i64 (itI m 7).h,.own 10]:=(Option.some.inj hx).symm;rw [hx];intro hl2;have hl2:(f 7).length<=281474976710656:=hl2
    refine ⟨Nat×List Pix,fun z=>⟨[(82,i64 (z.1:Int)),(81,i64 ((f 7).length:Int)),(14,i64 (7:Nat)),(73,i64 (7:Nat)),(72,i64 (8:Nat)),(12,.own 0),(3,.loc 1 0),(7,.loc 2 0)],[(0,.garr 28 3 [[i64 (itI m 0).w,i64 (itI m 0).h,.own 3],[i64 (itI m 1).w,i64 (itI m 1).h,.own 4],[i64 (itI m 2).w,i64 (itI m 2).h,.own 5],[i64 (itI m 3).w,i64 (itI m 3).h,.own 6],[i64 (itI m 4).w,i64 (itI m 4).h,.own 7],[i64 (itI m 5).w,i64 (itI m 5).h,.own 8],[i64 (itI m 6).w,i64 (itI m 6).h,.own 9],[i64 (itI m 7).w,i64 (itI m 7).h,.own 10]]),(1,.box 28 (ze m)),(2,.box 28 (ze m)),(3,.arr 37 zb 4 (f 0)),(4,.arr 37 zb 4 (f 1)),(5,.arr 37 zb 4 (f 2)),(6,.arr 37 zb 4 (f 3)),(7,.arr 37 zb 4 (f 4)),(8,.arr 37 zb 4 (f 5)),(9,.arr 37 zb 4 (f 6)),(10,.arr 37 zb 4 z.2)],11,108,0⟩,fun z=>z.1<=(f 7).length/\z.2.length=(f 7).length,fun z=>(f 7).length - z.1,(0,f 7),⟨Nat.zero_le _,rfl⟩,?_,?_⟩
    ·refine zi [(0,some 0),(1,some 1),(2,some 2),(3,some 3),(4,some 4),(5,some 5),(6,some 6),(7,some 7),(8,some 8),(9,some 9),(10,some 10)] ⟨⟨_,rfl,rfl,fun i x hx=>?_⟩,rfl,rfl,rfl,rfl,rfl,rfl,rfl,rfl,rfl,rfl,trivial⟩
     match i,hx with
     | 0,hx=>cases hx;exact ⟨_,rfl,rfl⟩
     | 1,hx=>cases hx;exact ⟨_,rfl,rfl⟩
     | 2,hx=>cases hx;exact ⟨_,rfl,rfl⟩
     | 3,hx=>cases hx;exact ⟨_,rfl,rfl⟩
     | 4,hx=>cases hx;exact ⟨_,rfl,rfl⟩
     | 5,hx=>cases hx;exact ⟨_,rfl,rfl⟩
     | 6,hx=>cases hx;exact ⟨_,rfl,rfl⟩
     | 7,hx=>cases hx;exact ⟨_,rfl,rfl⟩
     | i+8,hx=>cases hx
    rintro ⟨k,q⟩ ⟨hk,hq⟩
    have hk:k<=(f 7).length:=hk;have hq:q.length=(f 7).length:=hq;refine Br.mk (fun g=>?_) (fun g=>?_)
    ·have g:(k:Int) < ((f 7).length:Int):=g;refine Ob.o37 ?_;refine Ob.o37 ?_;intro x hx;have hx:x=[i64 (itI m 7).w,i64 (itI m 7).h,.own 10]:=(Option.some.inj hx).symm;rw [hx];refine Ob.o ?_;refine Ob.o ?_;intro y _;refine ⟨c77,rfl,?_⟩;refine Ar.o ?_
     refine ⟨(k+1,q.set k c77),⟨by show k+1<=_;omega,by show (q.set k c77).length=_;rw [List.length_set];exact hq⟩,zi [(0,some 0),(1,some 1),(2,some 2),(3,some 3),(4,some 4),(5,some 5),(6,some 6),(7,some 7),(8,some 8),(9,some 9),(10,some 10)] ⟨⟨_,rfl,rfl,fun i x hx=>?_⟩,rfl,rfl,rfl,rfl,rfl,rfl,rfl,rfl,rfl,rfl,trivial⟩,by dsimp only;omega⟩
     match i,hx with
     | 0,hx=>cases hx;exact ⟨_,rfl,rfl⟩
     | 1,hx=>cases hx;exact ⟨_,rfl,rfl⟩
     | 2,hx=>cases hx;exact ⟨_,rfl,rfl⟩
     | 3,hx=>cases hx;exact ⟨_,rfl,rfl⟩
     | 4,hx=>cases hx;exact ⟨_,rfl,rfl⟩
     | 5,hx=>cases hx;exact ⟨_,rfl,rfl⟩
     | 6,hx=>cases hx;exact ⟨_,rfl,rfl⟩
     | 7,hx=>cases hx;exact ⟨_,rfl,rfl⟩
     | i+8,hx=>cases hx
    ·refine Ar.fit (show -9223372036854775808<=((7:Nat):Int)+1/\((7:Nat):Int)+1<=9223372036854775807 by decide) ?_;refine ⟨(8,kO f 7 q),(show (8:Nat)<=8 by decide),zi [(0,some 0),(1,some 1),(2,some 2),(3,some 3),(4,some 4),(5,some 5),(6,some 6),(7,some 7),(8,some 8),(9,some 9),(10,some 10)] ⟨⟨_,rfl,rfl,fun i x hx=>?_⟩,rfl,rfl,rfl,rfl,rfl,rfl,rfl,rfl,rfl,rfl,trivial⟩,(show (8:Nat) - 8 < 8 - 7 by decide)⟩
     match i,hx with
     | 0,hx=>cases hx;exact ⟨_,rfl,rfl⟩
     | 1,hx=>cases hx;exact ⟨_,rfl,rfl⟩
     | 2,hx=>cases hx;exact ⟨_,rfl,rfl⟩
     | 3,hx=>cases hx;exact ⟨_,rfl,rfl⟩
     | 4,hx=>cases hx;exact ⟨_,rfl,rfl⟩
     | 5,hx=>cases hx;exact ⟨_,rfl,rfl⟩
     | 6,hx=>cases hx;exact ⟨_,rfl,rfl⟩
     | 7,hx=>cases hx;exact ⟨_,rfl,rfl⟩
     | i+8,hx=>cases hx
   ·refine Br.mk (fun k=>absurd k (show ¬((8:Nat):Int) < ((8:Nat):Int) by decide)) (fun _=>?_);refine Dr.d ?_;refine zc.t (zV m m) ?_;refine Br.mk (fun _=>?_) (fun k=>absurd rfl k);refine zc.give [] 9 [.agg (ze m)] [] (zJ m 8) (.own 0) hmip LEs.refl rfl rfl rfl trivial rfl ⟨⟨rfl,zD rfl⟩,⟨rfl,trivial⟩,⟨rfl,trivial⟩,⟨rfl,trivial⟩,⟨rfl,trivial⟩,⟨rfl,trivial⟩,⟨rfl,trivial⟩,⟨rfl,trivial⟩,⟨rfl,trivial⟩,trivial⟩ ?_;refine zc.t cm' ?_
    refine zc.give [11,12,13,14,15,16,17,18,19] 0 [.own 0,.sl ze (zP m 8)] (zJ m 8) (zJ m 8) _ (zes m (zP m 8)) LEs.refl rfl rfl rfl ⟨⟨_,rfl,rfl,ku rfl⟩,⟨_,rfl,rfl,trivial⟩,⟨_,rfl,rfl,trivial⟩,⟨_,rfl,rfl,trivial⟩,⟨_,rfl,rfl,trivial⟩,⟨_,rfl,rfl,trivial⟩,⟨_,rfl,rfl,trivial⟩,⟨_,rfl,rfl,trivial⟩,⟨_,rfl,rfl,trivial⟩,trivial⟩ rfl ⟨⟨rfl,zD rfl⟩,⟨rfl,trivial⟩,⟨rfl,trivial⟩,⟨rfl,trivial⟩,⟨rfl,trivial⟩,⟨rfl,trivial⟩,⟨rfl,trivial⟩,⟨rfl,trivial⟩,⟨rfl,trivial⟩,trivial⟩ ?_;refine Br.mk (fun _=>?_) (fun k=>absurd rfl k);refine zc.t kz ?_
    refine Ob.mk (by kernel_rfl) ?_;exact .refl
end Go.Gs
