/- Strokes of a node, the program's. -/
import Derived.Test.YtplllpkdmehklaaGreatDoorMA
import Derived.Test.YtplllpkdmehklaaGreatDoorMBW
import Derived.Test.YtplllpkdmehklaaGreatDoorMBT
set_option maxRecDepth 100000
set_option maxHeartbeats 8000000
set_option linter.all false
namespace Go.Gs
open Go.Proofs
theorem zyb{rs:List (List Pt)}{t:AF}(h:(vg rs t).2≠0):(vg rs t).1=[]:=by
 unfold vg at h ⊢
 by_cases h1:¬kq rs
 ·rw [if_pos h1]
 rw [if_neg h1] at h ⊢
 by_cases h2:zej t rs≠0
 ·rw [if_pos h2]
 rw [if_neg h2] at h;exact absurd rfl h
theorem zsP{l:List Sg}{pen:Pen}{t:AF}{tol:Int}(h:(v9 l pen t tol).2≠0):(v9 l pen t tol).1=[]:=by
 unfold v9 at h ⊢
 by_cases h1:¬qa pen
 ·rw [if_pos h1]
 rw [if_neg h1] at h ⊢
 by_cases h2:(kr l tol).2≠0
 ·rw [if_pos h2]
 rw [if_neg h2] at h ⊢
 by_cases h3:(jk (kr l tol).1 pen).2≠0
 ·rw [if_pos h3]
 rw [if_neg h3] at h ⊢
 by_cases h4:(jh (jk (kr l tol).1 pen).1 pen).2≠0
 ·rw [if_pos h4]
 rw [if_neg h4] at h ⊢;exact zyb h
def vU(r:AF×Int)(l:List Sg)(pen:Pen):List (List Pt):=if r.2≠0 then [] else (v9 l pen r.1 32).1
theorem zpv(r:AF×Int)(l:List Sg)(pen:Pen)(ht:r.1.le 100):zd Tryz.prog 63 [.agg (afE r.1++[pr (r.2=0)]),.sl sgE l,.agg (ue pen)] [] (.sl zu (vU r l pen)) []:=by
 refine zc tok mix Tryz.func63 rfl rfl rfl ?_;refine Br.mk (fun h=>by rw [show vU r l pen=[] from if_pos h];exact zC) (fun h=>?_);have e:vU r l pen=(v9 l pen r.1 32).1:=if_neg h;refine zb.t (zur l pen r.1 32 (ht.up dC)) ?_;rw [e];exact Br.mk (fun k=>by rw [zsP k];exact zC) (fun _=>.refl)
theorem zne(s:Sc)(i:Int)(ht:jH s):zd Tryz.prog 30 [.agg (scE s),i64 i] [] (.sl zu (qz s i)) []:=by
 refine zc tok mix Tryz.func30 rfl rfl rfl ?_;refine zb.t (zgK s i ht) ?_;refine Br.mk (fun h=>by rw [zdC (.inl h)];exact zC) (fun h1=>?_);intro hl0;refine Br.mk (fun h=>by rw [zdC (.inr oM)];exact zC) (fun h2=>?_);refine zb.t (zpv (zw s i) (zE s i).path (zE s i).pen (jz s i)) ?_;rw [show qz s i=vU (zw s i) (zE s i).path (zE s i).pen from if_neg fun k=>k.elim h1 fun q=>h2 oM];exact .refl
def zj0(ds:List Int)(d:Int):Nat->Nat->Nat
 | 0,k=>k
 | n+1,k=>match ds[k]? with
  | some x=>if d < x then zj0 ds d n (k+1) else k
  | none=>k
theorem zgQ(ds:List Int)(d:Int):∀(n k:Nat),ds.length<=n+k->k<=ds.length->k<=zj0 ds d n k/\(∀j,k<=j->j < zj0 ds d n k->∃x,ds[j]? =some x/\d < x)/\∀x,ds[zj0 ds d n k]? =some x->x<=d
 |0,k,h,_=>⟨Nat.le_refl _,fun j h1 h2=>by have h2:j < k:=h2;omega,fun x hx=>by
  have:=(List.getElem?_eq_some_iff.1 hx).1;have this:k < ds.length:=this
  omega⟩
 | n+1,k,h,hk=>by
  unfold zj0
  cases hx:ds[k]? with
  | none=>exact ⟨Nat.le_refl _,fun j h1 h2=>by have h2:j < k:=h2;omega,fun x q=>by rw [hx] at q;cases q⟩
  | some y=>
   dsimp only
   by_cases c:d < y
   ·rw [if_pos c];obtain ⟨a,b,e⟩:=zgQ ds d n (k+1) oM (by have:=(List.getElem?_eq_some_iff.1 hx).1;omega);refine ⟨oM,fun j h1 h2=>?_,e⟩
    by_cases q:j=k
    ·subst q;exact ⟨y,hx,c⟩
    ·exact b j oM h2
   ·rw [if_neg c];exact ⟨Nat.le_refl _,fun j h1 h2=>by omega,fun x q=>by rw [hx] at q;cases q;omega⟩
def zgR(ds:List Int)(i:Nat):Nat:=zj0 ds (ds.getD i 0) (ds.length - (i+1)) (i+1)
def zf9(s:Sc)(i:Int):Int:=if inS s i then zgR (zA s.ns) i.toNat else -1
theorem h_end(l:List Nd)(i:Nat)(n:Nd)(hn:l[i]? =some n)(hl:l.length<=64):zd Tryz.prog 40 [.sl ndE l,i64 (i:Int)] [] (i64 (zgR (zA l) i:Int)) []:=by
 have hi:=(List.getElem?_eq_some_iff.1 hn).1;have eg:(zA l).getD i 0=n.d:=by rw [List.getD_eq_getElem?_getD,yi hn];rfl
 have hdl:(zA l).length=l.length:=by unfold zA;rw [List.length_map]
 refine zc tok mix Tryz.func40 rfl rfl rfl ?_;refine Ar.o ?_;refine ⟨Nat,fun k=>⟨[(5,i64 (k:Int)),(1,i64 (i:Int)),(0,.sl ndE l)],[],0,28,0⟩,fun k=>k<=l.length/\zj0 (zA l) n.d (l.length - k) k=zgR (zA l) i,fun k=>l.length - k,i+1,⟨oM,by unfold zgR;rw [eg,hdl]⟩,?_,?_⟩
 ·exact zf []
 rintro k ⟨hk,he⟩
 refine Dr.k ?_;intro hl0;refine Br.mk (fun g=>?_) (fun g=>?_)
 ·have g:(k:Int) < l.length:=g;refine Ob.o ?_;intro x hx;have hx:l[k]? =some x:=hx;refine Ob.o ?_;intro y hy;have hy:y=n:=Option.some.inj ((show l[i]? =some y from hy).symm.trans hn);rw [hy];obtain ⟨m,hm⟩:∃m,l.length - k=m+1:=⟨l.length - k - 1,oM⟩
  have hs:zj0 (zA l) n.d (l.length - k) k=if n.d < x.d then zj0 (zA l) n.d (l.length - (k+1)) (k+1) else k:=by
   rw [hm,show l.length - (k+1)=m by omega];show (match (zA l)[k]? with | some x=>if n.d < x then zj0 (zA l) n.d m (k+1) else k | none=>k)=_;rw [yi hx]
  refine Br.mk (fun c=>?_) (fun c=>?_)
  ·have c:n.d < x.d:=c;rw [if_pos c] at hs;refine Ar.o ?_;exact ⟨k+1,⟨oM,by rw [← hs];exact he⟩,zf [],by dsimp only;omega⟩
  ·have c:¬n.d < x.d:=c;rw [if_neg c] at hs;exact zj (by rw [← he,hs])
 ·have g:¬(k:Int) < l.length:=g;refine zj ?_;rw [← he,show l.length - k=0 by omega];rfl
theorem znf(s:Sc)(i:Int)(ht:zcA s):zd Tryz.prog 15 [.agg (scE s),i64 i] [] (i64 (zf9 s i)) []:=by
 refine zc tok mix Tryz.func15 rfl rfl rfl ?_;refine zb.t (zjS s i ht) ?_;refine Br.mk (fun h=>zj (if_neg h).symm) (fun h=>?_);have h:inS s i:=Decidable.not_not.1 h;obtain ⟨n,hn⟩:=u6 h;obtain ⟨k,rfl⟩:∃k:Nat,i=(k:Int):=⟨i.toNat,by have:=h.2.1;omega⟩;refine zb.t (h_end s.ns k n hn (yV h.1)) ?_;exact zj (if_pos h).symm
def allE(s:Sc)(i:Int):SV:=.agg [.sl zu (kK s i),.sl zu (qz s i),.sl zu (yj s i),.sl zu (jR s i)]
theorem zpw(s:Sc)(i:Int)(ht:jH s):zd Tryz.prog 14 [.agg (scE s),i64 i] [] (allE s i) []:=by
 refine zc tok mix Tryz.func14 rfl rfl rfl ?_;refine zb.t (zsG s i ht) ?_;refine Dr.d ?_;refine zb.t (zsE s i ht) ?_;refine zb.t (zne s i ht) ?_;refine zb.t (zx0 s i ht) ?_;refine Ob.mk (by kernel_rfl) ?_;exact .refl
theorem zj1(a b c d e f:Rat):(afQ a b c d e f).a.v=a/\(afQ a b c d e f).b.v=b/\(afQ a b c d e f).c.v=c/\(afQ a b c d e f).d.v=d/\(afQ a b c d e f).e.v=e/\(afQ a b c d e f).f.v=f:=
 ⟨zV _,zV _,zV _,zV _,zV _,zV _⟩
theorem qH(t:AF):t.same t:=⟨rfl,rfl,rfl,rfl,rfl,rfl⟩
theorem zee{t u:AF}(h:t.same u):u.same t:=⟨h.1.symm,h.2.1.symm,h.2.2.1.symm,h.2.2.2.1.symm,h.2.2.2.2.1.symm,h.2.2.2.2.2.symm⟩
theorem qD{t u v:AF}(h:t.same u)(k:u.same v):t.same v:=
 ⟨h.1.trans k.1,h.2.1.trans k.2.1,h.2.2.1.trans k.2.2.1,h.2.2.2.1.trans k.2.2.2.1,h.2.2.2.2.1.trans k.2.2.2.2.1,h.2.2.2.2.2.trans k.2.2.2.2.2⟩
theorem zlH{t u:AF}(h:t.same u)(x y:Rat):y6 t x y=y6 u x y/\y7 t x y=y7 u x y:=by
 obtain ⟨h1,h2,h3,h4,h5,h6⟩:=h;unfold y6 y7;rw [h1,h2,h3,h4,h5,h6];exact ⟨rfl,rfl⟩
theorem y4{t t' u u':AF}(h:t.same t')(k:u.same u'):beh t u=beh t' u':=by
 have e1:=zlH k t.e.v t.f.v;obtain ⟨h1,h2,h3,h4,h5,h6⟩:=h;obtain ⟨k1,k2,k3,k4,k5,k6⟩:=k;unfold beh;rw [e1.1,e1.2,h1,h2,h3,h4,h5,h6,k1,k2,k3,k4]
theorem zaW(t u:AF):(beh t u).a.v=u.a.v*t.a.v+u.c.v*t.b.v/\(beh t u).b.v=u.b.v*t.a.v+u.d.v*t.b.v/\(beh t u).c.v=u.a.v*t.c.v+u.c.v*t.d.v/\(beh t u).d.v=u.b.v*t.c.v+u.d.v*t.d.v/\
  (beh t u).e.v=u.a.v*t.e.v+u.c.v*t.f.v+u.e.v/\(beh t u).f.v=u.b.v*t.e.v+u.d.v*t.f.v+u.f.v:=zj1 _ _ _ _ _ _
theorem zlI(t u v:AF):(beh (beh t u) v).same (beh t (beh u v)):=by
 obtain ⟨a1,a2,a3,a4,a5,a6⟩:=zaW (beh t u) v;obtain ⟨b1,b2,b3,b4,b5,b6⟩:=zaW t (beh u v);obtain ⟨c1,c2,c3,c4,c5,c6⟩:=zaW t u;obtain ⟨d1,d2,d3,d4,d5,d6⟩:=zaW u v;unfold AF.same;rw [a1,a2,a3,a4,a5,a6,b1,b2,b3,b4,b5,b6,c1,c2,c3,c4,c5,c6,d1,d2,d3,d4,d5,d6];refine ⟨?_,?_,?_,?_,?_,?_⟩ <;> grind
theorem zpx:idA.a.v=1/\idA.b.v=0/\idA.c.v=0/\idA.d.v=1/\idA.e.v=0/\idA.f.v=0:=zj1 _ _ _ _ _ _
theorem zsQ(t:AF):(beh idA t).same t:=by
 obtain ⟨a1,a2,a3,a4,a5,a6⟩:=zaW idA t;obtain ⟨c1,c2,c3,c4,c5,c6⟩:=zpx;unfold AF.same;rw [a1,a2,a3,a4,a5,a6,c1,c2,c3,c4,c5,c6];refine ⟨?_,?_,?_,?_,?_,?_⟩ <;> grind
theorem zdD(t:AF):(beh t idA).same t:=by
 obtain ⟨a1,a2,a3,a4,a5,a6⟩:=zaW t idA;obtain ⟨c1,c2,c3,c4,c5,c6⟩:=zpx;unfold AF.same;rw [a1,a2,a3,a4,a5,a6,c1,c2,c3,c4,c5,c6];refine ⟨?_,?_,?_,?_,?_,?_⟩ <;> grind
theorem zef:∀(l:List AF) (s:AF),(l.foldl beh s).same (beh s (kF l))
 | [],s=>zee (zdD s)
 | t::l,s=>by
  have h1:=zef l (beh s t);have h2:=zef l (beh idA t);have h3:kF (t::l)=l.foldl beh (beh idA t):=rfl;refine qD (u:=beh (beh s t) (kF l)) h1 (qD (zlI s t (kF l)) ?_);rw [h3];have h4:(l.foldl beh (beh idA t)).same (beh t (kF l)):=qD h2 (by rw [y4 (zsQ t) (qH (kF l))];exact qH _);rw [y4 (qH s) (zee h4)];exact qH _
theorem uK(t:AF)(l:List AF):(kF (t::l)).same (beh t (kF l)):=by
 have h:=zef l (beh idA t);refine qD (u:=beh (beh idA t) (kF l)) h ?_;rw [y4 (zsQ t) (qH (kF l))];exact qH _
theorem zlJ(l m:List AF):(kF (l++m)).same (beh (kF l) (kF m)):=by
 have e:kF (l++m)=m.foldl beh (kF l):=by unfold kF;rw [List.foldl_append]
 rw [e];exact zef m (kF l)
theorem zaX{l:List AF}(h:(qt l).2=0):qt l=(kF l,0):=by
 unfold qt at h ⊢
 by_cases k:zjy l
 ·rw [if_pos k]
 ·rw [if_neg k] at h;exact absurd h dC
theorem zpy {σ:St} (k k0:Nat) {T T0:TypeId} {α:Type} {enc:α->List SV} {sz:Nat} {ys:List α} {cs cs':List SV} (hk:zN σ.M k=some (.arr T enc sz ys))
  (h0:zN σ.M k0=some (.box T0 cs)) (hl:cs'.length=cs.length) (hx:∀(j:Nat) s',cs'[j]? =some s'->∃s,cs[j]? =some s/\(s'=s∨(s=.own k/\s'=.sl enc ys))):
  Sub σ ⟨σ.L,kU (kz σ.M k) k0 (.box T0 cs'),σ.nk,σ.nt,σ.n0⟩:=by
 intro E ρ a w hr;refine ⟨ρ,?_⟩;have hmem:=zr hk;have hsub:∀x∈kz σ.M k,x∈σ.M:=fun x hx=>z8 x hx
 have hpd:=kV (k:=k) hr.mem.keys;have hkeys:(kU (kz σ.M k) k0 (.box T0 cs')).map (·.1)=(kz σ.M k).map (·.1):=vj;have hown:∀b,Own (kU (kz σ.M k) k0 (.box T0 cs')) ρ b->Own (kz σ.M k) ρ b:=fun b hb=>uV hkeys.symm hb
 have hown2:∀b,Own (kz σ.M k) ρ b->Own σ.M ρ b:=fun b ⟨k',m,v,h1,h2,h3⟩=>⟨k',m,v,hsub _ h1,h2,h3⟩
 have hg:∀s v,G (fun b=>E.Keep b∨Own σ.M ρ b) (Own σ.M ρ) ρ w s v->
   G (fun b=>E.Keep b∨Own (kU (kz σ.M k) k0 (.box T0 cs')) ρ b) (Own (kU (kz σ.M k) k0 (.box T0 cs')) ρ) ρ w s v:=fun s v h=>
  h.mono (Nat.le_refl _) (fun b _ hb=>⟨fun h=>hb (h.imp id fun h=>hown2 b (hown b h)),rfl⟩) (fun b _ hb=>⟨fun h=>hb (hown2 b (hown b h)),rfl⟩) (fun _ _ h=>h)
 have hs:Stp (Own σ.M ρ) (Own (kU (kz σ.M k) k0 (.box T0 cs')) ρ) ρ ρ w w:=
  ⟨rfl,rfl,.refl _,Nat.le_refl _,fun _ _ _=>rfl,fun b hb=>.inl (hown2 b (hown b hb)),fun _ _ h=>h⟩
 have hd:∀v,ρ k=some v->D (fun b=>E.Keep b∨Own (kU (kz σ.M k) k0 (.box T0 cs')) ρ b) w (.sl enc ys) v:=fun v hv=>
  zgZ hr.mem hmem (fun b hb=>hb.imp id fun h=>hown2 b (hown b h)) (fun v' b hv' hb hSb=>by
   rcases hSb with hSb | hSb
   ·exact (hr.mem.old b ⟨k,_,v',hmem,hv',hb⟩).2 hSb
   ·obtain ⟨k',m',v1,h4,h5,h6⟩:=hown b hSb
    exact hr.mem.apart k _ k' m' v' v1 b hmem (hsub _ h4) (Ne.symm (j9 hr.mem.keys _ h4)) hv' h5 hb h6) hv
 refine ⟨hr.size,hr.defers,fun t s hl=>⟨(hr.regs t s hl).1,hg s _ (hr.regs t s hl).2⟩,⟨fun k1 m1 h1=>?_,jT hkeys hpd,fun k1 m1 k2 m2 v1 v2 b h1 h2=>?_,fun b hb=>hr.mem.old b (hown2 b (hown b hb)),hr.mem.kp,hr.mem.glO fun b hb=>hown2 b (hown b hb)⟩,
  hr.fresh,hr.stp.trans hs,hr.keep,hr.low⟩
 ·rcases qY hpd _ h1 with ⟨_,h2⟩ | h2
  ·exact (hr.mem.rel k1 m1 (hsub _ h2)).keep hs rfl (fun _ _ _ _=>rfl)
  ·cases h2
   obtain ⟨b,vs,g1,g2,g3,g4,g5⟩:=hr.mem.rel k0 _ (zr h0);refine ⟨b,vs,g1,g2,by rw [hl];exact g3,g4,fun j s' v hs' hv=>?_⟩;obtain ⟨s,e1,e2⟩:=hx j s' hs';have hgu:=g5 j s v e1 hv
   rcases e2 with rfl | ⟨rfl,rfl⟩
   ·exact hg _ _ hgu
   ·exact .d _ _ (hd v hgu.own_inv.1)
 ·have back:∀k1 m1,(k1,m1)∈kU (kz σ.M k) k0 (.box T0 cs')->∃m',(k1,m')∈σ.M:=fun k1 m1 h=>by
   rcases qY hpd _ h with ⟨_,h2⟩ | h2
   ·exact ⟨m1,hsub _ h2⟩
   ·cases h2;exact ⟨_,zr h0⟩
  obtain ⟨m1',h1'⟩:=back _ _ h1;obtain ⟨m2',h2'⟩:=back _ _ h2;exact hr.mem.apart k1 m1' k2 m2' v1 v2 b h1' h2'
theorem zgS{t t':AF}{x y:Int}(h:t'.same (beh t (tr x y)))(p:Pt):goP t' p=sh x y (goP t p):=by
 have e:=zlH h (p.x:Rat) (p.y:Rat);obtain ⟨a1,a2,a3,a4,a5,a6⟩:=zaW t (tr x y);obtain ⟨c1,c2,c3,c4,c5,c6⟩:(tr x y).a.v=((1:Int):Rat)/\(tr x y).b.v=((0:Int):Rat)/\(tr x y).c.v=((0:Int):Rat)/\(tr x y).d.v=((1:Int):Rat)/\(tr x y).e.v=(x:Rat)/\(tr x y).f.v=(y:Rat):=zj1 _ _ _ _ _ _
 have ex:y6 t' (p.x:Rat) (p.y:Rat)=y6 t (p.x:Rat) (p.y:Rat)+(x:Rat):=by
  rw [e.1];unfold y6;rw [a1,a3,a5,c1,c3,c5,zAP,zx5]
  grind
 have ey:y7 t' (p.x:Rat) (p.y:Rat)=y7 t (p.x:Rat) (p.y:Rat)+(y:Rat):=by
  rw [e.2];unfold y7;rw [a2,a4,a6,c2,c4,c6,zAP,zx5]
  grind
 have hf:∀(a:Rat) (n:Int),(a+(n:Rat)+Rat.divInt 1 2).floor=(a+Rat.divInt 1 2).floor+n:=fun a n=>by
  rw [show a+(n:Rat)+Rat.divInt 1 2=(a+Rat.divInt 1 2)+(n:Rat) by grind,Rat.floor_add_intCast]
 unfold goP;rw [ex,ey,hf,hf];rfl
theorem zhr{t:AF}:∀{q:List Pt},jG t q=0->∀p∈q,(kT t p).2=0
 | p::r,h,z,hz=>by
  unfold jG at h
  by_cases k:(kT t p).2=0
  ·rw [if_neg (fun q=>q k)] at h
   cases hz with
   | head=>exact k
   | tail _ hz=>exact zhr h z hz
  ·rw [if_pos k] at h;exact absurd h k
theorem zga{t:AF}{p:Pt}(h:(kT t p).2=0):zn (goP t p):=by
 unfold kT at h
 by_cases h1:t.ok
 ·rw [if_neg (fun k=>k h1)] at h
  by_cases h2:zn p
  ·rw [if_neg (fun k=>k h2)] at h
   by_cases h3:zn (goP t p)
   ·exact h3
   ·rw [if_neg h3] at h;exact absurd h dC
  ·rw [if_pos h2] at h;exact absurd h dC
 ·rw [if_pos h1] at h;exact absurd h dC
theorem zuE(f g:Pt->Pt)(s:Sg):ji g (ji f s)=ji (fun p=>g (f p)) s:=by
 obtain ⟨v,a,c,d⟩:=s;unfold ji part;dsimp only;congr 1 <;> (split <;> simp_all)
theorem zeZ{l:List Sg}{t:AF}(h:(trans t l).2=0):qq l/\(∀p∈qb l,(kT t p).2=0)/\(trans t l).1=l.map (ji fun p=>(kT t p).1):=by
 unfold trans at h ⊢
 by_cases h1:¬qq l
 ·rw [if_pos h1] at h;exact absurd h dC
 rw [if_neg h1] at h ⊢
 by_cases h2:jG t (qb l)≠0
 ·rw [if_pos h2] at h;exact absurd h h2
 rw [if_neg h2];have hv:qq l:=Decidable.not_not.1 h1;refine ⟨hv,zhr (Decidable.not_not.1 h2),?_⟩;exact List.map_congr_left fun s hs=>zlt t (zfH (yg.1 hv).2 s hs)
theorem zq7(g:Pt->Pt){s:Sg}(hf:zc7 s):zfA s.v ((kj s).map g)=ji g s:=by
 obtain ⟨f1,f2,f3⟩:=hf;have hr:=zby s.v;have k:nm s.v<=0∨nm s.v=1∨nm s.v=2∨nm s.v=3:=oM;unfold kj ji zfA part
 rcases k with k | k | k | k
 ·rw [show (nm s.v).toNat=0 by omega,f1.2 oM,f2.2 oM,f3.2 oM];rfl
 ·rw [show (nm s.v).toNat=1 by omega,f2.2 oM,f3.2 oM];rfl
 ·rw [show (nm s.v).toNat=2 by omega,f3.2 oM];rfl
 ·rw [show (nm s.v).toNat=3 by omega];rfl
theorem zq8{l:List Sg}{t t':AF}{x y tol:Int}(h:t'.same (beh t (tr x y)))(h1:(ym l t tol).2=0)(h2:(ym l t' tol).2=0):(ym l t' tol).1=(ym l t tol).1.map (List.map (sh x y)):=by
 unfold ym at h1 h2 ⊢
 by_cases a1:(trans t l).2≠0
 ·rw [if_pos a1] at h1;exact absurd h1 a1
 by_cases a2:(trans t' l).2≠0
 ·rw [if_pos a2] at h2;exact absurd h2 a2
 rw [if_neg a1] at h1 ⊢;rw [if_neg a2] at h2 ⊢;obtain ⟨v1,p1,e1⟩:=zeZ (Decidable.not_not.1 a1);obtain ⟨_,p2,e2⟩:=zeZ (Decidable.not_not.1 a2)
 have es:(trans t' l).1=shL x y (trans t l).1:=by
  rw [e1,e2];unfold shL;rw [List.map_map];refine List.map_congr_left fun s hs=>?_
  show _=ji (sh x y) (ji (fun p=>(kT t p).1) s);rw [zuE];have hf:=zfH (yg.1 v1).2 s hs;rw [← zlt t' hf];unfold zaP
  have eq2:(kj s).map (fun p=>(kT t' p).1)=(kj s).map (fun p=>sh x y (kT t p).1):=List.map_congr_left fun p hp=>by
   have hm:p∈qb l:=List.mem_flatMap.2 ⟨s,hs,hp⟩;rw [zaq (p1 p hm),zaq (p2 p hm)];exact zgS h p
  rw [eq2];exact zq7 (fun p=>sh x y (kT t p).1) hf
 have hv:qq (trans t l).1:=by
  rw [e1];refine yg.2 ⟨by rw [List.length_map];exact zgy v1,zmI (fun s hs p hp=>?_) (yg.1 v1).2⟩;have hm:p∈qb l:=List.mem_flatMap.2 ⟨s,hs,hp⟩;rw [zaq (p1 p hm)];exact zga (p1 p hm)
 have hq:∀p∈qb (trans t l).1,zn (sh x y p):=fun p hp=>by
  rw [e1,zr3] at hp;obtain ⟨z,hz,rfl⟩:=List.mem_map.1 hp;rw [zaq (p1 z hz),← zgS h z];exact zga (p2 z hz)
 rw [es] at h2 ⊢;rw [zwI hv hq] at h2 ⊢
 by_cases b:(kr (trans t l).1 tol).2≠0
 ·rw [if_pos b] at h1;exact absurd h1 b
 rw [if_neg b,if_neg b];exact zwJ x y _
theorem zuF{l:List Sg}{pen:Pen}{t t':AF}{x y tol:Int}(h:t'.same (beh t (tr x y)))(h1:(v9 l pen t tol).2=0)(h2:(v9 l pen t' tol).2=0):(v9 l pen t' tol).1=(v9 l pen t tol).1.map (List.map (sh x y)):=by
 unfold v9 at h1 h2 ⊢
 by_cases a1:¬qa pen
 ·rw [if_pos a1] at h1;exact absurd h1 dC
 rw [if_neg a1] at h1 h2 ⊢;rw [if_neg a1]
 by_cases a2:(kr l tol).2≠0
 ·rw [if_pos a2] at h1;exact absurd h1 a2
 rw [if_neg a2] at h1 h2 ⊢;rw [if_neg a2]
 by_cases a3:(jk (kr l tol).1 pen).2≠0
 ·rw [if_pos a3] at h1;exact absurd h1 a3
 rw [if_neg a3] at h1 h2 ⊢;rw [if_neg a3]
 by_cases a4:(jh (jk (kr l tol).1 pen).1 pen).2≠0
 ·rw [if_pos a4] at h1;exact absurd h1 a4
 rw [if_neg a4] at h1 h2 ⊢;rw [if_neg a4];rw [zeY h1,zeY h2,List.map_map];refine List.map_congr_left fun r _=>?_
 show List.map (goP t') r=List.map (sh x y) (List.map (goP t) r);rw [List.map_map];exact List.map_congr_left fun p _=>zgS h p
theorem zpA{ds:List Int}{d:Int}:∀{k j:Nat},j < k->ds[j]? =some d->(j:Int)<=uq ds d k
 | k+1,j,hj,h=>by
  unfold uq
  split
  ·omega
  ·rename_i hn
   by_cases e:j=k
   ·subst e;exact absurd h hn
   ·exact zpA oM h
theorem zj2{ds:List Int}(h:zco ds){b:Nat}(hb:ds[b]? =some 0){e:Int}(he:0<=e):∀{k:Nat} {d:Int},b<=k->ds[k]? =some d->e < d->∃j,b<=j/\j < k/\ds[j]? =some e
 | 0,d,hk,hd,hl=>by
  obtain rfl:b=0:=oM;rw [hb] at hd;cases hd;omega
 | k+1,d,hk,hd,hl=>by
  by_cases c0:b=k+1
  ·subst c0;rw [hb] at hd;cases hd;omega
  obtain ⟨a,ha⟩:∃a,ds[k]? =some a:=⟨_,List.getElem?_eq_getElem (by have:=(List.getElem?_eq_some_iff.1 hd).1;omega)⟩;have hs:=h.2.2 k a d ha hd
  by_cases c:a=e
  ·exact ⟨k,oM,oM,by rw [ha,c]⟩
  ·obtain ⟨j,h1,h2,h3⟩:=zj2 h hb he (k:=k) oM ha oM;exact ⟨j,h1,oM,h3⟩
theorem zj3{ds:List Int}(h:zco ds){b:Nat}(hb:ds[b]? =some 0):∀(n k:Nat) {d:Int},k < n->b<=k->ds[k]? =some d->∀a∈qg ds k,b<=a
 | n+1,k,d,hn,hk,hd,a,ha=>by
  rw [jf] at ha
  rcases List.mem_cons.1 ha with rfl | ha
  ·exact hk
  ·have h0:=h.2.1 d (List.mem_of_getElem? hd);have hp:=zdw h hd
   by_cases c:d=0
   ·rw [hp.1 c,zao dC] at ha;cases ha
   ·obtain ⟨j,hj,hjk,hjd⟩:=hp.2 oM;obtain ⟨z,z1,z2,z3⟩:=zj2 h hb (e:=d - 1) oM hk hd oM;have hz:=zpA z2 z3;have eg:ds.getD k 0=d:=by rw [List.getD_eq_getElem?_getD,hd];rfl
    have ej:uq ds (d - 1) k=j:=by rw [← hj];unfold yD;rw [eg]
    rw [hj] at ha;exact zj3 h hb n j oM oM hjd a ha
theorem zj4{ds:List Int}:∀(n k:Nat),k < n->∀a∈qg ds k,a<=k
 | n+1,k,hn,a,ha=>by
  rw [jf] at ha
  rcases List.mem_cons.1 ha with rfl | ha
  ·exact Nat.le_refl _
  ·have hp:=zeb ds k
   rcases Int.lt_or_le (yD ds k) 0 with c | c
   ·rw [zao c] at ha;cases ha
   ·obtain ⟨j,hj⟩:=Int.eq_ofNat_of_zero_le c;rw [hj] at ha;have:=zj4 n j oM a ha;omega
theorem zuG{ds:List Int}(h:zco ds){i k e:Nat}{d:Int}(hd:ds[k]? =some d)(ho:k < i∨(i < e/\ds[e]? =some 0/\e<=k)):i∉qg ds k:=fun hm=>by
 rcases ho with c | ⟨c1,c2,c3⟩
 ·have:=zj4 (k+1) k oM i hm;omega
 ·have:=zj3 h c2 (k+1) k oM c3 hd i hm;omega
theorem zyf{ds:List Int}(h:zco ds){i k:Nat}{d:Nat}(hi:ds[i]? =some 0)(hd:ds[k]? =some (d:Int))(hk:i<=k)(hb:∀j x,i < j->j<=k->ds[j]? =some x->0 < x):
  ∃p,qg ds k=p++[i]/\i∉p:=by
 have hl:=zbK h hd;have hne:qg ds k≠[]:=fun e=>by rw [e] at hl;cases hl
 obtain ⟨p,a,e⟩:∃p a,qg ds k=p++[a]:=⟨_,_,(List.dropLast_concat_getLast hne).symm⟩;have hpl:p.length=d:=by rw [e,List.length_append] at hl;simpa using hl
 have ha:(qg ds k)[d]? =some a:=by rw [e,← hpl];simp
 have hda:=zbJ h hd ha;have hm:a∈qg ds k:=List.mem_of_getElem? ha;have g1:=zj3 h hi (k+1) k oM hk hd a hm;have g2:=zj4 (k+1) k oM a hm
 have eai:a=i:=by
  refine Decidable.not_not.1 fun c=>?_
  have:=hb a _ oM g2 hda;omega
 subst eai;refine ⟨p,e,fun hp=>?_⟩;obtain ⟨m,hm1,hm2⟩:=List.getElem_of_mem hp;have hm3:(qg ds k)[m]? =some a:=by rw [e,List.getElem?_append_left hm1,List.getElem?_eq_getElem hm1,hm2]
 have:=zbJ h hd hm3;rw [hi] at this;have:=Option.some.inj this;omega
def setT(n:Nd)(t:AF):Nd:={ n with t:=t }
def mvS(s:Sc)(i:Nat)(n:Nd)(t:AF):Sc:={ s with ns:=s.ns.set i (setT n t) }
theorem zlK{s:Sc}{i:Nat}{n:Nd}{t:AF}(hn:s.ns[i]? =some n):zA (mvS s i n t).ns=zA s.ns:=by
 unfold zA mvS;refine List.ext_getElem? fun j=>?_
 rw [List.getElem?_map,List.getElem?_map,List.getElem?_set]
 by_cases c:i=j
 ·subst c;rw [if_pos rfl,if_pos (List.getElem?_eq_some_iff.1 hn).1,hn];rfl
 ·rw [if_neg c]
theorem zgT(s:Sc)(i:Nat)(n:Nd)(t:AF):(mvS s i n t).ns.length=s.ns.length:=by unfold mvS;rw [List.length_set]
theorem zgb{s:Sc}{i k:Nat}{n:Nd}{t:AF}(h:k≠i):(mvS s i n t).ns[k]? =s.ns[k]? :=by
 unfold mvS;rw [List.getElem?_set,if_neg (fun e=>h e.symm)]
theorem zng{s:Sc}{i:Nat}{n:Nd}{t:AF}(hn:s.ns[i]? =some n):(mvS s i n t).ns[i]? =some (setT n t):=by
 unfold mvS;rw [List.getElem?_set,if_pos rfl,if_pos (List.getElem?_eq_some_iff.1 hn).1]
theorem zyh{s:Sc}{i k:Nat}{n:Nd}{t:AF}(h:k≠i):tAt (mvS s i n t).ns k=tAt s.ns k:=by unfold tAt;rw [zgb h]
theorem zCq{s:Sc}{i k:Nat}{n:Nd}{t:AF}(hn:s.ns[i]? =some n)(hv:qx s)(hv':qx (mvS s i n t))(h:i∉qg (zA s.ns) k):zw (mvS s i n t) k=zw s k/\zE (mvS s i n t) k=zE s k:=by
 have hki:k≠i:=fun e=>h (by rw [e,jf];exact .head _)
 have et:trs (mvS s i n t).ns k=trs s.ns k:=by
  unfold trs;rw [zlK hn];exact List.map_congr_left fun a ha=>zyh fun e=>h (by rw [← e];exact ha)
 refine ⟨?_,?_⟩
 ·unfold zw;rw [if_neg (show ¬¬qx (mvS s i n t) from fun q=>q hv'),if_neg (show ¬¬qx s from fun q=>q hv),zgT,et]
 ·unfold zE;have e:inS (mvS s i n t) k↔inS s k:=⟨fun q=>⟨hv,q.2.1,by have:=q.2.2;rw [zgT] at this;exact this⟩,fun q=>⟨hv',q.2.1,by rw [zgT];exact q.2.2⟩⟩
  by_cases c:inS s k
  ·rw [if_pos c,if_pos (e.2 c),show ((k:Int)).toNat=k from rfl,zgb hki]
  ·rw [if_neg c,if_neg (fun q=>c (e.1 q))]
theorem mv_in {s:Sc} {i k:Nat} {n:Nd} {u:AF} {t:AF} {p:List Nat} (hn:s.ns[i]? =some n) (hv:qx s) (hv':qx (mvS s i n t)) (ht:t.same (beh n.t u)) (hk:k < s.ns.length)
  (hc:qg (zA s.ns) k=p++[i]) (hp:i∉p) (h1:(zw s k).2=0) (h2:(zw (mvS s i n t) k).2=0):(zw (mvS s i n t) k).1.same (beh (zw s k).1 u):=by
 have e1:trs s.ns k=p.map (tAt s.ns)++[n.t]:=by
  unfold trs;rw [hc,List.map_append];show _++[tAt s.ns i]=_;rw [zjN hn]
 have e2:trs (mvS s i n t).ns k=p.map (tAt s.ns)++[t]:=by
  unfold trs;rw [zlK hn,hc,List.map_append];show _++[tAt (mvS s i n t).ns i]=_;rw [zjN (zng hn)];congr 1;exact List.map_congr_left fun a ha=>zyh fun e=>hp (by rw [← e];exact ha)
 have w1:zw s k=qt (trs s.ns k):=zbL hv oM oM;have w2:zw (mvS s i n t) k=qt (trs (mvS s i n t).ns k):=zbL hv' oM (by rw [zgT];omega);rw [w1] at h1 ⊢;rw [w2] at h2 ⊢;rw [zaX h1,zaX h2,e1,e2];generalize p.map (tAt s.ns)=q;have one:∀a:AF,(kF [a]).same a:=fun a=>qD (uK a []) (zdD a)
 have f1:=qD (zlJ q [n.t]) (by rw [y4 (qH (kF q)) (one n.t)];exact qH _);have f2:=qD (zlJ q [t]) (by rw [y4 (qH (kF q)) (one t)];exact qH _);refine qD f2 ?_;show (beh (kF q) t).same (beh (kF (q++[n.t])) u);rw [y4 f1 (qH u),y4 (qH (kF q)) ht];exact zee (zlI (kF q) n.t u)
theorem zgU{w:AF×Int}{l:List Sg}(h:yH w l≠[]):w.2=0/\(ym l w.1 32).2=0/\yH w l=(ym l w.1 32).1:=by
 unfold yH at h ⊢
 by_cases c:w.2≠0
 ·rw [if_pos c] at h;exact absurd rfl h
 ·rw [if_neg c] at h ⊢;exact ⟨Decidable.not_not.1 c,Decidable.not_not.1 fun k=>h (zpg k),rfl⟩
theorem ze0{w w':AF×Int}{l:List Sg}{x y:Int}(h:w.2=0->w'.2=0->w'.1.same (beh w.1 (tr x y)))(h1:yH w l≠[])(h2:yH w' l≠[]):yH w' l=(yH w l).map (List.map (sh x y)):=by
 obtain ⟨a1,a2,a3⟩:=zgU h1;obtain ⟨b1,b2,b3⟩:=zgU h2;rw [a3,b3];exact zq8 (h a1 b1) a2 b2
theorem zgV{w:AF×Int}{l:List Sg}{pen:Pen}(h:vU w l pen≠[]):w.2=0/\(v9 l pen w.1 32).2=0/\vU w l pen=(v9 l pen w.1 32).1:=by
 unfold vU at h ⊢
 by_cases c:w.2≠0
 ·rw [if_pos c] at h;exact absurd rfl h
 ·rw [if_neg c] at h ⊢;exact ⟨Decidable.not_not.1 c,Decidable.not_not.1 fun k=>h (zsP k),rfl⟩
theorem zq9{w w':AF×Int}{l:List Sg}{pen:Pen}{x y:Int}(h:w.2=0->w'.2=0->w'.1.same (beh w.1 (tr x y)))(h1:vU w l pen≠[])(h2:vU w' l pen≠[]):vU w' l pen=(vU w l pen).map (List.map (sh x y)):=by
 obtain ⟨a1,a2,a3⟩:=zgV h1;obtain ⟨b1,b2,b3⟩:=zgV h2;rw [a3,b3];exact zuF (h a1 b1) a2 b2
theorem zgc(s:Sc)(i:Int):qz s i=if (zE s i).k≠2∨(zE s i).strk.length=0 then [] else vU (zw s i) (zE s i).path (zE s i).pen:=rfl
def zyi(a b:Nd):Prop:=a.k=b.k/\a.path=b.path/\a.clip=b.clip/\a.fill=b.fill/\a.strk=b.strk/\a.pen=b.pen/\a.im=b.im
theorem zuH(a:Nd):zyi a a:=⟨rfl,rfl,rfl,rfl,rfl,rfl,rfl⟩
theorem zAf{s:Sc}{i k:Nat}{n:Nd}{t:AF}(hn:s.ns[i]? =some n)(hv:qx s)(hv':qx (mvS s i n t))(hk:k < s.ns.length):zyi (zE (mvS s i n t) k) (zE s k):=by
 have i1:inS s k:=⟨hv,oM,oM⟩;have i2:inS (mvS s i n t) k:=⟨hv',oM,by rw [zgT];omega⟩
 by_cases c:k=i
 ·subst c;rw [zbb i1 (n:=n) hn,zbb i2 (n:=setT n t) (zng hn)];exact ⟨rfl,rfl,rfl,rfl,rfl,rfl,rfl⟩
 ·obtain ⟨m,hm⟩:∃m,s.ns[k]? =some m:=⟨_,List.getElem?_eq_getElem hk⟩;rw [zbb i1 (n:=m) hm,zbb i2 (n:=m) (show (mvS s i n t).ns[k]? =some m by rw [zgb c];exact hm)];exact zuH m
theorem zuI{s s':Sc}{k:Int}{x y:Int}(hl:zyi (zE s' k) (zE s k))(h:(zw s k).2=0->(zw s' k).2=0->(zw s' k).1.same (beh (zw s k).1 (tr x y))):
  (kK s k≠[]->kK s' k≠[]->kK s' k=(kK s k).map (List.map (sh x y)))/\(qz s k≠[]->qz s' k≠[]->qz s' k=(qz s k).map (List.map (sh x y)))/\
  (yj s k≠[]->yj s' k≠[]->yj s' k=(yj s k).map (List.map (sh x y)))/\(jR s k≠[]->jR s' k≠[]->jR s' k=(jR s k).map (List.map (sh x y))):=by
 obtain ⟨l1,l2,l3,l4,l5,l6,l7⟩:=hl;refine ⟨?_,?_,?_,?_⟩
 ·unfold kK;rw [l1,l2,l4]
  by_cases c:(zE s k).k≠2∨(zE s k).fill.length=0
  ·rw [if_pos c];exact fun q=>absurd rfl q
  ·rw [if_neg c,if_neg c];exact ze0 h
 ·rw [zgc,zgc,l1,l2,l5,l6]
  by_cases c:(zE s k).k≠2∨(zE s k).strk.length=0
  ·rw [if_pos c];exact fun q=>absurd rfl q
  ·rw [if_neg c,if_neg c];exact zq9 h
 ·unfold yj;rw [l1,l7]
  by_cases c:(zE s k).k≠3
  ·rw [if_pos c];exact fun q=>absurd rfl q
  ·rw [if_neg c,if_neg c];exact ze0 h
 ·unfold jR;rw [l3]
  by_cases c:(zE s k).clip.length=0
  ·rw [if_pos c];exact fun q=>absurd rfl q
  ·rw [if_neg c,if_neg c];exact ze0 h
theorem zyj{s s':Sc}{k:Int}(hw:zw s' k=zw s k)(hn:zE s' k=zE s k):kK s' k=kK s k/\qz s' k=qz s k/\yj s' k=yj s k/\jR s' k=jR s k:=by
 unfold kK qz yj jR;rw [hw,hn];exact ⟨rfl,rfl,rfl,rfl⟩
theorem zuJ{l:List Sg}{t:AF}{tol:Int}(h:(ym l t tol).2=0):kq (ym l t tol).1:=by
 have ht:(trans t l).2=0:=by
  refine Decidable.not_not.1 fun k=>?_
  unfold ym at h;rw [if_pos k] at h;exact k h
 obtain ⟨v1,p1,e1⟩:=zeZ ht
 obtain ⟨f1,f2⟩:=zqz (lo:=⟨-1048576,-1048576⟩) (hi:=⟨1048576,1048576⟩) h (fun p hp=>by
  rw [e1,zr3] at hp;obtain ⟨z,hz,rfl⟩:=List.mem_map.1 hp;rw [zaq (p1 z hz)]
  exact zga (p1 z hz))
 exact ⟨oM,fun r hr p hp=>f2 r hr p hp⟩
theorem zsR(f:Pt->Pt):∀rs:List (List Pt),qh (rs.map (List.map f))=qh rs
 | []=>rfl
 | r::rs=>by
  have ih:=zsR f rs;unfold qh at ih ⊢;simp only [List.map_cons,List.sum_cons,List.length_map];rw [ih]
theorem zuK{rs:List (List Pt)}{t:AF}(h:(vg rs t).2=0):kq (vg rs t).1:=by
 have e:=zeY h
 have hr:kq rs/\zej t rs=0:=by
  unfold vg at h
  by_cases k:kq rs
  ·rw [qo k] at h
   by_cases q:zej t rs=0
   ·exact ⟨k,q⟩
   ·rw [if_pos q] at h;exact absurd h q
  ·rw [if_pos k] at h;exact absurd h dC
 rw [e];refine ⟨by rw [zsR];exact hr.1.1,fun r hr2 p hp=>?_⟩;obtain ⟨r0,hr0,rfl⟩:=List.mem_map.1 hr2;obtain ⟨p0,hp0,rfl⟩:=List.mem_map.1 hp;exact zga (zgN (zgO hr.2 r0 hr0) p0 hp0)
theorem zyk{l:List Sg}{pen:Pen}{t:AF}{tol:Int}(h:(v9 l pen t tol).2=0):kq (v9 l pen t tol).1:=by
 unfold v9 at h ⊢
 by_cases a1:¬qa pen
 ·rw [if_pos a1] at h;exact absurd h dC
 rw [if_neg a1] at h ⊢
 by_cases a2:(kr l tol).2≠0
 ·rw [if_pos a2] at h;exact absurd h a2
 rw [if_neg a2] at h ⊢
 by_cases a3:(jk (kr l tol).1 pen).2≠0
 ·rw [if_pos a3] at h;exact absurd h a3
 rw [if_neg a3] at h ⊢
 by_cases a4:(jh (jk (kr l tol).1 pen).1 pen).2≠0
 ·rw [if_pos a4] at h;exact absurd h a4
 rw [if_neg a4] at h ⊢;exact zuK h
theorem zar:kq []:=⟨by show ((0:Nat):Int)<=4096;decide,fun r hr=>by cases hr⟩
theorem zbM(w:AF×Int)(l:List Sg):kq (yH w l):=by
 by_cases h:yH w l=[]
 ·rw [h];exact zar
 ·obtain ⟨_,a2,a3⟩:=zgU h;rw [a3];exact zuJ a2
theorem zlL(w:AF×Int)(l:List Sg)(pen:Pen):kq (vU w l pen):=by
 by_cases h:vU w l pen=[]
 ·rw [h];exact zar
 ·obtain ⟨_,a2,a3⟩:=zgV h;rw [a3];exact zyk a2
end Go.Gs
