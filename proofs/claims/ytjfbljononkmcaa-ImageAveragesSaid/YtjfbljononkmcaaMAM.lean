/- A call by contract, and all operations. -/
import Derived.Test.YtjfbljononkmcaaMA
import Derived.Test.YtjfbljononkmcaaMAL
set_option maxRecDepth 100000
set_option maxHeartbeats 8000000
set_option linter.all false
namespace Go.Gs
theorem kL.move {S S' Pm Pm':Nat->Prop} {ρ ρ':zd} {w:World} {k k':Nat} {m:Mem} (hk:ρ' k'=ρ k) (hf:ut m) (hd:∀s v,(kz s=true∨True)->D S w s v->D S' w s v∨False)
  (h:kL S Pm ρ w k m):kL S' Pm' ρ' w k' m:=by
 cases m with
 | box T cs=>
  obtain ⟨b,vs,h1,h2,h3,h4,h5⟩:=h;exact ⟨b,vs,hk.trans h1,h2,h3,h4,fun j s v hs hv=>.d _ _ ((hd s v (.inr trivial) (qh (kH hf j s hs) (h5 j s v hs hv))).resolve_right id)⟩
 | arr T enc sz xs=>
  obtain ⟨v,cells,h1,h2,h3,h4,h5,h6⟩:=h;refine ⟨v,cells,hk.trans h1,h2,h3,h4,h5,fun i j x s hx hs=>?_⟩;obtain ⟨u,hu,hd'⟩:=h6 i j x s hx hs;exact ⟨u,hu,(hd s u (.inr trivial) hd').resolve_right id⟩
 | garr T sz xs=>exact hf.elim
 | map es=>
  obtain ⟨r,ents,clock,h1,h2,h3,h4⟩:=h;refine ⟨r,ents,clock,hk.trans h1,h2,h3,fun i n s hi=>?_⟩;obtain ⟨e,g1,g2,g3⟩:=h4 i n s hi;exact ⟨e,g1,g2,(hd s _ (.inr trivial) g3).resolve_right id⟩
theorem kL.scalar{S S' Pm Pm':Nat->Prop}{ρ ρ':zd}{w:World}{k k':Nat}{m:Mem}(hk:ρ' k'=ρ k)(hf:vQ m)(h:kL S Pm ρ w k m):kL S' Pm' ρ' w k' m:=by
 cases m with
 | box T cs=>
  obtain ⟨b,vs,h1,h2,h3,h4,h5⟩:=h;exact ⟨b,vs,hk.trans h1,h2,h3,h4,fun j s v hs hv=>.d _ _ (qY (qz hf j s hs) (h5 j s v hs hv))⟩
 | arr T enc sz xs=>
  obtain ⟨v,cells,h1,h2,h3,h4,h5,h6⟩:=h;refine ⟨v,cells,hk.trans h1,h2,h3,h4,h5,fun i j x s hx hs=>?_⟩;obtain ⟨u,hu,hd'⟩:=h6 i j x s hx hs;exact ⟨u,hu,qY (Pm:=Pm) (ρ:=ρ) (qz (hf x (List.mem_of_getElem? hx)) j s hs) (.d _ _ hd')⟩
 | garr T sz xs=>exact hf.elim
 | map es=>
  obtain ⟨r,ents,clock,h1,h2,h3,h4⟩:=h;refine ⟨r,ents,clock,hk.trans h1,h2,h3,fun i n s hi=>?_⟩;obtain ⟨e,g1,g2,g3⟩:=h4 i n s hi;exact ⟨e,g1,g2,qY (Pm:=Pm) (ρ:=ρ) (qz hf i s (by simp [hi])) (.d _ _ g3)⟩
def one(v:Value):zd:=fun k=>if k=0 then some v else none
theorem jn{v:Value}{m:Mem}{b:Nat}:Own [(0,m)] (one v) b↔zM v=some b:=by
 constructor
 ·rintro ⟨k,m',v',h,h1,h2⟩
  cases h with
  | head=>simp [one] at h1;subst h1;exact h2
  | tail _ h=>cases h
 ·intro h;exact ⟨0,m,v,.head _,by simp [one],h⟩
theorem qa{v:Value}:one v 0=some v:=rfl
theorem zfj{k:Nat}{cs:List SV}(h:zbj k cs=true):∀k' off,.loc k' off∈cs->k'≠k:=by
 induction cs with
 | nil=>intro _ _ h;cases h
 | cons c cs ih=>
  intro k' off hm e;subst e
  cases hm with
  | head=>simp [zbj,Nat.beq_refl] at h
  | tail _ hm=>
   refine ih ?_ k' off hm rfl
   cases c <;> simp only [zbj] at h <;> (try split at h) <;> simp_all
theorem zc6{lm:Nat->Option Mem}{cs:List SV}(h:jR lm cs=true):∀k off,.loc k off∈cs->∃m,lm k=some m:=by
 induction cs with
 | nil=>intro _ _ h;cases h
 | cons x xs ih=>
  intro k off hm;simp only [jR] at h
  split at h
  ·rename_i hx
   cases hm with
   | head=>
    simp only [jQ] at hx
    cases hq:lm k with
    | none=>simp [hq] at hx
    | some m=>exact ⟨m,rfl⟩
   | tail _ hm=>exact ih h k off hm
  ·cases h
theorem zeB {lm:Nat->Option Mem} {Keep:Nat->Prop} {M:List (Nat×Mem)} {ρ:zd} {w:World} (hlm:∀k m,lm k=some m->(k,m)∈M) (hm:zj Keep M ρ w)
  {k:Nat} {m:Mem} {v0:Value} (hkm:lm k=some m) (hv0:ρ k=some v0) {S' Pm':Nat->Prop} (hsub:∀b,S' b->Keep b∨Own M ρ b) (hPm:∀b,Pm' b->zM v0=some b):
  ∀{cs:List SV} {vs:List Value},Gs (fun b=>Keep b∨Own M ρ b) (Own M ρ) ρ w cs vs->jo lm k cs=true->Gs S' Pm' (one v0) w (zeo lm k cs) vs
 | [],vs,hg,_=>by rw [hg.nil_inv];exact .nil
 | c::cs,vs,hg,hc=>by
  obtain ⟨v,vs',rfl,h1,h2⟩:=hg.cons_inv;have hP:∀b,¬Own M ρ b->¬Pm' b:=fun b hn hp=>hn ⟨k,m,v0,hlm k m hkm,hv0,hPm b hp⟩
  have hP2:∀k' b,(∃m',lm k'=some m')->k'≠k->ρ k'=some (.pointer (some ⟨b,0,none⟩))->¬Pm' b:=fun k' b ⟨m',hm'⟩ hne hρ hp=>
   hm.apart k' m' k m _ v0 b (hlm k' m' hm') (hlm k m hkm) hne hρ hv0 rfl (hPm b hp)
  have key:G S' Pm' (one v0) w (give lm k c) v/\jo lm k cs=true:=by
   unfold jo at hc
   split at hc
   ·rename_i heq;cases heq
   ·rename_i k' off r heq
    cases heq
    split at hc
    ·rename_i hb;have:=Nat.eq_of_beq_eq_true hb;subst this;refine ⟨?_,hc⟩;simp only [give,Nat.beq_refl];obtain ⟨b,hρ,rfl⟩:=h1.loc_inv;rw [hv0] at hρ;cases hρ
     exact .loc 0 off b qa
    ·rename_i hb;obtain ⟨hc1,hc2⟩:=zu hc;refine ⟨?_,hc2⟩;simp only [give,hb]
     have hlk:∃m',lm k'=some m':=by
      simp only [kY,jQ] at hc1
      cases hq:lm k' with
      | none=>simp [hq] at hc1
      | some m'=>exact ⟨m',rfl⟩
     exact zaq hlm hm hsub h1 (.inl hc1) hP (fun k2 off2 b he hρ=>by
      rcases he with he | ⟨_,_,he,_⟩
      ·cases he;exact hP2 _ b hlk (Nat.ne_of_beq_eq_false hb) hρ
      ·cases he)
   ·rename_i k' r heq
    cases heq
    split at hc
    ·rename_i hb;have:=Nat.eq_of_beq_eq_true hb;subst this;refine ⟨?_,hc⟩;simp only [give,Nat.beq_refl];obtain ⟨hρ,h3⟩:=h1.own_inv;rw [hv0] at hρ;cases hρ
     exact .own 0 _ qa h3
    ·cases hc
   ·rename_i k' sz lo n r heq
    cases heq
    split at hc
    ·rename_i hb;have:=Nat.eq_of_beq_eq_true hb;subst this;refine ⟨?_,hc⟩;simp only [give,Nat.beq_refl];obtain ⟨b,len,cap,cap',hρ,rfl,h3,h4⟩:=h1.win_inv;rw [hv0] at hρ;cases hρ
     exact .win 0 sz lo n b len cap cap' qa h3 h4
    ·cases hc
   ·rename_i f caps r heq
    cases heq
    obtain ⟨hc0,hc⟩:=zu hc;obtain ⟨hc1,hc2⟩:=zu hc;refine ⟨?_,hc2⟩;simp only [give];refine zaq hlm hm hsub h1 (.inl hc1) hP (fun k2 off2 b he hρ=>?_)
    rcases he with he | ⟨f',cs',he,hmem⟩
    ·cases he
    ·cases he
     refine hP2 k2 b ?_ (zfj hc0 k2 off2 hmem) hρ;simp only [kY] at hc1
     split at hc1
     ·rename_i hcl;exact zc6 hcl k2 off2 hmem
     ·cases hc1
   ·rename_i s r hn1 hn2 hn2' hn3 heq
    cases heq
    obtain ⟨hc1,hc2⟩:=zu hc;refine ⟨?_,hc2⟩
    have hgv:give lm k c=v9 lm c:=by
     cases c <;> first | rfl | exact absurd rfl (hn1 _ _) | exact absurd rfl (hn2 _) | exact absurd rfl (hn2' _ _ _ _)
    rw [hgv]
    exact zaq hlm hm hsub h1 (.inl hc1) hP (fun k2 off2 b he hρ=>by
     rcases he with rfl | ⟨f',cs',rfl,_⟩
     ·exact absurd rfl (hn1 _ _)
     ·exact absurd rfl (hn3 _ _))
  exact .cons key.1 (zeB hlm hm hkm hv0 hsub hPm h2 key.2)
theorem kL.name{S Pm:Nat->Prop}{ρ:zd}{w:World}{k:Nat}{m:Mem}(h:kL S Pm ρ w k m):∃v,ρ k=some v:=by
 cases m with
 | box T cs=>obtain ⟨b,vs,h1,_⟩:=h;exact ⟨_,h1⟩
 | arr T enc sz xs=>obtain ⟨v,cells,h1,_⟩:=h;exact ⟨_,h1⟩
 | garr T sz xs=>obtain ⟨v,cells,h1,_⟩:=h;exact ⟨_,h1⟩
 | map es=>obtain ⟨r,ents,clock,h1,_⟩:=h;exact ⟨_,h1⟩
theorem mv_g{S Pm S' Pm':Nat->Prop}{ρ ρ':zd}{w:World}{κ:Nat}{v0:Value}(h0:ρ' 0=some v0)(hκ:ρ κ=some v0):∀(r:SV) {v:Value},qW r=true->G S' Pm' ρ' w r v->G S Pm ρ w (mv κ r) v:=by
 intro r
 induction r using SV.rec (motive_2:=fun cs=>∀{vs:List Value},qW.mvOKs cs=true->Gs S' Pm' ρ' w cs vs->Gs S Pm ρ w (mv.mvs κ cs) vs) with
 | val v=>intro u _ hg;exact .d _ _ (hg.val_inv ▸ .val _)
 | pr p i=>intro u _ hg;rw [hg.pr_inv];exact .d _ _ (.pr p i)
 | agg cs ih=>
  intro u h hg;simp only [qW] at h;obtain ⟨vs,rfl,hvs⟩:=hg.agg_inv;have:=ih h hvs;simp only [mv];exact .agg _ vs this.1 this.2
 | tup cs ih=>
  intro u h hg;simp only [qW] at h;obtain ⟨vs,rfl,hvs⟩:=hg.tup_inv;have:=ih h hvs;simp only [mv];exact .tup _ vs this.1 this.2
 | own k=>
  intro u h hg;simp only [qW] at h;have:=Nat.eq_of_beq_eq_true h;subst this;obtain ⟨g1,g2⟩:=hg.own_inv;rw [h0] at g1;cases g1
  simp only [mv];exact .own _ _ hκ g2
 | sl _ _=>intro u h _;simp [qW] at h
 | ptr _ _=>intro u h _;simp [qW] at h
 | loc k off=>
  intro u h hg;simp only [qW] at h;have:=Nat.eq_of_beq_eq_true h;subst this;obtain ⟨b,g1,rfl⟩:=hg.loc_inv;rw [h0] at g1;cases g1
  simp only [mv];exact .loc _ _ _ hκ
 | eloc _ _ _ _=>intro u h _;simp [qW] at h
 | win _ _ _ _=>intro u h _;simp [qW] at h
 | fn f cs ih=>
  intro u h hg;simp only [qW] at h;obtain ⟨vs,rfl,hvs⟩:=hg.fn_inv;have:=ih h hvs;simp only [mv];exact .fn _ _ vs this.1 this.2
 | dptr _ _=>intro u h _;simp [qW] at h
 | dfn _ _ _=>intro u h _;simp [qW] at h
 | bm _ _ _=>intro u h _;simp [qW] at h
 | op _=>intro u h _;simp [qW] at h
 | ifc t s ih=>
  intro u h hg;simp only [qW] at h;obtain ⟨v,rfl,hv⟩:=hg.ifc_inv;simp only [mv];exact .ifc t _ v (ih h hv)
 | junk=>intro u _ _;exact .d _ _ (.junk u)
 | nils=>intro u h _;simp [qW] at h
 | anyb=>intro u h _;simp [qW] at h
 | full _ _=>intro u h _;simp [qW] at h
 | nil=>
  rename_i vs _ hg
  simpa [mv.mvs,hg.nil_inv] using Gs.nil
 | cons c cs ih1 ih2=>
  rename_i vs h hg;simp only [qW.mvOKs] at h
  split at h
  ·rename_i h1;obtain ⟨v,vs',rfl,g1,g2⟩:=hg.cons_inv;exact .cons (ih1 h1 g1) (ih2 h g2)
  ·cases h
theorem zd0{o:Option Mem}(h:zfM o=true):∃(T:TypeId) (α:Type) (enc:α->List SV) (sz:Nat) (xs:List α),o=some (.arr T enc sz xs):=by
 unfold zfM at h
 split at h
 ·exact ⟨_,_,_,_,_,rfl⟩
 ·cases h
theorem zd1 {lm:Nat->Option Mem} {Keep:Nat->Prop} {M:List (Nat×Mem)} {ρ:zd} {w:World} (hlm:∀k m,lm k=some m->(k,m)∈M) (hm:zj Keep M ρ w)
  {k:Nat} {T:TypeId} {α:Type} {enc:α->List SV} {sz:Nat} {xs:List α} (hkm:lm k=some (.arr T enc sz xs)) {S':Nat->Prop} (hsub:∀b,S' b->Keep b∨Own M ρ b)
  (hk:∀v b,ρ k=some v->zM v=some b->¬S' b) {Pm':Nat->Prop} (hP:∀b,¬Pm' b) {ρ':zd}:
  ∀{cs:List SV} {vs:List Value},Gs (fun b=>Keep b∨Own M ρ b) (Own M ρ) ρ w cs vs->zfN lm k cs=true->Gs S' Pm' ρ' w (yd lm cs) vs
 | [],vs,hg,_=>by rw [hg.nil_inv];exact .nil
 | c::cs,vs,hg,hc=>by
  obtain ⟨v,vs',rfl,h1,h2⟩:=hg.cons_inv;unfold zfN at hc
  split at hc
  ·rename_i heq;cases heq
  ·rename_i k' r heq
   cases heq
   split at hc
   ·rename_i hb;have:=Nat.eq_of_beq_eq_true hb;subst this;refine .cons ?_ (zd1 hlm hm hkm hsub hk hP h2 hc);simp only [v9,vw,hkm];exact .d _ _ (zal hm (hlm _ _ hkm) hsub hk h1.own_inv.1)
   ·cases hc
  ·rename_i s r hn heq
   cases heq
   obtain ⟨hc1,hc2⟩:=zu hc;exact .cons (zaq hlm hm hsub h1 (.inl hc1) (fun b _=>hP b) (fun _ _ b _ _=>hP b)) (zd1 hlm hm hkm hsub hk hP h2 hc2)
theorem qZ {P:Program} {c:Call} {f:FuncId} {svs za:List SV} {lm:Nat->Option Mem} {κ:Nat} {K:SV->MD->Prop}
  (open_args:∀{S Pm:Nat->Prop} {ρ:zd} {a:Act} {w:World},Gs S Pm ρ w svs ((zG (.call c)).map a.eval)->
   ∃vs0,(∀o:Oper,o.op=.call c->ur P f->(execOp a.eval o).run P w=.ok (.enter f (List.toArray vs0)) w)/\Gs S Pm ρ w za vs0)
  (h:ze P lm κ f za K):∃r md,K r md/\kE P (.call c) svs lm κ r md:=by
 cases h with
 | to r hcall hr hk=>
  refine ⟨r,.none,zS hk,fun o ho Keep M ρ a w hlm hm _ _ hgs=>?_⟩;have hlm':=fun k m h=>zg (hlm k m h)
  obtain ⟨vs0,hrun,hg⟩:=open_args hgs;refine zO.call (hrun o ho hcall.1) ?_
  by_cases hcl:kY lm za=true
  ·have hr:v8 r=true:=by unfold zen at hr;rw [hcl] at hr;exact hr
   have hb:∀b,(Keep b∨Own M ρ b)->b < w.heap.size:=fun b hb=>hb.elim (hm.kp b) fun h=>(hm.old b h).1
   have hv:Gs (fun b=>(Keep b∨Own M ρ b)∨Own [] (fun _=>none) b) (Own [] (fun _=>none)) (fun _=>none) w (yd lm za) vs0:=
    uB hlm' hm (fun b h=>h.resolve_right zw) (fun _=>zw) hg (.inl hcl)
   refine (hcall.2 (fun b=>Keep b∨Own M ρ b) (fun _=>none) w _ hb (kV hb fun _ _ h=>hm.glc h) (fun _ _=>rfl) hv).mono ?_
   rintro e w' ⟨v,ρ',rfl,hs,_,hgr⟩
   obtain ⟨hs',hm'⟩:=hm.same hs.os hs.tape hs.output hs.size fun b hb=>hs.block b hb zw
   exact ⟨v,rfl,ρ,hs',hm',vV (fun b h=>.inl h) hr hgr,fun _ _=>rfl⟩
  ·have hr:vP r=true:=by unfold zen at hr;rw [Bool.eq_false_iff.2 hcl] at hr;exact hr
   have hv:Gs (fun b=>False∨Own [] (fun _=>none) b) (Own [] (fun _=>none)) (fun _=>none) w (yd lm za) vs0:=
    uB hlm' hm (fun b h=>(h.resolve_left id |> zw).elim) (fun _=>zw) hg (.inr fun b _ h=>zw (h.resolve_left id))
   refine (hcall.2 (fun _=>False) (fun _=>none) w _ (fun _ h=>h.elim) (kV (fun _ h=>h.elim) fun _ _ h=>hm.glc h) (fun _ _=>rfl) hv).mono ?_
   rintro e w' ⟨v,ρ',rfl,hs,_,hgr⟩
   obtain ⟨hs',hm'⟩:=hm.same hs.os hs.tape hs.output hs.size fun b hb=>hs.block b hb zw
   exact ⟨v,rfl,ρ,hs',hm',zfh hr hgr,fun _ _=>rfl⟩
 | fresh m r hcall hr0 hfm hcl hk=>
  refine ⟨_,_,zS hk,fun o ho Keep M ρ a w hlm hm hκ hκM hgs=>?_⟩;replace hκ:=hκ _ (Nat.le_refl _) (Nat.lt_succ_self _);replace hκM:=hκM rfl;have hlm':=fun k m h=>zg (hlm k m h)
  obtain ⟨vs0,hrun,hg⟩:=open_args hgs;refine zO.call (hrun o ho hcall.1) ?_
  have fin:∀(S0:Nat->Prop),((∀b,Keep b∨Own M ρ b->S0 b)∨vQ m)->∀(w':World) (v:Value) (ρ':zd),Stp (Own [] (fun _=>none)) (Own [(0,m)] ρ') (fun _=>none) ρ' w w'->zj S0 [(0,m)] ρ' w'->
    G (fun b=>S0 b∨Own [(0,m)] ρ' b) (Own [(0,m)] ρ') ρ' w' r v->zE Keep M ρ w κ (mv κ r) (.push m) v w':=by
   intro S0 hS0 w' v1 ρ' hs hm' hgr;obtain ⟨v,hv0⟩:=(hm'.rel 0 m (.head _)).name
   have hownv:∀b,zM v=some b->w.heap.size<=b/\b < w'.heap.size:=fun b hb=>
    have ho:Own [(0,m)] ρ' b:=⟨0,m,v,.head _,hv0,hb⟩
    ⟨(hs.own b ho).resolve_left zw,(hm'.old b ho).1⟩
   have hown0:∀b,Own [(0,m)] ρ' b->zM v=some b:=by
    rintro b ⟨k,m',v',h,h1,h2⟩
    cases h with
    | head=>rw [hv0] at h1;cases h1;exact h2
    | tail _ h=>cases h
   refine zE.push (u:=v) (hm.grow (fun _ h=>h) hm.keys hκ hκM v m w' hs.os hs.tape hs.output hs.size (fun b hb _=>hs.block b hb zw)
    (fun k m v b h1 h2 h3=>hs.block b (hm.old b ⟨k,m,v,h1,h2,h3⟩).1 zw)
    (fun b hb=>⟨.inr (hownv b hb).1,(hownv b hb).2,fun k m v' h1 h2 h3=>by have:=(hm.old b ⟨k,m,v',h1,h2,h3⟩).1;have:=(hownv b hb).1;omega⟩) fun hst=>?_) (mv_g hv0 zn r hr0 hgr)
   rcases hS0 with hS0 | hsc
   ·refine kL.move (S:=fun b=>S0 b∨Own [(0,m)] ρ' b) (Pm:=Own [(0,m)] ρ') (by rw [zn,hv0]) hfm (fun s u _ hd=>.inl (hd.less fun b hb=>?_)) (hm'.rel 0 m (.head _))
    rcases hb with hb | ⟨k,m',v',h1,h2,h3⟩
    ·exact .inl (hS0 b (.inl hb))
    ·cases h1 with
     | head=>rw [zn] at h2;cases h2;exact .inr ⟨0,m,v,.head _,hv0,h3⟩
     | tail _ h1=>rw [jZ (fun e=>by subst e;exact hκM _ h1)] at h2;exact .inl (hS0 b (.inr ⟨k,m',v',h1,h2,h3⟩))
   ·exact kL.scalar (by rw [zn,hv0]) hsc (hm'.rel 0 m (.head _))
  by_cases hcl':kY lm za=true
  ·have hb:∀b,(Keep b∨Own M ρ b)->b < w.heap.size:=fun b hb=>hb.elim (hm.kp b) fun h=>(hm.old b h).1
   have hv:Gs (fun b=>(Keep b∨Own M ρ b)∨Own [] (fun _=>none) b) (Own [] (fun _=>none)) (fun _=>none) w (yd lm za) vs0:=
    uB hlm' hm (fun b h=>h.resolve_right zw) (fun _=>zw) hg (.inl hcl')
   refine (hcall.2 (fun b=>Keep b∨Own M ρ b) (fun _=>none) w _ hb (kV hb fun _ _ h=>hm.glc h) (fun _ _=>rfl) hv).mono ?_
   rintro e w' ⟨v,ρ',rfl,hs,hm',hgr⟩
   exact ⟨v,rfl,fin _ (.inl fun b h=>h) w' v ρ' hs hm' hgr⟩
  ·have hsc:=hcl.resolve_left hcl'
   have hv:Gs (fun b=>False∨Own [] (fun _=>none) b) (Own [] (fun _=>none)) (fun _=>none) w (yd lm za) vs0:=
    uB hlm' hm (fun b h=>(h.resolve_left id |> zw).elim) (fun _=>zw) hg (.inr fun b _ h=>zw (h.resolve_left id))
   refine (hcall.2 (fun _=>False) (fun _=>none) w _ (fun _ h=>h.elim) (kV (fun _ h=>h.elim) fun _ _ h=>hm.glc h) (fun _ _=>rfl) hv).mono ?_
   rintro e w' ⟨v,ρ',rfl,hs,hm',hgr⟩
   exact ⟨v,rfl,fin _ (.inr hsc) w' v ρ' hs hm' hgr⟩
 | see k r hcall hka hcs hr hk=>
  obtain ⟨T,α,enc,sz,xs,hlk⟩:=zd0 hka;refine ⟨r,.drop k,zS hk,fun o ho Keep M ρ a w hlm hm _ _ hgs=>?_⟩;have hlm':=fun k m h=>zg (hlm k m h)
  obtain ⟨vs0,hrun,hg⟩:=open_args hgs;refine zO.call (hrun o ho hcall.1) ?_;have hmem:=hlm' k _ hlk;have hsub:∀b,(Keep b∨Own (zL M k) ρ b)->Keep b∨Own M ρ b:=fun b hb=>hb.imp id fun ⟨k',m',v',h1,h2,h3⟩=>⟨k',m',v',zp _ h1,h2,h3⟩
  have hb:∀b,(Keep b∨Own (zL M k) ρ b)->b < w.heap.size:=fun b hb=>(hsub b hb).elim (hm.kp b) fun h=>(hm.old b h).1
  have hkk:∀v b,ρ k=some v->zM v=some b->¬(Keep b∨Own (zL M k) ρ b):=fun v b hv' hb hSb=>by
   rcases hSb with hSb | ⟨k',m',v',h4,h5,h6⟩
   ·exact (hm.old b ⟨k,_,v,hmem,hv',hb⟩).2 hSb
   ·exact hm.apart k _ k' m' v v' b hmem (zp _ h4) (Ne.symm (kF hm.keys _ h4)) hv' h5 hb h6
  have hv:Gs (fun b=>(Keep b∨Own (zL M k) ρ b)∨Own [] (fun _=>none) b) (Own [] (fun _=>none)) (fun _=>none) w (yd lm za) vs0:=
   zd1 hlm' hm hlk (fun b h=>hsub b (h.resolve_right zw)) (fun v b h1 h2 h3=>hkk v b h1 h2 (h3.resolve_right zw)) (fun _=>zw) hg hcs
  refine (hcall.2 (fun b=>Keep b∨Own (zL M k) ρ b) (fun _=>none) w _ hb (kV hb fun _ _ h=>hm.glc h) (fun _ _=>rfl) hv).mono ?_
  rintro e w' ⟨v,ρ',rfl,hs,_,hgr⟩
  obtain ⟨hs1,hm1⟩:=hm.let_go (M1:=zL M k) (fun x hx=>zp x hx) (zN hm.keys);obtain ⟨hs',hm'⟩:=hm1.same hs.os hs.tape hs.output hs.size fun b hb=>hs.block b hb zw
  exact ⟨v,rfl,ρ,⟨hs.os,hs.tape,hs.output,hs.size,fun b hb _=>hs.block b hb zw,fun b ⟨k',m',v',h1,h2,h3⟩=>.inl ⟨k',m',v',zp _ h1,h2,h3⟩,fun _ _ h=>h⟩,hm',
   vV (fun b h=>.inl h) hr hgr,fun _ _=>rfl⟩
 | hand k m m' r hlk hcall hfm hfm' hcl hr hk=>
  refine ⟨r,.set k m',zS hk,fun o ho Keep M ρ a w hlm hm _ _ hgs=>?_⟩;have hlm':=fun k m h=>zg (hlm k m h)
  obtain ⟨vs0,hrun,hg⟩:=open_args hgs;refine zO.call (hrun o ho hcall.1) ?_;have hkm:=hlm' k m hlk;obtain ⟨v0,hv0⟩:=(hm.rel k m hkm).name
  have hS:∀b,((Keep b∨Own M ρ b)/\zM v0≠some b)∨Own [(0,m)] (one v0) b->Keep b∨Own M ρ b:=fun b hb=>
   hb.elim (fun h=>h.1) fun h=>.inr ⟨k,m,v0,hkm,hv0,jn.1 h⟩
  have hlt:∀b,(Keep b∨Own M ρ b)->b < w.heap.size:=fun b hb=>hb.elim (hm.kp b) fun h=>(hm.old b h).1
  have hm0:zj (fun b=>(Keep b∨Own M ρ b)/\zM v0≠some b) [(0,m)] (one v0) w:=by
   refine ⟨fun k' m1 h=>?_,List.pairwise_cons.2 ⟨fun _ h=>(by cases h),List.Pairwise.nil⟩,fun k1 m1 k2 m2 _ _ _ h1 h2 hne=>?_,fun b hb=>?_,fun b hb=>hlt b hb.1,fun g v h=>⟨fun ho=>(hm.gl g v h).1 ⟨k,m,v0,hkm,hv0,jn.1 ho⟩,hm.glc h⟩⟩
   ·cases h with
    | head=>exact kL.move (by rw [qa,hv0]) hfm (fun s u _ hd=>.inl (hd.less hS)) (hm.rel k m hkm)
    | tail _ h=>cases h
   ·cases h1 with
    | head=>cases h2 with
     | head=>exact absurd rfl hne
     | tail _ h=>cases h
    | tail _ h=>cases h
   ·have:=jn.1 hb;exact ⟨(hm.old b ⟨k,m,v0,hkm,hv0,this⟩).1,fun h=>h.2 this⟩
  have hgv:=zeB (Pm':=Own [(0,m)] (one v0)) hlm' hm hlk hv0 hS (fun b hb=>jn.1 hb) hg hcl
  refine (hcall.2 _ (one v0) w _ (fun b hb=>hlt b hb.1) hm0 (fun k' hk'=>by
   have:k'≠0:=by simp at hk';omega
   simp [one,this]) hgv).mono ?_
  rintro e w' ⟨v,ρ',rfl,hs,hm',hgr⟩
  have hρ0:ρ' 0=some v0:=hs.rho 0 v0 qa
  have hown':∀b,Own [(0,m')] ρ' b->zM v0=some b:=by
   rintro b ⟨k1,m1,v1,h,h1,h2⟩
   cases h with
   | head=>rw [hρ0] at h1;cases h1;exact h2
   | tail _ h=>cases h
  have hkeys:(zJ M k m').map (·.1)=M.map (·.1):=qx
  have hst:Stp (Own M ρ) (Own (zJ M k m') ρ) ρ ρ w w':=
   ⟨hs.os,hs.tape,hs.output,hs.size,fun b hb hn=>hs.block b hb fun ho=>hn ⟨k,m,v0,hkm,hv0,jn.1 ho⟩,fun b hb=>.inl (k8 hkeys.symm hb),fun _ _ h=>h⟩
  have hback:∀b,Keep b∨Own (zJ M k m') ρ b->((Keep b∨Own M ρ b)/\zM v0≠some b)∨Own [(0,m')] ρ' b:=fun b hb=>by
   by_cases hbv:zM v0=some b
   ·exact .inr ⟨0,m',v0,.head _,hρ0,hbv⟩
   ·exact .inl ⟨hb.imp id fun h=>k8 hkeys.symm h,hbv⟩
  refine ⟨v,rfl,ρ,hst,zj.next k hm hst (kv hkeys hm.keys) ?_ ?_ ?_,vV hback hr hgr,fun _ _=>rfl⟩
  ·intro k' m1 h1 hne
   rcases z4 hm.keys _ h1 with ⟨_,h2⟩ | h2
   ·refine ⟨h2,rfl,fun v' b' hv' hb'=>hs.block b' (hm.old b' ⟨k',m1,v',h2,hv',hb'⟩).1 fun ho=>?_⟩;exact hm.apart k' m1 k m v' v0 b' h2 hkm hne hv' hv0 hb' (jn.1 ho)
   ·cases h2;exact absurd rfl hne
  ·intro m1 h1
   rcases z4 hm.keys _ h1 with ⟨h2,_⟩ | h2
   ·exact absurd rfl h2
   ·cases h2
    exact kL.move (by rw [hv0,hρ0]) hfm' (fun s u _ hd=>.inl (hd.less hback)) (hm'.rel 0 m' (.head _))
  ·intro m1 v' b' _ hv' hb';rw [hv0] at hv';cases hv'
   have ho:Own M ρ b':=⟨k,m,v0,hkm,hv0,hb'⟩;refine ⟨fun k' m2 v2 h2 hne hv2 hb2=>?_,Nat.lt_of_lt_of_le (hm.old b' ho).1 hs.size,(hm.old b' ho).2⟩
   rcases z4 hm.keys _ h2 with ⟨_,h3⟩ | h3
   ·exact hm.apart k' m2 k m v2 v0 b' h3 hkm hne hv2 hv0 hb2 hb'
   ·cases h3;exact absurd rfl hne
 | give ks nn args' Mc M' r hcall ha hl hn hk hM hr hM' hkk=>
  refine ⟨_,_,zS (uG hkk),fun o ho Keep M ρ a w hlm hm hκ _ hgs=>?_⟩;obtain ⟨vs0,hrun,hg⟩:=open_args hgs;refine zO.call (hrun o ho hcall.1) ?_;exact zdY hcall ha hl hn hk hM hr hM' hlm hm hκ hg
theorem zh0{vs:List Value}{S Pm:Nat->Prop}{ρ:zd}{w:World}:Gs S Pm ρ w (vs.map .val) vs:=by
 refine ⟨by simp,fun j s v h1 h2=>?_⟩;rw [List.getElem?_map,h2] at h1
 cases h1
 exact .d _ _ (.val v)
theorem ofV_g{v:Value}{S Pm:Nat->Prop}{ρ:zd}{w:World}:G S Pm ρ w (ofV v) v:=by
 unfold ofV
 split
 ·rename_i a;have this:=zh0 (vs:=a.toList) (S:=S) (Pm:=Pm) (ρ:=ρ) (w:=w);have h:=G.agg (S:=S) (Pm:=Pm) (ρ:=ρ) (w:=w) _ _ this.1 this.2
  simpa using h
 ·exact .d _ _ (.val v)
theorem zh1{vs:List Value}{S Pm:Nat->Prop}{ρ:zd}{w:World}:Gs S Pm ρ w (vs.map ofV) vs:=by
 refine ⟨by simp,fun j s v h1 h2=>?_⟩;rw [List.getElem?_map,h2] at h1
 cases h1
 exact ofV_g
theorem zay:∀{cs:List SV} {K:List Value->Prop},zeq cs K->∃vs,K vs/\cs=vs.map .val
 | [],K,h=>⟨[],h,rfl⟩
 | .val v::cs,K,h=>by
  have h:zeq cs fun vs=>K (v::vs):=h
  obtain ⟨vs,h1,h2⟩:=zay h;exact ⟨v::vs,h1,by rw [h2];rfl⟩
theorem zfk{s:SV}{K:Value->Prop}(h:conc s K):∃v,K v/\∀{S Pm:Nat->Prop} {ρ:zd} {w:World} {u:Value},G S Pm ρ w s u->u=v:=by
 cases s with
 | val v=>exact ⟨v,h,fun hu=>hu.val_inv⟩
 | agg cs=>
  obtain ⟨vs,h1,h2⟩:=zay h;refine ⟨_,h1,fun hu=>?_⟩;obtain ⟨us,rfl,hus⟩:=hu.agg_inv;subst h2
  have:us=vs:=by
   refine List.ext_getElem? fun j=>?_
   have hl:=hus.1;rw [List.length_map] at hl
   rcases Nat.lt_or_ge j vs.length with hj | hj
   ·have h1:=hus.2 j (.val vs[j]) (us[j]'oM) (by simp [hj]) (by simp);rw [List.getElem?_eq_getElem oM,List.getElem?_eq_getElem hj,h1.val_inv]
   ·rw [List.getElem?_eq_none oM,List.getElem?_eq_none hj]
  rw [this]
 | _=>exact h.elim
theorem zaz:∀{cs:List SV} {K:List Value->Prop},zer cs K->∃vs,K vs/\∀{S Pm:Nat->Prop} {ρ:zd} {w:World} {us:List Value},Gs S Pm ρ w cs us->us=vs
 | [],K,h=>⟨[],h,fun hg=>hg.nil_inv⟩
 | c::cs,K,h=>by
  have h:conc c fun v=>zer cs fun vs=>K (v::vs):=h
  obtain ⟨v,h,h1⟩:=zfk h;obtain ⟨vs,h,h2⟩:=zaz h;refine ⟨v::vs,h,fun hg=>?_⟩;obtain ⟨u,us,rfl,g1,g2⟩:=hg.cons_inv;rw [h1 g1,h2 g2]
theorem vk {P:Program} {Γ:List (TypeId×TI)} (hT:TOK P Γ) {op:Op} {svs:List SV} {lm:Nat->Option Mem} {κ:Nat} {K:SV->MD->Prop} (hlive:Live lm svs)
  (h:opV P Γ op svs lm κ K):∃r md,K r md/\kE P op svs lm κ r md:=by
 unfold opV at h
 split at h
 ·rename_i x s;exact ⟨s,.none,h,.pure fun o ho S Pm ρ a w hgs=>⟨_,by simp [execOp,ho],Gs.head hgs⟩⟩
 ·rename_i x s;exact ⟨s,.none,h,.pure fun o ho S Pm ρ a w hgs=>⟨_,by simp [execOp,ho],Gs.head hgs⟩⟩
 ·obtain ⟨r,h1,h2⟩:=zdT h;exact ⟨r,_,h1,h2⟩
 ·exact zcM hT h
 ·exact zdZ h
 ·obtain ⟨r,h1,h2⟩:=zcU hT h;exact ⟨r,_,h1,h2⟩
 ·exact vg hT h
 ·obtain ⟨r,h1,h2⟩:=zdU hT h;exact ⟨r,_,h1,h2⟩
 ·exact zcN hT h
 ·split at h
  ·exact ⟨_,_,h,.pure fun o ho S Pm ρ a w hgs=>by
    obtain ⟨b,hρ,hx⟩:=(Gs.head hgs).loc_inv
    exact ⟨_,by simp [execOp,ho,hx],.loc _ _ b hρ⟩⟩
  ·rename_i cs
   exact ⟨_,_,h,.pure fun o ho S Pm ρ a w hgs=>by
    have hg:=Gs.head hgs;obtain ⟨b,o',c,hx,_⟩:=hg.ptr_inv;rw [hx] at hg
    exact ⟨_,by simp [execOp,ho,hx],hg⟩⟩
  ·rename_i cs
   exact ⟨_,_,h,.pure fun o ho S Pm ρ a w hgs=>by
    have hg:=Gs.head hgs;obtain ⟨b,o',c,hx,_⟩:=hg.dptr_inv;rw [hx] at hg
    exact ⟨_,by simp [execOp,ho,hx],hg⟩⟩
  ·exact ⟨_,_,h,.pure fun o ho S Pm ρ a w hgs=>by
    have hg:=Gs.head hgs;obtain ⟨b,len,cap,_,hx⟩:=hg.eloc_inv;rw [hx] at hg
    exact ⟨_,by simp [execOp,ho,hx],hg⟩⟩
  ·exact ⟨_,_,h,.pure fun o ho S Pm ρ a w hgs=>by
    have hg:=Gs.head hgs;obtain ⟨v,hx,_⟩:=hg.ifc_inv;rw [hx] at hg
    exact ⟨_,by simp [execOp,ho,hx],hg⟩⟩
  ·exact h.elim
 ·obtain ⟨r,h1,h2⟩:=zfe hT h;exact ⟨r,_,h1,h2⟩
 ·obtain ⟨r,h1,h2⟩:=zf0 h;exact ⟨r,_,h1,h2⟩
 ·rename_i src t x s;replace h:=zc h;obtain ⟨i0,hi0,h⟩:=h;obtain ⟨d0,hd0⟩:=(hT src i0 hi0).und;replace h:=zc h;obtain ⟨i,hi,h⟩:=h;have hk:=(hT t i hi).kind
  split at h
  ·rename_i k k' n hkind;rw [hkind] at hk;have hk:P.underlying t=some (.int k):=hk;refine ⟨_,_,qj h,.pure fun o ho S Pm ρ a w hgs=>⟨.int k (k.wrap n),?_,(kg.val _).g⟩⟩;have hx:=(Gs.head hgs).val_inv;simp [execOp,ho,hx,convert,run_underlying hd0,run_underlying hk,Conv.intToInt]
  ·exact h.elim
 ·rename_i fn first caps
  split at h
  ·rename_i f
   split at h
   ·rename_i he;refine ⟨_,_,h,.pure fun o ho S Pm ρ a w hgs=>?_⟩;have hf:first=#[]:=by simpa using he
    subst hf;replace hgs:Gs S Pm ρ w svs (caps.toList.map a.eval):=hgs;refine ⟨.func (.func f) #[] (caps.toList.map a.eval).toArray,?_,.fn f _ _ hgs.1 hgs.2⟩;have he:caps.map a.eval=(caps.toList.map a.eval).toArray:=by apply Array.ext';simp
    rw [← he];simp [execOp,ho,Instr.makeFunc]
   ·replace h:=zb h;obtain ⟨he,h⟩:=h
    split at h
    rotate_left
    ·replace h:=zb h;obtain ⟨hfl,h⟩:=h;have hf:caps=#[]:=by simpa using he
     subst hf;refine ⟨_,_,h,.pure fun o ho S Pm ρ a w hgs=>?_⟩;have hgs:Gs S Pm ρ w svs ((first.toList++[]).map a.eval):=hgs;rw [List.append_nil] at hgs;refine ⟨.func (.func f) (first.toList.map a.eval).toArray #[],?_,.d _ _ (.bm f _ _ hgs.1 fun j s v h1 h2=>qh (kH hfl j s h1) (hgs.2 j s v h1 h2))⟩;have he:first.map a.eval=(first.toList.map a.eval).toArray:=by apply Array.ext';simp
     rw [← he];simp [execOp,ho,Instr.makeFunc]
    obtain ⟨vs,h,h1⟩:=zaz h;have hf:caps=#[]:=by simpa using he
    subst hf;refine ⟨_,_,h,.pure fun o ho S Pm ρ a w hgs=>⟨_,?_,.d _ _ (.val _)⟩⟩;have hgs:Gs S Pm ρ w svs ((first.toList++[]).map a.eval):=hgs;rw [List.append_nil] at hgs;have he:first.map a.eval=vs.toArray:=by apply Array.ext';simpa using h1 hgs
    simp [execOp,ho,Instr.makeFunc,he]
  ·exact h.elim
 ·exact vL hT h
 ·exact zcg hT h
 ·obtain ⟨r,h1,h2⟩:=vJ hT h;exact ⟨r,_,h1,h2⟩
 ·obtain ⟨r,h1,h2⟩:=zcQ hT h;exact ⟨r,_,h1,h2⟩
 ·obtain ⟨r,h1,h2⟩:=vK hT h;exact ⟨r,_,h1,h2⟩
 ·obtain ⟨r,h1,h2⟩:=zcR hT h;exact ⟨r,_,h1,h2⟩
 ·rename_i x n s
  split at h
  ·rename_i vs
   split at h
   ·rename_i v r hd;refine ⟨_,_,zS h,.pure fun o ho S Pm ρ a w hgs=>?_⟩;obtain ⟨us,hx,hus⟩:=(Gs.head hgs).tup_inv;have hg:=hus.drop n;rw [hd] at hg;obtain ⟨u,us',hu,h1,_⟩:=hg.cons_inv
    have hu':us[n]? =some u:=by
     have:(us.drop n)[0]? =some u:=by rw [hu];rfl
     simpa using this
    exact ⟨u,by simp [execOp,ho,hx,Instr.extract,hu'],h1⟩
   ·exact h.elim
  ·exact h.elim
 ·obtain ⟨r,h1,h2⟩:=za8 hT h;exact ⟨r,_,h1,h2⟩
 ·obtain ⟨r,h1,h2⟩:=zce hT h;exact ⟨r,_,h1,h2⟩
 ·exact za7 hT h
 ·exact vM hT h
 ·exact zcc hT h
 ·obtain ⟨r,h1,h2⟩:=zcd hT h;exact ⟨r,_,h1,h2⟩
 ·rename_i svs c
  split at h
  ·rename_i fx hc
   split at h
   ·rename_i f caps args;refine qZ (fun {S Pm ρ a w} hg=>?_) h;have hg:Gs S Pm ρ w (.fn f caps::args) (a.eval fx::c.args.toList.map a.eval):=by simpa [zG,hc,jU] using hg
    obtain ⟨cv,h1,h2⟩:=hg.head.fn_inv;exact ⟨_,fun o ho hcl=>uC (fs:=[]) ho hc h1 rfl hcl,hg.tail.append h2⟩
   ·rename_i f first args
    refine qZ (fun {S Pm ρ a w} hg=>?_) h;have hg:Gs S Pm ρ w (.val (.func (.func f) first ⟨[]⟩)::args) (a.eval fx::c.args.toList.map a.eval):=by simpa [zG,hc,jU] using hg
    refine ⟨first.toList++(_++[]),fun o ho hcl=>uC (fs:=first.toList) (caps:=[]) ho hc hg.head.val_inv rfl hcl,zh1.append ?_⟩;rw [List.append_nil];exact hg.tail
   ·rename_i f caps args;refine qZ (fun {S Pm ρ a w} hg=>?_) h;have hg:Gs S Pm ρ w (.dfn f caps::args) (a.eval fx::c.args.toList.map a.eval):=by simpa [zG,hc,jU] using hg
    obtain ⟨cv,h1,h2⟩:=hg.head.dfn_inv;exact ⟨_,fun o ho hcl=>uC (fs:=[]) ho hc h1 rfl hcl,hg.tail.append h2⟩
   ·rename_i f first args
    refine qZ (fun {S Pm ρ a w} hg=>?_) h;have hg:Gs S Pm ρ w (.bm f first::args) (a.eval fx::c.args.toList.map a.eval):=by simpa [zG,hc,jU] using hg
    obtain ⟨fv,h1,h2⟩:=hg.head.bm_inv;refine ⟨fv++(_++[]),fun o ho hcl=>uC (fs:=fv) (caps:=[]) ho hc h1 rfl hcl,h2.append ?_⟩;rw [List.append_nil];exact hg.tail
   ·exact h.elim
  ·rename_i rx name hc
   split at h
   ·rename_i t s args;obtain ⟨f,hmb,h⟩:=h;refine qZ (fun {S Pm ρ a w} hg=>?_) h;have hg:Gs S Pm ρ w (.ifc t s::args) (a.eval rx::c.args.toList.map a.eval):=by simpa [zG,hc,jU] using hg
    obtain ⟨v,h1,h2⟩:=hg.head.ifc_inv;exact ⟨_,fun o ho hcl=>zdW ho hc h1 hmb hcl,.cons h2 hg.tail⟩
   ·exact h.elim
  ·rename_i b hb;exact za6 hT hb hlive h
 ·exact h.elim
end Go.Gs
