/- A call by contract, and all operations. -/
import Derived.Test.YtakicgnbhdpknaaGreatDoorNAI
set_option maxRecDepth 100000
set_option maxHeartbeats 8000000
set_option linter.all false
namespace Go.Gs
def jH.move{S S' Pm Pm':LI}{ρ ρ':zh}{w:World}{k k':Nat}{m:Mem}(hk:ρ' k'=ρ k)(hf:zfY m)(hd:∀s v,(j9 s=true∨True)->D S w s v->D S' w s v∨False)(h:jH S Pm ρ w k m):jH S' Pm' ρ' w k' m:=by
 cases m with
 |box T cs=>
  obtain⟨b,vs,h1,h2,h3,h4,h5⟩:=h;exact⟨b,vs,hk.trans h1,h2,h3,h4,λj s v hs hv=>.d _ _ ((hd s v (.inr trivial) (uP (yM hf j s hs) (h5 j s v hs hv))).resolve_right id)⟩
 |arr T enc sz xs=>
  obtain⟨v,cells,h1,h2,h3,h4,h5,h6⟩:=h;refine⟨v,cells,hk.trans h1,h2,h3,h4,h5,λi j x s hx hs=>?_⟩;obtain⟨u,hu,hd'⟩:=h6 i j x s hx hs;exact⟨u,hu,(hd s u (.inr trivial) hd').resolve_right id⟩
 |garr T sz xs=>exact hf.elim
 |map es=>
  obtain⟨r,ents,clock,h1,h2,h3,h4⟩:=h;refine⟨r,ents,clock,hk.trans h1,h2,h3,λi n s hi=>?_⟩;obtain⟨e,g1,g2,g3⟩:=h4 i n s hi;exact⟨e,g1,g2,(hd s _ (.inr trivial) g3).resolve_right id⟩
variable{S:LI}{S':LI}{Pm:LI}{Pm':LI}{ρ:zh}{ρ':zh}{m:Mem}
def jH.scalar{w:World}{k k':Nat}(hk:ρ' k'=ρ k)(hf:ziP m)(h:jH S Pm ρ w k m):jH S' Pm' ρ' w k' m:=by
 cases m with
 |box T cs=>
  obtain⟨b,vs,h1,h2,h3,h4,h5⟩:=h;exact⟨b,vs,hk.trans h1,h2,h3,h4,λj s v hs hv=>.d _ _ (vJ (uQ hf j s hs) (h5 j s v hs hv))⟩
 |arr T enc sz xs=>
  obtain⟨v,cells,h1,h2,h3,h4,h5,h6⟩:=h;refine⟨v,cells,hk.trans h1,h2,h3,h4,h5,λi j x s hx hs=>?_⟩;obtain⟨u,hu,hd'⟩:=h6 i j x s hx hs;exact⟨u,hu,vJ (Pm:=Pm) (ρ:=ρ) (uQ (hf x (Xf hx)) j s hs) (.d _ _ hd')⟩
 |garr T sz xs=>exact hf.elim
 |map es=>
  obtain⟨r,ents,clock,h1,h2,h3,h4⟩:=h;refine⟨r,ents,clock,hk.trans h1,h2,h3,λi n s hi=>?_⟩;obtain⟨e,g1,g2,g3⟩:=h4 i n s hi;exact⟨e,g1,g2,vJ (Pm:=Pm) (ρ:=ρ) (uQ hf i s (by simp[hi])) (.d _ _ g3)⟩
def one(v:Value):zh:=λk=>if k=0 then some v else none
def zbx{v:Value}{b:Nat}:Own [(0,m)] (one v) b↔qb v=some b:=by
 constructor
 ·rintro⟨k,m',v',h,h1,h2⟩
  cases h with
  |head=>simp[one]at h1;subst h1;exact h2
  |tail _ h=>cases h
 intro h;exact⟨0,m,v,.head _,by simp[one],h⟩
def uD{v:Value}:one v 0=some v:=rfl
variable{cs:LR}
def zuW{k:Nat}(h:zlU k cs=true):∀k' off,.loc k' off∈cs->k'≠k:=by
 induction cs with
 |nil=>intro _ _ h;cases h
 |cons c cs ih=>
  intro k' off hm e;subst e
  cases hm with
  |head=>simp[zlU,K8]at h
  |tail _ hm=>
   refine ih ?_ k' off hm rfl
   cases c <;> simp only[zlU]at h <;> (try split at h) <;> simp_all
variable{lm:LJ}
def zps(h:zco lm cs=true):∀k off,.loc k off∈cs->∃m,lm k=some m:=by
 induction cs with
 |nil=>intro _ _ h;cases h
 |cons x xs ih=>
  intro k off hm;simp only[zco]at h
  split at h
  ·rename_i hx
   cases hm with
   |head=>
    simp only[zcn]at hx
    cases hq:lm k with
    |none=>simp[hq]at hx
    |some m=>exact⟨m,rfl⟩
   |tail _ hm=>exact ih h k off hm
  cases h
def ztl{lm:LJ}{Keep:LI}{M:LT}{ρ:zh}{w:World}(hlm:∀k m,lm k=some m->(k,m)∈M)(hm:zL Keep M ρ w){k:Nat}{m:Mem}{v0:Value}(hkm:lm k=some m)(hv0:ρ k=some v0){S' Pm':LI}(hsub:∀b,S' b->Keep b∨Own M ρ b)(hPm:∀b,Pm' b->qb v0=some b):
  ∀{cs:LR} {vs:LA},Gs (λb=>Keep b∨Own M ρ b) (Own M ρ) ρ w cs vs->zbI lm k cs=true->Gs S' Pm' (one v0) w (zwC lm k cs) vs
 |[],vs,hg,_=>by rw[hg.nil_inv];exact .nil
 |c::cs,vs,hg,hc=>by
  obtain⟨v,vs',rfl,h1,h2⟩:=hg.cons_inv;have hP:∀b,¬Own M ρ b->¬Pm' b:=λb hn hp=>hn ⟨k,m,v0,hlm k m hkm,hv0,hPm b hp⟩
  have hP2:∀k' b,(∃m',lm k'=some m')->k'≠k->ρ k'=some (.pointer (some ⟨b,0,none⟩))->¬Pm' b:=λk' b ⟨m',hm'⟩ hne hρ hp=>
   hm.apart k' m' k m _ v0 b (hlm k' m' hm') (hlm k m hkm) hne hρ hv0 rfl (hPm b hp)
  have key:G S' Pm' (one v0) w (give lm k c) v/\zbI lm k cs=true:=by
   unfold zbI at hc
   split at hc
   ·rename_i heq;cases heq
   ·rename_i k' off r heq
    cases heq
    split at hc
    ·rename_i hb;have:=Xj hb;subst this;refine⟨?_,hc⟩;simp only[give,K8];obtain⟨b,hρ,rfl⟩:=h1.loc_inv;rw[hv0]at hρ;cases hρ
     exact .loc 0 off b uD
    rename_i hb;obtain⟨hc1,hc2⟩:=kj hc;refine⟨?_,hc2⟩;simp only[give,hb]
    have hlk:∃m',lm k'=some m':=by
     simp only[uu,zcn]at hc1
     cases hq:lm k' with
     |none=>simp[hq]at hc1
     |some m'=>exact⟨m',rfl⟩
    exact zjA hlm hm hsub h1 (.inl hc1) hP (λk2 off2 b he hρ=>by
     rcases he with he|⟨_,_,he,_⟩
     ·cases he;exact hP2 _ b hlk (KF hb) hρ
     cases he)
   ·rename_i k' r heq
    cases heq
    split at hc
    ·rename_i hb;have:=Xj hb;subst this;refine⟨?_,hc⟩;simp only[give,K8];obtain⟨hρ,h3⟩:=h1.own_inv;rw[hv0]at hρ;cases hρ
     exact .own 0 _ uD h3
    cases hc
   ·rename_i k' sz lo n r heq
    cases heq
    split at hc
    ·rename_i hb;have:=Xj hb;subst this;refine⟨?_,hc⟩;simp only[give,K8];obtain⟨b,len,cap,cap',hρ,rfl,h3,h4⟩:=h1.win_inv;rw[hv0]at hρ;cases hρ
     exact .win 0 sz lo n b len cap cap' uD h3 h4
    cases hc
   ·rename_i f caps r heq
    cases heq
    obtain⟨hc0,hc⟩:=kj hc;obtain⟨hc1,hc2⟩:=kj hc;refine⟨?_,hc2⟩;simp only[give];refine zjA hlm hm hsub h1 (.inl hc1) hP (λk2 off2 b he hρ=>?_)
    rcases he with he|⟨f',cs',he,hmem⟩
    ·cases he
    cases he
    refine hP2 k2 b ?_ (zuW hc0 k2 off2 hmem) hρ;simp only[uu]at hc1
    split at hc1
    ·rename_i hcl;exact zps hcl k2 off2 hmem
    cases hc1
   rename_i s r hn1 hn2 hn2' hn3 heq
   cases heq
   obtain⟨hc1,hc2⟩:=kj hc;refine⟨?_,hc2⟩
   have hgv:give lm k c=zjk lm c:=by
    cases c <;> first|rfl|exact absurd rfl (hn1 _ _)|exact absurd rfl (hn2 _)|exact absurd rfl (hn2' _ _ _ _)
   rw[hgv]
   exact zjA hlm hm hsub h1 (.inl hc1) hP (λk2 off2 b he hρ=>by
    rcases he with rfl|⟨f',cs',rfl,_⟩
    ·exact absurd rfl (hn1 _ _)
    exact absurd rfl (hn3 _ _))
  exact .cons key.1 (ztl hlm hm hkm hv0 hsub hPm h2 key.2)
def jH.name{w:World}{k:Nat}(h:jH S Pm ρ w k m):∃v,ρ k=some v:=by
 cases m with
 |box T cs=>obtain⟨b,vs,h1,_⟩:=h;exact⟨_,h1⟩
 |arr T enc sz xs=>obtain⟨v,cells,h1,_⟩:=h;exact⟨_,h1⟩
 |garr T sz xs=>obtain⟨v,cells,h1,_⟩:=h;exact⟨_,h1⟩
 |map es=>obtain⟨r,ents,clock,h1,_⟩:=h;exact⟨_,h1⟩
variable{κ:Nat}
def mv_g{w:World}{v0:Value}(h0:ρ' 0=some v0)(hκ:ρ κ=some v0):∀(r:SV) {v:Value},za1 r=true->G S' Pm' ρ' w r v->G S Pm ρ w (mv κ r) v:=by
 intro r
 induction r using SV.rec (motive_2:=λcs=>∀{vs:LA},za1.mvOKs cs=true->Gs S' Pm' ρ' w cs vs->Gs S Pm ρ w (mv.mvs κ cs) vs) with
 |val v=>intro u _ hg;exact .d _ _ (hg.val_inv ▸ .val _)
 |pr p i=>intro u _ hg;rw[hg.pr_inv];exact .d _ _ (.pr p i)
 |agg cs ih=>
  intro u h hg;simp only[za1]at h;obtain⟨vs,rfl,hvs⟩:=hg.agg_inv;have:=ih h hvs;simp only[mv];exact .agg _ vs this.1 this.2
 |tup cs ih=>
  intro u h hg;simp only[za1]at h;obtain⟨vs,rfl,hvs⟩:=hg.tup_inv;have:=ih h hvs;simp only[mv];exact .tup _ vs this.1 this.2
 |own k=>
  intro u h hg;simp only[za1]at h;have:=Xj h;subst this;obtain⟨g1,g2⟩:=hg.own_inv;rw[h0]at g1;cases g1
  simp only[mv];exact .own _ _ hκ g2
 |sl _ _=>intro u h _;simp[za1]at h
 |ptr _ _=>intro u h _;simp[za1]at h
 |loc k off=>
  intro u h hg;simp only[za1]at h;have:=Xj h;subst this;obtain⟨b,g1,rfl⟩:=hg.loc_inv;rw[h0]at g1;cases g1
  simp only[mv];exact .loc _ _ _ hκ
 |eloc _ _ _ _=>intro u h _;simp[za1]at h
 |win _ _ _ _=>intro u h _;simp[za1]at h
 |fn f cs ih=>
  intro u h hg;simp only[za1]at h;obtain⟨vs,rfl,hvs⟩:=hg.fn_inv;have:=ih h hvs;simp only[mv];exact .fn _ _ vs this.1 this.2
 |dptr _ _=>intro u h _;simp[za1]at h
 |dfn _ _ _=>intro u h _;simp[za1]at h
 |bm _ _ _=>intro u h _;simp[za1]at h
 |op _=>intro u h _;simp[za1]at h
 |ifc t s ih=>
  intro u h hg;simp only[za1]at h;obtain⟨v,rfl,hv⟩:=hg.ifc_inv;simp only[mv];exact .ifc t _ v (ih h hv)
 |junk=>intro u _ _;exact .d _ _ (.junk u)
 |nils=>intro u h _;simp[za1]at h
 |anyb=>intro u h _;simp[za1]at h
 |full _ _=>intro u h _;simp[za1]at h
 |nil=>
  rename_i vs _ hg
  simpa[mv.mvs,hg.nil_inv] using Gs.nil
 |cons c cs ih1 ih2=>
  rename_i vs h hg;simp only[za1.mvOKs]at h
  split at h
  ·rename_i h1;obtain⟨v,vs',rfl,g1,g2⟩:=hg.cons_inv;exact .cons (ih1 h1 g1) (ih2 h g2)
  cases h
def zrV{o:Option Mem}(h:zwD o=true):∃(T:TypeId) (α:Type) (enc:α->LR) (sz:Nat) (xs:List α),o=some (.arr T enc sz xs):=by
 unfold zwD at h
 split at h
 ·exact⟨_,_,_,_,_,rfl⟩
 cases h
def zrW{lm:LJ}{Keep:LI}{M:LT}{ρ:zh}{w:World}(hlm:∀k m,lm k=some m->(k,m)∈M)(hm:zL Keep M ρ w){k:Nat}{T:TypeId}{α:Type}{enc:α->LR}{sz:Nat}{xs:List α}(hkm:lm k=some (.arr T enc sz xs)){S':LI}(hsub:∀b,S' b->Keep b∨Own M ρ b)(hk:∀v b,ρ k=some v->qb v=some b->¬S' b){Pm':LI}(hP:∀b,¬Pm' b){ρ':zh}:
  ∀{cs:LR} {vs:LA},Gs (λb=>Keep b∨Own M ρ b) (Own M ρ) ρ w cs vs->zwE lm k cs=true->Gs S' Pm' ρ' w (zc0 lm cs) vs
 |[],vs,hg,_=>by rw[hg.nil_inv];exact .nil
 |c::cs,vs,hg,hc=>by
  obtain⟨v,vs',rfl,h1,h2⟩:=hg.cons_inv;unfold zwE at hc
  split at hc
  ·rename_i heq;cases heq
  ·rename_i k' r heq
   cases heq
   split at hc
   ·rename_i hb;have:=Xj hb;subst this;refine .cons ?_ (zrW hlm hm hkm hsub hk hP h2 hc);simp only[zjk,zia,hkm];exact .d _ _ (zjv hm (hlm _ _ hkm) hsub hk h1.own_inv.1)
   cases hc
  rename_i s r hn heq
  cases heq
  obtain⟨hc1,hc2⟩:=kj hc;exact .cons (zjA hlm hm hsub h1 (.inl hc1) (λb _=>hP b) (λ_ _ b _ _=>hP b)) (zrW hlm hm hkm hsub hk hP h2 hc2)
variable{P:Program}{svs:LR}{K:LD}
def zcx{c:Call}{f:FuncId}{za:LR}(open_args:∀{S Pm:LI} {ρ:zh} {a:Act} {w:World},Gs S Pm ρ w svs ((qe (.call c)).map a.eval)->
   ∃vs0,(∀o:Oper,o.op=.call c->zdd P f->(execOp a.eval o).run P w=.ok (.enter f (List.toArray vs0)) w)/\Gs S Pm ρ w za vs0)
  (h:zb P lm κ f za K):∃r md,K r md/\yR P (.call c) svs lm κ r md:=by
 cases h with
 |to r hcall hr hk=>
  refine⟨r,.none,qL hk,λo ho Keep M ρ a w hlm hm _ _ hgs=>?_⟩;have hlm':=λk m h=>zA (hlm k m h)
  obtain⟨vs0,hrun,hg⟩:=open_args hgs;refine qJ.call (hrun o ho hcall.1) ?_
  by_cases hcl:uu lm za=true
  ·have hr:zjj r=true:=by unfold zta at hr;rw[hcl]at hr;exact hr
   have hb:∀b,(Keep b∨Own M ρ b)->b<w.heap.size:=λb hb=>hb.elim (hm.kp b) λh=>(hm.old b h).1
   have hv:Gs (λb=>(Keep b∨Own M ρ b)∨Own [] (λ_=>none) b) (Own [] (λ_=>none)) (λ_=>none) w (zc0 lm za) vs0:=
    zf5 hlm' hm (λb h=>h.resolve_right zP) (λ_=>zP) hg (.inl hcl)
   refine(hcall.2 (λb=>Keep b∨Own M ρ b) (λ_=>none) w _ hb (qt hb λ_ _ h=>hm.glc h) (λ_ _=>rfl) hv).mono ?_
   rintro e w' ⟨v,ρ',rfl,hs,_,hgr⟩
   obtain⟨hs',hm'⟩:=hm.same hs.os hs.tape hs.output hs.size λb hb=>hs.block b hb zP
   exact⟨v,rfl,ρ,hs',hm',ziV (λb h=>.inl h) hr hgr,λ_ _=>rfl⟩
  have hr:ziO r=true:=by unfold zta at hr;rw[Bool.eq_false_iff.2 hcl]at hr;exact hr
  have hv:Gs (λb=>False∨Own [] (λ_=>none) b) (Own [] (λ_=>none)) (λ_=>none) w (zc0 lm za) vs0:=
   zf5 hlm' hm (λb h=>(h.resolve_left id |> zP).elim) (λ_=>zP) hg (.inr λb _ h=>zP (h.resolve_left id))
  refine(hcall.2 (λ_=>False) (λ_=>none) w _ (λ_ h=>h.elim) (qt (λ_ h=>h.elim) λ_ _ h=>hm.glc h) (λ_ _=>rfl) hv).mono ?_
  rintro e w' ⟨v,ρ',rfl,hs,_,hgr⟩
  obtain⟨hs',hm'⟩:=hm.same hs.os hs.tape hs.output hs.size λb hb=>hs.block b hb zP
  exact⟨v,rfl,ρ,hs',hm',zuU hr hgr,λ_ _=>rfl⟩
 |fresh m r hcall hr0 hfm hcl hk=>
  refine⟨_,_,qL hk,λo ho Keep M ρ a w hlm hm hκ hκM hgs=>?_⟩;replace hκ:=hκ _ (Xk _) (XW _);replace hκM:=hκM rfl;have hlm':=λk m h=>zA (hlm k m h)
  obtain⟨vs0,hrun,hg⟩:=open_args hgs;refine qJ.call (hrun o ho hcall.1) ?_
  have fin:∀(S0:LI),((∀b,Keep b∨Own M ρ b->S0 b)∨ziP m)->∀(w':World) (v:Value) (ρ':zh),Stp (Own [] (λ_=>none)) (Own [(0,m)] ρ') (λ_=>none) ρ' w w'->zL S0 [(0,m)] ρ' w'->
    G (λb=>S0 b∨Own [(0,m)] ρ' b) (Own [(0,m)] ρ') ρ' w' r v->k8 Keep M ρ w κ (mv κ r) (.push m) v w':=by
   intro S0 hS0 w' v1 ρ' hs hm' hgr;obtain⟨v,hv0⟩:=(hm'.rel 0 m (.head _)).name
   have hownv:∀b,qb v=some b->w.heap.size<=b/\b<w'.heap.size:=λb hb=>
    have ho:Own [(0,m)] ρ' b:=⟨0,m,v,.head _,hv0,hb⟩
    ⟨(hs.own b ho).resolve_left zP,(hm'.old b ho).1⟩
   have hown0:∀b,Own [(0,m)] ρ' b->qb v=some b:=by
    rintro b ⟨k,m',v',h,h1,h2⟩
    cases h with
    |head=>rw[hv0]at h1;cases h1;exact h2
    |tail _ h=>cases h
   refine k8.push (u:=v) (hm.grow (λ_ h=>h) hm.keys hκ hκM v m w' hs.os hs.tape hs.output hs.size (λb hb _=>hs.block b hb zP)
    (λk m v b h1 h2 h3=>hs.block b (hm.old b ⟨k,m,v,h1,h2,h3⟩).1 zP)
    (λb hb=>⟨.inr (hownv b hb).1,(hownv b hb).2,λk m v' h1 h2 h3=>by have:=(hm.old b ⟨k,m,v',h1,h2,h3⟩).1;have:=(hownv b hb).1;omega⟩) λhst=>?_) (mv_g hv0 kD r hr0 hgr)
   rcases hS0 with hS0|hsc
   ·refine jH.move (S:=λb=>S0 b∨Own [(0,m)] ρ' b) (Pm:=Own [(0,m)] ρ') (by rw[kD,hv0]) hfm (λs u _ hd=>.inl (hd.less λb hb=>?_)) (hm'.rel 0 m (.head _))
    rcases hb with hb|⟨k,m',v',h1,h2,h3⟩
    ·exact .inl (hS0 b (.inl hb))
    cases h1 with
    |head=>rw[kD]at h2;cases h2;exact .inr ⟨0,m,v,.head _,hv0,h3⟩
    |tail _ h1=>rw[zft (λe=>by subst e;exact hκM _ h1)]at h2;exact .inl (hS0 b (.inr ⟨k,m',v',h1,h2,h3⟩))
   exact jH.scalar (by rw[kD,hv0]) hsc (hm'.rel 0 m (.head _))
  by_cases hcl':uu lm za=true
  ·have hb:∀b,(Keep b∨Own M ρ b)->b<w.heap.size:=λb hb=>hb.elim (hm.kp b) λh=>(hm.old b h).1
   have hv:Gs (λb=>(Keep b∨Own M ρ b)∨Own [] (λ_=>none) b) (Own [] (λ_=>none)) (λ_=>none) w (zc0 lm za) vs0:=
    zf5 hlm' hm (λb h=>h.resolve_right zP) (λ_=>zP) hg (.inl hcl')
   refine(hcall.2 (λb=>Keep b∨Own M ρ b) (λ_=>none) w _ hb (qt hb λ_ _ h=>hm.glc h) (λ_ _=>rfl) hv).mono ?_
   rintro e w' ⟨v,ρ',rfl,hs,hm',hgr⟩
   exact⟨v,rfl,fin _ (.inl λb h=>h) w' v ρ' hs hm' hgr⟩
  have hsc:=hcl.resolve_left hcl'
  have hv:Gs (λb=>False∨Own [] (λ_=>none) b) (Own [] (λ_=>none)) (λ_=>none) w (zc0 lm za) vs0:=
   zf5 hlm' hm (λb h=>(h.resolve_left id |> zP).elim) (λ_=>zP) hg (.inr λb _ h=>zP (h.resolve_left id))
  refine(hcall.2 (λ_=>False) (λ_=>none) w _ (λ_ h=>h.elim) (qt (λ_ h=>h.elim) λ_ _ h=>hm.glc h) (λ_ _=>rfl) hv).mono ?_
  rintro e w' ⟨v,ρ',rfl,hs,hm',hgr⟩
  exact⟨v,rfl,fin _ (.inr hsc) w' v ρ' hs hm' hgr⟩
 |see k r hcall hka hcs hr hk=>
  obtain⟨T,α,enc,sz,xs,hlk⟩:=zrV hka;refine⟨r,.drop k,qL hk,λo ho Keep M ρ a w hlm hm _ _ hgs=>?_⟩;have hlm':=λk m h=>zA (hlm k m h)
  obtain⟨vs0,hrun,hg⟩:=open_args hgs;refine qJ.call (hrun o ho hcall.1) ?_;have hmem:=hlm' k _ hlk;have hsub:∀b,(Keep b∨Own (qg M k) ρ b)->Keep b∨Own M ρ b:=λb hb=>hb.imp id λ⟨k',m',v',h1,h2,h3⟩=>⟨k',m',v',qB _ h1,h2,h3⟩
  have hb:∀b,(Keep b∨Own (qg M k) ρ b)->b<w.heap.size:=λb hb=>(hsub b hb).elim (hm.kp b) λh=>(hm.old b h).1
  have hkk:∀v b,ρ k=some v->qb v=some b->¬(Keep b∨Own (qg M k) ρ b):=λv b hv' hb hSb=>by
   rcases hSb with hSb|⟨k',m',v',h4,h5,h6⟩
   ·exact(hm.old b ⟨k,_,v,hmem,hv',hb⟩).2 hSb
   exact hm.apart k _ k' m' v v' b hmem (qB _ h4) (Ne.symm (v9 hm.keys _ h4)) hv' h5 hb h6
  have hv:Gs (λb=>(Keep b∨Own (qg M k) ρ b)∨Own [] (λ_=>none) b) (Own [] (λ_=>none)) (λ_=>none) w (zc0 lm za) vs0:=
   zrW hlm' hm hlk (λb h=>hsub b (h.resolve_right zP)) (λv b h1 h2 h3=>hkk v b h1 h2 (h3.resolve_right zP)) (λ_=>zP) hg hcs
  refine(hcall.2 (λb=>Keep b∨Own (qg M k) ρ b) (λ_=>none) w _ hb (qt hb λ_ _ h=>hm.glc h) (λ_ _=>rfl) hv).mono ?_
  rintro e w' ⟨v,ρ',rfl,hs,_,hgr⟩
  obtain⟨hs1,hm1⟩:=hm.let_go (M1:=qg M k) (λx hx=>qB x hx) (jg hm.keys);obtain⟨hs',hm'⟩:=hm1.same hs.os hs.tape hs.output hs.size λb hb=>hs.block b hb zP
  exact⟨v,rfl,ρ,⟨hs.os,hs.tape,hs.output,hs.size,λb hb _=>hs.block b hb zP,λb ⟨k',m',v',h1,h2,h3⟩=>.inl ⟨k',m',v',qB _ h1,h2,h3⟩,λ_ _ h=>h⟩,hm',
   ziV (λb h=>.inl h) hr hgr,λ_ _=>rfl⟩
 |hand k m m' r hlk hcall hfm hfm' hcl hr hk=>
  refine⟨r,.set k m',qL hk,λo ho Keep M ρ a w hlm hm _ _ hgs=>?_⟩;have hlm':=λk m h=>zA (hlm k m h)
  obtain⟨vs0,hrun,hg⟩:=open_args hgs;refine qJ.call (hrun o ho hcall.1) ?_;have hkm:=hlm' k m hlk;obtain⟨v0,hv0⟩:=(hm.rel k m hkm).name
  have hS:∀b,((Keep b∨Own M ρ b)/\qb v0≠some b)∨Own [(0,m)] (one v0) b->Keep b∨Own M ρ b:=λb hb=>
   hb.elim (λh=>h.1) λh=>.inr ⟨k,m,v0,hkm,hv0,zbx.1 h⟩
  have hlt:∀b,(Keep b∨Own M ρ b)->b<w.heap.size:=λb hb=>hb.elim (hm.kp b) λh=>(hm.old b h).1
  have hm0:zL (λb=>(Keep b∨Own M ρ b)/\qb v0≠some b) [(0,m)] (one v0) w:=by
   refine⟨λk' m1 h=>?_,X9.2 ⟨λ_ h=>(by cases h),List.Pairwise.nil⟩,λk1 m1 k2 m2 _ _ _ h1 h2 hne=>?_,λb hb=>?_,λb hb=>hlt b hb.1,λg v h=>⟨λho=>(hm.gl g v h).1 ⟨k,m,v0,hkm,hv0,zbx.1 ho⟩,hm.glc h⟩⟩
   ·cases h with
    |head=>exact jH.move (by rw[uD,hv0]) hfm (λs u _ hd=>.inl (hd.less hS)) (hm.rel k m hkm)
    |tail _ h=>cases h
   ·cases h1 with
    |head=>cases h2 with
     |head=>exact absurd rfl hne
     |tail _ h=>cases h
    |tail _ h=>cases h
   have:=zbx.1 hb;exact⟨(hm.old b ⟨k,m,v0,hkm,hv0,this⟩).1,λh=>h.2 this⟩
  have hgv:=ztl (Pm':=Own [(0,m)] (one v0)) hlm' hm hlk hv0 hS (λb hb=>zbx.1 hb) hg hcl
  refine(hcall.2 _ (one v0) w _ (λb hb=>hlt b hb.1) hm0 (λk' hk'=>by
   have:k'≠0:=by simp at hk';omega
   simp[one,this]) hgv).mono ?_
  rintro e w' ⟨v,ρ',rfl,hs,hm',hgr⟩
  have hρ0:ρ' 0=some v0:=hs.rho 0 v0 uD
  have hown':∀b,Own [(0,m')] ρ' b->qb v0=some b:=by
   rintro b ⟨k1,m1,v1,h,h1,h2⟩
   cases h with
   |head=>rw[hρ0]at h1;cases h1;exact h2
   |tail _ h=>cases h
  have hkeys:(qK M k m').map (·.1)=M.map (·.1):=zaP
  have hst:Stp (Own M ρ) (Own (qK M k m') ρ) ρ ρ w w':=
   ⟨hs.os,hs.tape,hs.output,hs.size,λb hb hn=>hs.block b hb λho=>hn ⟨k,m,v0,hkm,hv0,zbx.1 ho⟩,λb hb=>.inl (zaa hkeys.symm hb),λ_ _ h=>h⟩
  have hback:∀b,Keep b∨Own (qK M k m') ρ b->((Keep b∨Own M ρ b)/\qb v0≠some b)∨Own [(0,m')] ρ' b:=λb hb=>by
   by_cases hbv:qb v0=some b
   ·exact .inr ⟨0,m',v0,.head _,hρ0,hbv⟩
   exact .inl ⟨hb.imp id λh=>zaa hkeys.symm h,hbv⟩
  refine⟨v,rfl,ρ,hst,zL.next k hm hst (yL hkeys hm.keys) ?_ ?_ ?_,ziV hback hr hgr,λ_ _=>rfl⟩
  ·intro k' m1 h1 hne
   obtain⟨_,h2⟩|h2:=jK hm.keys _ h1
   ·refine⟨h2,rfl,λv' b' hv' hb'=>hs.block b' (hm.old b' ⟨k',m1,v',h2,hv',hb'⟩).1 λho=>?_⟩;exact hm.apart k' m1 k m v' v0 b' h2 hkm hne hv' hv0 hb' (zbx.1 ho)
   cases h2;exact absurd rfl hne
  ·intro m1 h1
   obtain⟨h2,_⟩|h2:=jK hm.keys _ h1
   ·exact absurd rfl h2
   cases h2
   exact jH.move (by rw[hv0,hρ0]) hfm' (λs u _ hd=>.inl (hd.less hback)) (hm'.rel 0 m' (.head _))
  intro m1 v' b' _ hv' hb';rw[hv0]at hv';cases hv'
  have ho:Own M ρ b':=⟨k,m,v0,hkm,hv0,hb'⟩;refine⟨λk' m2 v2 h2 hne hv2 hb2=>?_,Xw (hm.old b' ho).1 hs.size,(hm.old b' ho).2⟩
  obtain⟨_,h3⟩|h3:=jK hm.keys _ h2
  ·exact hm.apart k' m2 k m v2 v0 b' h3 hkm hne hv2 hv0 hb2 hb'
  cases h3;exact absurd rfl hne
 |give ks nn args' Mc M' r hcall ha hl hn hk hM hr hM' hkk=>
  refine⟨_,_,qL (zf9 hkk),λo ho Keep M ρ a w hlm hm hκ _ hgs=>?_⟩;obtain⟨vs0,hrun,hg⟩:=open_args hgs;exact qJ.call (hrun o ho hcall.1)<|zrT hcall ha hl hn hk hM hr hM' hlm hm hκ hg
def zC2{vs:LA}{S Pm:LI}{ρ:zh}{w:World}:Gs S Pm ρ w (vs.map .val) vs:=by
 refine⟨sI,λj s v h1 h2=>?_⟩;rw[XD,h2]at h1
 cases h1
 exact .d _ _ (.val v)
def ofV_g{v:Value}{w:World}:G S Pm ρ w (ofV v) v:=by
 unfold ofV
 split
 ·rename_i a;have this:=zC2 (vs:=a.toList) (S:=S) (Pm:=Pm) (ρ:=ρ) (w:=w);have h:=G.agg (S:=S) (Pm:=Pm) (ρ:=ρ) (w:=w) _ _ this.1 this.2
  simpa using h
 exact .d _ _ (.val v)
def zC3{vs:LA}{w:World}:Gs S Pm ρ w (vs.map ofV) vs:=by
 refine⟨sI,λj s v h1 h2=>?_⟩;rw[XD,h2]at h1
 cases h1
 exact ofV_g
def zjJ:∀{cs:LR} {K:LA->Prop},ztd cs K->∃vs,K vs/\cs=vs.map .val
 |[],K,h=>⟨[],h,rfl⟩
 |.val v::cs,K,h=>by
  have h:ztd cs λvs=>K (v::vs):=h
  obtain⟨vs,h1,h2⟩:=zjJ h;exact⟨v::vs,h1,by rw[h2];rfl⟩
def zuX{s:SV}{K:Value->Prop}(h:conc s K):∃v,K v/\∀{S Pm:LI} {ρ:zh} {w:World} {u:Value},G S Pm ρ w s u->u=v:=by
 cases s with
 |val v=>exact⟨v,h,λhu=>hu.val_inv⟩
 |agg cs=>
  obtain⟨vs,h1,h2⟩:=zjJ h;refine⟨_,h1,λhu=>?_⟩;obtain⟨us,rfl,hus⟩:=hu.agg_inv;subst h2
  have:us=vs:=by
   refine Kq λj=>?_
   have hl:=hus.1;rw[Xx]at hl
   rcases Qe j vs.length with hj|hj
   ·have h1:=hus.2 j (.val vs[j]) (us[j]'oM) (by simp[hj]) sI;rw[Xb oM,Xb hj,h1.val_inv]
   rw[XF oM,XF hj]
  rw[this]
 |_=>exact h.elim
def zjK:∀{cs:LR} {K:LA->Prop},zte cs K->∃vs,K vs/\∀{S Pm:LI} {ρ:zh} {w:World} {us:LA},Gs S Pm ρ w cs us->us=vs
 |[],K,h=>⟨[],h,λhg=>hg.nil_inv⟩
 |c::cs,K,h=>by
  have h:conc c λv=>zte cs λvs=>K (v::vs):=h
  obtain⟨v,h,h1⟩:=zuX h;obtain⟨vs,h,h2⟩:=zjK h;refine⟨v::vs,h,λhg=>?_⟩;obtain⟨u,us,rfl,g1,g2⟩:=hg.cons_inv;rw[h1 g1,h2 g2]
variable{Γ:LS}
def zhp(hT:TOK P Γ){op:Op}(hlive:Live lm svs)(h:opV P Γ op svs lm κ K):∃r md,K r md/\yR P op svs lm κ r md:=by
 unfold opV at h
 split at h
 ·rename_i x s;exact⟨s,.none,h,.pure λo ho S Pm ρ a w hgs=>⟨_,by simp[execOp,ho],Gs.head hgs⟩⟩
 ·rename_i x s;exact⟨s,.none,h,.pure λo ho S Pm ρ a w hgs=>⟨_,by simp[execOp,ho],Gs.head hgs⟩⟩
 ·obtain⟨r,h1,h2⟩:=zrO h;exact⟨r,_,h1,h2⟩
 ·exact zpb hT h
 ·exact zrU h
 ·obtain⟨r,h1,h2⟩:=zpj hT h;exact⟨r,_,h1,h2⟩
 ·exact zhj hT h
 ·obtain⟨r,h1,h2⟩:=zrQ hT h;exact⟨r,_,h1,h2⟩
 ·exact zpc hT h
 ·split at h
  ·exact⟨_,_,h,.pure λo ho S Pm ρ a w hgs=>by
    obtain⟨b,hρ,hx⟩:=(Gs.head hgs).loc_inv
    exact⟨_,by simp[execOp,ho,hx],.loc _ _ b hρ⟩⟩
  ·rename_i cs
   exact⟨_,_,h,.pure λo ho S Pm ρ a w hgs=>by
    have hg:=Gs.head hgs;obtain⟨b,o',c,hx,_⟩:=hg.ptr_inv;rw[hx]at hg
    exact⟨_,by simp[execOp,ho,hx],hg⟩⟩
  ·rename_i cs
   exact⟨_,_,h,.pure λo ho S Pm ρ a w hgs=>by
    have hg:=Gs.head hgs;obtain⟨b,o',c,hx,_⟩:=hg.dptr_inv;rw[hx]at hg
    exact⟨_,by simp[execOp,ho,hx],hg⟩⟩
  ·exact⟨_,_,h,.pure λo ho S Pm ρ a w hgs=>by
    have hg:=Gs.head hgs;obtain⟨b,len,cap,_,hx⟩:=hg.eloc_inv;rw[hx]at hg
    exact⟨_,by simp[execOp,ho,hx],hg⟩⟩
  ·exact⟨_,_,h,.pure λo ho S Pm ρ a w hgs=>by
    have hg:=Gs.head hgs;obtain⟨v,hx,_⟩:=hg.ifc_inv;rw[hx]at hg
    exact⟨_,by simp[execOp,ho,hx],hg⟩⟩
  exact h.elim
 ·obtain⟨r,h1,h2⟩:=zuQ hT h;exact⟨r,_,h1,h2⟩
 ·obtain⟨r,h1,h2⟩:=zwU h;exact⟨r,_,h1,h2⟩
 ·rename_i src t x s;replace h:=zD h;obtain⟨i0,hi0,h⟩:=h;obtain⟨d0,hd0⟩:=(hT src i0 hi0).und;replace h:=zD h;obtain⟨i,hi,h⟩:=h;have hk:=(hT t i hi).kind
  split at h
  ·rename_i k k' n hkind;rw[hkind]at hk;have hk:P.underlying t=some (.int k):=hk;refine⟨_,_,u5 h,.pure λo ho S Pm ρ a w hgs=>⟨.int k (k.wrap n),?_,(zar.val _).g⟩⟩;have hx:=(Gs.head hgs).val_inv;simp[execOp,ho,hx,convert,run_underlying hd0,run_underlying hk,Conv.intToInt]
  exact h.elim
 ·rename_i fn first caps
  split at h
  ·rename_i f
   split at h
   ·rename_i he;refine⟨_,_,h,.pure λo ho S Pm ρ a w hgs=>?_⟩;have hf:first=#[]:=by simpa using he
    subst hf;replace hgs:Gs S Pm ρ w svs (caps.toList.map a.eval):=hgs;refine⟨.func (.func f) #[] (caps.toList.map a.eval).toArray,?_,.fn f _ _ hgs.1 hgs.2⟩;have he:caps.map a.eval=(caps.toList.map a.eval).toArray:=by apply QQ;simp
    rw[←he];simp[execOp,ho,Instr.makeFunc]
   replace h:=zj h;obtain⟨he,h⟩:=h
   split at h
   rotate_left
   ·replace h:=zj h;obtain⟨hfl,h⟩:=h;have hf:caps=#[]:=by simpa using he
    subst hf;refine⟨_,_,h,.pure λo ho S Pm ρ a w hgs=>?_⟩;have hgs:Gs S Pm ρ w svs ((first.toList++[]).map a.eval):=hgs;rw[XE]at hgs;refine⟨.func (.func f) (first.toList.map a.eval).toArray #[],?_,.d _ _ (.bm f _ _ hgs.1 λj s v h1 h2=>uP (yM hfl j s h1) (hgs.2 j s v h1 h2))⟩;have he:first.map a.eval=(first.toList.map a.eval).toArray:=by apply QQ;simp
    rw[←he];simp[execOp,ho,Instr.makeFunc]
   obtain⟨vs,h,h1⟩:=zjK h;have hf:caps=#[]:=by simpa using he
   subst hf;refine⟨_,_,h,.pure λo ho S Pm ρ a w hgs=>⟨_,?_,.d _ _ (.val _)⟩⟩;have hgs:Gs S Pm ρ w svs ((first.toList++[]).map a.eval):=hgs;rw[XE]at hgs;have he:first.map a.eval=vs.toArray:=by apply QQ;simpa using h1 hgs
   simp[execOp,ho,Instr.makeFunc,he]
  exact h.elim
 ·exact ziI hT h
 ·exact znQ hT h
 ·obtain⟨r,h1,h2⟩:=ziG hT h;exact⟨r,_,h1,h2⟩
 ·obtain⟨r,h1,h2⟩:=zpf hT h;exact⟨r,_,h1,h2⟩
 ·obtain⟨r,h1,h2⟩:=ziH hT h;exact⟨r,_,h1,h2⟩
 ·obtain⟨r,h1,h2⟩:=zpg hT h;exact⟨r,_,h1,h2⟩
 ·rename_i x n s
  split at h
  ·rename_i vs
   split at h
   ·rename_i v r hd;refine⟨_,_,qL h,.pure λo ho S Pm ρ a w hgs=>?_⟩;obtain⟨us,hx,hus⟩:=(Gs.head hgs).tup_inv;have hg:=hus.drop n;rw[hd]at hg;obtain⟨u,us',hu,h1,_⟩:=hg.cons_inv
    have hu':us[n]?=some u:=by
     have:(us.drop n)[0]?=some u:=by rw[hu];rfl
     simpa using this
    exact⟨u,by simp[execOp,ho,hx,Instr.extract,hu'],h1⟩
   exact h.elim
  exact h.elim
 ·obtain⟨r,h1,h2⟩:=zlH hT h;exact⟨r,_,h1,h2⟩
 ·exact zlG hT h
 ·exact(zf7 hT h).1
 ·exact(zf7 hT h).2
 ·obtain⟨r,h1,h2⟩:=znO hT h;exact⟨r,_,h1,h2⟩
 ·rename_i svs c
  split at h
  ·rename_i fx hc
   split at h
   ·rename_i f caps args;refine zcx (λ{S Pm ρ a w} hg=>?_) h;have hg:Gs S Pm ρ w (.fn f caps::args) (a.eval fx::c.args.toList.map a.eval):=by simpa[qe,hc,zed] using hg
    obtain⟨cv,h1,h2⟩:=hg.head.fn_inv;exact⟨_,λo ho hcl=>zf6 (fs:=[]) ho hc h1 rfl hcl,hg.tail.append h2⟩
   ·rename_i f first args
    refine zcx (λ{S Pm ρ a w} hg=>?_) h;have hg:Gs S Pm ρ w (.val (.func (.func f) first ⟨[]⟩)::args) (a.eval fx::c.args.toList.map a.eval):=by simpa[qe,hc,zed] using hg
    refine⟨first.toList++(_++[]),λo ho hcl=>zf6 (fs:=first.toList) (caps:=[]) ho hc hg.head.val_inv rfl hcl,zC3.append ?_⟩;rw[XE];exact hg.tail
   ·rename_i f caps args;refine zcx (λ{S Pm ρ a w} hg=>?_) h;have hg:Gs S Pm ρ w (.dfn f caps::args) (a.eval fx::c.args.toList.map a.eval):=by simpa[qe,hc,zed] using hg
    obtain⟨cv,h1,h2⟩:=hg.head.dfn_inv;exact⟨_,λo ho hcl=>zf6 (fs:=[]) ho hc h1 rfl hcl,hg.tail.append h2⟩
   ·rename_i f first args
    refine zcx (λ{S Pm ρ a w} hg=>?_) h;have hg:Gs S Pm ρ w (.bm f first::args) (a.eval fx::c.args.toList.map a.eval):=by simpa[qe,hc,zed] using hg
    obtain⟨fv,h1,h2⟩:=hg.head.bm_inv;refine⟨fv++(_++[]),λo ho hcl=>zf6 (fs:=fv) (caps:=[]) ho hc h1 rfl hcl,h2.append ?_⟩;rw[XE];exact hg.tail
   exact h.elim
  ·exact h.elim
  rename_i b hb;exact zlF hT hb hlive h
 exact h.elim
variable{L:LP}
def zcy{x:Operand}{K:SV->Prop}(h:ev L x K):
  ∃s,K s/\∀{S Pm:LI} {ρ:zh} {a:Act} {w:World},(∀t s,x=.tmp t->kK L t=some s->G S Pm ρ w s (a.tmps.getD t undef))->G S Pm ρ w s (a.eval x):=by
 unfold ev at h
 split at h
 ·split at h
  ·rename_i t _ s hs;exact⟨s,qL h,λhr=>hr _ _ rfl hs⟩
  exact h.elim
 ·exact⟨_,qL h,λ_=>.d _ _ (.val _)⟩
 ·exact⟨_,h,λ_=>.fn _ [] [] rfl λj s v h=>by simp at h⟩
 exact h.elim
def zgb{L:LP}:∀{xs:List Operand} {K:LR->Prop},evs L xs K->
  ∃svs,K svs/\∀{S Pm:LI} {ρ:zh} {a:Act} {w:World},(∀t s,t∈zhc xs->kK L t=some s->G S Pm ρ w s (a.tmps.getD t undef))->Gs S Pm ρ w svs (xs.map a.eval)
 |[],K,h=>⟨[],h,λ_=>.nil⟩
 |x::xs,K,h=>by
  obtain⟨s,h,h1⟩:=zcy h;obtain⟨svs,h,h2⟩:=zgb h;refine⟨s::svs,h,λhr=>.cons (h1 λt s e hl=>hr t s ?_ hl) (h2 λt s ht hl=>hr t s ?_ hl)⟩
  ·subst e;exact .head _
  cases x <;> first|exact .tail _ ht|exact ht
variable{M:LT}
def za6{k:Nat}(h:zdg M κ k=some m):k<κ/\zU M k=some m:=by
 unfold zdg at h
 split at h
 ·rename_i hb;exact⟨Xz hb,h⟩
 cases h
def qy{d:Option Tmp}{nt:Nat}{K:Prop}(h:zlX d nt K):(∀t,d=some t->t<nt)/\K:=by
 unfold zlX at h
 split at h
 ·obtain⟨h1,h2⟩:=zj h;exact⟨λt e=>by cases e;exact Xz h1,h2⟩
 exact⟨λt e=>(by cases e),h⟩
def zC4:MD->Bool
 |.give _ _ _=>true
 |_=>false
def MdOK(all:List Oper)(i κ:Nat)(op:Op)(md:MD):Prop:=
 (isW op=true/\((∀k,md≠.drop k)/\zC4 md=false)/\∀k m,(md=.set k m∨md=.repl k m)->k<κ)∨md=.none∨((∃m,md=.push m)/\(zdh op=true∨znF all i=true))
variable{draw:Bool}{all:List Oper}{i:Nat}{md:MD}
def zpt{op:Op}{K:Prop}(h:mdV draw all i κ op md K):K/\(draw=true->MdOK all i κ op md):=by
 unfold mdV at h
 split at h
 ·exact⟨h,λe=>by cases e⟩
 split at h
 ·rename_i hw
  split at h
  ·exact h.elim
  ·obtain⟨h1,h2⟩:=zj h;exact⟨h2,λ_=>.inl ⟨hw,⟨λk e=>(by cases e),rfl⟩,λk m e=>by rcases e with e|e <;> cases e;exact Xz h1⟩⟩
  ·obtain⟨h1,h2⟩:=zj h;exact⟨h2,λ_=>.inl ⟨hw,⟨λk e=>(by cases e),rfl⟩,λk m e=>by rcases e with e|e <;> cases e;exact Xz h1⟩⟩
  ·exact h.elim
  rename_i hn hn1 hn2 hn3;exact⟨h,λ_=>.inl ⟨hw,⟨λk e=>hn k e,by cases md <;> first|rfl|exact absurd rfl (hn3 _ _ _)⟩,λk m e=>e.elim (λe=>absurd e (hn1 k m)) (λe=>absurd e (hn2 k m))⟩⟩
 split at h
 ·exact⟨h,λ_=>.inr (.inl rfl)⟩
 ·split at h
  ·exact⟨h,λ_=>.inr (.inr ⟨⟨_,rfl⟩,.inl ‹_›⟩)⟩
  obtain⟨ho,hg⟩|h:=h
  ·exact⟨hg,λ_=>.inr (.inr ⟨⟨_,rfl⟩,.inr ho⟩)⟩
  exact h.elim
 exact h.elim
def zAq{P:Program}{Γ:LS}{op:Op}{svs:LR}{lm lm':LJ}{κ:Nat}{K:LD}(hu:zc1 op=false)(h:opV P Γ op svs lm κ K):opV P Γ op svs lm' κ K:=by
 cases op <;> first|(simp[zc1]at hu;done)|(rcases svs with _|⟨_,_|⟨_,_|⟨_,_|_⟩⟩⟩ <;> exact h)
variable{a:Act}
def qJ.ex{o:Oper}{w:World}{R:Value->World->Prop}(h:qJ P o a w R):∃v w',R v w':=by
 unfold qJ Oper.wp at h;generalize (execOp a.eval o).run P w=r at*
 cases r with
 |ok n w'=>
  cases n <;> simp only[Oper.upon]at h
  case value v=>obtain⟨u,e,hr⟩:=h;exact⟨u,w',hr⟩
  case skip=>obtain⟨u,e,hr⟩:=h;exact⟨u,w',hr⟩
  case defer d=>obtain⟨u,e,hr⟩:=h;exact⟨u,w',hr⟩
  case enter f args=>
   obtain⟨e,w'',fr,hR,_⟩:=h []
   cases e with
   |returned v=>obtain⟨u,e,hr⟩:=hR;exact⟨u,w'',hr⟩
   |panicked c=>exact hR.elim
   |outgrown=>obtain⟨_,_,hf⟩:=hR;exact hf.elim
  case row row args=>
   obtain⟨v,w'',hR,_⟩:=h default [];obtain⟨u,e,hr⟩:=hR;exact⟨u,w'',hr⟩
 |halt x w'=>cases x <;> simp only[Oper.upon]at h
def kq{d t:Nat}{s:SV}:kK ((d,s)::L) t=if d=t then some s else kK L t:=by
 simp only[kK]
 by_cases h:d=t
 ·subst h;simp[K8]
 have:Nat.beq d t=false:=by
  cases hb:Nat.beq d t with
  |false=>rfl
  |true=>exact absurd (Xj hb) h
 simp[this,h]
def zgc{d t:Nat}{v:Value}(h:d<a.tmps.size):(a.put (some d) v).tmps.getD t undef=if d=t then v else a.tmps.getD t undef:=by
 simp only[Act.put]
 by_cases hd:d=t
 ·subst hd;simp[h]
 simp[hd]
def Rel.app{E:Env}{σ:St}{ρ:zh}{a:Act}{w w':World}{d:Option Tmp}{s:SV}{md:MD}{v:Value}(h:Rel E σ ρ a w)(hd:∀t,d=some t->t<σ.nt)(ha:k8 E.Keep σ.M ρ w σ.nk s md v w'):∃ρ',Rel E (σ.app d s md) ρ' (a.put d v) w':=by
 obtain⟨ρ',hs,hm,hg,hρ⟩:=ha;refine⟨ρ',?_⟩
 have hregs:∀t s,kK σ.L t=some s->t<σ.nt/\G (λb=>E.Keep b∨Own (zc6 σ.M σ.nk md) ρ' b) (Own (zc6 σ.M σ.nk md) ρ') ρ' w' s (a.tmps.getD t undef):=λt s hl=>
  ⟨(h.regs t s hl).1,((h.regs t s hl).2).stp hs⟩
 have hfresh:∀k,zbH σ.nk md<=k->ρ' k=none:=λk hk=>by
  have h1:σ.nk<=zbH σ.nk md:=by cases md <;> simp[zbH]
  rw[hρ k (.inr hk)];exact h.fresh k oM
 cases d with
 |none=>exact⟨h.size,h.defers,hregs,hm,hfresh,h.stp.trans hs,h.keep,h.low⟩
 |some d=>
  have hlt:=hd d rfl;refine⟨by have:=h.size;simpa[Act.put,St.app] using this,h.defers,λt s' hl0=>?_,hm,hfresh,h.stp.trans hs,h.keep,h.low⟩;have hl:(if d=t then some s else kK σ.L t)=some s':=by rw[←kq];exact hl0
  clear hl0;rw[zgc (by rw[h.size];exact hlt)]
  by_cases e:d=t
  ·subst e;rw[Xe rfl]at hl;cases hl
   rw[Xe rfl];exact⟨hlt,hg⟩
  rw[Xc e]at hl ⊢;exact hregs t s' hl
variable{E:Env}{σ:St}
def Rel.noKey{w:World}(h:Rel E σ ρ a w):∀m,(σ.nk,m)∉σ.M:=λm hm=>by
 obtain⟨v,hv⟩:=(h.mem.rel _ m hm).name;rw[h.fresh _ (Xk _)]at hv;cases hv
def uR{Keep:LI}{w:World}(hm:zL Keep M ρ w):k8 Keep M ρ w κ (.val undef) .none undef w:=k8.same hm (.d _ _ (.val _))
structure zl8 (P:Program) (draw:Bool) (all:List Oper) (i:Nat) (o:Oper) (σ:St) (svs:LR) (s:SV) (md:MD):Prop where
 ok:yR P o.op svs (if zc1 o.op then zdg σ.M σ.nk else λ_=>none) σ.nk s md
 ev:∀{S Pm:LI} {ρ:zh} {a:Act} {w:World},(∀t s,t∈zhc (qe o.op)->kK σ.L t=some s->G S Pm ρ w s (a.tmps.getD t undef))->Gs S Pm ρ w svs ((qe o.op).map a.eval)
 dst:∀t,o.dst=some t->t<σ.nt
 md:draw=true->MdOK all i σ.nk o.op md
def zuY(hT:TOK P Γ){o:Oper}{K:St->Prop}{w:World}(hr:Rel E σ ρ a w)(h:zdm P Γ draw all i o σ K):∃svs s md,K (σ.app o.dst s md)/\zl8 P draw all i o σ svs s md:=by
 unfold zdm at h;replace h:=zfq h;obtain⟨svs,h,hev⟩:=zgb h;have hg:=hev (a:=a) (λt s _ hl=>(hr.regs t s hl).2);have hlm:∀k m,zdg σ.M σ.nk k=some m->zU σ.M k=some m:=λk m h=>(za6 h).2
 cases hu:zc1 o.op with
 |true=>
  obtain⟨s,md,hK,hok⟩:=zhp hT ⟨E.Keep,σ.M,ρ,w,_,hlm,hr.mem,hg⟩ h;obtain⟨hK,hmd⟩:=zpt (zdl (zdk hK));obtain⟨hd,hK⟩:=qy hK;exact⟨svs,s,md,hK,by simpa[hu] using hok,hev,hd,hmd⟩
 |false=>
  obtain⟨s,md,hK,hok⟩:=zhp hT ⟨E.Keep,σ.M,ρ,w,_,λk m h=>(by cases h),hr.mem,hg⟩ (zAq (lm':=λ_=>none) hu h);obtain⟨hK,hmd⟩:=zpt (zdl (zdk hK));obtain⟨hd,hK⟩:=qy hK;exact⟨svs,s,md,hK,by simpa[hu] using hok,hev,hd,hmd⟩
def zl8.does{o:Oper}{s:SV}(h:zl8 P draw all i o σ svs s md){w:World}(hr:Rel E σ ρ a w):qJ P o a w (k8 E.Keep σ.M ρ w σ.nk s md):=by
 refine h.ok o rfl E.Keep σ.M ρ a w (λk m hk=>?_) hr.mem (λk hk _=>hr.fresh k hk) (λ_=>hr.noKey) (h.ev λt s _ hl=>(hr.regs t s hl).2)
 split at hk
 ·exact(za6 hk).2
 cases hk
def Rel.refine{w:World}(h:Rel E σ ρ a w){t:Nat}{s s':SV}(hl:kK σ.L t=some s)(hg:∀S Pm ρ w v,G S Pm ρ w s v->G S Pm ρ w s' v):Rel E (σ.put (some t) s') ρ a w:=
 ⟨h.size,h.defers,λt' s2 hl0=>by
  have hl2:(if t=t' then some s' else kK σ.L t')=some s2:=by rw[←kq];exact hl0
  clear hl0
  by_cases e:t=t'
  ·subst e;rw[Xe rfl]at hl2;cases hl2
   exact⟨(h.regs t s hl).1,hg _ _ _ _ _ (h.regs t s hl).2⟩
  rw[Xc e]at hl2
  exact h.regs t' s2 hl2,h.mem,h.fresh,h.stp,h.keep,h.low⟩
variable{p:Prop}
def zcz{i:Decidable p}(hp:p):∀S Pm ρ w v,G S Pm ρ w (.pr p i) v->G S Pm ρ w (.val (.bool true)) v:=λ_ _ _ _ v h=>by
 rw[h.pr_inv];simp only[hp,decide_true];exact .d _ _ (.val _)
def za7{i:Decidable p}(hp:¬p):∀S Pm ρ w v,G S Pm ρ w (.pr p i) v->G S Pm ρ w (.val (.bool false)) v:=λ_ _ _ _ v h=>by
 rw[h.pr_inv];simp only[hp,decide_false];exact .d _ _ (.val _)
def ztm(v:Value)(want:Bool):Bool:=
 match v with
 |.bool b=>b==want
 |_=>false
def qV(all:List Oper)(σ:St)(o:Oper)(run:Bool):Prop:=
 match o.guard with
 |none=>run=true
 |some (j,want)=>∃t v,zdi all j=some t/\kK σ.L t=some (.val v)/\run=ztm v want
def zwX(all:List Oper)(j:Nat):zdi all j=(all[j]?).bind (·.dst):=by
 induction all generalizing j with
 |nil=>simp[zdi]
 |cons o r ih=>cases j with
  |zero=>simp[zdi]
  |succ j=>simp[zdi,ih]
def zl9{o:Oper}{run:Bool}(h:qV all σ o run)(hsz:a.tmps.size=σ.nt)(hg:∀t v,(∃j want,o.guard=some (j,want)/\zdi all j=some t)->kK σ.L t=some (.val v)->t<σ.nt/\a.tmps.getD t undef=v):Region.wanted o (yielded all.toArray a.tmps)=run:=by
 unfold qV at h;unfold Region.wanted
 split at h
 ·rename_i hn;simp[hn,h]
 rename_i j want hgd;obtain⟨t,v,h1,h2,h3⟩:=h;obtain⟨h4,h5⟩:=hg t v ⟨j,want,hgd,h1⟩ h2
 have h6:a.tmps[t]?=some v:=by
  have hlt:t<a.tmps.size:=hsz ▸ h4;simp[hlt]at h5 ⊢;exact h5
 rw[zwX]at h1;simp only[hgd,yielded];have h1':((all.toArray)[j]?).bind (·.dst)=some t:=by simpa using h1
 rw[h1'];simp only[Option.bind_some,h6,h3]
 cases v <;> first|rfl|(rename_i b;cases b <;> cases want <;> rfl)
def zgd(hT:TOK P Γ){o:Oper}{r:List Oper}{K:St->Prop}{w:World}(hr:Rel E σ ρ a w)(h:u4 P Γ draw all (o::r) i σ K):∃σ' run svs s md,u4 P Γ draw all r (i+1) (σ'.app o.dst s md) K/\qV all σ' o run/\
   (σ'=σ∨∃t s0 s1,kK σ.L t=some s0/\(∀S Pm ρ w v,G S Pm ρ w s0 v->G S Pm ρ w s1 v)/\σ'=σ.put (some t) s1)/\(∀t,o.dst=some t->t<σ.nt)/\
   ((run=true/\zl8 P draw all i o σ' svs s md)∨(run=false/\s=.val undef/\md=.none)):=by
 have run1:∀{σ':St},Rel E σ' ρ a w->zdm P Γ draw all i o σ' (λσ=>u4 P Γ draw all r (i+1) σ K)->σ'.nt=σ.nt->∃svs s md,u4 P Γ draw all r (i+1) (σ'.app o.dst s md) K/\(∀t,o.dst=some t->t<σ.nt)/\zl8 P draw all i o σ' svs s md:=by
  intro σ' hr' h' hn;obtain⟨svs,s,md,h1,h2⟩:=zuY hT hr' h';exact⟨svs,s,md,h1,λt e=>hn ▸ h2.dst t e,h2⟩
 simp only[u4]at h
 split at h
 ·rename_i hg;obtain⟨svs,s,md,h1,h2,h3⟩:=run1 hr h rfl;exact⟨σ,true,svs,s,md,h1,by simp[qV,hg],.inl rfl,h2,.inl ⟨rfl,h3⟩⟩
 rename_i j want hg
 split at h
 ·exact h.elim
 rename_i t ht
 have gv:∀{σ':St} {v:Value},kK σ'.L t=some (.val v)->qV all σ' o (ztm v want):=λhl=>by
  unfold qV;rw[hg];exact⟨t,_,ht,hl,rfl⟩
 have gi:∀{σ':St} {b:Bool},kK σ'.L t=some (.val (.bool b))->qV all σ' o (b==want):=λhl=>gv hl
 have put_look:∀(s1:SV),kK (σ.put (some t) s1).L t=some s1:=λs1=>by
  show kK ((t,s1)::σ.L) t=some s1;rw[kq];simp
 split at h
 ·rename_i hl
  split at h
  ·obtain⟨svs,s,md,h1,h2,h3⟩:=run1 hr h rfl;exact⟨σ,_,svs,s,md,h1,gi hl,.inl rfl,h2,.inl ⟨rfl,h3⟩⟩
  obtain⟨hd,h⟩:=qy h;exact⟨σ,_,[],_,_,h,gi hl,.inl rfl,hd,.inr ⟨rfl,rfl,rfl⟩⟩
 ·rename_i hl
  split at h
  ·obtain⟨svs,s,md,h1,h2,h3⟩:=run1 hr h rfl;exact⟨σ,_,svs,s,md,h1,gi hl,.inl rfl,h2,.inl ⟨rfl,h3⟩⟩
  obtain⟨hd,h⟩:=qy h;exact⟨σ,_,[],_,_,h,gi hl,.inl rfl,hd,.inr ⟨rfl,rfl,rfl⟩⟩
 ·rename_i p ip hl
  by_cases hp:p
  ·have hr':=hr.refine hl (zcz hp)
   split at h
   ·obtain⟨svs,s,md,h1,h2,h3⟩:=run1 hr' (h.yes hp) rfl;exact⟨_,_,svs,s,md,h1,gi (put_look _),.inr ⟨t,_,_,hl,zcz hp,rfl⟩,h2,.inl ⟨rfl,h3⟩⟩
   obtain⟨hd,h⟩:=qy (h.yes hp);exact⟨_,_,[],_,_,h,gi (put_look _),.inr ⟨t,_,_,hl,zcz hp,rfl⟩,hd,.inr ⟨rfl,rfl,rfl⟩⟩
  have hr':=hr.refine hl (za7 hp)
  split at h
  ·obtain⟨hd,h⟩:=qy (h.no hp);exact⟨_,_,[],_,_,h,gi (put_look _),.inr ⟨t,_,_,hl,za7 hp,rfl⟩,hd,.inr ⟨rfl,rfl,rfl⟩⟩
  obtain⟨svs,s,md,h1,h2,h3⟩:=run1 hr' (h.no hp) rfl;exact⟨_,_,svs,s,md,h1,gi (put_look _),.inr ⟨t,_,_,hl,za7 hp,rfl⟩,h2,.inl ⟨rfl,h3⟩⟩
 ·rename_i hl;obtain⟨hd,h⟩:=qy h;exact⟨σ,_,[],_,_,h,gv hl,.inl rfl,hd,.inr ⟨rfl,rfl,rfl⟩⟩
 exact h.elim
def Rel.wanted{E:Env}{σ:St}{ρ:zh}{a:Act}{w:World}(h:Rel E σ ρ a w){all:List Oper}{o:Oper}{run:Bool}(hg:qV all σ o run):Region.wanted o (yielded all.toArray a.tmps)=run:=
 zl9 hg h.size λt _ _ hl=>⟨(h.regs t _ hl).1,(h.regs t _ hl).2.val_inv⟩
def ziW{P:Program}{Γ:LS}(hT:TOK P Γ){all:List Oper}{draw:Bool}{E:Env}{Q:LF}{K:St->Prop}(hQ:∀σ ρ a w,K σ->Rel E σ ρ a w->Q .normal a w):∀{l:List Oper} {i:Nat} {σ:St} {ρ:zh} {a:Act} {w:World},Rel E σ ρ a w->u4 P Γ draw all l i σ K->wpList P all.toArray Q l a w
 |[],i,σ,ρ,a,w,hr,h=>hQ σ ρ a w h hr
 |o::r,i,σ,ρ,a,w,hr,h=>by
  obtain⟨σ',run,svs,s,md,h1,hg,href,hd,hrun⟩:=zgd hT hr h
  have hr':Rel E σ' ρ a w:=by
   rcases href with rfl|⟨t,s0,s1,h2,h3,rfl⟩
   ·exact hr
   exact hr.refine h2 h3
  have hnt:σ'.nt=σ.nt:=by rcases href with rfl|⟨t,s0,s1,h2,h3,rfl⟩ <;> rfl
  unfold wpList;rw[hr'.wanted hg]
  obtain⟨rfl,hst⟩|⟨rfl,rfl,rfl⟩:=hrun
  ·simp only[if_true];refine .inl ((hst.does hr').wp λv w' ha=>?_);obtain⟨ρ',hrel⟩:=hr'.app (λt e=>hnt ▸ hd t e) ha;exact ziW hT hQ hrel h1
  simp only[Ky,if_false];obtain⟨ρ',hrel⟩:=hr'.app (λt e=>hnt ▸ hd t e) (uR hr'.mem);exact ziW hT hQ hrel h1
end Go.Gs
