/- A function: its contract out of its code. -/
import Derived.Test.YtkngjacccoklaaaGreatDoorMA
import Derived.Test.YtkngjacccoklaaaGreatDoorMAJ
set_option maxRecDepth 100000
set_option maxHeartbeats 8000000
set_option linter.all false
namespace Go.Gs
variable{P:Program}{Γ:List (TypeId×TI)}{σ:St}{K:SV->Prop}
def zpB(hT:TOK P Γ){x:ResultVar}(h:zrJ σ Γ x K):∃s,K s/\∀{E:Env} {ρ:zi} {a:Act} {w:World},Rel E σ ρ a w->
  ∃v,((match x with|.tmp t=>pure (a.tmps.getD t undef)|.cell ad t=>do loadVar t (←asAddr (a.tmps.getD ad undef)):Sem Value)).run P w=.ok v w/\G (λb=>E.Keep b∨Own σ.M ρ b) (Own σ.M ρ) ρ w s v:=by
 unfold zrJ at h
 split at h
 ·split at h
  ·rename_i s hs;exact⟨s,qy h,λhr=>⟨_,rfl,(hr.regs _ s hs).2⟩⟩
  exact h.elim
 rename_i ad t;replace h:=zB h;obtain⟨i,hi,h⟩:=h
 split at h
 ·rename_i k off hl
  split at h
  ·rename_i T cs hlk;replace h:=zh h;obtain⟨hle,h⟩:=h;replace h:=uF h;obtain⟨s,hK,h⟩:=h;have hle:=Xz hle;refine⟨s,hK,λ{E ρ a w} hr=>?_⟩;obtain⟨b,vs,hρ,hheap,hlen,_,hcells⟩:=hr.mem.rel k _ (zw hlk);obtain⟨b',hρ',hx⟩:=(hr.regs ad _ hl).2.loc_inv;rw[hρ]at hρ';cases hρ'
   have hg:Gs (λb=>E.Keep b∨Own σ.M ρ b) (Own σ.M ρ) ρ w (cs.drop off) (vs.drop off):=Gs.drop off ⟨hlen,hcells⟩;obtain⟨v,h1,h2⟩:=zbX (hT t i hi) (b:=b) (o:=off) hg (λj v hv=>by rw[zf2 hheap];simpa using hv) (by simp;omega) h;exact⟨v,by simp only[hx,asAddr,Sem.run_bind,Sem.run_pure,Result.andThen_ok,h1],h2⟩
  exact h.elim
 exact h.elim
def zig{P:Program}{Γ:List (TypeId×TI)}(hT:TOK P Γ){σ:St}:∀{xs:List ResultVar} {K:List SV->Prop},zwJ σ Γ xs K->∃l,K l/\∀{E:Env} {ρ:zi} {a:Act} {w:World},Rel E σ ρ a w->
  ∃vs,(xs.mapM λx=>(match x with|.tmp t=>pure (a.tmps.getD t undef)|.cell ad t=>do loadVar t (←asAddr (a.tmps.getD ad undef)):Sem Value)).run P w=.ok vs w/\Gs (λb=>E.Keep b∨Own σ.M ρ b) (Own σ.M ρ) ρ w l vs
 |[],K,h=>⟨[],h,λ_=>⟨[],rfl,.nil⟩⟩
 |x::xs,K,h=>by
  obtain⟨s,h,h1⟩:=zpB hT h;obtain⟨l,h,h2⟩:=zig hT h;refine⟨s::l,h,λ{E ρ a w} hr=>?_⟩;obtain⟨v,g1,g2⟩:=h1 hr;obtain⟨vs,g3,g4⟩:=h2 hr;exact⟨v::vs,by rw[List.mapM_cons,Sem.run_bind,g1,Result.andThen_ok,Sem.run_bind,g3,Result.andThen_ok,Sem.run_pure],.cons g2 g4⟩
variable{fn:Func}
def yj(hT:TOK P Γ)(h:zbV σ Γ fn.results.toList K):∃s,K s/\∀{E:Env} {ρ:zi} {a:Act} {w:World},Rel E σ ρ a w->
  ∃v,(results fn a.tmps).run P w=.ok v w/\G (λb=>E.Keep b∨Own σ.M ρ b) (Own σ.M ρ) ρ w s v:=by
 unfold zbV at h;obtain⟨l,h,h1⟩:=zig hT h
 have run:∀{a:Act} {w:World} {vs:List Value},(fn.results.toList.mapM λx=>(match x with|.tmp t=>pure (a.tmps.getD t undef)|.cell ad t=>do loadVar t (←asAddr (a.tmps.getD ad undef)):Sem Value)).run P w=.ok vs w->
   (results fn a.tmps).run P w=.ok (if h:vs.toArray.size=1 then vs.toArray[0] else .tuple vs.toArray) w:=by
  intro a w vs hv
  have e:(fn.results.mapM λx=>(match x with|.tmp t=>pure (a.tmps.getD t undef)|.cell ad t=>do loadVar t (←asAddr (a.tmps.getD ad undef)):Sem Value)).run P w=.ok vs.toArray w:=by
   rw[Array.mapM_eq_mapM_toList,Sem.run_map,hv];rfl
  unfold results;rw[Sem.run_bind]
  erw [e]
  rfl
 split at h
 ·rename_i s;refine⟨s,h,λ{E ρ a w} hr=>?_⟩;obtain⟨vs,g1,g2⟩:=h1 hr;obtain⟨v,vs',rfl,g3,g4⟩:=g2.cons_inv;rw[g4.nil_inv]at g1;exact⟨v,by rw[run g1];rfl,g3⟩
 rename_i hne;refine⟨_,h,λ{E ρ a w} hr=>?_⟩;obtain⟨vs,g1,g2⟩:=h1 hr;refine⟨.tuple vs.toArray,?_,.tup _ vs g2.1 g2.2⟩;rw[run g1]
 have hl:¬vs.toArray.size=1:=by
  intro e;have:l.length=1:=by rw[←g2.1];simpa using e
  match l,this with
  |[s],_=>exact hne s rfl
 rw[dif_neg hl]
def zih:∀(l:List SV) (n t:Nat),kK (jI n l) t=if n<=t then l[t-n]? else none
 |[],n,t=>by simp[jI,kK]
 |s::l,n,t=>by
  simp only[jI,kq,zih l (n+1) t]
  by_cases h:n=t
  ·subst h;simp
  rw[Xc h]
  by_cases h2:n<=t
  ·rw[Xe oM,Xe h2,show t-n=(t-(n+1))+1 by omega,KM]
  rw[Xc oM,Xc h2]
variable{M:List (Nat×Mem)}{ρ:zi}{S':Nat->Prop}{Pm':Nat->Prop}{ρ':zi}
def znO{lm:Nat->Option Mem}{Keep:Nat->Prop}{w:World}(hlm:∀k m,lm k=some m->(k,m)∈M)(hm:zK Keep M ρ w)(hsub:∀b,S' b->Keep b∨Own M ρ b){s:SV}{v:Value}(hg:G (λb=>Keep b∨Own M ρ b) (Own M ρ) ρ w s v)(hc:∀b,Own M ρ b->¬S' b)(hP:∀b,¬Pm' b):
  G S' Pm' ρ' w (zlU lm s) v:=by
 unfold zlU
 split
 ·rename_i cs;obtain⟨vs,rfl,hvs⟩:=hg.tup_inv;have h:=zjw (S':=S') (Pm':=Pm') (ρ':=ρ') hlm hm hsub (λb _=>hP b) (λ_ _ b _ _=>hP b) hvs (.inr hc);exact .tup _ vs h.1 h.2
 exact znI hlm hm hsub hg (.inr hc) (λb _=>hP b) (λ_ _ b _ _=>hP b)
def vL{Keep:Nat->Prop}{M:List (Nat×Mem)}{ρ:zi}{w:World}{args:List SV}{vs:List Value}{nt:Nat}(hm:zK Keep M ρ w)(hρ:∀k,M.length<=k->ρ k=none)(hg:Gs (λb=>Keep b∨Own M ρ b) (Own M ρ) ρ w args vs)(hle:args.length<=nt):
  Rel ⟨w,ρ,Keep,Own M ρ,[]⟩ ⟨jI 0 args,M,M.length,nt,M.length⟩ ρ { tmps:=vs.toArray++Array.replicate (nt-vs.toArray.size) undef,defers:=[] } w:=by
 have hl:=hg.1;refine⟨by simp;omega,rfl,λt s h=>?_,hm,hρ,.refl,hm.kp,λk v h=>?_⟩;rotate_left
 ·rcases Qe k M.length with h1|h1
  ·exact h1
  have h:ρ k=some v:=h;rw[hρ k h1]at h;cases h
 have h:kK (jI 0 args) t=some s:=h;rw[zih]at h;simp only[Xh,if_true,YC]at h;have hlt:=(Xd.1 h).1;refine⟨show t<nt by omega,hg.2 t s _ h ?_⟩;have:t<vs.length:=oM
 have e:(vs.toArray++Array.replicate (nt-vs.toArray.size) undef)[t]?=some vs[t]:=by
  rw[JJ (by simpa using this)];simp[this]
 rw[Xb this,X6,e];rfl
def Sub.refl{σ:St}:Sub σ σ:=λ_ ρ _ _ hr=>⟨ρ,hr⟩
variable{f:FuncId}{c:Code}{Q:Ex->St->Prop}{r:SV}{M':List (Nat×Mem)}
def zaS(hT:TOK P Γ)(hm:P.follows .mixedOrders=true){args:List SV}(hf:P.funcs[f]?=some fn)(hb:fn.body=some c)(hn:(fn.name== "runtime.NumGoroutine")=false) (hle:Nat.ble args.length fn.ntmps=true)
  (h:jH P Γ c ⟨jI 0 args,M,M.length,fn.ntmps,M.length⟩ Q){Q':Ex->St->Prop} (hS:∀e σ,Q e σ->∃σ',Sub σ σ'/\Q' e σ')
  (hQ:∀e σ,Q' e σ->(∀id,e≠.exit id)->∃s,(∀{E:Env} {ρ:zi} {a:Act} {w:World},Rel E σ ρ a w->∃v,(results fn a.tmps).run P w=.ok v w/\G (λb=>E.Keep b∨Own σ.M ρ b) (Own σ.M ρ) ρ w s v)/\
   ∀{E:Env} {ρ:zi} {a:Act} {w:World} {v:Value},Rel E σ ρ a w->(∀b,E.W0 b↔Own M E.ρ0 b)->(∀k,M.length<=k->E.ρ0 k=none)->G (λb=>E.Keep b∨Own σ.M ρ b) (Own σ.M ρ) ρ w s v->
    ∃ρ',Stp (Own M E.ρ0) (Own M' ρ') E.ρ0 ρ' E.w0 w/\zK E.Keep M' ρ' w/\G (λb=>E.Keep b∨Own M' ρ' b) (Own M' ρ') ρ' w r v)
  (hx:∀id σ,¬Q' (.exit id) σ):qx P f args M r M':=by
 refine⟨⟨fn,hf,hn,by rw[hb];rfl⟩,λKeep ρ w vs _ hmem hρ hg=>calls_of_wp hf hb ?_⟩;have hrel:=vL (nt:=fn.ntmps) hmem hρ hg (Xz hle);refine Code.wp_mono (λe a' w' hq=>?_) (qa hT hm c hrel h)
 have fin:∀e σ ρ1,Q e σ->(∀id,e≠.exit id)->Rel ⟨w,ρ,Keep,Own M ρ,[]⟩ σ ρ1 a' w'->a'.defers=[]/\∃v,(results fn a'.tmps).run P w'=.ok v w'/\∃v' ρ',Ending.returned v=.returned v'/\Stp (Own M ρ) (Own M' ρ') ρ ρ' w w'/\
   zK Keep M' ρ' w'/\G (λb=>Keep b∨Own M' ρ' b) (Own M' ρ') ρ' w' r v':=by
  intro e σ0 ρ0 hq0 he hr0;obtain⟨σ,hsub,hq⟩:=hS e σ0 hq0;obtain⟨ρ1,hr⟩:=hsub _ _ _ _ hr0;obtain⟨s,h1,h2⟩:=hQ e σ hq he;obtain⟨v,g1,g2⟩:=h1 hr;obtain⟨ρ',g3,g4,g5⟩:=h2 hr (λ_=>K7) hρ g2;exact⟨hr.defers,v,g1,v,ρ',rfl,g3,g4,g5⟩
 cases e with
 |normal=>obtain⟨σ,ρ1,hq,hr⟩:=hq;exact fin _ σ ρ1 hq (λ_=>by simp) hr
 |ret=>obtain⟨σ,ρ1,hq,hr⟩:=hq;exact fin _ σ ρ1 hq (λ_=>by simp) hr
 |exit id=>obtain⟨σ,ρ1,hq,hr⟩:=hq;obtain⟨σ',_,hq'⟩:=hS _ σ hq;exact(hx id σ' hq').elim
 |_=>exact hq.elim
def zwU(hT:TOK P Γ)(hm:P.follows .mixedOrders=true){args:List SV}(hf:P.funcs[f]?=some fn)(hb:fn.body=some c)(hn:(fn.name== "runtime.NumGoroutine")=false) (hle:Nat.ble args.length fn.ntmps=true)
  (h:jH P Γ c ⟨jI 0 args,[],0,fn.ntmps,0⟩ (endV Γ fn.results.toList r)):qx P f args [] r []:=by
 refine zaS hT hm hf hb hn hle h (λe σ h=>⟨σ,.refl,h⟩) (λe σ hq he=>?_) (λid σ hq=>hq)
 have hq:zbV σ Γ fn.results.toList λs=>LE (zlU (zS σ.M) s) r:=by
  cases e with
  |exit id=>exact absurd rfl (he id)
  |normal=>exact hq
  |ret=>exact hq
 obtain⟨s,hle,h1⟩:=yj hT hq;refine⟨s,h1,λ{E ρ a w v} hr hW _ hg=>⟨ρ,?_,?_,?_⟩⟩
 ·have hs:=hr.stp;exact⟨hs.os,hs.tape,hs.output,hs.size,λb hb hn=>hs.block b hb λh=>hn ((hW b).1 h),λb hb=>absurd hb zP,hs.rho⟩
 ·exact qr hr.mem.kp λ_ _ h=>hr.mem.glc h
 exact hle _ _ _ _ _ (znO (λk m h=>zw h) hr.mem (λb hb=>.inl (hb.resolve_right zP)) hg (λb hb hk=>(hr.mem.old b hb).2 (hk.resolve_right zP)) (λ_=>zP))
variable{S:Nat->Prop}{Pm:Nat->Prop}
def za3.g{k:Option Nat}{s:SV}(h:za3 k s r){w:World}{v0:Value}(hsub:∀b,S' b->S b)(h0:ρ' 0=some v0)(hk:∀k',k=some k'->ρ k'=some v0)(hn:k=none->v0=.slice none 0 0){v:Value}(hg:G S Pm ρ w s v):G S' Pm' ρ' w r v:=by
 induction h generalizing v with
 |own k' h=>
  obtain⟨g1,g2⟩:=hg.own_inv;rw[hk k' h]at g1;cases g1
  exact .own _ _ h0 g2
 |loc k' off h=>
  obtain⟨b,g1,rfl⟩:=hg.loc_inv;rw[hk k' h]at g1;cases g1
  exact .loc _ _ _ h0
 |nil h=>
  rw[hg.val_inv];exact .own _ _ (by rw[h0,hn h]) rfl
 |le s r h hf=>exact .d _ _ ((y8 hf (h _ _ _ _ _ hg)).less hsub)
 |junk s=>exact .d _ _ (.junk _)
 |agg cs ds hl h ih=>
  obtain⟨vs,rfl,hvs⟩:=hg.agg_inv;refine .agg _ vs (hvs.1.trans hl) λj r u hr hu=>?_
  have hj:j<cs.length:=by have:=(Xd.1 hr).1;omega
  exact ih j _ r (Xb hj) hr (hvs.2 j _ u (Xb hj) hu)
 |tup cs ds hl h ih=>
  obtain⟨vs,rfl,hvs⟩:=hg.tup_inv;refine .tup _ vs (hvs.1.trans hl) λj r u hr hu=>?_
  have hj:j<cs.length:=by have:=(Xd.1 hr).1;omega
  exact ih j _ r (Xb hj) hr (hvs.2 j _ u (Xb hj) hu)
 |fn f cs ds hl h ih=>
  obtain⟨vs,rfl,hvs⟩:=hg.fn_inv;refine .fn _ _ vs (hvs.1.trans hl) λj r u hr hu=>?_
  have hj:j<cs.length:=by have:=(Xd.1 hr).1;omega
  exact ih j _ r (Xb hj) hr (hvs.2 j _ u (Xb hj) hu)
variable{m:Mem}
def zjO(hT:TOK P Γ)(hm:P.follows .mixedOrders=true){args:List SV}(hf:P.funcs[f]?=some fn)(hb:fn.body=some c)(hn:(fn.name== "runtime.NumGoroutine")=false) (hle:Nat.ble args.length fn.ntmps=true)
  (h:jH P Γ c ⟨jI 0 args,[],0,fn.ntmps,0⟩ Q) (hS:∀e σ,Q e σ->∃σ',Sub σ σ'/\zrK Γ fn.results.toList r m e σ'):qx P f args [] r [(0,m)]:=by
 refine zaS hT hm hf hb hn hle h hS (λe σ hq he=>?_) (λid σ hq=>hq)
 have hq:zbV σ Γ fn.results.toList λs=>∃k,za3 k s r/\zwK σ.M k m:=by
  cases e with
  |exit id=>exact absurd rfl (he id)
  |normal=>exact hq
  |ret=>exact hq
 obtain⟨s,⟨k,htk,hmk⟩,h1⟩:=yj hT hq;refine⟨s,h1,λ{E ρ a w v} hr hW hρ0 hg=>?_⟩;have hs:=hr.stp
 have main:∀v0:Value,(∀b,qc v0=some b->Own σ.M ρ b)->(∀k',k=some k'->ρ k'=some v0)->(k=none->v0=.slice none 0 0)->
   (∀S Pm:Nat->Prop,(∀b,S b->E.Keep b∨Own σ.M ρ b)->jG S Pm (one v0) w 0 m)->
   ∃ρ',Stp (Own [] E.ρ0) (Own [(0,m)] ρ') E.ρ0 ρ' E.w0 w/\zK E.Keep [(0,m)] ρ' w/\G (λb=>E.Keep b∨Own [(0,m)] ρ' b) (Own [(0,m)] ρ') ρ' w r v:=by
  intro v0 hown hk hnone hrel;have hsub:∀b,Own [(0,m)] (one v0) b->Own σ.M ρ b:=λb hb=>hown b (zbz.1 hb)
  refine⟨one v0,⟨hs.os,hs.tape,hs.output,hs.size,λb hb hn=>hs.block b hb λh=>hn ((hW b).1 h),λb hb=>(hs.own b (hsub b hb)).imp (hW b).1 id,λk' v' hv'=>?_⟩,?_,?_⟩
  ·rw[hρ0 k' (Xh _)]at hv';cases hv'
  ·refine⟨λk' m1 h=>?_,X8.2 ⟨λ_ h=>(by cases h),List.Pairwise.nil⟩,λk1 m1 k2 m2 _ _ _ h1 h2 hne=>?_,λb hb=>hr.mem.old b (hsub b hb),hr.mem.kp,hr.mem.glO hsub⟩
   ·cases h with
    |head=>exact hrel _ _ λb hb=>hb.imp id (hsub b)
    |tail _ h=>cases h
   cases h1 with
   |head=>cases h2 with
    |head=>exact absurd rfl hne
    |tail _ h=>cases h
   |tail _ h=>cases h
  exact htk.g (λb hb=>hb.imp id (hsub b)) uG hk hnone hg
 cases k with
 |some k'=>
  obtain⟨hlk,hfm⟩:=hmk;have hmem:=zw hlk;obtain⟨v0,hv0⟩:=(hr.mem.rel k' m hmem).name
  exact main v0 (λb hb=>⟨k',m,v0,hmem,hv0,hb⟩) (λk2 e=>by cases e;exact hv0) (λe=>by cases e)
   λS Pm hS=>jG.move (by rw[uG,hv0]) hfm (λs u _ hd=>.inl (hd.less hS)) (hr.mem.rel k' m hmem)
 |none=>
  cases m with
  |box T cs=>exact hmk.elim
  |garr T sz xs=>exact hmk.elim
  |map es=>exact hmk.elim
  |arr T enc sz xs=>
   have hx:xs=[]:=hmk;subst hx
   exact main (.slice none 0 0) (λb hb=>by simp[qc]at hb) (λ_ e=>by cases e) (λ_=>rfl)
    λS Pm _=>⟨.slice none 0 0,[],uG,World.ownsRow_nil w 0 T sz,by simp,λu hu=>(by cases hu),λx hx=>(by cases hx),λi j x s hx=>(by simp at hx)⟩
def qE(hT:TOK P Γ)(hm:P.follows .mixedOrders=true){args:List SV}(hf:P.funcs[f]?=some fn)(hb:fn.body=some c)(hn:(fn.name== "runtime.NumGoroutine")=false) (hle:Nat.ble args.length fn.ntmps=true)
  (h:jH P Γ c ⟨jI 0 args,[],0,fn.ntmps,0⟩ (zrK Γ fn.results.toList r m)):qx P f args [] r [(0,m)]:=
 zjO hT hm hf hb hn hle h λ_ σ h=>⟨σ,.refl,h⟩
def zeZ(hT:TOK P Γ)(hm:P.follows .mixedOrders=true){args:List SV}(hf:P.funcs[f]?=some fn)(hb:fn.body=some c)(hn:(fn.name== "runtime.NumGoroutine")=false) (hle:Nat.ble args.length fn.ntmps=true)
  (h:jH P Γ c ⟨jI 0 args,[],0,fn.ntmps,0⟩ (λe σ=>∃σ',Sub σ σ'/\zrK Γ fn.results.toList r m e σ')):qx P f args [] r [(0,m)]:=
 zjO hT hm hf hb hn hle h λ_ _ h=>h
variable{r':SV}
def qx.plain{args:List SV}(h:qx P f args [] r [(0,m)])(e:zlU (zS [(0,m)]) r=r'):qx P f args [] r' []:=by
 subst e;refine⟨h.1,λKeep ρ w vs hk hm hρ hg=>(h.2 Keep ρ w vs hk hm hρ hg).mono λ_ _ ⟨v,ρ',e,hs,hm',hgr⟩=>?_⟩;refine⟨v,ρ,e,⟨hs.os,hs.tape,hs.output,hs.size,hs.block,λb hb=>.inl (zP hb |>.elim),λ_ _ h=>h⟩,qr hm'.kp (λ_ _ h=>hm'.glc h),?_⟩;exact znO (λk m h=>zw h) hm' (λb hb=>hb.elim .inl λh=>(zP h).elim) hgr (λb hb hSb=>hSb.elim (hm'.old b hb).2 λh=>zP h) (λb=>zP)
def uo(hT:TOK P Γ)(hm:P.follows .mixedOrders=true){args:List SV}{m':Mem}(hf:P.funcs[f]?=some fn)(hb:fn.body=some c)(hn:(fn.name== "runtime.NumGoroutine")=false) (hle:Nat.ble args.length fn.ntmps=true) (hfm:zfX m') (hfr:zjg r=true)
  (h:jH P Γ c ⟨jI 0 args,[(0,m)],1,fn.ntmps,1⟩ (zC1 Γ fn.results.toList r m')):qx P f args [(0,m)] r [(0,m')]:=by
 refine zaS hT hm hf hb hn hle h (λe σ h=>⟨σ,.refl,h⟩) (λe σ hq he=>?_) (λid σ hq=>hq)
 have hq:zbV σ Γ fn.results.toList λs=>(zS σ.M 0=some m'/\LE s r):=by
  cases e with
  |exit id=>exact absurd rfl (he id)
  |normal=>exact hq
  |ret=>exact hq
 obtain⟨s,⟨hlk,hle⟩,h1⟩:=yj hT hq;refine⟨s,h1,λ{E ρ a w v} hr hW hρ0 hg=>?_⟩;have hs:=hr.stp;have hmem:=zw hlk;obtain⟨v0,hv0⟩:=(hr.mem.rel 0 m' hmem).name;have hsub:∀b,Own [(0,m')] (one v0) b->Own σ.M ρ b:=λb hb=>⟨0,m',v0,hmem,hv0,zbz.1 hb⟩
 refine⟨one v0,⟨hs.os,hs.tape,hs.output,hs.size,λb hb hn=>hs.block b hb λh=>hn ((hW b).1 h),λb hb=>(hs.own b (hsub b hb)).imp (hW b).1 id,λk' v' hv'=>?_⟩,?_,?_⟩
 ·by_cases hk:k'=0
  ·subst hk;have:=hs.rho 0 v' hv';rw[hv0]at this;cases this;exact uG
  rw[hρ0 k' (by simp;omega)]at hv';cases hv'
 ·refine⟨λk' m1 h=>?_,X8.2 ⟨λ_ h=>(by cases h),List.Pairwise.nil⟩,λk1 m1 k2 m2 _ _ _ h1 h2 hne=>?_,λb hb=>hr.mem.old b (hsub b hb),hr.mem.kp,hr.mem.glO hsub⟩
  ·cases h with
   |head=>exact jG.move (by rw[uG,hv0]) hfm (λs u _ hd=>.inl (hd.less λb hb=>hb.imp id (hsub b))) (hr.mem.rel 0 m' hmem)
   |tail _ h=>cases h
  cases h1 with
  |head=>cases h2 with
   |head=>exact absurd rfl hne
   |tail _ h=>cases h
  |tail _ h=>cases h
 exact ziT (λb hb=>hb.imp id (hsub b)) hfr (hle _ _ _ _ _ hg)
def vEq:Value->Value->Bool
 |.int k m,.int k' n=>zrz k k'&&decide (m=n)
 |.bool a,.bool b=>a==b
 |.slice none l c,.slice none l' c'=>Nat.beq l l'&&Nat.beq c c'
 |.pointer none,.pointer none=>true
 |.map none,.map none=>true
 |.nilFunc,.nilFunc=>true
 |.nilIface,.nilIface=>true
 |.string a,.string b=>a.data.toList.isEmpty&&b.data.toList.isEmpty
 |_,_=>false
def zC5{a b:Value}(h:vEq a b=true):a=b:=by
 unfold vEq at h
 split at h
 ·simp only[XA,decide_eq_true_eq]at h;rw[zf0 h.1,h.2]
 ·simp at h;rw[h]
 ·simp only[XA]at h;rw[Xj h.1,Xj h.2]
 ·rfl
 ·rfl
 ·rfl
 ·rfl
 ·rename_i a b;simp only[XA,List.isEmpty_iff]at h;obtain⟨⟨a⟩⟩:=a;obtain⟨⟨b⟩⟩:=b;simp at h;simp[h]
 cases h
def vsEq:List Value->List Value->Bool
 |[],[]=>true
 |a::r,b::r'=>vEq a b&&vsEq r r'
 |_,_=>false
def znP:∀{a b:List Value},vsEq a b=true->a=b
 |[],[],_=>rfl
 |[],_::_,h=>by cases h
 |_::_,[],h=>by cases h
 |a::r,b::r',h=>by simp only[vsEq,XA]at h;rw[zC5 h.1,znP h.2]
def fsEq:List (Nat×TypeId)->List (Nat×TypeId)->Bool
 |[],[]=>true
 |(a,b)::r,(a',b')::r'=>Nat.beq a a'&&(Nat.beq b b'&&fsEq r r')
 |_,_=>false
def ztk:∀{a b:List (Nat×TypeId)},fsEq a b=true->a=b
 |[],[],_=>rfl
 |[],_::_,h=>by cases h
 |_::_,[],h=>by cases h
 |(a,b)::r,(a',b')::r',h=>by
  simp only[fsEq,XA]at h;rw[Xj h.1,Xj h.2.1,ztk h.2.2]
def zwV(P:Program)(t:TypeId)(k:TK):Bool:=
 match k,P.underlying t with
 |.int k,some (.int k')=>zrz k' k
 |.bool,some .bool=>true
 |.str,some .string=>true
 |.ptr e,some (.pointer e')=>Nat.beq e' e
 |.slice e,some (.slice e')=>Nat.beq e' e
 |.arr n e,some (.array n' e')=>Nat.beq n' n&&Nat.beq e' e
 |.struct fs,some (.struct F)=>fsEq (F.toList.map λf=>(f.offset,f.type)) fs&&(F.toList.mapM λf=>(P.info? f.type).map λi=>(f.offset,i.size)).isSome
 |.map k e,some (.map k' e')=>Nat.beq k' k&&Nat.beq e' e
 |.other,some (.func _ _ _)=>true
 |.iface,some (.interface _)=>true
 |_,_=>false
def zwW{t:TypeId}{k:TK}(h:zwV P t k=true):zdq P t k:=by
 unfold zwV at h
 split at h
 ·rename_i hu;exact(zf0 h) ▸ hu
 ·assumption
 ·assumption
 ·rename_i hu;exact(Xj h) ▸ hu
 ·rename_i hu;exact(Xj h) ▸ hu
 ·rename_i hu;simp only[XA]at h;have h1:=Xj h.1;have h2:=Xj h.2;subst h1;subst h2;exact hu
 ·rename_i hu;simp only[XA]at h;exact⟨_,hu,ztk h.1,Option.isSome_iff_exists.1 h.2⟩
 ·rename_i hu;simp only[XA]at h;have h1:=Xj h.1;have h2:=Xj h.2;subst h1;subst h2;exact hu
 ·rename_i hu;exact⟨_,_,_,hu⟩
 ·rename_i hu;exact⟨_,hu⟩
 cases h
def zwX:Value->Bool
 |.agg _=>true
 |_=>false
def chkT(P:Program)(t:TypeId)(i:TI):Bool:=
 (match P.info? t with
 |some f=>Nat.beq f.size i.sz&&(Nat.beq f.bytes i.bytes&&(match f.zero with
  |some z=>vsEq z.cells.toList i.zero&&((i.kind.agg||z.oneCell')&&(!i.kind.agg||zwX z))
  |none=>false))
 |none=>false)&&(Nat.beq i.zero.length i.sz&&(i.zero.all (·.oneCell')&&(zwV P t i.kind&&
 (!i.cmp||(!P.stoodInHeld t&&(!P.eqGuardType P.depth t&&(P.fieldsOf t).toList.all λf=>!(f.name== "_")))))))
def zAn{t:TypeId}{i:TI}(h:chkT P t i=true):ziD P t i:=by
 unfold chkT at h;simp only[XA]at h;obtain⟨h1,h2,h3,h4,h5⟩:=h;refine⟨?_,zwW h4,λhg=>?_,λhc=>?_⟩
 ·split at h1
  ·rename_i f hf;simp only[XA]at h1;obtain⟨g1,g2,g3⟩:=h1
   split at g3
   ·rename_i z hz;simp only[XA]at g3;exact⟨f,hf,Xj g1,Xj g2,z,hz,znP g3.1,λha=>zlX (by simpa[ha] using g3.2.1),Xj h2,λv hv=>XR.1 h3 v hv⟩
   cases g3
  cases h1
 ·split at h1
  ·rename_i f hf;simp only[XA]at h1;obtain⟨g1,g2,g3⟩:=h1
   split at g3
   ·rename_i z hz;simp only[XA,hg,QD,QN]at g3;refine⟨f,hf,?_⟩
    cases z with
    |agg a=>rw[hz,←znP g3.1];simp[Value.cells]
    |_=>exact absurd g3.2.2 (by simp[zwX])
   cases g3
  cases h1
 simp only[hc,QD,QN,XA,Ji]at h5;refine⟨h5.1,h5.2.1,λf hf=>?_⟩;have:=XR.1 h5.2.2 f hf
 simpa using this
def zC6(P:Program)(Γ:List (TypeId×TI)):Bool:=Γ.all λp=>chkT P p.1 p.2
def zC7(h:zC6 P Γ=true):TOK P Γ:=by
 intro t i hi
 have hm:(t,i)∈Γ:=by
  clear h
  induction Γ with
  |nil=>cases hi
  |cons x r ih=>
   obtain⟨k,s⟩:=x;simp only[ti]at hi
   split at hi
   ·rename_i hb;have:=Xj hb;subst this;cases hi;exact .head _
   exact .tail _ (ih hi)
 exact zAn (XR.1 h _ hm)
def zba:List (Nat×Option Nat)->Nat->Option (Option Nat)
 |[],_=>none
 |(k,s)::r,t=>match Nat.beq k t with
  |true=>some s
  |false=>zba r t
def ren(tb:List (Nat×Option Nat))(s:SV):Option SV:=
 match s with
 |.loc k off=>(match zba tb k with
  |some (some j)=>some (.loc j off)
  |_=>none)
 |.own k=>(match zba tb k with
  |some (some j)=>some (.own j)
  |some none=>some (.val (.slice none 0 0))
  |none=>none)
 |.fn f cs=>(match rens tb cs with
  |some cs'=>some (.fn f cs')
  |none=>none)
 |.agg cs=>(match rens tb cs with
  |some cs'=>some (.agg cs')
  |none=>none)
 |.ifc t s=>(match ren tb s with
  |some s'=>some (.ifc t s')
  |none=>none)
 |.tup cs=>(match rens tb cs with
  |some cs'=>some (.tup cs')
  |none=>none)
 |.win k sz lo n=>(match zba tb k with
  |some (some j)=>some (.win j sz lo n)
  |_=>none)
 |.eloc k sz i off=>(match zba tb k with
  |some (some j)=>some (.eloc j sz i off)
  |_=>none)
 |s=>some s
 where
 rens (tb:List (Nat×Option Nat)):List SV->Option (List SV)
  |[]=>some []
  |c::cs=>(match ren tb c,rens tb cs with
   |some c',some cs'=>some (c'::cs')
   |_,_=>none)
def znQ(tb:List (Nat×Option Nat))(L:List (Nat×SV)):List (Nat×SV)->Prop
 |[]=>True
 |(t,s)::r=>(match ren tb s with
  |some s'=>kK L t=some s'
  |none=>False)/\znQ tb L r
def znR(tb:List (Nat×Option Nat))(M:List (Nat×Mem))(k:Nat)(m:Mem):Prop:=
 match zba tb k with
 |some (some j)=>(match m with
  |.box T cs=>(match ren.rens tb cs with
   |some cs'=>zS M j=some (.box T cs')
   |none=>False)
  |.garr T sz xs=>∃xs',zS M j=some (.garr T sz xs')/\xs'.length=xs.length/\∀(i:Nat) x,xs[i]?=some x->∃x',xs'[i]?=some x'/\ren.rens tb x=some x'
  |m=>zS M j=some m)
 |some none=>(match m with
  |.arr _ _ _ xs=>Nat.beq xs.length 0=true
  |_=>False)
 |none=>False
def znS(tb:List (Nat×Option Nat))(M:List (Nat×Mem)):List (Nat×Mem)->Prop
 |[]=>True
 |(k,m)::r=>znR tb M k m/\znS tb M r
def ze0:List (Nat×Option Nat)->Nat->Bool
 |[],_=>true
 |(k,_)::r,nk=>Nat.blt k nk&&(r.all (λx=>!(Nat.beq x.1 k))&&ze0 r nk)
def ze1(tb:List (Nat×Option Nat)):Nat->Bool
 |0=>true
 |n+1=>(match zba tb n with
  |some (some j)=>Nat.beq j n&&ze1 tb n
  |_=>false)
def zwY:Option (Option Nat)->Option (Option Nat)->Bool
 |some (some a),some (some b)=>!(Nat.beq a b)
 |_,_=>true
def zat(tb:List (Nat×Option Nat)):List (Nat×Mem)->Bool
 |[]=>true
 |(k,_)::r=>r.all (λx=>!(Nat.beq x.1 k)&&zwY (zba tb x.1) (zba tb k))&&zat tb r
def names(tb:List (Nat×Option Nat))(ρ:zi):zi:=λk=>match zba tb k with
 |some (some j)=>ρ j
 |some none=>some (.slice none 0 0)
 |none=>none
variable{tb:List (Nat×Option Nat)}
def zAo{nk k:Nat}{x:Option Nat}(h:ze0 tb nk=true)(hk:zba tb k=some x):k<nk:=by
 induction tb with
 |nil=>cases hk
 |cons y r ih=>
  obtain⟨k',j⟩:=y;simp only[ze0,XA]at h;simp only[zba]at hk
  split at hk
  ·rename_i hb;have:=Xj hb;subst this;exact Xz h.1
  exact ih h.2.2 hk
def ren_g{w:World}:∀(s:SV) {s':SV} {v:Value},ren tb s=some s'->G S Pm ρ w s' v->G S Pm (names tb ρ) w s v:=by
 intro s
 induction s using SV.rec (motive_2:=λcs=>∀{cs':List SV} {vs:List Value},ren.rens tb cs=some cs'->Gs S Pm ρ w cs' vs->Gs S Pm (names tb ρ) w cs vs) with
 |val v=>intro s' u h hg;simp only[ren]at h;cases h;exact .d _ _ (hg.val_inv ▸ .val _)
 |pr p i=>intro s' u h hg;simp only[ren]at h;cases h;rw[hg.pr_inv];exact .d _ _ (.pr p i)
 |agg cs ih=>
  intro s' u h hg;simp only[ren]at h
  split at h
  ·rename_i cs' hc;cases h
   obtain⟨vs,rfl,hvs⟩:=hg.agg_inv;have:=ih hc hvs;exact .agg _ vs this.1 this.2
  cases h
 |sl enc xs=>intro s' u h hg;simp only[ren]at h;cases h;exact .d _ _ hg.sl_inv
 |ptr cs ih=>
  intro s' u h hg;simp only[ren]at h;cases h
  obtain⟨b,o,c,rfl,hb,hP,hc,hd⟩:=hg.ptr_inv;exact .ptr cs b o c hb hP hc hd
 |loc k off=>
  intro s' u h hg;simp only[ren]at h
  split at h
  ·rename_i j hj;cases h
   obtain⟨b,hρ,rfl⟩:=hg.loc_inv;exact .loc _ _ b (by simp[names,hj,hρ])
  cases h
 |own k=>
  intro s' u h hg;simp only[ren]at h
  split at h
  ·rename_i j hj;cases h
   obtain⟨hρ,h1⟩:=hg.own_inv;exact .own _ _ (by simp[names,hj,hρ]) h1
  ·rename_i hj;cases h
   rw[hg.val_inv];exact .own _ _ (by simp[names,hj]) rfl
  cases h
 |win k sz lo n=>
  intro s' u h hg;simp only[ren]at h
  split at h
  ·rename_i j hj;cases h
   obtain⟨b,len,cap,cap',hρ,rfl,h1,h2⟩:=hg.win_inv;exact .win _ _ _ _ b len cap cap' (by simp[names,hj,hρ]) h1 h2
  cases h
 |eloc k sz i off=>
  intro s' u h hg;simp only[ren]at h
  split at h
  ·rename_i j hj;cases h
   obtain⟨b,len,cap,hρ,rfl⟩:=hg.eloc_inv;exact .eloc _ _ _ _ b len cap (by simp[names,hj,hρ])
  cases h
 |fn f cs ih=>
  intro s' u h hg;simp only[ren]at h
  split at h
  ·rename_i cs' hc;cases h
   obtain⟨vs,rfl,hvs⟩:=hg.fn_inv;have:=ih hc hvs;exact .fn f _ vs this.1 this.2
  cases h
 |tup cs ih=>
  intro s' u h hg;simp only[ren]at h
  split at h
  ·rename_i cs' hc;cases h
   obtain⟨vs,rfl,hvs⟩:=hg.tup_inv;have:=ih hc hvs;exact .tup _ vs this.1 this.2
  cases h
 |dptr cs ih=>intro s' u h hg;simp only[ren]at h;cases h;cases hg with|d _ _ h=>exact .d _ _ h
 |dfn f cs ih=>intro s' u h hg;simp only[ren]at h;cases h;cases hg with|d _ _ h=>exact .d _ _ h
 |bm f cs ih=>intro s' u h hg;simp only[ren]at h;cases h;cases hg with|d _ _ h=>exact .d _ _ h
 |op v=>intro s' u h hg;simp only[ren]at h;cases h;cases hg with|d _ _ h=>exact .d _ _ h
 |ifc t s ih=>
  intro s' u h hg;simp only[ren]at h
  split at h
  ·rename_i s1 hs;cases h
   obtain⟨v,rfl,hv⟩:=hg.ifc_inv;exact .ifc t s v (ih hs hv)
  cases h
 |junk=>intro s' u h hg;exact .d _ _ (.junk u)
 |nils=>intro s' u h hg;simp only[ren]at h;cases h;obtain⟨a,rfl⟩:=hg.nils_inv;exact .d _ _ (.nils a)
 |full enc xs=>intro s' u h hg;simp only[ren]at h;cases h;obtain⟨a,rfl,hd⟩:=hg.full_inv;exact .d _ _ (.full enc xs a hd)
 |anyb=>intro s' u h hg;simp only[ren]at h;cases h;obtain⟨b,rfl⟩:=hg.anyb_inv;exact .d _ _ (.anyb b)
 |nil=>rename_i h hg;simp only[ren.rens]at h;cases h;rw[hg.nil_inv];exact .nil
 |cons c cs ihc ihcs=>
  rename_i h hg;simp only[ren.rens]at h
  split at h
  ·rename_i c' cs'' hc hcs;cases h
   obtain⟨v,vs',rfl,h1,h2⟩:=hg.cons_inv;exact .cons (ihc hc h1) (ihcs hcs h2)
  cases h
def zma{tb:List (Nat×Option Nat)}{L:List (Nat×SV)}:∀{L':List (Nat×SV)},znQ tb L L'->∀t s,kK L' t=some s->∃s',ren tb s=some s'/\kK L t=some s'
 |[],_,t,s,h=>by cases h
 |(t0,s0)::r,hL,t,s,h=>by
  obtain⟨h1,h2⟩:=hL;rw[kq]at h
  split at h
  ·rename_i e;subst e;cases h
   split at h1
   ·exact⟨_,‹_›,h1⟩
   exact h1.elim
  exact zma h2 t s h
def zjP{tb:List (Nat×Option Nat)}{M:List (Nat×Mem)}:∀{M':List (Nat×Mem)},znS tb M M'->∀k m,(k,m)∈M'->znR tb M k m
 |[],_,k,m,h=>by cases h
 |(k0,m0)::r,hM,k,m,h=>by
  cases h with
  |head=>exact hM.1
  |tail _ h=>exact zjP hM.2 k m h
def zmb{tb:List (Nat×Option Nat)}:∀{M:List (Nat×Mem)},zat tb M=true->M.Pairwise λa b=>a.1≠b.1
 |[],_=>.nil
 |(k,m)::r,h=>by
  simp only[zat,XA]at h;refine X8.2 ⟨λx hx e=>?_,zmb h.2⟩;have:=XR.1 h.1 x hx;have e:k=x.1:=e;simp[←e,K2]at this
def zjQ{tb:List (Nat×Option Nat)}:∀{M:List (Nat×Mem)},zat tb M=true->∀{k k' j:Nat} {m m':Mem},(k,m)∈M->(k',m')∈M->zba tb k=some (some j)->zba tb k'=some (some j)->k=k'
 |[],_,_,_,_,_,_,h,_,_,_=>by cases h
 |(q,n)::r,h,k,k',j,m,m',hk,hk',h1,h2=>by
  simp only[zat,XA]at h;have hall:=XR.1 h.1
  have no:∀x∈r,zba tb x.1=some (some j)->zba tb q=some (some j)->False:=λx hx e1 e2=>by
   have:=hall x hx;rw[e1,e2]at this;simp[zwY,K2]at this
  cases hk with
  |head=>cases hk' with
   |head=>rfl
   |tail _ hk'=>exact(no _ hk' h2 h1).elim
  |tail _ hk=>cases hk' with
   |head=>exact(no _ hk h1 h2).elim
   |tail _ hk'=>exact zjQ h.2 hk hk' h1 h2
def zpC{tb:List (Nat×Option Nat)}:∀{n:Nat},ze1 tb n=true->∀k,k<n->zba tb k=some (some k)
 |0,_,k,hk=>oM
 |n+1,h,k,hk=>by
  simp only[ze1]at h
  split at h
  ·rename_i j hj;simp only[XA]at h;have:=Xj h.1;subst this
   by_cases e:k=j
   ·subst e;exact hj
   exact zpC h.2 k oM
  cases h
def zjR:∀(cs cs':List SV),ren.rens tb cs=some cs'->cs'.length=cs.length/\∀(i:Nat) (s:SV),cs[i]?=some s->∃s',cs'[i]?=some s'/\ren tb s=some s':=by
  intro cs
  induction cs with
  |nil=>intro cs' h;simp only[ren.rens]at h;cases h;exact⟨rfl,λi s h=>by simp at h⟩
  |cons c cs ih=>
   intro cs' h;simp only[ren.rens]at h
   split at h
   ·rename_i c' cs'' hc hcs;cases h
    obtain⟨e1,e2⟩:=ih cs'' hcs;refine⟨by simp[e1],λi s hi=>?_⟩
    cases i with
    |zero=>simp at hi;subst hi;exact⟨c',rfl,hc⟩
    |succ i=>simpa using e2 i s (by simpa using hi)
   cases h
variable{L':List (Nat×SV)}{nk':Nat}
def qI(tb:List (Nat×Option Nat))(h1:ze0 tb nk'=true)(h2:ze1 tb σ.n0=true)(h3:zat tb M'=true)(hL:znQ tb σ.L L')(hM:znS tb σ.M M'):Sub σ ⟨L',M',nk',σ.nt,σ.n0⟩:=by
 intro E ρ a w hr;refine⟨names tb ρ,?_⟩
 have hnm:∀k v,names tb ρ k=some v->(∃j,zba tb k=some (some j)/\ρ j=some v)∨(zba tb k=some none/\v=.slice none 0 0):=by
  intro k v h;unfold names at h
  split at h
  ·exact .inl ⟨_,‹_›,h⟩
  ·cases h;exact .inr ⟨‹_›,rfl⟩
  cases h
 have hlook:∀k j m,(k,m)∈M'->zba tb k=some (some j)->∃m0,(j,m0)∈σ.M:=by
  intro k j m hk hj;have:=zjP hM k m hk;unfold znR at this;rw[hj]at this;simp only at this
  split at this
  ·split at this
   ·exact⟨_,zw this⟩
   exact this.elim
  ·obtain⟨xs',h,_⟩:=this;exact⟨_,zw h⟩
  exact⟨_,zw this⟩
 have hown:∀b,Own M' (names tb ρ) b->Own σ.M ρ b:=by
  rintro b ⟨k,m,v,hk,hv,hb⟩
  obtain⟨j,hj,hρ⟩|⟨_,rfl⟩:=hnm k v hv
  ·obtain⟨m0,hm0⟩:=hlook k j m hk hj;exact⟨j,m0,v,hm0,hρ,hb⟩
  cases hb
 have hg:∀s s' v,ren tb s=some s'->G (λb=>E.Keep b∨Own σ.M ρ b) (Own σ.M ρ) ρ w s' v->G (λb=>E.Keep b∨Own M' (names tb ρ) b) (Own M' (names tb ρ)) (names tb ρ) w s v:=λs s' v hs h=>
  ren_g s hs (h.mono (Xk _) (λb _ hb=>⟨λh=>hb (h.imp id (hown b)),rfl⟩) (λb _ hb=>⟨λh=>hb (hown b h),rfl⟩) (λ_ _ h=>h))
 refine⟨hr.size,hr.defers,λt s hl=>?_,⟨λk m hk=>?_,zmb h3,λk m k' m' v v' b hk hk' hne hv hv' hb=>?_,λb hb=>hr.mem.old b (hown b hb),hr.mem.kp,hr.mem.glO hown⟩,λk hk=>?_,?_,hr.keep,hr.low⟩
 ·obtain⟨s',hs',hl'⟩:=zma hL t s hl;exact⟨(hr.regs t s' hl').1,hg s s' _ hs' (hr.regs t s' hl').2⟩
 ·have hsm:=zjP hM k m hk;unfold znR at hsm
  split at hsm
  ·rename_i j hj;have hkj:names tb ρ k=ρ j:=by simp[names,hj]
   split at hsm
   ·rename_i T cs
    split at hsm
    ·rename_i cs' hcs;obtain⟨b,vs,g1,g2,g3,g4,g5⟩:=hr.mem.rel j _ (zw hsm);obtain⟨e1,e2⟩:=zjR cs cs' hcs;refine⟨b,vs,hkj.trans g1,g2,by rw[g3,e1],g4,λi s v hi hv=>?_⟩;obtain⟨s',hs',hren⟩:=e2 i s hi;exact hg s s' v hren (g5 i s' v hs' hv)
    exact hsm.elim
   ·rename_i T sz xs;obtain⟨xs',hlk,e1,e2⟩:=hsm;obtain⟨v,cells,g1,g2,g3,g4,g5,g6⟩:=hr.mem.rel j _ (zw hlk);refine⟨v,cells,hkj.trans g1,by rw[←e1];exact g2,by rw[←e1];exact g3,g4,λx hx=>?_,λi j x s hx hs=>?_⟩
    ·obtain⟨i,hi⟩:=Ym.1 hx;obtain⟨x',hx',hr'⟩:=e2 i x hi;rw[←(zjR x x' hr').1];exact g5 x' (Xf hx')
    obtain⟨x',hx',hr'⟩:=e2 i x hx;obtain⟨s',hs',hren⟩:=(zjR x x' hr').2 j s hs;obtain⟨u,hu,hd⟩:=g6 i j x' s' hx' hs';exact⟨u,hu,hg s s' u hren hd⟩
   rename_i hnb hnb2;have hmr:=hr.mem.rel j _ (zw hsm)
   cases m with
   |box T cs=>exact(hnb T cs rfl).elim
   |garr T sz xs=>exact(hnb2 T sz xs rfl).elim
   |map es=>
    obtain⟨r,ents,clock,g1,g2,g3,g4⟩:=hmr;refine⟨r,ents,clock,hkj.trans g1,g2,g3,λi n s hi=>?_⟩;obtain⟨e,e1,e2,e3⟩:=g4 i n s hi;exact⟨e,e1,e2,e3.less λb hb=>hb.imp id (hown b)⟩
   |arr T enc sz xs=>
    obtain⟨v,cells,g1,g2,g3,g4,g5,g6⟩:=hmr;refine⟨v,cells,hkj.trans g1,g2,g3,g4,g5,λi j x s hx hs=>?_⟩;obtain⟨u,hu,hd⟩:=g6 i j x s hx hs;exact⟨u,hu,hd.less λb hb=>hb.imp id (hown b)⟩
  ·rename_i hj
   split at hsm
   ·rename_i T α enc sz xs;have h0:=Xj hsm;have hx:xs=[]:=Xp h0;subst hx;exact⟨.slice none 0 0,[],by simp[names,hj],World.ownsRow_nil w 0 T sz,by simp,λu hu=>(by cases hu),λx hx=>(by cases hx),λi j x s hx=>(by simp at hx)⟩
   exact hsm.elim
  exact hsm.elim
 ·obtain⟨j,hj,hρ⟩|⟨_,rfl⟩:=hnm k v hv
  ·obtain⟨j',hj',hρ'⟩|⟨_,rfl⟩:=hnm k' v' hv'
   ·obtain⟨m0,hm0⟩:=hlook k j m hk hj;obtain⟨m0',hm0'⟩:=hlook k' j' m' hk' hj';refine hr.mem.apart j m0 j' m0' v v' b hm0 hm0' (λe=>hne ?_) hρ hρ' hb;subst e;exact zjQ h3 hk hk' hj hj'
   simp[qc]
  cases hb
 ·have:zba tb k=none:=by
   cases hq:zba tb k with
   |none=>rfl
   |some x=>have:=zAo h1 hq;have hk:nk'<=k:=hk;omega
  simp[names,this]
 have hs:=hr.stp;refine⟨hs.os,hs.tape,hs.output,hs.size,hs.block,λb hb=>hs.own b (hown b hb),λk v hk=>?_⟩;have:=zpC h2 k (hr.low k v hk);simp[names,this,hs.rho k v hk]
def jh(tb:List (Nat×Option Nat))(hL:znQ tb σ.L L')(hM:znS tb σ.M M')(h1:ze0 tb nk'=true:=by rfl)(h2:ze1 tb σ.n0=true:=by rfl)(h3:zat tb M'=true:=by rfl):Sub σ ⟨L',M',nk',σ.nt,σ.n0⟩:=qI tb h1 h2 h3 hL hM
def zdy(tb:List (Nat×Option Nat))(hM:znS tb σ.M M')(hL:znQ tb σ.L L':=by (repeat (refine⟨rfl,?_⟩));exact trivial)(h1:ze0 tb nk'=true:=by rfl)(h2:ze1 tb σ.n0=true:=by rfl)(h3:zat tb M'=true:=by rfl):Sub σ ⟨L',M',nk',σ.nt,σ.n0⟩:=qI tb h1 h2 h3 hL hM
def zC(tb:List (Nat×Option Nat))(hM:znS tb σ.M M':=by (repeat (refine⟨rfl,?_⟩));exact trivial)(hL:znQ tb σ.L L':=by (repeat (refine⟨rfl,?_⟩));exact trivial)(h1:ze0 tb nk'=true:=by rfl)(h2:ze1 tb σ.n0=true:=by rfl)(h3:zat tb M'=true:=by rfl):Sub σ ⟨L',M',nk',σ.nt,σ.n0⟩:=qI tb h1 h2 h3 hL hM
def Tb:Nat->List Nat->List (Nat×Option Nat)
 |_,[]=>[]
 |n,x::r=>(n,some x)::Tb (n+1) r
def zT(l:List Nat)(hL:znQ (Tb 0 l) σ.L L')(hM:znS (Tb 0 l) σ.M M')(h1:ze0 (Tb 0 l) nk'=true:=by rfl)(h2:ze1 (Tb 0 l) σ.n0=true:=by rfl)(h3:zat (Tb 0 l) M'=true:=by rfl):Sub σ ⟨L',M',nk',σ.nt,σ.n0⟩:=qI _ h1 h2 h3 hL hM
def zu(l:List Nat)(hM:znS (Tb 0 l) σ.M M')(hL:znQ (Tb 0 l) σ.L L':=by (repeat (refine⟨rfl,?_⟩));exact trivial)(h1:ze0 (Tb 0 l) nk'=true:=by rfl)(h2:ze1 (Tb 0 l) σ.n0=true:=by rfl)(h3:zat (Tb 0 l) M'=true:=by rfl):Sub σ ⟨L',M',nk',σ.nt,σ.n0⟩:=qI _ h1 h2 h3 hL hM
def zf(l:List Nat)(hM:znS (Tb 0 l) σ.M M':=by (repeat (refine⟨rfl,?_⟩));exact trivial)(hL:znQ (Tb 0 l) σ.L L':=by (repeat (refine⟨rfl,?_⟩));exact trivial)(h1:ze0 (Tb 0 l) nk'=true:=by rfl)(h2:ze1 (Tb 0 l) σ.n0=true:=by rfl)(h3:zat (Tb 0 l) M'=true:=by rfl):Sub σ ⟨L',M',nk',σ.nt,σ.n0⟩:=qI _ h1 h2 h3 hL hM
def jP{σ:St}{t:Nat}{s s':SV}(hl:kK σ.L t=some s)(h:∀S Pm ρ w v,G S Pm ρ w s v->G S Pm ρ w s' v):Sub σ (σ.put (some t) s'):=λ_ ρ _ _ hr=>⟨ρ,hr.refine hl h⟩
def Sub.trans{σ' σ'':St}(h:Sub σ σ')(k:Sub σ' σ''):Sub σ σ'':=λE ρ a w hr=>by
 obtain⟨ρ',h1⟩:=h E ρ a w hr;exact k E ρ' a w h1
def zcD{σ:St}(k k0:Nat){T T0:TypeId}{α:Type}{enc:α->List SV}{sz sz0:Nat}{ys:List α}{xs xs':List (List SV)}(hk:zS σ.M k=some (.arr T enc sz ys))(h0:zS σ.M k0=some (.garr T0 sz0 xs))(hl:xs'.length=xs.length)(hz:∀x∈xs',x.length=sz0)(hx:∀(i j:Nat) x' s',xs'[i]?=some x'->x'[j]?=some s'->∃x s,xs[i]?=some x/\x[j]?=some s/\(s'=s∨(s=.own k/\s'=.sl enc ys))):
  Sub σ ⟨σ.L,qH (qg σ.M k) k0 (.garr T0 sz0 xs'),σ.nk,σ.nt,σ.n0⟩:=by
 intro E ρ a w hr;refine⟨ρ,?_⟩;have hmem:=zw hk;have hsub:∀x∈qg σ.M k,x∈σ.M:=λx hx=>qC x hx
 have hpd:=jg (k:=k) hr.mem.keys;have hkeys:(qH (qg σ.M k) k0 (.garr T0 sz0 xs')).map (·.1)=(qg σ.M k).map (·.1):=zaP;have hown:∀b,Own (qH (qg σ.M k) k0 (.garr T0 sz0 xs')) ρ b->Own (qg σ.M k) ρ b:=λb hb=>zaa hkeys.symm hb
 have hown2:∀b,Own (qg σ.M k) ρ b->Own σ.M ρ b:=λb ⟨k',m,v,h1,h2,h3⟩=>⟨k',m,v,hsub _ h1,h2,h3⟩
 have hg:∀s v,G (λb=>E.Keep b∨Own σ.M ρ b) (Own σ.M ρ) ρ w s v->
   G (λb=>E.Keep b∨Own (qH (qg σ.M k) k0 (.garr T0 sz0 xs')) ρ b) (Own (qH (qg σ.M k) k0 (.garr T0 sz0 xs')) ρ) ρ w s v:=λs v h=>
  h.mono (Xk _) (λb _ hb=>⟨λh=>hb (h.imp id λh=>hown2 b (hown b h)),rfl⟩) (λb _ hb=>⟨λh=>hb (hown2 b (hown b h)),rfl⟩) (λ_ _ h=>h)
 have hs:Stp (Own σ.M ρ) (Own (qH (qg σ.M k) k0 (.garr T0 sz0 xs')) ρ) ρ ρ w w:=
  ⟨rfl,rfl,.refl _,Xk _,λ_ _ _=>rfl,λb hb=>.inl (hown2 b (hown b hb)),λ_ _ h=>h⟩
 have hd:∀v,ρ k=some v->D (λb=>E.Keep b∨Own (qH (qg σ.M k) k0 (.garr T0 sz0 xs')) ρ b) w (.sl enc ys) v:=λv hv=>
  zjs hr.mem hmem (λb hb=>hb.imp id λh=>hown2 b (hown b h)) (λv' b hv' hb hSb=>by
   rcases hSb with hSb|hSb
   ·exact(hr.mem.old b ⟨k,_,v',hmem,hv',hb⟩).2 hSb
   obtain⟨k',m',v1,h4,h5,h6⟩:=hown b hSb
   exact hr.mem.apart k _ k' m' v' v1 b hmem (hsub _ h4) (Ne.symm (v9 hr.mem.keys _ h4)) hv' h5 hb h6) hv
 refine⟨hr.size,hr.defers,λt s hl=>⟨(hr.regs t s hl).1,hg s _ (hr.regs t s hl).2⟩,⟨λk1 m1 h1=>?_,yL hkeys hpd,λk1 m1 k2 m2 v1 v2 b h1 h2=>?_,λb hb=>hr.mem.old b (hown2 b (hown b hb)),hr.mem.kp,hr.mem.glO λb hb=>hown2 b (hown b hb)⟩,
  hr.fresh,hr.stp.trans hs,hr.keep,hr.low⟩
 ·obtain⟨_,h2⟩|h2:=jJ hpd _ h1
  ·exact(hr.mem.rel k1 m1 (hsub _ h2)).keep hs rfl (λ_ _ _ _=>rfl)
  cases h2
  obtain⟨v,cells,g1,g2,g3,g4,g5,g6⟩:=hr.mem.rel k0 _ (zw h0);refine⟨v,cells,g1,by rw[hl];exact g2,by rw[hl];exact g3,g4,hz,λi j x' s' hx' hs'=>?_⟩;obtain⟨x,s,e1,e2,e3⟩:=hx i j x' s' hx' hs';obtain⟨u,hu,hgu⟩:=g6 i j x s e1 e2;refine⟨u,hu,?_⟩
  rcases e3 with rfl|⟨rfl,rfl⟩
  ·exact hg _ _ hgu
  exact .d _ _ (hd u hgu.own_inv.1)
 have back:∀k1 m1,(k1,m1)∈qH (qg σ.M k) k0 (.garr T0 sz0 xs')->∃m',(k1,m')∈σ.M:=λk1 m1 h=>by
  obtain⟨_,h2⟩|h2:=jJ hpd _ h
  ·exact⟨m1,hsub _ h2⟩
  cases h2;exact⟨_,zw h0⟩
 obtain⟨m1',h1'⟩:=back _ _ h1;obtain⟨m2',h2'⟩:=back _ _ h2;exact hr.mem.apart k1 m1' k2 m2' v1 v2 b h1' h2'
variable{α:Type}
def zgg(k0:Nat){T0:TypeId}(enc:α->List SV){sz0:Nat}(ys:List α)(h0:zS σ.M k0=some (.garr T0 sz0 (ys.map enc)))(hf:∀x∈ys,j9.flats (enc x)=true):
  Sub σ ⟨σ.L,qH σ.M k0 (.arr T0 enc sz0 ys),σ.nk,σ.nt,σ.n0⟩:=by
 intro E ρ a w hr;refine⟨ρ,?_⟩;have hkeys:(qH σ.M k0 (.arr T0 enc sz0 ys)).map (·.1)=σ.M.map (·.1):=zaP;have hown:∀b,Own (qH σ.M k0 (.arr T0 enc sz0 ys)) ρ b->Own σ.M ρ b:=λb hb=>zaa hkeys.symm hb
 have hg:∀s v,G (λb=>E.Keep b∨Own σ.M ρ b) (Own σ.M ρ) ρ w s v->
   G (λb=>E.Keep b∨Own (qH σ.M k0 (.arr T0 enc sz0 ys)) ρ b) (Own (qH σ.M k0 (.arr T0 enc sz0 ys)) ρ) ρ w s v:=λs v h=>
  h.mono (Xk _) (λb _ hb=>⟨λh=>hb (h.imp id (hown b)),rfl⟩) (λb _ hb=>⟨λh=>hb (hown b h),rfl⟩) (λ_ _ h=>h)
 have hs:Stp (Own σ.M ρ) (Own (qH σ.M k0 (.arr T0 enc sz0 ys)) ρ) ρ ρ w w:=
  ⟨rfl,rfl,.refl _,Xk _,λ_ _ _=>rfl,λb hb=>.inl (hown b hb),λ_ _ h=>h⟩
 have back:∀k1 m1,(k1,m1)∈qH σ.M k0 (.arr T0 enc sz0 ys)->∃m',(k1,m')∈σ.M:=λk1 m1 h=>by
  obtain⟨_,h2⟩|h2:=jJ hr.mem.keys _ h
  ·exact⟨m1,h2⟩
  cases h2;exact⟨_,zw h0⟩
 refine⟨hr.size,hr.defers,λt s hl=>⟨(hr.regs t s hl).1,hg s _ (hr.regs t s hl).2⟩,⟨λk1 m1 h1=>?_,yL hkeys hr.mem.keys,λk1 m1 k2 m2 v1 v2 b h1 h2=>?_,λb hb=>hr.mem.old b (hown b hb),hr.mem.kp,hr.mem.glO hown⟩,
  hr.fresh,hr.stp.trans hs,hr.keep,hr.low⟩
 ·obtain⟨_,h2⟩|h2:=jJ hr.mem.keys _ h1
  ·exact(hr.mem.rel k1 m1 h2).keep hs rfl (λ_ _ _ _=>rfl)
  cases h2
  obtain⟨v,cells,g1,g2,g3,g4,g5,g6⟩:=hr.mem.rel k0 _ (zw h0);rw[Xx]at g2 g3;refine⟨v,cells,g1,g2,g3,g4,λx hx=>g5 _ (XP.2 ⟨x,hx,rfl⟩),λi j x s hx hs'=>?_⟩;obtain⟨u,hu,hgu⟩:=g6 i j (enc x) s (by rw[XD,hx];rfl) hs';exact⟨u,hu,y8 (yM (hf x (Xf hx)) j s hs') (hg _ _ hgu)⟩
 obtain⟨m1',h1'⟩:=back _ _ h1;obtain⟨m2',h2'⟩:=back _ _ h2;exact hr.mem.apart k1 m1' k2 m2' v1 v2 b h1' h2'
abbrev i64(n:Int):SV:=.val (.int .i64 n)
abbrev u8(n:Int):SV:=.val (.int .u8 n)
abbrev bl(b:Bool):SV:=.val (.bool b)
abbrev pr(p:Prop)[i:Decidable p]:SV:=.pr p i
abbrev R64(n:Int):Prop:= -9223372036854775808<=n/\n<=9223372036854775807
def LE.refl{s:SV}:LE s s:=λ_ _ _ _ _ h=>h
def ub{s:SV}(h:s=r):LE s r:=h ▸ .refl
def ze{k:IntKind}{m n:Int}(h:m=n):LE (.val (.int k m)) (.val (.int k n)):=by subst h;exact .refl
def zE{p q:Prop}{i:Decidable p}{j:Decidable q}(h:p↔q):LE (.pr p i) (.pr q j):=λS Pm ρ w v hg=>by
 rw[hg.pr_inv]
 have:@decide p i=@decide q j:=by
  by_cases hp:p
  ·simp[hp,h.1 hp]
  have hq:¬q:=λhq=>hp (h.2 hq)
  simp[hp,hq]
 rw[this];exact .d _ _ (.pr q j)
variable{q:Prop}{j:Decidable q}
def zI(h:q):LE (.val (.bool true)) (.pr q j):=λS Pm ρ w v hg=>by
 rw[hg.val_inv];have:=G.d (S:=S) (Pm:=Pm) (ρ:=ρ) (w:=w) _ _ (.pr q j)
 simpa[h] using this
def zd(h:¬q):LE (.val (.bool false)) (.pr q j):=λS Pm ρ w v hg=>by
 rw[hg.val_inv];have:=G.d (S:=S) (Pm:=Pm) (ρ:=ρ) (w:=w) _ _ (.pr q j)
 simpa[h] using this
def ztl{v:Value}(h:ifB v=true):LE (.val v) (.op v):=λS Pm ρ w u hg=>by
 rw[hg.val_inv];exact .d _ _ (.op v h)
variable{p:Prop}{i:Decidable p}
def zwZ(h:p):LE (.pr p i) (.val (.bool true)):=λS Pm ρ w v hg=>by
 rw[hg.pr_inv];simp only[h,decide_true];exact .d _ _ (.val _)
variable{b:Bool}
def ztm(h:p↔b=true):LE (.pr p i) (.val (.bool b)):=λS Pm ρ w v hg=>by
 rw[hg.pr_inv];have:@decide p i=b:=by cases b <;> simp at h ⊢ <;> exact h
 rw[this];exact .d _ _ (.val _)
def ztn{j:Decidable (b=true)}:LE (.val (.bool b)) (.pr (b=true) j):=λS Pm ρ w v hg=>by
 rw[hg.val_inv];have:=G.d (S:=S) (Pm:=Pm) (ρ:=ρ) (w:=w) _ _ (.pr (b=true) j)
 cases b <;> simpa using this
variable{xs:List α}{ys:List α}
def z0{enc:α->List SV}(h:xs=ys):LE (.sl enc xs) (.sl enc ys):=by subst h;exact .refl
def zto{enc:α->List SV}(h:xs=ys):LE (.full enc xs) (.full enc ys):=by subst h;exact .refl
def zcE{enc:α->List SV}(h:xs=ys):LE (.full enc xs) (.sl enc ys):=λS Pm ρ w v hg=>by
 subst h;obtain⟨a,rfl,hd⟩:=hg.full_inv;exact .d _ _ hd
def zD{enc:α->List SV}:LE (.val (.slice none 0 0)) (.sl enc []):=λS Pm ρ w v hg=>by
 rw[hg.val_inv];exact .d _ _ (.nil enc none)
def LEs.gs{za bs:List SV}(h:LEs za bs){S Pm:Nat->Prop}{ρ:zi}{w:World}:∀{vs:List Value},Gs S Pm ρ w za vs->Gs S Pm ρ w bs vs:=by
 induction h with
 |nil=>intro vs h;exact h
 |cons h t ih=>
  intro vs hg;obtain⟨v,vs',rfl,h1,h2⟩:=hg.cons_inv;exact .cons (h _ _ _ _ _ h1) (ih h2)
variable{za:List SV}{bs:List SV}
def ji(h:LEs za bs):LE (.agg za) (.agg bs):=λS Pm ρ w v hg=>by
 obtain⟨vs,rfl,hvs⟩:=hg.agg_inv;have:=h.gs hvs;exact .agg _ vs this.1 this.2
def zbP(h:LEs za bs):LE (.tup za) (.tup bs):=λS Pm ρ w v hg=>by
 obtain⟨vs,rfl,hvs⟩:=hg.tup_inv;have:=h.gs hvs;exact .tup _ vs this.1 this.2
variable{a:SV}
def zM{b c d:SV}(h1:LE a c)(h2:LE b d):LE (.tup [a,b]) (.tup [c,d]):=zbP (.cons h1 (.cons h2 .nil))
def LE.trans{b c:SV}(h:LE a b)(k:LE b c):LE a c:=λ_ _ _ _ _ g=>k _ _ _ _ _ (h _ _ _ _ _ g)
def qx.le{args:List SV}(h:qx P f args M r M')(hle:LE r r'):qx P f args M r' M':=
 ⟨h.1,λKeep ρ w vs hk hm hρ hg=>(h.2 Keep ρ w vs hk hm hρ hg).mono λ_ _ ⟨v,ρ',e,h1,h2,h3⟩=>⟨v,ρ',e,h1,h2,hle _ _ _ _ _ h3⟩⟩
def qx.args{P:Program}{f:FuncId}{args args':List SV}{M M':List (Nat×Mem)}{r:SV}(h:qx P f args' M r M')(hle:LEs args args'):qx P f args M r M':=
 ⟨h.1,λKeep ρ w vs hk hm hρ hg=>h.2 Keep ρ w vs hk hm hρ (hle.gs hg)⟩
def LEs.refl:∀{za:List SV},LEs za za
 |[]=>.nil
 |_::_=>.cons .refl .refl
def LEs.C{us:List SV}(t:LEs us bs):LEs (a::us) (a::bs):=.cons .refl t
inductive ze2 (k:Option Nat):List SV->List SV->Prop
 |nil:ze2 k [] []
 |cons {a b:SV} {za bs:List SV} (h:za3 k a b) (t:ze2 k za bs):ze2 k (a::za) (b::bs)
def ze2.ix{k:Option Nat}(h:ze2 k za bs):za.length=bs.length/\∀(j:Nat) (s r:SV),za[j]?=some s->bs[j]?=some r->za3 k s r:=by
 induction h with
 |nil=>exact⟨rfl,λj s r h=>by simp at h⟩
 |cons h t ih=>
  refine⟨by simp[ih.1],λj s r hs hr=>?_⟩
  cases j with
  |zero=>simp at hs hr;subst hs;subst hr;exact h
  |succ j=>exact ih.2 j s r (by simpa using hs) (by simpa using hr)
def zw0{k:Option Nat}(h:ze2 k za bs):za3 k (.agg za) (.agg bs):=.agg _ _ h.ix.1 h.ix.2
def zjS{k:Option Nat}(h:ze2 k za bs):za3 k (.tup za) (.tup bs):=.tup _ _ h.ix.1 h.ix.2
def zAp{k:Option Nat}(h:ze2 k za bs):za3 k (.fn f za) (.fn f bs):=.fn _ _ _ h.ix.1 h.ix.2
def zbb{k:Option Nat}{q:IntKind}{m n:Int}(h:m=n):za3 k (.val (.int q m)) (.val (.int q n)):=.le _ _ (ze h) rfl
def tdm{m n:Int}(h:0<n):(0<=m.tmod n/\m.tmod n<n/\m.tmod n=m%n/\m.tdiv n=m/n/\(m<0->m%n=0))∨
  (m<0/\m.tmod n<0/\ -n<m.tmod n/\m.tmod n+n=m%n/\m.tdiv n-1=m/n):=by
 have h1:=Yj m n;have h2:=JL m h
 have uniq:∀q r:Int,n*q+r=m->0<=r->r<n->r=m%n/\q=m/n:=λq r e hr hl=>by
  have:=(Qf (a:=m) (b:=n) (q:=q) (r:=r) h).2 ⟨oM,hr,hl⟩;exact⟨this.2.symm,this.1.symm⟩
 by_cases hm:0<=m
 ·have h3:=Int.tmod_nonneg n hm;obtain⟨h4,h5⟩:=uniq _ _ h1 h3 h2;exact .inl ⟨h3,h2,h4,h5,λh=>by omega⟩
 have h3: -n<m.tmod n:=by
  have:=JL (-m) h;rw[Int.neg_tmod]at this;omega
 have h6:m.tmod n<=0:=by
  have:=Int.tmod_nonneg n (show 0<= -m by omega);rw[Int.neg_tmod]at this;omega
 by_cases h0:m.tmod n=0
 ·obtain⟨h4,h5⟩:=uniq _ _ h1 oM h2;exact .inl ⟨oM,h2,h4,h5,λ_=>by omega⟩
 obtain⟨h4,h5⟩:=uniq (m.tdiv n-1) (m.tmod n+n) (by rw[Int.mul_sub];omega) oM oM;exact .inr ⟨oM,oM,h3,h4,h5⟩
def tm2(q:Int):q.tmod 2=0↔q%2=0:=by
 rcases tdm (m:=q) (n:=2) oM with h|h <;> omega
def zjT{m n:Int}(h:0<n)(hm:R64 m):R64 (m.tdiv n)/\(n≠1-> -4611686018427387904<=m.tdiv n):=by
 have h1:=Yj m n;have h2:=JL m h
 have h3: -n<m.tmod n:=by
  rcases tdm (m:=m) h with h3|h3 <;> omega
 generalize m.tdiv n=q at*;generalize m.tmod n=r at*;refine⟨⟨?_,?_⟩,λhn=>?_⟩
 ·rcases QB q 0 with hq|hq
  ·have:n*q<=1*q:=Qc oM oM
   by_cases e:n=1
   ·subst e;omega
   have:n*q<=2*q:=Qc oM oM;have h5:n*(q+1)=n*q+n:=by rw[Jb];omega
   have h6:n*(q+1)<=2*(q+1):=by
    rcases QB (q+1) 1 with h|h
    ·exact Qc oM oM
    omega
   omega
  omega
 ·rcases QB 0 q with hq|hq
  ·have h5:n*(q-1)=n*q-n:=by rw[Int.mul_sub];omega
   have h6:1*(q-1)<=n*(q-1):=Int.mul_le_mul_of_nonneg_right oM oM;omega
  omega
 rcases QB q 0 with hq|hq
 ·have h5:n*(q+1)=n*q+n:=by rw[Jb];omega
  have h6:n*(q+1)<=2*(q+1):=Qc oM oM;omega
 omega
end Go.Gs
