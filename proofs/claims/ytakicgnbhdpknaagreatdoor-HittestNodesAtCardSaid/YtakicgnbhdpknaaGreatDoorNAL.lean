/- A piece of code: what is left to be shown is enough. -/
import Derived.Test.YtakicgnbhdpknaaGreatDoorNAK
import Derived.Deep.LoopGhost
import Derived.Scope
set_option maxRecDepth 100000
set_option maxHeartbeats 8000000
set_option linter.all false
namespace Go.Gs
def uS(E:Env)(Q:LH):LF
 |.normal,a,w=>∃σ ρ,Q .normal σ/\Rel E σ ρ a w
 |.exit id,a,w=>∃σ ρ,Q (.exit id) σ/\Rel E σ ρ a w
 |.ret,a,w=>∃σ ρ,Q .ret σ/\Rel E σ ρ a w
 |_,_,_=>False
def k9{P:Program}{Γ:LS}(hT:TOK P Γ)(hm:P.follows .mixedOrders=true){E:Env}:∀(c:Code) {σ:St} {Q:LH} {ρ:zh} {a:Act} {w:World},
  Rel E σ ρ a w->jI P Γ c σ Q->c.wp P (uS E Q) a w
 |.skip,σ,Q,ρ,a,w,hr,h=>wp_skip ⟨σ,ρ,h,hr⟩
 |.region id ops draw,σ,Q,ρ,a,w,hr,h=>by
  cases draw with
  |false=>
   have h:u4 P Γ false ops.toList ops.toList 0 σ (Q .normal):=h;refine wp_region_list ?_;have:=ziW (Q:=uS E Q) hT (λσ ρ a w h hr=>⟨σ,ρ,h,hr⟩) hr h
   simpa using this
  |true=>
   have h:Dr (vi ops.toList=true) (u4 P Γ true ops.toList ops.toList 0 σ (Q .normal)) (Ob (zfr ops.toList=true) (za2 P Γ ops.toList ops.toList 0 [] σ (Q .normal))):=h
   obtain⟨h1,h2⟩|⟨h1,h2⟩:=h
   ·exact zrY hT hm hr h1 h2 λσ ρ a w h hr=>⟨σ,ρ,h,hr⟩
   exact zpx hT hm hr h1 h2 λσ ρ a w h hr=>⟨σ,ρ,h,hr⟩
 |.seq x y,σ,Q,ρ,a,w,hr,h=>by
  refine wp_seq (Code.wp_mono (λe a' w' hq=>?_) (k9 hT hm x hr h))
  cases e with
  |normal=>obtain⟨σ',ρ',h',hr'⟩:=hq;exact k9 hT hm y hr' h'
  |exit id=>exact hq
  |ret=>exact hq
  |_=>exact hq.elim
 |.cond c x y,σ,Q,ρ,a,w,hr,h=>by
  obtain⟨s,h,hs⟩:=zcy h;have hg:=hs (a:=a) (λt s _ hl=>(hr.regs t s hl).2)
  split at h
  ·exact wp_cond_true hg.val_inv (k9 hT hm x hr h)
  ·exact wp_cond_false hg.val_inv (k9 hT hm y hr h)
  ·rename_i p i
   by_cases hp:p
   ·exact wp_cond_true (by rw[hg.pr_inv];simp[hp]) (k9 hT hm x hr (h.yes hp))
   exact wp_cond_false (by rw[hg.pr_inv];simp[hp]) (k9 hT hm y hr (h.no hp))
  ·obtain⟨b,hb⟩:=hg.anyb_inv
   cases b with
   |true=>exact wp_cond_true hb (k9 hT hm x hr h.yes)
   |false=>exact wp_cond_false hb (k9 hT hm y hr h.no)
  exact h.elim
 |.block id c,σ,Q,ρ,a,w,hr,h=>by
  refine wp_block (Code.wp_mono (λe a' w' hq=>?_) (k9 hT hm c hr h))
  cases e with
  |normal=>exact hq
  |exit j=>
   obtain⟨σ',ρ',h',hr'⟩:=hq;dsimp only at h';show(if j=id then uS E Q .normal a' w' else uS E Q (.exit j) a' w')
   split at h'
   ·rename_i hb;rw[Xe (Xj hb)];exact⟨σ',ρ',h',hr'⟩
   rename_i hb;rw[Xc (KF hb)];exact⟨σ',ρ',h',hr'⟩
  |ret=>exact hq
  |_=>exact hq.elim
 |.loop c,σ,Q,ρ,a,w,hr,h=>by
  obtain⟨ι,S,I,μ,x0,h0,hsub,hround⟩:=h;obtain⟨ρ0,hr0⟩:=hsub E ρ a w hr;refine wp_loop_ghost (λn a w=>∃x ρ,I x/\μ x=n/\Rel E (S x) ρ a w) (μ x0) ⟨x0,ρ0,h0,rfl,hr0⟩ λn a w hI=>?_
  obtain⟨x,ρ1,h1,rfl,hr1⟩:=hI;refine Code.wp_mono (λe a' w' hq=>?_) (k9 hT hm c hr1 (hround x h1))
  cases e with
  |normal=>
   obtain⟨σ',ρ',⟨x',h2,hs2,hlt⟩,hr'⟩:=hq;obtain⟨ρ2,hr2⟩:=hs2 E ρ' a' w' hr';exact⟨μ x',hlt,x',ρ2,h2,rfl,hr2⟩
  |exit id=>exact hq
  |ret=>exact hq
  |_=>exact hq.elim
 |.exit id,σ,Q,ρ,a,w,hr,h=>wp_exit ⟨σ,ρ,h,hr⟩
 |.ret,σ,Q,ρ,a,w,hr,h=>wp_ret ⟨σ,ρ,h,hr⟩
 |.rangeFunc _ _ _ _,_,_,_,_,_,_,h=>by cases h
 |.scope c,σ,Q,ρ,a,w,hr,h=>by
  refine wp_scope_straight (Code.wp_mono (λe a' w' hq=>?_) (k9 hT hm c hr h))
  cases e with
  |normal=>exact hq
  |exit j=>exact hq
  |ret=>exact hq
  |_=>exact hq.elim
 |.label _,σ,Q,ρ,a,w,hr,h=>wp_label ⟨σ,ρ,h,hr⟩
 |.goto _,_,_,_,_,_,_,h=>by cases h
 |.refuse _,_,_,_,_,_,_,h=>by cases h
variable{P:Program}{Γ:LS}{σ:St}{K:SV->Prop}
def zpy(hT:TOK P Γ){x:ResultVar}(h:zrL σ Γ x K):∃s,K s/\∀{E:Env} {ρ:zh} {a:Act} {w:World},Rel E σ ρ a w->
  ∃v,((match x with|.tmp t=>pure (a.tmps.getD t undef)|.cell ad t=>do loadVar t (←asAddr (a.tmps.getD ad undef)):Sem Value)).run P w=.ok v w/\G (λb=>E.Keep b∨Own σ.M ρ b) (Own σ.M ρ) ρ w s v:=by
 unfold zrL at h
 split at h
 ·split at h
  ·rename_i s hs;exact⟨s,qL h,λhr=>⟨_,rfl,(hr.regs _ s hs).2⟩⟩
  exact h.elim
 rename_i ad t;replace h:=zD h;obtain⟨i,hi,h⟩:=h
 split at h
 ·rename_i k off hl
  split at h
  ·rename_i T cs hlk;replace h:=zj h;obtain⟨hle,h⟩:=h;replace h:=vj h;obtain⟨s,hK,h⟩:=h;have hle:=Xz hle;refine⟨s,hK,λ{E ρ a w} hr=>?_⟩;obtain⟨b,vs,hρ,hheap,hlen,_,hcells⟩:=hr.mem.rel k _ (zA hlk);obtain⟨b',hρ',hx⟩:=(hr.regs ad _ hl).2.loc_inv;rw[hρ]at hρ';cases hρ'
   have hg:Gs (λb=>E.Keep b∨Own σ.M ρ b) (Own σ.M ρ) ρ w (cs.drop off) (vs.drop off):=Gs.drop off ⟨hlen,hcells⟩;obtain⟨v,h1,h2⟩:=zbU (hT t i hi) (b:=b) (o:=off) hg (λj v hv=>by rw[zf2 hheap];simpa using hv) (by simp;omega) h;exact⟨v,by simp only[hx,asAddr,Sem.run_bind,Sem.run_pure,Result.andThen_ok,h1],h2⟩
  exact h.elim
 exact h.elim
def zii{P:Program}{Γ:LS}(hT:TOK P Γ){σ:St}:∀{xs:List ResultVar} {K:LR->Prop},zwQ σ Γ xs K->∃l,K l/\∀{E:Env} {ρ:zh} {a:Act} {w:World},Rel E σ ρ a w->
  ∃vs,(xs.mapM λx=>(match x with|.tmp t=>pure (a.tmps.getD t undef)|.cell ad t=>do loadVar t (←asAddr (a.tmps.getD ad undef)):Sem Value)).run P w=.ok vs w/\Gs (λb=>E.Keep b∨Own σ.M ρ b) (Own σ.M ρ) ρ w l vs
 |[],K,h=>⟨[],h,λ_=>⟨[],rfl,.nil⟩⟩
 |x::xs,K,h=>by
  obtain⟨s,h,h1⟩:=zpy hT h;obtain⟨l,h,h2⟩:=zii hT h;refine⟨s::l,h,λ{E ρ a w} hr=>?_⟩;obtain⟨v,g1,g2⟩:=h1 hr;obtain⟨vs,g3,g4⟩:=h2 hr;exact⟨v::vs,by rw[List.mapM_cons,Sem.run_bind,g1,Result.andThen_ok,Sem.run_bind,g3,Result.andThen_ok,Sem.run_pure],.cons g2 g4⟩
variable{fn:Func}
def yk(hT:TOK P Γ)(h:zbS σ Γ fn.results.toList K):∃s,K s/\∀{E:Env} {ρ:zh} {a:Act} {w:World},Rel E σ ρ a w->
  ∃v,(results fn a.tmps).run P w=.ok v w/\G (λb=>E.Keep b∨Own σ.M ρ b) (Own σ.M ρ) ρ w s v:=by
 unfold zbS at h;obtain⟨l,h,h1⟩:=zii hT h
 have run:∀{a:Act} {w:World} {vs:LA},(fn.results.toList.mapM λx=>(match x with|.tmp t=>pure (a.tmps.getD t undef)|.cell ad t=>do loadVar t (←asAddr (a.tmps.getD ad undef)):Sem Value)).run P w=.ok vs w->
   (results fn a.tmps).run P w=.ok (if h:vs.toArray.size=1 then vs.toArray[0] else .tuple vs.toArray) w:=by
  intro a w vs hv
  have e:(fn.results.mapM λx=>(match x with|.tmp t=>pure (a.tmps.getD t undef)|.cell ad t=>do loadVar t (←asAddr (a.tmps.getD ad undef)):Sem Value)).run P w=.ok vs.toArray w:=by
   rw[Array.mapM_eq_mapM_toList,Sem.run_map,hv];rfl
  unfold results;rw[Sem.run_bind]
  erw [e]
  rfl
 split at h
 ·rename_i s;refine⟨s,h,λ{E ρ a w} hr=>?_⟩;obtain⟨vs,g1,g2⟩:=h1 hr;obtain⟨v,vs',rfl,g3,g4⟩:=g2.cons_inv;rw[g4.nil_inv]at g1;exact⟨v,by rw[run g1];rfl,g3⟩
 rename_i hne;refine⟨_,h,λ{E ρ a w} hr=>?_⟩;obtain⟨vs,g1,g2⟩:=h1 hr;refine⟨.tuple vs.toArray,?_,.tup _ vs g2.1 g2.2⟩;rw[run g1]
 have hl:¬vs.toArray.size=1:=by
  intro e;have:l.length=1:=by rw[←g2.1];simpa using e
  match l,this with
  |[s],_=>exact hne s rfl
 rw[dif_neg hl]
def zij:∀(l:LR) (n t:Nat),kK (jJ n l) t=if n<=t then l[t-n]? else none
 |[],n,t=>by simp[jJ,kK]
 |s::l,n,t=>by
  simp only[jJ,kq,zij l (n+1) t]
  by_cases h:n=t
  ·subst h;simp
  rw[Xc h]
  by_cases h2:n<=t
  ·rw[Xe oM,Xe h2,show t-n=(t-(n+1))+1 by omega,KL]
  rw[Xc oM,Xc h2]
variable{M:LT}{ρ:zh}{S':LI}{Pm':LI}{ρ':zh}
def znR{lm:LJ}{Keep:LI}{w:World}(hlm:∀k m,lm k=some m->(k,m)∈M)(hm:zL Keep M ρ w)(hsub:∀b,S' b->Keep b∨Own M ρ b){s:SV}{v:Value}(hg:G (λb=>Keep b∨Own M ρ b) (Own M ρ) ρ w s v)(hc:∀b,Own M ρ b->¬S' b)(hP:∀b,¬Pm' b):
  G S' Pm' ρ' w (zlZ lm s) v:=by
 unfold zlZ
 split
 ·rename_i cs;obtain⟨vs,rfl,hvs⟩:=hg.tup_inv;have h:=zjz (S':=S') (Pm':=Pm') (ρ':=ρ') hlm hm hsub (λb _=>hP b) (λ_ _ b _ _=>hP b) hvs (.inr hc);exact .tup _ vs h.1 h.2
 exact znM hlm hm hsub hg (.inr hc) (λb _=>hP b) (λ_ _ b _ _=>hP b)
def vK{Keep:LI}{M:LT}{ρ:zh}{w:World}{args:LR}{vs:LA}{nt:Nat}(hm:zL Keep M ρ w)(hρ:∀k,M.length<=k->ρ k=none)(hg:Gs (λb=>Keep b∨Own M ρ b) (Own M ρ) ρ w args vs)(hle:args.length<=nt):
  Rel ⟨w,ρ,Keep,Own M ρ,[]⟩ ⟨jJ 0 args,M,M.length,nt,M.length⟩ ρ { tmps:=vs.toArray++Array.replicate (nt-vs.toArray.size) undef,defers:=[] } w:=by
 have hl:=hg.1;refine⟨by simp;omega,rfl,λt s h=>?_,hm,hρ,.refl,hm.kp,λk v h=>?_⟩;rotate_left
 ·rcases Qe k M.length with h1|h1
  ·exact h1
  have h:ρ k=some v:=h;rw[hρ k h1]at h;cases h
 have h:kK (jJ 0 args) t=some s:=h;rw[zij]at h;simp only[Xh,if_true,YB]at h;have hlt:=(Xd.1 h).1;refine⟨show t<nt by omega,hg.2 t s _ h ?_⟩;have:t<vs.length:=oM
 have e:(vs.toArray++Array.replicate (nt-vs.toArray.size) undef)[t]?=some vs[t]:=by
  rw[Array.getElem?_append_left (by simpa using this)];simp[this]
 rw[Xb this,X7,e];rfl
def Sub.refl{σ:St}:Sub σ σ:=λ_ ρ _ _ hr=>⟨ρ,hr⟩
variable{f:FuncId}{c:Code}{Q:LH}{r:SV}{M':LT}
def zaS(hT:TOK P Γ)(hm:P.follows .mixedOrders=true){args:LR}(hf:P.funcs[f]?=some fn)(hb:fn.body=some c)(hn:(fn.name== "runtime.NumGoroutine")=false) (hle:Nat.ble args.length fn.ntmps=true)
  (h:jI P Γ c ⟨jJ 0 args,M,M.length,fn.ntmps,M.length⟩ Q){Q':LH} (hS:∀e σ,Q e σ->∃σ',Sub σ σ'/\Q' e σ')
  (hQ:∀e σ,Q' e σ->(∀id,e≠.exit id)->∃s,(∀{E:Env} {ρ:zh} {a:Act} {w:World},Rel E σ ρ a w->∃v,(results fn a.tmps).run P w=.ok v w/\G (λb=>E.Keep b∨Own σ.M ρ b) (Own σ.M ρ) ρ w s v)/\
   ∀{E:Env} {ρ:zh} {a:Act} {w:World} {v:Value},Rel E σ ρ a w->(∀b,E.W0 b↔Own M E.ρ0 b)->(∀k,M.length<=k->E.ρ0 k=none)->G (λb=>E.Keep b∨Own σ.M ρ b) (Own σ.M ρ) ρ w s v->
    ∃ρ',Stp (Own M E.ρ0) (Own M' ρ') E.ρ0 ρ' E.w0 w/\zL E.Keep M' ρ' w/\G (λb=>E.Keep b∨Own M' ρ' b) (Own M' ρ') ρ' w r v)
  (hx:∀id σ,¬Q' (.exit id) σ):qx P f args M r M':=by
 refine⟨⟨fn,hf,hn,by rw[hb];rfl⟩,λKeep ρ w vs _ hmem hρ hg=>calls_of_wp hf hb ?_⟩;have hrel:=vK (nt:=fn.ntmps) hmem hρ hg (Xz hle);refine Code.wp_mono (λe a' w' hq=>?_) (k9 hT hm c hrel h)
 have fin:∀e σ ρ1,Q e σ->(∀id,e≠.exit id)->Rel ⟨w,ρ,Keep,Own M ρ,[]⟩ σ ρ1 a' w'->a'.defers=[]/\∃v,(results fn a'.tmps).run P w'=.ok v w'/\∃v' ρ',Ending.returned v=.returned v'/\Stp (Own M ρ) (Own M' ρ') ρ ρ' w w'/\
   zL Keep M' ρ' w'/\G (λb=>Keep b∨Own M' ρ' b) (Own M' ρ') ρ' w' r v':=by
  intro e σ0 ρ0 hq0 he hr0;obtain⟨σ,hsub,hq⟩:=hS e σ0 hq0;obtain⟨ρ1,hr⟩:=hsub _ _ _ _ hr0;obtain⟨s,h1,h2⟩:=hQ e σ hq he;obtain⟨v,g1,g2⟩:=h1 hr;obtain⟨ρ',g3,g4,g5⟩:=h2 hr (λ_=>K5) hρ g2;exact⟨hr.defers,v,g1,v,ρ',rfl,g3,g4,g5⟩
 cases e with
 |normal=>obtain⟨σ,ρ1,hq,hr⟩:=hq;exact fin _ σ ρ1 hq (λ_=>by simp) hr
 |ret=>obtain⟨σ,ρ1,hq,hr⟩:=hq;exact fin _ σ ρ1 hq (λ_=>by simp) hr
 |exit id=>obtain⟨σ,ρ1,hq,hr⟩:=hq;obtain⟨σ',_,hq'⟩:=hS _ σ hq;exact(hx id σ' hq').elim
 |_=>exact hq.elim
def zw0(hT:TOK P Γ)(hm:P.follows .mixedOrders=true){args:LR}(hf:P.funcs[f]?=some fn)(hb:fn.body=some c)(hn:(fn.name== "runtime.NumGoroutine")=false) (hle:Nat.ble args.length fn.ntmps=true)
  (h:jI P Γ c ⟨jJ 0 args,[],0,fn.ntmps,0⟩ (endV Γ fn.results.toList r)):qx P f args [] r []:=by
 refine zaS hT hm hf hb hn hle h (λe σ h=>⟨σ,.refl,h⟩) (λe σ hq he=>?_) (λid σ hq=>hq)
 have hq:zbS σ Γ fn.results.toList λs=>LE (zlZ (zU σ.M) s) r:=by
  cases e with
  |exit id=>exact absurd rfl (he id)
  |normal=>exact hq
  |ret=>exact hq
 obtain⟨s,hle,h1⟩:=yk hT hq;refine⟨s,h1,λ{E ρ a w v} hr hW _ hg=>⟨ρ,?_,?_,?_⟩⟩
 ·have hs:=hr.stp;exact⟨hs.os,hs.tape,hs.output,hs.size,λb hb hn=>hs.block b hb λh=>hn ((hW b).1 h),λb hb=>absurd hb zP,hs.rho⟩
 ·exact qt hr.mem.kp λ_ _ h=>hr.mem.glc h
 exact hle _ _ _ _ _ (znR (λk m h=>zA h) hr.mem (λb hb=>.inl (hb.resolve_right zP)) hg (λb hb hk=>(hr.mem.old b hb).2 (hk.resolve_right zP)) (λ_=>zP))
variable{S:LI}{Pm:LI}
def za3.g{k:LK}{s:SV}(h:za3 k s r){w:World}{v0:Value}(hsub:∀b,S' b->S b)(h0:ρ' 0=some v0)(hk:∀k',k=some k'->ρ k'=some v0)(hn:k=none->v0=.slice none 0 0){v:Value}(hg:G S Pm ρ w s v):G S' Pm' ρ' w r v:=by
 induction h generalizing v with
 |own k' h=>
  obtain⟨g1,g2⟩:=hg.own_inv;rw[hk k' h]at g1;cases g1
  exact .own _ _ h0 g2
 |loc k' off h=>
  obtain⟨b,g1,rfl⟩:=hg.loc_inv;rw[hk k' h]at g1;cases g1
  exact .loc _ _ _ h0
 |nil h=>
  rw[hg.val_inv];exact .own _ _ (by rw[h0,hn h]) rfl
 |le s r h hf=>exact .d _ _ ((uP hf (h _ _ _ _ _ hg)).less hsub)
 |junk s=>exact .d _ _ (.junk _)
 |agg cs ds hl h ih=>
  obtain⟨vs,rfl,hvs⟩:=hg.agg_inv;refine .agg _ vs (hvs.1.trans hl) λj r u hr hu=>?_
  have hj:j<cs.length:=by have:=(Xd.1 hr).1;omega
  exact ih j _ r (Xb hj) hr (hvs.2 j _ u (Xb hj) hu)
 |tup cs ds hl h ih=>
  obtain⟨vs,rfl,hvs⟩:=hg.tup_inv;refine .tup _ vs (hvs.1.trans hl) λj r u hr hu=>?_
  have hj:j<cs.length:=by have:=(Xd.1 hr).1;omega
  exact ih j _ r (Xb hj) hr (hvs.2 j _ u (Xb hj) hu)
 |fn f cs ds hl h ih=>
  obtain⟨vs,rfl,hvs⟩:=hg.fn_inv;refine .fn _ _ vs (hvs.1.trans hl) λj r u hr hu=>?_
  have hj:j<cs.length:=by have:=(Xd.1 hr).1;omega
  exact ih j _ r (Xb hj) hr (hvs.2 j _ u (Xb hj) hu)
variable{m:Mem}
def zjR(hT:TOK P Γ)(hm:P.follows .mixedOrders=true){args:LR}(hf:P.funcs[f]?=some fn)(hb:fn.body=some c)(hn:(fn.name== "runtime.NumGoroutine")=false) (hle:Nat.ble args.length fn.ntmps=true)
  (h:jI P Γ c ⟨jJ 0 args,[],0,fn.ntmps,0⟩ Q) (hS:∀e σ,Q e σ->∃σ',Sub σ σ'/\zrM Γ fn.results.toList r m e σ'):qx P f args [] r [(0,m)]:=by
 refine zaS hT hm hf hb hn hle h hS (λe σ hq he=>?_) (λid σ hq=>hq)
 have hq:zbS σ Γ fn.results.toList λs=>∃k,za3 k s r/\zwR σ.M k m:=by
  cases e with
  |exit id=>exact absurd rfl (he id)
  |normal=>exact hq
  |ret=>exact hq
 obtain⟨s,⟨k,htk,hmk⟩,h1⟩:=yk hT hq;refine⟨s,h1,λ{E ρ a w v} hr hW hρ0 hg=>?_⟩;have hs:=hr.stp
 have main:∀v0:Value,(∀b,qb v0=some b->Own σ.M ρ b)->(∀k',k=some k'->ρ k'=some v0)->(k=none->v0=.slice none 0 0)->
   (∀S Pm:LI,(∀b,S b->E.Keep b∨Own σ.M ρ b)->jH S Pm (one v0) w 0 m)->
   ∃ρ',Stp (Own [] E.ρ0) (Own [(0,m)] ρ') E.ρ0 ρ' E.w0 w/\zL E.Keep [(0,m)] ρ' w/\G (λb=>E.Keep b∨Own [(0,m)] ρ' b) (Own [(0,m)] ρ') ρ' w r v:=by
  intro v0 hown hk hnone hrel;have hsub:∀b,Own [(0,m)] (one v0) b->Own σ.M ρ b:=λb hb=>hown b (zbx.1 hb)
  refine⟨one v0,⟨hs.os,hs.tape,hs.output,hs.size,λb hb hn=>hs.block b hb λh=>hn ((hW b).1 h),λb hb=>(hs.own b (hsub b hb)).imp (hW b).1 id,λk' v' hv'=>?_⟩,?_,?_⟩
  ·rw[hρ0 k' (Xh _)]at hv';cases hv'
  ·refine⟨λk' m1 h=>?_,X9.2 ⟨λ_ h=>(by cases h),List.Pairwise.nil⟩,λk1 m1 k2 m2 _ _ _ h1 h2 hne=>?_,λb hb=>hr.mem.old b (hsub b hb),hr.mem.kp,hr.mem.glO hsub⟩
   ·cases h with
    |head=>exact hrel _ _ λb hb=>hb.imp id (hsub b)
    |tail _ h=>cases h
   cases h1 with
   |head=>cases h2 with
    |head=>exact absurd rfl hne
    |tail _ h=>cases h
   |tail _ h=>cases h
  exact htk.g (λb hb=>hb.imp id (hsub b)) uD hk hnone hg
 cases k with
 |some k'=>
  obtain⟨hlk,hfm⟩:=hmk;have hmem:=zA hlk;obtain⟨v0,hv0⟩:=(hr.mem.rel k' m hmem).name
  exact main v0 (λb hb=>⟨k',m,v0,hmem,hv0,hb⟩) (λk2 e=>by cases e;exact hv0) (λe=>by cases e)
   λS Pm hS=>jH.move (by rw[uD,hv0]) hfm (λs u _ hd=>.inl (hd.less hS)) (hr.mem.rel k' m hmem)
 |none=>
  cases m with
  |box T cs=>exact hmk.elim
  |garr T sz xs=>exact hmk.elim
  |map es=>exact hmk.elim
  |arr T enc sz xs=>
   have hx:xs=[]:=hmk;subst hx
   exact main (.slice none 0 0) (λb hb=>by simp[qb]at hb) (λ_ e=>by cases e) (λ_=>rfl)
    λS Pm _=>⟨.slice none 0 0,[],uD,World.ownsRow_nil w 0 T sz,sI,λu hu=>(by cases hu),λx hx=>(by cases hx),λi j x s hx=>(by simp at hx)⟩
def qC(hT:TOK P Γ)(hm:P.follows .mixedOrders=true){args:LR}(hf:P.funcs[f]?=some fn)(hb:fn.body=some c)(hn:(fn.name== "runtime.NumGoroutine")=false) (hle:Nat.ble args.length fn.ntmps=true)
  (h:jI P Γ c ⟨jJ 0 args,[],0,fn.ntmps,0⟩ (zrM Γ fn.results.toList r m)):qx P f args [] r [(0,m)]:=
 zjR hT hm hf hb hn hle h λ_ σ h=>⟨σ,.refl,h⟩
def zeZ(hT:TOK P Γ)(hm:P.follows .mixedOrders=true){args:LR}(hf:P.funcs[f]?=some fn)(hb:fn.body=some c)(hn:(fn.name== "runtime.NumGoroutine")=false) (hle:Nat.ble args.length fn.ntmps=true)
  (h:jI P Γ c ⟨jJ 0 args,[],0,fn.ntmps,0⟩ (λe σ=>∃σ',Sub σ σ'/\zrM Γ fn.results.toList r m e σ')):qx P f args [] r [(0,m)]:=
 zjR hT hm hf hb hn hle h λ_ _ h=>h
def qx.plain{args:LR}{r':SV}(h:qx P f args [] r [(0,m)])(e:zlZ (zU [(0,m)]) r=r'):qx P f args [] r' []:=by
 subst e;refine⟨h.1,λKeep ρ w vs hk hm hρ hg=>(h.2 Keep ρ w vs hk hm hρ hg).mono λ_ _ ⟨v,ρ',e,hs,hm',hgr⟩=>?_⟩;refine⟨v,ρ,e,⟨hs.os,hs.tape,hs.output,hs.size,hs.block,λb hb=>.inl (zP hb |>.elim),λ_ _ h=>h⟩,qt hm'.kp (λ_ _ h=>hm'.glc h),?_⟩;exact znR (λk m h=>zA h) hm' (λb hb=>hb.elim .inl λh=>(zP h).elim) hgr (λb hb hSb=>hSb.elim (hm'.old b hb).2 λh=>zP h) (λb=>zP)
def un(hT:TOK P Γ)(hm:P.follows .mixedOrders=true){args:LR}{m':Mem}(hf:P.funcs[f]?=some fn)(hb:fn.body=some c)(hn:(fn.name== "runtime.NumGoroutine")=false) (hle:Nat.ble args.length fn.ntmps=true) (hfm:zfY m') (hfr:zjj r=true)
  (h:jI P Γ c ⟨jJ 0 args,[(0,m)],1,fn.ntmps,1⟩ (zC1 Γ fn.results.toList r m')):qx P f args [(0,m)] r [(0,m')]:=by
 refine zaS hT hm hf hb hn hle h (λe σ h=>⟨σ,.refl,h⟩) (λe σ hq he=>?_) (λid σ hq=>hq)
 have hq:zbS σ Γ fn.results.toList λs=>(zU σ.M 0=some m'/\LE s r):=by
  cases e with
  |exit id=>exact absurd rfl (he id)
  |normal=>exact hq
  |ret=>exact hq
 obtain⟨s,⟨hlk,hle⟩,h1⟩:=yk hT hq;refine⟨s,h1,λ{E ρ a w v} hr hW hρ0 hg=>?_⟩;have hs:=hr.stp;have hmem:=zA hlk;obtain⟨v0,hv0⟩:=(hr.mem.rel 0 m' hmem).name;have hsub:∀b,Own [(0,m')] (one v0) b->Own σ.M ρ b:=λb hb=>⟨0,m',v0,hmem,hv0,zbx.1 hb⟩
 refine⟨one v0,⟨hs.os,hs.tape,hs.output,hs.size,λb hb hn=>hs.block b hb λh=>hn ((hW b).1 h),λb hb=>(hs.own b (hsub b hb)).imp (hW b).1 id,λk' v' hv'=>?_⟩,?_,?_⟩
 ·by_cases hk:k'=0
  ·subst hk;have:=hs.rho 0 v' hv';rw[hv0]at this;cases this;exact uD
  rw[hρ0 k' (by simp;omega)]at hv';cases hv'
 ·refine⟨λk' m1 h=>?_,X9.2 ⟨λ_ h=>(by cases h),List.Pairwise.nil⟩,λk1 m1 k2 m2 _ _ _ h1 h2 hne=>?_,λb hb=>hr.mem.old b (hsub b hb),hr.mem.kp,hr.mem.glO hsub⟩
  ·cases h with
   |head=>exact jH.move (by rw[uD,hv0]) hfm (λs u _ hd=>.inl (hd.less λb hb=>hb.imp id (hsub b))) (hr.mem.rel 0 m' hmem)
   |tail _ h=>cases h
  cases h1 with
  |head=>cases h2 with
   |head=>exact absurd rfl hne
   |tail _ h=>cases h
  |tail _ h=>cases h
 exact ziV (λb hb=>hb.imp id (hsub b)) hfr (hle _ _ _ _ _ hg)
def vEq:Value->Value->Bool
 |.int k m,.int k' n=>zrB k k'&&decide (m=n)
 |.bool a,.bool b=>a==b
 |.slice none l c,.slice none l' c'=>Nat.beq l l'&&Nat.beq c c'
 |.pointer none,.pointer none=>true
 |.map none,.map none=>true
 |.nilFunc,.nilFunc=>true
 |.nilIface,.nilIface=>true
 |.string a,.string b=>a.data.toList.isEmpty&&b.data.toList.isEmpty
 |_,_=>false
def zC5{a b:Value}(h:vEq a b=true):a=b:=by
 unfold vEq at h
 split at h
 ·simp only[XC,decide_eq_true_eq]at h;rw[zf0 h.1,h.2]
 ·simp at h;rw[h]
 ·simp only[XC]at h;rw[Xj h.1,Xj h.2]
 ·rfl
 ·rfl
 ·rfl
 ·rfl
 ·rename_i a b;simp only[XC,List.isEmpty_iff]at h;obtain⟨⟨a⟩⟩:=a;obtain⟨⟨b⟩⟩:=b;simp at h;simp[h]
 cases h
def vsEq:LA->LA->Bool
 |[],[]=>true
 |a::r,b::r'=>vEq a b&&vsEq r r'
 |_,_=>false
def znS:∀{a b:LA},vsEq a b=true->a=b
 |[],[],_=>rfl
 |[],_::_,h=>by cases h
 |_::_,[],h=>by cases h
 |a::r,b::r',h=>by simp only[vsEq,XC]at h;rw[zC5 h.1,znS h.2]
def fsEq:LM->LM->Bool
 |[],[]=>true
 |(a,b)::r,(a',b')::r'=>Nat.beq a a'&&(Nat.beq b b'&&fsEq r r')
 |_,_=>false
def zto:∀{a b:LM},fsEq a b=true->a=b
 |[],[],_=>rfl
 |[],_::_,h=>by cases h
 |_::_,[],h=>by cases h
 |(a,b)::r,(a',b')::r',h=>by
  simp only[fsEq,XC]at h;rw[Xj h.1,Xj h.2.1,zto h.2.2]
def zw1(P:Program)(t:TypeId)(k:TK):Bool:=
 match k,P.underlying t with
 |.int k,some (.int k')=>zrB k' k
 |.bool,some .bool=>true
 |.str,some .string=>true
 |.ptr e,some (.pointer e')=>Nat.beq e' e
 |.slice e,some (.slice e')=>Nat.beq e' e
 |.arr n e,some (.array n' e')=>Nat.beq n' n&&Nat.beq e' e
 |.struct fs,some (.struct F)=>fsEq (F.toList.map λf=>(f.offset,f.type)) fs&&(F.toList.mapM λf=>(P.info? f.type).map λi=>(f.offset,i.size)).isSome
 |.map k e,some (.map k' e')=>Nat.beq k' k&&Nat.beq e' e
 |.other,some (.func _ _ _)=>true
 |.iface,some (.interface _)=>true
 |_,_=>false
def zw2{t:TypeId}{k:TK}(h:zw1 P t k=true):zfs P t k:=by
 unfold zw1 at h
 split at h
 ·rename_i hu;exact(zf0 h) ▸ hu
 ·assumption
 ·assumption
 ·rename_i hu;exact(Xj h) ▸ hu
 ·rename_i hu;exact(Xj h) ▸ hu
 ·rename_i hu;simp only[XC]at h;have h1:=Xj h.1;have h2:=Xj h.2;subst h1;subst h2;exact hu
 ·rename_i hu;simp only[XC]at h;exact⟨_,hu,zto h.1,JY.1 h.2⟩
 ·rename_i hu;simp only[XC]at h;have h1:=Xj h.1;have h2:=Xj h.2;subst h1;subst h2;exact hu
 ·rename_i hu;exact⟨_,_,_,hu⟩
 ·rename_i hu;exact⟨_,hu⟩
 cases h
def zw3:Value->Bool
 |.agg _=>true
 |_=>false
def chkT(P:Program)(t:TypeId)(i:TI):Bool:=
 (match P.info? t with
 |some f=>Nat.beq f.size i.sz&&(Nat.beq f.bytes i.bytes&&(match f.zero with
  |some z=>vsEq z.cells.toList i.zero&&((i.kind.agg||z.oneCell')&&(!i.kind.agg||zw3 z))
  |none=>false))
 |none=>false)&&(Nat.beq i.zero.length i.sz&&(i.zero.all (·.oneCell')&&(zw1 P t i.kind&&
 (!i.cmp||(!P.stoodInHeld t&&(!P.eqGuardType P.depth t&&(P.fieldsOf t).toList.all λf=>!(f.name== "_")))))))
def zAr{t:TypeId}{i:TI}(h:chkT P t i=true):ziF P t i:=by
 unfold chkT at h;simp only[XC]at h;obtain⟨h1,h2,h3,h4,h5⟩:=h;refine⟨?_,zw2 h4,λhg=>?_,λhc=>?_⟩
 ·split at h1
  ·rename_i f hf;simp only[XC]at h1;obtain⟨g1,g2,g3⟩:=h1
   split at g3
   ·rename_i z hz;simp only[XC]at g3;exact⟨f,hf,Xj g1,Xj g2,z,hz,znS g3.1,λha=>zl2 (by simpa[ha] using g3.2.1),Xj h2,λv hv=>XQ.1 h3 v hv⟩
   cases g3
  cases h1
 ·split at h1
  ·rename_i f hf;simp only[XC]at h1;obtain⟨g1,g2,g3⟩:=h1
   split at g3
   ·rename_i z hz;simp only[XC,hg,QC,QN]at g3;refine⟨f,hf,?_⟩
    cases z with
    |agg a=>rw[hz,←znS g3.1];simp[Value.cells]
    |_=>exact absurd g3.2.2 (by simp[zw3])
   cases g3
  cases h1
 simp only[hc,QC,QN,XC,JQ]at h5;refine⟨h5.1,h5.2.1,λf hf=>?_⟩;have:=XQ.1 h5.2.2 f hf
 simpa using this
def zC6(P:Program)(Γ:LS):Bool:=Γ.all λp=>chkT P p.1 p.2
def zC7(h:zC6 P Γ=true):TOK P Γ:=by
 intro t i hi
 have hm:(t,i)∈Γ:=by
  clear h
  induction Γ with
  |nil=>cases hi
  |cons x r ih=>
   obtain⟨k,s⟩:=x;simp only[ti]at hi
   split at hi
   ·rename_i hb;have:=Xj hb;subst this;cases hi;exact .head _
   exact .tail _ (ih hi)
 exact zAr (XQ.1 h _ hm)
def za9:List (Nat×Option Nat)->Nat->Option LK
 |[],_=>none
 |(k,s)::r,t=>match Nat.beq k t with
  |true=>some s
  |false=>za9 r t
def ren(tb:List (Nat×Option Nat))(s:SV):Option SV:=
 match s with
 |.loc k off=>(match za9 tb k with
  |some (some j)=>some (.loc j off)
  |_=>none)
 |.own k=>(match za9 tb k with
  |some (some j)=>some (.own j)
  |some none=>some (.val (.slice none 0 0))
  |none=>none)
 |.fn f cs=>(match rens tb cs with
  |some cs'=>some (.fn f cs')
  |none=>none)
 |.agg cs=>(match rens tb cs with
  |some cs'=>some (.agg cs')
  |none=>none)
 |.ifc t s=>(match ren tb s with
  |some s'=>some (.ifc t s')
  |none=>none)
 |.tup cs=>(match rens tb cs with
  |some cs'=>some (.tup cs')
  |none=>none)
 |.win k sz lo n=>(match za9 tb k with
  |some (some j)=>some (.win j sz lo n)
  |_=>none)
 |.eloc k sz i off=>(match za9 tb k with
  |some (some j)=>some (.eloc j sz i off)
  |_=>none)
 |s=>some s
 where
 rens (tb:List (Nat×Option Nat)):LR->Option LR
  |[]=>some []
  |c::cs=>(match ren tb c,rens tb cs with
   |some c',some cs'=>some (c'::cs')
   |_,_=>none)
def znT(tb:List (Nat×Option Nat))(L:LP):LP->Prop
 |[]=>True
 |(t,s)::r=>(match ren tb s with
  |some s'=>kK L t=some s'
  |none=>False)/\znT tb L r
def znU(tb:List (Nat×Option Nat))(M:LT)(k:Nat)(m:Mem):Prop:=
 match za9 tb k with
 |some (some j)=>(match m with
  |.box T cs=>(match ren.rens tb cs with
   |some cs'=>zU M j=some (.box T cs')
   |none=>False)
  |.garr T sz xs=>∃xs',zU M j=some (.garr T sz xs')/\xs'.length=xs.length/\∀(i:Nat) x,xs[i]?=some x->∃x',xs'[i]?=some x'/\ren.rens tb x=some x'
  |m=>zU M j=some m)
 |some none=>(match m with
  |.arr _ _ _ xs=>Nat.beq xs.length 0=true
  |_=>False)
 |none=>False
def znV(tb:List (Nat×Option Nat))(M:LT):LT->Prop
 |[]=>True
 |(k,m)::r=>znU tb M k m/\znV tb M r
def ze0:List (Nat×Option Nat)->Nat->Bool
 |[],_=>true
 |(k,_)::r,nk=>Nat.blt k nk&&(r.all (λx=>!(Nat.beq x.1 k))&&ze0 r nk)
def ze1(tb:List (Nat×Option Nat)):Nat->Bool
 |0=>true
 |n+1=>(match za9 tb n with
  |some (some j)=>Nat.beq j n&&ze1 tb n
  |_=>false)
def zw4:Option LK->Option LK->Bool
 |some (some a),some (some b)=>!(Nat.beq a b)
 |_,_=>true
def zat(tb:List (Nat×Option Nat)):LT->Bool
 |[]=>true
 |(k,_)::r=>r.all (λx=>!(Nat.beq x.1 k)&&zw4 (za9 tb x.1) (za9 tb k))&&zat tb r
def names(tb:List (Nat×Option Nat))(ρ:zh):zh:=λk=>match za9 tb k with
 |some (some j)=>ρ j
 |some none=>some (.slice none 0 0)
 |none=>none
variable{tb:List (Nat×Option Nat)}
def zAs{nk k:Nat}{x:LK}(h:ze0 tb nk=true)(hk:za9 tb k=some x):k<nk:=by
 induction tb with
 |nil=>cases hk
 |cons y r ih=>
  obtain⟨k',j⟩:=y;simp only[ze0,XC]at h;simp only[za9]at hk
  split at hk
  ·rename_i hb;have:=Xj hb;subst this;exact Xz h.1
  exact ih h.2.2 hk
def ren_g{w:World}:∀(s:SV) {s':SV} {v:Value},ren tb s=some s'->G S Pm ρ w s' v->G S Pm (names tb ρ) w s v:=by
 intro s
 induction s using SV.rec (motive_2:=λcs=>∀{cs':LR} {vs:LA},ren.rens tb cs=some cs'->Gs S Pm ρ w cs' vs->Gs S Pm (names tb ρ) w cs vs) with
 |val v=>intro s' u h hg;simp only[ren]at h;cases h;exact .d _ _ (hg.val_inv ▸ .val _)
 |pr p i=>intro s' u h hg;simp only[ren]at h;cases h;rw[hg.pr_inv];exact .d _ _ (.pr p i)
 |agg cs ih=>
  intro s' u h hg;simp only[ren]at h
  split at h
  ·rename_i cs' hc;cases h
   obtain⟨vs,rfl,hvs⟩:=hg.agg_inv;have:=ih hc hvs;exact .agg _ vs this.1 this.2
  cases h
 |sl enc xs=>intro s' u h hg;simp only[ren]at h;cases h;exact .d _ _ hg.sl_inv
 |ptr cs ih=>
  intro s' u h hg;simp only[ren]at h;cases h
  obtain⟨b,o,c,rfl,hb,hP,hc,hd⟩:=hg.ptr_inv;exact .ptr cs b o c hb hP hc hd
 |loc k off=>
  intro s' u h hg;simp only[ren]at h
  split at h
  ·rename_i j hj;cases h
   obtain⟨b,hρ,rfl⟩:=hg.loc_inv;exact .loc _ _ b (by simp[names,hj,hρ])
  cases h
 |own k=>
  intro s' u h hg;simp only[ren]at h
  split at h
  ·rename_i j hj;cases h
   obtain⟨hρ,h1⟩:=hg.own_inv;exact .own _ _ (by simp[names,hj,hρ]) h1
  ·rename_i hj;cases h
   rw[hg.val_inv];exact .own _ _ (by simp[names,hj]) rfl
  cases h
 |win k sz lo n=>
  intro s' u h hg;simp only[ren]at h
  split at h
  ·rename_i j hj;cases h
   obtain⟨b,len,cap,cap',hρ,rfl,h1,h2⟩:=hg.win_inv;exact .win _ _ _ _ b len cap cap' (by simp[names,hj,hρ]) h1 h2
  cases h
 |eloc k sz i off=>
  intro s' u h hg;simp only[ren]at h
  split at h
  ·rename_i j hj;cases h
   obtain⟨b,len,cap,hρ,rfl⟩:=hg.eloc_inv;exact .eloc _ _ _ _ b len cap (by simp[names,hj,hρ])
  cases h
 |fn f cs ih=>
  intro s' u h hg;simp only[ren]at h
  split at h
  ·rename_i cs' hc;cases h
   obtain⟨vs,rfl,hvs⟩:=hg.fn_inv;have:=ih hc hvs;exact .fn f _ vs this.1 this.2
  cases h
 |tup cs ih=>
  intro s' u h hg;simp only[ren]at h
  split at h
  ·rename_i cs' hc;cases h
   obtain⟨vs,rfl,hvs⟩:=hg.tup_inv;have:=ih hc hvs;exact .tup _ vs this.1 this.2
  cases h
 |dptr cs ih=>intro s' u h hg;simp only[ren]at h;cases h;cases hg with|d _ _ h=>exact .d _ _ h
 |dfn f cs ih=>intro s' u h hg;simp only[ren]at h;cases h;cases hg with|d _ _ h=>exact .d _ _ h
 |bm f cs ih=>intro s' u h hg;simp only[ren]at h;cases h;cases hg with|d _ _ h=>exact .d _ _ h
 |op v=>intro s' u h hg;simp only[ren]at h;cases h;cases hg with|d _ _ h=>exact .d _ _ h
 |ifc t s ih=>
  intro s' u h hg;simp only[ren]at h
  split at h
  ·rename_i s1 hs;cases h
   obtain⟨v,rfl,hv⟩:=hg.ifc_inv;exact .ifc t s v (ih hs hv)
  cases h
 |junk=>intro s' u h hg;exact .d _ _ (.junk u)
 |nils=>intro s' u h hg;simp only[ren]at h;cases h;obtain⟨a,rfl⟩:=hg.nils_inv;exact .d _ _ (.nils a)
 |full enc xs=>intro s' u h hg;simp only[ren]at h;cases h;obtain⟨a,rfl,hd⟩:=hg.full_inv;exact .d _ _ (.full enc xs a hd)
 |anyb=>intro s' u h hg;simp only[ren]at h;cases h;obtain⟨b,rfl⟩:=hg.anyb_inv;exact .d _ _ (.anyb b)
 |nil=>rename_i h hg;simp only[ren.rens]at h;cases h;rw[hg.nil_inv];exact .nil
 |cons c cs ihc ihcs=>
  rename_i h hg;simp only[ren.rens]at h
  split at h
  ·rename_i c' cs'' hc hcs;cases h
   obtain⟨v,vs',rfl,h1,h2⟩:=hg.cons_inv;exact .cons (ihc hc h1) (ihcs hcs h2)
  cases h
def zmf{tb:List (Nat×Option Nat)}{L:LP}:∀{L':LP},znT tb L L'->∀t s,kK L' t=some s->∃s',ren tb s=some s'/\kK L t=some s'
 |[],_,t,s,h=>by cases h
 |(t0,s0)::r,hL,t,s,h=>by
  obtain⟨h1,h2⟩:=hL;rw[kq]at h
  split at h
  ·rename_i e;subst e;cases h
   split at h1
   ·exact⟨_,‹_›,h1⟩
   exact h1.elim
  exact zmf h2 t s h
def zjS{tb:List (Nat×Option Nat)}{M:LT}:∀{M':LT},znV tb M M'->∀k m,(k,m)∈M'->znU tb M k m
 |[],_,k,m,h=>by cases h
 |(k0,m0)::r,hM,k,m,h=>by
  cases h with
  |head=>exact hM.1
  |tail _ h=>exact zjS hM.2 k m h
def zmg{tb:List (Nat×Option Nat)}:∀{M:LT},zat tb M=true->M.Pairwise λa b=>a.1≠b.1
 |[],_=>.nil
 |(k,m)::r,h=>by
  simp only[zat,XC]at h;refine X9.2 ⟨λx hx e=>?_,zmg h.2⟩;have:=XQ.1 h.1 x hx;have e:k=x.1:=e;simp[←e,K8]at this
def zjT{tb:List (Nat×Option Nat)}:∀{M:LT},zat tb M=true->∀{k k' j:Nat} {m m':Mem},(k,m)∈M->(k',m')∈M->za9 tb k=some (some j)->za9 tb k'=some (some j)->k=k'
 |[],_,_,_,_,_,_,h,_,_,_=>by cases h
 |(q,n)::r,h,k,k',j,m,m',hk,hk',h1,h2=>by
  simp only[zat,XC]at h;have hall:=XQ.1 h.1
  have no:∀x∈r,za9 tb x.1=some (some j)->za9 tb q=some (some j)->False:=λx hx e1 e2=>by
   have:=hall x hx;rw[e1,e2]at this;simp[zw4,K8]at this
  cases hk with
  |head=>cases hk' with
   |head=>rfl
   |tail _ hk'=>exact(no _ hk' h2 h1).elim
  |tail _ hk=>cases hk' with
   |head=>exact(no _ hk h1 h2).elim
   |tail _ hk'=>exact zjT h.2 hk hk' h1 h2
def zpz{tb:List (Nat×Option Nat)}:∀{n:Nat},ze1 tb n=true->∀k,k<n->za9 tb k=some (some k)
 |0,_,k,hk=>oM
 |n+1,h,k,hk=>by
  simp only[ze1]at h
  split at h
  ·rename_i j hj;simp only[XC]at h;have:=Xj h.1;subst this
   by_cases e:k=j
   ·subst e;exact hj
   exact zpz h.2 k oM
  cases h
def zjU:∀(cs cs':LR),ren.rens tb cs=some cs'->cs'.length=cs.length/\∀(i:Nat) (s:SV),cs[i]?=some s->∃s',cs'[i]?=some s'/\ren tb s=some s':=by
  intro cs
  induction cs with
  |nil=>intro cs' h;simp only[ren.rens]at h;cases h;exact⟨rfl,λi s h=>by simp at h⟩
  |cons c cs ih=>
   intro cs' h;simp only[ren.rens]at h
   split at h
   ·rename_i c' cs'' hc hcs;cases h
    obtain⟨e1,e2⟩:=ih cs'' hcs;refine⟨by simp[e1],λi s hi=>?_⟩
    cases i with
    |zero=>simp at hi;subst hi;exact⟨c',rfl,hc⟩
    |succ i=>simpa using e2 i s (by simpa using hi)
   cases h
variable{L':LP}{nk':Nat}
def qF(tb:List (Nat×Option Nat))(h1:ze0 tb nk'=true)(h2:ze1 tb σ.n0=true)(h3:zat tb M'=true)(hL:znT tb σ.L L')(hM:znV tb σ.M M'):Sub σ ⟨L',M',nk',σ.nt,σ.n0⟩:=by
 intro E ρ a w hr;refine⟨names tb ρ,?_⟩
 have hnm:∀k v,names tb ρ k=some v->(∃j,za9 tb k=some (some j)/\ρ j=some v)∨(za9 tb k=some none/\v=.slice none 0 0):=by
  intro k v h;unfold names at h
  split at h
  ·exact .inl ⟨_,‹_›,h⟩
  ·cases h;exact .inr ⟨‹_›,rfl⟩
  cases h
 have hlook:∀k j m,(k,m)∈M'->za9 tb k=some (some j)->∃m0,(j,m0)∈σ.M:=by
  intro k j m hk hj;have:=zjS hM k m hk;unfold znU at this;rw[hj]at this;simp only at this
  split at this
  ·split at this
   ·exact⟨_,zA this⟩
   exact this.elim
  ·obtain⟨xs',h,_⟩:=this;exact⟨_,zA h⟩
  exact⟨_,zA this⟩
 have hown:∀b,Own M' (names tb ρ) b->Own σ.M ρ b:=by
  rintro b ⟨k,m,v,hk,hv,hb⟩
  obtain⟨j,hj,hρ⟩|⟨_,rfl⟩:=hnm k v hv
  ·obtain⟨m0,hm0⟩:=hlook k j m hk hj;exact⟨j,m0,v,hm0,hρ,hb⟩
  cases hb
 have hg:∀s s' v,ren tb s=some s'->G (λb=>E.Keep b∨Own σ.M ρ b) (Own σ.M ρ) ρ w s' v->G (λb=>E.Keep b∨Own M' (names tb ρ) b) (Own M' (names tb ρ)) (names tb ρ) w s v:=λs s' v hs h=>
  ren_g s hs (h.mono (Xk _) (λb _ hb=>⟨λh=>hb (h.imp id (hown b)),rfl⟩) (λb _ hb=>⟨λh=>hb (hown b h),rfl⟩) (λ_ _ h=>h))
 refine⟨hr.size,hr.defers,λt s hl=>?_,⟨λk m hk=>?_,zmg h3,λk m k' m' v v' b hk hk' hne hv hv' hb=>?_,λb hb=>hr.mem.old b (hown b hb),hr.mem.kp,hr.mem.glO hown⟩,λk hk=>?_,?_,hr.keep,hr.low⟩
 ·obtain⟨s',hs',hl'⟩:=zmf hL t s hl;exact⟨(hr.regs t s' hl').1,hg s s' _ hs' (hr.regs t s' hl').2⟩
 ·have hsm:=zjS hM k m hk;unfold znU at hsm
  split at hsm
  ·rename_i j hj;have hkj:names tb ρ k=ρ j:=by simp[names,hj]
   split at hsm
   ·rename_i T cs
    split at hsm
    ·rename_i cs' hcs;obtain⟨b,vs,g1,g2,g3,g4,g5⟩:=hr.mem.rel j _ (zA hsm);obtain⟨e1,e2⟩:=zjU cs cs' hcs;refine⟨b,vs,hkj.trans g1,g2,by rw[g3,e1],g4,λi s v hi hv=>?_⟩;obtain⟨s',hs',hren⟩:=e2 i s hi;exact hg s s' v hren (g5 i s' v hs' hv)
    exact hsm.elim
   ·rename_i T sz xs;obtain⟨xs',hlk,e1,e2⟩:=hsm;obtain⟨v,cells,g1,g2,g3,g4,g5,g6⟩:=hr.mem.rel j _ (zA hlk);refine⟨v,cells,hkj.trans g1,by rw[←e1];exact g2,by rw[←e1];exact g3,g4,λx hx=>?_,λi j x s hx hs=>?_⟩
    ·obtain⟨i,hi⟩:=Yl.1 hx;obtain⟨x',hx',hr'⟩:=e2 i x hi;rw[←(zjU x x' hr').1];exact g5 x' (Xf hx')
    obtain⟨x',hx',hr'⟩:=e2 i x hx;obtain⟨s',hs',hren⟩:=(zjU x x' hr').2 j s hs;obtain⟨u,hu,hd⟩:=g6 i j x' s' hx' hs';exact⟨u,hu,hg s s' u hren hd⟩
   rename_i hnb hnb2;have hmr:=hr.mem.rel j _ (zA hsm)
   cases m with
   |box T cs=>exact(hnb T cs rfl).elim
   |garr T sz xs=>exact(hnb2 T sz xs rfl).elim
   |map es=>
    obtain⟨r,ents,clock,g1,g2,g3,g4⟩:=hmr;refine⟨r,ents,clock,hkj.trans g1,g2,g3,λi n s hi=>?_⟩;obtain⟨e,e1,e2,e3⟩:=g4 i n s hi;exact⟨e,e1,e2,e3.less λb hb=>hb.imp id (hown b)⟩
   |arr T enc sz xs=>
    obtain⟨v,cells,g1,g2,g3,g4,g5,g6⟩:=hmr;refine⟨v,cells,hkj.trans g1,g2,g3,g4,g5,λi j x s hx hs=>?_⟩;obtain⟨u,hu,hd⟩:=g6 i j x s hx hs;exact⟨u,hu,hd.less λb hb=>hb.imp id (hown b)⟩
  ·rename_i hj
   split at hsm
   ·rename_i T α enc sz xs;have h0:=Xj hsm;have hx:xs=[]:=Xp h0;subst hx;exact⟨.slice none 0 0,[],by simp[names,hj],World.ownsRow_nil w 0 T sz,sI,λu hu=>(by cases hu),λx hx=>(by cases hx),λi j x s hx=>(by simp at hx)⟩
   exact hsm.elim
  exact hsm.elim
 ·obtain⟨j,hj,hρ⟩|⟨_,rfl⟩:=hnm k v hv
  ·obtain⟨j',hj',hρ'⟩|⟨_,rfl⟩:=hnm k' v' hv'
   ·obtain⟨m0,hm0⟩:=hlook k j m hk hj;obtain⟨m0',hm0'⟩:=hlook k' j' m' hk' hj';refine hr.mem.apart j m0 j' m0' v v' b hm0 hm0' (λe=>hne ?_) hρ hρ' hb;subst e;exact zjT h3 hk hk' hj hj'
   simp[qb]
  cases hb
 ·have:za9 tb k=none:=by
   cases hq:za9 tb k with
   |none=>rfl
   |some x=>have:=zAs h1 hq;have hk:nk'<=k:=hk;omega
  simp[names,this]
 have hs:=hr.stp;refine⟨hs.os,hs.tape,hs.output,hs.size,hs.block,λb hb=>hs.own b (hown b hb),λk v hk=>?_⟩;have:=zpz h2 k (hr.low k v hk);simp[names,this,hs.rho k v hk]
def ji(tb:List (Nat×Option Nat))(hL:znT tb σ.L L')(hM:znV tb σ.M M')(h1:ze0 tb nk'=true:=by rfl)(h2:ze1 tb σ.n0=true:=by rfl)(h3:zat tb M'=true:=by rfl):Sub σ ⟨L',M',nk',σ.nt,σ.n0⟩:=qF tb h1 h2 h3 hL hM
def zby(tb:List (Nat×Option Nat))(hM:znV tb σ.M M')(hL:znT tb σ.L L':=by (repeat (refine⟨rfl,?_⟩));exact trivial)(h1:ze0 tb nk'=true:=by rfl)(h2:ze1 tb σ.n0=true:=by rfl)(h3:zat tb M'=true:=by rfl):Sub σ ⟨L',M',nk',σ.nt,σ.n0⟩:=qF tb h1 h2 h3 hL hM
def zB(tb:List (Nat×Option Nat))(hM:znV tb σ.M M':=by (repeat (refine⟨rfl,?_⟩));exact trivial)(hL:znT tb σ.L L':=by (repeat (refine⟨rfl,?_⟩));exact trivial)(h1:ze0 tb nk'=true:=by rfl)(h2:ze1 tb σ.n0=true:=by rfl)(h3:zat tb M'=true:=by rfl):Sub σ ⟨L',M',nk',σ.nt,σ.n0⟩:=qF tb h1 h2 h3 hL hM
def Tb:Nat->LC->List (Nat×Option Nat)
 |_,[]=>[]
 |n,x::r=>(n,some x)::Tb (n+1) r
def zS(l:LC)(hL:znT (Tb 0 l) σ.L L')(hM:znV (Tb 0 l) σ.M M')(h1:ze0 (Tb 0 l) nk'=true:=by rfl)(h2:ze1 (Tb 0 l) σ.n0=true:=by rfl)(h3:zat (Tb 0 l) M'=true:=by rfl):Sub σ ⟨L',M',nk',σ.nt,σ.n0⟩:=qF _ h1 h2 h3 hL hM
def zu(l:LC)(hM:znV (Tb 0 l) σ.M M')(hL:znT (Tb 0 l) σ.L L':=by (repeat (refine⟨rfl,?_⟩));exact trivial)(h1:ze0 (Tb 0 l) nk'=true:=by rfl)(h2:ze1 (Tb 0 l) σ.n0=true:=by rfl)(h3:zat (Tb 0 l) M'=true:=by rfl):Sub σ ⟨L',M',nk',σ.nt,σ.n0⟩:=qF _ h1 h2 h3 hL hM
def zf(l:LC)(hM:znV (Tb 0 l) σ.M M':=by (repeat (refine⟨rfl,?_⟩));exact trivial)(hL:znT (Tb 0 l) σ.L L':=by (repeat (refine⟨rfl,?_⟩));exact trivial)(h1:ze0 (Tb 0 l) nk'=true:=by rfl)(h2:ze1 (Tb 0 l) σ.n0=true:=by rfl)(h3:zat (Tb 0 l) M'=true:=by rfl):Sub σ ⟨L',M',nk',σ.nt,σ.n0⟩:=qF _ h1 h2 h3 hL hM
def jQ{σ:St}{t:Nat}{s s':SV}(hl:kK σ.L t=some s)(h:∀S Pm ρ w v,G S Pm ρ w s v->G S Pm ρ w s' v):Sub σ (σ.put (some t) s'):=λ_ ρ _ _ hr=>⟨ρ,hr.refine hl h⟩
def Sub.trans{σ' σ'':St}(h:Sub σ σ')(k:Sub σ' σ''):Sub σ σ'':=λE ρ a w hr=>by
 obtain⟨ρ',h1⟩:=h E ρ a w hr;exact k E ρ' a w h1
def zcB{σ:St}(k k0:Nat){T T0:TypeId}{α:Type}{enc:α->LR}{sz sz0:Nat}{ys:List α}{xs xs':LN}(hk:zU σ.M k=some (.arr T enc sz ys))(h0:zU σ.M k0=some (.garr T0 sz0 xs))(hl:xs'.length=xs.length)(hz:∀x∈xs',x.length=sz0)(hx:∀(i j:Nat) x' s',xs'[i]?=some x'->x'[j]?=some s'->∃x s,xs[i]?=some x/\x[j]?=some s/\(s'=s∨(s=.own k/\s'=.sl enc ys))):
  Sub σ ⟨σ.L,qK (qg σ.M k) k0 (.garr T0 sz0 xs'),σ.nk,σ.nt,σ.n0⟩:=by
 intro E ρ a w hr;refine⟨ρ,?_⟩;have hmem:=zA hk;have hsub:∀x∈qg σ.M k,x∈σ.M:=λx hx=>qB x hx
 have hpd:=jg (k:=k) hr.mem.keys;have hkeys:(qK (qg σ.M k) k0 (.garr T0 sz0 xs')).map (·.1)=(qg σ.M k).map (·.1):=zaP;have hown:∀b,Own (qK (qg σ.M k) k0 (.garr T0 sz0 xs')) ρ b->Own (qg σ.M k) ρ b:=λb hb=>zaa hkeys.symm hb
 have hown2:∀b,Own (qg σ.M k) ρ b->Own σ.M ρ b:=λb ⟨k',m,v,h1,h2,h3⟩=>⟨k',m,v,hsub _ h1,h2,h3⟩
 have hg:∀s v,G (λb=>E.Keep b∨Own σ.M ρ b) (Own σ.M ρ) ρ w s v->
   G (λb=>E.Keep b∨Own (qK (qg σ.M k) k0 (.garr T0 sz0 xs')) ρ b) (Own (qK (qg σ.M k) k0 (.garr T0 sz0 xs')) ρ) ρ w s v:=λs v h=>
  h.mono (Xk _) (λb _ hb=>⟨λh=>hb (h.imp id λh=>hown2 b (hown b h)),rfl⟩) (λb _ hb=>⟨λh=>hb (hown2 b (hown b h)),rfl⟩) (λ_ _ h=>h)
 have hs:Stp (Own σ.M ρ) (Own (qK (qg σ.M k) k0 (.garr T0 sz0 xs')) ρ) ρ ρ w w:=
  ⟨rfl,rfl,.refl _,Xk _,λ_ _ _=>rfl,λb hb=>.inl (hown2 b (hown b hb)),λ_ _ h=>h⟩
 have hd:∀v,ρ k=some v->D (λb=>E.Keep b∨Own (qK (qg σ.M k) k0 (.garr T0 sz0 xs')) ρ b) w (.sl enc ys) v:=λv hv=>
  zjv hr.mem hmem (λb hb=>hb.imp id λh=>hown2 b (hown b h)) (λv' b hv' hb hSb=>by
   rcases hSb with hSb|hSb
   ·exact(hr.mem.old b ⟨k,_,v',hmem,hv',hb⟩).2 hSb
   obtain⟨k',m',v1,h4,h5,h6⟩:=hown b hSb
   exact hr.mem.apart k _ k' m' v' v1 b hmem (hsub _ h4) (Ne.symm (v9 hr.mem.keys _ h4)) hv' h5 hb h6) hv
 refine⟨hr.size,hr.defers,λt s hl=>⟨(hr.regs t s hl).1,hg s _ (hr.regs t s hl).2⟩,⟨λk1 m1 h1=>?_,yL hkeys hpd,λk1 m1 k2 m2 v1 v2 b h1 h2=>?_,λb hb=>hr.mem.old b (hown2 b (hown b hb)),hr.mem.kp,hr.mem.glO λb hb=>hown2 b (hown b hb)⟩,
  hr.fresh,hr.stp.trans hs,hr.keep,hr.low⟩
 ·obtain⟨_,h2⟩|h2:=jK hpd _ h1
  ·exact(hr.mem.rel k1 m1 (hsub _ h2)).keep hs rfl (λ_ _ _ _=>rfl)
  cases h2
  obtain⟨v,cells,g1,g2,g3,g4,g5,g6⟩:=hr.mem.rel k0 _ (zA h0);refine⟨v,cells,g1,by rw[hl];exact g2,by rw[hl];exact g3,g4,hz,λi j x' s' hx' hs'=>?_⟩;obtain⟨x,s,e1,e2,e3⟩:=hx i j x' s' hx' hs';obtain⟨u,hu,hgu⟩:=g6 i j x s e1 e2;refine⟨u,hu,?_⟩
  rcases e3 with rfl|⟨rfl,rfl⟩
  ·exact hg _ _ hgu
  exact .d _ _ (hd u hgu.own_inv.1)
 have back:∀k1 m1,(k1,m1)∈qK (qg σ.M k) k0 (.garr T0 sz0 xs')->∃m',(k1,m')∈σ.M:=λk1 m1 h=>by
  obtain⟨_,h2⟩|h2:=jK hpd _ h
  ·exact⟨m1,hsub _ h2⟩
  cases h2;exact⟨_,zA h0⟩
 obtain⟨m1',h1'⟩:=back _ _ h1;obtain⟨m2',h2'⟩:=back _ _ h2;exact hr.mem.apart k1 m1' k2 m2' v1 v2 b h1' h2'
def zgg(k0:Nat){T0:TypeId}{α:Type}(enc:α->LR){sz0:Nat}(ys:List α)(h0:zU σ.M k0=some (.garr T0 sz0 (ys.map enc)))(hf:∀x∈ys,j9.flats (enc x)=true):
  Sub σ ⟨σ.L,qK σ.M k0 (.arr T0 enc sz0 ys),σ.nk,σ.nt,σ.n0⟩:=by
 intro E ρ a w hr;refine⟨ρ,?_⟩;have hkeys:(qK σ.M k0 (.arr T0 enc sz0 ys)).map (·.1)=σ.M.map (·.1):=zaP;have hown:∀b,Own (qK σ.M k0 (.arr T0 enc sz0 ys)) ρ b->Own σ.M ρ b:=λb hb=>zaa hkeys.symm hb
 have hg:∀s v,G (λb=>E.Keep b∨Own σ.M ρ b) (Own σ.M ρ) ρ w s v->
   G (λb=>E.Keep b∨Own (qK σ.M k0 (.arr T0 enc sz0 ys)) ρ b) (Own (qK σ.M k0 (.arr T0 enc sz0 ys)) ρ) ρ w s v:=λs v h=>
  h.mono (Xk _) (λb _ hb=>⟨λh=>hb (h.imp id (hown b)),rfl⟩) (λb _ hb=>⟨λh=>hb (hown b h),rfl⟩) (λ_ _ h=>h)
 have hs:Stp (Own σ.M ρ) (Own (qK σ.M k0 (.arr T0 enc sz0 ys)) ρ) ρ ρ w w:=
  ⟨rfl,rfl,.refl _,Xk _,λ_ _ _=>rfl,λb hb=>.inl (hown b hb),λ_ _ h=>h⟩
 have back:∀k1 m1,(k1,m1)∈qK σ.M k0 (.arr T0 enc sz0 ys)->∃m',(k1,m')∈σ.M:=λk1 m1 h=>by
  obtain⟨_,h2⟩|h2:=jK hr.mem.keys _ h
  ·exact⟨m1,h2⟩
  cases h2;exact⟨_,zA h0⟩
 refine⟨hr.size,hr.defers,λt s hl=>⟨(hr.regs t s hl).1,hg s _ (hr.regs t s hl).2⟩,⟨λk1 m1 h1=>?_,yL hkeys hr.mem.keys,λk1 m1 k2 m2 v1 v2 b h1 h2=>?_,λb hb=>hr.mem.old b (hown b hb),hr.mem.kp,hr.mem.glO hown⟩,
  hr.fresh,hr.stp.trans hs,hr.keep,hr.low⟩
 ·obtain⟨_,h2⟩|h2:=jK hr.mem.keys _ h1
  ·exact(hr.mem.rel k1 m1 h2).keep hs rfl (λ_ _ _ _=>rfl)
  cases h2
  obtain⟨v,cells,g1,g2,g3,g4,g5,g6⟩:=hr.mem.rel k0 _ (zA h0);rw[Xx]at g2 g3;refine⟨v,cells,g1,g2,g3,g4,λx hx=>g5 _ (XO.2 ⟨x,hx,rfl⟩),λi j x s hx hs'=>?_⟩;obtain⟨u,hu,hgu⟩:=g6 i j (enc x) s (by rw[XD,hx];rfl) hs';exact⟨u,hu,uP (yM (hf x (Xf hx)) j s hs') (hg _ _ hgu)⟩
 obtain⟨m1',h1'⟩:=back _ _ h1;obtain⟨m2',h2'⟩:=back _ _ h2;exact hr.mem.apart k1 m1' k2 m2' v1 v2 b h1' h2'
end Go.Gs
