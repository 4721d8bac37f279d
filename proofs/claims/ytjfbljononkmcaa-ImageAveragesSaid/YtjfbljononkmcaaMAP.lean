/- A piece of code: what is left to be shown is enough. -/
import Derived.Test.YtjfbljononkmcaaMA
import Derived.Test.YtjfbljononkmcaaMAO
import Derived.Deep.LoopGhost
import Derived.Scope
set_option maxRecDepth 100000
set_option maxHeartbeats 8000000
set_option linter.all false
namespace Go.Gs
def zck(E:Env)(Q:Ex->St->Prop):Exit->Act->World->Prop
 | .normal,a,w=>∃σ ρ,Q .normal σ/\Rel E σ ρ a w
 | .exit id,a,w=>∃σ ρ,Q (.exit id) σ/\Rel E σ ρ a w
 | .ret,a,w=>∃σ ρ,Q .ret σ/\Rel E σ ρ a w
 | _,_,_=>False
theorem z6{P:Program}{Γ:List (TypeId×TI)}(hT:TOK P Γ)(hm:P.follows .mixedOrders=true){E:Env}:∀(c:Code) {σ:St} {Q:Ex->St->Prop} {ρ:zd} {a:Act} {w:World},
  Rel E σ ρ a w->jX P Γ c σ Q->c.wp P (zck E Q) a w
 | .skip,σ,Q,ρ,a,w,hr,h=>wp_skip ⟨σ,ρ,h,hr⟩
 | .region id ops draw,σ,Q,ρ,a,w,hr,h=>by
  cases draw with
  | false=>
   have h:jy P Γ false ops.toList ops.toList 0 σ (Q .normal):=h;refine wp_region_list ?_;have:=zci (Q:=zck E Q) hT (fun σ ρ a w h hr=>⟨σ,ρ,h,hr⟩) hr h
   simpa using this
  | true=>
   have h:Dr (jW ops.toList=true) (jy P Γ true ops.toList ops.toList 0 σ (Q .normal)) (Ob (vc ops.toList=true) (js P Γ ops.toList ops.toList 0 [] σ (Q .normal))):=h
   rcases h with ⟨h1,h2⟩ | ⟨h1,h2⟩
   ·exact zd3 hT hm hr h1 h2 fun σ ρ a w h hr=>⟨σ,ρ,h,hr⟩
   ·exact zdd hT hm hr h1 h2 fun σ ρ a w h hr=>⟨σ,ρ,h,hr⟩
 | .seq x y,σ,Q,ρ,a,w,hr,h=>by
  refine wp_seq (Code.wp_mono (fun e a' w' hq=>?_) (z6 hT hm x hr h))
  cases e with
  | normal=>obtain ⟨σ',ρ',h',hr'⟩:=hq;exact z6 hT hm y hr' h'
  | exit id=>exact hq
  | ret=>exact hq
  | _=>exact hq.elim
 | .cond c x y,σ,Q,ρ,a,w,hr,h=>by
  obtain ⟨s,h,hs⟩:=zeC h;have hg:=hs (a:=a) (fun t s _ hl=>(hr.regs t s hl).2)
  split at h
  ·exact wp_cond_true hg.val_inv (z6 hT hm x hr h)
  ·exact wp_cond_false hg.val_inv (z6 hT hm y hr h)
  ·rename_i p i
   by_cases hp:p
   ·exact wp_cond_true (by rw [hg.pr_inv];simp [hp]) (z6 hT hm x hr (h.yes hp))
   ·exact wp_cond_false (by rw [hg.pr_inv];simp [hp]) (z6 hT hm y hr (h.no hp))
  ·obtain ⟨b,hb⟩:=hg.anyb_inv
   cases b with
   | true=>exact wp_cond_true hb (z6 hT hm x hr h.yes)
   | false=>exact wp_cond_false hb (z6 hT hm y hr h.no)
  ·exact h.elim
 | .block id c,σ,Q,ρ,a,w,hr,h=>by
  refine wp_block (Code.wp_mono (fun e a' w' hq=>?_) (z6 hT hm c hr h))
  cases e with
  | normal=>exact hq
  | exit j=>
   obtain ⟨σ',ρ',h',hr'⟩:=hq;dsimp only at h';show (if j=id then zck E Q .normal a' w' else zck E Q (.exit j) a' w')
   split at h'
   ·rename_i hb;rw [if_pos (Nat.eq_of_beq_eq_true hb)];exact ⟨σ',ρ',h',hr'⟩
   ·rename_i hb;rw [if_neg (Nat.ne_of_beq_eq_false hb)];exact ⟨σ',ρ',h',hr'⟩
  | ret=>exact hq
  | _=>exact hq.elim
 | .loop c,σ,Q,ρ,a,w,hr,h=>by
  obtain ⟨ι,S,I,μ,x0,h0,hsub,hround⟩:=h;obtain ⟨ρ0,hr0⟩:=hsub E ρ a w hr;refine wp_loop_ghost (fun n a w=>∃x ρ,I x/\μ x=n/\Rel E (S x) ρ a w) (μ x0) ⟨x0,ρ0,h0,rfl,hr0⟩ fun n a w hI=>?_
  obtain ⟨x,ρ1,h1,rfl,hr1⟩:=hI;refine Code.wp_mono (fun e a' w' hq=>?_) (z6 hT hm c hr1 (hround x h1))
  cases e with
  | normal=>
   obtain ⟨σ',ρ',⟨x',h2,hs2,hlt⟩,hr'⟩:=hq;obtain ⟨ρ2,hr2⟩:=hs2 E ρ' a' w' hr';exact ⟨μ x',hlt,x',ρ2,h2,rfl,hr2⟩
  | exit id=>exact hq
  | ret=>exact hq
  | _=>exact hq.elim
 | .exit id,σ,Q,ρ,a,w,hr,h=>wp_exit ⟨σ,ρ,h,hr⟩
 | .ret,σ,Q,ρ,a,w,hr,h=>wp_ret ⟨σ,ρ,h,hr⟩
 | .rangeFunc _ _ _ _,_,_,_,_,_,_,h=>by cases h
 | .scope c,σ,Q,ρ,a,w,hr,h=>by
  refine wp_scope_straight (Code.wp_mono (fun e a' w' hq=>?_) (z6 hT hm c hr h))
  cases e with
  | normal=>exact hq
  | exit j=>exact hq
  | ret=>exact hq
  | _=>exact hq.elim
 | .label _,σ,Q,ρ,a,w,hr,h=>wp_label ⟨σ,ρ,h,hr⟩
 | .goto _,_,_,_,_,_,_,h=>by cases h
 | .refuse _,_,_,_,_,_,_,h=>by cases h
theorem zde{P:Program}{Γ:List (TypeId×TI)}(hT:TOK P Γ){σ:St}{x:ResultVar}{K:SV->Prop}(h:zdQ σ Γ x K):∃s,K s/\∀{E:Env} {ρ:zd} {a:Act} {w:World},Rel E σ ρ a w->
  ∃v,((match x with | .tmp t=>pure (a.tmps.getD t undef) | .cell ad t=>do loadVar t (← asAddr (a.tmps.getD ad undef)):Sem Value)).run P w=.ok v w/\G (fun b=>E.Keep b∨Own σ.M ρ b) (Own σ.M ρ) ρ w s v:=by
 unfold zdQ at h
 split at h
 ·split at h
  ·rename_i s hs;exact ⟨s,zS h,fun hr=>⟨_,rfl,(hr.regs _ s hs).2⟩⟩
  ·exact h.elim
 ·rename_i ad t;replace h:=zc h;obtain ⟨i,hi,h⟩:=h
  split at h
  ·rename_i k off hl
   split at h
   ·rename_i T cs hlk;replace h:=zb h;obtain ⟨hle,h⟩:=h;replace h:=k9 h;obtain ⟨s,hK,h⟩:=h;have hle:=Nat.le_of_ble_eq_true hle;refine ⟨s,hK,fun {E ρ a w} hr=>?_⟩;obtain ⟨b,vs,hρ,hheap,hlen,_,hcells⟩:=hr.mem.rel k _ (zg hlk);obtain ⟨b',hρ',hx⟩:=(hr.regs ad _ hl).2.loc_inv;rw [hρ] at hρ';cases hρ'
    have hg:Gs (fun b=>E.Keep b∨Own σ.M ρ b) (Own σ.M ρ) ρ w (cs.drop off) (vs.drop off):=Gs.drop off ⟨hlen,hcells⟩;obtain ⟨v,h1,h2⟩:=jA (hT t i hi) (b:=b) (o:=off) hg (fun j v hv=>by rw [uy hheap];simpa using hv) (by simp;omega) h;exact ⟨v,by simp only [hx,asAddr,Sem.run_bind,Sem.run_pure,Result.andThen_ok,h1],h2⟩
   ·exact h.elim
  ·exact h.elim
theorem vD{P:Program}{Γ:List (TypeId×TI)}(hT:TOK P Γ){σ:St}:∀{xs:List ResultVar} {K:List SV->Prop},zfX σ Γ xs K->∃l,K l/\∀{E:Env} {ρ:zd} {a:Act} {w:World},Rel E σ ρ a w->
  ∃vs,(xs.mapM fun x=>(match x with | .tmp t=>pure (a.tmps.getD t undef) | .cell ad t=>do loadVar t (← asAddr (a.tmps.getD ad undef)):Sem Value)).run P w=.ok vs w/\Gs (fun b=>E.Keep b∨Own σ.M ρ b) (Own σ.M ρ) ρ w l vs
 | [],K,h=>⟨[],h,fun _=>⟨[],rfl,.nil⟩⟩
 | x::xs,K,h=>by
  obtain ⟨s,h,h1⟩:=zde hT h;obtain ⟨l,h,h2⟩:=vD hT h;refine ⟨s::l,h,fun {E ρ a w} hr=>?_⟩;obtain ⟨v,g1,g2⟩:=h1 hr;obtain ⟨vs,g3,g4⟩:=h2 hr;exact ⟨v::vs,by rw [List.mapM_cons,Sem.run_bind,g1,Result.andThen_ok,Sem.run_bind,g3,Result.andThen_ok,Sem.run_pure],.cons g2 g4⟩
theorem jE{P:Program}{Γ:List (TypeId×TI)}(hT:TOK P Γ){σ:St}{fn:Func}{K:SV->Prop}(h:vH σ Γ fn.results.toList K):∃s,K s/\∀{E:Env} {ρ:zd} {a:Act} {w:World},Rel E σ ρ a w->
  ∃v,(results fn a.tmps).run P w=.ok v w/\G (fun b=>E.Keep b∨Own σ.M ρ b) (Own σ.M ρ) ρ w s v:=by
 unfold vH at h;obtain ⟨l,h,h1⟩:=vD hT h
 have run:∀{a:Act} {w:World} {vs:List Value},(fn.results.toList.mapM fun x=>(match x with | .tmp t=>pure (a.tmps.getD t undef) | .cell ad t=>do loadVar t (← asAddr (a.tmps.getD ad undef)):Sem Value)).run P w=.ok vs w->
   (results fn a.tmps).run P w=.ok (if h:vs.toArray.size=1 then vs.toArray[0] else .tuple vs.toArray) w:=by
  intro a w vs hv
  have e:(fn.results.mapM fun x=>(match x with | .tmp t=>pure (a.tmps.getD t undef) | .cell ad t=>do loadVar t (← asAddr (a.tmps.getD ad undef)):Sem Value)).run P w=.ok vs.toArray w:=by
   rw [Array.mapM_eq_mapM_toList,Sem.run_map,hv];rfl
  unfold results;rw [Sem.run_bind]
  erw [e]
  rfl
 split at h
 ·rename_i s;refine ⟨s,h,fun {E ρ a w} hr=>?_⟩;obtain ⟨vs,g1,g2⟩:=h1 hr;obtain ⟨v,vs',rfl,g3,g4⟩:=g2.cons_inv;rw [g4.nil_inv] at g1;exact ⟨v,by rw [run g1];rfl,g3⟩
 ·rename_i hne;refine ⟨_,h,fun {E ρ a w} hr=>?_⟩;obtain ⟨vs,g1,g2⟩:=h1 hr;refine ⟨.tuple vs.toArray,?_,.tup _ vs g2.1 g2.2⟩;rw [run g1]
  have hl:¬vs.toArray.size=1:=by
   intro e;have:l.length=1:=by rw [← g2.1];simpa using e
   match l,this with
   | [s],_=>exact hne s rfl
  rw [dif_neg hl]
theorem vE:∀(l:List SV) (n t:Nat),ziv (qq n l) t=if n<=t then l[t - n]? else none
 | [],n,t=>by simp [qq,ziv]
 | s::l,n,t=>by
  simp only [qq,kI,vE l (n+1) t]
  by_cases h:n=t
  ·subst h;simp
  ·rw [if_neg h]
   by_cases h2:n<=t
   ·rw [if_pos oM,if_pos h2,show t - n=(t - (n+1))+1 by omega,List.getElem?_cons_succ]
   ·rw [if_neg oM,if_neg h2]
theorem zeE {lm:Nat->Option Mem} {Keep:Nat->Prop} {M:List (Nat×Mem)} {ρ:zd} {w:World} {S':Nat->Prop} (hlm:∀k m,lm k=some m->(k,m)∈M) (hm:zj Keep M ρ w)
  (hsub:∀b,S' b->Keep b∨Own M ρ b) {s:SV} {v:Value} (hg:G (fun b=>Keep b∨Own M ρ b) (Own M ρ) ρ w s v) (hc:∀b,Own M ρ b->¬S' b) {Pm':Nat->Prop} (hP:∀b,¬Pm' b) {ρ':zd}:
  G S' Pm' ρ' w (zcI lm s) v:=by
 unfold zcI
 split
 ·rename_i cs;obtain ⟨vs,rfl,hvs⟩:=hg.tup_inv;have h:=zap (S':=S') (Pm':=Pm') (ρ':=ρ') hlm hm hsub (fun b _=>hP b) (fun _ _ b _ _=>hP b) hvs (.inr hc);exact .tup _ vs h.1 h.2
 ·exact zcb hlm hm hsub hg (.inr hc) (fun b _=>hP b) (fun _ _ b _ _=>hP b)
theorem zfr {Keep:Nat->Prop} {M:List (Nat×Mem)} {ρ:zd} {w:World} {args:List SV} {vs:List Value} {nt:Nat} (hm:zj Keep M ρ w) (hρ:∀k,M.length<=k->ρ k=none)
  (hg:Gs (fun b=>Keep b∨Own M ρ b) (Own M ρ) ρ w args vs) (hle:args.length<=nt):
  Rel ⟨w,ρ,Keep,Own M ρ,[]⟩ ⟨qq 0 args,M,M.length,nt,M.length⟩ ρ { tmps:=vs.toArray++Array.replicate (nt - vs.toArray.size) undef,defers:=[] } w:=by
 have hl:=hg.1;refine ⟨by simp;omega,rfl,fun t s h=>?_,hm,hρ,.refl,hm.kp,fun k v h=>?_⟩;rotate_left
 ·rcases Nat.lt_or_ge k M.length with h1 | h1
  ·exact h1
  ·have h:ρ k=some v:=h;rw [hρ k h1] at h;cases h
 have h:ziv (qq 0 args) t=some s:=h;rw [vE] at h;simp only [Nat.zero_le,if_true,Nat.sub_zero] at h;have hlt:=(List.getElem?_eq_some_iff.1 h).1;refine ⟨show t < nt by omega,hg.2 t s _ h ?_⟩;have:t < vs.length:=oM
 have e:(vs.toArray++Array.replicate (nt - vs.toArray.size) undef)[t]? =some vs[t]:=by
  rw [Array.getElem?_append_left (by simpa using this)];simp [this]
 rw [List.getElem?_eq_getElem this,Array.getD_eq_getD_getElem?,e];rfl
theorem Sub.refl{σ:St}:Sub σ σ:=fun _ ρ _ _ hr=>⟨ρ,hr⟩
theorem jF {P:Program} {Γ:List (TypeId×TI)} (hT:TOK P Γ) (hm:P.follows .mixedOrders=true) {f:FuncId} {fn:Func} {c:Code} {args:List SV} {M:List (Nat×Mem)} {Q:Ex->St->Prop}
  (hf:P.funcs[f]? =some fn) (hb:fn.body=some c) (hn:(fn.name== "runtime.NumGoroutine")=false) (hle:Nat.ble args.length fn.ntmps=true)
  (h:jX P Γ c ⟨qq 0 args,M,M.length,fn.ntmps,M.length⟩ Q) {r:SV} {M':List (Nat×Mem)} {Q':Ex->St->Prop} (hS:∀e σ,Q e σ->∃σ',Sub σ σ'/\Q' e σ')
  (hQ:∀e σ,Q' e σ->(∀id,e≠.exit id)->∃s,(∀{E:Env} {ρ:zd} {a:Act} {w:World},Rel E σ ρ a w->∃v,(results fn a.tmps).run P w=.ok v w/\G (fun b=>E.Keep b∨Own σ.M ρ b) (Own σ.M ρ) ρ w s v)/\
   ∀{E:Env} {ρ:zd} {a:Act} {w:World} {v:Value},Rel E σ ρ a w->(∀b,E.W0 b↔Own M E.ρ0 b)->(∀k,M.length<=k->E.ρ0 k=none)->G (fun b=>E.Keep b∨Own σ.M ρ b) (Own σ.M ρ) ρ w s v->
    ∃ρ',Stp (Own M E.ρ0) (Own M' ρ') E.ρ0 ρ' E.w0 w/\zj E.Keep M' ρ' w/\G (fun b=>E.Keep b∨Own M' ρ' b) (Own M' ρ') ρ' w r v)
  (hx:∀id σ,¬Q' (.exit id) σ):zf P f args M r M':=by
 refine ⟨⟨fn,hf,hn,by rw [hb];rfl⟩,fun Keep ρ w vs _ hmem hρ hg=>calls_of_wp hf hb ?_⟩;have hrel:=zfr (nt:=fn.ntmps) hmem hρ hg (Nat.le_of_ble_eq_true hle);refine Code.wp_mono (fun e a' w' hq=>?_) (z6 hT hm c hrel h)
 have fin:∀e σ ρ1,Q e σ->(∀id,e≠.exit id)->Rel ⟨w,ρ,Keep,Own M ρ,[]⟩ σ ρ1 a' w'->a'.defers=[]/\∃v,(results fn a'.tmps).run P w'=.ok v w'/\∃v' ρ',Ending.returned v=.returned v'/\Stp (Own M ρ) (Own M' ρ') ρ ρ' w w'/\
   zj Keep M' ρ' w'/\G (fun b=>Keep b∨Own M' ρ' b) (Own M' ρ') ρ' w' r v':=by
  intro e σ0 ρ0 hq0 he hr0;obtain ⟨σ,hsub,hq⟩:=hS e σ0 hq0;obtain ⟨ρ1,hr⟩:=hsub _ _ _ _ hr0;obtain ⟨s,h1,h2⟩:=hQ e σ hq he;obtain ⟨v,g1,g2⟩:=h1 hr;obtain ⟨ρ',g3,g4,g5⟩:=h2 hr (fun _=>Iff.rfl) hρ g2;exact ⟨hr.defers,v,g1,v,ρ',rfl,g3,g4,g5⟩
 cases e with
 | normal=>obtain ⟨σ,ρ1,hq,hr⟩:=hq;exact fin _ σ ρ1 hq (fun _=>by simp) hr
 | ret=>obtain ⟨σ,ρ1,hq,hr⟩:=hq;exact fin _ σ ρ1 hq (fun _=>by simp) hr
 | exit id=>obtain ⟨σ,ρ1,hq,hr⟩:=hq;obtain ⟨σ',_,hq'⟩:=hS _ σ hq;exact (hx id σ' hq').elim
 | _=>exact hq.elim
theorem zh {P:Program} {Γ:List (TypeId×TI)} (hT:TOK P Γ) (hm:P.follows .mixedOrders=true) {f:FuncId} {fn:Func} {c:Code} {args:List SV} {r:SV}
  (hf:P.funcs[f]? =some fn) (hb:fn.body=some c) (hn:(fn.name== "runtime.NumGoroutine")=false) (hle:Nat.ble args.length fn.ntmps=true)
  (h:jX P Γ c ⟨qq 0 args,[],0,fn.ntmps,0⟩ (endV Γ fn.results.toList r)):zf P f args [] r []:=by
 refine jF hT hm hf hb hn hle h (fun e σ h=>⟨σ,.refl,h⟩) (fun e σ hq he=>?_) (fun id σ hq=>hq)
 have hq:vH σ Γ fn.results.toList fun s=>LE (zcI (zl σ.M) s) r:=by
  cases e with
  | exit id=>exact absurd rfl (he id)
  | normal=>exact hq
  | ret=>exact hq
 obtain ⟨s,hle,h1⟩:=jE hT hq;refine ⟨s,h1,fun {E ρ a w v} hr hW _ hg=>⟨ρ,?_,?_,?_⟩⟩
 ·have hs:=hr.stp;exact ⟨hs.os,hs.tape,hs.output,hs.size,fun b hb hn=>hs.block b hb fun h=>hn ((hW b).1 h),fun b hb=>absurd hb zw,hs.rho⟩
 ·exact kV hr.mem.kp fun _ _ h=>hr.mem.glc h
 ·exact hle _ _ _ _ _ (zeE (fun k m h=>zg h) hr.mem (fun b hb=>.inl (hb.resolve_right zw)) hg (fun b hb hk=>(hr.mem.old b hb).2 (hk.resolve_right zw)) (fun _=>zw))
theorem jY.g {k:Option Nat} {s r:SV} (h:jY k s r) {S Pm S' Pm':Nat->Prop} {ρ ρ':zd} {w:World} {v0:Value} (hsub:∀b,S' b->S b) (h0:ρ' 0=some v0)
  (hk:∀k',k=some k'->ρ k'=some v0) (hn:k=none->v0=.slice none 0 0) {v:Value} (hg:G S Pm ρ w s v):G S' Pm' ρ' w r v:=by
 induction h generalizing v with
 | own k' h=>
  obtain ⟨g1,g2⟩:=hg.own_inv;rw [hk k' h] at g1;cases g1
  exact .own _ _ h0 g2
 | loc k' off h=>
  obtain ⟨b,g1,rfl⟩:=hg.loc_inv;rw [hk k' h] at g1;cases g1
  exact .loc _ _ _ h0
 | nil h=>
  rw [hg.val_inv];exact .own _ _ (by rw [h0,hn h]) rfl
 | le s r h hf=>exact .d _ _ ((qh hf (h _ _ _ _ _ hg)).less hsub)
 | junk s=>exact .d _ _ (.junk _)
 | agg cs ds hl h ih=>
  obtain ⟨vs,rfl,hvs⟩:=hg.agg_inv;refine .agg _ vs (hvs.1.trans hl) fun j r u hr hu=>?_
  have hj:j < cs.length:=by have:=(List.getElem?_eq_some_iff.1 hr).1;omega
  exact ih j _ r (List.getElem?_eq_getElem hj) hr (hvs.2 j _ u (List.getElem?_eq_getElem hj) hu)
 | tup cs ds hl h ih=>
  obtain ⟨vs,rfl,hvs⟩:=hg.tup_inv;refine .tup _ vs (hvs.1.trans hl) fun j r u hr hu=>?_
  have hj:j < cs.length:=by have:=(List.getElem?_eq_some_iff.1 hr).1;omega
  exact ih j _ r (List.getElem?_eq_getElem hj) hr (hvs.2 j _ u (List.getElem?_eq_getElem hj) hu)
 | fn f cs ds hl h ih=>
  obtain ⟨vs,rfl,hvs⟩:=hg.fn_inv;refine .fn _ _ vs (hvs.1.trans hl) fun j r u hr hu=>?_
  have hj:j < cs.length:=by have:=(List.getElem?_eq_some_iff.1 hr).1;omega
  exact ih j _ r (List.getElem?_eq_getElem hj) hr (hvs.2 j _ u (List.getElem?_eq_getElem hj) hu)
theorem zaH {P:Program} {Γ:List (TypeId×TI)} (hT:TOK P Γ) (hm:P.follows .mixedOrders=true) {f:FuncId} {fn:Func} {c:Code} {args:List SV} {r:SV} {m:Mem} {Q:Ex->St->Prop}
  (hf:P.funcs[f]? =some fn) (hb:fn.body=some c) (hn:(fn.name== "runtime.NumGoroutine")=false) (hle:Nat.ble args.length fn.ntmps=true)
  (h:jX P Γ c ⟨qq 0 args,[],0,fn.ntmps,0⟩ Q) (hS:∀e σ,Q e σ->∃σ',Sub σ σ'/\zdR Γ fn.results.toList r m e σ'):zf P f args [] r [(0,m)]:=by
 refine jF hT hm hf hb hn hle h hS (fun e σ hq he=>?_) (fun id σ hq=>hq)
 have hq:vH σ Γ fn.results.toList fun s=>∃k,jY k s r/\zhK σ.M k m:=by
  cases e with
  | exit id=>exact absurd rfl (he id)
  | normal=>exact hq
  | ret=>exact hq
 obtain ⟨s,⟨k,htk,hmk⟩,h1⟩:=jE hT hq;refine ⟨s,h1,fun {E ρ a w v} hr hW hρ0 hg=>?_⟩;have hs:=hr.stp
 have main:∀v0:Value,(∀b,zM v0=some b->Own σ.M ρ b)->(∀k',k=some k'->ρ k'=some v0)->(k=none->v0=.slice none 0 0)->
   (∀S Pm:Nat->Prop,(∀b,S b->E.Keep b∨Own σ.M ρ b)->kL S Pm (one v0) w 0 m)->
   ∃ρ',Stp (Own [] E.ρ0) (Own [(0,m)] ρ') E.ρ0 ρ' E.w0 w/\zj E.Keep [(0,m)] ρ' w/\G (fun b=>E.Keep b∨Own [(0,m)] ρ' b) (Own [(0,m)] ρ') ρ' w r v:=by
  intro v0 hown hk hnone hrel;have hsub:∀b,Own [(0,m)] (one v0) b->Own σ.M ρ b:=fun b hb=>hown b (jn.1 hb)
  refine ⟨one v0,⟨hs.os,hs.tape,hs.output,hs.size,fun b hb hn=>hs.block b hb fun h=>hn ((hW b).1 h),fun b hb=>(hs.own b (hsub b hb)).imp (hW b).1 id,fun k' v' hv'=>?_⟩,?_,?_⟩
  ·rw [hρ0 k' (Nat.zero_le _)] at hv';cases hv'
  ·refine ⟨fun k' m1 h=>?_,List.pairwise_cons.2 ⟨fun _ h=>(by cases h),List.Pairwise.nil⟩,fun k1 m1 k2 m2 _ _ _ h1 h2 hne=>?_,fun b hb=>hr.mem.old b (hsub b hb),hr.mem.kp,hr.mem.glO hsub⟩
   ·cases h with
    | head=>exact hrel _ _ fun b hb=>hb.imp id (hsub b)
    | tail _ h=>cases h
   ·cases h1 with
    | head=>cases h2 with
     | head=>exact absurd rfl hne
     | tail _ h=>cases h
    | tail _ h=>cases h
  ·exact htk.g (fun b hb=>hb.imp id (hsub b)) qa hk hnone hg
 cases k with
 | some k'=>
  obtain ⟨hlk,hfm⟩:=hmk;have hmem:=zg hlk;obtain ⟨v0,hv0⟩:=(hr.mem.rel k' m hmem).name
  exact main v0 (fun b hb=>⟨k',m,v0,hmem,hv0,hb⟩) (fun k2 e=>by cases e;exact hv0) (fun e=>by cases e)
   fun S Pm hS=>kL.move (by rw [qa,hv0]) hfm (fun s u _ hd=>.inl (hd.less hS)) (hr.mem.rel k' m hmem)
 | none=>
  cases m with
  | box T cs=>exact hmk.elim
  | garr T sz xs=>exact hmk.elim
  | map es=>exact hmk.elim
  | arr T enc sz xs=>
   have hx:xs=[]:=hmk;subst hx
   exact main (.slice none 0 0) (fun b hb=>by simp [zM] at hb) (fun _ e=>by cases e) (fun _=>rfl)
    fun S Pm _=>⟨.slice none 0 0,[],qa,World.ownsRow_nil w 0 T sz,by simp,fun u hu=>(by cases hu),fun x hx=>(by cases hx),fun i j x s hx=>(by simp at hx)⟩
theorem kJ {P:Program} {Γ:List (TypeId×TI)} (hT:TOK P Γ) (hm:P.follows .mixedOrders=true) {f:FuncId} {fn:Func} {c:Code} {args:List SV} {r:SV} {m:Mem}
  (hf:P.funcs[f]? =some fn) (hb:fn.body=some c) (hn:(fn.name== "runtime.NumGoroutine")=false) (hle:Nat.ble args.length fn.ntmps=true)
  (h:jX P Γ c ⟨qq 0 args,[],0,fn.ntmps,0⟩ (zdR Γ fn.results.toList r m)):zf P f args [] r [(0,m)]:=
 zaH hT hm hf hb hn hle h fun _ σ h=>⟨σ,.refl,h⟩
theorem zbb {P:Program} {Γ:List (TypeId×TI)} (hT:TOK P Γ) (hm:P.follows .mixedOrders=true) {f:FuncId} {fn:Func} {c:Code} {args:List SV} {r:SV} {m:Mem}
  (hf:P.funcs[f]? =some fn) (hb:fn.body=some c) (hn:(fn.name== "runtime.NumGoroutine")=false) (hle:Nat.ble args.length fn.ntmps=true)
  (h:jX P Γ c ⟨qq 0 args,[],0,fn.ntmps,0⟩ (fun e σ=>∃σ',Sub σ σ'/\zdR Γ fn.results.toList r m e σ')):zf P f args [] r [(0,m)]:=
 zaH hT hm hf hb hn hle h fun _ _ h=>h
theorem zf.plain{P:Program}{f:FuncId}{args:List SV}{r r':SV}{m:Mem}(h:zf P f args [] r [(0,m)])(e:zcI (zl [(0,m)]) r=r'):zf P f args [] r' []:=by
 subst e;refine ⟨h.1,fun Keep ρ w vs hk hm hρ hg=>(h.2 Keep ρ w vs hk hm hρ hg).mono fun _ _ ⟨v,ρ',e,hs,hm',hgr⟩=>?_⟩;refine ⟨v,ρ,e,⟨hs.os,hs.tape,hs.output,hs.size,hs.block,fun b hb=>.inl (zw hb |>.elim),fun _ _ h=>h⟩,kV hm'.kp (fun _ _ h=>hm'.glc h),?_⟩;exact zeE (fun k m h=>zg h) hm' (fun b hb=>hb.elim .inl fun h=>(zw h).elim) hgr (fun b hb hSb=>hSb.elim (hm'.old b hb).2 fun h=>zw h) (fun b=>zw)
theorem qA {P:Program} {Γ:List (TypeId×TI)} (hT:TOK P Γ) (hm:P.follows .mixedOrders=true) {f:FuncId} {fn:Func} {c:Code} {args:List SV} {r:SV} {m m':Mem}
  (hf:P.funcs[f]? =some fn) (hb:fn.body=some c) (hn:(fn.name== "runtime.NumGoroutine")=false) (hle:Nat.ble args.length fn.ntmps=true) (hfm:ut m') (hfr:v8 r=true)
  (h:jX P Γ c ⟨qq 0 args,[(0,m)],1,fn.ntmps,1⟩ (zhZ Γ fn.results.toList r m')):zf P f args [(0,m)] r [(0,m')]:=by
 refine jF hT hm hf hb hn hle h (fun e σ h=>⟨σ,.refl,h⟩) (fun e σ hq he=>?_) (fun id σ hq=>hq)
 have hq:vH σ Γ fn.results.toList fun s=>(zl σ.M 0=some m'/\LE s r):=by
  cases e with
  | exit id=>exact absurd rfl (he id)
  | normal=>exact hq
  | ret=>exact hq
 obtain ⟨s,⟨hlk,hle⟩,h1⟩:=jE hT hq;refine ⟨s,h1,fun {E ρ a w v} hr hW hρ0 hg=>?_⟩;have hs:=hr.stp;have hmem:=zg hlk;obtain ⟨v0,hv0⟩:=(hr.mem.rel 0 m' hmem).name;have hsub:∀b,Own [(0,m')] (one v0) b->Own σ.M ρ b:=fun b hb=>⟨0,m',v0,hmem,hv0,jn.1 hb⟩
 refine ⟨one v0,⟨hs.os,hs.tape,hs.output,hs.size,fun b hb hn=>hs.block b hb fun h=>hn ((hW b).1 h),fun b hb=>(hs.own b (hsub b hb)).imp (hW b).1 id,fun k' v' hv'=>?_⟩,?_,?_⟩
 ·by_cases hk:k'=0
  ·subst hk;have:=hs.rho 0 v' hv';rw [hv0] at this;cases this;exact qa
  ·rw [hρ0 k' (by simp;omega)] at hv';cases hv'
 ·refine ⟨fun k' m1 h=>?_,List.pairwise_cons.2 ⟨fun _ h=>(by cases h),List.Pairwise.nil⟩,fun k1 m1 k2 m2 _ _ _ h1 h2 hne=>?_,fun b hb=>hr.mem.old b (hsub b hb),hr.mem.kp,hr.mem.glO hsub⟩
  ·cases h with
   | head=>exact kL.move (by rw [qa,hv0]) hfm (fun s u _ hd=>.inl (hd.less fun b hb=>hb.imp id (hsub b))) (hr.mem.rel 0 m' hmem)
   | tail _ h=>cases h
  ·cases h1 with
   | head=>cases h2 with
    | head=>exact absurd rfl hne
    | tail _ h=>cases h
   | tail _ h=>cases h
 ·exact vV (fun b hb=>hb.imp id (hsub b)) hfr (hle _ _ _ _ _ hg)
end Go.Gs
