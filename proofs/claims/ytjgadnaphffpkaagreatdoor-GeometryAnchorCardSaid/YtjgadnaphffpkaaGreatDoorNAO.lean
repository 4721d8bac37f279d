/- A function in whose code loops over functions stand: its contract out of its code. -/
import Derived.Test.YtjgadnaphffpkaaGreatDoorNA
import Derived.Test.YtjgadnaphffpkaaGreatDoorNAN
import Derived.Test.YtjgadnaphffpkaaGreatDoorNAG
import Derived.Test.YtjgadnaphffpkaaGreatDoorNAI
set_option maxRecDepth 100000
set_option maxHeartbeats 8000000
set_option linter.all false
namespace Go.Gs
section
def znT(P:Program)(Γ:List (TypeId×TI))(c:Code):St->(Ex->St->Prop)->Prop:=
 Code.rec (motive:=λ_=>St->(Ex->St->Prop)->Prop)
  (λσ Q=>Q .normal σ)
  (λid ops draw σ Q=>jP P Γ (.region id ops draw) σ Q)
  (λ_ _ ha hb σ Q=>ha σ λe σ=>(match e with
   | .normal=>hb σ Q
   | .exit id=>Q (.exit id) σ
   | .ret=>Q .ret σ))
  (λc _ _ hx hy σ Q=>ev σ.L c λc=>(match c with
   | .val (.bool true)=>hx σ Q
   | .val (.bool false)=>hy σ Q
   | .pr p _=>Br (p->hx σ Q) (¬p->hy σ Q)
   | .anyb=>Br (hx σ Q) (hy σ Q)
   | _=>False))
  (λid _ hc σ Q=>hc σ λe σ=>(match e with
   | .normal=>Q .normal σ
   |.exit j=>(match Nat.beq j id with
    | true=>Q .normal σ
    | false=>Q (.exit j) σ)
   | .ret=>Q .ret σ))
  (λ_ hc σ Q=>∃(ι:Type) (S:ι->St) (I:ι->Prop) (μ:ι->Nat) (x0:ι),I x0/\Sub σ (S x0)/\
   ∀x,I x->hc (S x) λe σ'=>(match e with
    | .normal=>∃x',I x'/\Sub σ' (S x')/\μ x' < μ x
    | .exit id=>Q (.exit id) σ'
    | .ret=>Q .ret σ'))
  (λg ps assign body _ _ σ Q=>ev σ.L g λs=>(match s with
   | .dfn f caps=>ztx P Γ f caps ps.toList assign body σ Q
   | _=>False))
  (λid σ Q=>Q (.exit id) σ)
  (λ_ _ _ _=>False)
  (λ_ σ Q=>Q .normal σ)
  (λ_ _ _=>False)
  (λσ Q=>Q .ret σ)
  (λ_ _ _=>False)
  c
variable{S:Nat->Prop}{w:World}{f:FuncId}{cs:List SV}{u:Value}
theorem D.dfn_inv(h:D S w (.dfn f cs) u):∃vs:List Value,u=.func (.func f) #[] vs.toArray/\Ds S w cs vs:=by
 cases h with
 | dfn _ _ vs hl h=>exact⟨vs,rfl,hl,h⟩
variable{Pm:Nat->Prop}{ρ:zk}
theorem G.dfn_d(h:G S Pm ρ w (.dfn f cs) u):∃vs:List Value,u=.func (.func f) #[] vs.toArray/\Ds S w cs vs:=by
 cases h with
 | d _ _ h=>exact h.dfn_inv
theorem zbf{P:Program}{Γ:List (TypeId×TI)}(hT:TOK P Γ)(hm:P.follows .mixedOrders=true){E:Env}:∀(c:Code) {E':Env} {σ:St} {Q:Ex->St->Prop} {ρ:zk} {a:Act} {w:World},
  RR E E' σ ρ a w->znT P Γ c σ Q->c.wpIn Fence.wide 0 P (zks E Q) a w
 | .skip,E',σ,Q,ρ,a,w,hr,h=>wpIn_skip ⟨E',σ,ρ,h,hr⟩
 | .region id ops draw,E',σ,Q,ρ,a,w,hr,h=>wpIn_wide.2 (Code.wp_mono (λ_ _ _ hq=>zks.of hr hq) (kX hT hm (.region id ops draw) hr.rel.cut h))
 | .seq x y,E',σ,Q,ρ,a,w,hr,h=>by
  refine wpIn_seq (wpIn_mono (zbf hT hm x hr h) (λe a' w' hq=>?_))
  cases e with
  | normal=>obtain⟨E'',σ',ρ',h',hr'⟩:=hq;exact zbf hT hm y hr' h'
  | exit id=>exact hq
  | ret=>exact hq
  | _=>exact hq.elim
 | .cond c x y,E',σ,Q,ρ,a,w,hr,h=>by
  obtain⟨s,h,hs⟩:=zeh h;have hg:=hs (a:=a) (λt s _ hl=>(hr.rel.regs t s hl).2)
  split at h
  ·exact wpIn_cond_true hg.val_inv (zbf hT hm x hr h)
  ·exact wpIn_cond_false hg.val_inv (zbf hT hm y hr h)
  ·rename_i p i
   by_cases hp:p
   ·exact wpIn_cond_true (by rw[hg.pr_inv];simp[hp]) (zbf hT hm x hr (h.yes hp))
   ·exact wpIn_cond_false (by rw[hg.pr_inv];simp[hp]) (zbf hT hm y hr (h.no hp))
  ·obtain⟨b,hb⟩:=hg.anyb_inv
   cases b with
   | true=>exact wpIn_cond_true hb (zbf hT hm x hr h.yes)
   | false=>exact wpIn_cond_false hb (zbf hT hm y hr h.no)
  ·exact h.elim
 | .block id c,E',σ,Q,ρ,a,w,hr,h=>by
  refine wpIn_block (wpIn_mono (zbf hT hm c hr h) (λe a' w' hq=>?_))
  cases e with
  | normal=>exact hq
  | exit j=>
   obtain⟨E'',σ',ρ',h',hr'⟩:=hq;dsimp only at h';show(if j=id then zks E Q .normal a' w' else zks E Q (.exit j) a' w')
   split at h'
   ·rename_i hb;rw[if_pos (Xg hb)];exact⟨E'',σ',ρ',h',hr'⟩
   ·rename_i hb;rw[if_neg (KH hb)];exact⟨E'',σ',ρ',h',hr'⟩
  | ret=>exact hq
  | _=>exact hq.elim
 | .loop c,E',σ,Q,ρ,a,w,hr,h=>by
  obtain⟨ι,S,I,μ,x0,h0,hsub,hround⟩:=h;obtain⟨ρ0,hr0⟩:=hsub _ ρ a w hr.rel.cut;refine zay (λn a w=>∃x E' ρ,I x/\μ x=n/\RR E E' (S x) ρ a w) (μ x0) ⟨x0,_,ρ0,h0,rfl,hr.next hr0⟩ λn a w hI=>?_
  obtain⟨x,E1,ρ1,h1,rfl,hr1⟩:=hI;refine wpIn_mono (zbf hT hm c hr1 (hround x h1)) (λe a' w' hq=>?_)
  cases e with
  | normal=>
   obtain⟨E2,σ',ρ',⟨x',h2,hs2,hlt⟩,hr'⟩:=hq;obtain⟨ρ2,hr2⟩:=hs2 _ ρ' a' w' hr'.rel.cut;exact⟨μ x',hlt,x',_,ρ2,h2,rfl,hr'.next hr2⟩
  | exit id=>exact hq
  | ret=>exact hq
  | _=>exact hq.elim
 | .exit id,E',σ,Q,ρ,a,w,hr,h=>wpIn_exit ⟨E',σ,ρ,h,hr⟩
 | .ret,E',σ,Q,ρ,a,w,hr,h=>wpIn_ret ⟨E',σ,ρ,h,hr⟩
 | .rangeFunc g ps assign body,E',σ,Q,ρ,a,w,hr,h=>by
  obtain⟨s,h,hs⟩:=zeh h;have hg:=hs (a:=a) (λt s _ hl=>(hr.rel.regs t s hl).2)
  split at h
  ·obtain⟨vs,e,hd⟩:=hg.dfn_d;exact zp0 hT hm hr e hd h
  ·exact h.elim
 | .scope _,_,_,_,_,_,_,_,h=>by cases h
 | .label _,E',σ,Q,ρ,a,w,hr,h=>wpIn_label ⟨E',σ,ρ,h,hr⟩
 | .goto _,_,_,_,_,_,_,_,h=>by cases h
 | .refuse _,_,_,_,_,_,_,_,h=>by cases h
theorem j8.lessS{S':Nat->Prop}{k:Nat}{m:Mem}(hS:∀b,S' b->S b)(h:j8 S Pm ρ w k m):j8 S' Pm ρ w k m:=by
 have hg:∀{s v},G S Pm ρ w s v->G S' Pm ρ w s v:=λh=>h.mono (Xh _) (λb _ hn=>⟨λk=>hn (hS b k),rfl⟩) (λb _ hn=>⟨hn,rfl⟩) λ_ _ h=>h
 cases m with
 | box T cs=>
  obtain⟨b,vs,h1,h2,h3,h4,h5⟩:=h;exact⟨b,vs,h1,h2,h3,h4,λj s v hs' hv=>hg (h5 j s v hs' hv)⟩
 | arr T enc sz xs=>
  obtain⟨v,cells,h1,h2,h3,h4,h5,h6⟩:=h;refine⟨v,cells,h1,h2,h3,h4,h5,λi j x s hx hj=>?_⟩;obtain⟨u,hu,hd⟩:=h6 i j x s hx hj;exact⟨u,hu,hd.less hS⟩
 | garr T sz xs=>
  obtain⟨v,cells,h1,h2,h3,h4,h5,h6⟩:=h;refine⟨v,cells,h1,h2,h3,h4,h5,λi j x s hx hj=>?_⟩;obtain⟨u,hu,hd⟩:=h6 i j x s hx hj;exact⟨u,hu,hg hd⟩
 | map es=>
  obtain⟨r,ents,clock,h1,h2,h3,h4⟩:=h;refine⟨r,ents,clock,h1,h2,h3,λi n s hi=>?_⟩;obtain⟨e,g1,g2,g3⟩:=h4 i n s hi;exact⟨e,g1,g2,g3.less hS⟩
theorem zmk{P:Program}{fn:Func}{tmps:Array Value}{R:Ending->World->Prop}{E:Env}{σ:St}{ρ:zk}(he:E.ds=[]):
  ∀(ds:List Deferred) (w:World),Rel E σ ρ { tmps:=tmps,defers:=[] } w->
   (∀d∈ds,∃D,d={ target:=.collected D,args:=#[] }/\E.w0.heap.size<=D/\w.heap[D]? =some (.deferred (some [])))->
   (ds.Pairwise λd e=>∀D D',d.target=.collected D->e.target=.collected D'->D≠D')->
   (∀w',Rel E σ ρ { tmps:=tmps,defers:=[] } w'->∃v,(results fn tmps).run P w'=.ok v w'/\R (.returned v) w')->LeavesInM Fence.wide 0 P fn tmps R ds .returning w
 | [],w,hr,_,_,hk=>hk w hr
 | d::ds,w,hr,hd,hp,hk=>by
  obtain⟨D,rfl,hge,hD⟩:=hd _ (.head _);rw[X4]at hp;refine⟨by simp,.inl ⟨D,_,rfl,run_takeDeferred hD,zmk he ds _ ?_ (λd hd'=>?_) hp.2 hk⟩⟩
  ·have hs:=hr.stp
   refine⟨hr.size,hr.defers,λt s hl=>⟨(hr.regs t s hl).1,(hr.regs t s hl).2.put hD rfl⟩,hr.mem.put hD rfl (by intro _ _ h;cases h),hr.fresh,
    ⟨hs.os,hs.tape,hs.output.trans (qc.put hD rfl rfl),?_,λb hb hn=>(World.putObj_heap_other oM).trans (hs.block b hb hn),hs.own,hs.rho⟩,hr.keep,hr.low⟩
   rw[World.putObj_size];exact hs.size
  ·obtain⟨D',rfl,hge',hD'⟩:=hd d (.tail _ hd');exact⟨D',rfl,hge',(World.putObj_heap_other λe=>hp.1 _ hd' D D' rfl rfl e.symm).trans hD'⟩
variable{P:Program}{Γ:List (TypeId×TI)}{fn:Func}{c:Code}{r:SV}
theorem zrX(hT:TOK P Γ) (hm:P.follows .mixedOrders=true){args:List SV} {M:List (Nat×Mem)} {Q:Ex->St->Prop}
  (hf:P.funcs[f]? =some fn) (hb:fn.body=some c) (hn:(fn.name== "runtime.NumGoroutine")=false) (hle:Nat.ble args.length fn.ntmps=true)
  (h:znT P Γ c ⟨yf 0 args,M,M.length,fn.ntmps,M.length⟩ Q){M':List (Nat×Mem)}
  (hQ:∀e σ,Q e σ->(∀id,e≠.exit id)->∃s,(∀{E:Env} {ρ:zk} {a:Act} {w:World},Rel E σ ρ a w->∃v,(results fn a.tmps).run P w=.ok v w/\G (λb=>E.Keep b∨Own σ.M ρ b) (Own σ.M ρ) ρ w s v)/\
   ∀{E:Env} {ρ:zk} {a:Act} {w:World} {v:Value},Rel E σ ρ a w->(∀b,E.W0 b↔Own M E.ρ0 b)->(∀k,M.length<=k->E.ρ0 k=none)->G (λb=>E.Keep b∨Own σ.M ρ b) (Own σ.M ρ) ρ w s v->
    ∃ρ',Stp (Own M E.ρ0) (Own M' ρ') E.ρ0 ρ' E.w0 w/\zO E.Keep M' ρ' w/\G (λb=>E.Keep b∨Own M' ρ' b) (Own M' ρ') ρ' w r v)
  (hx:∀id σ,¬Q (.exit id) σ):qI P f args M r M':=by
 refine⟨⟨fn,hf,hn,by rw[hb];rfl⟩,λKeep ρ w vs _ hmem hρ hg=>(callsIn_wide (n:=0)).1 (callsIn_of_wp_marks hf hb trivial ?_ rfl)⟩;have hrel:=zaL (nt:=fn.ntmps) hmem hρ hg (Xw hle);have hrr:RR ⟨w,ρ,Keep,Own M ρ,[]⟩ ⟨w,ρ,Keep,Own M ρ,[]⟩ _ ρ _ w:=⟨hrel,rfl,λ_ h=>h,hrel.stp,λ_ h=>(by cases h),List.Pairwise.nil⟩;refine wpIn_mono (zbf hT hm c hrr h) (λe a' w' hq=>?_)
 have fin:∀e E' σ ρ1,Q e σ->(∀id,e≠.exit id)->RR ⟨w,ρ,Keep,Own M ρ,[]⟩ E' σ ρ1 a' w'->LeavesInM Fence.wide 0 P fn a'.tmps (λe w''=>∃v' ρ',e=.returned v'/\Stp (Own M ρ) (Own M' ρ') ρ ρ' w w''/\
   zO Keep M' ρ' w''/\G (λb=>Keep b∨Own M' ρ' b) (Own M' ρ') ρ' w'' r v') a'.defers .returning w':=by
  intro e E' σ ρ1 hq he hr;obtain⟨s,h1,h2⟩:=hQ e σ hq he;have hds:a'.defers=E'.ds:=hr.rel.defers;rw[hds]
  have hbase:Rel ⟨w,ρ,Keep,Own M ρ,[]⟩ σ ρ1 { tmps:=a'.tmps,defers:=[] } w':=by
   refine⟨hr.rel.size,rfl,λt s hl=>⟨(hr.rel.regs t s hl).1,?_⟩,⟨λk m hk=>(hr.rel.mem.rel k m hk).lessS λb hb=>hb.imp (hr.kp b) id,hr.rel.mem.keys,hr.rel.mem.apart,
    λb hb=>⟨(hr.rel.mem.old b hb).1,λhk=>(hr.rel.mem.old b hb).2 (hr.kp b hk)⟩,λb hb=>hr.rel.mem.kp b (hr.kp b hb),hr.rel.mem.gl⟩,hr.rel.fresh,hr.stp,hrel.keep,λk v hk=>hr.rel.low k v (by rw[hr.rho];exact hk)⟩
   exact(hr.rel.regs t s hl).2.mono (Xh _) (λb _ hn=>⟨λk=>hn (k.imp (hr.kp b) id),rfl⟩) (λb _ hn=>⟨hn,rfl⟩) λ_ _ h=>h
  refine zmk rfl E'.ds w' hbase (λd hd=>?_) hr.apart λw2 hr2=>?_
  ·obtain⟨D,e,_,hge,hh⟩:=hr.marks d hd;exact⟨D,e,hge,hh⟩
  ·obtain⟨v,g1,g2⟩:=h1 hr2;obtain⟨ρ',g3,g4,g5⟩:=h2 hr2 (λ_=>K7) hρ g2;exact⟨v,g1,v,ρ',rfl,g3,g4,g5⟩
 cases e with
 | normal=>obtain⟨E',σ,ρ1,hq,hr⟩:=hq;exact fin _ E' σ ρ1 hq (λ_=>by simp) hr
 | ret=>obtain⟨E',σ,ρ1,hq,hr⟩:=hq;exact fin _ E' σ ρ1 hq (λ_=>by simp) hr
 | exit id=>obtain⟨E',σ,ρ1,hq,hr⟩:=hq;exact absurd hq (hx id σ)
 | _=>exact hq.elim
theorem zdS (n:Nat)(hT:TOK P Γ) (hm:P.follows .mixedOrders=true){args:List SV}
  (hf:P.funcs[f]? =some fn) (hb:fn.body=some c) (hn:(fn.name== "runtime.NumGoroutine")=false) (hle:Nat.ble args.length fn.ntmps=true)
  (h:znT P Γ c ⟨yf 0 args,[],0,fn.ntmps,0⟩ (endF n Γ fn.results.toList r)):qI P f args [] r []:=by
 refine zrX hT hm hf hb hn hle h (λe σ hq he=>?_) (λid σ hq=>hq)
 have hq:zbQ σ Γ fn.results.toList λs=>LE (ziu (zX σ.M) n s) r:=by
  cases e with
  | exit id=>exact absurd rfl (he id)
  | normal=>exact hq
  | ret=>exact hq
 obtain⟨s,hle,h1⟩:=yw hT hq;refine⟨s,h1,λ{E ρ a w v} hr hW _ hg=>⟨ρ,?_,?_,?_⟩⟩
 ·have hs:=hr.stp;exact⟨hs.os,hs.tape,hs.output,hs.size,λb hb hn=>hs.block b hb λh=>hn ((hW b).1 h),λb hb=>absurd hb z0,hs.rho⟩
 ·exact jj hr.mem.kp λ_ _ h=>hr.mem.glc h
 ·have hd:∀{s:SV} {v:Value},G (λb=>E.Keep b∨Own σ.M ρ b) (Own σ.M ρ) ρ w s v->D (λb=>E.Keep b∨Own [] ρ b) w (frz (zX σ.M) n s) v:=λh=>
   (zpY (λk m h=>zA h) hr.mem n h).less λb hb=>hb.resolve_right z0
  refine hle _ _ _ _ _ ?_;unfold ziu
  split
  ·rename_i cs;obtain⟨vs,rfl,hvs⟩:=hg.tup_inv;refine .tup _ vs (by rw[Xz];exact hvs.1) λj s v hs hv=>?_
   rw[XC]at hs
   cases hc:cs[j]? with
   | none=>simp[hc]at hs
   | some c=>
    simp[hc]at hs;subst hs;exact .d _ _ (hd (hvs.2 j c v hc hv))
  ·exact .d _ _ (hd hg)
def zml(all:List Oper)(m:Nat):Bool:=
 let ms:=zbr all all.length
 ziC all&&Nat.ble m all.length&&((all.take m).all λo=>o.guard.isNone)&&(List.range all.length).all λj=>Nat.blt j m||(List.range j).all λi=>(ms.getD j 0).testBit i
theorem zmm{all:List Oper}{m:Nat}(h:zml all m=true):m<=all.length/\(∀i o,i < m->all[i]? =some o->o.guard=none)/\
  (∀j o,all[j]? =some o->∀e∈o.after,Region.binds .any e=true->e.on < j)/\∀i j,m<=j->j < all.length->i < j->Anc all j i:=by
 unfold zml at h;simp only[Xx]at h;obtain⟨⟨⟨h1,h2⟩,h3⟩,h4⟩:=h;refine⟨Xw h2,λi o hi ho=>?_,λj o ho e he hb=>?_,λi j hm hj hij=>?_⟩
 ·have hmem:o∈all.take m:=Xd (i:=i) (by rw[Xv,if_pos hi];exact ho);have:=XN.1 h3 o hmem
  simpa using this
 ·have hjl:j < all.length:=(Xc.1 ho).1;unfold ziC at h1;have:=XN.1 h1 j (Kj.2 hjl);simp only[ho]at this;have:=XN.1 this e (by simpa using he);simp only[hb,Qq,QE]at this;exact Xw this
 ·have:=XN.1 h4 j (Kj.2 hj)
  have hb:Nat.blt j m=false:=by
   cases hb:Nat.blt j m with
   | false=>rfl
   | true=>have:j+1<=m:=Xw hb;omega
  simp only[hb,QE]at this;exact zdv all all.length j i hj (XN.1 this i (Kj.2 hij))
theorem zdT{ops:List Oper}{listed:Array Bool}{i:Nat}(hsz:listed.size=ops.length):i∈Region.ready .any ops.toArray listed↔
  ∃o,ops[i]? =some o/\listed.getD i false=false/\∀e∈o.after,Region.binds .any e=true->listed.getD e.on false=true:=by
 rw[zej]
 have key:∀o,ops[i]? =some o->listed.getD i true=listed.getD i false:=λo ho=>by
  have:i < listed.size:=by have:=(Xc.1 ho).1;omega
  simp[Array.getD,this]
 exact⟨λ⟨o,h1,h2,h3⟩=>⟨o,h1,(key o h1) ▸ h2,h3⟩,λ⟨o,h1,h2,h3⟩=>⟨o,h1,(key o h1).symm ▸ h2,h3⟩⟩
def zp1(R:Act->World->Prop):Exit->Act->World->Prop
 | .normal,a,w=>R a w
 | _,_,_=>False
theorem Oper.wp_only{o:Oper} {a:Act}{K K':Act->World->Prop} {R:Act->World->Prop} {Q:Exit->Act->World->Prop} (h:∀a w,K a w->K' a w)
  (hh:o.wp P a w K (zp1 R)):o.wp P a w K' Q:=by
 unfold Oper.wp at*;generalize (execOp a.eval o).run P w=r at*;have no:¬LetsOut (zp1 R):=λ⟨_,_,k⟩=>k
 cases r with
 | ok n w'=>
  cases n <;> simp only[Oper.upon]at hh ⊢ <;>
   first
    | exact h _ _ hh
    | exact Calls.mono hh (λe w'' he=>by cases e <;> first | exact h _ _ he | exact he.elim | exact(no he).elim)
    | exact Rows.mono hh (λ_ _ he=>h _ _ he)
 | halt x w'=>cases x <;> simp only[Oper.upon]at hh ⊢ <;> exact hh.elim
end
section
variable {F:Fence} {n:Nat} {P:Program} {all:List Oper} {Q:Exit->Act->World->Prop} {m:Nat}
theorem zzZ(hedges:∀j o,all[j]? =some o->∀e∈o.after,Region.binds .any e=true->e.on < j)(hanc:∀i j,m<=j->j < all.length->i < j->Anc all j i):
  ∀(k fuel j:Nat) (la:Array Bool) (a:Act) (w:World),k=all.length - j->m<=j->j<=all.length->all.length - j<=fuel->la.size=all.length->(∀i,la.getD i false=true↔i < j)->
   wpListIn F n P all.toArray Q (all.drop j) a w->wpAnyIn F n P .any all.toArray Q fuel la a w:=by
 intro k
 induction k with
 | zero=>
  intro fuel j la a w hk hm hj hf hsz hla h;have hj:j=all.length:=oM;subst hj;rw[List.drop_length]at h;have h:Q .normal a w:=h
  have hr:Region.ready .any all.toArray la=[]:=by
   cases hr:Region.ready .any all.toArray la with
   | nil=>rfl
   | cons i r=>
    have hi:i∈Region.ready .any all.toArray la:=by rw[hr];exact .head _
    obtain⟨o,ho,h2,_⟩:=(zdT hsz).1 hi;have:=(hla i).2 (Xc.1 ho).1;rw[h2]at this;cases this
  cases fuel with
  | zero=>exact⟨hr,h⟩
  | succ fuel=>exact⟨λ_=>h,λi hi=>(by rw[hr]at hi;cases hi)⟩
 | succ k ih=>
  intro fuel j la a w hk hm hj hf hsz hla h;have hjl:j < all.length:=oM;obtain⟨o,ho⟩:∃o,all[j]? =some o:=⟨_,Xb hjl⟩
  cases fuel with
  | zero=>omega
  | succ fuel=>
  have hnot:∀i,¬i < j->la.getD i false=false:=λi hi=>by
   cases hb:la.getD i false with
   | false=>rfl
   | true=>exact absurd ((hla i).1 hb) hi
  have hready:j∈Region.ready .any all.toArray la:=(zdT hsz).2 ⟨o,ho,hnot j (Yv j),λe he hb=>(hla _).2 (hedges j o ho e he hb)⟩;refine⟨λhn=>(by rw[hn]at hready;cases hready),λi hi=>?_⟩;obtain⟨oi,hoi,h2,h3⟩:=(zdT hsz).1 hi;have hil:=(Xc.1 hoi).1;have hge:¬i < j:=λhlt=>by rw[(hla i).2 hlt]at h2;cases h2
  have hij:i=j:=by
   refine XL λhne=>?_
   have hD:=hanc j i oM hil oM (λq=>la.getD q false=true) (λq oq hq hoq e he hb=>(hla _).2 (by have:=hedges q oq hoq e he hb;have:=(hla q).1 hq;omega))
    (λo' ho' e he hb=>by rw[hoi]at ho';cases ho';exact h3 e he hb)
   exact absurd ((hla j).1 hD) (Yv j)
  subst hij
  have hnext:∀a w,wpListIn F n P all.toArray Q (all.drop (i+1)) a w->wpAnyIn F n P .any all.toArray Q fuel (la.setIfInBounds i true) a w:=λa w hh=>
   ih fuel (i+1) _ a w oM oM oM oM (by simpa using hsz) (λq=>by
    by_cases e:i=q
    ·subst e;have:i < la.size:=oM;simp[Array.getD,this]
    ·simp only[X2,KM e]
     rw[← X2,hla q];omega) hh
  rw[KG hjl]at h;have eo:all[i]=o:=by rw[Xb hjl]at ho;exact Xi ho
  rw[eo]at h;unfold wpListIn at h;unfold wpOpIn;have ho':all.toArray[i]? =some o:=by simpa using ho
  rw[ho'];dsimp only
  split
  ·rename_i hw;rw[if_pos hw]at h;exact Oper.wpIn_mono hnext h
  ·rename_i hw;rw[if_neg hw]at h;exact⟨h.1,hnext _ _ h.2⟩
theorem zxT(hF:ul F)(hd:um all=true)(ht:zml all m=true){R:Act->World->Prop}(hR:∀a w,R a w->wpListIn F n P all.toArray Q (all.drop m) a w):
  ∀(fuel:Nat) (lp la:Array Bool) (a:Act) (w:World),lp.size=m->la.size=all.length->(∀i,i < m->la.getD i false=lp.getD i false)->(∀i,m<=i->la.getD i false=false)->
   Down all (λi=>la.getD i false=true)->wpAny P .any (all.take m).toArray (zp1 R) fuel lp a w->lp.toList.count false<=fuel->wpAnyIn F n P .any all.toArray Q (fuel+(all.length - m)) la a w:=by
 obtain⟨hm,hgd,hedges,hanc⟩:=zmm ht;have hlen:(all.take m).length=m:=by rw[Xk];omega
 have hto:∀{i o},(all.take m)[i]? =some o->i < m/\all[i]? =some o:=λ{i o} h=>by
  have hi:i < m:=by have:=(Xc.1 h).1;omega
  rw[Xv,if_pos hi]at h;exact⟨hi,h⟩
 have hback:∀{i o},i < m->all[i]? =some o->(all.take m)[i]? =some o:=λ{i o} hi h=>by rw[Xv,if_pos hi];exact h
 -- all of the first are listed
 have full:∀(lp la:Array Bool) (a:Act) (w:World) (fuel:Nat),la.size=all.length->(∀i,i < m->la.getD i false=lp.getD i false)->(∀i,m<=i->la.getD i false=false)->
   (∀i,i < m->lp.getD i false=true)->all.length - m<=fuel->R a w->wpAnyIn F n P .any all.toArray Q fuel la a w:=λlp la a w fuel hsz h1 h2 h3 hf hr=>
  zzZ hedges hanc _ fuel m la a w rfl (Xh m) hm hf hsz (λi=>by
   by_cases hi:i < m
   ·rw[h1 i hi,h3 i hi];simp[hi]
   ·rw[h2 i oM];simp[hi]) (hR a w hr)
 have hdone:∀(lp:Array Bool),lp.size=m->Region.ready .any (all.take m).toArray lp=[]->∀i,i < m->lp.getD i false=true:=λlp hsz hn i=>by
  induction i using Nat.strongRecOn with
  | _ i ih=>
   intro hi
   cases hb:lp.getD i false with
   | true=>rfl
   | false=>
    obtain⟨o,ho⟩:∃o,all[i]? =some o:=⟨_,Xb (show i < all.length by omega)⟩
    have:i∈Region.ready .any (all.take m).toArray lp:=(zdT oM).2 ⟨o,hback hi ho,hb,λe he hbind=>by
     have:=hedges i o ho e he hbind
     exact ih e.on this oM⟩
    rw[hn]at this;cases this
 intro fuel
 induction fuel with
 | zero=>
  intro lp la a w hsp hsa h1 h2 hD h hc;refine full lp la a w _ hsa h1 h2 (λi hi=>?_) oM h.2;have hi':i < lp.size:=oM
  cases hb:lp.getD i false with
  | true=>rfl
  | false=>
   have:false∈lp.toList:=by
    simp[Array.getD,hi']at hb;rw[← hb];simp
   have:=Q7.2 this;omega
 | succ fuel ih=>
  intro lp la a w hsp hsa h1 h2 hD h hc
  cases hr:Region.ready .any (all.take m).toArray lp with
  | nil=>exact full lp la a w _ hsa h1 h2 (hdone lp hsp hr) oM (h.1 hr)
  | cons i0 r0=>
  have hi0:i0∈Region.ready .any (all.take m).toArray lp:=by rw[hr];exact .head _
  obtain⟨o0,ho0,hl0,he0⟩:=(zdT oM).1 hi0;obtain⟨hlt0,ho0⟩:=hto ho0;rw[show fuel+1+(all.length - m)=(fuel+(all.length - m))+1 by omega]
  have up:∀{i o},i < m->all[i]? =some o->(∀e∈o.after,Region.binds .any e=true->lp.getD e.on false=true)->∀e∈o.after,Region.binds .any e=true->la.getD e.on false=true:=λ{i o} hi ho hh e he hb=>by
   rw[h1 _ (by have:=hedges i o ho e he hb;omega)];exact hh e he hb
  refine⟨λhn=>?_,λi hi=>?_⟩
  ·have:i0∈Region.ready .any all.toArray la:=(zdT hsa).2 ⟨o0,ho0,by rw[h1 _ hlt0];exact hl0,up hlt0 ho0 he0⟩;rw[hn]at this;cases this
  ·obtain⟨o,ho,hl,he⟩:=(zdT hsa).1 hi;have hil:=(Xc.1 ho).1
   have him:i < m:=by
    refine XL λhge=>?_
    have:=hanc i0 i oM hil oM _ hD λo' ho' e he' hb=>by rw[ho]at ho';cases ho';exact he e he' hb
    rw[h1 _ hlt0,hl0]at this;cases this
   have hip:i∈Region.ready .any (all.take m).toArray lp:=(zdT oM).2 ⟨o,hback him ho,by rw[← h1 _ him];exact hl,λe he' hb=>by
    rw[← h1 _ (by have:=hedges i o ho e he' hb;omega)];exact he e he' hb⟩
   have hop:=h.2 i hip;have hi':i < lp.size:=oM;have hjf:lp[i]=false:=by have:=h1 i him;rw[hl]at this;simpa[Array.getD,hi'] using this.symm
   have hnext:∀a w,wpAny P .any (all.take m).toArray (zp1 R) fuel (lp.setIfInBounds i true) a w->wpAnyIn F n P .any all.toArray Q (fuel+(all.length - m)) (la.setIfInBounds i true) a w:=λa w hh=>by
    have set1:∀(A:Array Bool) (q:Nat),i < A.size->((A.setIfInBounds i true).getD q false=true↔q=i∨A.getD q false=true):=λA q hA=>by
     by_cases e:i=q
     ·subst e;simp[Array.getD,hA]
     ·simp only[X2,KM e];exact⟨.inr,λh=>h.resolve_left λk=>e k.symm⟩
    refine ih _ _ a w (by simpa using hsp) (by simpa using hsa) (λq hq=>?_) (λq hq=>?_) (λq oq hq hoq e he' hb=>?_) hh ?_
    ·have e1:=set1 lp q hi';have e2:=set1 la q oM;rw[h1 q hq,← e1]at e2;exact Qj.2 e2
    ·have hne:i≠q:=by omega
     simp only[X2,KM hne];rw[← X2];exact h2 q hq
    ·refine(set1 la _ oM).2 (.inr ?_)
     rcases(set1 la q oM).1 hq with rfl | hq
     ·rw[ho]at hoq;cases hoq;exact he e he' hb
     ·exact hD q oq hq hoq e he' hb
    ·have hmem:false∈lp.toList:=by rw[← hjf];simp
     have hpos:=Q7.2 hmem
     have:(lp.setIfInBounds i true).toList.count false=lp.toList.count false - 1:=by
      rw[QI,List.count_set (by simpa using hi')];simp[hjf]
     omega
   have hg:=hgd i o him ho;have hw:∀y,Region.wanted o y=true:=λy=>by unfold Region.wanted;rw[hg]
   have hop':(all.take m).toArray[i]? =some o:=by simpa using hback him ho
   have ho':all.toArray[i]? =some o:=by simpa using ho
   unfold wpOp at hop;unfold wpOpIn;rw[hop']at hop;rw[ho'];dsimp only at hop ⊢;rw[if_pos (hw _)]at hop ⊢;have hop:=hop.resolve_right λk=>by obtain⟨_,_,_,k⟩:=k;exact k
   exact hF.op (zkp hd (o:=o) (Xd ho)) (Oper.wp_only hnext hop)
theorem zp2 (hF:ul F) (hm:P.follows .mixedOrders=true) {Γ:List (TypeId×TI)} (hT:TOK P Γ) {E:Env} {id:Nat} {ops:Array Oper} {K:St->Prop} {σ:St} {ρ:zk} {a:Act} {w:World}
  (hd:um ops.toList=true) (ht:zml ops.toList m=true) (hr:Rel E σ ρ a w) (hord:vq (ops.toList.take m)=true) (h:vh P Γ true (ops.toList.take m) (ops.toList.take m) 0 σ K)
  (hK:∀σ ρ a w,K σ->Rel E σ ρ a w->wpListIn F n P ops Q (ops.toList.drop m) a w):(Code.region id ops true).wpIn F n P Q a w:=by
 have hml:=(zmm ht).1;have hpre:=zdx (Q:=zp1 λa w=>wpListIn F n P ops Q (ops.toList.drop m) a w) (ops:=(ops.toList.take m).toArray) hT hr (by simpa using hord) (by simpa using h) hK
 have hsz:(ops.toList.take m).toArray.size=m:=by
  have:ops.toList.length=ops.size:=by simp
  simp only[Kz,Xk];omega
 rw[hsz]at hpre;refine wpIn_region_any hm ?_
 have:=zxT (F:=F) (n:=n) (Q:=Q) hF hd ht (R:=λa w=>wpListIn F n P ops Q (ops.toList.drop m) a w) (λa w h=>by simpa using h) m (Array.replicate m false) (Array.replicate ops.size false) a _ (by simp) (by simp)
  (λi hi=>by simp[Array.getD]) (λi hi=>by simp[Array.getD]) (λi o hi=>by simp[Array.getD]at hi) hpre (by simp)
 rw[show m+(ops.toList.length - m)=ops.size by
  have:ops.toList.length=ops.size:=by simp
  omega]at this
 simpa using this
end
def isY(L:List (Nat×SV))(o:Oper):Bool:=
 match o.op with
 |.call c=>(match c.callee with
  |.value (.tmp t)=>(match qe L t with
   | some (.val (.func (.yield _) _ _))=>true
   | _=>false)
  | _=>false)
 | _=>false
def zcP:List (Nat×SV)->List (Nat×SV)
 | []=>[]
 | (t,s)::r=>match pfS s with
  | true=>(t,s)::zcP r
  | false=>(t,.junk)::zcP r
theorem zfu:∀{L:List (Nat×SV)} {t:Nat} {s:SV},qe (zcP L) t=some s->s=.junk∨(qe L t=some s/\pfS s=true)
 | [],_,_,h=>by cases h
 | (k,s0)::r,t,s,h=>by
  unfold zcP at h;rw[kL]
  split at h
  ·rename_i hp;rw[kL]at h
   by_cases e:k=t
   ·rw[if_pos e]at h ⊢;cases h;exact .inr ⟨rfl,hp⟩
   ·rw[if_neg e]at h ⊢;exact zfu h
  ·rw[kL]at h
   by_cases e:k=t
   ·rw[if_pos e]at h;cases h;exact .inl rfl
   ·rw[if_neg e]at h ⊢;exact zfu h
theorem zu5{L:List (Nat×SV)}{t:Nat}{s:SV}(h:qe (zcP L) t=some s):∃s',qe L t=some s':=by
 induction L with
 | nil=>cases h
 | cons p r ih=>
  obtain⟨k,s0⟩:=p;rw[kL]
  by_cases e:k=t
  ·rw[if_pos e];exact⟨_,rfl⟩
  ·rw[if_neg e];refine ih ?_;unfold zcP at h
   split at h <;> (rw[kL,if_neg e]at h;exact h)
def St.yput(σ:St)(d:Option Tmp)(s:SV):St:=⟨putL (zcP σ.L) d s,σ.M,σ.nk,σ.nt,σ.n0⟩
def zrY(all:List Oper)(o:Oper)(σ:St)(run skip:St->Prop):Prop:=
 match o.guard with
 | none=>run σ
 |some (j,want)=>(match zdi all j with
  | none=>False
  |some t=>(match qe σ.L t with
   |some (.val (.bool true))=>(match want with
    | true=>run σ
    | false=>skip σ)
   |some (.val (.bool false))=>(match want with
    | false=>run σ
    | true=>skip σ)
   |some (.pr p _)=>(match want with
    | true=>Br (p->run (σ.put (some t) (.val (.bool true)))) (¬p->skip (σ.put (some t) (.val (.bool false))))
    | false=>Br (p->skip (σ.put (some t) (.val (.bool true)))) (¬p->run (σ.put (some t) (.val (.bool false)))))
   | some (.val (.tuple _))=>skip σ
   | _=>False))
theorem zp3{all:List Oper}{o:Oper}{σ:St}{run skip:St->Prop}(h:zrY all o σ run skip){E:Env}{ρ:zk}{a:Act}{w:World}(hr:Rel E σ ρ a w):
  ∃σ' b,jf all σ' o b/\Rel E σ' ρ a w/\(σ'.M=σ.M/\σ'.nt=σ.nt)/\((b=true/\run σ')∨(b=false/\skip σ')):=by
 unfold zrY at h
 split at h
 ·rename_i hg;exact⟨σ,true,by simp[jf,hg],hr,⟨rfl,rfl⟩,.inl ⟨rfl,h⟩⟩
 ·rename_i j want hg
  split at h
  ·exact h.elim
  ·rename_i t ht
   have gv:∀{σ':St} {v:Value},qe σ'.L t=some (.val v)->jf all σ' o (zsJ v want):=λhl=>by
    unfold jf;rw[hg];exact⟨t,_,ht,hl,rfl⟩
   have gi:∀{σ':St} {b:Bool},qe σ'.L t=some (.val (.bool b))->jf all σ' o (b==want):=λhl=>gv hl
   have put_look:∀(s1:SV),qe (σ.put (some t) s1).L t=some s1:=λs1=>by
    show qe ((t,s1)::σ.L) t=some s1;rw[kL];simp
   split at h
   ·rename_i hl
    split at h
    ·exact⟨σ,_,gi hl,hr,⟨rfl,rfl⟩,.inl ⟨rfl,h⟩⟩
    ·exact⟨σ,_,gi hl,hr,⟨rfl,rfl⟩,.inr ⟨rfl,h⟩⟩
   ·rename_i hl
    split at h
    ·exact⟨σ,_,gi hl,hr,⟨rfl,rfl⟩,.inl ⟨rfl,h⟩⟩
    ·exact⟨σ,_,gi hl,hr,⟨rfl,rfl⟩,.inr ⟨rfl,h⟩⟩
   ·rename_i p ip hl
    by_cases hp:p
    ·have hr':=hr.refine hl (zcw hp)
     split at h
     ·exact⟨_,_,gi (put_look _),hr',⟨rfl,rfl⟩,.inl ⟨rfl,h.yes hp⟩⟩
     ·exact⟨_,_,gi (put_look _),hr',⟨rfl,rfl⟩,.inr ⟨rfl,h.yes hp⟩⟩
    ·have hr':=hr.refine hl (za2 hp)
     split at h
     ·exact⟨_,_,gi (put_look _),hr',⟨rfl,rfl⟩,.inr ⟨rfl,h.no hp⟩⟩
     ·exact⟨_,_,gi (put_look _),hr',⟨rfl,rfl⟩,.inl ⟨rfl,h.no hp⟩⟩
   ·rename_i hl;exact⟨σ,_,gv hl,hr,⟨rfl,rfl⟩,.inr ⟨rfl,h⟩⟩
   ·exact h.elim
def yIs(L:List (Nat×SV))(c:Call)(l:Nat):Prop:=
 match c.callee with
 | .value (.tmp t)=>qe L t=some (.val (.func (.yield l) #[] #[]))
 | _=>False
def zxU(l:Nat){α:Type}(enc:α->List SV)(xs:List α)(o:Oper)(σ:St)(i:Nat)(b:Bool)(K:St->Nat->Bool->Prop):Prop:=
 match o.op with
 |.call c=>(match b with
  | true=>False
  | false=>evs σ.L c.args.toList λsvs=>yIs σ.L c l/\∃x,xs[i]? =some x/\uF.scalars (enc x)=true/\LEs svs (enc x)/\zkr σ.M/\
   zlz o.dst σ.nt (Br (K (σ.yput o.dst (.val (.bool true))) (i+1) false) (K (σ.yput o.dst (.val (.bool false))) i true)))
 | _=>False
def zdU(P:Program)(Γ:List (TypeId×TI))(l:Nat){α:Type}(enc:α->List SV)(xs:List α)(all r:List Oper):Nat->St->Nat->Bool->(St->Nat->Bool->Prop)->Prop:=
 List.rec (motive:=λ_=>Nat->St->Nat->Bool->(St->Nat->Bool->Prop)->Prop) (λ_ σ i b K=>K σ i b) (λo _ ih j σ i b K=>match isY σ.L o with
  | false=>vh P Γ false all [o] j σ λσ'=>ih (j+1) σ' i b K
  | true=>zrY all o σ (λσ'=>zxU l enc xs o σ' i b λσ' i b=>ih (j+1) σ' i b K) (λσ'=>zar o σ' λσ'=>ih (j+1) σ' i b K)) r
inductive YDr (A:Prop) (B:Nat->Prop):Prop
 | plain (h:A)
 | split (m:Nat) (h:B m)
def vcIt(P:Program)(Γ:List (TypeId×TI))(l:Nat){α:Type}(enc:α->List SV)(xs:List α)(c:Code):St->Nat->Bool->(Ex->St->Nat->Bool->Prop)->Prop:=
 Code.rec (motive:=λ_=>St->Nat->Bool->(Ex->St->Nat->Bool->Prop)->Prop)
  (λσ i b Q=>Q .normal σ i b)
  (λid ops draw σ i b Q=>match draw with
   |false=>(match um ops.toList with
    | true=>zdU P Γ l enc xs ops.toList ops.toList 0 σ i b (Q .normal)
    | false=>False)
   |true=>YDr (jP P Γ (.region id ops true) σ λe σ=>(match e with
    | .normal=>Q .normal σ i b
    |_=>False)) λm=>Ob (uD (um ops.toList) (uD (zml ops.toList m) (vq (ops.toList.take m)))=true)
     (vh P Γ true (ops.toList.take m) (ops.toList.take m) 0 σ λσ=>zdU P Γ l enc xs ops.toList (ops.toList.drop m) m σ i b (Q .normal)))
  (λ_ _ ha hb σ i b Q=>ha σ i b λe σ i b=>(match e with
   | .normal=>hb σ i b Q
   | .exit id=>Q (.exit id) σ i b
   | .ret=>Q .ret σ i b))
  (λc _ _ hx hy σ i b Q=>ev σ.L c λc=>(match c with
   | .val (.bool true)=>hx σ i b Q
   | .val (.bool false)=>hy σ i b Q
   | .pr p _=>Br (p->hx σ i b Q) (¬p->hy σ i b Q)
   | .anyb=>Br (hx σ i b Q) (hy σ i b Q)
   | _=>False))
  (λid _ hc σ i b Q=>hc σ i b λe σ i b=>(match e with
   | .normal=>Q .normal σ i b
   |.exit j=>(match Nat.beq j id with
    | true=>Q .normal σ i b
    | false=>Q (.exit j) σ i b)
   | .ret=>Q .ret σ i b))
  (λ_ hc σ i b Q=>∃(ι:Type) (S:ι->St) (T:ι->Nat) (I:ι->Prop) (μ:ι->Nat) (x0:ι),I x0/\Sub σ (S x0)/\i=T x0/\b=false/\
   ∀x,I x->hc (S x) (T x) false λe σ' i' b'=>(match e with
    | .normal=>∃x',I x'/\Sub σ' (S x')/\i'=T x'/\b'=false/\μ x' < μ x
    | .exit id=>Q (.exit id) σ' i' b'
    | .ret=>Q .ret σ' i' b'))
  (λ_ _ _ _ _ _ _ _ _ _=>False)
  (λid σ i b Q=>Q (.exit id) σ i b)
  (λ_ _ _ _ _ _=>False)
  (λ_ σ i b Q=>Q .normal σ i b)
  (λ_ _ _ _ _=>False)
  (λσ i b Q=>Q .ret σ i b)
  (λ_ _ _ _ _=>False)
  c
section it
variable {P:Program} {Γ:List (TypeId×TI)} {α:Type} {enc:α->List SV} {xs:List α} {l:Nat} {J:Nat->(Nat->Prop)->(Nat->Prop)->World->Prop} {Jx:(Nat->Prop)->(Nat->Prop)->World->Prop}
section
def Jt(J:Nat->(Nat->Prop)->(Nat->Prop)->World->Prop)(Jx:(Nat->Prop)->(Nat->Prop)->World->Prop)(i:Nat)(b:Bool):(Nat->Prop)->(Nat->Prop)->World->Prop:=
 match b with
 | false=>J i
 | true=>Jx
structure RI (J:Nat->(Nat->Prop)->(Nat->Prop)->World->Prop) (Jx:(Nat->Prop)->(Nat->Prop)->World->Prop) (E:Env) (SA SB:Nat->Prop) (σ:St) (i:Nat) (b:Bool) (ρ:zk) (a:Act) (w:World):Prop where
 rel:Rel E σ ρ a w
 ds:E.ds=[]
 sa:∀b,SA b->E.Keep b
 sb:∀b,Own σ.M ρ b->SB b
 dj:∀b,SB b->¬SA b/\b < w.heap.size
 lt:∀b,SA b->b < w.heap.size
 j:Jt J Jx i b SA SB w
def zp4(J:Nat->(Nat->Prop)->(Nat->Prop)->World->Prop)(Jx:(Nat->Prop)->(Nat->Prop)->World->Prop)(Q:Ex->St->Nat->Bool->Prop):Exit->Act->World->Prop
 | .normal,a,w=>∃E SA SB σ i b ρ,Q .normal σ i b/\RI J Jx E SA SB σ i b ρ a w
 | .exit id,a,w=>∃E SA SB σ i b ρ,Q (.exit id) σ i b/\RI J Jx E SA SB σ i b ρ a w
 | .ret,a,w=>∃E SA SB σ i b ρ,Q .ret σ i b/\RI J Jx E SA SB σ i b ρ a w
 | _,_,_=>False
variable{E:Env}{SA:Nat->Prop}{SB:Nat->Prop}{σ:St}{σ':St}{i:Nat}{b:Bool}{ρ:zk}{a:Act}{w:World}{w':World}
theorem RI.next{ρ':zk}{a':Act}
  (hS:∀i b SA SB SB' W W',Jt J Jx i b SA SB W->Mv SB SB' W W'->(∀b,SB' b->¬SA b/\b < W'.heap.size)->Jt J Jx i b SA SB' W')
  (h:RI J Jx E SA SB σ i b ρ a w) (h':Rel ⟨w,E.ρ0,E.Keep,Own σ.M ρ,E.ds⟩ σ' ρ' a' w'):RI J Jx ⟨w,E.ρ0,E.Keep,Own σ.M ρ,E.ds⟩ SA (λb=>SB b∨Own σ'.M ρ' b) σ' i b ρ' a' w':=by
 have hs:=h'.stp
 have hdj:∀b,(SB b∨Own σ'.M ρ' b)->¬SA b/\b < w'.heap.size:=λb hb=>hb.elim (λhb=>⟨(h.dj b hb).1,Xr (h.dj b hb).2 hs.size⟩)
  λho=>⟨λhk=>(h'.mem.old b ho).2 (h.sa b hk),(h'.mem.old b ho).1⟩
 refine⟨h',h.ds,h.sa,λ_ hb=>.inr hb,hdj,λb hb=>Xr (h.lt b hb) hs.size,hS i b SA SB _ w w' h.j ⟨⟨hs.os,hs.tape,hs.output,hs.size,λb hb hn=>hs.block b hb λho=>hn (h.sb b ho),λb hb=>?_,λ_ _ h=>h⟩,λg v hg _=>h'.mem.glc hg⟩ hdj⟩;exact hb.elim .inl λho=>(hs.own b ho).imp (h.sb b) id
theorem RI.sub
  (hS:∀i b SA SB SB' W W',Jt J Jx i b SA SB W->Mv SB SB' W W'->(∀b,SB' b->¬SA b/\b < W'.heap.size)->Jt J Jx i b SA SB' W')
  (h:RI J Jx E SA SB σ i b ρ a w) (hs:Sub σ σ'):∃E SB ρ,RI J Jx E SA SB σ' i b ρ a w:=by
 obtain⟨ρ',hr⟩:=hs _ ρ a w h.rel.cut;exact⟨_,_,ρ',h.next hS hr⟩
theorem zu6 {o:Oper} {c:Call} {t:Nat} (ho:o.op=.call c) (hc:c.callee=.value (.tmp t))(hf:a.eval (.tmp t)=.func (.yield l) #[] #[]) {n:Next}{args:List Value}
  (ha:c.args.toList.map a.eval=args) (h:(Instr.yield l (List.toArray args)).run P w=.ok n w') (ro:Option Nat):(o.semAt ro a.eval).run P w=.ok n w':=by
 rw[Oper.semAt_eq _ _ _ (by rw[ho];intro c h;cases h)];have hmap:c.args.map a.eval=List.toArray args:=by apply QA;simp[ha]
 simp only[execOp,ho,resolve,hc,hf,hmap,Deferred.ofValue,invoke,Sem.run_bind,Sem.run_pure,Result.andThen_ok]
 simpa using h
end
end it
section it
variable {P:Program} {Γ:List (TypeId×TI)} {α:Type} {enc:α->List SV} {xs:List α} {l:Nat} {J:Nat->(Nat->Prop)->(Nat->Prop)->World->Prop} {Jx:(Nat->Prop)->(Nat->Prop)->World->Prop}
def zxV(J:Nat->(Nat->Prop)->(Nat->Prop)->World->Prop)(Jx:(Nat->Prop)->(Nat->Prop)->World->Prop):Prop:=
 ∀i b SA SB SB' W W',Jt J Jx i b SA SB W->Mv SB SB' W W'->(∀b,SB' b->¬SA b/\b < W'.heap.size)->Jt J Jx i b SA SB' W'
def zxW(P:Program)(l:Nat)(enc:α->List SV)(xs:List α)(J:Nat->(Nat->Prop)->(Nat->Prop)->World->Prop)(Jx:(Nat->Prop)->(Nat->Prop)->World->Prop):Prop:=
 ∀i x SA SB W args,xs[i]? =some x->J i SA SB W->(∀b,SA b->b < W.heap.size)->(∀b,SB b->¬SA b/\b < W.heap.size)->Ds (λb=>SA b∨SB b) W (enc x) args->
  YieldAt Fence.wide 0 P l (List.toArray args) W λe W'=>∃SA':Nat->Prop,Mv SA SA' W W'/\(∀b,SA' b->¬SB b/\b < W'.heap.size)/\
   ((e=.returned (.bool true)/\J (i+1) SA' SB W')∨(e=.returned (.bool false)/\Jx SA' SB W'))
theorem zxX{L:List (Nat×SV)}{o:Oper}(h:isY L o=true):∃c t l' a b,o.op=.call c/\c.callee=.value (.tmp t)/\qe L t=some (.val (.func (.yield l') a b)):=by
 unfold isY at h
 split at h
 ·rename_i c hc
  split at h
  ·rename_i t ht
   split at h
   ·rename_i l' a b hl;exact⟨c,t,l',a,b,hc,ht,hl⟩
   ·cases h
  ·cases h
 ·cases h
theorem zu7{S S' Pm:Nat->Prop}{ρ:zk}{w w':World}{svs:List SV}{vs:List Value}(hs:uF.scalars svs=true)(h:Gs S Pm ρ w svs vs):Ds S' w' svs vs:=
 ⟨h.1,λj s v h1 h2=>vP (u0 hs j s h1) (h.2 j s v h1 h2)⟩
theorem zmn (hT:TOK P Γ) (hS:zxV J Jx) (hY:zxW P l enc xs J Jx)
  {all:List Oper} {Q:Ex->St->Nat->Bool->Prop}:∀{r:List Oper} {j:Nat} {E:Env} {SA SB:Nat->Prop} {σ:St} {i:Nat} {b:Bool} {ρ:zk} {a:Act} {w:World},um r=true->RI J Jx E SA SB σ i b ρ a w->
   zdU P Γ l enc xs all r j σ i b (Q .normal)->wpListIn Fence.wide 0 P all.toArray (zp4 J Jx Q) r a w
 | [],j,E,SA,SB,σ,i,b,ρ,a,w,_,hr,h=>⟨E,SA,SB,σ,i,b,ρ,h,hr⟩
 | o::r,j,E,SA,SB,σ,i,b,ρ,a,w,hd,hr,h=>by
  have hd':zpZ o=true/\um r=true:=by unfold um at hd ⊢;rw[Yu,Xx]at hd;exact hd
  simp only[zdU]at h
  split at h
  ·-- an operation like any other
   obtain⟨σ',run,svs,s,md,h1,hg,href,hdst,hrun⟩:=zf0 hT hr.rel h;have h1:zdU P Γ l enc xs all r (j+1) (σ'.app o.dst s md) i b (Q .normal):=h1
   have hr':Rel E σ' ρ a w:=by
    rcases href with rfl | ⟨t,s0,s1,h2,h3,rfl⟩
    ·exact hr.rel
    ·exact hr.rel.refine h2 h3
   have hnt:σ'.nt=σ.nt:=by rcases href with rfl | ⟨t,s0,s1,h2,h3,rfl⟩ <;> rfl
   have hM:σ'.M=σ.M:=by rcases href with rfl | ⟨t,s0,s1,h2,h3,rfl⟩ <;> rfl
   have hri:RI J Jx E SA SB σ' i b ρ a w:=⟨hr',hr.ds,hr.sa,λb hb=>hr.sb b (hM ▸ hb),hr.dj,hr.lt,hr.j⟩;have hcut:=hr'.cut;unfold wpListIn;rw[hr'.wanted hg]
   rcases hrun with⟨rfl,hst⟩ | ⟨rfl,rfl,rfl⟩
   ·simp only[if_true];refine ul.wide.op (zft hd'.1) ((hst.does hcut).wp λv w' ha=>?_);obtain⟨ρ',hrel⟩:=hcut.app (λt e=>hnt ▸ hdst t e) ha;exact zmn hT hS hY hd'.2 (hri.next hS hrel) h1
   ·simp only[KA,if_false];obtain⟨ρ',hrel⟩:=hcut.app (λt e=>hnt ▸ hdst t e) (u1 hcut.mem);exact⟨λ_ _=>trivial,zmn hT hS hY hd'.2 (hri.next hS hrel) h1⟩
  ·-- the call of yield
   rename_i hy;obtain⟨c,t,l',x0,y0,ho,hc,hlk⟩:=zxX hy;obtain⟨σ',run,hg,hr',⟨hM,hnt⟩,hrun⟩:=zp3 h hr.rel;have hri:RI J Jx E SA SB σ' i b ρ a w:=⟨hr',hr.ds,hr.sa,λb hb=>hr.sb b (hM ▸ hb),hr.dj,hr.lt,hr.j⟩;unfold wpListIn;rw[hr'.wanted hg]
   rcases hrun with⟨rfl,hgo⟩ | ⟨rfl,hskip⟩
   ·simp only[if_true];unfold zxU at hgo;rw[ho]at hgo;dsimp only at hgo
    cases b with
    | true=>exact hgo.elim
    | false=>
     dsimp only at hgo;obtain⟨svs,hgo,hev⟩:=zfY hgo;obtain⟨hyl,x,hx,hsc,hle,hpM,hgo⟩:=hgo;have hyl:qe σ'.L t=some (.val (.func (.yield l) #[] #[])):=by unfold yIs at hyl;rw[hc]at hyl;exact hyl
     have hval:=(hr'.regs t _ hyl).2.val_inv;obtain⟨hdst,hgo⟩:=qK hgo;have hgs:=hev (a:=a) (λt s _ hl=>(hr'.regs t s hl).2)
     have hargs:Ds (λb=>SA b∨SB b) w (enc x) (c.args.toList.map a.eval):=by
      exact zu7 hsc (hle.gs hgs)
     obtain⟨fn,tmps,assign,body,hrun,hR⟩:=hY i x SA SB w _ hx hr.j hr.lt hr.dj hargs;refine⟨λ_ _=>trivial,?_⟩;rw[zu6 ho hc hval rfl hrun];refine⟨ul.wide.need,hR.mono ?_⟩
     rintro e W' ⟨SA',hmv,hdis,hres⟩
     have fin:∀(v:Bool) (i':Nat) (b':Bool),Jt J Jx i' b' SA' SB W'->zdU P Γ l enc xs all r (j+1) (σ'.yput o.dst (.val (.bool v))) i' b' (Q .normal)->
       wpListIn Fence.wide 0 P all.toArray (zp4 J Jx Q) r (a.put o.dst (.bool v)) W':=by
      intro v i' b' hj hvc
      have hno:∀b,b < w.heap.size->¬(E.Keep b∨Own σ'.M ρ b)->¬((E.Keep b∨SA' b)∨Own σ'.M ρ b)/\W'.heap[b]? =w.heap[b]? :=λb hb hn=>
       ⟨λhk=>hk.elim (λhk=>hk.elim (λhk=>hn (.inl hk)) λhs=>(hmv.own b hs).elim (λh=>hn (.inl (hr.sa b h))) λhge=>by omega) λho=>hn (.inr ho),hmv.block b hb λhs=>hn (.inl (hr.sa b hs))⟩
      have hcl:∀t s,qe (zcP σ'.L) t=some s->t < σ'.nt/\G (λb=>(E.Keep b∨SA' b)∨Own σ'.M ρ b) (Own σ'.M ρ) ρ W' s (a.tmps.getD t undef):=λt s hlk=>by
       obtain⟨s',hl'⟩:=zu5 hlk;refine⟨(hr'.regs t s' hl').1,?_⟩
       rcases zfu hlk with rfl | ⟨h1,h2⟩
       ·exact .d _ _ (.junk _)
       ·exact(hr'.regs t s h1).2.pf hmv.size hno h2
      have hmem:zO (λb=>E.Keep b∨SA' b) σ'.M ρ W':=
       (hr'.mem.few (K':=λb=>E.Keep b∨SA b) hpM λb hb=>hb.elim id (hr.sa b)).other hpM hmv λb hb=>⟨λho=>(hdis b hb).1 (hri.sb b ho),(hdis b hb).2⟩
      have hrel:Rel ⟨W',E.ρ0,λb=>E.Keep b∨SA' b,Own σ'.M ρ,E.ds⟩ (σ'.yput o.dst (.val (.bool v))) ρ (a.put o.dst (.bool v)) W':=by
       refine⟨?_,?_,λt s hlk=>?_,hmem,hr'.fresh,⟨rfl,rfl,.refl _,Xh _,λ_ _ _=>rfl,λ_ h=>.inl h,hr'.stp.rho⟩,hmem.kp,hr'.low⟩
       ·have:=hr'.size
        cases hd0:o.dst <;> simpa[Act.put,St.yput] using this
       ·have:=hr'.defers
        cases hd0:o.dst <;> simpa[Act.put] using this
       ·cases hd0:o.dst with
        | none=>
         rw[hd0]at hlk;exact hcl t s hlk
        | some d=>
         rw[hd0]at hlk;have hlk:qe ((d,.val (.bool v))::zcP σ'.L) t=some s:=hlk;rw[kL]at hlk;have hdlt:d < a.tmps.size:=by rw[hr'.size];exact hdst d hd0
         by_cases e:d=t
         ·rw[if_pos e]at hlk
          cases hlk
          refine⟨e ▸ hdst d hd0,?_⟩;rw[zfZ hdlt,if_pos e];exact .d _ _ (.val _)
         ·rw[if_neg e]at hlk;rw[zfZ hdlt,if_neg e];exact hcl t s hlk
      refine zmn hT hS hY hd'.2 ⟨hrel,hr.ds,λb hb=>.inr hb,hri.sb,λb hb=>⟨λhs=>(hdis b hs).1 hb,Xr (hr.dj b hb).2 hmv.size⟩,λb hb=>(hdis b hb).2,hj⟩ hvc
     rcases hres with⟨rfl,hj⟩ | ⟨rfl,hj⟩
     ·exact fin true (i+1) false hj hgo.yes
     ·exact fin false i true hj hgo.no
   ·simp only[KA,if_false];unfold zar at hskip;obtain⟨hdst,hskip⟩:=qK hskip;have hcut:=hr'.cut;obtain⟨ρ',hrel⟩:=hcut.app hdst (u1 hcut.mem);exact⟨λ_ _=>trivial,zmn hT hS hY hd'.2 (hri.next hS hrel) hskip⟩
theorem zbg(hT:TOK P Γ)(hm:P.follows .mixedOrders=true)(hS:zxV J Jx)(hY:zxW P l enc xs J Jx):
  ∀(c:Code) {E:Env} {SA SB:Nat->Prop} {σ:St} {i:Nat} {b:Bool} {Q:Ex->St->Nat->Bool->Prop} {ρ:zk} {a:Act} {w:World},
   RI J Jx E SA SB σ i b ρ a w->vcIt P Γ l enc xs c σ i b Q->c.wpIn Fence.wide 0 P (zp4 J Jx Q) a w
 | .skip,E,SA,SB,σ,i,b,Q,ρ,a,w,hr,h=>wpIn_skip ⟨E,SA,SB,σ,i,b,ρ,h,hr⟩
 | .region id ops draw,E,SA,SB,σ,i,b,Q,ρ,a,w,hr,h=>by
  cases draw with
  | false=>
   have h:(match um ops.toList with | true=>zdU P Γ l enc xs ops.toList ops.toList 0 σ i b (Q .normal) | false=>False):=h
   split at h
   ·rename_i hd;refine wpIn_region_list ?_;have:=zmn hT hS hY hd hr h
    simpa using this
   ·exact h.elim
  | true=>
   have h:YDr (jP P Γ (.region id ops true) σ (λe σ=>match e with | .normal=>Q .normal σ i b | _=>False)) (λm=>Ob (uD (um ops.toList) (uD (zml ops.toList m) (vq (ops.toList.take m)))=true)
     (vh P Γ true (ops.toList.take m) (ops.toList.take m) 0 σ λσ=>zdU P Γ l enc xs ops.toList (ops.toList.drop m) m σ i b (Q .normal))):=h
   rcases h with h | ⟨m,h⟩
   ·refine wpIn_wide.2 (Code.wp_mono (λe a' w' hq=>?_) (kX hT hm (.region id ops true) hr.rel.cut h))
    cases e with
    | normal=>obtain⟨σ',ρ',hq,hr'⟩:=hq;exact⟨_,SA,_,σ',i,b,ρ',hq,hr.next hS hr'⟩
    | exit id=>obtain⟨σ',ρ',hq,hr'⟩:=hq;exact hq.elim
    | ret=>obtain⟨σ',ρ',hq,hr'⟩:=hq;exact hq.elim
    | _=>exact hq.elim
   ·obtain⟨hc,h⟩:=h;obtain⟨hd,hc⟩:=ky hc;obtain⟨ht,hord⟩:=ky hc;refine zp2 ul.wide hm hT hd ht hr.rel.cut hord h λσ' ρ' a' w' hk hr'=>?_
    have hd':um (ops.toList.drop m)=true:=XN.2 λo ho=>XN.1 hd o (Kq ho)
    have:=zmn hT hS hY hd' (hr.next hS hr') hk
    simpa using this
 | .seq x y,E,SA,SB,σ,i,b,Q,ρ,a,w,hr,h=>by
  refine wpIn_seq (wpIn_mono (zbg hT hm hS hY x hr h) (λe a' w' hq=>?_))
  cases e with
  | normal=>obtain⟨E',SA',SB',σ',i',b',ρ',h',hr'⟩:=hq;exact zbg hT hm hS hY y hr' h'
  | exit id=>exact hq
  | ret=>exact hq
  | _=>exact hq.elim
 | .cond c x y,E,SA,SB,σ,i,b,Q,ρ,a,w,hr,h=>by
  obtain⟨s,h,hs⟩:=zeh h;have hg:=hs (a:=a) (λt s _ hl=>(hr.rel.regs t s hl).2)
  split at h
  ·exact wpIn_cond_true hg.val_inv (zbg hT hm hS hY x hr h)
  ·exact wpIn_cond_false hg.val_inv (zbg hT hm hS hY y hr h)
  ·rename_i p ip
   by_cases hp:p
   ·exact wpIn_cond_true (by rw[hg.pr_inv];simp[hp]) (zbg hT hm hS hY x hr (h.yes hp))
   ·exact wpIn_cond_false (by rw[hg.pr_inv];simp[hp]) (zbg hT hm hS hY y hr (h.no hp))
  ·obtain⟨b',hb⟩:=hg.anyb_inv
   cases b' with
   | true=>exact wpIn_cond_true hb (zbg hT hm hS hY x hr h.yes)
   | false=>exact wpIn_cond_false hb (zbg hT hm hS hY y hr h.no)
  ·exact h.elim
 | .block id c,E,SA,SB,σ,i,b,Q,ρ,a,w,hr,h=>by
  refine wpIn_block (wpIn_mono (zbg hT hm hS hY c hr h) (λe a' w' hq=>?_))
  cases e with
  | normal=>exact hq
  | exit j=>
   obtain⟨E',SA',SB',σ',i',b',ρ',h',hr'⟩:=hq;dsimp only at h';show(if j=id then zp4 J Jx Q .normal a' w' else zp4 J Jx Q (.exit j) a' w')
   split at h'
   ·rename_i hb;rw[if_pos (Xg hb)];exact⟨E',SA',SB',σ',i',b',ρ',h',hr'⟩
   ·rename_i hb;rw[if_neg (KH hb)];exact⟨E',SA',SB',σ',i',b',ρ',h',hr'⟩
  | ret=>exact hq
  | _=>exact hq.elim
 | .loop c,E,SA,SB,σ,i,b,Q,ρ,a,w,hr,h=>by
  obtain⟨ι,S,T,I,μ,x0,h0,hsub,rfl,rfl,hround⟩:=h;obtain⟨E0,SB0,ρ0,hr0⟩:=hr.sub hS hsub;refine zay (λn a w=>∃x E SA SB ρ,I x/\μ x=n/\RI J Jx E SA SB (S x) (T x) false ρ a w) (μ x0) ⟨x0,E0,SA,SB0,ρ0,h0,rfl,hr0⟩ λn a w hI=>?_
  obtain⟨x,E1,SA1,SB1,ρ1,h1,rfl,hr1⟩:=hI;refine wpIn_mono (zbg hT hm hS hY c hr1 (hround x h1)) (λe a' w' hq=>?_)
  cases e with
  | normal=>
   obtain⟨E2,SA2,SB2,σ',i',b',ρ',⟨x',h2,hs2,rfl,rfl,hlt⟩,hr'⟩:=hq;obtain⟨E3,SB3,ρ3,hr3⟩:=hr'.sub hS hs2;exact⟨μ x',hlt,x',E3,SA2,SB3,ρ3,h2,rfl,hr3⟩
  | exit id=>exact hq
  | ret=>exact hq
  | _=>exact hq.elim
 | .exit id,E,SA,SB,σ,i,b,Q,ρ,a,w,hr,h=>wpIn_exit ⟨E,SA,SB,σ,i,b,ρ,h,hr⟩
 | .ret,E,SA,SB,σ,i,b,Q,ρ,a,w,hr,h=>wpIn_ret ⟨E,SA,SB,σ,i,b,ρ,h,hr⟩
 | .rangeFunc _ _ _ _,_,_,_,_,_,_,_,_,_,_,_,h=>by cases h
 | .scope _,_,_,_,_,_,_,_,_,_,_,_,h=>by cases h
 | .label _,E,SA,SB,σ,i,b,Q,ρ,a,w,hr,h=>wpIn_label ⟨E,SA,SB,σ,i,b,ρ,h,hr⟩
 | .goto _,_,_,_,_,_,_,_,_,_,_,_,h=>by cases h
 | .refuse _,_,_,_,_,_,_,_,_,_,_,_,h=>by cases h
def endI(n:Nat)(e:Ex)(_:St)(i:Nat)(b:Bool):Prop:=
 match e with
 | .exit _=>False
 | _=>b=true∨i=n
theorem znU (hT:TOK P Γ) (hm:P.follows .mixedOrders=true) {f:FuncId} {fn:Func} {c:Code} {caps:List SV} (hf:P.funcs[f]? =some fn) (hb:fn.body=some c) (hn:(fn.name== "runtime.NumGoroutine")=false)
  (hle:Nat.ble (caps.length+1) fn.ntmps=true) (hres:fn.results=#[]) (h:∀l:Nat,vcIt P Γ l enc xs c ⟨yf 0 (.val (.func (.yield l) #[] #[])::caps),[],0,fn.ntmps,0⟩ 0 false (endI xs.length)):zmg P f caps enc xs:=by
 refine⟨⟨fn,hf,hn,by rw[hb];rfl⟩,λSA w vs l J Jx hlt hgl hcaps hSJ hSX hY h0=>?_⟩;refine callsIn_of_wp_marks hf hb trivial ?_ rfl
 have hrel:=zaL (Keep:=SA) (M:=[]) (ρ:=λ_=>none) (w:=w) (args:=.val (.func (.yield l) #[] #[])::caps) (vs:=.func (.yield l) #[] #[]::vs) (nt:=fn.ntmps) (jj hlt hgl) (λ_ _=>rfl)
  ⟨by simp[hcaps.1],λj s v hs hv=>by
   cases j with
   | zero=>cases hs;cases hv;exact .d _ _ (.val _)
   | succ j=>exact .d _ _ ((hcaps.2 j s v (by simpa using hs) (by simpa using hv)).less λb hb=>hb.resolve_right z0)⟩ (by simpa using Xw hle)
 have hri:RI J Jx ⟨w,λ_=>none,SA,Own [] (λ_=>none),[]⟩ SA (λ_=>False) _ 0 false _ _ w:=⟨hrel,rfl,λ_ h=>h,λ_ hb=>absurd hb z0,λ_ h=>h.elim,hlt,h0⟩
 have hS:zxV J Jx:=λi b SA SB SB' W W' hj hmv hd=>by
  cases b with
  | false=>exact hSJ i SA SB SB' W W' hj hmv hd
  | true=>exact hSX SA SB SB' W W' hj hmv hd
 refine wpIn_mono (zbg hT hm hS hY c hri (h l)) (λe a' w' hq=>?_)
 have fin:∀{E SA SB σ i b ρ},RI J Jx E SA SB σ i b ρ a' w'->(b=true∨i=xs.length)->LeavesInM Fence.wide 0 P fn a'.tmps (λe W'=>(∃v,e=.returned v)/\∃SA' SB',J xs.length SA' SB' W'∨Jx SA' SB' W') a'.defers .returning w':=by
  intro E SA SB σ i b ρ hr hd;rw[hr.rel.defers,hr.ds];refine⟨.tuple #[],by unfold results;rw[hres];simp,⟨_,rfl⟩,SA,SB,?_⟩;have hj:=hr.j
  cases b with
  | true=>exact .inr hj
  | false=>
   obtain rfl:=hd.resolve_left (by simp);exact .inl hj
 cases e with
 | normal=>obtain⟨E,SA,SB,σ,i,b,ρ,hq,hr⟩:=hq;exact fin hr hq
 | ret=>obtain⟨E,SA,SB,σ,i,b,ρ,hq,hr⟩:=hq;exact fin hr hq
 | exit id=>obtain⟨E,SA,SB,σ,i,b,ρ,hq,hr⟩:=hq;exact hq.elim
 | _=>exact hq.elim
end it
open Go.Proofs
section
def ptA(p:Pt):List SV:=[.agg (ptE p)]
theorem zty(F:FuncId)(cs:List SV)(n:Int):CG0 288 [i64 n,.fn F [.dptr cs,.loc 0 0]] [(0,.box 3 [i64 n])]
  (.dfn 336 [.dptr [i64 n],.dptr [.dfn F [.dptr cs,.dptr [i64 n]]]]) []:=by
 exact zif 3 tok mix Tryz.func288 rfl rfl rfl<|.refl
theorem zz0{f:Int->Pt}{n k:Nat}(h:k < n):(zb7 f n)[k]? =some (f ((k:Int)+1)):=by
 unfold zb7;rw[XC,Qt h];rfl
theorem zak(f:Int->Pt)(n:Nat):(zb7 f n).length=n:=by unfold zb7;simp
theorem zmo(f:Int->Pt)(n:Nat):zb7 f (n+1)=zb7 f n++[f ((n:Int)+1)]:=by
 unfold zb7;rw[Qb,XG];rfl
theorem zp5(F:FuncId)(cs:List SV)(n:Int)(f:Int->Pt)(hn:0<=n/\n<=64)(h:∀i:Nat,i < n.toNat->CG0 F [i64 ((i:Int)+1),.dptr cs,.dptr [i64 n]] [] (.agg (ptE (f ((i:Int)+1)))) []):
  zmg Tryz.prog 336 [.dptr [i64 n],.dptr [.dfn F [.dptr cs,.dptr [i64 n]]]] ptA (zb7 f n.toNat):=by
 refine znU (caps:=[.dptr [i64 n],.dptr [.dfn F [.dptr cs,.dptr [i64 n]]]]) (enc:=ptA) (xs:=zb7 f n.toNat) tok mix Tryz.func336 rfl rfl rfl rfl (λl=>?_);refine⟨Nat,λk=>⟨[(0,.val (.func (.yield l) #[] #[])),(1,.dptr [i64 n]),(2,.dptr [.dfn F [.dptr cs,.dptr [i64 n]]]),(4,i64 ((k:Int)+1))],[],0,16,0⟩,λk=>k,λk=>k<=n.toNat,λk=>n.toNat - k,0,?_,?_,rfl,rfl,?_⟩
 ·exact Xe _
 ·exact zE []
 rintro k hk
 refine⟨λg=>?_,λg=>?_⟩
 ·have g:(k:Int)+1<=n:=g;refine zb.t (h k oM)<|⟨rfl,f ((k:Int)+1),zz0 (show k < n.toNat by omega),rfl,.cons .refl .nil,(λ_ _ h=>by cases h),?_⟩;refine Br.mk ?_ ?_
  ·refine Ar.o ?_;refine⟨k+1,oM,jL [] ⟨rfl,rfl,rfl,congrArg (λq=>some (i64 q)) oM,trivial⟩ trivial,rfl,rfl,by dsimp only;omega⟩
  ·exact .inl rfl
 ·have g:¬(k:Int)+1<=n:=g;exact .inr (by rw[zak];show k=n.toNat;omega)
theorem zBk(caps:List SV)(xs:List Pt)(h:zmg Tryz.prog 336 caps ptA xs)(hx:xs.length<=4096):CG0 287 [.dfn 336 caps] [] (.sl ptE xs) []:=by
 refine zdS 1 tok mix Tryz.func287 rfl rfl rfl ?_
 refine⟨Pt,ptA,xs,1,[(3,.loc 0 0)],λj=>[(0,.box 72 [.own 1]),(1,.arr 35 ptE 2 (xs.take j))],λ_=>2,h,λ_=>rfl,⟨rfl,rfl,rfl,rfl⟩,
  zE [(0,some 0),(1,none)],⟨Xe _,rfl⟩,λj=>?_,?_,?_⟩
 ·intro k m hm;simp only[Kc,Kx,or_false,K9]at hm
  rcases hm with⟨_,rfl⟩ | ⟨_,rfl⟩
  ·rfl
  ·trivial
 ·intro j y hy;have hlt:(xs.take j).length<=4096:=by rw[Xk];omega
  refine⟨Pt,ptE,[y],rfl,Ob.o0 ?_⟩;refine⟨[y],rfl,Ob.o3 ?_⟩;exact zC [0,4] ⟨rfl,congrArg (λq=>some (Mem.arr 35 ptE 2 q)) (by rw[Xm,hy];rfl),trivial⟩
 ·exact z9<|X9
theorem zu8(a b c:Pt)(i n:Int):CG0 289 [i64 i,.dptr (ptE a++ptE b++ptE c),.dptr [i64 n]] [] (.agg (ptE (yY a b c i n))) []:=by
 refine zc Tryz.func289 ?_;exact zb.t (zxN a b c i n)<|.refl
variable{a:Pt}{b:Pt}{c:Pt}{tol:Int}
theorem zkt(h:(yc a b c tol).2=0):zc3 a b c tol=(zb7 (λi=>yY a b c i (yc a b c tol).1) (yc a b c tol).1.toNat,0):=by
 unfold zc3;rw[qR h]
theorem zhu(h:¬(yc a b c tol).2=0):zc3 a b c tol=([],(yc a b c tol).2):=by
 unfold zc3;rw[if_pos h]
def zp6(c:List Pt×Int):SV:=.tup [.sl ptE c.1,i64 c.2]
theorem zhv{c:List Pt×Int}{a:List Pt}{b:Int}(h:c=(a,b)):LE (.tup [.sl ptE a,i64 b]) (zp6 c):=by subst h;exact .refl
theorem ziN{c:List Pt×Int}{b:Int}(h:c=([],b)):LE (.tup [.val (.slice none 0 0),i64 b]) (zp6 c):=by subst h;exact zI zD .refl
theorem zCx(a b c:Pt)(tol:Int)(ha:zn a)(hb:zn b)(hc:zn c):CG0 229 [.agg (ptE a++ptE b++ptE c),i64 tol] [] (zp6 (zc3 a b c tol)) []:=by
 refine zc Tryz.func229 ?_;refine zfa.data<|zb.t (zu0 a b c tol ha hb hc)<|⟨λk=>?_,λk=>?_⟩
 ·exact ziN (zhu k)
 have k:(yc a b c tol).2=0:=Xa.1 k;have ok:=(yV (show(k7 _ tol _).2=0 from k)).1;have ok:1<=(yc a b c tol).1/\(yc a b c tol).1<=64:=ok;have e:=zkt k;generalize (yc a b c tol).1=n at*;refine zb.give [0] 0 [i64 n,.fn 289 [.dptr (ptE a++ptE b++ptE c),.loc 0 0]] [(0,.box 3 [i64 n])] [] _ (zty 289 (ptE a++ptE b++ptE c) n) LEs.refl rfl rfl rfl ⟨⟨_,rfl,rfl,rfl⟩,trivial⟩ rfl trivial<|zb.t (zBk _ _ (zp5 289 (ptE a++ptE b++ptE c) n (λi=>yY a b c i n) oM (λi _=>zu8 a b c ((i:Int)+1) n)) (by rw[zak];omega)) ?_
 exact zhv e
theorem zCy(a b c:Pt)(tol:Int):CG0 238 [.agg (ptE a++ptE b++ptE c),i64 tol] [] (zp6 (zc3 a b c tol)) []:=by
 refine zc Tryz.func238 ?_;refine zfa.data<|zb.t (zu1 a b c tol)<|⟨λk=>?_,λk=>?_⟩
 ·exact ziN (zhu k)
 have k:(yc a b c tol).2=0:=Xa.1 k;have ok:=(yV (show(k7 _ tol _).2=0 from k)).1;have ok:1<=(yc a b c tol).1/\(yc a b c tol).1<=64:=ok;have e:=zkt k;generalize (yc a b c tol).1=n at*;refine⟨Pt,ptE,[],rfl,Ob.o2 ?_⟩;refine⟨Nat,λi=>⟨[(2,.dptr (ptE a++ptE b++ptE c)),(6,i64 n),(8,.own 0),(9,i64 ((i:Int)+1))],[(0,.arr 35 ptE 2 (zb7 (λi=>yY a b c i n) i))],1,33,0⟩,λi=>i<=n.toNat,λi=>n.toNat - i,0,?_,?_,?_⟩
 ·exact Xe _
 ·exact zf [0]
 rintro i hi
 have hlt:=zak (λi=>yY a b c i n) i;refine⟨λg=>?_,λg=>?_⟩
 ·have g:(i:Int)+1<=n:=g;refine zb.t (zxO a b c ((i:Int)+1) n)<|⟨Pt,ptE,[yY a b c ((i:Int)+1) n],rfl,Ob.o0 ?_⟩;refine⟨[yY a b c ((i:Int)+1) n],rfl,Ob.mk ⟨(by show _*(16:Int)<=_;simp only[hlt,Xl,Xs];omega),(by simp only[hlt,Xl,Xs];omega),dC,λ_ _=>rfl⟩ ?_⟩;refine Ar.o ?_;refine⟨i+1,oM,zL [2] ⟨rfl,rfl,rfl,congrArg (λq=>some (i64 q)) oM,trivial⟩ ⟨congrArg (λq=>some (Mem.arr 35 ptE 2 q)) (zmo _ _).symm,trivial⟩,by dsimp only;omega⟩
 ·have g:¬(i:Int)+1<=n:=g;have hi:i=n.toNat:=oM;subst hi;exact zhv e
theorem zu9(a b c d:Pt)(i n:Int):CG0 292 [i64 i,.dptr (ptE a++ptE b++ptE c++ptE d),.dptr [i64 n]] [] (.agg (ptE (yZ a b c d i n))) []:=by
 refine zc Tryz.func292 ?_;exact zb.t (zxP a b c d i n)<|.refl
theorem zku{d:Pt}(h:(yd a b c d tol).2=0):zc4 a b c d tol=(zb7 (λi=>yZ a b c d i (yd a b c d tol).1) (yd a b c d tol).1.toNat,0):=by
 unfold zc4;rw[qR h]
theorem zhw{d:Pt}(h:¬(yd a b c d tol).2=0):zc4 a b c d tol=([],(yd a b c d tol).2):=by
 unfold zc4;rw[if_pos h]
theorem zCz(a b c d:Pt)(tol:Int)(ha:zn a)(hb:zn b)(hc:zn c)(hd:zn d):CG0 230 [.agg (ptE a++ptE b++ptE c++ptE d),i64 tol] [] (zp6 (zc4 a b c d tol)) []:=by
 refine zc Tryz.func230 ?_;refine zfa.data<|zb.t (zu2 a b c d tol ha hb hc hd)<|⟨λk=>?_,λk=>?_⟩
 ·exact ziN (zhw k)
 have k:(yd a b c d tol).2=0:=Xa.1 k;have ok:=(yV (show(k7 _ tol _).2=0 from k)).1;have ok:1<=(yd a b c d tol).1/\(yd a b c d tol).1<=64:=ok;have e:=zku k;generalize (yd a b c d tol).1=n at*;refine zb.give [0] 0 [i64 n,.fn 292 [.dptr (ptE a++ptE b++ptE c++ptE d),.loc 0 0]] [(0,.box 3 [i64 n])] [] _ (zty 292 (ptE a++ptE b++ptE c++ptE d) n) LEs.refl rfl rfl rfl ⟨⟨_,rfl,rfl,rfl⟩,trivial⟩ rfl trivial ?_
 exact zb.t (zBk _ _ (zp5 292 (ptE a++ptE b++ptE c++ptE d) n (λi=>yZ a b c d i n) oM (λi _=>zu9 a b c d ((i:Int)+1) n)) (by rw[zak];omega))<|zhv e
theorem zCA(a b c d:Pt)(tol:Int):CG0 239 [.agg (ptE a++ptE b++ptE c++ptE d),i64 tol] [] (zp6 (zc4 a b c d tol)) []:=by
 refine zc Tryz.func239 ?_;refine zfa.data<|zb.t (zu3 a b c d tol)<|⟨λk=>?_,λk=>?_⟩
 ·exact ziN (zhw k)
 have k:(yd a b c d tol).2=0:=Xa.1 k;have ok:=(yV (show(k7 _ tol _).2=0 from k)).1;have ok:1<=(yd a b c d tol).1/\(yd a b c d tol).1<=64:=ok;have e:=zku k;generalize (yd a b c d tol).1=n at*;refine⟨Pt,ptE,[],rfl,Ob.o2 ?_⟩;refine⟨Nat,λi=>⟨[(2,.dptr (ptE a++ptE b++ptE c++ptE d)),(6,i64 n),(8,.own 0),(9,i64 ((i:Int)+1))],[(0,.arr 35 ptE 2 (zb7 (λi=>yZ a b c d i n) i))],1,33,0⟩,λi=>i<=n.toNat,λi=>n.toNat - i,0,?_,?_,?_⟩
 ·exact Xe _
 ·exact zf [0]
 rintro i hi
 have hlt:=zak (λi=>yZ a b c d i n) i;refine⟨λg=>?_,λg=>?_⟩
 ·have g:(i:Int)+1<=n:=g;refine zb.t (zxQ a b c d ((i:Int)+1) n)<|⟨Pt,ptE,[yZ a b c d ((i:Int)+1) n],rfl,Ob.o0 ?_⟩;refine⟨[yZ a b c d ((i:Int)+1) n],rfl,Ob.mk ⟨(by show _*(16:Int)<=_;simp only[hlt,Xl,Xs];omega),(by simp only[hlt,Xl,Xs];omega),dC,λ_ _=>rfl⟩ ?_⟩;refine Ar.o ?_;refine⟨i+1,oM,zL [2] ⟨rfl,rfl,rfl,congrArg (λq=>some (i64 q)) oM,trivial⟩ ⟨congrArg (λq=>some (Mem.arr 35 ptE 2 q)) (zmo _ _).symm,trivial⟩,by dsimp only;omega⟩
 ·have g:¬(i:Int)+1<=n:=g;have hi:i=n.toNat:=oM;subst hi;exact zhv e
variable{α:Type _}{A:List α}
theorem zrZ{z y:α}{n:Nat}(h:(A++[z])[n]? =some y)(hn:n=A.length):y=z:=by
 subst hn;simp at h;exact h.symm
theorem zgs{z w:α}{n:Nat}(hn:n=A.length):(A++[z]).set n w=A++[w]:=by
 subst hn;simp
def jN(cl:List Pl)(k:Nat)(b:SV):List (List SV):=cl.map plE++[[SV.own k,b]]
theorem zal(cl:List Pl)(k:Nat)(b:SV):(jN cl k b).length=cl.length+1:=by unfold jN;simp
theorem zp7(ks:List Nat)(κ:Nat)(cl:List Pl)(k:Nat)(p:Prop)(i:Decidable p):(jN cl k (.pr p i)).map (zaD.rens ks κ)=jN cl (rn ks κ k) (.pr p i):=by
 unfold jN;rw[XG,List.map_map];rfl
theorem zxY{n k:Nat}(h:Nat.blt k n=true)(cl:List Pl)(p:Prop)(i:Decidable p):∀x∈jN cl k (.pr p i),vM.lows n x=true:=λx hx=>by
 rcases Xo.1 hx with hx | hx
 ·obtain⟨q,_,rfl⟩:=XO.1 hx;rfl
 ·rw[Xq.1 hx];simp only[vM.lows,vM,h]
theorem zxZ{n k:Nat}(h:Nat.blt k n=true)(cl:List Pl)(p:Prop)(i:Decidable p):∀x∈jN cl k (.pr p i),zco.outs n x=true:=λx hx=>by
 rcases Xo.1 hx with hx | hx
 ·obtain⟨q,_,rfl⟩:=XO.1 hx;rfl
 ·rw[Xq.1 hx];simp only[zco.outs,zco,h]
variable{cl:List Pl}
theorem zac{tb:List (Nat×Option Nat)}{a b:Nat}{p:Prop}{i:Decidable p}(h:za4 tb b=some (some a)):
  (jN cl a (.pr p i)).length=(jN cl b (.pr p i)).length/\∀(j:Nat) x,(jN cl b (.pr p i))[j]? =some x->∃x',(jN cl a (.pr p i))[j]? =some x'/\ren.rens tb x=some x':=by
 refine⟨by rw[zal,zal],λj x hx=>?_⟩;unfold jN at hx ⊢;rw[XM]at hx
 split at hx
 ·rename_i hi;rw[XC]at hx
  cases hy:cl[j]? with
  | none=>simp[hy]at hx
  | some y=>
   simp[hy]at hx;subst hx;exact⟨plE y,by rw[XF hi,XC,hy];rfl,rfl⟩
 ·rename_i hi
  have h0:j - (cl.map plE).length=0:=by
   have:=(Xc.1 hx).1;simp at this;simp at hi ⊢;omega
  rw[h0]at hx;simp at hx;subst hx;refine⟨[.own a,.pr p i],by rw[XA oM,h0];rfl,?_⟩;simp only[ren.rens,ren,h]
theorem zgt(q:List Pt)(x:Pt):(yI q x).length<=q.length+1:=by
 unfold yI;split
 ·omega
 ·simp
theorem vA:∀(more q:List Pt),(kC q more).length<=q.length+more.length
 | [],q=>by simp[kC]
 | x::r,q=>by
  have h1:=vA r (yI q x);have h2:=zgt q x;have e:kC q (x::r)=kC (yI q x) r:=rfl;rw[e,Xl];omega
theorem zhx{q more:List Pt}{i:Nat}{x:Pt}(h:more[i]? =some x):kC q (more.take (i+1))=yI (kC q (more.take i)) x:=by
 unfold kC;rw[Xm,h];simp[KC]
variable{q:List Pt}{x:Pt}{z:Pt}
theorem znV(h:q[q.length - 1]? =some z)(e:z=x):yI q x=q:=by
 unfold yI;rw[KQ,h,e,if_pos rfl]
theorem ziO(h:q[q.length - 1]? =some z)(e:¬z=x):yI q x=q++[x]:=by
 unfold yI;rw[KQ,h,if_neg (λk=>e (Xi k))]
theorem znW(h:q.length=0):yI q x=q++[x]:=by
 rw[Xn h];rfl
theorem zCB(cl:List Pl)(q more:List Pt)(B:Prop)[iB:Decidable B](hq:q.length<=100000)(hm:more.length<=64)(hcl:cl.length<=300):
  CG0 171 [.eloc 0 2 (cl.length:Int) 0,.sl ptE more] [(0,.garr 118 2 (jN cl 1 (pr B))),(1,.arr 35 ptE 2 q)] (.tup [])
   [(0,.garr 118 2 (jN cl 2 (pr B))),(2,.arr 35 ptE 2 (kC q more))]:=by
 refine u4 tok mix Tryz.func171 rfl rfl rfl ?_;intro hl1
 refine⟨Nat,λi=>⟨[(0,.eloc 0 2 (cl.length:Int) 0),(7,.sl ptE more),(8,i64 (more.length:Int)),(9,i64 (i:Int))],
   [(0,.garr 118 2 (jN cl 2 (pr B))),(2,.arr 35 ptE 2 (kC q (more.take i)))],3,43,2⟩,λi=>i<=more.length,λi=>more.length - i,0,?_,?_,?_⟩
 ·exact Xe _
 ·exact zC [0,1,1] ⟨⟨_,rfl,zac rfl⟩,rfl,trivial⟩
 rintro i hi
 have hlen:=vA (more.take i) q;rw[Xk]at hlen;have hcell:∀{y:List SV} {k:Nat} {b:SV},(jN cl k b)[(cl.length:Int).toNat]? =some y->y=[.own k,b]:=λh=>zrZ h (by simp)
 have hcn:(cl.length:Int).toNat=(cl.map plE).length:=by simp
 have hset:∀(k:Nat) (b:SV) (w:List SV),(jN cl k b).set (cl.length:Int).toNat w=cl.map plE++[w]:=λk b w=>by unfold jN;exact zgs hcn
 have hrow:0<=(cl.length:Int)/\(cl.length:Int) < (jN cl 2 (pr B)).length:=by rw[zal];omega
 refine⟨λg=>?_,λg=>?_⟩
 ·have g:(i:Int) < more.length:=g;refine Ob.o ?_;intro x hx;have hx:more[i]? =some x:=hx;have e:=zhx (q:=q) hx;refine Ob.mk hrow ?_;intro y hy;obtain rfl:=hcell hy;intro hl2
  have yes:kC q (more.take (i+1))=(kC q (more.take i))++[x]->∀{σ:St},Sub σ ⟨[(0,.eloc 0 2 (cl.length:Int) 0),(7,.sl ptE more),(8,i64 (more.length:Int)),(9,i64 ((i+1:Nat):Int))],
    [(0,.garr 118 2 (jN cl 2 (pr B))),(2,.arr 35 ptE 2 ((kC q (more.take i))++[x]))],3,43,2⟩->Sub σ ⟨[(0,.eloc 0 2 (cl.length:Int) 0),(7,.sl ptE more),(8,i64 (more.length:Int)),(9,i64 ((i+1:Nat):Int))],
    [(0,.garr 118 2 (jN cl 2 (pr B))),(2,.arr 35 ptE 2 (kC q (more.take (i+1))))],3,43,2⟩:=λh σ k=>by rw[h];exact k
  refine Dr.d<|Br.mk (λz=>?_) (λz=>?_)
  ·have z:((kC q (more.take i)).length:Int)=0:=z;refine Ob.mk (by kernel_rfl)<|Dr.d<|Ob.mk hrow ?_;intro y hy;obtain rfl:=hcell hy;refine⟨Pt,ptE,[x],rfl,Ob.o0 ?_⟩;refine⟨[x],rfl,Ob.o3 ?_⟩;refine Ob.mk hrow ?_;intro y hy;obtain rfl:=hcell hy;refine Ob.mk (by kernel_rfl)<|Ar.o ?_;refine⟨i+1,oM,yes (by rw[e,znW oM]) (zC [0,1,5] ⟨⟨_,congrArg (λq=>some (Mem.garr 118 2 q)) (hset _ _ _),zac rfl⟩,rfl,trivial⟩),by dsimp only;omega⟩
  have z:¬((kC q (more.take i)).length:Int)=0:=z;refine Ob.mk hrow ?_;intro y hy;obtain rfl:=hcell hy;refine Ar.o<|Ob.o<|Ob.o ?_;intro t ht
  have ht:(kC q (more.take i))[(kC q (more.take i)).length - 1]? =some t:=by
   have ht:(kC q (more.take i))[(((kC q (more.take i)).length:Int) - 1).toNat]? =some t:=ht
   rwa [show(((kC q (more.take i)).length:Int) - 1).toNat=(kC q (more.take i)).length - 1 by omega]at ht
  refine Ob.mk (by kernel_rfl)<|⟨λk=>?_,λk=>?_⟩
  ·have k:¬t=x:=λh=>k (k9.2 h)
   refine Dr.d<|Ob.mk hrow ?_;intro y hy;obtain rfl:=hcell hy;refine⟨Pt,ptE,[x],rfl,Ob.o0 ?_⟩;refine⟨[x],rfl,Ob.o3 ?_⟩;refine Ob.mk hrow ?_;intro y hy;obtain rfl:=hcell hy;refine Ob.mk (by kernel_rfl)<|Ar.o ?_;refine⟨i+1,oM,yes (by rw[e,ziO ht k]) (zC [0,1,5] ⟨⟨_,congrArg (λq=>some (Mem.garr 118 2 q)) (hset _ _ _),zac rfl⟩,rfl,trivial⟩),by dsimp only;omega⟩
  ·have k:t=x:=k9.1 (Xa.1 k);refine Ar.o ?_;refine⟨i+1,oM,zC [0,1,2] ⟨⟨_,rfl,zac rfl⟩,congrArg (λq=>some (Mem.arr 35 ptE 2 q)) (by rw[e,znV ht k]),trivial⟩,by dsimp only;omega⟩
 ·have g:¬(i:Int) < more.length:=g;have e:more.take i=more:=Xf oM;exact⟨_,.refl,congrArg (λl=>[(0,Mem.garr 118 2 (jN cl 2 (pr B))),(2,Mem.arr 35 ptE 2 (kC q l))]) e,.refl⟩
theorem zCC(q more:List Pt)(hq:q.length<=100000)(hm:more.length<=64):
  CG0 183 [.own 0,.sl ptE more] [(0,.arr 35 ptE 2 q)] (.own 1) [(1,.arr 35 ptE 2 (kC q more))]:=by
 refine u4 tok mix Tryz.func183 rfl rfl rfl<|⟨Nat,λi=>⟨[(0,.own 1),(1,.sl ptE more),(5,i64 (i:Int))],[(1,.arr 35 ptE 2 (kC q (more.take i)))],2,36,1⟩,λi=>i<=more.length,λi=>more.length - i,0,?_,?_,?_⟩
 ·exact Xe _
 ·exact zf [0,0]
 rintro i hi
 have hlen:=vA (more.take i) q;rw[Xk]at hlen;intro hl1;refine⟨λg=>?_,λg=>?_⟩
 ·have g:(i:Int) < more.length:=g;obtain⟨x,hx⟩:∃x,more[i]? =some x:=⟨_,Xb oM⟩;have e:=zhx (q:=q) hx;have same:∀{y:Pt},more[(i:Int).toNat]? =some y->y=x:=λh=>Xi ((show more[i]? =some _ from h).symm.trans hx)
  refine Dr.d ?_;intro hl2;refine⟨λz=>?_,λz=>?_⟩
  ·have z:((kC q (more.take i)).length:Int)=0:=z;refine Ob.mk (by kernel_rfl)<|Ob.o ?_;intro y hy;rw[same hy];refine⟨Pt,ptE,[x],rfl,Ob.o0 ?_⟩;refine⟨[x],rfl,Ob.o3 ?_⟩;refine Ar.o ?_;refine⟨i+1,oM,zC [0,3] ⟨congrArg (λq=>some (Mem.arr 35 ptE 2 q)) (by rw[e,znW oM]),trivial⟩,by dsimp only;omega⟩
  have z:¬((kC q (more.take i)).length:Int)=0:=z;intro hl3;refine Ar.o<|Ob.o<|Ob.o ?_;intro t ht
  have ht:(kC q (more.take i))[(kC q (more.take i)).length - 1]? =some t:=by
   have ht:(kC q (more.take i))[(((kC q (more.take i)).length:Int) - 1).toNat]? =some t:=ht
   rwa [show(((kC q (more.take i)).length:Int) - 1).toNat=(kC q (more.take i)).length - 1 by omega]at ht
  refine Ob.o ?_;intro y hy;rw[same hy];refine Ob.mk (by kernel_rfl)<|⟨λk=>?_,λk=>?_⟩
  ·have k:¬t=x:=λh=>k (k9.2 h)
   refine Ob.o ?_;intro y hy;rw[same hy];refine⟨Pt,ptE,[x],rfl,Ob.o0 ?_⟩;refine⟨[x],rfl,Ob.o3 ?_⟩;refine Ar.o ?_;refine⟨i+1,oM,zC [0,3] ⟨congrArg (λq=>some (Mem.arr 35 ptE 2 q)) (by rw[e,ziO ht k]),trivial⟩,by dsimp only;omega⟩
  ·have k:t=x:=k9.1 (Xa.1 k);refine Ar.o ?_;refine⟨i+1,oM,zC [0,1] ⟨congrArg (λq=>some (Mem.arr 35 ptE 2 q)) (by rw[e,znV ht k]),trivial⟩,by dsimp only;omega⟩
 ·have g:¬(i:Int) < more.length:=g;have e:more.take i=more:=Xf oM;exact⟨_,.refl,congrArg (λl=>[(1,Mem.arr 35 ptE 2 (kC q l))]) e,.refl⟩
variable{p:Pt}
theorem zp8{s:Sg}(h:s.v=3):kR p s tol=zc3 p s.a s.b tol:=by unfold kR;rw[if_pos h]
theorem zp9{s:Sg}(h3:¬s.v=3)(h:s.v=4):kR p s tol=zc4 p s.a s.b s.c tol:=by unfold kR;rw[if_neg h3,if_pos h]
theorem zqa{s:Sg}(h3:¬s.v=3)(h:¬s.v=4):kR p s tol=([s.a],0):=by unfold kR;rw[if_neg h3,if_neg h]
theorem p_seg(p:Pt)(s:Sg)(tol:Int)(hp:zn p)(hs:zn s.a/\zn s.b/\zn s.c):CG0 170 [.agg (ptE p),.agg (sgE s),i64 tol] [] (zp6 (kR p s tol)) []:=by
 refine zc Tryz.func170 ?_;refine⟨λh3=>?_,λh3=>?_⟩
 ·have h3:s.v=3:=h3;refine zb.t (zCx p s.a s.b tol hp hs.1 hs.2.1) ?_;rw[zp8 h3];exact .refl
 have h3:¬s.v=3:=h3;refine⟨λh4=>?_,λh4=>?_⟩
 ·have h4:s.v=4:=h4;refine zb.t (zCz p s.a s.b s.c tol hp hs.1 hs.2.1 hs.2.2) ?_;rw[zp9 h3 h4];exact .refl
 have h4:¬s.v=4:=h4;refine⟨Pt,ptE,[s.a],rfl,Ob.o0 ?_⟩;exact zhv (zqa h3 h4)
theorem r_seg(p:Pt)(s:Sg)(tol:Int):CG0 182 [.agg (ptE p),.agg (sgE s),i64 tol] [] (zp6 (kR p s tol)) []:=by
 refine zc Tryz.func182 ?_;refine⟨λh3=>?_,λh3=>?_⟩
 ·have h3:s.v=3:=h3;refine zb.t (zCy p s.a s.b tol) ?_;rw[zp8 h3];exact .refl
 have h3:¬s.v=3:=h3;refine⟨λh4=>?_,λh4=>?_⟩
 ·have h4:s.v=4:=h4;refine zb.t (zCA p s.a s.b s.c tol) ?_;rw[zp9 h3 h4];exact .refl
 have h4:¬s.v=4:=h4;refine⟨Pt,ptE,[s.a],rfl,Ob.o0 ?_⟩;exact zhv (zqa h3 h4)
theorem znX{k:Nat}{b:SV}{y:List SV}{n:Int}(hn:n=(cl.length:Int))(h:(jN cl k b)[n.toNat]? =some y):y=[.own k,b]:=by
 subst hn;exact zrZ h (by simp)
variable{w:List SV}
theorem zgu{k:Nat}{b:SV}{n:Int}(hn:n=(cl.length:Int)):(jN cl k b).set n.toNat w=cl.map plE++[w]:=by
 subst hn;exact zgs (by simp)
theorem zdV{k:Nat}{b:SV}{y:List SV}{n:Int}(hn:n=(cl.length:Int))(h:((jN cl k b).set n.toNat w)[n.toNat]? =some y):y=w:=by
 rw[zgu hn]at h;subst hn;exact zrZ h (by simp)
theorem zva{k:Nat}{b:SV}{w':List SV}{n:Int}(hn:n=(cl.length:Int)):((jN cl k b).set n.toNat w).set n.toNat w'=cl.map plE++[w']:=by
 rw[zgu hn];subst hn;exact zgs (by simp)
theorem zqb{cl:List Pl}{p:Pl}{a:Nat}(T:List (List SV)):
  ∀(i j:Nat) (x':List SV) (s':SV),((cl++[p]).map plE++T)[i]? =some x'->x'[j]? =some s'->∃(x:List SV) (s:SV),(jN cl a (pr (p.cl=true))++T)[i]? =some x/\x[j]? =some s/\(s'=s∨(s=.own a/\s'=.sl ptE p.pts)):=by
 intro i j x' s' hx hs;unfold jN;rw[XG]at hx;generalize cl.map plE=L at*
 rcases Qo i L.length with h | h | h
 ·rw[XK,XF h]at hx;exact⟨x',s',by rw[XK,XF h];exact hx,hs,.inl rfl⟩
 ·subst h;rw[XK,XA (Xh _)]at hx;simp at hx;subst hx;refine⟨[.own a,pr (p.cl=true)],?_⟩
  match j,hs with
  | 0,hs=>simp[plE]at hs;subst hs;exact⟨.own a,by simp,rfl,.inr ⟨rfl,rfl⟩⟩
  | 1,hs=>simp[plE]at hs;subst hs;exact⟨pr (p.cl=true),by simp,rfl,.inl rfl⟩
  | j+2,hs=>simp[plE]at hs
 ·rw[XA (by simp;omega)]at hx;refine⟨x',s',?_,hs,.inl rfl⟩;rw[XA (by simp;omega)];rw[← hx];congr 1;simp
theorem znY(p:Pt)(s:Sg)(tol:Int):(kR p s tol).1.length<=64:=by
 unfold kR
 split
 ·unfold zc3;split
  ·exact Xe _
  ·rename_i h;have ok:=(yV (show(k7 _ tol _).2=0 from Xa.1 h)).1;have ok:1<=(yc p s.a s.b tol).1/\(yc p s.a s.b tol).1<=64:=ok;dsimp only;rw[zak];omega
 ·split
  ·unfold zc4;split
   ·exact Xe _
   ·rename_i h;have ok:=(yV (show(k7 _ tol _).2=0 from Xa.1 h)).1;have ok:1<=(yd p s.a s.b s.c tol).1/\(yd p s.a s.b s.c tol).1<=64:=ok;dsimp only;rw[zak];omega
  ·show 1<=64;decide
theorem zx0{l:List Pt}(h:l[l.length - 1]? =some z):qV l=z:=by
 unfold qV;rw[QW,KQ,h];rfl
theorem zmp{l:List Pl}{i:Nat}{x:Pl}(h:l[i]? =some x):jt (l.take (i+1))=jt (l.take i)+x.pts.length:=by
 unfold jt;rw[Xm,h];simp
theorem znZ{l:List Pl}{B:Nat}(h:∀q∈l,q.pts.length<=B):∀i,i<=l.length->jt (l.take i)<=B*i
 | 0,_=>Xe _
 | i+1,hi=>by
  have hx:l[i]? =some l[i]:=Xb oM;rw[zmp hx];have:=znZ h i oM;have:=h _ (KO (show i < l.length by omega));rw[Yz];omega
def zn0(c:List Pl×Int):SV:=.tup [.sl plE c.1,i64 c.2]
theorem zx1{c:List Pl×Int}{a:List Pl}{b:Int}(h:c=(a,b)):LE (.tup [.sl plE a,i64 b]) (zn0 c):=by subst h;exact .refl
theorem jw{c:List Pl×Int}{b:Int}(h:c=([],b)):LE (.tup [.val (.slice none 0 0),i64 b]) (zn0 c):=by subst h;exact zI zD .refl
variable{f:Pt}
theorem zgv(h1:1 < q.length)(hz:q[q.length - 1]? =some z)(hf:q[0]? =some f)(e:z=f):qm q=q.take (q.length - 1):=by
 unfold qm;rw[KQ,hz,Jj,hf,e,if_pos ⟨h1,rfl⟩,List.dropLast_eq_take]
theorem ziP(hz:q[q.length - 1]? =some z)(hf:q[0]? =some f)(e:¬z=f):qm q=q:=by
 unfold qm;rw[KQ,hz,Jj,hf,if_neg (λk=>e (Xi k.2))]
theorem zgw(h:¬1 < q.length):qm q=q:=by
 unfold qm;rw[if_neg (λk=>h k.1)]
theorem zqc(q:List Pt):(qm q).length<=q.length:=by
 unfold qm;split
 ·rw[QL];omega
 ·exact Xh _
theorem zqd{p:Pl}{s:Sg}(h1:¬s.v=1):uj tol (cl++[p],0) s=if (zbd p s tol).2≠0 then([],(zbd p s tol).2) else(cl++[(zbd p s tol).1],0):=by
 rw[zgn,if_neg h1];have e:(cl++[p]).getLastD ⟨[],false⟩=p:=by simp
 rw[e,Jr]
theorem zz1{s:Sg}(h:zfk s):zn s.a/\zn s.b/\zn s.c:=⟨h.1.1,h.2.1.1,h.2.2.1⟩
theorem zx2(l:List Sg)(tol:Int):CG0 107 [.sl sgE l,i64 tol] [] (zn0 (zV l tol)) []:=by
 refine zc Tryz.func107 ?_;refine zb.t (ziJ l)<|⟨λa0=>jw (by unfold zV;rw[if_pos a0]),λa0=>?_⟩;have hv:=Xa.1 a0;have hlen:=zhl hv;have ho:=(zaQ.1 hv).2;have bad:¬zeZ tol->zV l tol=([],2):=λh=>by unfold zV;rw[kQ hv,if_pos h]
 refine⟨λa1=>jw (bad (λh=>by have a1:tol < 1:=a1;unfold zeZ at h;omega)),λa1=>?_⟩;refine⟨λa2=>jw (bad (λh=>by have a2:256 < tol:=a2;unfold zeZ at h;omega)),λa2=>?_⟩;have ht:zeZ tol:=⟨by have a1:¬tol < 1:=a1;omega,by have a2:¬256 < tol:=a2;omega⟩;have eQ:zV l tol=if (jq l tol).2≠0 then([],(jq l tol).2) else if 4096 < jt (jq l tol).1 then([],5) else((jq l tol).1,0):=by unfold zV;rw[kQ hv,kQ ht]
 intro hl3
 refine⟨Nat×Option (List Pl×Pl),λq=>match q with
   | (i,none)=>⟨[(1,i64 tol),(6,.val (.slice none 0 0)),(27,.sl sgE l),(28,i64 (l.length:Int)),(29,i64 (i:Int))],[],0,128,0⟩
   | (i,some (cl,p))=>⟨[(1,i64 tol),(6,.own 0),(27,.sl sgE l),(28,i64 (l.length:Int)),(29,i64 (i:Int))],[(0,.garr 118 2 (jN cl 1 (pr (p.cl=true)))),(1,.arr 35 ptE 2 p.pts)],2,128,0⟩,
  λq=>match q with
   | (i,none)=>i=0
   | (i,some (cl,p))=>0 < i/\i<=l.length/\jq (l.take i) tol=(cl++[p],0)/\cl.length < i/\p.pts.length<=1+64*i/\∀q∈cl,q.pts.length<=20000,λq=>l.length - q.1,(0,none),rfl,?_,?_⟩
 ·exact zE []
 rintro⟨i,_ | ⟨cl,p⟩⟩ hI
 ·have hI:i=0:=hI;subst hI;refine⟨λg=>?_,λg=>?_⟩
  ·have g:(0:Int) < l.length:=g;refine Ob.mk ⟨dC,g⟩ ?_;intro x hx;have hx:l[0]? =some x:=hx;have hv1:x.v=1:=zh8 hv x hx;refine⟨λ_=>?_,λh=>absurd hv1 h⟩;refine⟨Pt,ptE,[x.a],rfl,Ob.o0 ?_⟩;refine⟨[[.own 1,.val (.bool false)]],rfl,Ob.o8 ?_⟩;refine Ob.mk ⟨by show((1:Nat):Int)*32<=_;decide,by show 1<=_;decide,dC⟩<|Ar.fit dC ?_;have e:=vT (tol:=tol) hx
   refine⟨(1,some ([],⟨[x.a],false⟩)),⟨dC,oM,?_,dC,by show 1<=_;decide,λq hq=>by cases hq⟩,
    (zek 3 rfl (ys:=jN [] 1 (pr ((⟨[x.a],false⟩:Pl).cl=true))) (.cons (.cons .refl (.cons (zd (show ¬(false=true) by decide)) .nil)) .nil)).trans (zC [3,1] ⟨⟨_,rfl,zac rfl⟩,rfl,trivial⟩),by show l.length - 1 < l.length - 0;omega⟩
   rw[e];show uj tol ([],0) x=_;rw[zgn,if_pos hv1]
  ·have g:¬(0:Int) < l.length:=g;have hl0:l=[]:=Xn oM;refine⟨Unit,λ_=>⟨[(6,.val (.slice none 0 0)),(13,i64 0),(114,i64 0),(115,i64 0)],[],0,128,0⟩,λ_=>True,λ_=>0,(),trivial,?_,?_⟩
   ·exact zE []
   rintro⟨⟩ _
   refine⟨λg=>absurd g dC,λ_=>?_⟩;refine⟨λg=>absurd g dC,λ_=>?_⟩;refine jw ?_;rw[eQ,hl0];rfl
 obtain⟨k0,k1,k2,k3,k4,k5⟩:0 < i/\i<=l.length/\jq (l.take i) tol=(cl++[p],0)/\cl.length < i/\p.pts.length<=1+64*i/\∀q∈cl,q.pts.length<=20000:=hI;have inv:=zkf (tol:=tol) (lo:=⟨-1048576,-1048576⟩) (hi:=⟨1048576,1048576⟩) ho (λp hp=>zxE hv p hp) i k1 (by rw[k2]);rw[k2]at inv;obtain⟨pne,_,pok⟩:=inv.2 p (by simp);have hp1:0 < p.pts.length:=X5 λh=>pne (Xn h)
 refine⟨λg=>?_,λg=>?_⟩
 ·have g:(i:Int) < l.length:=g;refine Ob.mk ⟨oM,g⟩ ?_;intro x hx;have hx:l[i]? =some x:=hx;have e:=vT (tol:=tol) hx;rw[k2]at e;have hf:=zz1 (zkj ho x (Xd hx));refine⟨λv1=>?_,λv1=>?_⟩
  ·have v1:x.v=1:=v1;refine⟨Pt,ptE,[x.a],rfl,Ob.o0 ?_⟩;refine⟨[[.own 3,.val (.bool false)]],rfl,Ob.o8 ?_⟩;refine Ob.mk ⟨by show _*(32:Int)<=_;rw[zal];simp only[Xl,Xs];omega,by rw[zal];simp only[Xl,Xs];omega,dC⟩<|Ar.o ?_
   refine⟨(i+1,some (cl++[p],⟨[x.a],false⟩)),⟨oM,oM,?_,?_,?_,?_⟩,
    ((zek 5 rfl (ys:=jN cl 1 (pr (p.cl=true))++[[.own 3,pr ((⟨[x.a],false⟩:Pl).cl=true)]]) (Rows.app .refl (.cons (.cons .refl (.cons (zd (show ¬(false=true) by decide)) .nil)) .nil))).trans
     (zby (sz0:=2) (T0:=118) 1 5 (enc:=ptE) (ys:=p.pts) rfl rfl (xs':=jN (cl++[p]) 3 (pr ((⟨[x.a],false⟩:Pl).cl=true))) (by simp[jN]) (λz hz=>?_) (zqb _))).trans
     (zC [5,3] ⟨⟨_,rfl,zac rfl⟩,rfl,trivial⟩),by show l.length - (i+1) < l.length - i;omega⟩
   ·rw[e,zgn,if_pos v1]
   ·simp only[Xj,Xl,Xs];omega
   ·show 1<=_;omega
   ·intro q hq
    rcases Xo.1 hq with hq | hq
    ·exact k5 q hq
    ·rw[Xq.1 hq];omega
   ·rcases Xo.1 hz with hz | hz
    ·obtain⟨w,_,rfl⟩:=XO.1 hz;rfl
    ·rw[Xq.1 hz];rfl
  have v1:¬x.v=1:=v1;rw[zqd v1]at e;intro hl6;refine Ar.o ?_;have hrl:=zal cl 1 (pr (p.cl=true));have hN:((jN cl 1 (pr (p.cl=true))).length:Int) - 1=cl.length:=by rw[hrl];omega
  have hrow:0<=((jN cl 1 (pr (p.cl=true))).length:Int) - 1/\((jN cl 1 (pr (p.cl=true))).length:Int) - 1 < (jN cl 1 (pr (p.cl=true))).length:=oM;refine Ob.mk hrow<|Br.mk (λv5=>?_) (λv5=>?_)
  ·have v5:¬x.v=5:=v5;refine Dr.d<|Ob.mk hrow ?_;intro y hy;obtain rfl:=znX hN hy;refine Ob.mk hrow ?_;intro y hy;obtain rfl:=znX hN hy;intro hl8;refine Ar.o<|Ob.o<|Ob.o ?_;intro z hz
   have hz:p.pts[p.pts.length - 1]? =some z:=by
    have hz:p.pts[((p.pts.length:Int) - 1).toNat]? =some z:=hz
    rwa [show((p.pts.length:Int) - 1).toNat=p.pts.length - 1 by omega]at hz
   have hlz:=zx0 hz
   have eg:zbd p x tol=if (kR z x tol).2≠0 then(p,(kR z x tol).2) else(⟨kC p.pts (kR z x tol).1,p.cl⟩,0):=by
    unfold zbd;rw[if_neg v5,hlz]
   refine zb.t (p_seg z x tol (pok z (Xd hz)) hf)<|Ob.mk (by kernel_rfl) ?_;have sl:=znY z x tol;refine⟨λk=>?_,λk=>?_⟩
   ·have k:¬(kR z x tol).2=0:=k;refine jw ?_;rw[if_pos k]at eg;rw[eg,if_pos k]at e;have:=zl8 hx (by rw[e];exact k);rw[e]at this;rw[eQ,this,if_pos k]
   have k:(kR z x tol).2=0:=Xa.1 k;rw[qR k]at eg;rw[eg,qR rfl]at e
   refine zb.give [0,1] 1 [.eloc 0 2 (cl.length:Int) 0,.sl ptE (kR z x tol).1] [(0,.garr 118 2 (jN cl 1 (pr (p.cl=true)))),(1,.arr 35 ptE 2 p.pts)]
    [(0,.garr 118 2 (jN cl 2 (pr (p.cl=true)))),(2,.arr 35 ptE 2 (kC p.pts (kR z x tol).1))] (.tup []) (zCB cl p.pts (kR z x tol).1 (p.cl=true) oM sl oM)
    (.cons (ue (congrArg (λn=>SV.eloc 0 2 n 0) hN)) (.cons .refl .nil)) rfl rfl rfl ⟨⟨_,rfl,congrArg (λq=>some (Mem.garr 118 2 q)) (zp7 [0,1] _ cl 1 _ _).symm,zxY rfl cl _ _⟩,⟨_,rfl,rfl,trivial⟩,trivial⟩ rfl ⟨⟨rfl,zxZ rfl cl _ _⟩,⟨rfl,trivial⟩,trivial⟩ ?_
   refine Ar.o ?_
   refine⟨(i+1,some (cl,⟨kC p.pts (kR z x tol).1,p.cl⟩)),⟨oM,oM,e,oM,?_,k5⟩,
    zC [0,3] ⟨⟨_,congrArg (λq=>some (Mem.garr 118 2 q)) (zp7 [0,1] 3 cl 2 _ _),zac rfl⟩,rfl,trivial⟩,by show l.length - (i+1) < l.length - i;omega⟩
   have:=vA (kR z x tol).1 p.pts;show(kC p.pts (kR z x tol).1).length<=_;omega
  ·have v5:x.v=5:=Xa.1 v5;have eg:zbd p x tol=(⟨qm p.pts,true⟩,0):=by unfold zbd;rw[if_pos v5]
   rw[eg,qR rfl]at e;refine Ob.mk hrow ?_;intro y hy;obtain rfl:=znX hN hy;have hrow2:∀w:List SV,0<=((jN cl 1 (pr (p.cl=true))).length:Int) - 1/\((jN cl 1 (pr (p.cl=true))).length:Int) - 1 < ((jN cl 1 (pr (p.cl=true))).set (((jN cl 1 (pr (p.cl=true))).length:Int) - 1).toNat w).length:=λw=>by rw[X0];omega
   refine Ob.mk (hrow2 _) ?_;intro y hy;obtain rfl:=zdV hN hy;intro hl8
   have fin:∀{σ:St} (q:List Pt),qm p.pts=q->Sub σ ⟨[(1,i64 tol),(6,.own 0),(27,.sl sgE l),(28,i64 (l.length:Int)),(29,i64 ((i+1:Nat):Int))],[(0,.garr 118 2 (jN cl 1 (pr ((⟨qm p.pts,true⟩:Pl).cl=true)))),(1,.arr 35 ptE 2 q)],2,128,0⟩->
     ∃x',(match x' with
      | (i,none)=>i=0
      | (i,some (cl,p))=>0 < i/\i<=l.length/\jq (l.take i) tol=(cl++[p],0)/\cl.length < i/\p.pts.length<=1+64*i/\∀q∈cl,q.pts.length<=20000:Prop)/\
     Sub σ (match x' with
      | (i,none)=>⟨[(1,i64 tol),(6,.val (.slice none 0 0)),(27,.sl sgE l),(28,i64 (l.length:Int)),(29,i64 (i:Int))],[],0,128,0⟩
      | (i,some (cl,p))=>⟨[(1,i64 tol),(6,.own 0),(27,.sl sgE l),(28,i64 (l.length:Int)),(29,i64 (i:Int))],[(0,.garr 118 2 (jN cl 1 (pr (p.cl=true)))),(1,.arr 35 ptE 2 p.pts)],2,128,0⟩)/\l.length - x'.1 < l.length - (i,some (cl,p)).1:=λq hq hs=>by
    refine⟨(i+1,some (cl,⟨qm p.pts,true⟩)),⟨oM,oM,e,oM,?_,k5⟩,?_,by show l.length - (i+1) < l.length - i;omega⟩
    ·have:=zqc p.pts;show(qm p.pts).length<=_;omega
    ·subst hq;exact hs
   refine Dr.d<|Br.mk (λm=>?_) (λm=>?_)
   ·have m:(1:Int) < p.pts.length:=m;refine Ob.mk (hrow2 _) ?_;intro y hy;obtain rfl:=zdV hN hy;refine Ar.o<|Ob.o<|Ob.o ?_;intro z hz
    have hz:p.pts[p.pts.length - 1]? =some z:=by
     have hz:p.pts[((p.pts.length:Int) - 1).toNat]? =some z:=hz
     rwa [show((p.pts.length:Int) - 1).toNat=p.pts.length - 1 by omega]at hz
    refine Ob.mk (hrow2 _) ?_;intro y hy;obtain rfl:=zdV hN hy;refine Ob.o<|Ob.o ?_;intro f hf;have hf:p.pts[0]? =some f:=hf;refine Ob.mk (by kernel_rfl)<|⟨λk=>?_,λk=>?_⟩
    ·have k:z=f:=k9.1 k;refine Ob.mk (hrow2 _) ?_;intro y hy;obtain rfl:=zdV hN hy;refine Ar.o<|Sl.keep (Ob.mk ⟨rfl,oM,oM⟩ ?_);refine Ob.mk (hrow2 _) ?_;intro y hy;obtain rfl:=zdV hN hy;refine Ar.o<|fin (p.pts.take ((p.pts.length:Int) - 1).toNat) ?_ ?_;rotate_left
     ·exact(zek 0 (by exact congrArg (λq=>some (Mem.garr 118 2 q)) (zva hN)) (ys:=jN cl 3 (pr ((⟨qm p.pts,true⟩:Pl).cl=true))) (Rows.app .refl (.cons (.cons .refl (.cons (zR rfl) .nil)) .nil))).trans
       (zC [0,3] ⟨⟨_,rfl,zac rfl⟩,rfl,trivial⟩)
     rw[show((p.pts.length:Int) - 1).toNat=p.pts.length - 1 by omega];exact zgv oM hz hf k
    ·have k:¬z=f:=λh=>k (k9.2 h)
     refine Ar.o<|fin p.pts (ziP hz hf k) ?_
     exact((zek 0 (by exact congrArg (λq=>some (Mem.garr 118 2 q)) (zgu hN)) (ys:=jN cl 1 (pr ((⟨qm p.pts,true⟩:Pl).cl=true))) (Rows.app .refl (.cons (.cons .refl (.cons (zR rfl) .nil)) .nil))).trans
      (zC [0,1] ⟨⟨_,rfl,zac rfl⟩,rfl,trivial⟩))
   ·have m:¬(1:Int) < p.pts.length:=m;refine Ob.mk (by kernel_rfl)<|Ar.o<|fin p.pts (zgw oM) ?_
    exact((zek 0 (by exact congrArg (λq=>some (Mem.garr 118 2 q)) (zgu hN)) (ys:=jN cl 1 (pr ((⟨qm p.pts,true⟩:Pl).cl=true))) (Rows.app .refl (.cons (.cons .refl (.cons (zR rfl) .nil)) .nil))).trans
     (zC [0,1] ⟨⟨_,rfl,zac rfl⟩,rfl,trivial⟩))
 ·have g:¬(i:Int) < l.length:=g;have hi:l.take i=l:=Xf oM;rw[hi]at k2
  have hout:∀q∈cl++[p],q.pts.length<=20000:=λq hq=>by
   rcases Xo.1 hq with hq | hq
   ·exact k5 q hq
   ·rw[Xq.1 hq];omega
  have hlo:(cl++[p]).length=cl.length+1:=by simp
  rw[eQ,k2,qR rfl];intro hl12;refine⟨Nat,λk=>⟨[(6,.own 0),(13,i64 (jt ((cl++[p]).take k):Int)),(113,.own 0),(114,i64 ((cl++[p]).length:Int)),(115,i64 (k:Int))],[(0,.arr 118 plE 2 (cl++[p]))],1,128,0⟩,λk=>k<=(cl++[p]).length,λk=>(cl++[p]).length - k,0,?_,?_,?_⟩
  ·exact Xe _
  ·exact((zby (sz0:=2) (T0:=118) 1 0 (enc:=ptE) (ys:=p.pts) rfl rfl (xs':=(cl++[p]).map plE) (by rw[zal,Xz,hlo]) (λz hz=>by obtain⟨w,_,rfl⟩:=XO.1 hz;rfl)
    (λi j x' s' hx hs=>by have:=zqb (cl:=cl) (p:=p) (a:=1) [] i j x' s' (by rwa [Xy]) hs;rwa [Xy]at this)).trans (zf3 0 plE (cl++[p]) rfl (λ_ _=>rfl))).trans
    (zL [0] ⟨rfl,rfl,rfl,congrArg (λn=>some (i64 n)) (by rw[zal,hlo]),rfl,trivial⟩ ⟨rfl,trivial⟩)
  rintro k hk
  have hc:=znZ hout k hk;refine⟨λg=>?_,λg=>?_⟩
  ·have g:(k:Int) < (cl++[p]).length:=g;refine Ob.o<|Ob.o ?_;intro q hq;have hq:(cl++[p])[k]? =some q:=hq;intro hl14;have:=hout q (Xd hq);(iterate 2 refine Ar.o ?_);refine⟨k+1,oM,zL [0] ⟨rfl,congrArg (λn=>some (i64 n)) (by rw[zmp hq];omega),rfl,rfl,rfl,trivial⟩ ⟨rfl,trivial⟩,by dsimp only;omega⟩
  ·have g:¬(k:Int) < (cl++[p]).length:=g;have hk:(cl++[p]).take k=cl++[p]:=Xf oM;refine⟨λm=>?_,λm=>?_⟩
   ·have m:(4096:Int) < (jt ((cl++[p]).take k):Int):=m;rw[hk]at m;exact jw (if_pos (show 4096 < jt (cl++[p]) by omega))
   ·have m:¬(4096:Int) < (jt ((cl++[p]).take k):Int):=m;rw[hk]at m;exact zx1 (if_neg (show ¬4096 < jt (cl++[p]) by omega))
end
end Go.Gs
