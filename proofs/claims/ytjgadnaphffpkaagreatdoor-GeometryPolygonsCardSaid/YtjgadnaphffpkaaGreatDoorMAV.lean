/- A function in whose code loops over functions stand: its contract out of its code. -/
import Derived.Test.YtjgadnaphffpkaaGreatDoorMA
import Derived.Test.YtjgadnaphffpkaaGreatDoorMAU
import Derived.Test.YtjgadnaphffpkaaGreatDoorMAK
import Derived.Test.YtjgadnaphffpkaaGreatDoorMAT
set_option maxRecDepth 100000
set_option maxHeartbeats 8000000
set_option linter.all false
namespace Go.Gs
section
def znp(P:Program)(Γ:List (TypeId×TI))(c:Code):St->(Ex->St->Prop)->Prop:=
 Code.rec (motive:=λ_=>St->(Ex->St->Prop)->Prop)
  (λσ Q=>Q .normal σ)
  (λid ops draw σ Q=>jK P Γ (.region id ops draw) σ Q)
  (λ_ _ ha hb σ Q=>ha σ λe σ=>(match e with
   | .normal=>hb σ Q
   | .exit id=>Q (.exit id) σ
   | .ret=>Q .ret σ))
  (λc _ _ hx hy σ Q=>ev σ.L c λc=>(match c with
   | .val (.bool true)=>hx σ Q
   | .val (.bool false)=>hy σ Q
   | .pr p _=>Br (p->hx σ Q) (¬p->hy σ Q)
   | .anyb=>Br (hx σ Q) (hy σ Q)
   | _=>False))
  (λid _ hc σ Q=>hc σ λe σ=>(match e with
   | .normal=>Q .normal σ
   |.exit j=>(match Nat.beq j id with
    | true=>Q .normal σ
    | false=>Q (.exit j) σ)
   | .ret=>Q .ret σ))
  (λ_ hc σ Q=>∃(ι:Type) (S:ι->St) (I:ι->Prop) (μ:ι->Nat) (x0:ι),I x0/\Sub σ (S x0)/\
   ∀x,I x->hc (S x) λe σ'=>(match e with
    | .normal=>∃x',I x'/\Sub σ' (S x')/\μ x' < μ x
    | .exit id=>Q (.exit id) σ'
    | .ret=>Q .ret σ'))
  (λg ps assign body _ _ σ Q=>ev σ.L g λs=>(match s with
   | .dfn f caps=>zsI P Γ f caps ps.toList assign body σ Q
   | _=>False))
  (λid σ Q=>Q (.exit id) σ)
  (λ_ _ _ _=>False)
  (λ_ σ Q=>Q .normal σ)
  (λ_ _ _=>False)
  (λσ Q=>Q .ret σ)
  (λ_ _ _=>False)
  c
variable{S:Nat->Prop}{w:World}{f:FuncId}{cs:List SV}{u:Value}
theorem D.dfn_inv(h:D S w (.dfn f cs) u):∃vs:List Value,u=.func (.func f) #[] vs.toArray/\Ds S w cs vs:=by
 cases h with
 | dfn _ _ vs hl h=>exact⟨vs,rfl,hl,h⟩
variable{Pm:Nat->Prop}{ρ:zj}
theorem G.dfn_d(h:G S Pm ρ w (.dfn f cs) u):∃vs:List Value,u=.func (.func f) #[] vs.toArray/\Ds S w cs vs:=by
 cases h with
 | d _ _ h=>exact h.dfn_inv
theorem za6{P:Program}{Γ:List (TypeId×TI)}(hT:TOK P Γ)(hm:P.follows .mixedOrders=true){E:Env}:∀(c:Code) {E':Env} {σ:St} {Q:Ex->St->Prop} {ρ:zj} {a:Act} {w:World},
  RR E E' σ ρ a w->znp P Γ c σ Q->c.wpIn Fence.wide 0 P (zj7 E Q) a w
 | .skip,E',σ,Q,ρ,a,w,hr,h=>wpIn_skip ⟨E',σ,ρ,h,hr⟩
 | .region id ops draw,E',σ,Q,ρ,a,w,hr,h=>wpIn_wide.2 (Code.wp_mono (λ_ _ _ hq=>zj7.of hr hq) (kV hT hm (.region id ops draw) hr.rel.cut h))
 | .seq x y,E',σ,Q,ρ,a,w,hr,h=>by
  refine wpIn_seq (wpIn_mono (za6 hT hm x hr h) (λe a' w' hq=>?_))
  cases e with
  | normal=>obtain⟨E'',σ',ρ',h',hr'⟩:=hq;exact za6 hT hm y hr' h'
  | exit id=>exact hq
  | ret=>exact hq
  | _=>exact hq.elim
 | .cond c x y,E',σ,Q,ρ,a,w,hr,h=>by
  obtain⟨s,h,hs⟩:=zd5 h;have hg:=hs (a:=a) (λt s _ hl=>(hr.rel.regs t s hl).2)
  split at h
  ·exact wpIn_cond_true hg.val_inv (za6 hT hm x hr h)
  ·exact wpIn_cond_false hg.val_inv (za6 hT hm y hr h)
  ·rename_i p i
   by_cases hp:p
   ·exact wpIn_cond_true (by rw[hg.pr_inv];simp[hp]) (za6 hT hm x hr (h.yes hp))
   ·exact wpIn_cond_false (by rw[hg.pr_inv];simp[hp]) (za6 hT hm y hr (h.no hp))
  ·obtain⟨b,hb⟩:=hg.anyb_inv
   cases b with
   | true=>exact wpIn_cond_true hb (za6 hT hm x hr h.yes)
   | false=>exact wpIn_cond_false hb (za6 hT hm y hr h.no)
  ·exact h.elim
 | .block id c,E',σ,Q,ρ,a,w,hr,h=>by
  refine wpIn_block (wpIn_mono (za6 hT hm c hr h) (λe a' w' hq=>?_))
  cases e with
  | normal=>exact hq
  | exit j=>
   obtain⟨E'',σ',ρ',h',hr'⟩:=hq;dsimp only at h';show(if j=id then zj7 E Q .normal a' w' else zj7 E Q (.exit j) a' w')
   split at h'
   ·rename_i hb;rw[if_pos (Xf hb)];exact⟨E'',σ',ρ',h',hr'⟩
   ·rename_i hb;rw[if_neg (KD hb)];exact⟨E'',σ',ρ',h',hr'⟩
  | ret=>exact hq
  | _=>exact hq.elim
 | .loop c,E',σ,Q,ρ,a,w,hr,h=>by
  obtain⟨ι,S,I,μ,x0,h0,hsub,hround⟩:=h;obtain⟨ρ0,hr0⟩:=hsub _ ρ a w hr.rel.cut;refine zas (λn a w=>∃x E' ρ,I x/\μ x=n/\RR E E' (S x) ρ a w) (μ x0) ⟨x0,_,ρ0,h0,rfl,hr.next hr0⟩ λn a w hI=>?_
  obtain⟨x,E1,ρ1,h1,rfl,hr1⟩:=hI;refine wpIn_mono (za6 hT hm c hr1 (hround x h1)) (λe a' w' hq=>?_)
  cases e with
  | normal=>
   obtain⟨E2,σ',ρ',⟨x',h2,hs2,hlt⟩,hr'⟩:=hq;obtain⟨ρ2,hr2⟩:=hs2 _ ρ' a' w' hr'.rel.cut;exact⟨μ x',hlt,x',_,ρ2,h2,rfl,hr'.next hr2⟩
  | exit id=>exact hq
  | ret=>exact hq
  | _=>exact hq.elim
 | .exit id,E',σ,Q,ρ,a,w,hr,h=>wpIn_exit ⟨E',σ,ρ,h,hr⟩
 | .ret,E',σ,Q,ρ,a,w,hr,h=>wpIn_ret ⟨E',σ,ρ,h,hr⟩
 | .rangeFunc g ps assign body,E',σ,Q,ρ,a,w,hr,h=>by
  obtain⟨s,h,hs⟩:=zd5 h;have hg:=hs (a:=a) (λt s _ hl=>(hr.rel.regs t s hl).2)
  split at h
  ·obtain⟨vs,e,hd⟩:=hg.dfn_d;exact zpu hT hm hr e hd h
  ·exact h.elim
 | .scope _,_,_,_,_,_,_,_,h=>by cases h
 | .label _,E',σ,Q,ρ,a,w,hr,h=>wpIn_label ⟨E',σ,ρ,h,hr⟩
 | .goto _,_,_,_,_,_,_,_,h=>by cases h
 | .refuse _,_,_,_,_,_,_,_,h=>by cases h
theorem jW.lessS{S':Nat->Prop}{k:Nat}{m:Mem}(hS:∀b,S' b->S b)(h:jW S Pm ρ w k m):jW S' Pm ρ w k m:=by
 have hg:∀{s v},G S Pm ρ w s v->G S' Pm ρ w s v:=λh=>h.mono (Xh _) (λb _ hn=>⟨λk=>hn (hS b k),rfl⟩) (λb _ hn=>⟨hn,rfl⟩) λ_ _ h=>h
 cases m with
 | box T cs=>
  obtain⟨b,vs,h1,h2,h3,h4,h5⟩:=h;exact⟨b,vs,h1,h2,h3,h4,λj s v hs' hv=>hg (h5 j s v hs' hv)⟩
 | arr T enc sz xs=>
  obtain⟨v,cells,h1,h2,h3,h4,h5,h6⟩:=h;refine⟨v,cells,h1,h2,h3,h4,h5,λi j x s hx hj=>?_⟩;obtain⟨u,hu,hd⟩:=h6 i j x s hx hj;exact⟨u,hu,hd.less hS⟩
 | garr T sz xs=>
  obtain⟨v,cells,h1,h2,h3,h4,h5,h6⟩:=h;refine⟨v,cells,h1,h2,h3,h4,h5,λi j x s hx hj=>?_⟩;obtain⟨u,hu,hd⟩:=h6 i j x s hx hj;exact⟨u,hu,hg hd⟩
 | map es=>
  obtain⟨r,ents,clock,h1,h2,h3,h4⟩:=h;refine⟨r,ents,clock,h1,h2,h3,λi n s hi=>?_⟩;obtain⟨e,g1,g2,g3⟩:=h4 i n s hi;exact⟨e,g1,g2,g3.less hS⟩
theorem zlV{P:Program}{fn:Func}{tmps:Array Value}{R:Ending->World->Prop}{E:Env}{σ:St}{ρ:zj}(he:E.ds=[]):
  ∀(ds:List Deferred) (w:World),Rel E σ ρ { tmps:=tmps,defers:=[] } w->
   (∀d∈ds,∃D,d={ target:=.collected D,args:=#[] }/\E.w0.heap.size<=D/\w.heap[D]? =some (.deferred (some [])))->
   (ds.Pairwise λd e=>∀D D',d.target=.collected D->e.target=.collected D'->D≠D')->
   (∀w',Rel E σ ρ { tmps:=tmps,defers:=[] } w'->∃v,(results fn tmps).run P w'=.ok v w'/\R (.returned v) w')->LeavesInM Fence.wide 0 P fn tmps R ds .returning w
 | [],w,hr,_,_,hk=>hk w hr
 | d::ds,w,hr,hd,hp,hk=>by
  obtain⟨D,rfl,hge,hD⟩:=hd _ (.head _);rw[X4]at hp;refine⟨by simp,.inl ⟨D,_,rfl,run_takeDeferred hD,zlV he ds _ ?_ (λd hd'=>?_) hp.2 hk⟩⟩
  ·have hs:=hr.stp
   refine⟨hr.size,hr.defers,λt s hl=>⟨(hr.regs t s hl).1,(hr.regs t s hl).2.put hD rfl⟩,hr.mem.put hD rfl (by intro _ _ h;cases h),hr.fresh,
    ⟨hs.os,hs.tape,hs.output.trans (qb.put hD rfl rfl),?_,λb hb hn=>(World.putObj_heap_other oM).trans (hs.block b hb hn),hs.own,hs.rho⟩,hr.keep,hr.low⟩
   rw[World.putObj_size];exact hs.size
  ·obtain⟨D',rfl,hge',hD'⟩:=hd d (.tail _ hd');exact⟨D',rfl,hge',(World.putObj_heap_other λe=>hp.1 _ hd' D D' rfl rfl e.symm).trans hD'⟩
variable{P:Program}{Γ:List (TypeId×TI)}{fn:Func}{c:Code}{r:SV}
theorem zrg(hT:TOK P Γ) (hm:P.follows .mixedOrders=true){args:List SV} {M:List (Nat×Mem)} {Q:Ex->St->Prop}
  (hf:P.funcs[f]? =some fn) (hb:fn.body=some c) (hn:(fn.name== "runtime.NumGoroutine")=false) (hle:Nat.ble args.length fn.ntmps=true)
  (h:znp P Γ c ⟨yb 0 args,M,M.length,fn.ntmps,M.length⟩ Q){M':List (Nat×Mem)}
  (hQ:∀e σ,Q e σ->(∀id,e≠.exit id)->∃s,(∀{E:Env} {ρ:zj} {a:Act} {w:World},Rel E σ ρ a w->∃v,(results fn a.tmps).run P w=.ok v w/\G (λb=>E.Keep b∨Own σ.M ρ b) (Own σ.M ρ) ρ w s v)/\
   ∀{E:Env} {ρ:zj} {a:Act} {w:World} {v:Value},Rel E σ ρ a w->(∀b,E.W0 b↔Own M E.ρ0 b)->(∀k,M.length<=k->E.ρ0 k=none)->G (λb=>E.Keep b∨Own σ.M ρ b) (Own σ.M ρ) ρ w s v->
    ∃ρ',Stp (Own M E.ρ0) (Own M' ρ') E.ρ0 ρ' E.w0 w/\zN E.Keep M' ρ' w/\G (λb=>E.Keep b∨Own M' ρ' b) (Own M' ρ') ρ' w r v)
  (hx:∀id σ,¬Q (.exit id) σ):qF P f args M r M':=by
 refine⟨⟨fn,hf,hn,by rw[hb];rfl⟩,λKeep ρ w vs _ hmem hρ hg=>(callsIn_wide (n:=0)).1 (callsIn_of_wp_marks hf hb trivial ?_ rfl)⟩;have hrel:=zaE (nt:=fn.ntmps) hmem hρ hg (Xw hle);have hrr:RR ⟨w,ρ,Keep,Own M ρ,[]⟩ ⟨w,ρ,Keep,Own M ρ,[]⟩ _ ρ _ w:=⟨hrel,rfl,λ_ h=>h,hrel.stp,λ_ h=>(by cases h),List.Pairwise.nil⟩;refine wpIn_mono (za6 hT hm c hrr h) (λe a' w' hq=>?_)
 have fin:∀e E' σ ρ1,Q e σ->(∀id,e≠.exit id)->RR ⟨w,ρ,Keep,Own M ρ,[]⟩ E' σ ρ1 a' w'->LeavesInM Fence.wide 0 P fn a'.tmps (λe w''=>∃v' ρ',e=.returned v'/\Stp (Own M ρ) (Own M' ρ') ρ ρ' w w''/\
   zN Keep M' ρ' w''/\G (λb=>Keep b∨Own M' ρ' b) (Own M' ρ') ρ' w'' r v') a'.defers .returning w':=by
  intro e E' σ ρ1 hq he hr;obtain⟨s,h1,h2⟩:=hQ e σ hq he;have hds:a'.defers=E'.ds:=hr.rel.defers;rw[hds]
  have hbase:Rel ⟨w,ρ,Keep,Own M ρ,[]⟩ σ ρ1 { tmps:=a'.tmps,defers:=[] } w':=by
   refine⟨hr.rel.size,rfl,λt s hl=>⟨(hr.rel.regs t s hl).1,?_⟩,⟨λk m hk=>(hr.rel.mem.rel k m hk).lessS λb hb=>hb.imp (hr.kp b) id,hr.rel.mem.keys,hr.rel.mem.apart,
    λb hb=>⟨(hr.rel.mem.old b hb).1,λhk=>(hr.rel.mem.old b hb).2 (hr.kp b hk)⟩,λb hb=>hr.rel.mem.kp b (hr.kp b hb),hr.rel.mem.gl⟩,hr.rel.fresh,hr.stp,hrel.keep,λk v hk=>hr.rel.low k v (by rw[hr.rho];exact hk)⟩
   exact(hr.rel.regs t s hl).2.mono (Xh _) (λb _ hn=>⟨λk=>hn (k.imp (hr.kp b) id),rfl⟩) (λb _ hn=>⟨hn,rfl⟩) λ_ _ h=>h
  refine zlV rfl E'.ds w' hbase (λd hd=>?_) hr.apart λw2 hr2=>?_
  ·obtain⟨D,e,_,hge,hh⟩:=hr.marks d hd;exact⟨D,e,hge,hh⟩
  ·obtain⟨v,g1,g2⟩:=h1 hr2;obtain⟨ρ',g3,g4,g5⟩:=h2 hr2 (λ_=>K4) hρ g2;exact⟨v,g1,v,ρ',rfl,g3,g4,g5⟩
 cases e with
 | normal=>obtain⟨E',σ,ρ1,hq,hr⟩:=hq;exact fin _ E' σ ρ1 hq (λ_=>by simp) hr
 | ret=>obtain⟨E',σ,ρ1,hq,hr⟩:=hq;exact fin _ E' σ ρ1 hq (λ_=>by simp) hr
 | exit id=>obtain⟨E',σ,ρ1,hq,hr⟩:=hq;exact absurd hq (hx id σ)
 | _=>exact hq.elim
theorem zdE (n:Nat)(hT:TOK P Γ) (hm:P.follows .mixedOrders=true){args:List SV}
  (hf:P.funcs[f]? =some fn) (hb:fn.body=some c) (hn:(fn.name== "runtime.NumGoroutine")=false) (hle:Nat.ble args.length fn.ntmps=true)
  (h:znp P Γ c ⟨yb 0 args,[],0,fn.ntmps,0⟩ (endF n Γ fn.results.toList r)):qF P f args [] r []:=by
 refine zrg hT hm hf hb hn hle h (λe σ hq he=>?_) (λid σ hq=>hq)
 have hq:zbI σ Γ fn.results.toList λs=>LE (zic (zY σ.M) n s) r:=by
  cases e with
  | exit id=>exact absurd rfl (he id)
  | normal=>exact hq
  | ret=>exact hq
 obtain⟨s,hle,h1⟩:=yo hT hq;refine⟨s,h1,λ{E ρ a w v} hr hW _ hg=>⟨ρ,?_,?_,?_⟩⟩
 ·have hs:=hr.stp;exact⟨hs.os,hs.tape,hs.output,hs.size,λb hb hn=>hs.block b hb λh=>hn ((hW b).1 h),λb hb=>absurd hb zZ,hs.rho⟩
 ·exact jd hr.mem.kp λ_ _ h=>hr.mem.glc h
 ·have hd:∀{s:SV} {v:Value},G (λb=>E.Keep b∨Own σ.M ρ b) (Own σ.M ρ) ρ w s v->D (λb=>E.Keep b∨Own [] ρ b) w (frz (zY σ.M) n s) v:=λh=>
   (zps (λk m h=>zA h) hr.mem n h).less λb hb=>hb.resolve_right zZ
  refine hle _ _ _ _ _ ?_;unfold zic
  split
  ·rename_i cs;obtain⟨vs,rfl,hvs⟩:=hg.tup_inv;refine .tup _ vs (by rw[XF];exact hvs.1) λj s v hs hv=>?_
   rw[XA]at hs
   cases hc:cs[j]? with
   | none=>simp[hc]at hs
   | some c=>
    simp[hc]at hs;subst hs;exact .d _ _ (hd (hvs.2 j c v hc hv))
  ·exact .d _ _ (hd hg)
def zlW(all:List Oper)(m:Nat):Bool:=
 let ms:=zbh all all.length
 zil all&&Nat.ble m all.length&&((all.take m).all λo=>o.guard.isNone)&&(List.range all.length).all λj=>Nat.blt j m||(List.range j).all λi=>(ms.getD j 0).testBit i
theorem zlX{all:List Oper}{m:Nat}(h:zlW all m=true):m<=all.length/\(∀i o,i < m->all[i]? =some o->o.guard=none)/\
  (∀j o,all[j]? =some o->∀e∈o.after,Region.binds .any e=true->e.on < j)/\∀i j,m<=j->j < all.length->i < j->Anc all j i:=by
 unfold zlW at h;simp only[Xx]at h;obtain⟨⟨⟨h1,h2⟩,h3⟩,h4⟩:=h;refine⟨Xw h2,λi o hi ho=>?_,λj o ho e he hb=>?_,λi j hm hj hij=>?_⟩
 ·have hmem:o∈all.take m:=Xd (i:=i) (by rw[Xv,if_pos hi];exact ho);have:=XM.1 h3 o hmem
  simpa using this
 ·have hjl:j < all.length:=(Xc.1 ho).1;unfold zil at h1;have:=XM.1 h1 j (Kh.2 hjl);simp only[ho]at this;have:=XM.1 this e (by simpa using he);simp only[hb,Qo,Qz]at this;exact Xw this
 ·have:=XM.1 h4 j (Kh.2 hj)
  have hb:Nat.blt j m=false:=by
   cases hb:Nat.blt j m with
   | false=>rfl
   | true=>have:j+1<=m:=Xw hb;omega
  simp only[hb,Qz]at this;exact zdj all all.length j i hj (XM.1 this i (Kh.2 hij))
theorem zdF{ops:List Oper}{listed:Array Bool}{i:Nat}(hsz:listed.size=ops.length):i∈Region.ready .any ops.toArray listed↔
  ∃o,ops[i]? =some o/\listed.getD i false=false/\∀e∈o.after,Region.binds .any e=true->listed.getD e.on false=true:=by
 rw[zd7]
 have key:∀o,ops[i]? =some o->listed.getD i true=listed.getD i false:=λo ho=>by
  have:i < listed.size:=by have:=(Xc.1 ho).1;omega
  simp[Array.getD,this]
 exact⟨λ⟨o,h1,h2,h3⟩=>⟨o,h1,(key o h1) ▸ h2,h3⟩,λ⟨o,h1,h2,h3⟩=>⟨o,h1,(key o h1).symm ▸ h2,h3⟩⟩
def zpv(R:Act->World->Prop):Exit->Act->World->Prop
 | .normal,a,w=>R a w
 | _,_,_=>False
theorem Oper.wp_only{o:Oper} {a:Act}{K K':Act->World->Prop} {R:Act->World->Prop} {Q:Exit->Act->World->Prop} (h:∀a w,K a w->K' a w)
  (hh:o.wp P a w K (zpv R)):o.wp P a w K' Q:=by
 unfold Oper.wp at*;generalize (execOp a.eval o).run P w=r at*;have no:¬LetsOut (zpv R):=λ⟨_,_,k⟩=>k
 cases r with
 | ok n w'=>
  cases n <;> simp only[Oper.upon]at hh ⊢ <;>
   first
    | exact h _ _ hh
    | exact Calls.mono hh (λe w'' he=>by cases e <;> first | exact h _ _ he | exact he.elim | exact(no he).elim)
    | exact Rows.mono hh (λ_ _ he=>h _ _ he)
 | halt x w'=>cases x <;> simp only[Oper.upon]at hh ⊢ <;> exact hh.elim
end
section
variable {F:Fence} {n:Nat} {P:Program} {all:List Oper} {Q:Exit->Act->World->Prop} {m:Nat}
theorem zyU(hedges:∀j o,all[j]? =some o->∀e∈o.after,Region.binds .any e=true->e.on < j)(hanc:∀i j,m<=j->j < all.length->i < j->Anc all j i):
  ∀(k fuel j:Nat) (la:Array Bool) (a:Act) (w:World),k=all.length - j->m<=j->j<=all.length->all.length - j<=fuel->la.size=all.length->(∀i,la.getD i false=true↔i < j)->
   wpListIn F n P all.toArray Q (all.drop j) a w->wpAnyIn F n P .any all.toArray Q fuel la a w:=by
 intro k
 induction k with
 | zero=>
  intro fuel j la a w hk hm hj hf hsz hla h;have hj:j=all.length:=oM;subst hj;rw[List.drop_length]at h;have h:Q .normal a w:=h
  have hr:Region.ready .any all.toArray la=[]:=by
   cases hr:Region.ready .any all.toArray la with
   | nil=>rfl
   | cons i r=>
    have hi:i∈Region.ready .any all.toArray la:=by rw[hr];exact .head _
    obtain⟨o,ho,h2,_⟩:=(zdF hsz).1 hi;have:=(hla i).2 (Xc.1 ho).1;rw[h2]at this;cases this
  cases fuel with
  | zero=>exact⟨hr,h⟩
  | succ fuel=>exact⟨λ_=>h,λi hi=>(by rw[hr]at hi;cases hi)⟩
 | succ k ih=>
  intro fuel j la a w hk hm hj hf hsz hla h;have hjl:j < all.length:=oM;obtain⟨o,ho⟩:∃o,all[j]? =some o:=⟨_,Xb hjl⟩
  cases fuel with
  | zero=>omega
  | succ fuel=>
  have hnot:∀i,¬i < j->la.getD i false=false:=λi hi=>by
   cases hb:la.getD i false with
   | false=>rfl
   | true=>exact absurd ((hla i).1 hb) hi
  have hready:j∈Region.ready .any all.toArray la:=(zdF hsz).2 ⟨o,ho,hnot j (Yk j),λe he hb=>(hla _).2 (hedges j o ho e he hb)⟩;refine⟨λhn=>(by rw[hn]at hready;cases hready),λi hi=>?_⟩;obtain⟨oi,hoi,h2,h3⟩:=(zdF hsz).1 hi;have hil:=(Xc.1 hoi).1;have hge:¬i < j:=λhlt=>by rw[(hla i).2 hlt]at h2;cases h2
  have hij:i=j:=by
   refine XK λhne=>?_
   have hD:=hanc j i oM hil oM (λq=>la.getD q false=true) (λq oq hq hoq e he hb=>(hla _).2 (by have:=hedges q oq hoq e he hb;have:=(hla q).1 hq;omega))
    (λo' ho' e he hb=>by rw[hoi]at ho';cases ho';exact h3 e he hb)
   exact absurd ((hla j).1 hD) (Yk j)
  subst hij
  have hnext:∀a w,wpListIn F n P all.toArray Q (all.drop (i+1)) a w->wpAnyIn F n P .any all.toArray Q fuel (la.setIfInBounds i true) a w:=λa w hh=>
   ih fuel (i+1) _ a w oM oM oM oM (by simpa using hsz) (λq=>by
    by_cases e:i=q
    ·subst e;have:i < la.size:=oM;simp[Array.getD,this]
    ·simp only[X2,KI e]
     rw[← X2,hla q];omega) hh
  rw[KM hjl]at h;have eo:all[i]=o:=by rw[Xb hjl]at ho;exact Xj ho
  rw[eo]at h;unfold wpListIn at h;unfold wpOpIn;have ho':all.toArray[i]? =some o:=by simpa using ho
  rw[ho'];dsimp only
  split
  ·rename_i hw;rw[if_pos hw]at h;exact Oper.wpIn_mono hnext h
  ·rename_i hw;rw[if_neg hw]at h;exact⟨h.1,hnext _ _ h.2⟩
theorem zwV(hF:ug F)(hd:uh all=true)(ht:zlW all m=true){R:Act->World->Prop}(hR:∀a w,R a w->wpListIn F n P all.toArray Q (all.drop m) a w):
  ∀(fuel:Nat) (lp la:Array Bool) (a:Act) (w:World),lp.size=m->la.size=all.length->(∀i,i < m->la.getD i false=lp.getD i false)->(∀i,m<=i->la.getD i false=false)->
   Down all (λi=>la.getD i false=true)->wpAny P .any (all.take m).toArray (zpv R) fuel lp a w->lp.toList.count false<=fuel->wpAnyIn F n P .any all.toArray Q (fuel+(all.length - m)) la a w:=by
 obtain⟨hm,hgd,hedges,hanc⟩:=zlX ht;have hlen:(all.take m).length=m:=by rw[Xk];omega
 have hto:∀{i o},(all.take m)[i]? =some o->i < m/\all[i]? =some o:=λ{i o} h=>by
  have hi:i < m:=by have:=(Xc.1 h).1;omega
  rw[Xv,if_pos hi]at h;exact⟨hi,h⟩
 have hback:∀{i o},i < m->all[i]? =some o->(all.take m)[i]? =some o:=λ{i o} hi h=>by rw[Xv,if_pos hi];exact h
 -- all of the first are listed
 have full:∀(lp la:Array Bool) (a:Act) (w:World) (fuel:Nat),la.size=all.length->(∀i,i < m->la.getD i false=lp.getD i false)->(∀i,m<=i->la.getD i false=false)->
   (∀i,i < m->lp.getD i false=true)->all.length - m<=fuel->R a w->wpAnyIn F n P .any all.toArray Q fuel la a w:=λlp la a w fuel hsz h1 h2 h3 hf hr=>
  zyU hedges hanc _ fuel m la a w rfl (Xh m) hm hf hsz (λi=>by
   by_cases hi:i < m
   ·rw[h1 i hi,h3 i hi];simp[hi]
   ·rw[h2 i oM];simp[hi]) (hR a w hr)
 have hdone:∀(lp:Array Bool),lp.size=m->Region.ready .any (all.take m).toArray lp=[]->∀i,i < m->lp.getD i false=true:=λlp hsz hn i=>by
  induction i using Nat.strongRecOn with
  | _ i ih=>
   intro hi
   cases hb:lp.getD i false with
   | true=>rfl
   | false=>
    obtain⟨o,ho⟩:∃o,all[i]? =some o:=⟨_,Xb (show i < all.length by omega)⟩
    have:i∈Region.ready .any (all.take m).toArray lp:=(zdF oM).2 ⟨o,hback hi ho,hb,λe he hbind=>by
     have:=hedges i o ho e he hbind
     exact ih e.on this oM⟩
    rw[hn]at this;cases this
 intro fuel
 induction fuel with
 | zero=>
  intro lp la a w hsp hsa h1 h2 hD h hc;refine full lp la a w _ hsa h1 h2 (λi hi=>?_) oM h.2;have hi':i < lp.size:=oM
  cases hb:lp.getD i false with
  | true=>rfl
  | false=>
   have:false∈lp.toList:=by
    simp[Array.getD,hi']at hb;rw[← hb];simp
   have:=QT.2 this;omega
 | succ fuel ih=>
  intro lp la a w hsp hsa h1 h2 hD h hc
  cases hr:Region.ready .any (all.take m).toArray lp with
  | nil=>exact full lp la a w _ hsa h1 h2 (hdone lp hsp hr) oM (h.1 hr)
  | cons i0 r0=>
  have hi0:i0∈Region.ready .any (all.take m).toArray lp:=by rw[hr];exact .head _
  obtain⟨o0,ho0,hl0,he0⟩:=(zdF oM).1 hi0;obtain⟨hlt0,ho0⟩:=hto ho0;rw[show fuel+1+(all.length - m)=(fuel+(all.length - m))+1 by omega]
  have up:∀{i o},i < m->all[i]? =some o->(∀e∈o.after,Region.binds .any e=true->lp.getD e.on false=true)->∀e∈o.after,Region.binds .any e=true->la.getD e.on false=true:=λ{i o} hi ho hh e he hb=>by
   rw[h1 _ (by have:=hedges i o ho e he hb;omega)];exact hh e he hb
  refine⟨λhn=>?_,λi hi=>?_⟩
  ·have:i0∈Region.ready .any all.toArray la:=(zdF hsa).2 ⟨o0,ho0,by rw[h1 _ hlt0];exact hl0,up hlt0 ho0 he0⟩;rw[hn]at this;cases this
  ·obtain⟨o,ho,hl,he⟩:=(zdF hsa).1 hi;have hil:=(Xc.1 ho).1
   have him:i < m:=by
    refine XK λhge=>?_
    have:=hanc i0 i oM hil oM _ hD λo' ho' e he' hb=>by rw[ho]at ho';cases ho';exact he e he' hb
    rw[h1 _ hlt0,hl0]at this;cases this
   have hip:i∈Region.ready .any (all.take m).toArray lp:=(zdF oM).2 ⟨o,hback him ho,by rw[← h1 _ him];exact hl,λe he' hb=>by
    rw[← h1 _ (by have:=hedges i o ho e he' hb;omega)];exact he e he' hb⟩
   have hop:=h.2 i hip;have hi':i < lp.size:=oM;have hjf:lp[i]=false:=by have:=h1 i him;rw[hl]at this;simpa[Array.getD,hi'] using this.symm
   have hnext:∀a w,wpAny P .any (all.take m).toArray (zpv R) fuel (lp.setIfInBounds i true) a w->wpAnyIn F n P .any all.toArray Q (fuel+(all.length - m)) (la.setIfInBounds i true) a w:=λa w hh=>by
    have set1:∀(A:Array Bool) (q:Nat),i < A.size->((A.setIfInBounds i true).getD q false=true↔q=i∨A.getD q false=true):=λA q hA=>by
     by_cases e:i=q
     ·subst e;simp[Array.getD,hA]
     ·simp only[X2,KI e];exact⟨.inr,λh=>h.resolve_left λk=>e k.symm⟩
    refine ih _ _ a w (by simpa using hsp) (by simpa using hsa) (λq hq=>?_) (λq hq=>?_) (λq oq hq hoq e he' hb=>?_) hh ?_
    ·have e1:=set1 lp q hi';have e2:=set1 la q oM;rw[h1 q hq,← e1]at e2;exact Qg.2 e2
    ·have hne:i≠q:=by omega
     simp only[X2,KI hne];rw[← X2];exact h2 q hq
    ·refine(set1 la _ oM).2 (.inr ?_)
     rcases(set1 la q oM).1 hq with rfl | hq
     ·rw[ho]at hoq;cases hoq;exact he e he' hb
     ·exact hD q oq hq hoq e he' hb
    ·have hmem:false∈lp.toList:=by rw[← hjf];simp
     have hpos:=QT.2 hmem
     have:(lp.setIfInBounds i true).toList.count false=lp.toList.count false - 1:=by
      rw[QB,List.count_set (by simpa using hi')];simp[hjf]
     omega
   have hg:=hgd i o him ho;have hw:∀y,Region.wanted o y=true:=λy=>by unfold Region.wanted;rw[hg]
   have hop':(all.take m).toArray[i]? =some o:=by simpa using hback him ho
   have ho':all.toArray[i]? =some o:=by simpa using ho
   unfold wpOp at hop;unfold wpOpIn;rw[hop']at hop;rw[ho'];dsimp only at hop ⊢;rw[if_pos (hw _)]at hop ⊢;have hop:=hop.resolve_right λk=>by obtain⟨_,_,_,k⟩:=k;exact k
   exact hF.op (zj4 hd (o:=o) (Xd ho)) (Oper.wp_only hnext hop)
theorem zpw (hF:ug F) (hm:P.follows .mixedOrders=true) {Γ:List (TypeId×TI)} (hT:TOK P Γ) {E:Env} {id:Nat} {ops:Array Oper} {K:St->Prop} {σ:St} {ρ:zj} {a:Act} {w:World}
  (hd:uh ops.toList=true) (ht:zlW ops.toList m=true) (hr:Rel E σ ρ a w) (hord:vj (ops.toList.take m)=true) (h:u7 P Γ true (ops.toList.take m) (ops.toList.take m) 0 σ K)
  (hK:∀σ ρ a w,K σ->Rel E σ ρ a w->wpListIn F n P ops Q (ops.toList.drop m) a w):(Code.region id ops true).wpIn F n P Q a w:=by
 have hml:=(zlX ht).1;have hpre:=zdl (Q:=zpv λa w=>wpListIn F n P ops Q (ops.toList.drop m) a w) (ops:=(ops.toList.take m).toArray) hT hr (by simpa using hord) (by simpa using h) hK
 have hsz:(ops.toList.take m).toArray.size=m:=by
  have:ops.toList.length=ops.size:=by simp
  simp only[Ky,Xk];omega
 rw[hsz]at hpre;refine wpIn_region_any hm ?_
 have:=zwV (F:=F) (n:=n) (Q:=Q) hF hd ht (R:=λa w=>wpListIn F n P ops Q (ops.toList.drop m) a w) (λa w h=>by simpa using h) m (Array.replicate m false) (Array.replicate ops.size false) a _ (by simp) (by simp)
  (λi hi=>by simp[Array.getD]) (λi hi=>by simp[Array.getD]) (λi o hi=>by simp[Array.getD]at hi) hpre (by simp)
 rw[show m+(ops.toList.length - m)=ops.size by
  have:ops.toList.length=ops.size:=by simp
  omega]at this
 simpa using this
end
def isY(L:List (Nat×SV))(o:Oper):Bool:=
 match o.op with
 |.call c=>(match c.callee with
  |.value (.tmp t)=>(match qc L t with
   | some (.val (.func (.yield _) _ _))=>true
   | _=>false)
  | _=>false)
 | _=>false
def zcG:List (Nat×SV)->List (Nat×SV)
 | []=>[]
 | (t,s)::r=>match pfS s with
  | true=>(t,s)::zcG r
  | false=>(t,.junk)::zcG r
theorem zfg:∀{L:List (Nat×SV)} {t:Nat} {s:SV},qc (zcG L) t=some s->s=.junk∨(qc L t=some s/\pfS s=true)
 | [],_,_,h=>by cases h
 | (k,s0)::r,t,s,h=>by
  unfold zcG at h;rw[kJ]
  split at h
  ·rename_i hp;rw[kJ]at h
   by_cases e:k=t
   ·rw[if_pos e]at h ⊢;cases h;exact .inr ⟨rfl,hp⟩
   ·rw[if_neg e]at h ⊢;exact zfg h
  ·rw[kJ]at h
   by_cases e:k=t
   ·rw[if_pos e]at h;cases h;exact .inl rfl
   ·rw[if_neg e]at h ⊢;exact zfg h
theorem zt8{L:List (Nat×SV)}{t:Nat}{s:SV}(h:qc (zcG L) t=some s):∃s',qc L t=some s':=by
 induction L with
 | nil=>cases h
 | cons p r ih=>
  obtain⟨k,s0⟩:=p;rw[kJ]
  by_cases e:k=t
  ·rw[if_pos e];exact⟨_,rfl⟩
  ·rw[if_neg e];refine ih ?_;unfold zcG at h
   split at h <;> (rw[kJ,if_neg e]at h;exact h)
def St.yput(σ:St)(d:Option Tmp)(s:SV):St:=⟨putL (zcG σ.L) d s,σ.M,σ.nk,σ.nt,σ.n0⟩
def zrh(all:List Oper)(o:Oper)(σ:St)(run skip:St->Prop):Prop:=
 match o.guard with
 | none=>run σ
 |some (j,want)=>(match zc6 all j with
  | none=>False
  |some t=>(match qc σ.L t with
   |some (.val (.bool true))=>(match want with
    | true=>run σ
    | false=>skip σ)
   |some (.val (.bool false))=>(match want with
    | false=>run σ
    | true=>skip σ)
   |some (.pr p _)=>(match want with
    | true=>Br (p->run (σ.put (some t) (.val (.bool true)))) (¬p->skip (σ.put (some t) (.val (.bool false))))
    | false=>Br (p->skip (σ.put (some t) (.val (.bool true)))) (¬p->run (σ.put (some t) (.val (.bool false)))))
   | some (.val (.tuple _))=>skip σ
   | _=>False))
theorem zpx{all:List Oper}{o:Oper}{σ:St}{run skip:St->Prop}(h:zrh all o σ run skip){E:Env}{ρ:zj}{a:Act}{w:World}(hr:Rel E σ ρ a w):
  ∃σ' b,qZ all σ' o b/\Rel E σ' ρ a w/\(σ'.M=σ.M/\σ'.nt=σ.nt)/\((b=true/\run σ')∨(b=false/\skip σ')):=by
 unfold zrh at h
 split at h
 ·rename_i hg;exact⟨σ,true,by simp[qZ,hg],hr,⟨rfl,rfl⟩,.inl ⟨rfl,h⟩⟩
 ·rename_i j want hg
  split at h
  ·exact h.elim
  ·rename_i t ht
   have gv:∀{σ':St} {v:Value},qc σ'.L t=some (.val v)->qZ all σ' o (zrY v want):=λhl=>by
    unfold qZ;rw[hg];exact⟨t,_,ht,hl,rfl⟩
   have gi:∀{σ':St} {b:Bool},qc σ'.L t=some (.val (.bool b))->qZ all σ' o (b==want):=λhl=>gv hl
   have put_look:∀(s1:SV),qc (σ.put (some t) s1).L t=some s1:=λs1=>by
    show qc ((t,s1)::σ.L) t=some s1;rw[kJ];simp
   split at h
   ·rename_i hl
    split at h
    ·exact⟨σ,_,gi hl,hr,⟨rfl,rfl⟩,.inl ⟨rfl,h⟩⟩
    ·exact⟨σ,_,gi hl,hr,⟨rfl,rfl⟩,.inr ⟨rfl,h⟩⟩
   ·rename_i hl
    split at h
    ·exact⟨σ,_,gi hl,hr,⟨rfl,rfl⟩,.inl ⟨rfl,h⟩⟩
    ·exact⟨σ,_,gi hl,hr,⟨rfl,rfl⟩,.inr ⟨rfl,h⟩⟩
   ·rename_i p ip hl
    by_cases hp:p
    ·have hr':=hr.refine hl (zcm hp)
     split at h
     ·exact⟨_,_,gi (put_look _),hr',⟨rfl,rfl⟩,.inl ⟨rfl,h.yes hp⟩⟩
     ·exact⟨_,_,gi (put_look _),hr',⟨rfl,rfl⟩,.inr ⟨rfl,h.yes hp⟩⟩
    ·have hr':=hr.refine hl (zaT hp)
     split at h
     ·exact⟨_,_,gi (put_look _),hr',⟨rfl,rfl⟩,.inr ⟨rfl,h.no hp⟩⟩
     ·exact⟨_,_,gi (put_look _),hr',⟨rfl,rfl⟩,.inl ⟨rfl,h.no hp⟩⟩
   ·rename_i hl;exact⟨σ,_,gv hl,hr,⟨rfl,rfl⟩,.inr ⟨rfl,h⟩⟩
   ·exact h.elim
def yIs(L:List (Nat×SV))(c:Call)(l:Nat):Prop:=
 match c.callee with
 | .value (.tmp t)=>qc L t=some (.val (.func (.yield l) #[] #[]))
 | _=>False
def zwW(l:Nat){α:Type}(enc:α->List SV)(xs:List α)(o:Oper)(σ:St)(i:Nat)(b:Bool)(K:St->Nat->Bool->Prop):Prop:=
 match o.op with
 |.call c=>(match b with
  | true=>False
  | false=>evs σ.L c.args.toList λsvs=>yIs σ.L c l/\∃x,xs[i]? =some x/\uz.scalars (enc x)=true/\LEs svs (enc x)/\zj6 σ.M/\
   zla o.dst σ.nt (Br (K (σ.yput o.dst (.val (.bool true))) (i+1) false) (K (σ.yput o.dst (.val (.bool false))) i true)))
 | _=>False
def zdG(P:Program)(Γ:List (TypeId×TI))(l:Nat){α:Type}(enc:α->List SV)(xs:List α)(all r:List Oper):Nat->St->Nat->Bool->(St->Nat->Bool->Prop)->Prop:=
 List.rec (motive:=λ_=>Nat->St->Nat->Bool->(St->Nat->Bool->Prop)->Prop) (λ_ σ i b K=>K σ i b) (λo _ ih j σ i b K=>match isY σ.L o with
  | false=>u7 P Γ false all [o] j σ λσ'=>ih (j+1) σ' i b K
  | true=>zrh all o σ (λσ'=>zwW l enc xs o σ' i b λσ' i b=>ih (j+1) σ' i b K) (λσ'=>zaj o σ' λσ'=>ih (j+1) σ' i b K)) r
inductive YDr (A:Prop) (B:Nat->Prop):Prop
 | plain (h:A)
 | split (m:Nat) (h:B m)
def vcIt(P:Program)(Γ:List (TypeId×TI))(l:Nat){α:Type}(enc:α->List SV)(xs:List α)(c:Code):St->Nat->Bool->(Ex->St->Nat->Bool->Prop)->Prop:=
 Code.rec (motive:=λ_=>St->Nat->Bool->(Ex->St->Nat->Bool->Prop)->Prop)
  (λσ i b Q=>Q .normal σ i b)
  (λid ops draw σ i b Q=>match draw with
   |false=>(match uh ops.toList with
    | true=>zdG P Γ l enc xs ops.toList ops.toList 0 σ i b (Q .normal)
    | false=>False)
   |true=>YDr (jK P Γ (.region id ops true) σ λe σ=>(match e with
    | .normal=>Q .normal σ i b
    |_=>False)) λm=>Ob (uy (uh ops.toList) (uy (zlW ops.toList m) (vj (ops.toList.take m)))=true)
     (u7 P Γ true (ops.toList.take m) (ops.toList.take m) 0 σ λσ=>zdG P Γ l enc xs ops.toList (ops.toList.drop m) m σ i b (Q .normal)))
  (λ_ _ ha hb σ i b Q=>ha σ i b λe σ i b=>(match e with
   | .normal=>hb σ i b Q
   | .exit id=>Q (.exit id) σ i b
   | .ret=>Q .ret σ i b))
  (λc _ _ hx hy σ i b Q=>ev σ.L c λc=>(match c with
   | .val (.bool true)=>hx σ i b Q
   | .val (.bool false)=>hy σ i b Q
   | .pr p _=>Br (p->hx σ i b Q) (¬p->hy σ i b Q)
   | .anyb=>Br (hx σ i b Q) (hy σ i b Q)
   | _=>False))
  (λid _ hc σ i b Q=>hc σ i b λe σ i b=>(match e with
   | .normal=>Q .normal σ i b
   |.exit j=>(match Nat.beq j id with
    | true=>Q .normal σ i b
    | false=>Q (.exit j) σ i b)
   | .ret=>Q .ret σ i b))
  (λ_ hc σ i b Q=>∃(ι:Type) (S:ι->St) (T:ι->Nat) (I:ι->Prop) (μ:ι->Nat) (x0:ι),I x0/\Sub σ (S x0)/\i=T x0/\b=false/\
   ∀x,I x->hc (S x) (T x) false λe σ' i' b'=>(match e with
    | .normal=>∃x',I x'/\Sub σ' (S x')/\i'=T x'/\b'=false/\μ x' < μ x
    | .exit id=>Q (.exit id) σ' i' b'
    | .ret=>Q .ret σ' i' b'))
  (λ_ _ _ _ _ _ _ _ _ _=>False)
  (λid σ i b Q=>Q (.exit id) σ i b)
  (λ_ _ _ _ _ _=>False)
  (λ_ σ i b Q=>Q .normal σ i b)
  (λ_ _ _ _ _=>False)
  (λσ i b Q=>Q .ret σ i b)
  (λ_ _ _ _ _=>False)
  c
section it
variable {P:Program} {Γ:List (TypeId×TI)} {α:Type} {enc:α->List SV} {xs:List α} {l:Nat} {J:Nat->(Nat->Prop)->(Nat->Prop)->World->Prop} {Jx:(Nat->Prop)->(Nat->Prop)->World->Prop}
section
def Jt(J:Nat->(Nat->Prop)->(Nat->Prop)->World->Prop)(Jx:(Nat->Prop)->(Nat->Prop)->World->Prop)(i:Nat)(b:Bool):(Nat->Prop)->(Nat->Prop)->World->Prop:=
 match b with
 | false=>J i
 | true=>Jx
structure RI (J:Nat->(Nat->Prop)->(Nat->Prop)->World->Prop) (Jx:(Nat->Prop)->(Nat->Prop)->World->Prop) (E:Env) (SA SB:Nat->Prop) (σ:St) (i:Nat) (b:Bool) (ρ:zj) (a:Act) (w:World):Prop where
 rel:Rel E σ ρ a w
 ds:E.ds=[]
 sa:∀b,SA b->E.Keep b
 sb:∀b,Own σ.M ρ b->SB b
 dj:∀b,SB b->¬SA b/\b < w.heap.size
 lt:∀b,SA b->b < w.heap.size
 j:Jt J Jx i b SA SB w
def zpy(J:Nat->(Nat->Prop)->(Nat->Prop)->World->Prop)(Jx:(Nat->Prop)->(Nat->Prop)->World->Prop)(Q:Ex->St->Nat->Bool->Prop):Exit->Act->World->Prop
 | .normal,a,w=>∃E SA SB σ i b ρ,Q .normal σ i b/\RI J Jx E SA SB σ i b ρ a w
 | .exit id,a,w=>∃E SA SB σ i b ρ,Q (.exit id) σ i b/\RI J Jx E SA SB σ i b ρ a w
 | .ret,a,w=>∃E SA SB σ i b ρ,Q .ret σ i b/\RI J Jx E SA SB σ i b ρ a w
 | _,_,_=>False
variable{E:Env}{SA:Nat->Prop}{SB:Nat->Prop}{σ:St}{σ':St}{i:Nat}{b:Bool}{ρ:zj}{a:Act}{w:World}{w':World}
theorem RI.next{ρ':zj}{a':Act}
  (hS:∀i b SA SB SB' W W',Jt J Jx i b SA SB W->Mv SB SB' W W'->(∀b,SB' b->¬SA b/\b < W'.heap.size)->Jt J Jx i b SA SB' W')
  (h:RI J Jx E SA SB σ i b ρ a w) (h':Rel ⟨w,E.ρ0,E.Keep,Own σ.M ρ,E.ds⟩ σ' ρ' a' w'):RI J Jx ⟨w,E.ρ0,E.Keep,Own σ.M ρ,E.ds⟩ SA (λb=>SB b∨Own σ'.M ρ' b) σ' i b ρ' a' w':=by
 have hs:=h'.stp
 have hdj:∀b,(SB b∨Own σ'.M ρ' b)->¬SA b/\b < w'.heap.size:=λb hb=>hb.elim (λhb=>⟨(h.dj b hb).1,Xq (h.dj b hb).2 hs.size⟩)
  λho=>⟨λhk=>(h'.mem.old b ho).2 (h.sa b hk),(h'.mem.old b ho).1⟩
 refine⟨h',h.ds,h.sa,λ_ hb=>.inr hb,hdj,λb hb=>Xq (h.lt b hb) hs.size,hS i b SA SB _ w w' h.j ⟨⟨hs.os,hs.tape,hs.output,hs.size,λb hb hn=>hs.block b hb λho=>hn (h.sb b ho),λb hb=>?_,λ_ _ h=>h⟩,λg v hg _=>h'.mem.glc hg⟩ hdj⟩;exact hb.elim .inl λho=>(hs.own b ho).imp (h.sb b) id
theorem RI.sub
  (hS:∀i b SA SB SB' W W',Jt J Jx i b SA SB W->Mv SB SB' W W'->(∀b,SB' b->¬SA b/\b < W'.heap.size)->Jt J Jx i b SA SB' W')
  (h:RI J Jx E SA SB σ i b ρ a w) (hs:Sub σ σ'):∃E SB ρ,RI J Jx E SA SB σ' i b ρ a w:=by
 obtain⟨ρ',hr⟩:=hs _ ρ a w h.rel.cut;exact⟨_,_,ρ',h.next hS hr⟩
theorem zt9 {o:Oper} {c:Call} {t:Nat} (ho:o.op=.call c) (hc:c.callee=.value (.tmp t))(hf:a.eval (.tmp t)=.func (.yield l) #[] #[]) {n:Next}{args:List Value}
  (ha:c.args.toList.map a.eval=args) (h:(Instr.yield l (List.toArray args)).run P w=.ok n w') (ro:Option Nat):(o.semAt ro a.eval).run P w=.ok n w':=by
 rw[Oper.semAt_eq _ _ _ (by rw[ho];intro c h;cases h)];have hmap:c.args.map a.eval=List.toArray args:=by apply Qv;simp[ha]
 simp only[execOp,ho,resolve,hc,hf,hmap,Deferred.ofValue,invoke,Sem.run_bind,Sem.run_pure,Result.andThen_ok]
 simpa using h
end
end it
section it
variable {P:Program} {Γ:List (TypeId×TI)} {α:Type} {enc:α->List SV} {xs:List α} {l:Nat} {J:Nat->(Nat->Prop)->(Nat->Prop)->World->Prop} {Jx:(Nat->Prop)->(Nat->Prop)->World->Prop}
def zwX(J:Nat->(Nat->Prop)->(Nat->Prop)->World->Prop)(Jx:(Nat->Prop)->(Nat->Prop)->World->Prop):Prop:=
 ∀i b SA SB SB' W W',Jt J Jx i b SA SB W->Mv SB SB' W W'->(∀b,SB' b->¬SA b/\b < W'.heap.size)->Jt J Jx i b SA SB' W'
def zwY(P:Program)(l:Nat)(enc:α->List SV)(xs:List α)(J:Nat->(Nat->Prop)->(Nat->Prop)->World->Prop)(Jx:(Nat->Prop)->(Nat->Prop)->World->Prop):Prop:=
 ∀i x SA SB W args,xs[i]? =some x->J i SA SB W->(∀b,SA b->b < W.heap.size)->(∀b,SB b->¬SA b/\b < W.heap.size)->Ds (λb=>SA b∨SB b) W (enc x) args->
  YieldAt Fence.wide 0 P l (List.toArray args) W λe W'=>∃SA':Nat->Prop,Mv SA SA' W W'/\(∀b,SA' b->¬SB b/\b < W'.heap.size)/\
   ((e=.returned (.bool true)/\J (i+1) SA' SB W')∨(e=.returned (.bool false)/\Jx SA' SB W'))
theorem zwZ{L:List (Nat×SV)}{o:Oper}(h:isY L o=true):∃c t l' a b,o.op=.call c/\c.callee=.value (.tmp t)/\qc L t=some (.val (.func (.yield l') a b)):=by
 unfold isY at h
 split at h
 ·rename_i c hc
  split at h
  ·rename_i t ht
   split at h
   ·rename_i l' a b hl;exact⟨c,t,l',a,b,hc,ht,hl⟩
   ·cases h
  ·cases h
 ·cases h
theorem zua{S S' Pm:Nat->Prop}{ρ:zj}{w w':World}{svs:List SV}{vs:List Value}(hs:uz.scalars svs=true)(h:Gs S Pm ρ w svs vs):Ds S' w' svs vs:=
 ⟨h.1,λj s v h1 h2=>vH (uU hs j s h1) (h.2 j s v h1 h2)⟩
theorem zlY (hT:TOK P Γ) (hS:zwX J Jx) (hY:zwY P l enc xs J Jx)
  {all:List Oper} {Q:Ex->St->Nat->Bool->Prop}:∀{r:List Oper} {j:Nat} {E:Env} {SA SB:Nat->Prop} {σ:St} {i:Nat} {b:Bool} {ρ:zj} {a:Act} {w:World},uh r=true->RI J Jx E SA SB σ i b ρ a w->
   zdG P Γ l enc xs all r j σ i b (Q .normal)->wpListIn Fence.wide 0 P all.toArray (zpy J Jx Q) r a w
 | [],j,E,SA,SB,σ,i,b,ρ,a,w,_,hr,h=>⟨E,SA,SB,σ,i,b,ρ,h,hr⟩
 | o::r,j,E,SA,SB,σ,i,b,ρ,a,w,hd,hr,h=>by
  have hd':zpt o=true/\uh r=true:=by unfold uh at hd ⊢;rw[Yj,Xx]at hd;exact hd
  simp only[zdG]at h
  split at h
  ·-- an operation like any other
   obtain⟨σ',run,svs,s,md,h1,hg,href,hdst,hrun⟩:=zfN hT hr.rel h;have h1:zdG P Γ l enc xs all r (j+1) (σ'.app o.dst s md) i b (Q .normal):=h1
   have hr':Rel E σ' ρ a w:=by
    rcases href with rfl | ⟨t,s0,s1,h2,h3,rfl⟩
    ·exact hr.rel
    ·exact hr.rel.refine h2 h3
   have hnt:σ'.nt=σ.nt:=by rcases href with rfl | ⟨t,s0,s1,h2,h3,rfl⟩ <;> rfl
   have hM:σ'.M=σ.M:=by rcases href with rfl | ⟨t,s0,s1,h2,h3,rfl⟩ <;> rfl
   have hri:RI J Jx E SA SB σ' i b ρ a w:=⟨hr',hr.ds,hr.sa,λb hb=>hr.sb b (hM ▸ hb),hr.dj,hr.lt,hr.j⟩;have hcut:=hr'.cut;unfold wpListIn;rw[hr'.wanted hg]
   rcases hrun with⟨rfl,hst⟩ | ⟨rfl,rfl,rfl⟩
   ·simp only[if_true];refine ug.wide.op (zff hd'.1) ((hst.does hcut).wp λv w' ha=>?_);obtain⟨ρ',hrel⟩:=hcut.app (λt e=>hnt ▸ hdst t e) ha;exact zlY hT hS hY hd'.2 (hri.next hS hrel) h1
   ·simp only[Kz,if_false];obtain⟨ρ',hrel⟩:=hcut.app (λt e=>hnt ▸ hdst t e) (uV hcut.mem);exact⟨λ_ _=>trivial,zlY hT hS hY hd'.2 (hri.next hS hrel) h1⟩
  ·-- the call of yield
   rename_i hy;obtain⟨c,t,l',x0,y0,ho,hc,hlk⟩:=zwZ hy;obtain⟨σ',run,hg,hr',⟨hM,hnt⟩,hrun⟩:=zpx h hr.rel;have hri:RI J Jx E SA SB σ' i b ρ a w:=⟨hr',hr.ds,hr.sa,λb hb=>hr.sb b (hM ▸ hb),hr.dj,hr.lt,hr.j⟩;unfold wpListIn;rw[hr'.wanted hg]
   rcases hrun with⟨rfl,hgo⟩ | ⟨rfl,hskip⟩
   ·simp only[if_true];unfold zwW at hgo;rw[ho]at hgo;dsimp only at hgo
    cases b with
    | true=>exact hgo.elim
    | false=>
     dsimp only at hgo;obtain⟨svs,hgo,hev⟩:=zfL hgo;obtain⟨hyl,x,hx,hsc,hle,hpM,hgo⟩:=hgo;have hyl:qc σ'.L t=some (.val (.func (.yield l) #[] #[])):=by unfold yIs at hyl;rw[hc]at hyl;exact hyl
     have hval:=(hr'.regs t _ hyl).2.val_inv;obtain⟨hdst,hgo⟩:=qH hgo;have hgs:=hev (a:=a) (λt s _ hl=>(hr'.regs t s hl).2)
     have hargs:Ds (λb=>SA b∨SB b) w (enc x) (c.args.toList.map a.eval):=by
      exact zua hsc (hle.gs hgs)
     obtain⟨fn,tmps,assign,body,hrun,hR⟩:=hY i x SA SB w _ hx hr.j hr.lt hr.dj hargs;refine⟨λ_ _=>trivial,?_⟩;rw[zt9 ho hc hval rfl hrun];refine⟨ug.wide.need,hR.mono ?_⟩
     rintro e W' ⟨SA',hmv,hdis,hres⟩
     have fin:∀(v:Bool) (i':Nat) (b':Bool),Jt J Jx i' b' SA' SB W'->zdG P Γ l enc xs all r (j+1) (σ'.yput o.dst (.val (.bool v))) i' b' (Q .normal)->
       wpListIn Fence.wide 0 P all.toArray (zpy J Jx Q) r (a.put o.dst (.bool v)) W':=by
      intro v i' b' hj hvc
      have hno:∀b,b < w.heap.size->¬(E.Keep b∨Own σ'.M ρ b)->¬((E.Keep b∨SA' b)∨Own σ'.M ρ b)/\W'.heap[b]? =w.heap[b]? :=λb hb hn=>
       ⟨λhk=>hk.elim (λhk=>hk.elim (λhk=>hn (.inl hk)) λhs=>(hmv.own b hs).elim (λh=>hn (.inl (hr.sa b h))) λhge=>by omega) λho=>hn (.inr ho),hmv.block b hb λhs=>hn (.inl (hr.sa b hs))⟩
      have hcl:∀t s,qc (zcG σ'.L) t=some s->t < σ'.nt/\G (λb=>(E.Keep b∨SA' b)∨Own σ'.M ρ b) (Own σ'.M ρ) ρ W' s (a.tmps.getD t undef):=λt s hlk=>by
       obtain⟨s',hl'⟩:=zt8 hlk;refine⟨(hr'.regs t s' hl').1,?_⟩
       rcases zfg hlk with rfl | ⟨h1,h2⟩
       ·exact .d _ _ (.junk _)
       ·exact(hr'.regs t s h1).2.pf hmv.size hno h2
      have hmem:zN (λb=>E.Keep b∨SA' b) σ'.M ρ W':=
       (hr'.mem.few (K':=λb=>E.Keep b∨SA b) hpM λb hb=>hb.elim id (hr.sa b)).other hpM hmv λb hb=>⟨λho=>(hdis b hb).1 (hri.sb b ho),(hdis b hb).2⟩
      have hrel:Rel ⟨W',E.ρ0,λb=>E.Keep b∨SA' b,Own σ'.M ρ,E.ds⟩ (σ'.yput o.dst (.val (.bool v))) ρ (a.put o.dst (.bool v)) W':=by
       refine⟨?_,?_,λt s hlk=>?_,hmem,hr'.fresh,⟨rfl,rfl,.refl _,Xh _,λ_ _ _=>rfl,λ_ h=>.inl h,hr'.stp.rho⟩,hmem.kp,hr'.low⟩
       ·have:=hr'.size
        cases hd0:o.dst <;> simpa[Act.put,St.yput] using this
       ·have:=hr'.defers
        cases hd0:o.dst <;> simpa[Act.put] using this
       ·cases hd0:o.dst with
        | none=>
         rw[hd0]at hlk;exact hcl t s hlk
        | some d=>
         rw[hd0]at hlk;have hlk:qc ((d,.val (.bool v))::zcG σ'.L) t=some s:=hlk;rw[kJ]at hlk;have hdlt:d < a.tmps.size:=by rw[hr'.size];exact hdst d hd0
         by_cases e:d=t
         ·rw[if_pos e]at hlk
          cases hlk
          refine⟨e ▸ hdst d hd0,?_⟩;rw[zfM hdlt,if_pos e];exact .d _ _ (.val _)
         ·rw[if_neg e]at hlk;rw[zfM hdlt,if_neg e];exact hcl t s hlk
      refine zlY hT hS hY hd'.2 ⟨hrel,hr.ds,λb hb=>.inr hb,hri.sb,λb hb=>⟨λhs=>(hdis b hs).1 hb,Xq (hr.dj b hb).2 hmv.size⟩,λb hb=>(hdis b hb).2,hj⟩ hvc
     rcases hres with⟨rfl,hj⟩ | ⟨rfl,hj⟩
     ·exact fin true (i+1) false hj hgo.yes
     ·exact fin false i true hj hgo.no
   ·simp only[Kz,if_false];unfold zaj at hskip;obtain⟨hdst,hskip⟩:=qH hskip;have hcut:=hr'.cut;obtain⟨ρ',hrel⟩:=hcut.app hdst (uV hcut.mem);exact⟨λ_ _=>trivial,zlY hT hS hY hd'.2 (hri.next hS hrel) hskip⟩
theorem za7(hT:TOK P Γ)(hm:P.follows .mixedOrders=true)(hS:zwX J Jx)(hY:zwY P l enc xs J Jx):
  ∀(c:Code) {E:Env} {SA SB:Nat->Prop} {σ:St} {i:Nat} {b:Bool} {Q:Ex->St->Nat->Bool->Prop} {ρ:zj} {a:Act} {w:World},
   RI J Jx E SA SB σ i b ρ a w->vcIt P Γ l enc xs c σ i b Q->c.wpIn Fence.wide 0 P (zpy J Jx Q) a w
 | .skip,E,SA,SB,σ,i,b,Q,ρ,a,w,hr,h=>wpIn_skip ⟨E,SA,SB,σ,i,b,ρ,h,hr⟩
 | .region id ops draw,E,SA,SB,σ,i,b,Q,ρ,a,w,hr,h=>by
  cases draw with
  | false=>
   have h:(match uh ops.toList with | true=>zdG P Γ l enc xs ops.toList ops.toList 0 σ i b (Q .normal) | false=>False):=h
   split at h
   ·rename_i hd;refine wpIn_region_list ?_;have:=zlY hT hS hY hd hr h
    simpa using this
   ·exact h.elim
  | true=>
   have h:YDr (jK P Γ (.region id ops true) σ (λe σ=>match e with | .normal=>Q .normal σ i b | _=>False)) (λm=>Ob (uy (uh ops.toList) (uy (zlW ops.toList m) (vj (ops.toList.take m)))=true)
     (u7 P Γ true (ops.toList.take m) (ops.toList.take m) 0 σ λσ=>zdG P Γ l enc xs ops.toList (ops.toList.drop m) m σ i b (Q .normal))):=h
   rcases h with h | ⟨m,h⟩
   ·refine wpIn_wide.2 (Code.wp_mono (λe a' w' hq=>?_) (kV hT hm (.region id ops true) hr.rel.cut h))
    cases e with
    | normal=>obtain⟨σ',ρ',hq,hr'⟩:=hq;exact⟨_,SA,_,σ',i,b,ρ',hq,hr.next hS hr'⟩
    | exit id=>obtain⟨σ',ρ',hq,hr'⟩:=hq;exact hq.elim
    | ret=>obtain⟨σ',ρ',hq,hr'⟩:=hq;exact hq.elim
    | _=>exact hq.elim
   ·obtain⟨hc,h⟩:=h;obtain⟨hd,hc⟩:=ku hc;obtain⟨ht,hord⟩:=ku hc;refine zpw ug.wide hm hT hd ht hr.rel.cut hord h λσ' ρ' a' w' hk hr'=>?_
    have hd':uh (ops.toList.drop m)=true:=XM.2 λo ho=>XM.1 hd o (Ko ho)
    have:=zlY hT hS hY hd' (hr.next hS hr') hk
    simpa using this
 | .seq x y,E,SA,SB,σ,i,b,Q,ρ,a,w,hr,h=>by
  refine wpIn_seq (wpIn_mono (za7 hT hm hS hY x hr h) (λe a' w' hq=>?_))
  cases e with
  | normal=>obtain⟨E',SA',SB',σ',i',b',ρ',h',hr'⟩:=hq;exact za7 hT hm hS hY y hr' h'
  | exit id=>exact hq
  | ret=>exact hq
  | _=>exact hq.elim
 | .cond c x y,E,SA,SB,σ,i,b,Q,ρ,a,w,hr,h=>by
  obtain⟨s,h,hs⟩:=zd5 h;have hg:=hs (a:=a) (λt s _ hl=>(hr.rel.regs t s hl).2)
  split at h
  ·exact wpIn_cond_true hg.val_inv (za7 hT hm hS hY x hr h)
  ·exact wpIn_cond_false hg.val_inv (za7 hT hm hS hY y hr h)
  ·rename_i p ip
   by_cases hp:p
   ·exact wpIn_cond_true (by rw[hg.pr_inv];simp[hp]) (za7 hT hm hS hY x hr (h.yes hp))
   ·exact wpIn_cond_false (by rw[hg.pr_inv];simp[hp]) (za7 hT hm hS hY y hr (h.no hp))
  ·obtain⟨b',hb⟩:=hg.anyb_inv
   cases b' with
   | true=>exact wpIn_cond_true hb (za7 hT hm hS hY x hr h.yes)
   | false=>exact wpIn_cond_false hb (za7 hT hm hS hY y hr h.no)
  ·exact h.elim
 | .block id c,E,SA,SB,σ,i,b,Q,ρ,a,w,hr,h=>by
  refine wpIn_block (wpIn_mono (za7 hT hm hS hY c hr h) (λe a' w' hq=>?_))
  cases e with
  | normal=>exact hq
  | exit j=>
   obtain⟨E',SA',SB',σ',i',b',ρ',h',hr'⟩:=hq;dsimp only at h';show(if j=id then zpy J Jx Q .normal a' w' else zpy J Jx Q (.exit j) a' w')
   split at h'
   ·rename_i hb;rw[if_pos (Xf hb)];exact⟨E',SA',SB',σ',i',b',ρ',h',hr'⟩
   ·rename_i hb;rw[if_neg (KD hb)];exact⟨E',SA',SB',σ',i',b',ρ',h',hr'⟩
  | ret=>exact hq
  | _=>exact hq.elim
 | .loop c,E,SA,SB,σ,i,b,Q,ρ,a,w,hr,h=>by
  obtain⟨ι,S,T,I,μ,x0,h0,hsub,rfl,rfl,hround⟩:=h;obtain⟨E0,SB0,ρ0,hr0⟩:=hr.sub hS hsub;refine zas (λn a w=>∃x E SA SB ρ,I x/\μ x=n/\RI J Jx E SA SB (S x) (T x) false ρ a w) (μ x0) ⟨x0,E0,SA,SB0,ρ0,h0,rfl,hr0⟩ λn a w hI=>?_
  obtain⟨x,E1,SA1,SB1,ρ1,h1,rfl,hr1⟩:=hI;refine wpIn_mono (za7 hT hm hS hY c hr1 (hround x h1)) (λe a' w' hq=>?_)
  cases e with
  | normal=>
   obtain⟨E2,SA2,SB2,σ',i',b',ρ',⟨x',h2,hs2,rfl,rfl,hlt⟩,hr'⟩:=hq;obtain⟨E3,SB3,ρ3,hr3⟩:=hr'.sub hS hs2;exact⟨μ x',hlt,x',E3,SA2,SB3,ρ3,h2,rfl,hr3⟩
  | exit id=>exact hq
  | ret=>exact hq
  | _=>exact hq.elim
 | .exit id,E,SA,SB,σ,i,b,Q,ρ,a,w,hr,h=>wpIn_exit ⟨E,SA,SB,σ,i,b,ρ,h,hr⟩
 | .ret,E,SA,SB,σ,i,b,Q,ρ,a,w,hr,h=>wpIn_ret ⟨E,SA,SB,σ,i,b,ρ,h,hr⟩
 | .rangeFunc _ _ _ _,_,_,_,_,_,_,_,_,_,_,_,h=>by cases h
 | .scope _,_,_,_,_,_,_,_,_,_,_,_,h=>by cases h
 | .label _,E,SA,SB,σ,i,b,Q,ρ,a,w,hr,h=>wpIn_label ⟨E,SA,SB,σ,i,b,ρ,h,hr⟩
 | .goto _,_,_,_,_,_,_,_,_,_,_,_,h=>by cases h
 | .refuse _,_,_,_,_,_,_,_,_,_,_,_,h=>by cases h
def endI(n:Nat)(e:Ex)(_:St)(i:Nat)(b:Bool):Prop:=
 match e with
 | .exit _=>False
 | _=>b=true∨i=n
theorem znq (hT:TOK P Γ) (hm:P.follows .mixedOrders=true) {f:FuncId} {fn:Func} {c:Code} {caps:List SV} (hf:P.funcs[f]? =some fn) (hb:fn.body=some c) (hn:(fn.name== "runtime.NumGoroutine")=false)
  (hle:Nat.ble (caps.length+1) fn.ntmps=true) (hres:fn.results=#[]) (h:∀l:Nat,vcIt P Γ l enc xs c ⟨yb 0 (.val (.func (.yield l) #[] #[])::caps),[],0,fn.ntmps,0⟩ 0 false (endI xs.length)):zlR P f caps enc xs:=by
 refine⟨⟨fn,hf,hn,by rw[hb];rfl⟩,λSA w vs l J Jx hlt hgl hcaps hSJ hSX hY h0=>?_⟩;refine callsIn_of_wp_marks hf hb trivial ?_ rfl
 have hrel:=zaE (Keep:=SA) (M:=[]) (ρ:=λ_=>none) (w:=w) (args:=.val (.func (.yield l) #[] #[])::caps) (vs:=.func (.yield l) #[] #[]::vs) (nt:=fn.ntmps) (jd hlt hgl) (λ_ _=>rfl)
  ⟨by simp[hcaps.1],λj s v hs hv=>by
   cases j with
   | zero=>cases hs;cases hv;exact .d _ _ (.val _)
   | succ j=>exact .d _ _ ((hcaps.2 j s v (by simpa using hs) (by simpa using hv)).less λb hb=>hb.resolve_right zZ)⟩ (by simpa using Xw hle)
 have hri:RI J Jx ⟨w,λ_=>none,SA,Own [] (λ_=>none),[]⟩ SA (λ_=>False) _ 0 false _ _ w:=⟨hrel,rfl,λ_ h=>h,λ_ hb=>absurd hb zZ,λ_ h=>h.elim,hlt,h0⟩
 have hS:zwX J Jx:=λi b SA SB SB' W W' hj hmv hd=>by
  cases b with
  | false=>exact hSJ i SA SB SB' W W' hj hmv hd
  | true=>exact hSX SA SB SB' W W' hj hmv hd
 refine wpIn_mono (za7 hT hm hS hY c hri (h l)) (λe a' w' hq=>?_)
 have fin:∀{E SA SB σ i b ρ},RI J Jx E SA SB σ i b ρ a' w'->(b=true∨i=xs.length)->LeavesInM Fence.wide 0 P fn a'.tmps (λe W'=>(∃v,e=.returned v)/\∃SA' SB',J xs.length SA' SB' W'∨Jx SA' SB' W') a'.defers .returning w':=by
  intro E SA SB σ i b ρ hr hd;rw[hr.rel.defers,hr.ds];refine⟨.tuple #[],by unfold results;rw[hres];simp,⟨_,rfl⟩,SA,SB,?_⟩;have hj:=hr.j
  cases b with
  | true=>exact .inr hj
  | false=>
   obtain rfl:=hd.resolve_left (by simp);exact .inl hj
 cases e with
 | normal=>obtain⟨E,SA,SB,σ,i,b,ρ,hq,hr⟩:=hq;exact fin hr hq
 | ret=>obtain⟨E,SA,SB,σ,i,b,ρ,hq,hr⟩:=hq;exact fin hr hq
 | exit id=>obtain⟨E,SA,SB,σ,i,b,ρ,hq,hr⟩:=hq;exact hq.elim
 | _=>exact hq.elim
end it
open Go.Proofs
section
def ptA(p:Pt):List SV:=[.agg (ptE p)]
theorem zsJ(F:FuncId)(cs:List SV)(n:Int):CG0 288 [i64 n,.fn F [.dptr cs,.loc 0 0]] [(0,.box 3 [i64 n])]
  (.dfn 336 [.dptr [i64 n],.dptr [.dfn F [.dptr cs,.dptr [i64 n]]]]) []:=by
 exact zh0 3 tok mix Tryz.func288 rfl rfl rfl<|.refl
theorem zyV{f:Int->Pt}{n k:Nat}(h:k < n):(zbZ f n)[k]? =some (f ((k:Int)+1)):=by
 unfold zbZ;rw[XA,Qq h];rfl
theorem zad(f:Int->Pt)(n:Nat):(zbZ f n).length=n:=by unfold zbZ;simp
theorem zlZ(f:Int->Pt)(n:Nat):zbZ f (n+1)=zbZ f n++[f ((n:Int)+1)]:=by
 unfold zbZ;rw[K7,XI];rfl
theorem zpz(F:FuncId)(cs:List SV)(n:Int)(f:Int->Pt)(hn:0<=n/\n<=64)(h:∀i:Nat,i < n.toNat->CG0 F [i64 ((i:Int)+1),.dptr cs,.dptr [i64 n]] [] (.agg (ptE (f ((i:Int)+1)))) []):
  zlR Tryz.prog 336 [.dptr [i64 n],.dptr [.dfn F [.dptr cs,.dptr [i64 n]]]] ptA (zbZ f n.toNat):=by
 refine znq (caps:=[.dptr [i64 n],.dptr [.dfn F [.dptr cs,.dptr [i64 n]]]]) (enc:=ptA) (xs:=zbZ f n.toNat) tok mix Tryz.func336 rfl rfl rfl rfl (λl=>?_);refine⟨Nat,λk=>⟨[(0,.val (.func (.yield l) #[] #[])),(1,.dptr [i64 n]),(2,.dptr [.dfn F [.dptr cs,.dptr [i64 n]]]),(4,i64 ((k:Int)+1))],[],0,16,0⟩,λk=>k,λk=>k<=n.toNat,λk=>n.toNat - k,0,?_,?_,rfl,rfl,?_⟩
 ·exact Xe _
 ·exact zE []
 rintro k hk
 refine⟨λg=>?_,λg=>?_⟩
 ·have g:(k:Int)+1<=n:=g;refine zb.t (h k oM)<|⟨rfl,f ((k:Int)+1),zyV (show k < n.toNat by omega),rfl,.cons .refl .nil,(λ_ _ h=>by cases h),?_⟩;refine Br.mk ?_ ?_
  ·refine Ar.o ?_;refine⟨k+1,oM,jG [] ⟨rfl,rfl,rfl,congrArg (λq=>some (i64 q)) oM,trivial⟩ trivial,rfl,rfl,by dsimp only;omega⟩
  ·exact .inl rfl
 ·have g:¬(k:Int)+1<=n:=g;exact .inr (by rw[zad];show k=n.toNat;omega)
theorem zAd(caps:List SV)(xs:List Pt)(h:zlR Tryz.prog 336 caps ptA xs)(hx:xs.length<=4096):CG0 287 [.dfn 336 caps] [] (.sl ptE xs) []:=by
 refine zdE 1 tok mix Tryz.func287 rfl rfl rfl ?_
 refine⟨Pt,ptA,xs,1,[(3,.loc 0 0)],λj=>[(0,.box 72 [.own 1]),(1,.arr 35 ptE 2 (xs.take j))],λ_=>2,h,λ_=>rfl,⟨rfl,rfl,rfl,rfl⟩,
  zE [(0,some 0),(1,none)],⟨Xe _,rfl⟩,λj=>?_,?_,?_⟩
 ·intro k m hm;simp only[Kn,Kw,or_false,K5]at hm
  rcases hm with⟨_,rfl⟩ | ⟨_,rfl⟩
  ·rfl
  ·trivial
 ·intro j y hy;have hlt:(xs.take j).length<=4096:=by rw[Xk];omega
  refine⟨Pt,ptE,[y],rfl,Ob.o0 ?_⟩;refine⟨[y],rfl,Ob.o3 ?_⟩;exact zC [0,4] ⟨rfl,congrArg (λq=>some (Mem.arr 35 ptE 2 q)) (by rw[Xm,hy];rfl),trivial⟩
 ·exact z9<|X9
theorem zub(a b c:Pt)(i n:Int):CG0 289 [i64 i,.dptr (ptE a++ptE b++ptE c),.dptr [i64 n]] [] (.agg (ptE (yV a b c i n))) []:=by
 refine zc Tryz.func289 ?_;exact zb.t (zwP a b c i n)<|.refl
variable{a:Pt}{b:Pt}{c:Pt}{tol:Int}
theorem zj8(h:(j7 a b c tol).2=0):zcU a b c tol=(zbZ (λi=>yV a b c i (j7 a b c tol).1) (j7 a b c tol).1.toNat,0):=by
 unfold zcU;rw[jc h]
theorem zhi(h:¬(j7 a b c tol).2=0):zcU a b c tol=([],(j7 a b c tol).2):=by
 unfold zcU;rw[if_pos h]
def zpA(c:List Pt×Int):SV:=.tup [.sl ptE c.1,i64 c.2]
theorem zhj{c:List Pt×Int}{a:List Pt}{b:Int}(h:c=(a,b)):LE (.tup [.sl ptE a,i64 b]) (zpA c):=by subst h;exact .refl
theorem ziw{c:List Pt×Int}{b:Int}(h:c=([],b)):LE (.tup [.val (.slice none 0 0),i64 b]) (zpA c):=by subst h;exact zI zD .refl
theorem zBn(a b c:Pt)(tol:Int)(ha:zr a)(hb:zr b)(hc:zr c):CG0 229 [.agg (ptE a++ptE b++ptE c),i64 tol] [] (zpA (zcU a b c tol)) []:=by
 refine zc Tryz.func229 ?_;refine zfz.data<|zb.t (zt3 a b c tol ha hb hc)<|⟨λk=>?_,λk=>?_⟩
 ·exact ziw (zhi k)
 have k:(j7 a b c tol).2=0:=Xa.1 k;have ok:=(yS (show(kZ _ tol _).2=0 from k)).1;have ok:1<=(j7 a b c tol).1/\(j7 a b c tol).1<=64:=ok;have e:=zj8 k;generalize (j7 a b c tol).1=n at*;refine zb.give [0] 0 [i64 n,.fn 289 [.dptr (ptE a++ptE b++ptE c),.loc 0 0]] [(0,.box 3 [i64 n])] [] _ (zsJ 289 (ptE a++ptE b++ptE c) n) LEs.refl rfl rfl rfl ⟨⟨_,rfl,rfl,rfl⟩,trivial⟩ rfl trivial<|zb.t (zAd _ _ (zpz 289 (ptE a++ptE b++ptE c) n (λi=>yV a b c i n) oM (λi _=>zub a b c ((i:Int)+1) n)) (by rw[zad];omega)) ?_
 exact zhj e
theorem zBo(a b c:Pt)(tol:Int):CG0 238 [.agg (ptE a++ptE b++ptE c),i64 tol] [] (zpA (zcU a b c tol)) []:=by
 refine zc Tryz.func238 ?_;refine zfz.data<|zb.t (zt4 a b c tol)<|⟨λk=>?_,λk=>?_⟩
 ·exact ziw (zhi k)
 have k:(j7 a b c tol).2=0:=Xa.1 k;have ok:=(yS (show(kZ _ tol _).2=0 from k)).1;have ok:1<=(j7 a b c tol).1/\(j7 a b c tol).1<=64:=ok;have e:=zj8 k;generalize (j7 a b c tol).1=n at*;refine⟨Pt,ptE,[],rfl,Ob.o2 ?_⟩;refine⟨Nat,λi=>⟨[(2,.dptr (ptE a++ptE b++ptE c)),(6,i64 n),(8,.own 0),(9,i64 ((i:Int)+1))],[(0,.arr 35 ptE 2 (zbZ (λi=>yV a b c i n) i))],1,33,0⟩,λi=>i<=n.toNat,λi=>n.toNat - i,0,?_,?_,?_⟩
 ·exact Xe _
 ·exact zf [0]
 rintro i hi
 have hlt:=zad (λi=>yV a b c i n) i;refine⟨λg=>?_,λg=>?_⟩
 ·have g:(i:Int)+1<=n:=g;refine zb.t (zwQ a b c ((i:Int)+1) n)<|⟨Pt,ptE,[yV a b c ((i:Int)+1) n],rfl,Ob.o0 ?_⟩;refine⟨[yV a b c ((i:Int)+1) n],rfl,Ob.mk ⟨(by show _*(16:Int)<=_;simp only[hlt,Xl,Xs];omega),(by simp only[hlt,Xl,Xs];omega),dC,λ_ _=>rfl⟩ ?_⟩;refine Ar.o ?_;refine⟨i+1,oM,zL [2] ⟨rfl,rfl,rfl,congrArg (λq=>some (i64 q)) oM,trivial⟩ ⟨congrArg (λq=>some (Mem.arr 35 ptE 2 q)) (zlZ _ _).symm,trivial⟩,by dsimp only;omega⟩
 ·have g:¬(i:Int)+1<=n:=g;have hi:i=n.toNat:=oM;subst hi;exact zhj e
theorem zuc(a b c d:Pt)(i n:Int):CG0 292 [i64 i,.dptr (ptE a++ptE b++ptE c++ptE d),.dptr [i64 n]] [] (.agg (ptE (yW a b c d i n))) []:=by
 refine zc Tryz.func292 ?_;exact zb.t (zwR a b c d i n)<|.refl
theorem zj9{d:Pt}(h:(j8 a b c d tol).2=0):zcV a b c d tol=(zbZ (λi=>yW a b c d i (j8 a b c d tol).1) (j8 a b c d tol).1.toNat,0):=by
 unfold zcV;rw[jc h]
theorem zhk{d:Pt}(h:¬(j8 a b c d tol).2=0):zcV a b c d tol=([],(j8 a b c d tol).2):=by
 unfold zcV;rw[if_pos h]
theorem zBp(a b c d:Pt)(tol:Int)(ha:zr a)(hb:zr b)(hc:zr c)(hd:zr d):CG0 230 [.agg (ptE a++ptE b++ptE c++ptE d),i64 tol] [] (zpA (zcV a b c d tol)) []:=by
 refine zc Tryz.func230 ?_;refine zfz.data<|zb.t (zt5 a b c d tol ha hb hc hd)<|⟨λk=>?_,λk=>?_⟩
 ·exact ziw (zhk k)
 have k:(j8 a b c d tol).2=0:=Xa.1 k;have ok:=(yS (show(kZ _ tol _).2=0 from k)).1;have ok:1<=(j8 a b c d tol).1/\(j8 a b c d tol).1<=64:=ok;have e:=zj9 k;generalize (j8 a b c d tol).1=n at*;refine zb.give [0] 0 [i64 n,.fn 292 [.dptr (ptE a++ptE b++ptE c++ptE d),.loc 0 0]] [(0,.box 3 [i64 n])] [] _ (zsJ 292 (ptE a++ptE b++ptE c++ptE d) n) LEs.refl rfl rfl rfl ⟨⟨_,rfl,rfl,rfl⟩,trivial⟩ rfl trivial ?_
 exact zb.t (zAd _ _ (zpz 292 (ptE a++ptE b++ptE c++ptE d) n (λi=>yW a b c d i n) oM (λi _=>zuc a b c d ((i:Int)+1) n)) (by rw[zad];omega))<|zhj e
theorem zBq(a b c d:Pt)(tol:Int):CG0 239 [.agg (ptE a++ptE b++ptE c++ptE d),i64 tol] [] (zpA (zcV a b c d tol)) []:=by
 refine zc Tryz.func239 ?_;refine zfz.data<|zb.t (zt6 a b c d tol)<|⟨λk=>?_,λk=>?_⟩
 ·exact ziw (zhk k)
 have k:(j8 a b c d tol).2=0:=Xa.1 k;have ok:=(yS (show(kZ _ tol _).2=0 from k)).1;have ok:1<=(j8 a b c d tol).1/\(j8 a b c d tol).1<=64:=ok;have e:=zj9 k;generalize (j8 a b c d tol).1=n at*;refine⟨Pt,ptE,[],rfl,Ob.o2 ?_⟩;refine⟨Nat,λi=>⟨[(2,.dptr (ptE a++ptE b++ptE c++ptE d)),(6,i64 n),(8,.own 0),(9,i64 ((i:Int)+1))],[(0,.arr 35 ptE 2 (zbZ (λi=>yW a b c d i n) i))],1,33,0⟩,λi=>i<=n.toNat,λi=>n.toNat - i,0,?_,?_,?_⟩
 ·exact Xe _
 ·exact zf [0]
 rintro i hi
 have hlt:=zad (λi=>yW a b c d i n) i;refine⟨λg=>?_,λg=>?_⟩
 ·have g:(i:Int)+1<=n:=g;refine zb.t (zwS a b c d ((i:Int)+1) n)<|⟨Pt,ptE,[yW a b c d ((i:Int)+1) n],rfl,Ob.o0 ?_⟩;refine⟨[yW a b c d ((i:Int)+1) n],rfl,Ob.mk ⟨(by show _*(16:Int)<=_;simp only[hlt,Xl,Xs];omega),(by simp only[hlt,Xl,Xs];omega),dC,λ_ _=>rfl⟩ ?_⟩;refine Ar.o ?_;refine⟨i+1,oM,zL [2] ⟨rfl,rfl,rfl,congrArg (λq=>some (i64 q)) oM,trivial⟩ ⟨congrArg (λq=>some (Mem.arr 35 ptE 2 q)) (zlZ _ _).symm,trivial⟩,by dsimp only;omega⟩
 ·have g:¬(i:Int)+1<=n:=g;have hi:i=n.toNat:=oM;subst hi;exact zhj e
end
end Go.Gs
