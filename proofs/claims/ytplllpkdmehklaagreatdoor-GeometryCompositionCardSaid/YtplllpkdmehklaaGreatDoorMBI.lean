/- A function in whose code loops over functions stand: its contract out of its code. -/
import Derived.Test.YtplllpkdmehklaaGreatDoorMA
import Derived.Test.YtplllpkdmehklaaGreatDoorMBH
import Derived.Test.YtplllpkdmehklaaGreatDoorMBF
set_option maxRecDepth 100000
set_option maxHeartbeats 8000000
set_option linter.all false
namespace Go.Gs
def zmL(P:Program)(Γ:List (TypeId×TI))(c:Code):St->(Ex->St->Prop)->Prop:=
 Code.rec (motive:=fun _=>St->(Ex->St->Prop)->Prop)
  (fun σ Q=>Q .normal σ)
  (fun id ops draw σ Q=>jJ P Γ (.region id ops draw) σ Q)
  (fun _ _ ha hb σ Q=>ha σ fun e σ=>(match e with
   | .normal=>hb σ Q
   | .exit id=>Q (.exit id) σ
   | .ret=>Q .ret σ))
  (fun c _ _ hx hy σ Q=>ev σ.L c fun c=>(match c with
   | .val (.bool true)=>hx σ Q
   | .val (.bool false)=>hy σ Q
   | .pr p _=>Br (p->hx σ Q) (¬p->hy σ Q)
   | .anyb=>Br (hx σ Q) (hy σ Q)
   | _=>False))
  (fun id _ hc σ Q=>hc σ fun e σ=>(match e with
   | .normal=>Q .normal σ
   |.exit j=>(match Nat.beq j id with
    | true=>Q .normal σ
    | false=>Q (.exit j) σ)
   | .ret=>Q .ret σ))
  (fun _ hc σ Q=>∃(ι:Type) (S:ι->St) (I:ι->Prop) (μ:ι->Nat) (x0:ι),I x0/\Sub σ (S x0)/\
   ∀x,I x->hc (S x) fun e σ'=>(match e with
    | .normal=>∃x',I x'/\Sub σ' (S x')/\μ x' < μ x
    | .exit id=>Q (.exit id) σ'
    | .ret=>Q .ret σ'))
  (fun g ps assign body _ _ σ Q=>ev σ.L g fun s=>(match s with
   | .dfn f caps=>zsb P Γ f caps ps.toList assign body σ Q
   | _=>False))
  (fun id σ Q=>Q (.exit id) σ)
  (fun _ _ _ _=>False)
  (fun _ σ Q=>Q .normal σ)
  (fun _ _ _=>False)
  (fun σ Q=>Q .ret σ)
  (fun _ _ _=>False)
  c
theorem D.dfn_inv{S:Nat->Prop}{w:World}{f:FuncId}{cs:List SV}{u:Value}(h:D S w (.dfn f cs) u):∃vs:List Value,u=.func (.func f) #[] vs.toArray/\Ds S w cs vs:=by
 cases h with
 | dfn _ _ vs hl h=>exact ⟨vs,rfl,hl,h⟩
theorem G.dfn_d{S Pm:Nat->Prop}{ρ:zi}{w:World}{f:FuncId}{cs:List SV}{u:Value}(h:G S Pm ρ w (.dfn f cs) u):∃vs:List Value,u=.func (.func f) #[] vs.toArray/\Ds S w cs vs:=by
 cases h with
 | d _ _ h=>exact h.dfn_inv
theorem zaQ{P:Program}{Γ:List (TypeId×TI)}(hT:TOK P Γ)(hm:P.follows .mixedOrders=true){E:Env}:∀(c:Code) {E':Env} {σ:St} {Q:Ex->St->Prop} {ρ:zi} {a:Act} {w:World},
  RR E E' σ ρ a w->zmL P Γ c σ Q->c.wpIn Fence.wide 0 P (zjk E Q) a w
 | .skip,E',σ,Q,ρ,a,w,hr,h=>wpIn_skip ⟨E',σ,ρ,h,hr⟩
 | .region id ops draw,E',σ,Q,ρ,a,w,hr,h=>wpIn_wide.2 (Code.wp_mono (fun _ _ _ hq=>zjk.of hr hq) (kH hT hm (.region id ops draw) hr.rel.cut h))
 | .seq x y,E',σ,Q,ρ,a,w,hr,h=>by
  refine wpIn_seq (wpIn_mono (zaQ hT hm x hr h) (fun e a' w' hq=>?_))
  cases e with
  | normal=>obtain ⟨E'',σ',ρ',h',hr'⟩:=hq;exact zaQ hT hm y hr' h'
  | exit id=>exact hq
  | ret=>exact hq
  | _=>exact hq.elim
 | .cond c x y,E',σ,Q,ρ,a,w,hr,h=>by
  obtain ⟨s,h,hs⟩:=zdL h;have hg:=hs (a:=a) (fun t s _ hl=>(hr.rel.regs t s hl).2)
  split at h
  ·exact wpIn_cond_true hg.val_inv (zaQ hT hm x hr h)
  ·exact wpIn_cond_false hg.val_inv (zaQ hT hm y hr h)
  ·rename_i p i
   by_cases hp:p
   ·exact wpIn_cond_true (by rw [hg.pr_inv];simp [hp]) (zaQ hT hm x hr (h.yes hp))
   ·exact wpIn_cond_false (by rw [hg.pr_inv];simp [hp]) (zaQ hT hm y hr (h.no hp))
  ·obtain ⟨b,hb⟩:=hg.anyb_inv
   cases b with
   | true=>exact wpIn_cond_true hb (zaQ hT hm x hr h.yes)
   | false=>exact wpIn_cond_false hb (zaQ hT hm y hr h.no)
  ·exact h.elim
 | .block id c,E',σ,Q,ρ,a,w,hr,h=>by
  refine wpIn_block (wpIn_mono (zaQ hT hm c hr h) (fun e a' w' hq=>?_))
  cases e with
  | normal=>exact hq
  | exit j=>
   obtain ⟨E'',σ',ρ',h',hr'⟩:=hq;dsimp only at h';show (if j=id then zjk E Q .normal a' w' else zjk E Q (.exit j) a' w')
   split at h'
   ·rename_i hb;rw [if_pos (Nat.eq_of_beq_eq_true hb)];exact ⟨E'',σ',ρ',h',hr'⟩
   ·rename_i hb;rw [if_neg (Nat.ne_of_beq_eq_false hb)];exact ⟨E'',σ',ρ',h',hr'⟩
  | ret=>exact hq
  | _=>exact hq.elim
 | .loop c,E',σ,Q,ρ,a,w,hr,h=>by
  obtain ⟨ι,S,I,μ,x0,h0,hsub,hround⟩:=h;obtain ⟨ρ0,hr0⟩:=hsub _ ρ a w hr.rel.cut;refine v8 (fun n a w=>∃x E' ρ,I x/\μ x=n/\RR E E' (S x) ρ a w) (μ x0) ⟨x0,_,ρ0,h0,rfl,hr.next hr0⟩ fun n a w hI=>?_
  obtain ⟨x,E1,ρ1,h1,rfl,hr1⟩:=hI;refine wpIn_mono (zaQ hT hm c hr1 (hround x h1)) (fun e a' w' hq=>?_)
  cases e with
  | normal=>
   obtain ⟨E2,σ',ρ',⟨x',h2,hs2,hlt⟩,hr'⟩:=hq;obtain ⟨ρ2,hr2⟩:=hs2 _ ρ' a' w' hr'.rel.cut;exact ⟨μ x',hlt,x',_,ρ2,h2,rfl,hr'.next hr2⟩
  | exit id=>exact hq
  | ret=>exact hq
  | _=>exact hq.elim
 | .exit id,E',σ,Q,ρ,a,w,hr,h=>wpIn_exit ⟨E',σ,ρ,h,hr⟩
 | .ret,E',σ,Q,ρ,a,w,hr,h=>wpIn_ret ⟨E',σ,ρ,h,hr⟩
 | .rangeFunc g ps assign body,E',σ,Q,ρ,a,w,hr,h=>by
  obtain ⟨s,h,hs⟩:=zdL h;have hg:=hs (a:=a) (fun t s _ hl=>(hr.rel.regs t s hl).2)
  split at h
  ·obtain ⟨vs,e,hd⟩:=hg.dfn_d;exact zoL hT hm hr e hd h
  ·exact h.elim
 | .scope _,_,_,_,_,_,_,_,h=>by cases h
 | .label _,E',σ,Q,ρ,a,w,hr,h=>wpIn_label ⟨E',σ,ρ,h,hr⟩
 | .goto _,_,_,_,_,_,_,_,h=>by cases h
 | .refuse _,_,_,_,_,_,_,_,h=>by cases h
theorem jC.lessS{S S' Pm:Nat->Prop}{ρ:zi}{w:World}{k:Nat}{m:Mem}(hS:∀b,S' b->S b)(h:jC S Pm ρ w k m):jC S' Pm ρ w k m:=by
 have hg:∀{s v},G S Pm ρ w s v->G S' Pm ρ w s v:=fun h=>h.mono (Nat.le_refl _) (fun b _ hn=>⟨fun k=>hn (hS b k),rfl⟩) (fun b _ hn=>⟨hn,rfl⟩) fun _ _ h=>h
 cases m with
 | box T cs=>
  obtain ⟨b,vs,h1,h2,h3,h4,h5⟩:=h;exact ⟨b,vs,h1,h2,h3,h4,fun j s v hs' hv=>hg (h5 j s v hs' hv)⟩
 | arr T enc sz xs=>
  obtain ⟨v,cells,h1,h2,h3,h4,h5,h6⟩:=h;refine ⟨v,cells,h1,h2,h3,h4,h5,fun i j x s hx hj=>?_⟩;obtain ⟨u,hu,hd⟩:=h6 i j x s hx hj;exact ⟨u,hu,hd.less hS⟩
 | garr T sz xs=>
  obtain ⟨v,cells,h1,h2,h3,h4,h5,h6⟩:=h;refine ⟨v,cells,h1,h2,h3,h4,h5,fun i j x s hx hj=>?_⟩;obtain ⟨u,hu,hd⟩:=h6 i j x s hx hj;exact ⟨u,hu,hg hd⟩
 | map es=>
  obtain ⟨r,ents,clock,h1,h2,h3,h4⟩:=h;refine ⟨r,ents,clock,h1,h2,h3,fun i n s hi=>?_⟩;obtain ⟨e,g1,g2,g3⟩:=h4 i n s hi;exact ⟨e,g1,g2,g3.less hS⟩
theorem zlb{P:Program}{fn:Func}{tmps:Array Value}{R:Ending->World->Prop}{E:Env}{σ:St}{ρ:zi}(he:E.ds=[]):
  ∀(ds:List Deferred) (w:World),Rel E σ ρ { tmps:=tmps,defers:=[] } w->
   (∀d∈ds,∃D,d={ target:=.collected D,args:=#[] }/\E.w0.heap.size<=D/\w.heap[D]? =some (.deferred (some [])))->
   (ds.Pairwise fun d e=>∀D D',d.target=.collected D->e.target=.collected D'->D≠D')->
   (∀w',Rel E σ ρ { tmps:=tmps,defers:=[] } w'->∃v,(results fn tmps).run P w'=.ok v w'/\R (.returned v) w')->LeavesInM Fence.wide 0 P fn tmps R ds .returning w
 | [],w,hr,_,_,hk=>hk w hr
 | d::ds,w,hr,hd,hp,hk=>by
  obtain ⟨D,rfl,hge,hD⟩:=hd _ (.head _);rw [List.pairwise_cons] at hp;refine ⟨by simp,.inl ⟨D,_,rfl,run_takeDeferred hD,zlb he ds _ ?_ (fun d hd'=>?_) hp.2 hk⟩⟩
  ·have hs:=hr.stp
   refine ⟨hr.size,hr.defers,fun t s hl=>⟨(hr.regs t s hl).1,(hr.regs t s hl).2.put hD rfl⟩,hr.mem.put hD rfl (by intro _ _ h;cases h),hr.fresh,
    ⟨hs.os,hs.tape,hs.output.trans (kL.put hD rfl rfl),?_,fun b hb hn=>(World.putObj_heap_other oM).trans (hs.block b hb hn),hs.own,hs.rho⟩,hr.keep,hr.low⟩
   rw [World.putObj_size];exact hs.size
  ·obtain ⟨D',rfl,hge',hD'⟩:=hd d (.tail _ hd');exact ⟨D',rfl,hge',(World.putObj_heap_other fun e=>hp.1 _ hd' D D' rfl rfl e.symm).trans hD'⟩
theorem zqE {P:Program} {Γ:List (TypeId×TI)} (hT:TOK P Γ) (hm:P.follows .mixedOrders=true) {f:FuncId} {fn:Func} {c:Code} {args:List SV} {M:List (Nat×Mem)} {Q:Ex->St->Prop}
  (hf:P.funcs[f]? =some fn) (hb:fn.body=some c) (hn:(fn.name== "runtime.NumGoroutine")=false) (hle:Nat.ble args.length fn.ntmps=true)
  (h:zmL P Γ c ⟨jS 0 args,M,M.length,fn.ntmps,M.length⟩ Q) {r:SV} {M':List (Nat×Mem)}
  (hQ:∀e σ,Q e σ->(∀id,e≠.exit id)->∃s,(∀{E:Env} {ρ:zi} {a:Act} {w:World},Rel E σ ρ a w->∃v,(results fn a.tmps).run P w=.ok v w/\G (fun b=>E.Keep b∨Own σ.M ρ b) (Own σ.M ρ) ρ w s v)/\
   ∀{E:Env} {ρ:zi} {a:Act} {w:World} {v:Value},Rel E σ ρ a w->(∀b,E.W0 b↔Own M E.ρ0 b)->(∀k,M.length<=k->E.ρ0 k=none)->G (fun b=>E.Keep b∨Own σ.M ρ b) (Own σ.M ρ) ρ w s v->
    ∃ρ',Stp (Own M E.ρ0) (Own M' ρ') E.ρ0 ρ' E.w0 w/\zJ E.Keep M' ρ' w/\G (fun b=>E.Keep b∨Own M' ρ' b) (Own M' ρ') ρ' w r v)
  (hx:∀id σ,¬Q (.exit id) σ):zd P f args M r M':=by
 refine ⟨⟨fn,hf,hn,by rw [hb];rfl⟩,fun Keep ρ w vs _ hmem hρ hg=>(callsIn_wide (n:=0)).1 (callsIn_of_wp_marks hf hb trivial ?_ rfl)⟩;have hrel:=zah (nt:=fn.ntmps) hmem hρ hg (Nat.le_of_ble_eq_true hle);have hrr:RR ⟨w,ρ,Keep,Own M ρ,[]⟩ ⟨w,ρ,Keep,Own M ρ,[]⟩ _ ρ _ w:=⟨hrel,rfl,fun _ h=>h,hrel.stp,fun _ h=>(by cases h),List.Pairwise.nil⟩;refine wpIn_mono (zaQ hT hm c hrr h) (fun e a' w' hq=>?_)
 have fin:∀e E' σ ρ1,Q e σ->(∀id,e≠.exit id)->RR ⟨w,ρ,Keep,Own M ρ,[]⟩ E' σ ρ1 a' w'->LeavesInM Fence.wide 0 P fn a'.tmps (fun e w''=>∃v' ρ',e=.returned v'/\Stp (Own M ρ) (Own M' ρ') ρ ρ' w w''/\
   zJ Keep M' ρ' w''/\G (fun b=>Keep b∨Own M' ρ' b) (Own M' ρ') ρ' w'' r v') a'.defers .returning w':=by
  intro e E' σ ρ1 hq he hr;obtain ⟨s,h1,h2⟩:=hQ e σ hq he;have hds:a'.defers=E'.ds:=hr.rel.defers;rw [hds]
  have hbase:Rel ⟨w,ρ,Keep,Own M ρ,[]⟩ σ ρ1 { tmps:=a'.tmps,defers:=[] } w':=by
   refine ⟨hr.rel.size,rfl,fun t s hl=>⟨(hr.rel.regs t s hl).1,?_⟩,⟨fun k m hk=>(hr.rel.mem.rel k m hk).lessS fun b hb=>hb.imp (hr.kp b) id,hr.rel.mem.keys,hr.rel.mem.apart,
    fun b hb=>⟨(hr.rel.mem.old b hb).1,fun hk=>(hr.rel.mem.old b hb).2 (hr.kp b hk)⟩,fun b hb=>hr.rel.mem.kp b (hr.kp b hb),hr.rel.mem.gl⟩,hr.rel.fresh,hr.stp,hrel.keep,fun k v hk=>hr.rel.low k v (by rw [hr.rho];exact hk)⟩
   exact (hr.rel.regs t s hl).2.mono (Nat.le_refl _) (fun b _ hn=>⟨fun k=>hn (k.imp (hr.kp b) id),rfl⟩) (fun b _ hn=>⟨hn,rfl⟩) fun _ _ h=>h
  refine zlb rfl E'.ds w' hbase (fun d hd=>?_) hr.apart fun w2 hr2=>?_
  ·obtain ⟨D,e,_,hge,hh⟩:=hr.marks d hd;exact ⟨D,e,hge,hh⟩
  ·obtain ⟨v,g1,g2⟩:=h1 hr2;obtain ⟨ρ',g3,g4,g5⟩:=h2 hr2 (fun _=>Iff.rfl) hρ g2;exact ⟨v,g1,v,ρ',rfl,g3,g4,g5⟩
 cases e with
 | normal=>obtain ⟨E',σ,ρ1,hq,hr⟩:=hq;exact fin _ E' σ ρ1 hq (fun _=>by simp) hr
 | ret=>obtain ⟨E',σ,ρ1,hq,hr⟩:=hq;exact fin _ E' σ ρ1 hq (fun _=>by simp) hr
 | exit id=>obtain ⟨E',σ,ρ1,hq,hr⟩:=hq;exact absurd hq (hx id σ)
 | _=>exact hq.elim
theorem zdh (n:Nat) {P:Program} {Γ:List (TypeId×TI)} (hT:TOK P Γ) (hm:P.follows .mixedOrders=true) {f:FuncId} {fn:Func} {c:Code} {args:List SV} {r:SV}
  (hf:P.funcs[f]? =some fn) (hb:fn.body=some c) (hn:(fn.name== "runtime.NumGoroutine")=false) (hle:Nat.ble args.length fn.ntmps=true)
  (h:zmL P Γ c ⟨jS 0 args,[],0,fn.ntmps,0⟩ (endF n Γ fn.results.toList r)):zd P f args [] r []:=by
 refine zqE hT hm hf hb hn hle h (fun e σ hq he=>?_) (fun id σ hq=>hq)
 have hq:zbo σ Γ fn.results.toList fun s=>LE (zhy (zN σ.M) n s) r:=by
  cases e with
  | exit id=>exact absurd rfl (he id)
  | normal=>exact hq
  | ret=>exact hq
 obtain ⟨s,hle,h1⟩:=yb hT hq;refine ⟨s,h1,fun {E ρ a w v} hr hW _ hg=>⟨ρ,?_,?_,?_⟩⟩
 ·have hs:=hr.stp;exact ⟨hs.os,hs.tape,hs.output,hs.size,fun b hb hn=>hs.block b hb fun h=>hn ((hW b).1 h),fun b hb=>absurd hb zT,hs.rho⟩
 ·exact qR hr.mem.kp fun _ _ h=>hr.mem.glc h
 ·have hd:∀{s:SV} {v:Value},G (fun b=>E.Keep b∨Own σ.M ρ b) (Own σ.M ρ) ρ w s v->D (fun b=>E.Keep b∨Own [] ρ b) w (frz (zN σ.M) n s) v:=fun h=>
   (zoJ (fun k m h=>zr h) hr.mem n h).less fun b hb=>hb.resolve_right zT
  refine hle _ _ _ _ _ ?_;unfold zhy
  split
  ·rename_i cs;obtain ⟨vs,rfl,hvs⟩:=hg.tup_inv;refine .tup _ vs (by rw [List.length_map];exact hvs.1) fun j s v hs hv=>?_
   rw [List.getElem?_map] at hs
   cases hc:cs[j]? with
   | none=>simp [hc] at hs
   | some c=>
    simp [hc] at hs;subst hs;exact .d _ _ (hd (hvs.2 j c v hc hv))
  ·exact .d _ _ (hd hg)
def zlc(all:List Oper)(m:Nat):Bool:=
 let ms:=za0 all all.length
 zhH all&&Nat.ble m all.length&&((all.take m).all fun o=>o.guard.isNone)&&(List.range all.length).all fun j=>Nat.blt j m||(List.range j).all fun i=>(ms.getD j 0).testBit i
theorem zld{all:List Oper}{m:Nat}(h:zlc all m=true):m<=all.length/\(∀i o,i < m->all[i]? =some o->o.guard=none)/\
  (∀j o,all[j]? =some o->∀e∈o.after,Region.binds .any e=true->e.on < j)/\∀i j,m<=j->j < all.length->i < j->Anc all j i:=by
 unfold zlc at h;simp only [Bool.and_eq_true] at h;obtain ⟨⟨⟨h1,h2⟩,h3⟩,h4⟩:=h;refine ⟨Nat.le_of_ble_eq_true h2,fun i o hi ho=>?_,fun j o ho e he hb=>?_,fun i j hm hj hij=>?_⟩
 ·have hmem:o∈all.take m:=List.mem_of_getElem? (i:=i) (by rw [List.getElem?_take,if_pos hi];exact ho);have:=List.all_eq_true.1 h3 o hmem
  simpa using this
 ·have hjl:j < all.length:=(List.getElem?_eq_some_iff.1 ho).1;unfold zhH at h1;have:=List.all_eq_true.1 h1 j (List.mem_range.2 hjl);simp only [ho] at this;have:=List.all_eq_true.1 this e (by simpa using he);simp only [hb,Bool.not_true,Bool.false_or] at this;exact Nat.le_of_ble_eq_true this
 ·have:=List.all_eq_true.1 h4 j (List.mem_range.2 hj)
  have hb:Nat.blt j m=false:=by
   cases hb:Nat.blt j m with
   | false=>rfl
   | true=>have:j+1<=m:=Nat.le_of_ble_eq_true hb;omega
  simp only [hb,Bool.false_or] at this;exact zcV all all.length j i hj (List.all_eq_true.1 this i (List.mem_range.2 hij))
theorem zdi{ops:List Oper}{listed:Array Bool}{i:Nat}(hsz:listed.size=ops.length):i∈Region.ready .any ops.toArray listed↔
  ∃o,ops[i]? =some o/\listed.getD i false=false/\∀e∈o.after,Region.binds .any e=true->listed.getD e.on false=true:=by
 rw [zdN]
 have key:∀o,ops[i]? =some o->listed.getD i true=listed.getD i false:=fun o ho=>by
  have:i < listed.size:=by have:=(List.getElem?_eq_some_iff.1 ho).1;omega
  simp [Array.getD,this]
 exact ⟨fun ⟨o,h1,h2,h3⟩=>⟨o,h1,(key o h1) ▸ h2,h3⟩,fun ⟨o,h1,h2,h3⟩=>⟨o,h1,(key o h1).symm ▸ h2,h3⟩⟩
def zoM(R:Act->World->Prop):Exit->Act->World->Prop
 | .normal,a,w=>R a w
 | _,_,_=>False
theorem Oper.wp_only {P:Program} {o:Oper} {a:Act} {w:World} {K K':Act->World->Prop} {R:Act->World->Prop} {Q:Exit->Act->World->Prop} (h:∀a w,K a w->K' a w)
  (hh:o.wp P a w K (zoM R)):o.wp P a w K' Q:=by
 unfold Oper.wp at*;generalize (execOp a.eval o).run P w=r at*;have no:¬LetsOut (zoM R):=fun ⟨_,_,k⟩=>k
 cases r with
 | ok n w'=>
  cases n <;> simp only [Oper.upon] at hh ⊢ <;>
   first
    | exact h _ _ hh
    | exact Calls.mono hh (fun e w'' he=>by cases e <;> first | exact h _ _ he | exact he.elim | exact (no he).elim)
    | exact Rows.mono hh (fun _ _ he=>h _ _ he)
 | halt x w'=>cases x <;> simp only [Oper.upon] at hh ⊢ <;> exact hh.elim
section
variable {F:Fence} {n:Nat} {P:Program} {all:List Oper} {Q:Exit->Act->World->Prop} {m:Nat}
theorem zzl(hedges:∀j o,all[j]? =some o->∀e∈o.after,Region.binds .any e=true->e.on < j)(hanc:∀i j,m<=j->j < all.length->i < j->Anc all j i):
  ∀(k fuel j:Nat) (la:Array Bool) (a:Act) (w:World),k=all.length - j->m<=j->j<=all.length->all.length - j<=fuel->la.size=all.length->(∀i,la.getD i false=true↔i < j)->
   wpListIn F n P all.toArray Q (all.drop j) a w->wpAnyIn F n P .any all.toArray Q fuel la a w:=by
 intro k
 induction k with
 | zero=>
  intro fuel j la a w hk hm hj hf hsz hla h;have hj:j=all.length:=oM;subst hj;rw [List.drop_length] at h;have h:Q .normal a w:=h
  have hr:Region.ready .any all.toArray la=[]:=by
   cases hr:Region.ready .any all.toArray la with
   | nil=>rfl
   | cons i r=>
    have hi:i∈Region.ready .any all.toArray la:=by rw [hr];exact .head _
    obtain ⟨o,ho,h2,_⟩:=(zdi hsz).1 hi;have:=(hla i).2 (List.getElem?_eq_some_iff.1 ho).1;rw [h2] at this;cases this
  cases fuel with
  | zero=>exact ⟨hr,h⟩
  | succ fuel=>exact ⟨fun _=>h,fun i hi=>(by rw [hr] at hi;cases hi)⟩
 | succ k ih=>
  intro fuel j la a w hk hm hj hf hsz hla h;have hjl:j < all.length:=oM;obtain ⟨o,ho⟩:∃o,all[j]? =some o:=⟨_,List.getElem?_eq_getElem hjl⟩
  cases fuel with
  | zero=>omega
  | succ fuel=>
  have hnot:∀i,¬i < j->la.getD i false=false:=fun i hi=>by
   cases hb:la.getD i false with
   | false=>rfl
   | true=>exact absurd ((hla i).1 hb) hi
  have hready:j∈Region.ready .any all.toArray la:=(zdi hsz).2 ⟨o,ho,hnot j (Nat.lt_irrefl j),fun e he hb=>(hla _).2 (hedges j o ho e he hb)⟩;refine ⟨fun hn=>(by rw [hn] at hready;cases hready),fun i hi=>?_⟩;obtain ⟨oi,hoi,h2,h3⟩:=(zdi hsz).1 hi;have hil:=(List.getElem?_eq_some_iff.1 hoi).1;have hge:¬i < j:=fun hlt=>by rw [(hla i).2 hlt] at h2;cases h2
  have hij:i=j:=by
   refine Classical.byContradiction fun hne=>?_
   have hD:=hanc j i oM hil oM (fun q=>la.getD q false=true) (fun q oq hq hoq e he hb=>(hla _).2 (by have:=hedges q oq hoq e he hb;have:=(hla q).1 hq;omega))
    (fun o' ho' e he hb=>by rw [hoi] at ho';cases ho';exact h3 e he hb)
   exact absurd ((hla j).1 hD) (Nat.lt_irrefl j)
  subst hij
  have hnext:∀a w,wpListIn F n P all.toArray Q (all.drop (i+1)) a w->wpAnyIn F n P .any all.toArray Q fuel (la.setIfInBounds i true) a w:=fun a w hh=>
   ih fuel (i+1) _ a w oM oM oM oM (by simpa using hsz) (fun q=>by
    by_cases e:i=q
    ·subst e;have:i < la.size:=oM;simp [Array.getD,this]
    ·simp only [Array.getD_eq_getD_getElem?,Array.getElem?_setIfInBounds_ne e]
     rw [← Array.getD_eq_getD_getElem?,hla q];omega) hh
  rw [List.drop_eq_getElem_cons hjl] at h;have eo:all[i]=o:=by rw [List.getElem?_eq_getElem hjl] at ho;exact Option.some.inj ho
  rw [eo] at h;unfold wpListIn at h;unfold wpOpIn;have ho':all.toArray[i]? =some o:=by simpa using ho
  rw [ho'];dsimp only
  split
  ·rename_i hw;rw [if_pos hw] at h;exact Oper.wpIn_mono hnext h
  ·rename_i hw;rw [if_neg hw] at h;exact ⟨h.1,hnext _ _ h.2⟩
theorem zwS(hF:yN F)(hd:yO all=true)(ht:zlc all m=true){R:Act->World->Prop}(hR:∀a w,R a w->wpListIn F n P all.toArray Q (all.drop m) a w):
  ∀(fuel:Nat) (lp la:Array Bool) (a:Act) (w:World),lp.size=m->la.size=all.length->(∀i,i < m->la.getD i false=lp.getD i false)->(∀i,m<=i->la.getD i false=false)->
   Down all (fun i=>la.getD i false=true)->wpAny P .any (all.take m).toArray (zoM R) fuel lp a w->lp.toList.count false<=fuel->wpAnyIn F n P .any all.toArray Q (fuel+(all.length - m)) la a w:=by
 obtain ⟨hm,hgd,hedges,hanc⟩:=zld ht;have hlen:(all.take m).length=m:=by rw [List.length_take];omega
 have hto:∀{i o},(all.take m)[i]? =some o->i < m/\all[i]? =some o:=fun {i o} h=>by
  have hi:i < m:=by have:=(List.getElem?_eq_some_iff.1 h).1;omega
  rw [List.getElem?_take,if_pos hi] at h;exact ⟨hi,h⟩
 have hback:∀{i o},i < m->all[i]? =some o->(all.take m)[i]? =some o:=fun {i o} hi h=>by rw [List.getElem?_take,if_pos hi];exact h
 -- all of the first are listed
 have full:∀(lp la:Array Bool) (a:Act) (w:World) (fuel:Nat),la.size=all.length->(∀i,i < m->la.getD i false=lp.getD i false)->(∀i,m<=i->la.getD i false=false)->
   (∀i,i < m->lp.getD i false=true)->all.length - m<=fuel->R a w->wpAnyIn F n P .any all.toArray Q fuel la a w:=fun lp la a w fuel hsz h1 h2 h3 hf hr=>
  zzl hedges hanc _ fuel m la a w rfl (Nat.le_refl m) hm hf hsz (fun i=>by
   by_cases hi:i < m
   ·rw [h1 i hi,h3 i hi];simp [hi]
   ·rw [h2 i oM];simp [hi]) (hR a w hr)
 have hdone:∀(lp:Array Bool),lp.size=m->Region.ready .any (all.take m).toArray lp=[]->∀i,i < m->lp.getD i false=true:=fun lp hsz hn i=>by
  induction i using Nat.strongRecOn with
  | _ i ih=>
   intro hi
   cases hb:lp.getD i false with
   | true=>rfl
   | false=>
    obtain ⟨o,ho⟩:∃o,all[i]? =some o:=⟨_,List.getElem?_eq_getElem (show i < all.length by omega)⟩
    have:i∈Region.ready .any (all.take m).toArray lp:=(zdi oM).2 ⟨o,hback hi ho,hb,fun e he hbind=>by
     have:=hedges i o ho e he hbind
     exact ih e.on this oM⟩
    rw [hn] at this;cases this
 intro fuel
 induction fuel with
 | zero=>
  intro lp la a w hsp hsa h1 h2 hD h hc;refine full lp la a w _ hsa h1 h2 (fun i hi=>?_) oM h.2;have hi':i < lp.size:=oM
  cases hb:lp.getD i false with
  | true=>rfl
  | false=>
   have:false∈lp.toList:=by
    simp [Array.getD,hi'] at hb;rw [← hb];simp
   have:=List.count_pos_iff.2 this;omega
 | succ fuel ih=>
  intro lp la a w hsp hsa h1 h2 hD h hc
  cases hr:Region.ready .any (all.take m).toArray lp with
  | nil=>exact full lp la a w _ hsa h1 h2 (hdone lp hsp hr) oM (h.1 hr)
  | cons i0 r0=>
  have hi0:i0∈Region.ready .any (all.take m).toArray lp:=by rw [hr];exact .head _
  obtain ⟨o0,ho0,hl0,he0⟩:=(zdi oM).1 hi0;obtain ⟨hlt0,ho0⟩:=hto ho0;rw [show fuel+1+(all.length - m)=(fuel+(all.length - m))+1 by omega]
  have up:∀{i o},i < m->all[i]? =some o->(∀e∈o.after,Region.binds .any e=true->lp.getD e.on false=true)->∀e∈o.after,Region.binds .any e=true->la.getD e.on false=true:=fun {i o} hi ho hh e he hb=>by
   rw [h1 _ (by have:=hedges i o ho e he hb;omega)];exact hh e he hb
  refine ⟨fun hn=>?_,fun i hi=>?_⟩
  ·have:i0∈Region.ready .any all.toArray la:=(zdi hsa).2 ⟨o0,ho0,by rw [h1 _ hlt0];exact hl0,up hlt0 ho0 he0⟩;rw [hn] at this;cases this
  ·obtain ⟨o,ho,hl,he⟩:=(zdi hsa).1 hi;have hil:=(List.getElem?_eq_some_iff.1 ho).1
   have him:i < m:=by
    refine Classical.byContradiction fun hge=>?_
    have:=hanc i0 i oM hil oM _ hD fun o' ho' e he' hb=>by rw [ho] at ho';cases ho';exact he e he' hb
    rw [h1 _ hlt0,hl0] at this;cases this
   have hip:i∈Region.ready .any (all.take m).toArray lp:=(zdi oM).2 ⟨o,hback him ho,by rw [← h1 _ him];exact hl,fun e he' hb=>by
    rw [← h1 _ (by have:=hedges i o ho e he' hb;omega)];exact he e he' hb⟩
   have hop:=h.2 i hip;have hi':i < lp.size:=oM;have hjf:lp[i]=false:=by have:=h1 i him;rw [hl] at this;simpa [Array.getD,hi'] using this.symm
   have hnext:∀a w,wpAny P .any (all.take m).toArray (zoM R) fuel (lp.setIfInBounds i true) a w->wpAnyIn F n P .any all.toArray Q (fuel+(all.length - m)) (la.setIfInBounds i true) a w:=fun a w hh=>by
    have set1:∀(A:Array Bool) (q:Nat),i < A.size->((A.setIfInBounds i true).getD q false=true↔q=i∨A.getD q false=true):=fun A q hA=>by
     by_cases e:i=q
     ·subst e;simp [Array.getD,hA]
     ·simp only [Array.getD_eq_getD_getElem?,Array.getElem?_setIfInBounds_ne e];exact ⟨.inr,fun h=>h.resolve_left fun k=>e k.symm⟩
    refine ih _ _ a w (by simpa using hsp) (by simpa using hsa) (fun q hq=>?_) (fun q hq=>?_) (fun q oq hq hoq e he' hb=>?_) hh ?_
    ·have e1:=set1 lp q hi';have e2:=set1 la q oM;rw [h1 q hq,← e1] at e2;exact Bool.eq_iff_iff.2 e2
    ·have hne:i≠q:=by omega
     simp only [Array.getD_eq_getD_getElem?,Array.getElem?_setIfInBounds_ne hne];rw [← Array.getD_eq_getD_getElem?];exact h2 q hq
    ·refine (set1 la _ oM).2 (.inr ?_)
     rcases (set1 la q oM).1 hq with rfl | hq
     ·rw [ho] at hoq;cases hoq;exact he e he' hb
     ·exact hD q oq hq hoq e he' hb
    ·have hmem:false∈lp.toList:=by rw [← hjf];simp
     have hpos:=List.count_pos_iff.2 hmem
     have:(lp.setIfInBounds i true).toList.count false=lp.toList.count false - 1:=by
      rw [Array.toList_setIfInBounds,List.count_set (by simpa using hi')];simp [hjf]
     omega
   have hg:=hgd i o him ho;have hw:∀y,Region.wanted o y=true:=fun y=>by unfold Region.wanted;rw [hg]
   have hop':(all.take m).toArray[i]? =some o:=by simpa using hback him ho
   have ho':all.toArray[i]? =some o:=by simpa using ho
   unfold wpOp at hop;unfold wpOpIn;rw [hop'] at hop;rw [ho'];dsimp only at hop ⊢;rw [if_pos (hw _)] at hop ⊢;have hop:=hop.resolve_right fun k=>by obtain ⟨_,_,_,k⟩:=k;exact k
   exact hF.op (zjh hd (o:=o) (List.mem_of_getElem? ho)) (Oper.wp_only hnext hop)
theorem zoN (hF:yN F) (hm:P.follows .mixedOrders=true) {Γ:List (TypeId×TI)} (hT:TOK P Γ) {E:Env} {id:Nat} {ops:Array Oper} {K:St->Prop} {σ:St} {ρ:zi} {a:Act} {w:World}
  (hd:yO ops.toList=true) (ht:zlc ops.toList m=true) (hr:Rel E σ ρ a w) (hord:uU (ops.toList.take m)=true) (h:uL P Γ true (ops.toList.take m) (ops.toList.take m) 0 σ K)
  (hK:∀σ ρ a w,K σ->Rel E σ ρ a w->wpListIn F n P ops Q (ops.toList.drop m) a w):(Code.region id ops true).wpIn F n P Q a w:=by
 have hml:=(zld ht).1;have hpre:=zcX (Q:=zoM fun a w=>wpListIn F n P ops Q (ops.toList.drop m) a w) (ops:=(ops.toList.take m).toArray) hT hr (by simpa using hord) (by simpa using h) hK
 have hsz:(ops.toList.take m).toArray.size=m:=by
  have:ops.toList.length=ops.size:=by simp
  simp only [List.size_toArray,List.length_take];omega
 rw [hsz] at hpre;refine wpIn_region_any hm ?_
 have:=zwS (F:=F) (n:=n) (Q:=Q) hF hd ht (R:=fun a w=>wpListIn F n P ops Q (ops.toList.drop m) a w) (fun a w h=>by simpa using h) m (Array.replicate m false) (Array.replicate ops.size false) a _ (by simp) (by simp)
  (fun i hi=>by simp [Array.getD]) (fun i hi=>by simp [Array.getD]) (fun i o hi=>by simp [Array.getD] at hi) hpre (by simp)
 rw [show m+(ops.toList.length - m)=ops.size by
  have:ops.toList.length=ops.size:=by simp
  omega] at this
 simpa using this
end
end Go.Gs
