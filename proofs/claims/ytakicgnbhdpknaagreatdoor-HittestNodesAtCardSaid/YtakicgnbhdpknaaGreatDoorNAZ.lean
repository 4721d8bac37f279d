/- A function in whose code loops over functions stand: its contract out of its code. -/
import Derived.Test.YtakicgnbhdpknaaGreatDoorNAY
set_option maxRecDepth 100000
set_option maxHeartbeats 8000000
set_option linter.all false
namespace Go.Gs
section
def zop(P:Program)(Γ:LS)(c:Code):St->LH->Prop:=
 Code.rec (motive:=λ_=>St->LH->Prop)
  (λσ Q=>Q .normal σ)
  (λid ops draw σ Q=>jI P Γ (.region id ops draw) σ Q)
  (λ_ _ ha hb σ Q=>ha σ λe σ=>(match e with
   |.normal=>hb σ Q
   |.exit id=>Q (.exit id) σ
   |.ret=>Q .ret σ))
  (λc _ _ hx hy σ Q=>ev σ.L c λc=>(match c with
   |.val (.bool true)=>hx σ Q
   |.val (.bool false)=>hy σ Q
   |.pr p _=>Br (p->hx σ Q) (¬p->hy σ Q)
   |.anyb=>Br (hx σ Q) (hy σ Q)
   |_=>False))
  (λid _ hc σ Q=>hc σ λe σ=>(match e with
   |.normal=>Q .normal σ
   |.exit j=>(match Nat.beq j id with
    |true=>Q .normal σ
    |false=>Q (.exit j) σ)
   |.ret=>Q .ret σ))
  (λ_ hc σ Q=>∃(ι:Type) (S:ι->St) (I:ι->Prop) (μ:ι->Nat) (x0:ι),I x0/\Sub σ (S x0)/\
   ∀x,I x->hc (S x) λe σ'=>(match e with
    |.normal=>∃x',I x'/\Sub σ' (S x')/\μ x'<μ x
    |.exit id=>Q (.exit id) σ'
    |.ret=>Q .ret σ'))
  (λg ps assign body _ _ σ Q=>ev σ.L g λs=>(match s with
   |.dfn f caps=>zt2 P Γ f caps ps.toList assign body σ Q
   |_=>False))
  (λid σ Q=>Q (.exit id) σ)
  (λ_ _ _ _=>False)
  (λ_ σ Q=>Q .normal σ)
  (λ_ _ _=>False)
  (λσ Q=>Q .ret σ)
  (λ_ _ _=>False)
  c
variable{S:LI}{f:FuncId}{cs:LR}{u:Value}
def D.dfn_inv{w:World}(h:D S w (.dfn f cs) u):∃vs:LA,u=.func (.func f) #[] vs.toArray/\Ds S w cs vs:=by
 cases h with
 |dfn _ _ vs hl h=>exact⟨vs,rfl,hl,h⟩
variable{Pm:LI}{ρ:zh}
def G.dfn_d{w:World}(h:G S Pm ρ w (.dfn f cs) u):∃vs:LA,u=.func (.func f) #[] vs.toArray/\Ds S w cs vs:=by
 cases h with
 |d _ _ h=>exact h.dfn_inv
def zbk{P:Program}{Γ:LS}(hT:TOK P Γ)(hm:P.follows .mixedOrders=true){E:Env}:∀(c:Code) {E':Env} {σ:St} {Q:LH} {ρ:zh} {a:Act} {w:World},
  RR E E' σ ρ a w->zop P Γ c σ Q->c.wpIn Fence.wide 0 P (zkH E Q) a w
 |.skip,E',σ,Q,ρ,a,w,hr,h=>wpIn_skip ⟨E',σ,ρ,h,hr⟩
 |.region id ops draw,E',σ,Q,ρ,a,w,hr,h=>wpIn_wide.2 (Code.wp_mono (λ_ _ _ hq=>zkH.of hr hq) (k9 hT hm (.region id ops draw) hr.rel.cut h))
 |.seq x y,E',σ,Q,ρ,a,w,hr,h=>by
  refine wpIn_seq (wpIn_mono (zbk hT hm x hr h) (λe a' w' hq=>?_))
  cases e with
  |normal=>obtain⟨E'',σ',ρ',h',hr'⟩:=hq;exact zbk hT hm y hr' h'
  |exit id=>exact hq
  |ret=>exact hq
  |_=>exact hq.elim
 |.cond c x y,E',σ,Q,ρ,a,w,hr,h=>by
  obtain⟨s,h,hs⟩:=zcy h;have hg:=hs (a:=a) (λt s _ hl=>(hr.rel.regs t s hl).2)
  split at h
  ·exact wpIn_cond_true hg.val_inv (zbk hT hm x hr h)
  ·exact wpIn_cond_false hg.val_inv (zbk hT hm y hr h)
  ·rename_i p i
   by_cases hp:p
   ·exact wpIn_cond_true (by rw[hg.pr_inv];simp[hp]) (zbk hT hm x hr (h.yes hp))
   exact wpIn_cond_false (by rw[hg.pr_inv];simp[hp]) (zbk hT hm y hr (h.no hp))
  ·obtain⟨b,hb⟩:=hg.anyb_inv
   cases b with
   |true=>exact wpIn_cond_true hb (zbk hT hm x hr h.yes)
   |false=>exact wpIn_cond_false hb (zbk hT hm y hr h.no)
  exact h.elim
 |.block id c,E',σ,Q,ρ,a,w,hr,h=>by
  refine wpIn_block (wpIn_mono (zbk hT hm c hr h) (λe a' w' hq=>?_))
  cases e with
  |normal=>exact hq
  |exit j=>
   obtain⟨E'',σ',ρ',h',hr'⟩:=hq;dsimp only at h';show(if j=id then zkH E Q .normal a' w' else zkH E Q (.exit j) a' w')
   split at h'
   ·rename_i hb;rw[Xe (Xj hb)];exact⟨E'',σ',ρ',h',hr'⟩
   rename_i hb;rw[Xc (KF hb)];exact⟨E'',σ',ρ',h',hr'⟩
  |ret=>exact hq
  |_=>exact hq.elim
 |.loop c,E',σ,Q,ρ,a,w,hr,h=>by
  obtain⟨ι,S,I,μ,x0,h0,hsub,hround⟩:=h;obtain⟨ρ0,hr0⟩:=hsub _ ρ a w hr.rel.cut;refine zax (λn a w=>∃x E' ρ,I x/\μ x=n/\RR E E' (S x) ρ a w) (μ x0) ⟨x0,_,ρ0,h0,rfl,hr.next hr0⟩ λn a w hI=>?_
  obtain⟨x,E1,ρ1,h1,rfl,hr1⟩:=hI;refine wpIn_mono (zbk hT hm c hr1 (hround x h1)) (λe a' w' hq=>?_)
  cases e with
  |normal=>
   obtain⟨E2,σ',ρ',⟨x',h2,hs2,hlt⟩,hr'⟩:=hq;obtain⟨ρ2,hr2⟩:=hs2 _ ρ' a' w' hr'.rel.cut;exact⟨μ x',hlt,x',_,ρ2,h2,rfl,hr'.next hr2⟩
  |exit id=>exact hq
  |ret=>exact hq
  |_=>exact hq.elim
 |.exit id,E',σ,Q,ρ,a,w,hr,h=>wpIn_exit ⟨E',σ,ρ,h,hr⟩
 |.ret,E',σ,Q,ρ,a,w,hr,h=>wpIn_ret ⟨E',σ,ρ,h,hr⟩
 |.rangeFunc g ps assign body,E',σ,Q,ρ,a,w,hr,h=>by
  obtain⟨s,h,hs⟩:=zcy h;have hg:=hs (a:=a) (λt s _ hl=>(hr.rel.regs t s hl).2)
  split at h
  ·obtain⟨vs,e,hd⟩:=hg.dfn_d;exact zqm hT hm hr e hd h
  exact h.elim
 |.scope _,_,_,_,_,_,_,_,h=>by cases h
 |.label _,E',σ,Q,ρ,a,w,hr,h=>wpIn_label ⟨E',σ,ρ,h,hr⟩
 |.goto _,_,_,_,_,_,_,_,h=>by cases h
 |.refuse _,_,_,_,_,_,_,_,h=>by cases h
def jH.lessS{S':LI}{w:World}{k:Nat}{m:Mem}(hS:∀b,S' b->S b)(h:jH S Pm ρ w k m):jH S' Pm ρ w k m:=by
 have hg:∀{s v},G S Pm ρ w s v->G S' Pm ρ w s v:=λh=>h.mono (Xk _) (λb _ hn=>⟨λk=>hn (hS b k),rfl⟩) (λb _ hn=>⟨hn,rfl⟩) λ_ _ h=>h
 cases m with
 |box T cs=>
  obtain⟨b,vs,h1,h2,h3,h4,h5⟩:=h;exact⟨b,vs,h1,h2,h3,h4,λj s v hs' hv=>hg (h5 j s v hs' hv)⟩
 |arr T enc sz xs=>
  obtain⟨v,cells,h1,h2,h3,h4,h5,h6⟩:=h;refine⟨v,cells,h1,h2,h3,h4,h5,λi j x s hx hj=>?_⟩;obtain⟨u,hu,hd⟩:=h6 i j x s hx hj;exact⟨u,hu,hd.less hS⟩
 |garr T sz xs=>
  obtain⟨v,cells,h1,h2,h3,h4,h5,h6⟩:=h;refine⟨v,cells,h1,h2,h3,h4,h5,λi j x s hx hj=>?_⟩;obtain⟨u,hu,hd⟩:=h6 i j x s hx hj;exact⟨u,hu,hg hd⟩
 |map es=>
  obtain⟨r,ents,clock,h1,h2,h3,h4⟩:=h;refine⟨r,ents,clock,h1,h2,h3,λi n s hi=>?_⟩;obtain⟨e,g1,g2,g3⟩:=h4 i n s hi;exact⟨e,g1,g2,g3.less hS⟩
def zmL{P:Program}{fn:Func}{tmps:Array Value}{R:Ending->World->Prop}{E:Env}{σ:St}{ρ:zh}(he:E.ds=[]):
  ∀(ds:List Deferred) (w:World),Rel E σ ρ { tmps:=tmps,defers:=[] } w->
   (∀d∈ds,∃D,d={ target:=.collected D,args:=#[] }/\E.w0.heap.size<=D/\w.heap[D]?=some (.deferred (some [])))->
   (ds.Pairwise λd e=>∀D D',d.target=.collected D->e.target=.collected D'->D≠D')->
   (∀w',Rel E σ ρ { tmps:=tmps,defers:=[] } w'->∃v,(results fn tmps).run P w'=.ok v w'/\R (.returned v) w')->LeavesInM Fence.wide 0 P fn tmps R ds .returning w
 |[],w,hr,_,_,hk=>hk w hr
 |d::ds,w,hr,hd,hp,hk=>by
  obtain⟨D,rfl,hge,hD⟩:=hd _ (.head _);rw[X9]at hp;refine⟨sI,.inl ⟨D,_,rfl,run_takeDeferred hD,zmL he ds _ ?_ (λd hd'=>?_) hp.2 hk⟩⟩
  ·have hs:=hr.stp
   refine⟨hr.size,hr.defers,λt s hl=>⟨(hr.regs t s hl).1,(hr.regs t s hl).2.put hD rfl⟩,hr.mem.put hD rfl (by intro _ _ h;cases h),hr.fresh,
    ⟨hs.os,hs.tape,hs.output.trans (kO.put hD rfl rfl),?_,λb hb hn=>(World.putObj_heap_other oM).trans (hs.block b hb hn),hs.own,hs.rho⟩,hr.keep,hr.low⟩
   rw[World.putObj_size];exact hs.size
  obtain⟨D',rfl,hge',hD'⟩:=hd d (.tail _ hd');exact⟨D',rfl,hge',(World.putObj_heap_other λe=>hp.1 _ hd' D D' rfl rfl e.symm).trans hD'⟩
variable{P:Program}{Γ:LS}{fn:Func}{c:Code}{r:SV}
def zsl(hT:TOK P Γ)(hm:P.follows .mixedOrders=true){args:LR}{M:LT}{Q:LH}(hf:P.funcs[f]?=some fn)(hb:fn.body=some c)(hn:(fn.name== "runtime.NumGoroutine")=false) (hle:Nat.ble args.length fn.ntmps=true)
  (h:zop P Γ c ⟨jJ 0 args,M,M.length,fn.ntmps,M.length⟩ Q){M':LT}
  (hQ:∀e σ,Q e σ->(∀id,e≠.exit id)->∃s,(∀{E:Env} {ρ:zh} {a:Act} {w:World},Rel E σ ρ a w->∃v,(results fn a.tmps).run P w=.ok v w/\G (λb=>E.Keep b∨Own σ.M ρ b) (Own σ.M ρ) ρ w s v)/\
   ∀{E:Env} {ρ:zh} {a:Act} {w:World} {v:Value},Rel E σ ρ a w->(∀b,E.W0 b↔Own M E.ρ0 b)->(∀k,M.length<=k->E.ρ0 k=none)->G (λb=>E.Keep b∨Own σ.M ρ b) (Own σ.M ρ) ρ w s v->
    ∃ρ',Stp (Own M E.ρ0) (Own M' ρ') E.ρ0 ρ' E.w0 w/\zL E.Keep M' ρ' w/\G (λb=>E.Keep b∨Own M' ρ' b) (Own M' ρ') ρ' w r v)
  (hx:∀id σ,¬Q (.exit id) σ):qx P f args M r M':=by
 refine⟨⟨fn,hf,hn,by rw[hb];rfl⟩,λKeep ρ w vs _ hmem hρ hg=>(callsIn_wide (n:=0)).1 (callsIn_of_wp_marks hf hb trivial ?_ rfl)⟩;have hrel:=vK (nt:=fn.ntmps) hmem hρ hg (Xz hle);have hrr:RR ⟨w,ρ,Keep,Own M ρ,[]⟩ ⟨w,ρ,Keep,Own M ρ,[]⟩ _ ρ _ w:=⟨hrel,rfl,λ_ h=>h,hrel.stp,λ_ h=>(by cases h),List.Pairwise.nil⟩;refine wpIn_mono (zbk hT hm c hrr h) (λe a' w' hq=>?_)
 have fin:∀e E' σ ρ1,Q e σ->(∀id,e≠.exit id)->RR ⟨w,ρ,Keep,Own M ρ,[]⟩ E' σ ρ1 a' w'->LeavesInM Fence.wide 0 P fn a'.tmps (λe w''=>∃v' ρ',e=.returned v'/\Stp (Own M ρ) (Own M' ρ') ρ ρ' w w''/\
   zL Keep M' ρ' w''/\G (λb=>Keep b∨Own M' ρ' b) (Own M' ρ') ρ' w'' r v') a'.defers .returning w':=by
  intro e E' σ ρ1 hq he hr;obtain⟨s,h1,h2⟩:=hQ e σ hq he;have hds:a'.defers=E'.ds:=hr.rel.defers;rw[hds]
  have hbase:Rel ⟨w,ρ,Keep,Own M ρ,[]⟩ σ ρ1 { tmps:=a'.tmps,defers:=[] } w':=by
   refine⟨hr.rel.size,rfl,λt s hl=>⟨(hr.rel.regs t s hl).1,?_⟩,⟨λk m hk=>(hr.rel.mem.rel k m hk).lessS λb hb=>hb.imp (hr.kp b) id,hr.rel.mem.keys,hr.rel.mem.apart,
    λb hb=>⟨(hr.rel.mem.old b hb).1,λhk=>(hr.rel.mem.old b hb).2 (hr.kp b hk)⟩,λb hb=>hr.rel.mem.kp b (hr.kp b hb),hr.rel.mem.gl⟩,hr.rel.fresh,hr.stp,hrel.keep,λk v hk=>hr.rel.low k v (by rw[hr.rho];exact hk)⟩
   exact(hr.rel.regs t s hl).2.mono (Xk _) (λb _ hn=>⟨λk=>hn (k.imp (hr.kp b) id),rfl⟩) (λb _ hn=>⟨hn,rfl⟩) λ_ _ h=>h
  refine zmL rfl E'.ds w' hbase (λd hd=>?_) hr.apart λw2 hr2=>?_
  ·obtain⟨D,e,_,hge,hh⟩:=hr.marks d hd;exact⟨D,e,hge,hh⟩
  obtain⟨v,g1,g2⟩:=h1 hr2;obtain⟨ρ',g3,g4,g5⟩:=h2 hr2 (λ_=>K5) hρ g2;exact⟨v,g1,v,ρ',rfl,g3,g4,g5⟩
 cases e with
 |normal=>obtain⟨E',σ,ρ1,hq,hr⟩:=hq;exact fin _ E' σ ρ1 hq (λ_=>by simp) hr
 |ret=>obtain⟨E',σ,ρ1,hq,hr⟩:=hq;exact fin _ E' σ ρ1 hq (λ_=>by simp) hr
 |exit id=>obtain⟨E',σ,ρ1,hq,hr⟩:=hq;exact absurd hq (hx id σ)
 |_=>exact hq.elim
def ug(n:Nat)(hT:TOK P Γ)(hm:P.follows .mixedOrders=true){args:LR}(hf:P.funcs[f]?=some fn)(hb:fn.body=some c)(hn:(fn.name== "runtime.NumGoroutine")=false) (hle:Nat.ble args.length fn.ntmps=true)
  (h:zop P Γ c ⟨jJ 0 args,[],0,fn.ntmps,0⟩ (endF n Γ fn.results.toList r)):qx P f args [] r []:=by
 refine zsl hT hm hf hb hn hle h (λe σ hq he=>?_) (λid σ hq=>hq)
 have hq:zbS σ Γ fn.results.toList λs=>LE (ziK (zU σ.M) n s) r:=by
  cases e with
  |exit id=>exact absurd rfl (he id)
  |normal=>exact hq
  |ret=>exact hq
 obtain⟨s,hle,h1⟩:=yk hT hq;refine⟨s,h1,λ{E ρ a w v} hr hW _ hg=>⟨ρ,?_,?_,?_⟩⟩
 ·have hs:=hr.stp;exact⟨hs.os,hs.tape,hs.output,hs.size,λb hb hn=>hs.block b hb λh=>hn ((hW b).1 h),λb hb=>absurd hb zP,hs.rho⟩
 ·exact qt hr.mem.kp λ_ _ h=>hr.mem.glc h
 have hd:∀{s:SV} {v:Value},G (λb=>E.Keep b∨Own σ.M ρ b) (Own σ.M ρ) ρ w s v->D (λb=>E.Keep b∨Own [] ρ b) w (frz (zU σ.M) n s) v:=λh=>
  (zmF (λk m h=>zA h) hr.mem n h).less λb hb=>hb.resolve_right zP
 refine hle _ _ _ _ _ ?_;unfold ziK
 split
 ·rename_i cs;obtain⟨vs,rfl,hvs⟩:=hg.tup_inv;refine .tup _ vs (by rw[Xx];exact hvs.1) λj s v hs hv=>?_
  rw[XD]at hs
  cases hc:cs[j]? with
  |none=>simp[hc]at hs
  |some c=>
   simp[hc]at hs;subst hs;exact .d _ _ (hd (hvs.2 j c v hc hv))
 exact .d _ _ (hd hg)
def zmM(all:List Oper)(m:Nat):Bool:=
 let ms:=zbt all all.length
 ziT all&&Nat.ble m all.length&&((all.take m).all λo=>o.guard.isNone)&&(List.range all.length).all λj=>Nat.blt j m||(List.range j).all λi=>(ms.getD j 0).testBit i
def zmN{all:List Oper}{m:Nat}(h:zmM all m=true):m<=all.length/\(∀i o,i<m->all[i]?=some o->o.guard=none)/\
  (∀j o,all[j]?=some o->∀e∈o.after,Region.binds .any e=true->e.on<j)/\∀i j,m<=j->j<all.length->i<j->Anc all j i:=by
 unfold zmM at h;simp only[XC]at h;obtain⟨⟨⟨h1,h2⟩,h3⟩,h4⟩:=h;refine⟨Xz h2,λi o hi ho=>?_,λj o ho e he hb=>?_,λi j hm hj hij=>?_⟩
 ·have hmem:o∈all.take m:=Xf (i:=i) (by rw[XI,Xe hi];exact ho);have:=XQ.1 h3 o hmem
  simpa using this
 ·have hjl:j<all.length:=(Xd.1 ho).1;unfold ziT at h1;have:=XQ.1 h1 j (Kd.2 hjl);simp only[ho]at this;have:=XQ.1 this e (by simpa using he);simp only[hb,QC,QN]at this;exact Xz this
 have:=XQ.1 h4 j (Kd.2 hj)
 have hb:Nat.blt j m=false:=by
  cases hb:Nat.blt j m with
  |false=>rfl
  |true=>have:j+1<=m:=Xz hb;omega
 simp only[hb,QN]at this;exact zdu all all.length j i hj (XQ.1 this i (Kd.2 hij))
def zdS{ops:List Oper}{listed:Array Bool}{i:Nat}(hsz:listed.size=ops.length):i∈Region.ready .any ops.toArray listed↔
  ∃o,ops[i]?=some o/\listed.getD i false=false/\∀e∈o.after,Region.binds .any e=true->listed.getD e.on false=true:=by
 rw[zek]
 have key:∀o,ops[i]?=some o->listed.getD i true=listed.getD i false:=λo ho=>by
  have:i<listed.size:=by have:=(Xd.1 ho).1;omega
  simp[Array.getD,this]
 exact⟨λ⟨o,h1,h2,h3⟩=>⟨o,h1,(key o h1) ▸ h2,h3⟩,λ⟨o,h1,h2,h3⟩=>⟨o,h1,(key o h1).symm ▸ h2,h3⟩⟩
def zqn(R:LG):LF
 |.normal,a,w=>R a w
 |_,_,_=>False
def Oper.wp_only{o:Oper}{a:Act}{w:World}{K K':LG}{R:LG}{Q:LF}(h:∀a w,K a w->K' a w)(hh:o.wp P a w K (zqn R)):o.wp P a w K' Q:=by
 unfold Oper.wp at*;generalize (execOp a.eval o).run P w=r at*;have no:¬LetsOut (zqn R):=λ⟨_,_,k⟩=>k
 cases r with
 |ok n w'=>
  cases n <;> simp only[Oper.upon]at hh ⊢ <;>
   first
    |exact h _ _ hh
    |exact Calls.mono hh (λe w'' he=>by cases e <;> first|exact h _ _ he|exact he.elim|exact(no he).elim)
    |exact Rows.mono hh (λ_ _ he=>h _ _ he)
 |halt x w'=>cases x <;> simp only[Oper.upon]at hh ⊢ <;> exact hh.elim
end
section
variable{F:Fence}{n:Nat}{P:Program}{all:List Oper}{Q:LF}{m:Nat}
def zAV(hedges:∀j o,all[j]?=some o->∀e∈o.after,Region.binds .any e=true->e.on<j)(hanc:∀i j,m<=j->j<all.length->i<j->Anc all j i):
  ∀(k fuel j:Nat) (la:Array Bool) (a:Act) (w:World),k=all.length-j->m<=j->j<=all.length->all.length-j<=fuel->la.size=all.length->(∀i,la.getD i false=true↔i<j)->
   wpListIn F n P all.toArray Q (all.drop j) a w->wpAnyIn F n P .any all.toArray Q fuel la a w:=by
 intro k
 induction k with
 |zero=>
  intro fuel j la a w hk hm hj hf hsz hla h;have hj:j=all.length:=oM;subst hj;rw[List.drop_length]at h;have h:Q .normal a w:=h
  have hr:Region.ready .any all.toArray la=[]:=by
   cases hr:Region.ready .any all.toArray la with
   |nil=>rfl
   |cons i r=>
    have hi:i∈Region.ready .any all.toArray la:=by rw[hr];exact .head _
    obtain⟨o,ho,h2,_⟩:=(zdS hsz).1 hi;have:=(hla i).2 (Xd.1 ho).1;rw[h2]at this;cases this
  cases fuel with
  |zero=>exact⟨hr,h⟩
  |succ fuel=>exact⟨λ_=>h,λi hi=>(by rw[hr]at hi;cases hi)⟩
 |succ k ih=>
  intro fuel j la a w hk hm hj hf hsz hla h;have hjl:j<all.length:=oM;obtain⟨o,ho⟩:∃o,all[j]?=some o:=⟨_,Xb hjl⟩
  cases fuel with
  |zero=>omega
  |succ fuel=>
  have hnot:∀i,¬i<j->la.getD i false=false:=λi hi=>by
   cases hb:la.getD i false with
   |false=>rfl
   |true=>exact absurd ((hla i).1 hb) hi
  have hready:j∈Region.ready .any all.toArray la:=(zdS hsz).2 ⟨o,ho,hnot j (Yx j),λe he hb=>(hla _).2 (hedges j o ho e he hb)⟩;refine⟨λhn=>(by rw[hn]at hready;cases hready),λi hi=>?_⟩;obtain⟨oi,hoi,h2,h3⟩:=(zdS hsz).1 hi;have hil:=(Xd.1 hoi).1;have hge:¬i<j:=λhlt=>by rw[(hla i).2 hlt]at h2;cases h2
  have hij:i=j:=by
   refine XN λhne=>?_
   have hD:=hanc j i oM hil oM (λq=>la.getD q false=true) (λq oq hq hoq e he hb=>(hla _).2 (by have:=hedges q oq hoq e he hb;have:=(hla q).1 hq;omega))
    (λo' ho' e he hb=>by rw[hoi]at ho';cases ho';exact h3 e he hb)
   exact absurd ((hla j).1 hD) (Yx j)
  subst hij
  have hnext:∀a w,wpListIn F n P all.toArray Q (all.drop (i+1)) a w->wpAnyIn F n P .any all.toArray Q fuel (la.setIfInBounds i true) a w:=λa w hh=>
   ih fuel (i+1) _ a w oM oM oM oM (by simpa using hsz) (λq=>by
    by_cases e:i=q
    ·subst e;have:i<la.size:=oM;simp[Array.getD,this]
    simp only[X7,KM e]
    rw[←X7,hla q];omega) hh
  rw[KS hjl]at h;have eo:all[i]=o:=by rw[Xb hjl]at ho;exact Xm ho
  rw[eo]at h;unfold wpListIn at h;unfold wpOpIn;have ho':all.toArray[i]?=some o:=by simpa using ho
  rw[ho'];dsimp only
  split
  ·rename_i hw;rw[Xe hw]at h;exact Oper.wpIn_mono hnext h
  rename_i hw;rw[Xc hw]at h;exact⟨h.1,hnext _ _ h.2⟩
def zym(hF:yj F)(hd:yX all=true)(ht:zmM all m=true){R:LG}(hR:∀a w,R a w->wpListIn F n P all.toArray Q (all.drop m) a w):
  ∀(fuel:Nat) (lp la:Array Bool) (a:Act) (w:World),lp.size=m->la.size=all.length->(∀i,i<m->la.getD i false=lp.getD i false)->(∀i,m<=i->la.getD i false=false)->
   Down all (λi=>la.getD i false=true)->wpAny P .any (all.take m).toArray (zqn R) fuel lp a w->lp.toList.count false<=fuel->wpAnyIn F n P .any all.toArray Q (fuel+(all.length-m)) la a w:=by
 obtain⟨hm,hgd,hedges,hanc⟩:=zmN ht;have hlen:(all.take m).length=m:=by rw[Xo];omega
 have hto:∀{i o},(all.take m)[i]?=some o->i<m/\all[i]?=some o:=λ{i o} h=>by
  have hi:i<m:=by have:=(Xd.1 h).1;omega
  rw[XI,Xe hi]at h;exact⟨hi,h⟩
 have hback:∀{i o},i<m->all[i]?=some o->(all.take m)[i]?=some o:=λ{i o} hi h=>by rw[XI,Xe hi];exact h
 -- all of the first are listed
 have full:∀(lp la:Array Bool) (a:Act) (w:World) (fuel:Nat),la.size=all.length->(∀i,i<m->la.getD i false=lp.getD i false)->(∀i,m<=i->la.getD i false=false)->
   (∀i,i<m->lp.getD i false=true)->all.length-m<=fuel->R a w->wpAnyIn F n P .any all.toArray Q fuel la a w:=λlp la a w fuel hsz h1 h2 h3 hf hr=>
  zAV hedges hanc _ fuel m la a w rfl (Xk m) hm hf hsz (λi=>by
   by_cases hi:i<m
   ·rw[h1 i hi,h3 i hi];simp[hi]
   rw[h2 i oM];simp[hi]) (hR a w hr)
 have hdone:∀(lp:Array Bool),lp.size=m->Region.ready .any (all.take m).toArray lp=[]->∀i,i<m->lp.getD i false=true:=λlp hsz hn i=>by
  induction i using Nat.strongRecOn with
  |_ i ih=>
   intro hi
   cases hb:lp.getD i false with
   |true=>rfl
   |false=>
    obtain⟨o,ho⟩:∃o,all[i]?=some o:=⟨_,Xb (show i<all.length by omega)⟩
    have:i∈Region.ready .any (all.take m).toArray lp:=(zdS oM).2 ⟨o,hback hi ho,hb,λe he hbind=>by
     have:=hedges i o ho e he hbind
     exact ih e.on this oM⟩
    rw[hn]at this;cases this
 intro fuel
 induction fuel with
 |zero=>
  intro lp la a w hsp hsa h1 h2 hD h hc;refine full lp la a w _ hsa h1 h2 (λi hi=>?_) oM h.2;have hi':i<lp.size:=oM
  cases hb:lp.getD i false with
  |true=>rfl
  |false=>
   have:false∈lp.toList:=by
    simp[Array.getD,hi']at hb;rw[←hb];simp
   have:=Q8.2 this;omega
 |succ fuel ih=>
  intro lp la a w hsp hsa h1 h2 hD h hc
  cases hr:Region.ready .any (all.take m).toArray lp with
  |nil=>exact full lp la a w _ hsa h1 h2 (hdone lp hsp hr) oM (h.1 hr)
  |cons i0 r0=>
  have hi0:i0∈Region.ready .any (all.take m).toArray lp:=by rw[hr];exact .head _
  obtain⟨o0,ho0,hl0,he0⟩:=(zdS oM).1 hi0;obtain⟨hlt0,ho0⟩:=hto ho0;rw[show fuel+1+(all.length-m)=(fuel+(all.length-m))+1 by omega]
  have up:∀{i o},i<m->all[i]?=some o->(∀e∈o.after,Region.binds .any e=true->lp.getD e.on false=true)->∀e∈o.after,Region.binds .any e=true->la.getD e.on false=true:=λ{i o} hi ho hh e he hb=>by
   rw[h1 _ (by have:=hedges i o ho e he hb;omega)];exact hh e he hb
  refine⟨λhn=>?_,λi hi=>?_⟩
  ·have:i0∈Region.ready .any all.toArray la:=(zdS hsa).2 ⟨o0,ho0,by rw[h1 _ hlt0];exact hl0,up hlt0 ho0 he0⟩;rw[hn]at this;cases this
  obtain⟨o,ho,hl,he⟩:=(zdS hsa).1 hi;have hil:=(Xd.1 ho).1
  have him:i<m:=by
   refine XN λhge=>?_
   have:=hanc i0 i oM hil oM _ hD λo' ho' e he' hb=>by rw[ho]at ho';cases ho';exact he e he' hb
   rw[h1 _ hlt0,hl0]at this;cases this
  have hip:i∈Region.ready .any (all.take m).toArray lp:=(zdS oM).2 ⟨o,hback him ho,by rw[←h1 _ him];exact hl,λe he' hb=>by
   rw[←h1 _ (by have:=hedges i o ho e he' hb;omega)];exact he e he' hb⟩
  have hop:=h.2 i hip;have hi':i<lp.size:=oM;have hjf:lp[i]=false:=by have:=h1 i him;rw[hl]at this;simpa[Array.getD,hi'] using this.symm
  have hnext:∀a w,wpAny P .any (all.take m).toArray (zqn R) fuel (lp.setIfInBounds i true) a w->wpAnyIn F n P .any all.toArray Q (fuel+(all.length-m)) (la.setIfInBounds i true) a w:=λa w hh=>by
   have set1:∀(A:Array Bool) (q:Nat),i<A.size->((A.setIfInBounds i true).getD q false=true↔q=i∨A.getD q false=true):=λA q hA=>by
    by_cases e:i=q
    ·subst e;simp[Array.getD,hA]
    simp only[X7,KM e];exact⟨.inr,λh=>h.resolve_left λk=>e k.symm⟩
   refine ih _ _ a w (by simpa using hsp) (by simpa using hsa) (λq hq=>?_) (λq hq=>?_) (λq oq hq hoq e he' hb=>?_) hh ?_
   ·have e1:=set1 lp q hi';have e2:=set1 la q oM;rw[h1 q hq,←e1]at e2;exact Qv.2 e2
   ·have hne:i≠q:=by omega
    simp only[X7,KM hne];rw[←X7];exact h2 q hq
   ·refine(set1 la _ oM).2 (.inr ?_)
    rcases(set1 la q oM).1 hq with rfl|hq
    ·rw[ho]at hoq;cases hoq;exact he e he' hb
    exact hD q oq hq hoq e he' hb
   have hmem:false∈lp.toList:=by rw[←hjf];simp
   have hpos:=Q8.2 hmem
   have:(lp.setIfInBounds i true).toList.count false=lp.toList.count false-1:=by
    rw[QR,List.count_set (by simpa using hi')];simp[hjf]
   omega
  have hg:=hgd i o him ho;have hw:∀y,Region.wanted o y=true:=λy=>by unfold Region.wanted;rw[hg]
  have hop':(all.take m).toArray[i]?=some o:=by simpa using hback him ho
  have ho':all.toArray[i]?=some o:=by simpa using ho
  unfold wpOp at hop;unfold wpOpIn;rw[hop']at hop;rw[ho'];dsimp only at hop ⊢;rw[Xe (hw _)]at hop ⊢;have hop:=hop.resolve_right λk=>by obtain⟨_,_,_,k⟩:=k;exact k
  exact hF.op (zkG hd (o:=o) (Xf ho)) (Oper.wp_only hnext hop)
def zqo(hF:yj F)(hm:P.follows .mixedOrders=true){Γ:LS}(hT:TOK P Γ){E:Env}{id:Nat}{ops:Array Oper}{K:St->Prop}{σ:St}{ρ:zh}{a:Act}{w:World}(hd:yX ops.toList=true)(ht:zmM ops.toList m=true)(hr:Rel E σ ρ a w)(hord:vi (ops.toList.take m)=true)(h:u4 P Γ true (ops.toList.take m) (ops.toList.take m) 0 σ K)(hK:∀σ ρ a w,K σ->Rel E σ ρ a w->wpListIn F n P ops Q (ops.toList.drop m) a w):(Code.region id ops true).wpIn F n P Q a w:=by
 have hml:=(zmN ht).1;have hpre:=zdw (Q:=zqn λa w=>wpListIn F n P ops Q (ops.toList.drop m) a w) (ops:=(ops.toList.take m).toArray) hT hr (by simpa using hord) (by simpa using h) hK
 have hsz:(ops.toList.take m).toArray.size=m:=by
  have:ops.toList.length=ops.size:=by simp
  simp only[KJ,Xo];omega
 rw[hsz]at hpre;refine wpIn_region_any hm ?_
 have:=zym (F:=F) (n:=n) (Q:=Q) hF hd ht (R:=λa w=>wpListIn F n P ops Q (ops.toList.drop m) a w) (λa w h=>by simpa using h) m (Array.replicate m false) (Array.replicate ops.size false) a _ sI sI
  (λi hi=>by simp[Array.getD]) (λi hi=>by simp[Array.getD]) (λi o hi=>by simp[Array.getD]at hi) hpre sI
 rw[show m+(ops.toList.length-m)=ops.size by
  have:ops.toList.length=ops.size:=by simp
  omega]at this
 simpa using this
end
def isY(L:LP)(o:Oper):Bool:=
 match o.op with
 |.call c=>(match c.callee with
  |.value (.tmp t)=>(match kK L t with
   |some (.val (.func (.yield _) _ _))=>true
   |_=>false)
  |_=>false)
 |_=>false
def zcN:LP->LP
 |[]=>[]
 |(t,s)::r=>match pfS s with
  |true=>(t,s)::zcN r
  |false=>(t,.junk)::zcN r
def zfI:∀{L:LP} {t:Nat} {s:SV},kK (zcN L) t=some s->s=.junk∨(kK L t=some s/\pfS s=true)
 |[],_,_,h=>by cases h
 |(k,s0)::r,t,s,h=>by
  unfold zcN at h;rw[kq]
  split at h
  ·rename_i hp;rw[kq]at h
   by_cases e:k=t
   ·rw[Xe e]at h ⊢;cases h;exact .inr ⟨rfl,hp⟩
   rw[Xc e]at h ⊢;exact zfI h
  rw[kq]at h
  by_cases e:k=t
  ·rw[Xe e]at h;cases h;exact .inl rfl
  rw[Xc e]at h ⊢;exact zfI h
def zvt{L:LP}{t:Nat}{s:SV}(h:kK (zcN L) t=some s):∃s',kK L t=some s':=by
 induction L with
 |nil=>cases h
 |cons p r ih=>
  obtain⟨k,s0⟩:=p;rw[kq]
  by_cases e:k=t
  ·rw[Xe e];exact⟨_,rfl⟩
  rw[Xc e];refine ih ?_;unfold zcN at h
  split at h <;> (rw[kq,Xc e]at h;exact h)
def St.yput(σ:St)(d:Option Tmp)(s:SV):St:=⟨putL (zcN σ.L) d s,σ.M,σ.nk,σ.nt,σ.n0⟩
def zsm(all:List Oper)(o:Oper)(σ:St)(run skip:St->Prop):Prop:=
 match o.guard with
 |none=>run σ
 |some (j,want)=>(match zdi all j with
  |none=>False
  |some t=>(match kK σ.L t with
   |some (.val (.bool true))=>(match want with
    |true=>run σ
    |false=>skip σ)
   |some (.val (.bool false))=>(match want with
    |false=>run σ
    |true=>skip σ)
   |some (.pr p _)=>(match want with
    |true=>Br (p->run (σ.put (some t) (.val (.bool true)))) (¬p->skip (σ.put (some t) (.val (.bool false))))
    |false=>Br (p->skip (σ.put (some t) (.val (.bool true)))) (¬p->run (σ.put (some t) (.val (.bool false)))))
   |some (.val (.tuple _))=>skip σ
   |_=>False))
def zqp{all:List Oper}{o:Oper}{σ:St}{run skip:St->Prop}(h:zsm all o σ run skip){E:Env}{ρ:zh}{a:Act}{w:World}(hr:Rel E σ ρ a w):
  ∃σ' b,qV all σ' o b/\Rel E σ' ρ a w/\(σ'.M=σ.M/\σ'.nt=σ.nt)/\((b=true/\run σ')∨(b=false/\skip σ')):=by
 unfold zsm at h
 split at h
 ·rename_i hg;exact⟨σ,true,by simp[qV,hg],hr,⟨rfl,rfl⟩,.inl ⟨rfl,h⟩⟩
 rename_i j want hg
 split at h
 ·exact h.elim
 rename_i t ht
 have gv:∀{σ':St} {v:Value},kK σ'.L t=some (.val v)->qV all σ' o (ztm v want):=λhl=>by
  unfold qV;rw[hg];exact⟨t,_,ht,hl,rfl⟩
 have gi:∀{σ':St} {b:Bool},kK σ'.L t=some (.val (.bool b))->qV all σ' o (b==want):=λhl=>gv hl
 have put_look:∀(s1:SV),kK (σ.put (some t) s1).L t=some s1:=λs1=>by
  show kK ((t,s1)::σ.L) t=some s1;rw[kq];simp
 split at h
 ·rename_i hl
  split at h
  ·exact⟨σ,_,gi hl,hr,⟨rfl,rfl⟩,.inl ⟨rfl,h⟩⟩
  exact⟨σ,_,gi hl,hr,⟨rfl,rfl⟩,.inr ⟨rfl,h⟩⟩
 ·rename_i hl
  split at h
  ·exact⟨σ,_,gi hl,hr,⟨rfl,rfl⟩,.inl ⟨rfl,h⟩⟩
  exact⟨σ,_,gi hl,hr,⟨rfl,rfl⟩,.inr ⟨rfl,h⟩⟩
 ·rename_i p ip hl
  by_cases hp:p
  ·have hr':=hr.refine hl (zcz hp)
   split at h
   ·exact⟨_,_,gi (put_look _),hr',⟨rfl,rfl⟩,.inl ⟨rfl,h.yes hp⟩⟩
   exact⟨_,_,gi (put_look _),hr',⟨rfl,rfl⟩,.inr ⟨rfl,h.yes hp⟩⟩
  have hr':=hr.refine hl (za7 hp)
  split at h
  ·exact⟨_,_,gi (put_look _),hr',⟨rfl,rfl⟩,.inr ⟨rfl,h.no hp⟩⟩
  exact⟨_,_,gi (put_look _),hr',⟨rfl,rfl⟩,.inl ⟨rfl,h.no hp⟩⟩
 ·rename_i hl;exact⟨σ,_,gv hl,hr,⟨rfl,rfl⟩,.inr ⟨rfl,h⟩⟩
 exact h.elim
def yIs(L:LP)(c:Call)(l:Nat):Prop:=
 match c.callee with
 |.value (.tmp t)=>kK L t=some (.val (.func (.yield l) #[] #[]))
 |_=>False
def zyn(l:Nat){α:Type}(enc:α->LR)(xs:List α)(o:Oper)(σ:St)(i:Nat)(b:Bool)(K:St->Nat->Bool->Prop):Prop:=
 match o.op with
 |.call c=>(match b with
  |true=>False
  |false=>evs σ.L c.args.toList λsvs=>yIs σ.L c l/\∃x,xs[i]?=some x/\uw.scalars (enc x)=true/\LEs svs (enc x)/\ziL σ.M/\
   zlX o.dst σ.nt (Br (K (σ.yput o.dst (.val (.bool true))) (i+1) false) (K (σ.yput o.dst (.val (.bool false))) i true)))
 |_=>False
def zdT(P:Program)(Γ:LS)(l:Nat){α:Type}(enc:α->LR)(xs:List α)(all r:List Oper):Nat->St->Nat->Bool->(St->Nat->Bool->Prop)->Prop:=
 List.rec (motive:=λ_=>Nat->St->Nat->Bool->(St->Nat->Bool->Prop)->Prop) (λ_ σ i b K=>K σ i b) (λo _ ih j σ i b K=>match isY σ.L o with
  |false=>u4 P Γ false all [o] j σ λσ'=>ih (j+1) σ' i b K
  |true=>zsm all o σ (λσ'=>zyn l enc xs o σ' i b λσ' i b=>ih (j+1) σ' i b K) (λσ'=>zaq o σ' λσ'=>ih (j+1) σ' i b K)) r
inductive YDr (A:Prop) (B:LI):Prop
 |plain (h:A)
 |split (m:Nat) (h:B m)
def zyo(P:Program)(Γ:LS)(l:Nat){α:Type}(enc:α->LR)(xs:List α)(c:Code):St->Nat->Bool->(Ex->St->Nat->Bool->Prop)->Prop:=
 Code.rec (motive:=λ_=>St->Nat->Bool->(Ex->St->Nat->Bool->Prop)->Prop)
  (λσ i b Q=>Q .normal σ i b)
  (λid ops draw σ i b Q=>match yX ops.toList with
   |false=>False
   |true=>match draw with
   |false=>zdT P Γ l enc xs ops.toList ops.toList 0 σ i b (Q .normal)
   |true=>YDr (jI P Γ (.region id ops true) σ λe σ=>(match e with
    |.normal=>Q .normal σ i b
    |_=>False)) λm=>Ob (uv (yX ops.toList) (uv (zmM ops.toList m) (vi (ops.toList.take m)))=true)
     (u4 P Γ true (ops.toList.take m) (ops.toList.take m) 0 σ λσ=>zdT P Γ l enc xs ops.toList (ops.toList.drop m) m σ i b (Q .normal)))
  (λ_ _ ha hb σ i b Q=>ha σ i b λe σ i b=>(match e with
   |.normal=>hb σ i b Q
   |.exit id=>Q (.exit id) σ i b
   |.ret=>Q .ret σ i b))
  (λc _ _ hx hy σ i b Q=>ev σ.L c λc=>(match c with
   |.val (.bool true)=>hx σ i b Q
   |.val (.bool false)=>hy σ i b Q
   |.pr p _=>Br (p->hx σ i b Q) (¬p->hy σ i b Q)
   |.anyb=>Br (hx σ i b Q) (hy σ i b Q)
   |_=>False))
  (λid _ hc σ i b Q=>hc σ i b λe σ i b=>(match e with
   |.normal=>Q .normal σ i b
   |.exit j=>(match Nat.beq j id with
    |true=>Q .normal σ i b
    |false=>Q (.exit j) σ i b)
   |.ret=>Q .ret σ i b))
  (λ_ hc σ i b Q=>∃(ι:Type) (S:ι->St) (T:ι->Nat) (I:ι->Prop) (μ:ι->Nat) (x0:ι),I x0/\Sub σ (S x0)/\i=T x0/\b=false/\
   ∀x,I x->hc (S x) (T x) false λe σ' i' b'=>(match e with
    |.normal=>∃x',I x'/\Sub σ' (S x')/\i'=T x'/\b'=false/\μ x'<μ x
    |.exit id=>Q (.exit id) σ' i' b'
    |.ret=>Q .ret σ' i' b'))
  (λ_ _ _ _ _ _ _ _ _ _=>False)
  (λid σ i b Q=>Q (.exit id) σ i b)
  (λ_ _ _ _ _ _=>False)
  (λ_ σ i b Q=>Q .normal σ i b)
  (λ_ _ _ _ _=>False)
  (λσ i b Q=>Q .ret σ i b)
  (λ_ _ _ _ _=>False)
  c
section it
variable{P:Program}{Γ:LS}{α:Type}{enc:α->LR}{xs:List α}{l:Nat}{J:Nat->LI->LI->World->Prop}{Jx:LI->LI->World->Prop}
section
def Jt(J:Nat->LI->LI->World->Prop)(Jx:LI->LI->World->Prop)(i:Nat)(b:Bool):LI->LI->World->Prop:=
 match b with
 |false=>J i
 |true=>Jx
structure RI (J:Nat->LI->LI->World->Prop) (Jx:LI->LI->World->Prop) (E:Env) (SA SB:LI) (σ:St) (i:Nat) (b:Bool) (ρ:zh) (a:Act) (w:World):Prop where
 rel:Rel E σ ρ a w
 ds:E.ds=[]
 sa:∀b,SA b->E.Keep b
 sb:∀b,Own σ.M ρ b->SB b
 dj:∀b,SB b->¬SA b/\b<w.heap.size
 lt:∀b,SA b->b<w.heap.size
 j:Jt J Jx i b SA SB w
def zqq(J:Nat->LI->LI->World->Prop)(Jx:LI->LI->World->Prop)(Q:Ex->St->Nat->Bool->Prop):LF
 |.normal,a,w=>∃E SA SB σ i b ρ,Q .normal σ i b/\RI J Jx E SA SB σ i b ρ a w
 |.exit id,a,w=>∃E SA SB σ i b ρ,Q (.exit id) σ i b/\RI J Jx E SA SB σ i b ρ a w
 |.ret,a,w=>∃E SA SB σ i b ρ,Q .ret σ i b/\RI J Jx E SA SB σ i b ρ a w
 |_,_,_=>False
variable{E:Env}{SA:LI}{SB:LI}{σ:St}{σ':St}{i:Nat}{b:Bool}{ρ:zh}{a:Act}{w':World}
def RI.next{ρ':zh}{a':Act}{w:World}(hS:∀i b SA SB SB' W W',Jt J Jx i b SA SB W->Mv SB SB' W W'->(∀b,SB' b->¬SA b/\b<W'.heap.size)->Jt J Jx i b SA SB' W')(h:RI J Jx E SA SB σ i b ρ a w)(h':Rel ⟨w,E.ρ0,E.Keep,Own σ.M ρ,E.ds⟩ σ' ρ' a' w'):RI J Jx ⟨w,E.ρ0,E.Keep,Own σ.M ρ,E.ds⟩ SA (λb=>SB b∨Own σ'.M ρ' b) σ' i b ρ' a' w':=by
 have hs:=h'.stp
 have hdj:∀b,(SB b∨Own σ'.M ρ' b)->¬SA b/\b<w'.heap.size:=λb hb=>hb.elim (λhb=>⟨(h.dj b hb).1,Xw (h.dj b hb).2 hs.size⟩)
  λho=>⟨λhk=>(h'.mem.old b ho).2 (h.sa b hk),(h'.mem.old b ho).1⟩
 refine⟨h',h.ds,h.sa,λ_ hb=>.inr hb,hdj,λb hb=>Xw (h.lt b hb) hs.size,hS i b SA SB _ w w' h.j ⟨⟨hs.os,hs.tape,hs.output,hs.size,λb hb hn=>hs.block b hb λho=>hn (h.sb b ho),λb hb=>?_,λ_ _ h=>h⟩,λg v hg _=>h'.mem.glc hg⟩ hdj⟩;exact hb.elim .inl λho=>(hs.own b ho).imp (h.sb b) id
def RI.sub{w:World}(hS:∀i b SA SB SB' W W',Jt J Jx i b SA SB W->Mv SB SB' W W'->(∀b,SB' b->¬SA b/\b<W'.heap.size)->Jt J Jx i b SA SB' W')(h:RI J Jx E SA SB σ i b ρ a w)(hs:Sub σ σ'):∃E SB ρ,RI J Jx E SA SB σ' i b ρ a w:=by
 obtain⟨ρ',hr⟩:=hs _ ρ a w h.rel.cut;exact⟨_,_,ρ',h.next hS hr⟩
def zvu{o:Oper}{c:Call}{t:Nat}(ho:o.op=.call c)(hc:c.callee=.value (.tmp t)){w:World}(hf:a.eval (.tmp t)=.func (.yield l) #[] #[]){n:Next}{args:LA}(ha:c.args.toList.map a.eval=args)(h:(Instr.yield l (List.toArray args)).run P w=.ok n w')(ro:LK):(o.semAt ro a.eval).run P w=.ok n w':=by
 rw[Oper.semAt_eq _ _ _ (by rw[ho];intro c h;cases h)];have hmap:c.args.map a.eval=List.toArray args:=by apply QQ;simp[ha]
 simp only[execOp,ho,resolve,hc,hf,hmap,Deferred.ofValue,invoke,Sem.run_bind,Sem.run_pure,Result.andThen_ok]
 simpa using h
end
end it
end Go.Gs
