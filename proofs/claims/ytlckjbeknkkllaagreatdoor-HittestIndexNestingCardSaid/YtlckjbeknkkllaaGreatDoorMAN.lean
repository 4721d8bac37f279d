/- A loop over a function: what is left to be shown is enough. -/
import Derived.Test.YtlckjbeknkkllaaGreatDoorMAM
set_option maxRecDepth 100000
set_option maxHeartbeats 8000000
set_option linter.all false
namespace Go.Gs
open Proofs.Tryz
section
structure Jc (E:Env) (K0 SB Own0:LG) (m nkv:Nat) (w0:World) (ρs:ze) (M:LT) (ρj:ze) (W:World):Prop where
 mem:zB (λb=>K0 b∨SB b) M ρj W
 names:∀k v,k<m->ρs k=some v->ρj k=some v
 fresh:∀k,nkv<=k->ρj k=none
 stp:Stp E.W0 (Own M ρj) E.ρ0 ρj E.w0 W
 same:∀b,b<w0.heap.size->¬Own0 b->W.heap[b]?=w0.heap[b]?
 size:w0.heap.size+2<=W.heap.size
 sb:∀b,SB b->w0.heap.size+2<=b
 own:∀b,Own M ρj b->Own0 b∨w0.heap.size+2<=b
 dis:∀b,SB b->¬K0 b
def Jc.other{E:Env}{K0 SB SB' Own0:LG}{m nkv:Nat}{w0:World}{ρs ρj:ze}{M:LT}{W W':World}(h:Jc E K0 SB Own0 m nkv w0 ρs M ρj W)(hp:zjO M)(h0:E.w0.heap.size<=w0.heap.size)(hmv:Mv SB SB' W W')(hd:∀b,SB' b->¬(K0 b∨Own M ρj b)/\b<W'.heap.size):Jc E K0 SB' Own0 m nkv w0 ρs M ρj W':=by
 have hz:=h.size
 refine⟨h.mem.other hp hmv λb hb=>⟨λho=>(hd b hb).1 (.inr ho),(hd b hb).2⟩,h.names,h.fresh,
  ⟨hmv.os.trans h.stp.os,hmv.tape.trans h.stp.tape,h.stp.output.trans hmv.output,XE h.stp.size hmv.size,λb hb hn=>?_,h.stp.own,h.stp.rho⟩,
  λb hb hn=>?_,XE h.size hmv.size,λb hb=>?_,h.own,λb hb k=>(hd b hb).1 (.inl k)⟩
 ·exact(hmv.block b oM λhs=>by have:=h.sb b hs;omega).trans (h.stp.block b hb hn)
 ·exact(hmv.block b oM λhs=>by have:=h.sb b hs;omega).trans (h.same b hb hn)
 exact(hmv.own b hb).elim (h.sb b) λhge=>oM
def zf2:∀{l:LB},vI l=true->l.Nodup
 |[],_=>List.nodup_nil
 |k::r,h=>by
  unfold vI at h
  split at h
  ·cases h
  rename_i h1;exact QO.2 ⟨λhm=>(by rw[zft hm]at h1;cases h1),zf2 h⟩
def zyv{P:Program}(w:World)(fn:FuncId)(tmps:Array Value)(ps:Array Tmp)(assign body:Code):∃W1,
  (Instr.enterLoop fn tmps ps assign body none).run P w=.ok (w.heap.size+1,[{ target:=.collected w.heap.size,args:=#[] }]) W1/\
  W1.heap[w.heap.size+1]?=some (.loop { state:=.ready,pending:=none,fn,tmps,params:=ps,assign,body,defers:=w.heap.size })/\W1.heap[w.heap.size]?=some (.deferred (some []))/\
  W1.heap.size=w.heap.size+2/\(∀b,b<w.heap.size->W1.heap[b]?=w.heap[b]?)/\kr w W1/\W1.os=w.os/\W1.tape=w.tape:=by
 refine⟨_,run_enterLoop_outer _ _ _ _ _,?_,(RowKit.Below.heap_alloc _ _ _ sI).trans (World.alloc_heap_new w _),sI,λb hb=>(RowKit.Below.heap_alloc _ _ _ (by simp;omega)).trans (RowKit.Below.heap_alloc _ _ _ hb),?_,rfl,rfl⟩
 ·have:=World.alloc_heap_new (w.alloc (.deferred (some []))) (.loop { state:=.ready,pending:=none,fn,tmps,params:=ps,assign,body,defers:=w.heap.size });rwa [World.size_alloc]at this
 have one:∀(w:World) (o:Obj),o.isCells=false->kr w (w.alloc o):=λw o ho=>⟨rfl,λb=>by
  unfold World.frozen?
  by_cases e:b.block=w.heap.size
  ·rw[e,World.alloc_heap_new,K3 (Xi _)]
   cases o <;> first|rfl|cases ho
  by_cases h2:b.block<w.heap.size
  ·rw[RowKit.Below.heap_alloc _ _ _ h2]
  rw[K3 (by rw[World.size_alloc];omega),K3 oM]⟩
 exact(one w _ rfl).trans (one _ _ rfl)
def zpC{S Pm:LG}{ρ:ze}{w:World}{ps:LB}{es:LQ}{L:LP}{args:LZ}{A:Array Value}(hnd:vI ps=true)(hlt:zlV A.size ps=true)(hle:es.length=ps.length)(hargs:Ds S w es args)(hL:∀t s,z6 L t=some s->t<A.size/\G S Pm ρ w s (A.getD t undef))(t:Nat)(s:SV)(hlk:z6 (zkZ ps es L) t=some s):t<A.size/\G S Pm ρ w s ((uO (ps.zip args) A).getD t undef):=by
 obtain⟨q,h1,h2⟩|⟨h1,h2⟩:=zlU _ _ _ _ _ hle.symm hlk
 ·have htn:t<A.size:=zlW hlt t (Xf h1);have hal:=hargs.1;have hq:q<args.length:=by have:=(Xd.1 h1).1;omega
  have hzq:(ps.zip args)[q]?=some (t,args[q]):=by
   rw[List.getElem?_zip_eq_some];exact⟨h1,Xa hq⟩
  refine⟨htn,?_⟩;rw[zlT _ _ (by rw[List.map_fst_zip oM];exact zf2 hnd) q t _ hzq htn];exact .d _ _ (hargs.2 q s _ h2 (Xa hq))
 obtain⟨g1,g2⟩:=hL t s h2;refine⟨g1,?_⟩;rw[zca _ _ _ λp hp=>h1 p.1 (List.of_mem_zip hp).1];exact g2
variable{P:Program}{Γ:LS}{ρ:ze}{a:Act}{f:FuncId}{Q:LF}
def zpD(hT:TOK P Γ)(hm:P.follows .mixedOrders=true){E E':Env}{σ:St}{w:World}(hr0:RR E E' σ ρ a w)
{caps:LQ} {vs:LZ} {g:Operand} {ps:Array Tmp} {assign body:Code}
  (hg:a.eval g=.func (.func f) #[] vs.toArray) (hcaps:Ds (λb=>E'.Keep b∨Own σ.M ρ b) w caps vs) (h:ztC P Γ f caps ps.toList assign body σ Q):
  (Code.rangeFunc g ps assign body).wpIn Fence.wide 0 P (zjP E Q) a w:=by
 obtain⟨β,enc,ys,m,L,S,nk,⟨hcall,hit⟩,henc,⟨hnd,hlt,hd1,hd2⟩,hsub,⟨hn0,hpf⟩,hpm,hround,hdone⟩:=h;obtain⟨ρs,hrs0⟩:=hsub _ ρ a w hr0.rel.cut;have hown0:∀b,Own (S 0) ρs b->Own σ.M ρ b:=λb hb=>(hrs0.stp.own b hb).resolve_right λhge=>by have:=(hrs0.mem.old b hb).1;have hge:w.heap.size<=b:=hge;omega
 have hr:=hr0.next hrs0
 have hcaps:Ds (λb=>E'.Keep b∨Own (S 0) ρs b) w caps vs:=⟨hcaps.1,λj s v hs hv=>(hcaps.2 j s v hs hv).less λb hb=>hb.imp id (hown0 b)⟩;obtain⟨E1,hE1⟩:∃E1:Env,E1=⟨w,E'.ρ0,E'.Keep,Own σ.M ρ,E'.ds⟩:=⟨_,rfl⟩;have hkeep:E1.Keep=E'.Keep:=by rw[hE1]
 rw[←hE1]at hr;rw[←hkeep]at hcaps;clear hE1 hkeep hrs0 hr0 hsub hown0;have hsz0:=hr.stp.size;refine wpIn_rangeFunc λfn _=>?_;obtain⟨rec,hrec⟩:∃rec:LoopState->Option Code->Loop,rec=λst pe=>{ state:=st,pending:=pe,fn,tmps:=a.tmps,params:=ps,assign,body,defers:=w.heap.size }:=⟨_,rfl⟩
 obtain⟨W1,hin,hL1,hK1',hz1,hsame1,hout1,hos1⟩:=zyv (P:=P) w fn a.tmps ps assign body;rw[show({ state:=.ready,pending:=none,fn,tmps:=a.tmps,params:=ps,assign,body,defers:=w.heap.size }:Loop)=rec .ready none from by rw[hrec]]at hL1;obtain⟨l,hl⟩:∃l,l=w.heap.size+1:=⟨_,rfl⟩;obtain⟨D,hD⟩:∃D,D=w.heap.size:=⟨_,rfl⟩;rw[←hl]at hL1;rw[←hD]at hK1';have hDl:D<l:=oM;have hE0:∀b,b<E.w0.heap.size->b<w.heap.size:=λb hb=>Xy hb hsz0
 obtain⟨K0,hK0⟩:∃K0:LG,K0=λb=>E1.Keep b∨b=D∨b=l:=⟨_,rfl⟩
 have hKl:K0 l:=by rw[hK0];exact .inr (.inr rfl)
 have hKD:K0 D:=by rw[hK0];exact .inr (.inl rfl)
 have hK1:∀b,E1.Keep b->K0 b:=λb hb=>by rw[hK0];exact .inl hb
 have hKlt:∀b,K0 b->b<w.heap.size+2:=λb hb=>by
  rw[hK0]at hb
  rcases hb with hb|rfl|rfl
  ·have:=hr.rel.mem.kp b hb;omega
  ·omega
  omega
 have hKo:∀b,K0 b->b<w.heap.size->E1.Keep b:=λb hb hlt=>by
  rw[hK0]at hb
  rcases hb with hb|rfl|rfl
  ·exact hb
  ·omega
  omega
 have hKe:∀b,K0 b->E1.Keep b∨b=D∨b=l:=λb hb=>by rw[hK0]at hb;exact hb
 clear hK0
 -- what lies in the slots,looked at later
 have regsL:∀{SB:LG} {M:LT} {nkv:Nat} {ρj:ze} {W:World},Jc E K0 SB (Own (S 0) ρs) m nkv w ρs M ρj W->∀t s,z6 L t=some s->
   t<σ.nt/\G (λb=>(K0 b∨SB b)∨Own M ρj b) (Own M ρj) ρj W s (a.tmps.getD t undef):=λ{SB M nkv ρj W} hj t s hl'=>by
  obtain⟨h1,h2⟩:=hr.rel.regs t s hl';obtain⟨p1,p2⟩:=znE hpf hl';have hz:=hj.size;refine⟨h1,(h2.pf (w':=W) oM (λb hb hn=>⟨λhk=>?_,hj.same b hb λho=>hn (.inr ho)⟩) p1).low hj.names p2⟩
  rcases hk with(hk|hk)|hk
  ·exact hn (.inl (hKo b hk hb))
  ·have:=hj.sb b hk;omega
  exact(hj.own b hk).elim (λho=>hn (.inr ho)) λhge=>oM
 -- the first round
 have hst1:Stp (Own (S 0) ρs) (Own (S 0) ρs) ρs ρs w W1:=⟨hos1.1,hos1.2,hout1,oM,λb hb _=>hsame1 b hb,λ_ h=>.inl h,λ_ _ h=>h⟩
 have hj0:Jc E K0 (λ_=>False) (Own (S 0) ρs) m (nk 0) w ρs (S 0) ρs W1:=by
  refine⟨?_,λ_ _ _ h=>h,hr.rel.fresh,hr.stp.trans hst1,λb hb _=>hsame1 b hb,oM,λ_ h=>h.elim,λb h=>.inl h,λ_ h=>h.elim⟩
  have hm1:zB E1.Keep (S 0) ρs W1:=⟨λk mm hk=>(hr.rel.mem.rel k mm hk).keep hst1 rfl (λv b hv hb=>hsame1 b (hr.rel.mem.old b ⟨k,mm,v,hk,hv,hb⟩).1),hr.rel.mem.keys,hr.rel.mem.apart,
   λb hb=>⟨by have:=(hr.rel.mem.old b hb).1;omega,(hr.rel.mem.old b hb).2⟩,λb hb=>by have:=hr.rel.mem.kp b hb;omega,hr.rel.mem.glS hst1⟩
  -- two new blocks are kept apart
  refine⟨λk mm hk=>?_,hm1.keys,hm1.apart,λb hb=>⟨(hm1.old b hb).1,λhk=>?_⟩,λb hb=>hb.elim (λhk=>by have:=hKlt b hk;omega) λh=>h.elim,hm1.gl⟩
  ·have hst2:Stp (Own (S 0) ρs) (λb=>Own (S 0) ρs b∨b=D∨b=l) ρs ρs w W1:=⟨hst1.os,hst1.tape,hst1.output,hst1.size,hst1.block,λb hb=>hb.elim .inl λh=>.inr oM,hst1.rho⟩;have hb0:=(hr.rel.mem.rel k mm hk).keep hst2 rfl (λv b hv hb=>hsame1 b (hr.rel.mem.old b ⟨k,mm,v,hk,hv,hb⟩).1);exact hb0.pf (λb hb=>hb.elim (λh=>h.elim (λh=>(hKe b h).imp id .inr) λh=>h.elim) λh=>.inr (.inl h)) (hpm 0 k mm hk)
  have hlt:=(hr.rel.mem.old b hb).1;exact hk.elim (λhk=>(hr.rel.mem.old b hb).2 (hKo b hk hlt)) λh=>h
 refine⟨l,[{ target:=.collected D,args:=#[] }],W1,{ target:=.fn (.func f) vs.toArray,args:=#[.func (.yield l) #[] #[]] },W1,f,
  List.toArray (.func (.yield l) #[] #[]::vs),W1,?_,?_,λ_ _=>trivial,?_,jE.wide.need,?_⟩
 ·rw[hl,hD];exact hin
 ·simp only[resolve,hg];simp[go_sem]
 ·obtain⟨fn',c1,c2,c3⟩:=hcall;simp only[invoke,callFunc,Sem.run_bind,Sem.run_pure,Result.andThen_ok,run_program,c1,c2,c3,KC,if_false];simp
 refine(hit (λb=>K0 b∨Own (S 0) ρs b) W1 vs l
  (λi SA SB W=>∃ρj,Jc E K0 SB (Own (S 0) ρs) m (nk i) w ρs (S i) ρj W/\(∀b,SA b↔K0 b∨Own (S i) ρj b)/\W.heap[l]?=some (.loop (rec .ready none))/\W.heap[D]?=some (.deferred (some [])))
  (λSA SB W=>∃c M' nk' ρj,Jc E K0 SB (Own (S 0) ρs) m nk' w ρs M' ρj W/\zjO M'/\(∀b,SA b↔K0 b∨Own M' ρj b)/\W.heap[l]?=some (.loop (rec .done (some c)))/\W.heap[D]?=some (.deferred (some []))/\
   ((∃id,c=.exit id/\Q (.exit id) ⟨L,M',nk',σ.nt,σ.n0⟩)∨(c=.ret/\Q .ret ⟨L,M',nk',σ.nt,σ.n0⟩)))
  ?_ (λg v h=>hj0.mem.glc h) ?_ ?_ ?_ ?_ ?_).mono ?_
 ·intro b hb;exact hb.elim (λhk=>by have:=hKlt b hk;omega) λho=>(hj0.mem.old b ho).1
 ·refine⟨hcaps.1,λj s v hs hv=>(hcaps.2 j s v hs hv).mono oM λb hb hn=>⟨λhk=>hk.elim (λhk=>hn (.inl (hKo b hk hb))) λho=>hn (.inr ho),hsame1 b hb⟩⟩
 ·rintro i SA SB SB' W W' ⟨ρj,hj,hSA,hl',hD'⟩ hmv hd
  have hz:=hj.size;refine⟨ρj,hj.other (hpm i) oM hmv λb hb=>⟨λhk=>(hd b hb).1 ((hSA b).2 hk),(hd b hb).2⟩,hSA,?_,?_⟩
  ·exact(hmv.block l oM λhs=>hj.dis l hs hKl).trans hl'
  exact(hmv.block D oM λhs=>hj.dis D hs hKD).trans hD'
 ·rintro SA SB SB' W W' ⟨c,M',nk',ρj,hj,hpM,hSA,hl',hD',hc⟩ hmv hd
  have hz:=hj.size;refine⟨c,M',nk',ρj,hj.other hpM oM hmv λb hb=>⟨λhk=>(hd b hb).1 ((hSA b).2 hk),(hd b hb).2⟩,hpM,hSA,?_,?_,hc⟩
  ·exact(hmv.block l oM λhs=>hj.dis l hs hKl).trans hl'
  exact(hmv.block D oM λhs=>hj.dis D hs hKD).trans hD'
 ·-- one round
  rintro i y SA SB W args hy ⟨ρj,hj,hSA,hl',hD'⟩ hSAlt hSBd hargs
  have hz:=hj.size;have hlen:args.length=ps.toList.length:=by rw[hargs.1,henc y]
  have hrun:=run_yield (P:=P) (args:=List.toArray args) hl' (by rw[hrec];simp at hlen ⊢;omega);rw[hrec]at hrun
  have hzip:∀A:Array Value,(ps.zip (List.toArray args)).foldl (λtmps (t,a)=>tmps.setIfInBounds t a) A=uO (ps.toList.zip args) A:=λA=>by
   unfold uO;rw[←JV,Array.toList_zip]
  dsimp only at hrun;rw[hzip]at hrun;have hnoL:¬Own (S i) ρj l:=λho=>(hj.mem.old l ho).2 (.inl hKl)
  have hnoD:¬Own (S i) ρj D:=λho=>(hj.mem.old D ho).2 (.inl hKD)
  have hrel:Rel ⟨W,λk=>if k<m then ρj k else none,λb=>K0 b∨SB b,Own (S i) ρj,[]⟩ ⟨zkZ ps.toList (enc y) L,S i,nk i,σ.nt,m⟩ ρj { tmps:=uO (ps.toList.zip args) a.tmps,defers:=[] } W:=by
   have hsz:a.tmps.size=σ.nt:=hr.rel.size;refine⟨by rw[zde];exact hsz,rfl,λt s hlk=>?_,hj.mem,hj.fresh,⟨rfl,rfl,.refl _,Xi _,λ_ _ _=>rfl,λ_ h=>.inl h,λk v hk=>?_⟩,hj.mem.kp,λk v hk=>?_⟩
   ·have:=zpC hnd (hsz ▸ hlt) (henc y) ⟨hargs.1,λj s v hs hv=>(hargs.2 j s v hs hv).less λb hb=>hb.elim (λh=>h.elim (λh=>.inl ((hSA b).2 (.inl h))) .inr) λh=>.inl ((hSA b).2 (.inr h))⟩ (λt s hl'=>hsz ▸ regsL hj t s hl') t s hlk
    rwa [hsz]at this
   ·dsimp only at hk
    split at hk
    ·exact hk
    cases hk
   dsimp only at hk
   split at hk
   ·assumption
   cases hk
  refine⟨fn,_,assign,body,hrun,roundIn_of_wpIn trivial ?_⟩;refine wpIn_mono (y7 (jE.wide.inRound l) hT hm assign hd1 hrel (hround i y hy ⟨_,_,_,_,hrel⟩)) (λe a1 w1 hq=>?_)
  cases e with
  |exit id=>obtain⟨_,_,hf,_⟩:=hq;exact hf.elim
  |ret=>obtain⟨_,_,hf,_⟩:=hq;exact hf.elim
  |panic _=>exact hq.elim
  |outgrown=>exact hq.elim
  |goto _=>exact hq.elim
  |normal=>
   obtain⟨σ1,ρ1,hb,hr1⟩:=hq;have hl1:w1.heap[l]?=some (.loop (rec .ready none)):=(hr1.stp.block l (by show l<W.heap.size;omega) hnoL).trans hl';have hD1:w1.heap[D]?=some (.deferred (some [])):=(hr1.stp.block D (by show D<W.heap.size;omega) hnoD).trans hD';refine⟨_,run_beginRound hl1 (by rw[hrec]),?_⟩;have hr2:=hr1.put (o':=.loop { rec .ready none with state:=.busy }) hl1 rfl (by intro _ _ h;cases h);have hz1':W.heap.size<=w1.heap.size:=hr1.stp.size;refine wpIn_mono (y7 (jE.wide.inRound l) hT hm body hd2 hr2 hb) (λe a2 w3 hq=>?_)
   have fin:∀(M':LT) (nk':Nat) (ρ3:ze) (jump:Option Code),zjO M'->
     Rel ⟨w1.putObj l (.loop { rec .ready none with state:=.busy }),λk=>if k<m then ρj k else none,λb=>K0 b∨SB b,Own σ1.M ρ1,[]⟩ ⟨[],M',nk',σ.nt,m⟩ ρ3 a2 w3->
     (Instr.endRound l jump).run P w3=.ok (.bool jump.isNone) (w3.putObj l (.loop (rec (if jump.isNone then .ready else .done) jump)))/\
     Jc E K0 SB (Own (S 0) ρs) m nk' w ρs M' ρ3 (w3.putObj l (.loop (rec (if jump.isNone then .ready else .done) jump)))/\
     Mv SA (λb=>K0 b∨Own M' ρ3 b) W (w3.putObj l (.loop (rec (if jump.isNone then .ready else .done) jump)))/\
     (∀b,(K0 b∨Own M' ρ3 b)->¬SB b/\b<(w3.putObj l (.loop (rec (if jump.isNone then .ready else .done) jump))).heap.size)/\
     (w3.putObj l (.loop (rec (if jump.isNone then .ready else .done) jump))).heap[l]?=some (.loop (rec (if jump.isNone then .ready else .done) jump))/\
     (w3.putObj l (.loop (rec (if jump.isNone then .ready else .done) jump))).heap[D]?=some (.deferred (some [])):=by
    intro M' nk' ρ3 jump hpM hr3;have hz3:w1.heap.size<=w3.heap.size:=by have:=hr3.stp.size;rwa [World.putObj_size]at this
    have hlt1:l<w1.heap.size:=(X1.1 hl1).1;have hnoL1:¬Own σ1.M ρ1 l:=λho=>(hr1.mem.old l ho).2 (.inl hKl)
    have hnoD1:¬Own σ1.M ρ1 D:=λho=>(hr1.mem.old D ho).2 (.inl hKD)
    have hl3:w3.heap[l]?=some (.loop { rec .ready none with state:=.busy }):=
     (hr3.stp.block l (by show l<(World.putObj _ _ _).heap.size;rw[World.putObj_size];exact hlt1) hnoL1).trans (World.putObj_heap_same hlt1)
    have hD3:w3.heap[D]?=some (.deferred (some [])):=
     (hr3.stp.block D (by show D<(World.putObj _ _ _).heap.size;rw[World.putObj_size];omega) hnoD1).trans ((World.putObj_heap_other oM).trans hD1)
    have hend:=run_endRound (P:=P) jump hl3;have erec:({ ({ rec .ready none with state:=.busy }:Loop) with state:=if jump.isNone then .ready else .done,pending:=jump }:Loop)=rec (if jump.isNone then .ready else .done) jump:=by rw[hrec]
    rw[erec]at hend;clear erec;have hlt3:l<w3.heap.size:=oM
    have hown3:∀b,Own M' ρ3 b->Own (S i) ρj b∨W.heap.size<=b:=λb ho=>(hr3.stp.own b ho).elim (λh1=>hr1.stp.own b h1) λhge=>by
     have hge:(w1.putObj l (.loop { rec .ready none with state:=.busy })).heap.size<=b:=hge;rw[World.putObj_size]at hge;exact .inr oM
    have hblk:∀b,b<W.heap.size->¬Own (S i) ρj b->b≠l->(w3.putObj l (.loop (rec (if jump.isNone then .ready else .done) jump))).heap[b]?=W.heap[b]? :=λb hb hn hne=>by
     refine(World.putObj_heap_other hne).trans ?_;refine(hr3.stp.block b (by show b<(World.putObj _ _ _).heap.size;rw[World.putObj_size];omega) λh1=>(hr1.stp.own b h1).elim hn λhge=>?_).trans ?_
     ·have hge:W.heap.size<=b:=hge;omega
     exact(World.putObj_heap_other hne).trans (hr1.stp.block b hb hn)
    have hout:kr W (w3.putObj l (.loop (rec (if jump.isNone then .ready else .done) jump))):=
     hr1.stp.output.trans ((kr.put hl1 rfl rfl).trans (hr3.stp.output.trans (kr.put hl3 rfl rfl)))
    have hos:w3.os=W.os:=hr3.stp.os.trans hr1.stp.os;have htape:w3.tape=W.tape:=hr3.stp.tape.trans hr1.stp.tape;have hmem:zB (λb=>K0 b∨SB b) M' ρ3 (w3.putObj l (.loop (rec (if jump.isNone then .ready else .done) jump))):=hr3.mem.put hl3 rfl (by intro _ _ h;cases h);have hname:∀k v,k<m->ρs k=some v->ρ3 k=some v:=λk v hk hv=>hr3.stp.rho k v (by show(if k<m then ρj k else none)=some v;rw[Xe hk];exact hj.names k v hk hv)
    refine⟨hend,⟨hmem,hname,hr3.fresh,⟨hos.trans hj.stp.os,htape.trans hj.stp.tape,hj.stp.output.trans hout,?_,λb hb hn=>?_,λb ho=>?_,λk v hv=>?_⟩,λb hb hn=>?_,?_,hj.sb,λb ho=>?_,hj.dis⟩,
     ⟨⟨hos,htape,hout,?_,λb hb hn=>?_,λb hb=>?_,λ_ _ h=>h⟩,λg v h _=>hmem.glc h⟩,λb hb=>?_,World.putObj_heap_same hlt3,(World.putObj_heap_other oM).trans hD3⟩
    ·have:=hj.stp.size;rw[World.putObj_size];omega
    ·have hb':=hE0 b hb;exact(hblk b oM (λho=>(hj.stp.own b ho).elim hn λhge=>by omega) oM).trans (hj.stp.block b hb hn)
    ·exact(hown3 b ho).elim (hj.stp.own b) λhge=>.inr (by have:=hj.stp.size;omega)
    ·have h1:k<σ.n0:=hr.rel.low k v (by rw[hr.rho];exact hv);exact hname k v oM (hr.stp.rho k v hv)
    ·exact(hblk b oM (λho=>(hj.own b ho).elim hn λhge=>by omega) oM).trans (hj.same b hb hn)
    ·rw[World.putObj_size];omega
    ·exact(hown3 b ho).elim (hj.own b) λhge=>.inr oM
    ·rw[World.putObj_size];omega
    ·exact hblk b hb (λho=>hn ((hSA b).2 (.inr ho))) λe=>hn ((hSA b).2 (.inl (e ▸ hKl)))
    ·exact hb.elim (λhk=>.inl ((hSA b).2 (.inl hk))) λho=>(hown3 b ho).imp (λh=>(hSA b).2 (.inr h)) id
    exact hb.elim (λhk=>⟨λhs=>hj.dis b hs hk,hmem.kp b (.inl hk)⟩) λho=>⟨λhs=>(hmem.old b ho).2 (.inr hs),(hmem.old b ho).1⟩
   cases e with
   |normal=>
    obtain⟨σ2,ρ2,hs2,hr3⟩:=hq;obtain⟨ρ3,hr3⟩:=hs2 _ ρ2 a2 w3 hr3;obtain⟨f1,f2,f3,f4,f5,f6⟩:=fin _ _ ρ3 none (hpm (i+1)) hr3;exact⟨_,_,f1,λb=>K0 b∨Own (S (i+1)) ρ3 b,f3,f4,.inl ⟨rfl,ρ3,f2,λb=>Qd,f5,f6⟩⟩
   |ret=>
    obtain⟨σ2,ρ2,⟨M',nk',hs2,hpM,hQ⟩,hr3⟩:=hq;obtain⟨ρ3,hr3⟩:=hs2 _ ρ2 a2 w3 hr3;obtain⟨f1,f2,f3,f4,f5,f6⟩:=fin _ _ ρ3 (some .ret) hpM hr3;exact⟨_,_,f1,λb=>K0 b∨Own M' ρ3 b,f3,f4,.inr ⟨rfl,.ret,M',nk',ρ3,f2,hpM,λb=>Qd,f5,f6,.inr ⟨rfl,hQ⟩⟩⟩
   |exit id=>
    obtain⟨σ2,ρ2,⟨M',nk',hs2,hpM,hQ⟩,hr3⟩:=hq;obtain⟨ρ3,hr3⟩:=hs2 _ ρ2 a2 w3 hr3;obtain⟨f1,f2,f3,f4,f5,f6⟩:=fin _ _ ρ3 (some (.exit id)) hpM hr3;exact⟨_,_,f1,λb=>K0 b∨Own M' ρ3 b,f3,f4,.inr ⟨rfl,.exit id,M',nk',ρ3,f2,hpM,λb=>Qd,f5,f6,.inl ⟨id,rfl,hQ⟩⟩⟩
   |goto _=>exact hq.elim
   |panic _=>exact hq.elim
   |outgrown=>exact hq.elim
 ·exact⟨ρs,hj0,λb=>Qd,hL1,hK1'⟩
 -- behind the iterator
 have finR:∀(M':LT) (nk':Nat) (ρj:ze) (SB:LG) (W2:World) (r r':Loop),zjO M'->Jc E K0 SB (Own (S 0) ρs) m nk' w ρs M' ρj W2->W2.heap[l]?=some (.loop r)->W2.heap[D]?=some (.deferred (some []))->
   RR E ⟨W2.putObj l (.loop r'),E1.ρ0,λb=>E1.Keep b∨b=D,Own M' ρj,{ target:=.collected D,args:=#[] }::E1.ds⟩ ⟨L,M',nk',σ.nt,σ.n0⟩ ρj { a with defers:=[{ target:=.collected D,args:=#[] }]++a.defers } (W2.putObj l (.loop r')):=by
  intro M' nk' ρj SB W2 r r' hpM hj hl' hD';have hz:=hj.size
  have hnm:∀k v,E1.ρ0 k=some v->ρj k=some v:=λk v hv=>by
   have h1:k<σ.n0:=hr.rel.low k v hv;rw[hr.rho]at hv;exact hj.names k v oM (hr.stp.rho k v hv)
  have hmem:zB (λb=>E1.Keep b∨b=D) M' ρj (W2.putObj l (.loop r')):=(hj.mem.put hl' rfl (by intro _ _ h;cases h)).few hpM λb hb=>.inl (hb.elim (hK1 b) λe=>e ▸ hKD)
  refine⟨⟨hr.rel.size,?_,λt s hlk=>?_,hmem,hj.fresh,⟨rfl,rfl,.refl _,Xi _,λ_ _ _=>rfl,λ_ h=>.inl h,hnm⟩,hmem.kp,hr.rel.low⟩,hr.rho,λb hb=>.inl (hr.kp b hb),
   ⟨hj.stp.os,hj.stp.tape,hj.stp.output.trans (kr.put hl' rfl rfl),?_,λb hb hn=>?_,hj.stp.own,hj.stp.rho⟩,λd hd=>?_,?_⟩
  ·show[_]++a.defers=_::E1.ds;rw[hr.rel.defers];rfl
  ·obtain⟨g1,g2⟩:=regsL hj t s hlk;exact⟨g1,(g2.put hl' rfl).pf (Xi _) (λb _ hn=>⟨λhk=>hn (hk.elim (λh=>.inl (.inl (h.elim (hK1 b) λe=>e ▸ hKD))) .inr),rfl⟩) (znE hpf hlk).1⟩
  ·rw[World.putObj_size];exact hj.stp.size
  ·have hb':=hE0 b hb;exact(World.putObj_heap_other oM).trans (hj.stp.block b hb hn)
  ·cases hd with
   |head=>exact⟨D,rfl,.inr rfl,oM,(World.putObj_heap_other oM).trans hD'⟩
   |tail _ hd=>
    obtain⟨D',e,hk,hge,hh⟩:=hr.marks d hd;have hlt':=hr.rel.mem.kp D' hk;exact⟨D',e,.inl hk,hge,(World.putObj_heap_other oM).trans ((hj.same D' hlt' λho=>(hr.rel.mem.old D' ho).2 hk).trans hh)⟩
  refine XY.2 ⟨λe he D1 D2 h1 h2=>?_,hr.apart⟩;obtain⟨D',rfl,hk,_,_⟩:=hr.marks e he;have hlt':=hr.rel.mem.kp D' hk
  cases h1
  cases h2
  omega
 rintro e W2 ⟨⟨v,rfl⟩,SA',SB',(⟨ρj,hj,_,hl',hD'⟩|⟨c,M',nk',ρj,hj,hpM,_,hl',hD',hc⟩)⟩
 ·have he:=run_endLoop (P:=P) hl' (by rw[hrec];simp);have hpn:(rec .ready none).pending=none:=by rw[hrec]
  rw[hpn]at he;exact⟨none,_,he,_,_,ρj,hdone ⟨_,_,_,_,(finR _ _ ρj SB' W2 _ (rec .ready none) (hpm _) hj hl' hD').rel⟩,finR _ _ ρj SB' W2 _ _ (hpm _) hj hl' hD'⟩
 have he:=run_endLoop (P:=P) hl' (by rw[hrec];simp);have hpn:(rec .done (some c)).pending=some c:=by rw[hrec]
 rw[hpn]at he;refine⟨some c,_,he,?_⟩
 obtain⟨id,rfl,hQ⟩|⟨rfl,hQ⟩:=hc
 ·exact wpIn_exit ⟨_,_,ρj,hQ,finR _ _ ρj SB' W2 _ _ hpM hj hl' hD'⟩
 exact wpIn_ret ⟨_,_,ρj,hQ,finR _ _ ρj SB' W2 _ _ hpM hj hl' hD'⟩
def znF(P:Program)(Γ:LS)(c:Code):St->LF->Prop:=
 Code.rec (motive:=λ_=>St->LF->Prop)
  (λσ Q=>Q .normal σ)
  (λid ops draw σ Q=>qS P Γ (.region id ops draw) σ Q)
  (λ_ _ ha hb σ Q=>ha σ λe σ=>(match e with
   |.normal=>hb σ Q
   |.exit id=>Q (.exit id) σ
   |.ret=>Q .ret σ))
  (λc _ _ hx hy σ Q=>ev σ.L c λc=>(match c with
   |.val (.bool true)=>hx σ Q
   |.val (.bool false)=>hy σ Q
   |.pr p _=>Br (p->hx σ Q) (¬p->hy σ Q)
   |.anyb=>Br (hx σ Q) (hy σ Q)
   |_=>False))
  (λid _ hc σ Q=>hc σ λe σ=>(match e with
   |.normal=>Q .normal σ
   |.exit j=>(match Nat.beq j id with
    |true=>Q .normal σ
    |false=>Q (.exit j) σ)
   |.ret=>Q .ret σ))
  (λ_ hc σ Q=>∃(ι:Type) (S:ι->St) (I:ι->Prop) (μ:ι->Nat) (x0:ι),I x0/\Sub σ (S x0)/\
   ∀x,I x->hc (S x) λe σ'=>(match e with
    |.normal=>∃x',I x'/\Sub σ' (S x')/\μ x'<μ x
    |.exit id=>Q (.exit id) σ'
    |.ret=>Q .ret σ'))
  (λg ps assign body _ _ σ Q=>ev σ.L g λs=>(match s with
   |.dfn f caps=>ztC P Γ f caps ps.toList assign body σ Q
   |_=>False))
  (λid σ Q=>Q (.exit id) σ)
  (λ_ _ _ _=>False)
  (λ_ σ Q=>Q .normal σ)
  (λ_ _ _=>False)
  (λσ Q=>Q .ret σ)
  (λ_ _ _=>False)
  c
variable{S:LG}{cs:LQ}{u:Value}
def D.dfn_inv{w:World}(h:D S w (.dfn f cs) u):∃vs:LZ,u=.func (.func f) #[] vs.toArray/\Ds S w cs vs:=by
 cases h with
 |dfn _ _ vs hl h=>exact⟨vs,rfl,hl,h⟩
variable{Pm:LG}
def G.dfn_d{w:World}(h:G S Pm ρ w (.dfn f cs) u):∃vs:LZ,u=.func (.func f) #[] vs.toArray/\Ds S w cs vs:=by
 cases h with
 |d _ _ h=>exact h.dfn_inv
def zaG{P:Program}{Γ:LS}(hT:TOK P Γ)(hm:P.follows .mixedOrders=true){E:Env}:∀(c:Code) {E':Env} {σ:St} {Q:LF} {ρ:ze} {a:Act} {w:World},
  RR E E' σ ρ a w->znF P Γ c σ Q->c.wpIn Fence.wide 0 P (zjP E Q) a w
 |.skip,E',σ,Q,ρ,a,w,hr,h=>wpIn_skip ⟨E',σ,ρ,h,hr⟩
 |.region id ops draw,E',σ,Q,ρ,a,w,hr,h=>wpIn_wide.2 (Code.wp_mono (λ_ _ _ hq=>zjP.of hr hq) (ky hT hm (.region id ops draw) hr.rel.cut h))
 |.seq x y,E',σ,Q,ρ,a,w,hr,h=>by
  refine wpIn_seq (wpIn_mono (zaG hT hm x hr h) (λe a' w' hq=>?_))
  cases e with
  |normal=>obtain⟨E'',σ',ρ',h',hr'⟩:=hq;exact zaG hT hm y hr' h'
  |exit id=>exact hq
  |ret=>exact hq
  |_=>exact hq.elim
 |.cond c x y,E',σ,Q,ρ,a,w,hr,h=>by
  obtain⟨s,h,hs⟩:=zbU h;have hg:=hs (a:=a) (λt s _ hl=>(hr.rel.regs t s hl).2)
  split at h
  ·exact wpIn_cond_true hg.val_inv (zaG hT hm x hr h)
  ·exact wpIn_cond_false hg.val_inv (zaG hT hm y hr h)
  ·rename_i p i
   by_cases hp:p
   ·exact wpIn_cond_true (by rw[hg.pr_inv];simp[hp]) (zaG hT hm x hr (h.yes hp))
   exact wpIn_cond_false (by rw[hg.pr_inv];simp[hp]) (zaG hT hm y hr (h.no hp))
  ·obtain⟨b,hb⟩:=hg.anyb_inv
   cases b with
   |true=>exact wpIn_cond_true hb (zaG hT hm x hr h.yes)
   |false=>exact wpIn_cond_false hb (zaG hT hm y hr h.no)
  exact h.elim
 |.block id c,E',σ,Q,ρ,a,w,hr,h=>by
  refine wpIn_block (wpIn_mono (zaG hT hm c hr h) (λe a' w' hq=>?_))
  cases e with
  |normal=>exact hq
  |exit j=>
   obtain⟨E'',σ',ρ',h',hr'⟩:=hq;dsimp only at h';show(if j=id then zjP E Q .normal a' w' else zjP E Q (.exit j) a' w')
   split at h'
   ·rename_i hb;rw[Xe (Xh hb)];exact⟨E'',σ',ρ',h',hr'⟩
   rename_i hb;rw[Xb (KO hb)];exact⟨E'',σ',ρ',h',hr'⟩
  |ret=>exact hq
  |_=>exact hq.elim
 |.loop c,E',σ,Q,ρ,a,w,hr,h=>by
  obtain⟨ι,S,I,μ,x0,h0,hsub,hround⟩:=h;obtain⟨ρ0,hr0⟩:=hsub _ ρ a w hr.rel.cut;refine vR (λn a w=>∃x E' ρ,I x/\μ x=n/\RR E E' (S x) ρ a w) (μ x0) ⟨x0,_,ρ0,h0,rfl,hr.next hr0⟩ λn a w hI=>?_
  obtain⟨x,E1,ρ1,h1,rfl,hr1⟩:=hI;refine wpIn_mono (zaG hT hm c hr1 (hround x h1)) (λe a' w' hq=>?_)
  cases e with
  |normal=>
   obtain⟨E2,σ',ρ',⟨x',h2,hs2,hlt⟩,hr'⟩:=hq;obtain⟨ρ2,hr2⟩:=hs2 _ ρ' a' w' hr'.rel.cut;exact⟨μ x',hlt,x',_,ρ2,h2,rfl,hr'.next hr2⟩
  |exit id=>exact hq
  |ret=>exact hq
  |_=>exact hq.elim
 |.exit id,E',σ,Q,ρ,a,w,hr,h=>wpIn_exit ⟨E',σ,ρ,h,hr⟩
 |.ret,E',σ,Q,ρ,a,w,hr,h=>wpIn_ret ⟨E',σ,ρ,h,hr⟩
 |.rangeFunc g ps assign body,E',σ,Q,ρ,a,w,hr,h=>by
  obtain⟨s,h,hs⟩:=zbU h;have hg:=hs (a:=a) (λt s _ hl=>(hr.rel.regs t s hl).2)
  split at h
  ·obtain⟨vs,e,hd⟩:=hg.dfn_d;exact zpD hT hm hr e hd h
  exact h.elim
 |.scope _,_,_,_,_,_,_,_,h=>by cases h
 |.label _,E',σ,Q,ρ,a,w,hr,h=>wpIn_label ⟨E',σ,ρ,h,hr⟩
 |.goto _,_,_,_,_,_,_,_,h=>by cases h
 |.refuse _,_,_,_,_,_,_,_,h=>by cases h
def je.lessS{S':LG}{w:World}{k:Nat}{m:Mem}(hS:∀b,S' b->S b)(h:je S Pm ρ w k m):je S' Pm ρ w k m:=by
 have hg:∀{s v},G S Pm ρ w s v->G S' Pm ρ w s v:=λh=>h.mono (Xi _) (λb _ hn=>⟨λk=>hn (hS b k),rfl⟩) (λb _ hn=>⟨hn,rfl⟩) λ_ _ h=>h
 cases m with
 |box T cs=>
  obtain⟨b,vs,h1,h2,h3,h4,h5⟩:=h;exact⟨b,vs,h1,h2,h3,h4,λj s v hs' hv=>hg (h5 j s v hs' hv)⟩
 |arr T enc sz xs=>
  obtain⟨v,cells,h1,h2,h3,h4,h5,h6⟩:=h;refine⟨v,cells,h1,h2,h3,h4,h5,λi j x s hx hj=>?_⟩;obtain⟨u,hu,hd⟩:=h6 i j x s hx hj;exact⟨u,hu,hd.less hS⟩
 |garr T sz xs=>
  obtain⟨v,cells,h1,h2,h3,h4,h5,h6⟩:=h;refine⟨v,cells,h1,h2,h3,h4,h5,λi j x s hx hj=>?_⟩;obtain⟨u,hu,hd⟩:=h6 i j x s hx hj;exact⟨u,hu,hg hd⟩
 |map es=>
  obtain⟨r,ents,clock,h1,h2,h3,h4⟩:=h;refine⟨r,ents,clock,h1,h2,h3,λi n s hi=>?_⟩;obtain⟨e,g1,g2,g3⟩:=h4 i n s hi;exact⟨e,g1,g2,g3.less hS⟩
def zlX{P:Program}{fn:Func}{tmps:Array Value}{R:Ending->World->Prop}{E:Env}{σ:St}{ρ:ze}(he:E.ds=[]):
  ∀(ds:List Deferred) (w:World),Rel E σ ρ { tmps:=tmps,defers:=[] } w->
   (∀d∈ds,∃D,d={ target:=.collected D,args:=#[] }/\E.w0.heap.size<=D/\w.heap[D]?=some (.deferred (some [])))->
   (ds.Pairwise λd e=>∀D D',d.target=.collected D->e.target=.collected D'->D≠D')->
   (∀w',Rel E σ ρ { tmps:=tmps,defers:=[] } w'->∃v,(results fn tmps).run P w'=.ok v w'/\R (.returned v) w')->LeavesInM Fence.wide 0 P fn tmps R ds .returning w
 |[],w,hr,_,_,hk=>hk w hr
 |d::ds,w,hr,hd,hp,hk=>by
  obtain⟨D,rfl,hge,hD⟩:=hd _ (.head _);rw[XY]at hp;refine⟨sI,.inl ⟨D,_,rfl,run_takeDeferred hD,zlX he ds _ ?_ (λd hd'=>?_) hp.2 hk⟩⟩
  ·have hs:=hr.stp
   refine⟨hr.size,hr.defers,λt s hl=>⟨(hr.regs t s hl).1,(hr.regs t s hl).2.put hD rfl⟩,hr.mem.put hD rfl (by intro _ _ h;cases h),hr.fresh,
    ⟨hs.os,hs.tape,hs.output.trans (kr.put hD rfl rfl),?_,λb hb hn=>(World.putObj_heap_other oM).trans (hs.block b hb hn),hs.own,hs.rho⟩,hr.keep,hr.low⟩
   rw[World.putObj_size];exact hs.size
  obtain⟨D',rfl,hge',hD'⟩:=hd d (.tail _ hd');exact⟨D',rfl,hge',(World.putObj_heap_other λe=>hp.1 _ hd' D D' rfl rfl e.symm).trans hD'⟩
variable{fn:Func}{c:Code}{r:SV}
def zrS(hT:TOK P Γ)(hm:P.follows .mixedOrders=true){args:LQ}{M:LT}(hf:P.funcs[f]?=some fn)(hb:fn.body=some c)(hn:(fn.name== "runtime.NumGoroutine")=false) (hle:Nat.ble args.length fn.ntmps=true)
  (h:znF P Γ c ⟨qI 0 args,M,M.length,fn.ntmps,M.length⟩ Q){M':LT}
  (hQ:∀e σ,Q e σ->(∀id,e≠.exit id)->∃s,(∀{E:Env} {ρ:ze} {a:Act} {w:World},Rel E σ ρ a w->∃v,(results fn a.tmps).run P w=.ok v w/\G (λb=>E.Keep b∨Own σ.M ρ b) (Own σ.M ρ) ρ w s v)/\
   ∀{E:Env} {ρ:ze} {a:Act} {w:World} {v:Value},Rel E σ ρ a w->(∀b,E.W0 b↔Own M E.ρ0 b)->(∀k,M.length<=k->E.ρ0 k=none)->G (λb=>E.Keep b∨Own σ.M ρ b) (Own σ.M ρ) ρ w s v->
    ∃ρ',Stp (Own M E.ρ0) (Own M' ρ') E.ρ0 ρ' E.w0 w/\zB E.Keep M' ρ' w/\G (λb=>E.Keep b∨Own M' ρ' b) (Own M' ρ') ρ' w r v)
  (hx:∀id σ,¬Q (.exit id) σ):kK P f args M r M':=by
 refine⟨⟨fn,hf,hn,by rw[hb];rfl⟩,λKeep ρ w vs _ hmem hρ hg=>(callsIn_wide (n:=0)).1 (callsIn_of_wp_marks hf hb trivial ?_ rfl)⟩;have hrel:=uw (nt:=fn.ntmps) hmem hρ hg (Xx hle);have hrr:RR ⟨w,ρ,Keep,Own M ρ,[]⟩ ⟨w,ρ,Keep,Own M ρ,[]⟩ _ ρ _ w:=⟨hrel,rfl,λ_ h=>h,hrel.stp,λ_ h=>(by cases h),List.Pairwise.nil⟩;refine wpIn_mono (zaG hT hm c hrr h) (λe a' w' hq=>?_)
 have fin:∀e E' σ ρ1,Q e σ->(∀id,e≠.exit id)->RR ⟨w,ρ,Keep,Own M ρ,[]⟩ E' σ ρ1 a' w'->LeavesInM Fence.wide 0 P fn a'.tmps (λe w''=>∃v' ρ',e=.returned v'/\Stp (Own M ρ) (Own M' ρ') ρ ρ' w w''/\
   zB Keep M' ρ' w''/\G (λb=>Keep b∨Own M' ρ' b) (Own M' ρ') ρ' w'' r v') a'.defers .returning w':=by
  intro e E' σ ρ1 hq he hr;obtain⟨s,h1,h2⟩:=hQ e σ hq he;have hds:a'.defers=E'.ds:=hr.rel.defers;rw[hds]
  have hbase:Rel ⟨w,ρ,Keep,Own M ρ,[]⟩ σ ρ1 { tmps:=a'.tmps,defers:=[] } w':=by
   refine⟨hr.rel.size,rfl,λt s hl=>⟨(hr.rel.regs t s hl).1,?_⟩,⟨λk m hk=>(hr.rel.mem.rel k m hk).lessS λb hb=>hb.imp (hr.kp b) id,hr.rel.mem.keys,hr.rel.mem.apart,
    λb hb=>⟨(hr.rel.mem.old b hb).1,λhk=>(hr.rel.mem.old b hb).2 (hr.kp b hk)⟩,λb hb=>hr.rel.mem.kp b (hr.kp b hb),hr.rel.mem.gl⟩,hr.rel.fresh,hr.stp,hrel.keep,λk v hk=>hr.rel.low k v (by rw[hr.rho];exact hk)⟩
   exact(hr.rel.regs t s hl).2.mono (Xi _) (λb _ hn=>⟨λk=>hn (k.imp (hr.kp b) id),rfl⟩) (λb _ hn=>⟨hn,rfl⟩) λ_ _ h=>h
  refine zlX rfl E'.ds w' hbase (λd hd=>?_) hr.apart λw2 hr2=>?_
  ·obtain⟨D,e,_,hge,hh⟩:=hr.marks d hd;exact⟨D,e,hge,hh⟩
  obtain⟨v,g1,g2⟩:=h1 hr2;obtain⟨ρ',g3,g4,g5⟩:=h2 hr2 (λ_=>Qd) hρ g2;exact⟨v,g1,v,ρ',rfl,g3,g4,g5⟩
 cases e with
 |normal=>obtain⟨E',σ,ρ1,hq,hr⟩:=hq;exact fin _ E' σ ρ1 hq (λ_=>by simp) hr
 |ret=>obtain⟨E',σ,ρ1,hq,hr⟩:=hq;exact fin _ E' σ ρ1 hq (λ_=>by simp) hr
 |exit id=>obtain⟨E',σ,ρ1,hq,hr⟩:=hq;exact absurd hq (hx id σ)
 |_=>exact hq.elim
def uz(n:Nat)(hT:TOK P Γ)(hm:P.follows .mixedOrders=true){args:LQ}(hf:P.funcs[f]?=some fn)(hb:fn.body=some c)(hn:(fn.name== "runtime.NumGoroutine")=false) (hle:Nat.ble args.length fn.ntmps=true)
  (h:znF P Γ c ⟨qI 0 args,[],0,fn.ntmps,0⟩ (endF n Γ fn.results.toList r)):kK P f args [] r []:=by
 refine zrS hT hm hf hb hn hle h (λe σ hq he=>?_) (λid σ hq=>hq)
 have hq:zal σ Γ fn.results.toList λs=>LE (zh2 (zH σ.M) n s) r:=by
  cases e with
  |exit id=>exact absurd rfl (he id)
  |normal=>exact hq
  |ret=>exact hq
 obtain⟨s,hle,h1⟩:=jb hT hq;refine⟨s,h1,λ{E ρ a w v} hr hW _ hg=>⟨ρ,?_,?_,?_⟩⟩
 ·have hs:=hr.stp;exact⟨hs.os,hs.tape,hs.output,hs.size,λb hb hn=>hs.block b hb λh=>hn ((hW b).1 h),λb hb=>absurd hb zF,hs.rho⟩
 ·exact kS hr.mem.kp λ_ _ h=>hr.mem.glc h
 have hd:∀{s:SV} {v:Value},G (λb=>E.Keep b∨Own σ.M ρ b) (Own σ.M ρ) ρ w s v->D (λb=>E.Keep b∨Own [] ρ b) w (frz (zH σ.M) n s) v:=λh=>
  (zlR (λk m h=>zn h) hr.mem n h).less λb hb=>hb.resolve_right zF
 refine hle _ _ _ _ _ ?_;unfold zh2
 split
 ·rename_i cs;obtain⟨vs,rfl,hvs⟩:=hg.tup_inv;refine .tup _ vs (by rw[Xz];exact hvs.1) λj s v hs hv=>?_
  rw[XA]at hs
  cases hc:cs[j]? with
  |none=>simp[hc]at hs
  |some c=>
   simp[hc]at hs;subst hs;exact .d _ _ (hd (hvs.2 j c v hc hv))
 exact .d _ _ (hd hg)
def zlY(all:List Oper)(m:Nat):Bool:=
 let ms:=zaV all all.length
 zh8 all&&Nat.ble m all.length&&((all.take m).all λo=>o.guard.isNone)&&(List.range all.length).all λj=>Nat.blt j m||(List.range j).all λi=>(ms.getD j 0).testBit i
def zlZ{all:List Oper}{m:Nat}(h:zlY all m=true):m<=all.length/\(∀i o,i<m->all[i]?=some o->o.guard=none)/\
  (∀j o,all[j]?=some o->∀e∈o.after,Region.binds .any e=true->e.on<j)/\∀i j,m<=j->j<all.length->i<j->Anc all j i:=by
 unfold zlY at h;simp only[XC]at h;obtain⟨⟨⟨h1,h2⟩,h3⟩,h4⟩:=h;refine⟨Xx h2,λi o hi ho=>?_,λj o ho e he hb=>?_,λi j hm hj hij=>?_⟩
 ·have hmem:o∈all.take m:=Xf (i:=i) (by rw[XK,Xe hi];exact ho);have:=XV.1 h3 o hmem
  simpa using this
 ·have hjl:j<all.length:=(Xd.1 ho).1;unfold zh8 at h1;have:=XV.1 h1 j (XT.2 hjl);simp only[ho]at this;have:=XV.1 this e (by simpa using he);simp only[hb,QF,QQ]at this;exact Xx this
 have:=XV.1 h4 j (XT.2 hj)
 have hb:Nat.blt j m=false:=by
  cases hb:Nat.blt j m with
  |false=>rfl
  |true=>have:j+1<=m:=Xx hb;omega
 simp only[hb,QQ]at this;exact zcT all all.length j i hj (XV.1 this i (XT.2 hij))
def zdf{ops:List Oper}{listed:Array Bool}{i:Nat}(hsz:listed.size=ops.length):i∈Region.ready .any ops.toArray listed↔
  ∃o,ops[i]?=some o/\listed.getD i false=false/\∀e∈o.after,Region.binds .any e=true->listed.getD e.on false=true:=by
 rw[zdJ]
 have key:∀o,ops[i]?=some o->listed.getD i true=listed.getD i false:=λo ho=>by
  have:i<listed.size:=by have:=(Xd.1 ho).1;omega
  simp[Array.getD,this]
 exact⟨λ⟨o,h1,h2,h3⟩=>⟨o,h1,(key o h1) ▸ h2,h3⟩,λ⟨o,h1,h2,h3⟩=>⟨o,h1,(key o h1).symm ▸ h2,h3⟩⟩
def zpE(R:LD):LC
 |.normal,a,w=>R a w
 |_,_,_=>False
def Oper.wp_only{o:Oper}{w:World}{K K':LD}{R:LD}{Q:LC}(h:∀a w,K a w->K' a w)(hh:o.wp P a w K (zpE R)):o.wp P a w K' Q:=by
 unfold Oper.wp at*;generalize (execOp a.eval o).run P w=r at*;have no:¬LetsOut (zpE R):=λ⟨_,_,k⟩=>k
 cases r with
 |ok n w'=>
  cases n <;> simp only[Oper.upon]at hh ⊢ <;>
   first
    |exact h _ _ hh
    |exact Calls.mono hh (λe w'' he=>by cases e <;> first|exact h _ _ he|exact he.elim|exact(no he).elim)
    |exact Rows.mono hh (λ_ _ he=>h _ _ he)
 |halt x w'=>cases x <;> simp only[Oper.upon]at hh ⊢ <;> exact hh.elim
end
section
variable{F:Fence}{n:Nat}{P:Program}{all:List Oper}{Q:LC}{m:Nat}
def zBr(hedges:∀j o,all[j]?=some o->∀e∈o.after,Region.binds .any e=true->e.on<j)(hanc:∀i j,m<=j->j<all.length->i<j->Anc all j i):
  ∀(k fuel j:Nat) (la:Array Bool) (a:Act) (w:World),k=all.length-j->m<=j->j<=all.length->all.length-j<=fuel->la.size=all.length->(∀i,la.getD i false=true↔i<j)->
   wpListIn F n P all.toArray Q (all.drop j) a w->wpAnyIn F n P .any all.toArray Q fuel la a w:=by
 intro k
 induction k with
 |zero=>
  intro fuel j la a w hk hm hj hf hsz hla h;have hj:j=all.length:=oM;subst hj;rw[List.drop_length]at h;have h:Q .normal a w:=h
  have hr:Region.ready .any all.toArray la=[]:=by
   cases hr:Region.ready .any all.toArray la with
   |nil=>rfl
   |cons i r=>
    have hi:i∈Region.ready .any all.toArray la:=by rw[hr];exact .head _
    obtain⟨o,ho,h2,_⟩:=(zdf hsz).1 hi;have:=(hla i).2 (Xd.1 ho).1;rw[h2]at this;cases this
  cases fuel with
  |zero=>exact⟨hr,h⟩
  |succ fuel=>exact⟨λ_=>h,λi hi=>(by rw[hr]at hi;cases hi)⟩
 |succ k ih=>
  intro fuel j la a w hk hm hj hf hsz hla h;have hjl:j<all.length:=oM;obtain⟨o,ho⟩:∃o,all[j]?=some o:=⟨_,Xa hjl⟩
  cases fuel with
  |zero=>omega
  |succ fuel=>
  have hnot:∀i,¬i<j->la.getD i false=false:=λi hi=>by
   cases hb:la.getD i false with
   |false=>rfl
   |true=>exact absurd ((hla i).1 hb) hi
  have hready:j∈Region.ready .any all.toArray la:=(zdf hsz).2 ⟨o,ho,hnot j (YG j),λe he hb=>(hla _).2 (hedges j o ho e he hb)⟩;refine⟨λhn=>(by rw[hn]at hready;cases hready),λi hi=>?_⟩;obtain⟨oi,hoi,h2,h3⟩:=(zdf hsz).1 hi;have hil:=(Xd.1 hoi).1;have hge:¬i<j:=λhlt=>by rw[(hla i).2 hlt]at h2;cases h2
  have hij:i=j:=by
   refine Km λhne=>?_
   have hD:=hanc j i oM hil oM (λq=>la.getD q false=true) (λq oq hq hoq e he hb=>(hla _).2 (by have:=hedges q oq hoq e he hb;have:=(hla q).1 hq;omega))
    (λo' ho' e he hb=>by rw[hoi]at ho';cases ho';exact h3 e he hb)
   exact absurd ((hla j).1 hD) (YG j)
  subst hij
  have hnext:∀a w,wpListIn F n P all.toArray Q (all.drop (i+1)) a w->wpAnyIn F n P .any all.toArray Q fuel (la.setIfInBounds i true) a w:=λa w hh=>
   ih fuel (i+1) _ a w oM oM oM oM (by simpa using hsz) (λq=>by
    by_cases e:i=q
    ·subst e;have:i<la.size:=oM;simp[Array.getD,this]
    simp only[X8,KX e]
    rw[←X8,hla q];omega) hh
  rw[K5 hjl]at h;have eo:all[i]=o:=by rw[Xa hjl]at ho;exact Xl ho
  rw[eo]at h;unfold wpListIn at h;unfold wpOpIn;have ho':all.toArray[i]?=some o:=by simpa using ho
  rw[ho'];dsimp only
  split
  ·rename_i hw;rw[Xe hw]at h;exact Oper.wpIn_mono hnext h
  rename_i hw;rw[Xb hw]at h;exact⟨h.1,hnext _ _ h.2⟩
def zyw(hF:jE F)(hd:yf all=true)(ht:zlY all m=true){R:LD}(hR:∀a w,R a w->wpListIn F n P all.toArray Q (all.drop m) a w):
  ∀(fuel:Nat) (lp la:Array Bool) (a:Act) (w:World),lp.size=m->la.size=all.length->(∀i,i<m->la.getD i false=lp.getD i false)->(∀i,m<=i->la.getD i false=false)->
   Down all (λi=>la.getD i false=true)->wpAny P .any (all.take m).toArray (zpE R) fuel lp a w->lp.toList.count false<=fuel->wpAnyIn F n P .any all.toArray Q (fuel+(all.length-m)) la a w:=by
 obtain⟨hm,hgd,hedges,hanc⟩:=zlZ ht;have hlen:(all.take m).length=m:=by rw[Xv];omega
 have hto:∀{i o},(all.take m)[i]?=some o->i<m/\all[i]?=some o:=λ{i o} h=>by
  have hi:i<m:=by have:=(Xd.1 h).1;omega
  rw[XK,Xe hi]at h;exact⟨hi,h⟩
 have hback:∀{i o},i<m->all[i]?=some o->(all.take m)[i]?=some o:=λ{i o} hi h=>by rw[XK,Xe hi];exact h
 -- all of the first are listed
 have full:∀(lp la:Array Bool) (a:Act) (w:World) (fuel:Nat),la.size=all.length->(∀i,i<m->la.getD i false=lp.getD i false)->(∀i,m<=i->la.getD i false=false)->
   (∀i,i<m->lp.getD i false=true)->all.length-m<=fuel->R a w->wpAnyIn F n P .any all.toArray Q fuel la a w:=λlp la a w fuel hsz h1 h2 h3 hf hr=>
  zBr hedges hanc _ fuel m la a w rfl (Xi m) hm hf hsz (λi=>by
   by_cases hi:i<m
   ·rw[h1 i hi,h3 i hi];simp[hi]
   rw[h2 i oM];simp[hi]) (hR a w hr)
 have hdone:∀(lp:Array Bool),lp.size=m->Region.ready .any (all.take m).toArray lp=[]->∀i,i<m->lp.getD i false=true:=λlp hsz hn i=>by
  induction i using Nat.strongRecOn with
  |_ i ih=>
   intro hi
   cases hb:lp.getD i false with
   |true=>rfl
   |false=>
    obtain⟨o,ho⟩:∃o,all[i]?=some o:=⟨_,Xa (show i<all.length by omega)⟩
    have:i∈Region.ready .any (all.take m).toArray lp:=(zdf oM).2 ⟨o,hback hi ho,hb,λe he hbind=>by
     have:=hedges i o ho e he hbind
     exact ih e.on this oM⟩
    rw[hn]at this;cases this
 intro fuel
 induction fuel with
 |zero=>
  intro lp la a w hsp hsa h1 h2 hD h hc;refine full lp la a w _ hsa h1 h2 (λi hi=>?_) oM h.2;have hi':i<lp.size:=oM
  cases hb:lp.getD i false with
  |true=>rfl
  |false=>
   have:false∈lp.toList:=by
    simp[Array.getD,hi']at hb;rw[←hb];simp
   have:=Jg.2 this;omega
 |succ fuel ih=>
  intro lp la a w hsp hsa h1 h2 hD h hc
  cases hr:Region.ready .any (all.take m).toArray lp with
  |nil=>exact full lp la a w _ hsa h1 h2 (hdone lp hsp hr) oM (h.1 hr)
  |cons i0 r0=>
  have hi0:i0∈Region.ready .any (all.take m).toArray lp:=by rw[hr];exact .head _
  obtain⟨o0,ho0,hl0,he0⟩:=(zdf oM).1 hi0;obtain⟨hlt0,ho0⟩:=hto ho0;rw[show fuel+1+(all.length-m)=(fuel+(all.length-m))+1 by omega]
  have up:∀{i o},i<m->all[i]?=some o->(∀e∈o.after,Region.binds .any e=true->lp.getD e.on false=true)->∀e∈o.after,Region.binds .any e=true->la.getD e.on false=true:=λ{i o} hi ho hh e he hb=>by
   rw[h1 _ (by have:=hedges i o ho e he hb;omega)];exact hh e he hb
  refine⟨λhn=>?_,λi hi=>?_⟩
  ·have:i0∈Region.ready .any all.toArray la:=(zdf hsa).2 ⟨o0,ho0,by rw[h1 _ hlt0];exact hl0,up hlt0 ho0 he0⟩;rw[hn]at this;cases this
  obtain⟨o,ho,hl,he⟩:=(zdf hsa).1 hi;have hil:=(Xd.1 ho).1
  have him:i<m:=by
   refine Km λhge=>?_
   have:=hanc i0 i oM hil oM _ hD λo' ho' e he' hb=>by rw[ho]at ho';cases ho';exact he e he' hb
   rw[h1 _ hlt0,hl0]at this;cases this
  have hip:i∈Region.ready .any (all.take m).toArray lp:=(zdf oM).2 ⟨o,hback him ho,by rw[←h1 _ him];exact hl,λe he' hb=>by
   rw[←h1 _ (by have:=hedges i o ho e he' hb;omega)];exact he e he' hb⟩
  have hop:=h.2 i hip;have hi':i<lp.size:=oM;have hjf:lp[i]=false:=by have:=h1 i him;rw[hl]at this;simpa[Array.getD,hi'] using this.symm
  have hnext:∀a w,wpAny P .any (all.take m).toArray (zpE R) fuel (lp.setIfInBounds i true) a w->wpAnyIn F n P .any all.toArray Q (fuel+(all.length-m)) (la.setIfInBounds i true) a w:=λa w hh=>by
   have set1:∀(A:Array Bool) (q:Nat),i<A.size->((A.setIfInBounds i true).getD q false=true↔q=i∨A.getD q false=true):=λA q hA=>by
    by_cases e:i=q
    ·subst e;simp[Array.getD,hA]
    simp only[X8,KX e];exact⟨.inr,λh=>h.resolve_left λk=>e k.symm⟩
   refine ih _ _ a w (by simpa using hsp) (by simpa using hsa) (λq hq=>?_) (λq hq=>?_) (λq oq hq hoq e he' hb=>?_) hh ?_
   ·have e1:=set1 lp q hi';have e2:=set1 la q oM;rw[h1 q hq,←e1]at e2;exact QA.2 e2
   ·have hne:i≠q:=by omega
    simp only[X8,KX hne];rw[←X8];exact h2 q hq
   ·refine(set1 la _ oM).2 (.inr ?_)
    rcases(set1 la q oM).1 hq with rfl|hq
    ·rw[ho]at hoq;cases hoq;exact he e he' hb
    exact hD q oq hq hoq e he' hb
   have hmem:false∈lp.toList:=by rw[←hjf];simp
   have hpos:=Jg.2 hmem
   have:(lp.setIfInBounds i true).toList.count false=lp.toList.count false-1:=by
    rw[QU,List.count_set (by simpa using hi')];simp[hjf]
   omega
  have hg:=hgd i o him ho;have hw:∀y,Region.wanted o y=true:=λy=>by unfold Region.wanted;rw[hg]
  have hop':(all.take m).toArray[i]?=some o:=by simpa using hback him ho
  have ho':all.toArray[i]?=some o:=by simpa using ho
  unfold wpOp at hop;unfold wpOpIn;rw[hop']at hop;rw[ho'];dsimp only at hop ⊢;rw[Xe (hw _)]at hop ⊢;have hop:=hop.resolve_right λk=>by obtain⟨_,_,_,k⟩:=k;exact k
  exact hF.op (zjN hd (o:=o) (Xf ho)) (Oper.wp_only hnext hop)
def zpF(hF:jE F)(hm:P.follows .mixedOrders=true){Γ:LS}(hT:TOK P Γ){E:Env}{id:Nat}{ops:Array Oper}{K:St->Prop}{σ:St}{ρ:ze}{a:Act}{w:World}(hd:yf ops.toList=true)(ht:zlY ops.toList m=true)(hr:Rel E σ ρ a w)(hord:uD (ops.toList.take m)=true)(h:uu P Γ true (ops.toList.take m) (ops.toList.take m) 0 σ K)(hK:∀σ ρ a w,K σ->Rel E σ ρ a w->wpListIn F n P ops Q (ops.toList.drop m) a w):(Code.region id ops true).wpIn F n P Q a w:=by
 have hml:=(zlZ ht).1;have hpre:=zcV (Q:=zpE λa w=>wpListIn F n P ops Q (ops.toList.drop m) a w) (ops:=(ops.toList.take m).toArray) hT hr (by simpa using hord) (by simpa using h) hK
 have hsz:(ops.toList.take m).toArray.size=m:=by
  have:ops.toList.length=ops.size:=by simp
  simp only[KU,Xv];omega
 rw[hsz]at hpre;refine wpIn_region_any hm ?_
 have:=zyw (F:=F) (n:=n) (Q:=Q) hF hd ht (R:=λa w=>wpListIn F n P ops Q (ops.toList.drop m) a w) (λa w h=>by simpa using h) m (Array.replicate m false) (Array.replicate ops.size false) a _ sI sI
  (λi hi=>by simp[Array.getD]) (λi hi=>by simp[Array.getD]) (λi o hi=>by simp[Array.getD]at hi) hpre sI
 rw[show m+(ops.toList.length-m)=ops.size by
  have:ops.toList.length=ops.size:=by simp
  omega]at this
 simpa using this
end
def isY(L:LP)(o:Oper):Bool:=
 match o.op with
 |.call c=>(match c.callee with
  |.value (.tmp t)=>(match z6 L t with
   |some (.val (.func (.yield _) _ _))=>true
   |_=>false)
  |_=>false)
 |_=>false
def zcb:LP->LP
 |[]=>[]
 |(t,s)::r=>match pfS s with
  |true=>(t,s)::zcb r
  |false=>(t,.junk)::zcb r
def ze1:∀{L:LP} {t:Nat} {s:SV},z6 (zcb L) t=some s->s=.junk∨(z6 L t=some s/\pfS s=true)
 |[],_,_,h=>by cases h
 |(k,s0)::r,t,s,h=>by
  unfold zcb at h;rw[zK]
  split at h
  ·rename_i hp;rw[zK]at h
   by_cases e:k=t
   ·rw[Xe e]at h ⊢;cases h;exact .inr ⟨rfl,hp⟩
   rw[Xb e]at h ⊢;exact ze1 h
  rw[zK]at h
  by_cases e:k=t
  ·rw[Xe e]at h;cases h;exact .inl rfl
  rw[Xb e]at h ⊢;exact ze1 h
def zvz{L:LP}{t:Nat}{s:SV}(h:z6 (zcb L) t=some s):∃s',z6 L t=some s':=by
 induction L with
 |nil=>cases h
 |cons p r ih=>
  obtain⟨k,s0⟩:=p;rw[zK]
  by_cases e:k=t
  ·rw[Xe e];exact⟨_,rfl⟩
  rw[Xb e];refine ih ?_;unfold zcb at h
  split at h <;> (rw[zK,Xb e]at h;exact h)
def St.yput(σ:St)(d:Option Tmp)(s:SV):St:=⟨putL (zcb σ.L) d s,σ.M,σ.nk,σ.nt,σ.n0⟩
def zrT(all:List Oper)(o:Oper)(σ:St)(run skip:St->Prop):Prop:=
 match o.guard with
 |none=>run σ
 |some (j,want)=>(match zcI all j with
  |none=>False
  |some t=>(match z6 σ.L t with
   |some (.val (.bool true))=>(match want with
    |true=>run σ
    |false=>skip σ)
   |some (.val (.bool false))=>(match want with
    |false=>run σ
    |true=>skip σ)
   |some (.pr p _)=>(match want with
    |true=>Br (p->run (σ.put (some t) (.val (.bool true)))) (¬p->skip (σ.put (some t) (.val (.bool false))))
    |false=>Br (p->skip (σ.put (some t) (.val (.bool true)))) (¬p->run (σ.put (some t) (.val (.bool false)))))
   |some (.val (.tuple _))=>skip σ
   |_=>False))
def zpG{all:List Oper}{o:Oper}{σ:St}{run skip:St->Prop}(h:zrT all o σ run skip){E:Env}{ρ:ze}{a:Act}{w:World}(hr:Rel E σ ρ a w):
  ∃σ' b,qB all σ' o b/\Rel E σ' ρ a w/\(σ'.M=σ.M/\σ'.nt=σ.nt)/\((b=true/\run σ')∨(b=false/\skip σ')):=by
 unfold zrT at h
 split at h
 ·rename_i hg;exact⟨σ,true,by simp[qB,hg],hr,⟨rfl,rfl⟩,.inl ⟨rfl,h⟩⟩
 rename_i j want hg
 split at h
 ·exact h.elim
 rename_i t ht
 have gv:∀{σ':St} {v:Value},z6 σ'.L t=some (.val v)->qB all σ' o (zsX v want):=λhl=>by
  unfold qB;rw[hg];exact⟨t,_,ht,hl,rfl⟩
 have gi:∀{σ':St} {b:Bool},z6 σ'.L t=some (.val (.bool b))->qB all σ' o (b==want):=λhl=>gv hl
 have put_look:∀(s1:SV),z6 (σ.put (some t) s1).L t=some s1:=λs1=>by
  show z6 ((t,s1)::σ.L) t=some s1;rw[zK];simp
 split at h
 ·rename_i hl
  split at h
  ·exact⟨σ,_,gi hl,hr,⟨rfl,rfl⟩,.inl ⟨rfl,h⟩⟩
  exact⟨σ,_,gi hl,hr,⟨rfl,rfl⟩,.inr ⟨rfl,h⟩⟩
 ·rename_i hl
  split at h
  ·exact⟨σ,_,gi hl,hr,⟨rfl,rfl⟩,.inl ⟨rfl,h⟩⟩
  exact⟨σ,_,gi hl,hr,⟨rfl,rfl⟩,.inr ⟨rfl,h⟩⟩
 ·rename_i p ip hl
  by_cases hp:p
  ·have hr':=hr.refine hl (zbV hp)
   split at h
   ·exact⟨_,_,gi (put_look _),hr',⟨rfl,rfl⟩,.inl ⟨rfl,h.yes hp⟩⟩
   exact⟨_,_,gi (put_look _),hr',⟨rfl,rfl⟩,.inr ⟨rfl,h.yes hp⟩⟩
  have hr':=hr.refine hl (zaq hp)
  split at h
  ·exact⟨_,_,gi (put_look _),hr',⟨rfl,rfl⟩,.inr ⟨rfl,h.no hp⟩⟩
  exact⟨_,_,gi (put_look _),hr',⟨rfl,rfl⟩,.inl ⟨rfl,h.no hp⟩⟩
 ·rename_i hl;exact⟨σ,_,gv hl,hr,⟨rfl,rfl⟩,.inr ⟨rfl,h⟩⟩
 exact h.elim
def yIs(L:LP)(c:Call)(l:Nat):Prop:=
 match c.callee with
 |.value (.tmp t)=>z6 L t=some (.val (.func (.yield l) #[] #[]))
 |_=>False
def zyx(l:Nat){α:Type}(enc:α->LQ)(xs:List α)(o:Oper)(σ:St)(i:Nat)(b:Bool)(K:St->Nat->Bool->Prop):Prop:=
 match o.op with
 |.call c=>(match b with
  |true=>False
  |false=>evs σ.L c.args.toList λsvs=>yIs σ.L c l/\∃x,xs[i]?=some x/\yH.scalars (enc x)=true/\LEs svs (enc x)/\zjO σ.M/\
   zla o.dst σ.nt (Br (K (σ.yput o.dst (.val (.bool true))) (i+1) false) (K (σ.yput o.dst (.val (.bool false))) i true)))
 |_=>False
def zdg(P:Program)(Γ:LS)(l:Nat){α:Type}(enc:α->LQ)(xs:List α)(all r:List Oper):Nat->St->Nat->Bool->(St->Nat->Bool->Prop)->Prop:=
 List.rec (motive:=λ_=>Nat->St->Nat->Bool->(St->Nat->Bool->Prop)->Prop) (λ_ σ i b K=>K σ i b) (λo _ ih j σ i b K=>match isY σ.L o with
  |false=>uu P Γ false all [o] j σ λσ'=>ih (j+1) σ' i b K
  |true=>zrT all o σ (λσ'=>zyx l enc xs o σ' i b λσ' i b=>ih (j+1) σ' i b K) (λσ'=>vK o σ' λσ'=>ih (j+1) σ' i b K)) r
inductive YDr (A:Prop) (B:LG):Prop
 |plain (h:A)
 |split (m:Nat) (h:B m)
def zyy(P:Program)(Γ:LS)(l:Nat){α:Type}(enc:α->LQ)(xs:List α)(c:Code):St->Nat->Bool->(Ex->St->Nat->Bool->Prop)->Prop:=
 Code.rec (motive:=λ_=>St->Nat->Bool->(Ex->St->Nat->Bool->Prop)->Prop)
  (λσ i b Q=>Q .normal σ i b)
  (λid ops draw σ i b Q=>match yf ops.toList with
   |false=>False
   |true=>match draw with
   |false=>zdg P Γ l enc xs ops.toList ops.toList 0 σ i b (Q .normal)
   |true=>YDr (qS P Γ (.region id ops true) σ λe σ=>(match e with
    |.normal=>Q .normal σ i b
    |_=>False)) λm=>Ob (jN (yf ops.toList) (jN (zlY ops.toList m) (uD (ops.toList.take m)))=true)
     (uu P Γ true (ops.toList.take m) (ops.toList.take m) 0 σ λσ=>zdg P Γ l enc xs ops.toList (ops.toList.drop m) m σ i b (Q .normal)))
  (λ_ _ ha hb σ i b Q=>ha σ i b λe σ i b=>(match e with
   |.normal=>hb σ i b Q
   |.exit id=>Q (.exit id) σ i b
   |.ret=>Q .ret σ i b))
  (λc _ _ hx hy σ i b Q=>ev σ.L c λc=>(match c with
   |.val (.bool true)=>hx σ i b Q
   |.val (.bool false)=>hy σ i b Q
   |.pr p _=>Br (p->hx σ i b Q) (¬p->hy σ i b Q)
   |.anyb=>Br (hx σ i b Q) (hy σ i b Q)
   |_=>False))
  (λid _ hc σ i b Q=>hc σ i b λe σ i b=>(match e with
   |.normal=>Q .normal σ i b
   |.exit j=>(match Nat.beq j id with
    |true=>Q .normal σ i b
    |false=>Q (.exit j) σ i b)
   |.ret=>Q .ret σ i b))
  (λ_ hc σ i b Q=>∃(ι:Type) (S:ι->St) (T:ι->Nat) (I:ι->Prop) (μ:ι->Nat) (x0:ι),I x0/\Sub σ (S x0)/\i=T x0/\b=false/\
   ∀x,I x->hc (S x) (T x) false λe σ' i' b'=>(match e with
    |.normal=>∃x',I x'/\Sub σ' (S x')/\i'=T x'/\b'=false/\μ x'<μ x
    |.exit id=>Q (.exit id) σ' i' b'
    |.ret=>Q .ret σ' i' b'))
  (λ_ _ _ _ _ _ _ _ _ _=>False)
  (λid σ i b Q=>Q (.exit id) σ i b)
  (λ_ _ _ _ _ _=>False)
  (λ_ σ i b Q=>Q .normal σ i b)
  (λ_ _ _ _ _=>False)
  (λσ i b Q=>Q .ret σ i b)
  (λ_ _ _ _ _=>False)
  c
section it
variable{P:Program}{Γ:LS}{α:Type}{enc:α->LQ}{xs:List α}{l:Nat}{J:Nat->LG->LG->World->Prop}{Jx:LG->LG->World->Prop}
section
def Jt(J:Nat->LG->LG->World->Prop)(Jx:LG->LG->World->Prop)(i:Nat)(b:Bool):LG->LG->World->Prop:=
 match b with
 |false=>J i
 |true=>Jx
structure RI (J:Nat->LG->LG->World->Prop) (Jx:LG->LG->World->Prop) (E:Env) (SA SB:LG) (σ:St) (i:Nat) (b:Bool) (ρ:ze) (a:Act) (w:World):Prop where
 rel:Rel E σ ρ a w
 ds:E.ds=[]
 sa:∀b,SA b->E.Keep b
 sb:∀b,Own σ.M ρ b->SB b
 dj:∀b,SB b->¬SA b/\b<w.heap.size
 lt:∀b,SA b->b<w.heap.size
 j:Jt J Jx i b SA SB w
def zpH(J:Nat->LG->LG->World->Prop)(Jx:LG->LG->World->Prop)(Q:Ex->St->Nat->Bool->Prop):LC
 |.normal,a,w=>∃E SA SB σ i b ρ,Q .normal σ i b/\RI J Jx E SA SB σ i b ρ a w
 |.exit id,a,w=>∃E SA SB σ i b ρ,Q (.exit id) σ i b/\RI J Jx E SA SB σ i b ρ a w
 |.ret,a,w=>∃E SA SB σ i b ρ,Q .ret σ i b/\RI J Jx E SA SB σ i b ρ a w
 |_,_,_=>False
variable{E:Env}{SA:LG}{SB:LG}{σ:St}{σ':St}{i:Nat}{b:Bool}{ρ:ze}{a:Act}{w':World}
def RI.next{ρ':ze}{a':Act}{w:World}(hS:∀i b SA SB SB' W W',Jt J Jx i b SA SB W->Mv SB SB' W W'->(∀b,SB' b->¬SA b/\b<W'.heap.size)->Jt J Jx i b SA SB' W')(h:RI J Jx E SA SB σ i b ρ a w)(h':Rel ⟨w,E.ρ0,E.Keep,Own σ.M ρ,E.ds⟩ σ' ρ' a' w'):RI J Jx ⟨w,E.ρ0,E.Keep,Own σ.M ρ,E.ds⟩ SA (λb=>SB b∨Own σ'.M ρ' b) σ' i b ρ' a' w':=by
 have hs:=h'.stp
 have hdj:∀b,(SB b∨Own σ'.M ρ' b)->¬SA b/\b<w'.heap.size:=λb hb=>hb.elim (λhb=>⟨(h.dj b hb).1,Xy (h.dj b hb).2 hs.size⟩)
  λho=>⟨λhk=>(h'.mem.old b ho).2 (h.sa b hk),(h'.mem.old b ho).1⟩
 refine⟨h',h.ds,h.sa,λ_ hb=>.inr hb,hdj,λb hb=>Xy (h.lt b hb) hs.size,hS i b SA SB _ w w' h.j ⟨⟨hs.os,hs.tape,hs.output,hs.size,λb hb hn=>hs.block b hb λho=>hn (h.sb b ho),λb hb=>?_,λ_ _ h=>h⟩,λg v hg _=>h'.mem.glc hg⟩ hdj⟩;exact hb.elim .inl λho=>(hs.own b ho).imp (h.sb b) id
def RI.sub{w:World}(hS:∀i b SA SB SB' W W',Jt J Jx i b SA SB W->Mv SB SB' W W'->(∀b,SB' b->¬SA b/\b<W'.heap.size)->Jt J Jx i b SA SB' W')(h:RI J Jx E SA SB σ i b ρ a w)(hs:Sub σ σ'):∃E SB ρ,RI J Jx E SA SB σ' i b ρ a w:=by
 obtain⟨ρ',hr⟩:=hs _ ρ a w h.rel.cut;exact⟨_,_,ρ',h.next hS hr⟩
def zvA{o:Oper}{c:Call}{t:Nat}(ho:o.op=.call c)(hc:c.callee=.value (.tmp t)){w:World}(hf:a.eval (.tmp t)=.func (.yield l) #[] #[]){n:Next}{args:LZ}(ha:c.args.toList.map a.eval=args)(h:(Instr.yield l (List.toArray args)).run P w=.ok n w')(ro:LI):(o.semAt ro a.eval).run P w=.ok n w':=by
 rw[Oper.semAt_eq _ _ _ (by rw[ho];intro c h;cases h)];have hmap:c.args.map a.eval=List.toArray args:=by apply QT;simp[ha]
 simp only[execOp,ho,resolve,hc,hf,hmap,Deferred.ofValue,invoke,Sem.run_bind,Sem.run_pure,Result.andThen_ok]
 simpa using h
end
end it
section it
variable{P:Program}{Γ:LS}{α:Type}{enc:α->LQ}{xs:List α}{l:Nat}{J:Nat->LG->LG->World->Prop}{Jx:LG->LG->World->Prop}
def zjQ(J:Nat->LG->LG->World->Prop)(Jx:LG->LG->World->Prop):Prop:=
 ∀i b SA SB SB' W W',Jt J Jx i b SA SB W->Mv SB SB' W W'->(∀b,SB' b->¬SA b/\b<W'.heap.size)->Jt J Jx i b SA SB' W'
def zgY(P:Program)(l:Nat)(enc:α->LQ)(xs:List α)(J:Nat->LG->LG->World->Prop)(Jx:LG->LG->World->Prop):Prop:=
 ∀i x SA SB W args,xs[i]?=some x->J i SA SB W->(∀b,SA b->b<W.heap.size)->(∀b,SB b->¬SA b/\b<W.heap.size)->(∀S,Ds S W (enc x) args)->
  YieldAt Fence.wide 0 P l (List.toArray args) W λe W'=>∃SA':LG,Mv SA SA' W W'/\(∀b,SA' b->¬SB b/\b<W'.heap.size)/\
   ((e=.returned (.bool true)/\J (i+1) SA' SB W')∨(e=.returned (.bool false)/\Jx SA' SB W'))
def zyz{L:LP}{o:Oper}(h:isY L o=true):∃c t l' a b,o.op=.call c/\c.callee=.value (.tmp t)/\z6 L t=some (.val (.func (.yield l') a b)):=by
 unfold isY at h
 split at h
 ·rename_i c hc
  split at h
  ·rename_i t ht
   split at h
   ·rename_i l' a b hl;exact⟨c,t,l',a,b,hc,ht,hl⟩
   cases h
  cases h
 cases h
def zvB{S S' Pm:LG}{ρ:ze}{w w':World}{svs:LQ}{vs:LZ}(hs:yH.scalars svs=true)(h:Gs S Pm ρ w svs vs):Ds S' w' svs vs:=
 ⟨h.1,λj s v h1 h2=>u4 (ua hs j s h1) (h.2 j s v h1 h2)⟩
def jE.round{F:Fence}(h:jE F){n:Nat}{f:FuncId}{tmps:Array Value}{assign body:Code}{w:World}{R:Ending->World->Prop}(hr:RoundIn Fence.wide 0 P l f tmps assign body w R):RoundIn F n P l f tmps assign body w R:=
 ⟨h.fn f,λc cs _=>let ⟨e,w',r,s⟩:=hr.2 c cs (room_wide _);⟨e,w',r,h.comes (comesIn_wide.1 s)⟩⟩
def zl0{F:Fence}(hF:jE F){n:Nat}(hT:TOK P Γ)(hS:zjQ J Jx)(hY:zgY P l enc xs J Jx){all:List Oper}{Q:Ex->St->Nat->Bool->Prop}:∀{r:List Oper} {j:Nat} {E:Env} {SA SB:LG} {σ:St} {i:Nat} {b:Bool} {ρ:ze} {a:Act} {w:World},yf r=true->RI J Jx E SA SB σ i b ρ a w->
   zdg P Γ l enc xs all r j σ i b (Q .normal)->wpListIn F n P all.toArray (zpH J Jx Q) r a w
 |[],j,E,SA,SB,σ,i,b,ρ,a,w,_,hr,h=>⟨E,SA,SB,σ,i,b,ρ,h,hr⟩
 |o::r,j,E,SA,SB,σ,i,b,ρ,a,w,hd,hr,h=>by
  have hd':zpB o=true/\yf r=true:=by unfold yf at hd ⊢;rw[YF,XC]at hd;exact hd
  simp only[zdg]at h
  split at h
  ·-- an operation like any other
   obtain⟨σ',run,svs,s,md,h1,hg,href,hdst,hrun⟩:=zfy hT hr.rel h;have h1:zdg P Γ l enc xs all r (j+1) (σ'.app o.dst s md) i b (Q .normal):=h1
   have hr':Rel E σ' ρ a w:=by
    rcases href with rfl|⟨t,s0,s1,h2,h3,rfl⟩
    ·exact hr.rel
    exact hr.rel.refine h2 h3
   have hnt:σ'.nt=σ.nt:=by rcases href with rfl|⟨t,s0,s1,h2,h3,rfl⟩ <;> rfl
   have hM:σ'.M=σ.M:=by rcases href with rfl|⟨t,s0,s1,h2,h3,rfl⟩ <;> rfl
   have hri:RI J Jx E SA SB σ' i b ρ a w:=⟨hr',hr.ds,hr.sa,λb hb=>hr.sb b (hM ▸ hb),hr.dj,hr.lt,hr.j⟩;have hcut:=hr'.cut;unfold wpListIn;rw[hr'.wanted hg]
   obtain⟨rfl,hst⟩|⟨rfl,rfl,rfl⟩:=hrun
   ·simp only[if_true];refine hF.op (ze0 hd'.1) ((hst.does hcut).wp λv w' ha=>?_);obtain⟨ρ',hrel⟩:=hcut.app (λt e=>hnt ▸ hdst t e) ha;exact zl0 hF hT hS hY hd'.2 (hri.next hS hrel) h1
   simp only[KC,if_false];obtain⟨ρ',hrel⟩:=hcut.app (λt e=>hnt ▸ hdst t e) (ub hcut.mem);exact⟨λf _=>hF.fn f,zl0 hF hT hS hY hd'.2 (hri.next hS hrel) h1⟩
  -- the call of yield
  rename_i hy;obtain⟨c,t,l',x0,y0,ho,hc,hlk⟩:=zyz hy;obtain⟨σ',run,hg,hr',⟨hM,hnt⟩,hrun⟩:=zpG h hr.rel;have hri:RI J Jx E SA SB σ' i b ρ a w:=⟨hr',hr.ds,hr.sa,λb hb=>hr.sb b (hM ▸ hb),hr.dj,hr.lt,hr.j⟩;unfold wpListIn;rw[hr'.wanted hg]
  obtain⟨rfl,hgo⟩|⟨rfl,hskip⟩:=hrun
  ·simp only[if_true];unfold zyx at hgo;rw[ho]at hgo;dsimp only at hgo
   cases b with
   |true=>exact hgo.elim
   |false=>
    dsimp only at hgo;obtain⟨svs,hgo,hev⟩:=zfw hgo;obtain⟨hyl,x,hx,hsc,hle,hpM,hgo⟩:=hgo;have hyl:z6 σ'.L t=some (.val (.func (.yield l) #[] #[])):=by unfold yIs at hyl;rw[hc]at hyl;exact hyl
    have hval:=(hr'.regs t _ hyl).2.val_inv;obtain⟨hdst,hgo⟩:=k9 hgo;have hgs:=hev (a:=a) (λt s _ hl=>(hr'.regs t s hl).2);have hargs:∀S,Ds S w (enc x) (c.args.toList.map a.eval):=λS=>zvB hsc (hle.gs hgs)
    obtain⟨fn,tmps,assign,body,hrun,hR⟩:=hY i x SA SB w _ hx hr.j hr.lt hr.dj hargs;refine⟨λf _=>hF.fn f,?_⟩;rw[zvA ho hc hval rfl hrun];refine⟨hF.need,(hF.round hR).mono ?_⟩
    rintro e W' ⟨SA',hmv,hdis,hres⟩
    have fin:∀(v:Bool) (i':Nat) (b':Bool),Jt J Jx i' b' SA' SB W'->zdg P Γ l enc xs all r (j+1) (σ'.yput o.dst (.val (.bool v))) i' b' (Q .normal)->
      wpListIn F n P all.toArray (zpH J Jx Q) r (a.put o.dst (.bool v)) W':=by
     intro v i' b' hj hvc
     have hno:∀b,b<w.heap.size->¬(E.Keep b∨Own σ'.M ρ b)->¬((E.Keep b∨SA' b)∨Own σ'.M ρ b)/\W'.heap[b]?=w.heap[b]? :=λb hb hn=>
      ⟨λhk=>hk.elim (λhk=>hk.elim (λhk=>hn (.inl hk)) λhs=>(hmv.own b hs).elim (λh=>hn (.inl (hr.sa b h))) λhge=>by omega) λho=>hn (.inr ho),hmv.block b hb λhs=>hn (.inl (hr.sa b hs))⟩
     have hcl:∀t s,z6 (zcb σ'.L) t=some s->t<σ'.nt/\G (λb=>(E.Keep b∨SA' b)∨Own σ'.M ρ b) (Own σ'.M ρ) ρ W' s (a.tmps.getD t undef):=λt s hlk=>by
      obtain⟨s',hl'⟩:=zvz hlk;refine⟨(hr'.regs t s' hl').1,?_⟩
      rcases ze1 hlk with rfl|⟨h1,h2⟩
      ·exact .d _ _ (.junk _)
      exact(hr'.regs t s h1).2.pf hmv.size hno h2
     have hmem:zB (λb=>E.Keep b∨SA' b) σ'.M ρ W':=
      (hr'.mem.few (K':=λb=>E.Keep b∨SA b) hpM λb hb=>hb.elim id (hr.sa b)).other hpM hmv λb hb=>⟨λho=>(hdis b hb).1 (hri.sb b ho),(hdis b hb).2⟩
     have hrel:Rel ⟨W',E.ρ0,λb=>E.Keep b∨SA' b,Own σ'.M ρ,E.ds⟩ (σ'.yput o.dst (.val (.bool v))) ρ (a.put o.dst (.bool v)) W':=by
      refine⟨?_,?_,λt s hlk=>?_,hmem,hr'.fresh,⟨rfl,rfl,.refl _,Xi _,λ_ _ _=>rfl,λ_ h=>.inl h,hr'.stp.rho⟩,hmem.kp,hr'.low⟩
      ·have:=hr'.size
       cases hd0:o.dst <;> simpa[Act.put,St.yput] using this
      ·have:=hr'.defers
       cases hd0:o.dst <;> simpa[Act.put] using this
      cases hd0:o.dst with
      |none=>
       rw[hd0]at hlk;exact hcl t s hlk
      |some d=>
       rw[hd0]at hlk;have hlk:z6 ((d,.val (.bool v))::zcb σ'.L) t=some s:=hlk;rw[zK]at hlk;have hdlt:d<a.tmps.size:=by rw[hr'.size];exact hdst d hd0
       by_cases e:d=t
       ·rw[Xe e]at hlk
        cases hlk
        refine⟨e ▸ hdst d hd0,?_⟩;rw[zfx hdlt,Xe e];exact .d _ _ (.val _)
       rw[Xb e]at hlk;rw[zfx hdlt,Xb e];exact hcl t s hlk
     refine zl0 hF hT hS hY hd'.2 ⟨hrel,hr.ds,λb hb=>.inr hb,hri.sb,λb hb=>⟨λhs=>(hdis b hs).1 hb,Xy (hr.dj b hb).2 hmv.size⟩,λb hb=>(hdis b hb).2,hj⟩ hvc
    obtain⟨rfl,hj⟩|⟨rfl,hj⟩:=hres
    ·exact fin true (i+1) false hj hgo.yes
    exact fin false i true hj hgo.no
  simp only[KC,if_false];unfold vK at hskip;obtain⟨hdst,hskip⟩:=k9 hskip;have hcut:=hr'.cut;obtain⟨ρ',hrel⟩:=hcut.app hdst (ub hcut.mem);exact⟨λf _=>hF.fn f,zl0 hF hT hS hY hd'.2 (hri.next hS hrel) hskip⟩
def uk{F:Fence}(hF:jE F){n:Nat}(hT:TOK P Γ)(hm:P.follows .mixedOrders=true)(hS:zjQ J Jx)(hY:zgY P l enc xs J Jx):
  ∀(c:Code) {E:Env} {SA SB:LG} {σ:St} {i:Nat} {b:Bool} {Q:Ex->St->Nat->Bool->Prop} {ρ:ze} {a:Act} {w:World},
   RI J Jx E SA SB σ i b ρ a w->zyy P Γ l enc xs c σ i b Q->c.wpIn F n P (zpH J Jx Q) a w
 |.skip,E,SA,SB,σ,i,b,Q,ρ,a,w,hr,h=>wpIn_skip ⟨E,SA,SB,σ,i,b,ρ,h,hr⟩
 |.region id ops draw,E,SA,SB,σ,i,b,Q,ρ,a,w,hr,h=>by
  cases draw with
  |false=>
   have h:(match yf ops.toList with|false=>False|true=>zdg P Γ l enc xs ops.toList ops.toList 0 σ i b (Q .normal)):=h
   split at h
   ·exact h.elim
   rename_i hd;refine wpIn_region_list ?_;have:=zl0 (n:=n) hF hT hS hY hd hr h
   simpa using this
  |true=>
   have h:(match yf ops.toList with|false=>False|true=>YDr (qS P Γ (.region id ops true) σ (λe σ=>match e with|.normal=>Q .normal σ i b|_=>False)) (λm=>Ob (jN (yf ops.toList) (jN (zlY ops.toList m) (uD (ops.toList.take m)))=true)
     (uu P Γ true (ops.toList.take m) (ops.toList.take m) 0 σ λσ=>zdg P Γ l enc xs ops.toList (ops.toList.drop m) m σ i b (Q .normal)))):=h
   split at h
   ·exact h.elim
   rename_i hd0
   rcases h with h|⟨m,h⟩
   ·refine wpIn_mono (zlS hF hT hm hd0 hr.rel.cut h) (λe a' w' hq=>?_)
    cases e with
    |normal=>obtain⟨σ',ρ',hq,hr'⟩:=hq;exact⟨_,SA,_,σ',i,b,ρ',hq,hr.next hS hr'⟩
    |exit id=>obtain⟨σ',ρ',hq,hr'⟩:=hq;exact hq.elim
    |ret=>obtain⟨σ',ρ',hq,hr'⟩:=hq;exact hq.elim
    |_=>exact hq.elim
   obtain⟨hc,h⟩:=h;obtain⟨hd,hc⟩:=zZ hc;obtain⟨ht,hord⟩:=zZ hc;refine zpF hF hm hT hd ht hr.rel.cut hord h λσ' ρ' a' w' hk hr'=>?_
   have hd':yf (ops.toList.drop m)=true:=XV.2 λo ho=>XV.1 hd o (KZ ho)
   have:=zl0 (n:=n) hF hT hS hY hd' (hr.next hS hr') hk
   simpa using this
 |.seq x y,E,SA,SB,σ,i,b,Q,ρ,a,w,hr,h=>by
  refine wpIn_seq (wpIn_mono (uk hF hT hm hS hY x hr h) (λe a' w' hq=>?_))
  cases e with
  |normal=>obtain⟨E',SA',SB',σ',i',b',ρ',h',hr'⟩:=hq;exact uk hF hT hm hS hY y hr' h'
  |exit id=>exact hq
  |ret=>exact hq
  |_=>exact hq.elim
 |.cond c x y,E,SA,SB,σ,i,b,Q,ρ,a,w,hr,h=>by
  obtain⟨s,h,hs⟩:=zbU h;have hg:=hs (a:=a) (λt s _ hl=>(hr.rel.regs t s hl).2)
  split at h
  ·exact wpIn_cond_true hg.val_inv (uk hF hT hm hS hY x hr h)
  ·exact wpIn_cond_false hg.val_inv (uk hF hT hm hS hY y hr h)
  ·rename_i p ip
   by_cases hp:p
   ·exact wpIn_cond_true (by rw[hg.pr_inv];simp[hp]) (uk hF hT hm hS hY x hr (h.yes hp))
   exact wpIn_cond_false (by rw[hg.pr_inv];simp[hp]) (uk hF hT hm hS hY y hr (h.no hp))
  ·obtain⟨b',hb⟩:=hg.anyb_inv
   cases b' with
   |true=>exact wpIn_cond_true hb (uk hF hT hm hS hY x hr h.yes)
   |false=>exact wpIn_cond_false hb (uk hF hT hm hS hY y hr h.no)
  exact h.elim
 |.block id c,E,SA,SB,σ,i,b,Q,ρ,a,w,hr,h=>by
  refine wpIn_block (wpIn_mono (uk hF hT hm hS hY c hr h) (λe a' w' hq=>?_))
  cases e with
  |normal=>exact hq
  |exit j=>
   obtain⟨E',SA',SB',σ',i',b',ρ',h',hr'⟩:=hq;dsimp only at h';show(if j=id then zpH J Jx Q .normal a' w' else zpH J Jx Q (.exit j) a' w')
   split at h'
   ·rename_i hb;rw[Xe (Xh hb)];exact⟨E',SA',SB',σ',i',b',ρ',h',hr'⟩
   rename_i hb;rw[Xb (KO hb)];exact⟨E',SA',SB',σ',i',b',ρ',h',hr'⟩
  |ret=>exact hq
  |_=>exact hq.elim
 |.loop c,E,SA,SB,σ,i,b,Q,ρ,a,w,hr,h=>by
  obtain⟨ι,S,T,I,μ,x0,h0,hsub,rfl,rfl,hround⟩:=h;obtain⟨E0,SB0,ρ0,hr0⟩:=hr.sub hS hsub;refine vR (λn a w=>∃x E SA SB ρ,I x/\μ x=n/\RI J Jx E SA SB (S x) (T x) false ρ a w) (μ x0) ⟨x0,E0,SA,SB0,ρ0,h0,rfl,hr0⟩ λn a w hI=>?_
  obtain⟨x,E1,SA1,SB1,ρ1,h1,rfl,hr1⟩:=hI;refine wpIn_mono (uk hF hT hm hS hY c hr1 (hround x h1)) (λe a' w' hq=>?_)
  cases e with
  |normal=>
   obtain⟨E2,SA2,SB2,σ',i',b',ρ',⟨x',h2,hs2,rfl,rfl,hlt⟩,hr'⟩:=hq;obtain⟨E3,SB3,ρ3,hr3⟩:=hr'.sub hS hs2;exact⟨μ x',hlt,x',E3,SA2,SB3,ρ3,h2,rfl,hr3⟩
  |exit id=>exact hq
  |ret=>exact hq
  |_=>exact hq.elim
 |.exit id,E,SA,SB,σ,i,b,Q,ρ,a,w,hr,h=>wpIn_exit ⟨E,SA,SB,σ,i,b,ρ,h,hr⟩
 |.ret,E,SA,SB,σ,i,b,Q,ρ,a,w,hr,h=>wpIn_ret ⟨E,SA,SB,σ,i,b,ρ,h,hr⟩
 |.rangeFunc _ _ _ _,_,_,_,_,_,_,_,_,_,_,_,h=>by cases h
 |.scope _,_,_,_,_,_,_,_,_,_,_,_,h=>by cases h
 |.label _,E,SA,SB,σ,i,b,Q,ρ,a,w,hr,h=>wpIn_label ⟨E,SA,SB,σ,i,b,ρ,h,hr⟩
 |.goto _,_,_,_,_,_,_,_,_,_,_,_,h=>by cases h
 |.refuse _,_,_,_,_,_,_,_,_,_,_,_,h=>by cases h
def endI(n:Nat)(e:Ex)(_:St)(i:Nat)(b:Bool):Prop:=
 match e with
 |.exit _=>False
 |_=>b=true∨i=n
def zih(hT:TOK P Γ)(hm:P.follows .mixedOrders=true){f:FuncId}{fn:Func}{c:Code}{caps:LQ}(hf:P.funcs[f]?=some fn)(hb:fn.body=some c)(hn:(fn.name== "runtime.NumGoroutine")=false)
  (hle:Nat.ble (caps.length+1) fn.ntmps=true) (hres:fn.results=#[]) (h:∀l:Nat,zyy P Γ l enc xs c ⟨qI 0 (.val (.func (.yield l) #[] #[])::caps),[],0,fn.ntmps,0⟩ 0 false (endI xs.length)):zew P f caps enc xs:=by
 refine⟨⟨fn,hf,hn,by rw[hb];rfl⟩,λSA w vs l J Jx hlt hgl hcaps hSJ hSX hY h0=>?_⟩;refine callsIn_of_wp_marks hf hb trivial ?_ rfl
 have hrel:=uw (Keep:=SA) (M:=[]) (ρ:=λ_=>none) (w:=w) (args:=.val (.func (.yield l) #[] #[])::caps) (vs:=.func (.yield l) #[] #[]::vs) (nt:=fn.ntmps) (kS hlt hgl) (λ_ _=>rfl)
  ⟨by simp[hcaps.1],λj s v hs hv=>by
   cases j with
   |zero=>cases hs;cases hv;exact .d _ _ (.val _)
   |succ j=>exact .d _ _ ((hcaps.2 j s v (by simpa using hs) (by simpa using hv)).less λb hb=>hb.resolve_right zF)⟩ (by simpa using Xx hle)
 have hri:RI J Jx ⟨w,λ_=>none,SA,Own [] (λ_=>none),[]⟩ SA (λ_=>False) _ 0 false _ _ w:=⟨hrel,rfl,λ_ h=>h,λ_ hb=>absurd hb zF,λ_ h=>h.elim,hlt,h0⟩
 have hS:zjQ J Jx:=λi b SA SB SB' W W' hj hmv hd=>by
  cases b with
  |false=>exact hSJ i SA SB SB' W W' hj hmv hd
  |true=>exact hSX SA SB SB' W W' hj hmv hd
 refine wpIn_mono (uk jE.wide hT hm hS (λi x SA SB W args hx hj hA hB ha=>hY i x SA SB W args hx hj hA hB (ha _)) c hri (h l)) (λe a' w' hq=>?_)
 have fin:∀{E SA SB σ i b ρ},RI J Jx E SA SB σ i b ρ a' w'->(b=true∨i=xs.length)->LeavesInM Fence.wide 0 P fn a'.tmps (λe W'=>(∃v,e=.returned v)/\∃SA' SB',J xs.length SA' SB' W'∨Jx SA' SB' W') a'.defers .returning w':=by
  intro E SA SB σ i b ρ hr hd;rw[hr.rel.defers,hr.ds];refine⟨.tuple #[],by unfold results;rw[hres];simp,⟨_,rfl⟩,SA,SB,?_⟩;have hj:=hr.j
  cases b with
  |true=>exact .inr hj
  |false=>
   obtain rfl:=hd.resolve_left sI;exact .inl hj
 cases e with
 |normal=>obtain⟨E,SA,SB,σ,i,b,ρ,hq,hr⟩:=hq;exact fin hr hq
 |ret=>obtain⟨E,SA,SB,σ,i,b,ρ,hq,hr⟩:=hq;exact fin hr hq
 |exit id=>obtain⟨E,SA,SB,σ,i,b,ρ,hq,hr⟩:=hq;exact hq.elim
 |_=>exact hq.elim
end it
open Go.Proofs
section
def ptA(p:Pt):LQ:=[wk p]
def ztD(F:FuncId)(cs:LQ)(n:Int):CG0 381 [i64 n,.fn F [.dptr cs,.loc 0 0]] [(0,.box 3 [i64 n])]
  (.dfn 437 [.dptr [i64 n],.dptr [.dfn F [.dptr cs,.dptr [i64 n]]]]) []:=by
 exact zhK 3 tok mix func381 rfl rfl rfl<|.refl
def zBs{f:Int->Pt}{n k:Nat}(h:k<n):(zfQ f n)[k]?=some (f ((k:Int)+1)):=by
 unfold zfQ;rw[XA,KT h];rfl
def zdh(f:Int->Pt)(n:Nat):(zfQ f n).length=n:=by unfold zfQ;simp
def zpI(F:FuncId)(cs:LQ)(n:Int)(f:Int->Pt)(hn:0<=n/\n<=64)(h:∀i:Nat,i<n.toNat->CX F [i64 ((i:Int)+1),.dptr cs,.dptr [i64 n]] (wk (f ((i:Int)+1)))):
  zew prog 437 [.dptr [i64 n],.dptr [.dfn F [.dptr cs,.dptr [i64 n]]]] ptA (zfQ f n.toNat):=by
 refine zih (caps:=[.dptr [i64 n],.dptr [.dfn F [.dptr cs,.dptr [i64 n]]]]) (enc:=ptA) (xs:=zfQ f n.toNat) tok mix func437 rfl rfl rfl rfl (λl=>?_);refine⟨Nat,λk=>⟨[(0,.val (.func (.yield l) #[] #[])),(1,.dptr [i64 n]),(2,.dptr [.dfn F [.dptr cs,.dptr [i64 n]]]),(4,i64 ((k:Int)+1))],[],0,16,0⟩,λk=>k,λk=>k<=n.toNat,λk=>n.toNat-k,0,?_,?_,rfl,rfl,?_⟩
 ·exact Xg _
 ·exact zA []
 rintro k hk
 refine⟨λg:(k:Int)+1<=n=>?_,λg:¬(k:Int)+1<=n=>?_⟩
 ·refine wg (h k oM)<|⟨rfl,f ((k:Int)+1),zBs (show k<n.toNat by omega),rfl,.C .nil,(λ_ _ h=>by cases h),?_⟩;refine Br.mk ?_ ?_
  ·refine wa ?_;refine⟨k+1,oM,qN [] ⟨rfl,rfl,rfl,iR oM,tV⟩ trivial,rfl,rfl,oN⟩
  exact .inl rfl
 exact .inr (by rw[zdh];show k=n.toNat;omega)
def zDl(caps:LQ)(xs:LR)(h:zew prog 437 caps ptA xs)(hx:xs.length<=4096):CX 380 [.dfn 437 caps] (.sl ptE xs):=by
 refine uz 1 tok mix func380 rfl rfl rfl ?_
 refine⟨Pt,ptA,xs,1,[(3,.loc 0 0)],λj=>[(0,.box 155 [.own 1]),(1,.arr 28 ptE 2 (xs.take j))],λ_=>2,h,λ_=>rfl,⟨rfl,rfl,rfl,rfl⟩,
  zA [(0,some 0),(1,none)],⟨Xg _,rfl⟩,λj=>?_,?_,?_⟩
 ·intro k m hm;simp only[XD,XR,or_false,KL]at hm
  obtain⟨_,rfl⟩|⟨_,rfl⟩:=hm
  ·rfl
  trivial
 ·intro j y hy _;have hlt:(xs.take j).length<=4096:=by rw[Xv];omega
  refine⟨Pt,ptE,[y],rfl,wb0 ?_⟩;refine⟨[y],rfl,wb12 ?_⟩;exact zt [0,4] ⟨rfl,aR (by rw[Xm,hy];rfl),tV⟩
 refine λ_=>kM ?_
 exact Kf
def zvC(a b c:Pt)(i n:Int):CX 382 [i64 i,.dptr (ptE a++ptE b++ptE c),.dptr [i64 n]] (wk (zaD a b c i n)):=by
 exact zd func382<|wg (zyr a b c i n)<|.refl
variable{a:Pt}{b:Pt}{c:Pt}{tol:Int}
def zyA(h:(yU a b c tol).2=0):zda a b c tol=(zfQ (λi=>zaD a b c i (yU a b c tol).1) (yU a b c tol).1.toNat,0):=by
 unfold zda;rw[qV h]
def zvD(h:¬(yU a b c tol).2=0):zda a b c tol=([],(yU a b c tol).2):=by
 unfold zda;rw[Xe h]
def zyB(c:LR×Int):SV:=.tup [.sl ptE c.1,i64 c.2]
def zrU{c:LR×Int}{a:LR}{b:Int}(h:c=(a,b)):LE (.tup [.sl ptE a,i64 b]) (zyB c):=by subst h;exact .refl
def ztE{c:LR×Int}{b:Int}(h:c=([],b)):LE (.tup [nS,i64 b]) (zyB c):=by subst h;exact zW zw .refl
def zEG(a b c:Pt)(tol:Int)(ha:zm a)(hb:zm b)(hc:zm c):CX 325 [.agg (ptE a++ptE b++ptE c),i64 tol] (zyB (zda a b c tol)):=by
 refine zd func325<|zmS.data<|wg (zvv a b c tol ha hb hc)<|⟨λk=>?_,λk=>?_⟩
 ·exact ztE (zvD k)
 have k:(yU a b c tol).2=0:=Xc.1 k;have ok:=(zaf (show(jA _ tol _).2=0 from k)).1;have ok:1<=(yU a b c tol).1/\(yU a b c tol).1<=64:=ok;have e:=zyA k;generalize (yU a b c tol).1=n at*;refine zb.give [0] 0 [i64 n,.fn 382 [.dptr (ptE a++ptE b++ptE c),.loc 0 0]] [(0,.box 3 [i64 n])] [] _ (ztD 382 (ptE a++ptE b++ptE c) n) LEs.refl rfl rfl rfl ⟨⟨_,rfl,rfl,rfl⟩,tV⟩ rfl trivial<|wg (zDl _ _ (zpI 382 (ptE a++ptE b++ptE c) n (λi=>zaD a b c i n) oM (λi _=>zvC a b c ((i:Int)+1) n)) (by rw[zdh];omega)) ?_
 exact zrU e
def zvE(a b c d:Pt)(i n:Int):CX 385 [i64 i,.dptr (ptE a++ptE b++ptE c++ptE d),.dptr [i64 n]] (wk (zaE a b c d i n)):=by
 exact zd func385<|wg (zys a b c d i n)<|.refl
def zyC{d:Pt}(h:(yV a b c d tol).2=0):zdb a b c d tol=(zfQ (λi=>zaE a b c d i (yV a b c d tol).1) (yV a b c d tol).1.toNat,0):=by
 unfold zdb;rw[qV h]
def zvF{d:Pt}(h:¬(yV a b c d tol).2=0):zdb a b c d tol=([],(yV a b c d tol).2):=by
 unfold zdb;rw[Xe h]
def zEH(a b c d:Pt)(tol:Int)(ha:zm a)(hb:zm b)(hc:zm c)(hd:zm d):CX 326 [.agg (ptE a++ptE b++ptE c++ptE d),i64 tol] (zyB (zdb a b c d tol)):=by
 refine zd func326<|zmS.data<|wg (zvw a b c d tol ha hb hc hd)<|⟨λk=>?_,λk=>?_⟩
 ·exact ztE (zvF k)
 have k:(yV a b c d tol).2=0:=Xc.1 k;have ok:=(zaf (show(jA _ tol _).2=0 from k)).1;have ok:1<=(yV a b c d tol).1/\(yV a b c d tol).1<=64:=ok;have e:=zyC k;generalize (yV a b c d tol).1=n at*;refine zb.give [0] 0 [i64 n,.fn 385 [.dptr (ptE a++ptE b++ptE c++ptE d),.loc 0 0]] [(0,.box 3 [i64 n])] [] _ (ztD 385 (ptE a++ptE b++ptE c++ptE d) n) LEs.refl rfl rfl rfl ⟨⟨_,rfl,rfl,rfl⟩,tV⟩ rfl trivial ?_
 exact wg (zDl _ _ (zpI 385 (ptE a++ptE b++ptE c++ptE d) n (λi=>zaE a b c d i n) oM (λi _=>zvE a b c d ((i:Int)+1) n)) (by rw[zdh];omega))<|zrU e
variable{α:Type _}{A:List α}{z:α}
def zrV{y:α}{n:Nat}(h:(A++[z])[n]?=some y)(hn:n=A.length):y=z:=by
 subst hn;simp at h;exact h.symm
def znG{w:α}{n:Nat}(hn:n=A.length):(A++[z]).set n w=A++[w]:=by
 subst hn;simp
def jd(cl:LY)(k:Nat)(b:SV):LM:=cl.map plE++[[SV.own k,b]]
def vE(cl:LY)(k:Nat)(b:SV):(jd cl k b).length=cl.length+1:=by unfold jd;simp
def zpJ(ks:LB)(κ:Nat)(cl:LY)(k:Nat)(p:Prop)(i:Decidable p):(jd cl k (.pr p i)).map (uU.rens ks κ)=jd cl (rn ks κ k) (.pr p i):=by
 unfold jd;rw[XG,Yi];rfl
def zyD{n k:Nat}(h:Nat.blt k n=true)(cl:LY)(p:Prop)(i:Decidable p):∀x∈jd cl k (.pr p i),y8.lows n x=true:=λx hx=>by
 rcases Xr.1 hx with hx|hx
 ·obtain⟨q,_,rfl⟩:=XL.1 hx;rfl
 rw[Xu.1 hx];simp only[y8.lows,y8,h]
def zyE{n k:Nat}(h:Nat.blt k n=true)(cl:LY)(p:Prop)(i:Decidable p):∀x∈jd cl k (.pr p i),zba.outs n x=true:=λx hx=>by
 rcases Xr.1 hx with hx|hx
 ·obtain⟨q,_,rfl⟩:=XL.1 hx;rfl
 rw[Xu.1 hx];simp only[zba.outs,zba,h]
def vv{tb:List (Nat×Option Nat)}{cl:LY}{a b:Nat}{p:Prop}{i:Decidable p}(h:zas tb b=some (some a)):
  (jd cl a (.pr p i)).length=(jd cl b (.pr p i)).length/\∀(j:Nat) x,(jd cl b (.pr p i))[j]?=some x->∃x',(jd cl a (.pr p i))[j]?=some x'/\ren.rens tb x=some x':=by
 refine⟨by rw[vE,vE],λj x hx=>?_⟩;unfold jd at hx ⊢;rw[Kt]at hx
 split at hx
 ·rename_i hi;rw[XA]at hx
  cases hy:cl[j]? with
  |none=>simp[hy]at hx
  |some y=>
   simp[hy]at hx;subst hx;exact⟨plE y,by rw[XH hi,XA,hy];rfl,rfl⟩
 rename_i hi
 have h0:j-(cl.map plE).length=0:=by
  have:=(Xd.1 hx).1;simp at this;simp at hi ⊢;omega
 rw[h0]at hx;simp at hx;subst hx;refine⟨[.own a,.pr p i],by rw[XB oM,h0];rfl,?_⟩;simp only[ren.rens,ren,h]
def znH(q:LR)(x:Pt):(ye q x).length<=q.length+1:=by
 unfold ye;split
 ·omega
 simp
def zf3:∀(more q:LR),(qj q more).length<=q.length+more.length
 |[],q=>by simp[qj]
 |x::r,q=>by
  have h1:=zf3 r (ye q x);have h2:=znH q x;have e:qj q (x::r)=qj (ye q x) r:=rfl;rw[e,Xq];omega
def zl1{q more:LR}{i:Nat}{x:Pt}(h:more[i]?=some x):qj q (more.take (i+1))=ye (qj q (more.take i)) x:=by
 unfold qj;rw[Xm,h];simp[Qg]
variable{q:LR}{x:Pt}
def zyF{z:Pt}(h:q[q.length-1]?=some z)(e:z=x):ye q x=q:=by
 unfold ye;rw[Ql,h,e,Xe rfl]
def ztF{z:Pt}(h:q[q.length-1]?=some z)(e:¬z=x):ye q x=q++[x]:=by
 unfold ye;rw[Ql,h,Xb (λk=>e (Xl k))]
def zBt(h:q.length=0):ye q x=q++[x]:=by
 rw[Xo h];rfl
def zEI(cl:LY)(q more:LR)(B:Prop)[iB:Decidable B](hq:q.length<=100000)(hm:more.length<=64)(hcl:cl.length<=300):
  CG0 262 [.eloc 0 2 (cl.length:Int) 0,.sl ptE more] [(0,.garr 204 2 (jd cl 1 (pr B))),(1,.arr 28 ptE 2 q)] (.tup [])
   [(0,.garr 204 2 (jd cl 2 (pr B))),(2,.arr 28 ptE 2 (qj q more))]:=by
 refine u6 tok mix func262 rfl rfl rfl λhl1=>?_
 refine⟨Nat,λi=>⟨[(0,.eloc 0 2 (cl.length:Int) 0),(7,.sl ptE more),(8,i64 more.length),(9,i64 i)],
   [(0,.garr 204 2 (jd cl 2 (pr B))),(2,.arr 28 ptE 2 (qj q (more.take i)))],3,43,2⟩,λi=>i<=more.length,λi=>more.length-i,0,?_,?_,?_⟩
 ·exact Xg _
 ·exact zt [0,1,1] ⟨⟨_,rfl,vv rfl⟩,rfl,tV⟩
 rintro i hi
 have hlen:=zf3 (more.take i) q;rw[Xv]at hlen;have hcell:∀{y:LQ} {k:Nat} {b:SV},(jd cl k b)[(cl.length:Int).toNat]?=some y->y=[.own k,b]:=λh=>zrV h sI
 have hcn:(cl.length:Int).toNat=(cl.map plE).length:=by simp
 have hset:∀(k:Nat) (b:SV) (w:LQ),(jd cl k b).set (cl.length:Int).toNat w=cl.map plE++[w]:=λk b w=>by unfold jd;exact znG hcn
 have hrow:0<=(cl.length:Int)/\(cl.length:Int)<(jd cl 2 (pr B)).length:=by rw[vE];omega
 refine⟨λg:(i:Int)<more.length=>?_,λg:¬(i:Int)<more.length=>?_⟩
 ·refine wb λx(hx:more[i]?=some x)=>?_;have e:=zl1 (q:=q) hx;refine Ob.mk hrow λy hy=>?_;obtain rfl:=hcell hy;intro hl2
  have yes:qj q (more.take (i+1))=(qj q (more.take i))++[x]->∀{σ:St},Sub σ ⟨[(0,.eloc 0 2 (cl.length:Int) 0),(7,.sl ptE more),(8,i64 more.length),(9,i64 ((i+1:Nat):Int))],
    [(0,.garr 204 2 (jd cl 2 (pr B))),(2,.arr 28 ptE 2 ((qj q (more.take i))++[x]))],3,43,2⟩->Sub σ ⟨[(0,.eloc 0 2 (cl.length:Int) 0),(7,.sl ptE more),(8,i64 more.length),(9,i64 ((i+1:Nat):Int))],
    [(0,.garr 204 2 (jd cl 2 (pr B))),(2,.arr 28 ptE 2 (qj q (more.take (i+1))))],3,43,2⟩:=λh σ k=>by rw[h];exact k
  refine wd<|Br.mk (λz=>?_) (λz=>?_)
  ·have z:((qj q (more.take i)).length:Int)=0:=z;refine wh<|wd<|Ob.mk hrow λy hy=>?_;obtain rfl:=hcell hy;refine⟨Pt,ptE,[x],rfl,wb0 ?_⟩;refine⟨[x],rfl,wb12 ?_⟩;refine Ob.mk hrow λy hy=>?_;obtain rfl:=hcell hy;refine wh<|wa ?_;refine⟨i+1,oM,yes (by rw[e,zBt oM]) (zt [0,1,5] ⟨⟨_,Xj (λq=>some (Mem.garr 204 2 q)) (hset _ _ _),vv rfl⟩,rfl,tV⟩),oN⟩
  have z:¬((qj q (more.take i)).length:Int)=0:=z;refine Ob.mk hrow λy hy=>?_;obtain rfl:=hcell hy;refine wa<|wb<|wb λt ht=>?_
  have ht:(qj q (more.take i))[(qj q (more.take i)).length-1]?=some t:=by
   have ht:(qj q (more.take i))[(((qj q (more.take i)).length:Int)-1).toNat]?=some t:=ht
   rwa [show(((qj q (more.take i)).length:Int)-1).toNat=(qj q (more.take i)).length-1 by omega]at ht
  refine wh<|⟨λk=>?_,λk=>?_⟩
  ·have k:¬t=x:=λh=>k (qU.2 h)
   refine wd<|Ob.mk hrow λy hy=>?_;obtain rfl:=hcell hy;refine⟨Pt,ptE,[x],rfl,wb0 ?_⟩;refine⟨[x],rfl,wb12 ?_⟩;refine Ob.mk hrow λy hy=>?_;obtain rfl:=hcell hy;refine wh<|wa ?_;refine⟨i+1,oM,yes (by rw[e,ztF ht k]) (zt [0,1,5] ⟨⟨_,Xj (λq=>some (Mem.garr 204 2 q)) (hset _ _ _),vv rfl⟩,rfl,tV⟩),oN⟩
  have k:t=x:=qU.1 (Xc.1 k);refine wa ?_;refine⟨i+1,oM,zt [0,1,2] ⟨⟨_,rfl,vv rfl⟩,aR (by rw[e,zyF ht k]),tV⟩,oN⟩
 have e:more.take i=more:=Xk oM;exact⟨_,.refl,Xj (λl=>[(0,Mem.garr 204 2 (jd cl 2 (pr B))),(2,Mem.arr 28 ptE 2 (qj q l))]) e,.refl⟩
variable{p:Pt}
def zyG{s:Sg}(h:s.v=3):jK p s tol=zda p s.a s.b tol:=by unfold jK;rw[Xe h]
def zyH{s:Sg}(h3:¬s.v=3)(h:s.v=4):jK p s tol=zdb p s.a s.b s.c tol:=by unfold jK;rw[Xb h3,Xe h]
def zyI{s:Sg}(h3:¬s.v=3)(h:¬s.v=4):jK p s tol=([s.a],0):=by unfold jK;rw[Xb h3,Xb h]
def p_seg(p:Pt)(s:Sg)(tol:Int)(hp:zm p)(hs:zm s.a/\zm s.b/\zm s.c):CX 261 [wk p,.agg (sgE s),i64 tol] (zyB (jK p s tol)):=by
 refine zd func261<|Br.mk (λh3=>?_) (λh3=>?_)
 ·have h3:s.v=3:=h3;refine wg (zEG p s.a s.b tol hp hs.1 hs.2.1) ?_;rw[zyG h3];exact .refl
 have h3:¬s.v=3:=h3;refine⟨λh4:s.v=4=>?_,λh4:¬s.v=4=>?_⟩
 ·refine wg (zEH p s.a s.b s.c tol hp hs.1 hs.2.1 hs.2.2) ?_;rw[zyH h3 h4];exact .refl
 refine⟨Pt,ptE,[s.a],rfl,wb0 ?_⟩;exact zrU (zyI h3 h4)
end
end Go.Gs
