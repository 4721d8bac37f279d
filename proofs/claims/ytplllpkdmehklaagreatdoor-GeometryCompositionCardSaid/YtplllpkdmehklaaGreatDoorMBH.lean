/- A loop over a function: what is left to be shown is enough. -/
import Derived.Test.YtplllpkdmehklaaGreatDoorMA
import Derived.Test.YtplllpkdmehklaaGreatDoorMBG
set_option maxRecDepth 100000
set_option maxHeartbeats 8000000
set_option linter.all false
namespace Go.Gs
structure Jc (E:Env) (K0 SB Own0:Nat->Prop) (m nkv:Nat) (w0:World) (ρs:zi) (M:List (Nat×Mem)) (ρj:zi) (W:World):Prop where
 mem:zJ (fun b=>K0 b∨SB b) M ρj W
 names:∀k v,k < m->ρs k=some v->ρj k=some v
 fresh:∀k,nkv<=k->ρj k=none
 stp:Stp E.W0 (Own M ρj) E.ρ0 ρj E.w0 W
 same:∀b,b < w0.heap.size->¬Own0 b->W.heap[b]? =w0.heap[b]?
 size:w0.heap.size+2<=W.heap.size
 sb:∀b,SB b->w0.heap.size+2<=b
 own:∀b,Own M ρj b->Own0 b∨w0.heap.size+2<=b
 dis:∀b,SB b->¬K0 b
theorem Jc.other {E:Env} {K0 SB SB' Own0:Nat->Prop} {m nkv:Nat} {w0:World} {ρs ρj:zi} {M:List (Nat×Mem)} {W W':World} (h:Jc E K0 SB Own0 m nkv w0 ρs M ρj W) (hp:zjj M)
  (h0:E.w0.heap.size<=w0.heap.size) (hmv:Mv SB SB' W W') (hd:∀b,SB' b->¬(K0 b∨Own M ρj b)/\b < W'.heap.size):Jc E K0 SB' Own0 m nkv w0 ρs M ρj W':=by
 have hz:=h.size
 refine ⟨h.mem.other hp hmv fun b hb=>⟨fun ho=>(hd b hb).1 (.inr ho),(hd b hb).2⟩,h.names,h.fresh,
  ⟨hmv.os.trans h.stp.os,hmv.tape.trans h.stp.tape,h.stp.output.trans hmv.output,Nat.le_trans h.stp.size hmv.size,fun b hb hn=>?_,h.stp.own,h.stp.rho⟩,
  fun b hb hn=>?_,Nat.le_trans h.size hmv.size,fun b hb=>?_,h.own,fun b hb k=>(hd b hb).1 (.inl k)⟩
 ·exact (hmv.block b oM fun hs=>by have:=h.sb b hs;omega).trans (h.stp.block b hb hn)
 ·exact (hmv.block b oM fun hs=>by have:=h.sb b hs;omega).trans (h.same b hb hn)
 ·exact (hmv.own b hb).elim (h.sb b) fun hge=>oM
theorem zfM:∀{l:List Nat},zcD l=true->l.Nodup
 | [],_=>List.nodup_nil
 | k::r,h=>by
  unfold zcD at h
  split at h
  ·cases h
  ·rename_i h1;exact List.nodup_cons.2 ⟨fun hm=>(by rw [zim hm] at h1;cases h1),zfM h⟩
theorem zoL {P:Program} {Γ:List (TypeId×TI)} (hT:TOK P Γ) (hm:P.follows .mixedOrders=true) {E E':Env} {σ:St} {ρ:zi} {a:Act} {w:World} (hr0:RR E E' σ ρ a w)
  {f:FuncId} {caps:List SV} {vs:List Value} {g:Operand} {ps:Array Tmp} {assign body:Code} {Q:Ex->St->Prop}
  (hg:a.eval g=.func (.func f) #[] vs.toArray) (hcaps:Ds (fun b=>E'.Keep b∨Own σ.M ρ b) w caps vs) (h:zsb P Γ f caps ps.toList assign body σ Q):
  (Code.rangeFunc g ps assign body).wpIn Fence.wide 0 P (zjk E Q) a w:=by
 obtain ⟨β,enc,ys,m,L,S,nk,⟨hcall,hit⟩,henc,⟨hnd,hlt,hd1,hd2⟩,hsub,⟨hn0,hpf⟩,hpm,hround,hdone⟩:=h;obtain ⟨ρs,hrs0⟩:=hsub _ ρ a w hr0.rel.cut;have hown0:∀b,Own (S 0) ρs b->Own σ.M ρ b:=fun b hb=>(hrs0.stp.own b hb).resolve_right fun hge=>by have:=(hrs0.mem.old b hb).1;have hge:w.heap.size<=b:=hge;omega
 have hr:=hr0.next hrs0
 have hcaps:Ds (fun b=>E'.Keep b∨Own (S 0) ρs b) w caps vs:=⟨hcaps.1,fun j s v hs hv=>(hcaps.2 j s v hs hv).less fun b hb=>hb.imp id (hown0 b)⟩;obtain ⟨E1,hE1⟩:∃E1:Env,E1=⟨w,E'.ρ0,E'.Keep,Own σ.M ρ,E'.ds⟩:=⟨_,rfl⟩;have hkeep:E1.Keep=E'.Keep:=by rw [hE1]
 rw [← hE1] at hr;rw [← hkeep] at hcaps;clear hE1 hkeep hrs0 hr0 hsub hown0;have hsz0:=hr.stp.size;refine wpIn_rangeFunc ?_;intro fn _;obtain ⟨rec,hrec⟩:∃rec:LoopState->Option Code->Loop,rec=fun st pe=>{ state:=st,pending:=pe,fn,tmps:=a.tmps,params:=ps,assign,body,defers:=w.heap.size }:=⟨_,rfl⟩
 obtain ⟨l,hl⟩:∃l,l=w.heap.size+1:=⟨_,rfl⟩;obtain ⟨D,hD⟩:∃D,D=w.heap.size:=⟨_,rfl⟩;obtain ⟨W1,hW1⟩:∃W1,(w.alloc (.deferred (some []))).alloc (.loop (rec .ready none))=W1:=⟨_,rfl⟩
 have hL1:W1.heap[l]? =some (.loop (rec .ready none)):=by
  rw [← hW1,hl];have:=World.alloc_heap_new (w.alloc (.deferred (some []))) (.loop (rec .ready none));rwa [World.size_alloc] at this
 have hK1':W1.heap[D]? =some (.deferred (some [])):=by
  rw [← hW1,hD];exact (RowKit.Below.heap_alloc _ _ _ (by simp)).trans (World.alloc_heap_new w _)
 have hz1:W1.heap.size=w.heap.size+2:=by rw [← hW1];simp
 have hsame1:∀b,b < w.heap.size->W1.heap[b]? =w.heap[b]? :=fun b hb=>by
  rw [← hW1];exact (RowKit.Below.heap_alloc _ _ _ (by simp;omega)).trans (RowKit.Below.heap_alloc _ _ _ hb)
 have hout1:kL w W1:=by
  rw [← hW1];refine kL.trans (w':=w.alloc (.deferred (some []))) ⟨rfl,fun b=>?_⟩ ⟨rfl,fun b=>?_⟩
  ·unfold World.frozen?
   by_cases e:b.block=w.heap.size
   ·rw [e,World.alloc_heap_new];rw [Array.getElem?_eq_none oM]
   ·by_cases h2:b.block < w.heap.size
    ·rw [RowKit.Below.heap_alloc _ _ _ h2]
    ·rw [Array.getElem?_eq_none (by simp;omega),Array.getElem?_eq_none oM]
  ·unfold World.frozen?
   by_cases e:b.block=(w.alloc (.deferred (some []))).heap.size
   ·rw [e,World.alloc_heap_new];rw [Array.getElem?_eq_none oM]
   ·by_cases h2:b.block < (w.alloc (.deferred (some []))).heap.size
    ·rw [RowKit.Below.heap_alloc _ _ _ h2]
    ·rw [Array.getElem?_eq_none (by rw [World.size_alloc];omega),Array.getElem?_eq_none oM]
 have hos1:W1.os=w.os/\W1.tape=w.tape:=by rw [← hW1];exact ⟨rfl,rfl⟩
 have hDl:D < l:=oM;have hE0:∀b,b < E.w0.heap.size->b < w.heap.size:=fun b hb=>Nat.lt_of_lt_of_le hb hsz0
 obtain ⟨K0,hK0⟩:∃K0:Nat->Prop,K0=fun b=>E1.Keep b∨b=D∨b=l:=⟨_,rfl⟩
 have hKl:K0 l:=by rw [hK0];exact .inr (.inr rfl)
 have hKD:K0 D:=by rw [hK0];exact .inr (.inl rfl)
 have hK1:∀b,E1.Keep b->K0 b:=fun b hb=>by rw [hK0];exact .inl hb
 have hKlt:∀b,K0 b->b < w.heap.size+2:=fun b hb=>by
  rw [hK0] at hb
  rcases hb with hb | rfl | rfl
  ·have:=hr.rel.mem.kp b hb;omega
  ·omega
  ·omega
 have hKo:∀b,K0 b->b < w.heap.size->E1.Keep b:=fun b hb hlt=>by
  rw [hK0] at hb
  rcases hb with hb | rfl | rfl
  ·exact hb
  ·omega
  ·omega
 have hKe:∀b,K0 b->E1.Keep b∨b=D∨b=l:=fun b hb=>by rw [hK0] at hb;exact hb
 clear hK0
 -- what lies in the slots,looked at later
 have regsL:∀{SB:Nat->Prop} {M:List (Nat×Mem)} {nkv:Nat} {ρj:zi} {W:World},Jc E K0 SB (Own (S 0) ρs) m nkv w ρs M ρj W->∀t s,kM L t=some s->
   t < σ.nt/\G (fun b=>(K0 b∨SB b)∨Own M ρj b) (Own M ρj) ρj W s (a.tmps.getD t undef):=fun {SB M nkv ρj W} hj t s hl'=>by
  obtain ⟨h1,h2⟩:=hr.rel.regs t s hl';obtain ⟨p1,p2⟩:=zmK hpf hl';have hz:=hj.size;refine ⟨h1,(h2.pf (w':=W) oM (fun b hb hn=>⟨fun hk=>?_,hj.same b hb fun ho=>hn (.inr ho)⟩) p1).low hj.names p2⟩
  rcases hk with (hk | hk) | hk
  ·exact hn (.inl (hKo b hk hb))
  ·have:=hj.sb b hk;omega
  ·exact (hj.own b hk).elim (fun ho=>hn (.inr ho)) fun hge=>oM
 -- the first round
 have hst1:Stp (Own (S 0) ρs) (Own (S 0) ρs) ρs ρs w W1:=⟨hos1.1,hos1.2,hout1,oM,fun b hb _=>hsame1 b hb,fun _ h=>.inl h,fun _ _ h=>h⟩
 have hj0:Jc E K0 (fun _=>False) (Own (S 0) ρs) m (nk 0) w ρs (S 0) ρs W1:=by
  refine ⟨?_,fun _ _ _ h=>h,hr.rel.fresh,hr.stp.trans hst1,fun b hb _=>hsame1 b hb,oM,fun _ h=>h.elim,fun b h=>.inl h,fun _ h=>h.elim⟩
  have hm1:zJ E1.Keep (S 0) ρs W1:=⟨fun k mm hk=>(hr.rel.mem.rel k mm hk).keep hst1 rfl (fun v b hv hb=>hsame1 b (hr.rel.mem.old b ⟨k,mm,v,hk,hv,hb⟩).1),hr.rel.mem.keys,hr.rel.mem.apart,
   fun b hb=>⟨by have:=(hr.rel.mem.old b hb).1;omega,(hr.rel.mem.old b hb).2⟩,fun b hb=>by have:=hr.rel.mem.kp b hb;omega,hr.rel.mem.glS hst1⟩
  -- two new blocks are kept apart
  refine ⟨fun k mm hk=>?_,hm1.keys,hm1.apart,fun b hb=>⟨(hm1.old b hb).1,fun hk=>?_⟩,fun b hb=>hb.elim (fun hk=>by have:=hKlt b hk;omega) fun h=>h.elim,hm1.gl⟩
  ·have hst2:Stp (Own (S 0) ρs) (fun b=>Own (S 0) ρs b∨b=D∨b=l) ρs ρs w W1:=⟨hst1.os,hst1.tape,hst1.output,hst1.size,hst1.block,fun b hb=>hb.elim .inl fun h=>.inr oM,hst1.rho⟩;have hb0:=(hr.rel.mem.rel k mm hk).keep hst2 rfl (fun v b hv hb=>hsame1 b (hr.rel.mem.old b ⟨k,mm,v,hk,hv,hb⟩).1);exact hb0.pf (fun b hb=>hb.elim (fun h=>h.elim (fun h=>(hKe b h).imp id .inr) fun h=>h.elim) fun h=>.inr (.inl h)) (hpm 0 k mm hk)
  ·have hlt:=(hr.rel.mem.old b hb).1;exact hk.elim (fun hk=>(hr.rel.mem.old b hb).2 (hKo b hk hlt)) fun h=>h
 refine ⟨l,[{ target:=.collected D,args:=#[] }],W1,{ target:=.fn (.func f) vs.toArray,args:=#[.func (.yield l) #[] #[]] },W1,f,
  List.toArray (.func (.yield l) #[] #[]::vs),W1,?_,?_,fun _ _=>trivial,?_,yN.wide.need,?_⟩
 ·rw [← hW1,hrec,hl,hD];exact run_enterLoop_outer _ _ _ _ _
 ·simp only [resolve,hg];simp [go_sem]
 ·obtain ⟨fn',c1,c2,c3⟩:=hcall;simp only [invoke,callFunc,Sem.run_bind,Sem.run_pure,Result.andThen_ok,run_program,c1,c2,c3,Bool.false_eq_true,if_false];simp
 refine (hit (fun b=>K0 b∨Own (S 0) ρs b) W1 vs l
  (fun i SA SB W=>∃ρj,Jc E K0 SB (Own (S 0) ρs) m (nk i) w ρs (S i) ρj W/\(∀b,SA b↔K0 b∨Own (S i) ρj b)/\W.heap[l]? =some (.loop (rec .ready none))/\W.heap[D]? =some (.deferred (some [])))
  (fun SA SB W=>∃c M' nk' ρj,Jc E K0 SB (Own (S 0) ρs) m nk' w ρs M' ρj W/\zjj M'/\(∀b,SA b↔K0 b∨Own M' ρj b)/\W.heap[l]? =some (.loop (rec .done (some c)))/\W.heap[D]? =some (.deferred (some []))/\
   ((∃id,c=.exit id/\Q (.exit id) ⟨L,M',nk',σ.nt,σ.n0⟩)∨(c=.ret/\Q .ret ⟨L,M',nk',σ.nt,σ.n0⟩)))
  ?_ (fun g v h=>hj0.mem.glc h) ?_ ?_ ?_ ?_ ?_).mono ?_
 ·intro b hb;exact hb.elim (fun hk=>by have:=hKlt b hk;omega) fun ho=>(hj0.mem.old b ho).1
 ·refine ⟨hcaps.1,fun j s v hs hv=>(hcaps.2 j s v hs hv).mono oM fun b hb hn=>⟨fun hk=>hk.elim (fun hk=>hn (.inl (hKo b hk hb))) fun ho=>hn (.inr ho),hsame1 b hb⟩⟩
 ·rintro i SA SB SB' W W' ⟨ρj,hj,hSA,hl',hD'⟩ hmv hd
  have hz:=hj.size;refine ⟨ρj,hj.other (hpm i) oM hmv fun b hb=>⟨fun hk=>(hd b hb).1 ((hSA b).2 hk),(hd b hb).2⟩,hSA,?_,?_⟩
  ·exact (hmv.block l oM fun hs=>hj.dis l hs hKl).trans hl'
  ·exact (hmv.block D oM fun hs=>hj.dis D hs hKD).trans hD'
 ·rintro SA SB SB' W W' ⟨c,M',nk',ρj,hj,hpM,hSA,hl',hD',hc⟩ hmv hd
  have hz:=hj.size;refine ⟨c,M',nk',ρj,hj.other hpM oM hmv fun b hb=>⟨fun hk=>(hd b hb).1 ((hSA b).2 hk),(hd b hb).2⟩,hpM,hSA,?_,?_,hc⟩
  ·exact (hmv.block l oM fun hs=>hj.dis l hs hKl).trans hl'
  ·exact (hmv.block D oM fun hs=>hj.dis D hs hKD).trans hD'
 ·-- one round
  rintro i y SA SB W args hy ⟨ρj,hj,hSA,hl',hD'⟩ hSAlt hSBd hargs
  have hz:=hj.size;have hlen:args.length=ps.toList.length:=by rw [hargs.1,henc y]
  have hrun:=run_yield (P:=P) (args:=List.toArray args) hl' (by rw [hrec];simp at hlen ⊢;omega);rw [hrec] at hrun
  have hzip:∀A:Array Value,(ps.zip (List.toArray args)).foldl (fun tmps (t,a)=>tmps.setIfInBounds t a) A=zcf (ps.toList.zip args) A:=fun A=>by
   unfold zcf;rw [← Array.foldl_toList,Array.toList_zip]
  dsimp only at hrun;rw [hzip] at hrun;have hnoL:¬Own (S i) ρj l:=fun ho=>(hj.mem.old l ho).2 (.inl hKl)
  have hnoD:¬Own (S i) ρj D:=fun ho=>(hj.mem.old D ho).2 (.inl hKD)
  have hrel:Rel ⟨W,fun k=>if k < m then ρj k else none,fun b=>K0 b∨SB b,Own (S i) ρj,[]⟩ ⟨zwR ps.toList (enc y) L,S i,nk i,σ.nt,m⟩ ρj { tmps:=zcf (ps.toList.zip args) a.tmps,defers:=[] } W:=by
   refine ⟨by rw [zhi];exact hr.rel.size,rfl,fun t s hlk=>?_,hj.mem,hj.fresh,⟨rfl,rfl,.refl _,Nat.le_refl _,fun _ _ _=>rfl,fun _ h=>.inl h,fun k v hk=>?_⟩,hj.mem.kp,fun k v hk=>?_⟩
   ·rcases zk9 _ _ _ _ _ (henc y).symm hlk with ⟨q,h1,h2⟩ | ⟨h1,h2⟩
    ·have htn:t < σ.nt:=zla hlt t (List.mem_of_getElem? h1);have hq:q < args.length:=by have:=(List.getElem?_eq_some_iff.1 h1).1;omega
     have hzq:(ps.toList.zip args)[q]? =some (t,args[q]):=by
      rw [List.getElem?_zip_eq_some];exact ⟨h1,List.getElem?_eq_getElem hq⟩
     have hnd':((ps.toList.zip args).map Prod.fst).Nodup:=by
      rw [List.map_fst_zip oM];exact zfM hnd
     refine ⟨htn,?_⟩;dsimp only;rw [zk8 _ _ hnd' q t _ hzq (by have:=hr.rel.size;simp only at this;omega)];exact .d _ _ ((hargs.2 q s _ h2 (List.getElem?_eq_getElem hq)).less fun b hb=>hb.elim (fun h=>h.elim (fun h=>.inl ((hSA b).2 (.inl h))) .inr) fun h=>.inl ((hSA b).2 (.inr h)))
    ·obtain ⟨g1,g2⟩:=regsL hj t s h2;refine ⟨g1,?_⟩;dsimp only;rw [zcg _ _ _ fun p hp=>h1 p.1 (List.of_mem_zip hp).1];exact g2
   ·dsimp only at hk
    split at hk
    ·exact hk
    ·cases hk
   ·dsimp only at hk
    split at hk
    ·assumption
    ·cases hk
  refine ⟨fn,_,assign,body,hrun,roundIn_of_wpIn trivial ?_⟩;refine wpIn_mono (uv (yN.wide.inRound l) hT hm assign hd1 hrel (hround i y hy)) (fun e a1 w1 hq=>?_)
  cases e with
  | exit id=>obtain ⟨_,_,hf,_⟩:=hq;exact hf.elim
  | ret=>obtain ⟨_,_,hf,_⟩:=hq;exact hf.elim
  | panic _=>exact hq.elim
  | outgrown=>exact hq.elim
  | goto _=>exact hq.elim
  | normal=>
   obtain ⟨σ1,ρ1,hb,hr1⟩:=hq;have hl1:w1.heap[l]? =some (.loop (rec .ready none)):=(hr1.stp.block l (by show l < W.heap.size;omega) hnoL).trans hl';have hD1:w1.heap[D]? =some (.deferred (some [])):=(hr1.stp.block D (by show D < W.heap.size;omega) hnoD).trans hD';refine ⟨_,run_beginRound hl1 (by rw [hrec]),?_⟩;have hr2:=hr1.put (o':=.loop { rec .ready none with state:=.busy }) hl1 rfl (by intro _ _ h;cases h);have hz1':W.heap.size<=w1.heap.size:=hr1.stp.size;refine wpIn_mono (uv (yN.wide.inRound l) hT hm body hd2 hr2 hb) (fun e a2 w3 hq=>?_)
   have fin:∀(M':List (Nat×Mem)) (nk':Nat) (ρ3:zi) (jump:Option Code),zjj M'->
     Rel ⟨w1.putObj l (.loop { rec .ready none with state:=.busy }),fun k=>if k < m then ρj k else none,fun b=>K0 b∨SB b,Own σ1.M ρ1,[]⟩ ⟨[],M',nk',σ.nt,m⟩ ρ3 a2 w3->
     (Instr.endRound l jump).run P w3=.ok (.bool jump.isNone) (w3.putObj l (.loop (rec (if jump.isNone then .ready else .done) jump)))/\
     Jc E K0 SB (Own (S 0) ρs) m nk' w ρs M' ρ3 (w3.putObj l (.loop (rec (if jump.isNone then .ready else .done) jump)))/\
     Mv SA (fun b=>K0 b∨Own M' ρ3 b) W (w3.putObj l (.loop (rec (if jump.isNone then .ready else .done) jump)))/\
     (∀b,(K0 b∨Own M' ρ3 b)->¬SB b/\b < (w3.putObj l (.loop (rec (if jump.isNone then .ready else .done) jump))).heap.size)/\
     (w3.putObj l (.loop (rec (if jump.isNone then .ready else .done) jump))).heap[l]? =some (.loop (rec (if jump.isNone then .ready else .done) jump))/\
     (w3.putObj l (.loop (rec (if jump.isNone then .ready else .done) jump))).heap[D]? =some (.deferred (some [])):=by
    intro M' nk' ρ3 jump hpM hr3;have hz3:w1.heap.size<=w3.heap.size:=by have:=hr3.stp.size;rwa [World.putObj_size] at this
    have hlt1:l < w1.heap.size:=(Array.getElem?_eq_some_iff.1 hl1).1;have hnoL1:¬Own σ1.M ρ1 l:=fun ho=>(hr1.mem.old l ho).2 (.inl hKl)
    have hnoD1:¬Own σ1.M ρ1 D:=fun ho=>(hr1.mem.old D ho).2 (.inl hKD)
    have hl3:w3.heap[l]? =some (.loop { rec .ready none with state:=.busy }):=
     (hr3.stp.block l (by show l < (World.putObj _ _ _).heap.size;rw [World.putObj_size];exact hlt1) hnoL1).trans (World.putObj_heap_same hlt1)
    have hD3:w3.heap[D]? =some (.deferred (some [])):=
     (hr3.stp.block D (by show D < (World.putObj _ _ _).heap.size;rw [World.putObj_size];omega) hnoD1).trans ((World.putObj_heap_other oM).trans hD1)
    have hend:=run_endRound (P:=P) jump hl3;have erec:({ ({ rec .ready none with state:=.busy }:Loop) with state:=if jump.isNone then .ready else .done,pending:=jump }:Loop)=rec (if jump.isNone then .ready else .done) jump:=by rw [hrec]
    rw [erec] at hend;clear erec;have hlt3:l < w3.heap.size:=oM
    have hown3:∀b,Own M' ρ3 b->Own (S i) ρj b∨W.heap.size<=b:=fun b ho=>(hr3.stp.own b ho).elim (fun h1=>hr1.stp.own b h1) fun hge=>by
     have hge:(w1.putObj l (.loop { rec .ready none with state:=.busy })).heap.size<=b:=hge;rw [World.putObj_size] at hge;exact .inr oM
    have hblk:∀b,b < W.heap.size->¬Own (S i) ρj b->b≠l->(w3.putObj l (.loop (rec (if jump.isNone then .ready else .done) jump))).heap[b]? =W.heap[b]? :=fun b hb hn hne=>by
     refine (World.putObj_heap_other hne).trans ?_;refine (hr3.stp.block b (by show b < (World.putObj _ _ _).heap.size;rw [World.putObj_size];omega) fun h1=>(hr1.stp.own b h1).elim hn fun hge=>?_).trans ?_
     ·have hge:W.heap.size<=b:=hge;omega
     ·exact (World.putObj_heap_other hne).trans (hr1.stp.block b hb hn)
    have hout:kL W (w3.putObj l (.loop (rec (if jump.isNone then .ready else .done) jump))):=
     hr1.stp.output.trans ((kL.put hl1 rfl rfl).trans (hr3.stp.output.trans (kL.put hl3 rfl rfl)))
    have hos:w3.os=W.os:=hr3.stp.os.trans hr1.stp.os;have htape:w3.tape=W.tape:=hr3.stp.tape.trans hr1.stp.tape;have hmem:zJ (fun b=>K0 b∨SB b) M' ρ3 (w3.putObj l (.loop (rec (if jump.isNone then .ready else .done) jump))):=hr3.mem.put hl3 rfl (by intro _ _ h;cases h);have hname:∀k v,k < m->ρs k=some v->ρ3 k=some v:=fun k v hk hv=>hr3.stp.rho k v (by show (if k < m then ρj k else none)=some v;rw [if_pos hk];exact hj.names k v hk hv)
    refine ⟨hend,⟨hmem,hname,hr3.fresh,⟨hos.trans hj.stp.os,htape.trans hj.stp.tape,hj.stp.output.trans hout,?_,fun b hb hn=>?_,fun b ho=>?_,fun k v hv=>?_⟩,fun b hb hn=>?_,?_,hj.sb,fun b ho=>?_,hj.dis⟩,
     ⟨⟨hos,htape,hout,?_,fun b hb hn=>?_,fun b hb=>?_,fun _ _ h=>h⟩,fun g v h _=>hmem.glc h⟩,fun b hb=>?_,World.putObj_heap_same hlt3,(World.putObj_heap_other oM).trans hD3⟩
    ·have:=hj.stp.size;rw [World.putObj_size];omega
    ·have hb':=hE0 b hb;exact (hblk b oM (fun ho=>(hj.stp.own b ho).elim hn fun hge=>by omega) oM).trans (hj.stp.block b hb hn)
    ·exact (hown3 b ho).elim (hj.stp.own b) fun hge=>.inr (by have:=hj.stp.size;omega)
    ·have h1:k < σ.n0:=hr.rel.low k v (by rw [hr.rho];exact hv);exact hname k v oM (hr.stp.rho k v hv)
    ·exact (hblk b oM (fun ho=>(hj.own b ho).elim hn fun hge=>by omega) oM).trans (hj.same b hb hn)
    ·rw [World.putObj_size];omega
    ·exact (hown3 b ho).elim (hj.own b) fun hge=>.inr oM
    ·rw [World.putObj_size];omega
    ·exact hblk b hb (fun ho=>hn ((hSA b).2 (.inr ho))) fun e=>hn ((hSA b).2 (.inl (e ▸ hKl)))
    ·exact hb.elim (fun hk=>.inl ((hSA b).2 (.inl hk))) fun ho=>(hown3 b ho).imp (fun h=>(hSA b).2 (.inr h)) id
    ·exact hb.elim (fun hk=>⟨fun hs=>hj.dis b hs hk,hmem.kp b (.inl hk)⟩) fun ho=>⟨fun hs=>(hmem.old b ho).2 (.inr hs),(hmem.old b ho).1⟩
   cases e with
   | normal=>
    obtain ⟨σ2,ρ2,hs2,hr3⟩:=hq;obtain ⟨ρ3,hr3⟩:=hs2 _ ρ2 a2 w3 hr3;obtain ⟨f1,f2,f3,f4,f5,f6⟩:=fin _ _ ρ3 none (hpm (i+1)) hr3;exact ⟨_,_,f1,fun b=>K0 b∨Own (S (i+1)) ρ3 b,f3,f4,.inl ⟨rfl,ρ3,f2,fun b=>Iff.rfl,f5,f6⟩⟩
   | ret=>
    obtain ⟨σ2,ρ2,⟨M',nk',hs2,hpM,hQ⟩,hr3⟩:=hq;obtain ⟨ρ3,hr3⟩:=hs2 _ ρ2 a2 w3 hr3;obtain ⟨f1,f2,f3,f4,f5,f6⟩:=fin _ _ ρ3 (some .ret) hpM hr3;exact ⟨_,_,f1,fun b=>K0 b∨Own M' ρ3 b,f3,f4,.inr ⟨rfl,.ret,M',nk',ρ3,f2,hpM,fun b=>Iff.rfl,f5,f6,.inr ⟨rfl,hQ⟩⟩⟩
   | exit id=>
    obtain ⟨σ2,ρ2,⟨M',nk',hs2,hpM,hQ⟩,hr3⟩:=hq;obtain ⟨ρ3,hr3⟩:=hs2 _ ρ2 a2 w3 hr3;obtain ⟨f1,f2,f3,f4,f5,f6⟩:=fin _ _ ρ3 (some (.exit id)) hpM hr3;exact ⟨_,_,f1,fun b=>K0 b∨Own M' ρ3 b,f3,f4,.inr ⟨rfl,.exit id,M',nk',ρ3,f2,hpM,fun b=>Iff.rfl,f5,f6,.inl ⟨id,rfl,hQ⟩⟩⟩
   | goto _=>exact hq.elim
   | panic _=>exact hq.elim
   | outgrown=>exact hq.elim
 ·exact ⟨ρs,hj0,fun b=>Iff.rfl,hL1,hK1'⟩
 -- behind the iterator
 have finR:∀(M':List (Nat×Mem)) (nk':Nat) (ρj:zi) (SB:Nat->Prop) (W2:World) (r r':Loop),zjj M'->Jc E K0 SB (Own (S 0) ρs) m nk' w ρs M' ρj W2->W2.heap[l]? =some (.loop r)->W2.heap[D]? =some (.deferred (some []))->
   RR E ⟨W2.putObj l (.loop r'),E1.ρ0,fun b=>E1.Keep b∨b=D,Own M' ρj,{ target:=.collected D,args:=#[] }::E1.ds⟩ ⟨L,M',nk',σ.nt,σ.n0⟩ ρj { a with defers:=[{ target:=.collected D,args:=#[] }]++a.defers } (W2.putObj l (.loop r')):=by
  intro M' nk' ρj SB W2 r r' hpM hj hl' hD';have hz:=hj.size
  have hnm:∀k v,E1.ρ0 k=some v->ρj k=some v:=fun k v hv=>by
   have h1:k < σ.n0:=hr.rel.low k v hv;rw [hr.rho] at hv;exact hj.names k v oM (hr.stp.rho k v hv)
  have hmem:zJ (fun b=>E1.Keep b∨b=D) M' ρj (W2.putObj l (.loop r')):=(hj.mem.put hl' rfl (by intro _ _ h;cases h)).few hpM fun b hb=>.inl (hb.elim (hK1 b) fun e=>e ▸ hKD)
  refine ⟨⟨hr.rel.size,?_,fun t s hlk=>?_,hmem,hj.fresh,⟨rfl,rfl,.refl _,Nat.le_refl _,fun _ _ _=>rfl,fun _ h=>.inl h,hnm⟩,hmem.kp,hr.rel.low⟩,hr.rho,fun b hb=>.inl (hr.kp b hb),
   ⟨hj.stp.os,hj.stp.tape,hj.stp.output.trans (kL.put hl' rfl rfl),?_,fun b hb hn=>?_,hj.stp.own,hj.stp.rho⟩,fun d hd=>?_,?_⟩
  ·show [_]++a.defers=_::E1.ds;rw [hr.rel.defers];rfl
  ·obtain ⟨g1,g2⟩:=regsL hj t s hlk;exact ⟨g1,(g2.put hl' rfl).pf (Nat.le_refl _) (fun b _ hn=>⟨fun hk=>hn (hk.elim (fun h=>.inl (.inl (h.elim (hK1 b) fun e=>e ▸ hKD))) .inr),rfl⟩) (zmK hpf hlk).1⟩
  ·rw [World.putObj_size];exact hj.stp.size
  ·have hb':=hE0 b hb;exact (World.putObj_heap_other oM).trans (hj.stp.block b hb hn)
  ·cases hd with
   | head=>exact ⟨D,rfl,.inr rfl,oM,(World.putObj_heap_other oM).trans hD'⟩
   | tail _ hd=>
    obtain ⟨D',e,hk,hge,hh⟩:=hr.marks d hd;have hlt':=hr.rel.mem.kp D' hk;exact ⟨D',e,.inl hk,hge,(World.putObj_heap_other oM).trans ((hj.same D' hlt' fun ho=>(hr.rel.mem.old D' ho).2 hk).trans hh)⟩
  ·refine List.pairwise_cons.2 ⟨fun e he D1 D2 h1 h2=>?_,hr.apart⟩;obtain ⟨D',rfl,hk,_,_⟩:=hr.marks e he;have hlt':=hr.rel.mem.kp D' hk
   cases h1
   cases h2
   omega
 rintro e W2 ⟨⟨v,rfl⟩,SA',SB',(⟨ρj,hj,_,hl',hD'⟩ | ⟨c,M',nk',ρj,hj,hpM,_,hl',hD',hc⟩)⟩
 ·have he:=run_endLoop (P:=P) hl' (by rw [hrec];simp);have hpn:(rec .ready none).pending=none:=by rw [hrec]
  rw [hpn] at he;exact ⟨none,_,he,_,_,ρj,hdone,finR _ _ ρj SB' W2 _ _ (hpm _) hj hl' hD'⟩
 ·have he:=run_endLoop (P:=P) hl' (by rw [hrec];simp);have hpn:(rec .done (some c)).pending=some c:=by rw [hrec]
  rw [hpn] at he;refine ⟨some c,_,he,?_⟩
  rcases hc with ⟨id,rfl,hQ⟩ | ⟨rfl,hQ⟩
  ·exact wpIn_exit ⟨_,_,ρj,hQ,finR _ _ ρj SB' W2 _ _ hpM hj hl' hD'⟩
  ·exact wpIn_ret ⟨_,_,ρj,hQ,finR _ _ ρj SB' W2 _ _ hpM hj hl' hD'⟩
end Go.Gs
