/- A loop over a function: what is left to be shown is enough. -/
import Derived.Test.YtakicgnbhdpknaaGreatDoorPAY
set_option maxRecDepth 100000
set_option maxHeartbeats 8000000
set_option linter.all false
namespace Go.Gs
section
structure Jc (E:Env) (K0 SB Own0:LI) (m nkv:Nat) (w0:World) (ρs:zh) (M:LT) (ρj:zh) (W:World):Prop where
 mem:zJ (λb=>K0 b∨SB b) M ρj W
 names:∀k v,k<m->ρs k=some v->ρj k=some v
 fresh:∀k,nkv<=k->ρj k=none
 stp:Stp E.W0 (Own M ρj) E.ρ0 ρj E.w0 W
 same:∀b,b<w0.heap.size->¬Own0 b->W.heap[b]?=w0.heap[b]?
 size:w0.heap.size+2<=W.heap.size
 sb:∀b,SB b->w0.heap.size+2<=b
 own:∀b,Own M ρj b->Own0 b∨w0.heap.size+2<=b
 dis:∀b,SB b->¬K0 b
def Jc.other{E:Env}{K0 SB SB' Own0:LI}{m nkv:Nat}{l:World}{ρs ρj:zh}{M:LT}{W W':World}(h:Jc E K0 SB Own0 m nkv l ρs M ρj W)(q:zlE M)(s:E.w0.heap.size<=l.heap.size)(d:Mv SB SB' W W')(g:∀b,SB' b->¬(K0 b∨Own M ρj b)/\b<W'.heap.size):Jc E K0 SB' Own0 m nkv l ρs M ρj W':=by
 have t:=h.size
 refine⟨h.mem.other q d λb e=>⟨λp=>(g b e).1 (.inr p),(g b e).2⟩,h.names,h.fresh,
  ⟨d.os.trans h.stp.os,d.tape.trans h.stp.tape,h.stp.output.trans d.output,XB h.stp.size d.size,λb e i=>?_,h.stp.own,h.stp.rho⟩,
  λb e i=>?_,XB h.size d.size,λb e=>?_,h.own,λb e k=>(g b e).1 (.inl k)⟩
 .exact(d.block b oM λj=>by have:=h.sb b j;omega).trans (h.stp.block b e i)
 .exact(d.block b oM λj=>by have:=h.sb b j;omega).trans (h.same b e i)
 exact(d.own b e).elim (h.sb b) λo=>oM
def zhi:∀{l:LC},zaJ l=true->l.Nodup
 |[],_=>List.nodup_nil
 |k::r,h=>by
  unfold zaJ at h
  split at h
  .cases h
  rename_i b;exact QS.2 ⟨λd=>(by rw[zgJ d]at b;cases b),zhi h⟩
def zAH{P:Program}(w:World)(fn:FuncId)(tmps:Array Value)(d:Array Tmp)(assign body:Code):∃W1,
  (Instr.enterLoop fn tmps d assign body none).run P w=.ok (w.heap.size+1,[{ target:=.collected w.heap.size,args:=#[] }]) W1/\
  W1.heap[w.heap.size+1]?=some (.loop { state:=.ready,pending:=none,fn,tmps,params:=d,assign,body,defers:=w.heap.size })/\W1.heap[w.heap.size]?=some (.deferred (some []))/\
  W1.heap.size=w.heap.size+2/\(∀b,b<w.heap.size->W1.heap[b]?=w.heap[b]?)/\kR w W1/\W1.os=w.os/\W1.tape=w.tape:=by
 refine⟨_,run_enterLoop_outer _ _ _ _ _,?_,(RowKit.Below.heap_alloc _ _ _ sI).trans (World.alloc_heap_new w _),sI,λb h=>(RowKit.Below.heap_alloc _ _ _ (by simp;omega)).trans (RowKit.Below.heap_alloc _ _ _ h),?_,rfl,rfl⟩
 .have:=World.alloc_heap_new (w.alloc (.deferred (some []))) (.loop { state:=.ready,pending:=none,fn,tmps,params:=d,assign,body,defers:=w.heap.size });rwa [World.size_alloc]at this
 have one:∀(w:World) (o:Obj),o.isCells=false->kR w (w.alloc o):=λw o i=>⟨rfl,λb=>by
  unfold World.frozen?
  by_cases e:b.block=w.heap.size
  .rw[e,World.alloc_heap_new,K3 (Xj _)]
   cases o <;> first|rfl|cases i
  by_cases g:b.block<w.heap.size
  .rw[RowKit.Below.heap_alloc _ _ _ g]
  rw[K3 (by rw[World.size_alloc];omega),K3 oM]⟩
 exact(one w _ rfl).trans (one _ _ rfl)
def zrL{S Pm:LI}{O:zh}{w:World}{b:LC}{h:LR}{L:LP}{args:LA}{A:Array Value}(o:zaJ b=true)(l:znN A.size b=true)(j:h.length=b.length)(hargs:Ds S w h args)(hL:∀t s,kF L t=some s->t<A.size/\G S Pm O w s (A.getD t undef))(t:Nat)(s:SV)(k:kF (zmQ b h L) t=some s):t<A.size/\G S Pm O w s ((vF (b.zip args) A).getD t undef):=by
 obtain⟨q,e,i⟩|⟨e,i⟩:=znM _ _ _ _ _ j.symm k
 .have g:t<A.size:=znO l t (Xf e);have B:=hargs.1;have x:q<args.length:=by have:=(Xd.1 e).1;omega
  have v:(b.zip args)[q]?=some (t,args[q]):=by
   rw[List.getElem?_zip_eq_some];exact⟨e,Xb x⟩
  refine⟨g,?_⟩;rw[znL _ _ (by rw[List.map_fst_zip oM];exact zhi o) q t _ v g];exact .d _ _ (hargs.2 q s _ i (Xb x))
 obtain⟨y,z⟩:=hL t s i;refine⟨y,?_⟩;rw[zdb _ _ _ λp C=>e p.1 (List.of_mem_zip C).1];exact z
variable{P:Program}{H:LS}{O:zh}{a:Act}{f:FuncId}{Q:LH}
def zrM(hT:TOK P H)(hm:P.follows .mixedOrders=true){E E':Env}{Z:St}{w:World}(hr0:RR E E' Z O a w)
{caps:LR} {vs:LA} {g:Operand} {ps:Array Tmp} {assign body:Code}
  (hg:a.eval g=.func (.func f) #[] vs.toArray) (K:Ds (λb=>E'.Keep b∨Own Z.M O b) w caps vs) (h:zvE P H f caps ps.toList assign body Z Q):
  (Code.rangeFunc g ps assign body).wpIn Fence.wide 0 P (zlF E Q) a w:=by
 obtain⟨β,enc,ys,m,L,S,nk,⟨hcall,hit⟩,henc,⟨hnd,hlt,hd1,hd2⟩,hsub,⟨hn0,hpf⟩,hpm,hround,hdone⟩:=h;obtain⟨ρs,hrs0⟩:=hsub _ O a w hr0.rel.cut;have hown0:∀b,Own (S 0) ρs b->Own Z.M O b:=λb o=>(hrs0.stp.own b o).resolve_right λJ=>by have:=(hrs0.mem.old b o).1;have J:w.heap.size<=b:=J;omega
 have C:=hr0.next hrs0
 have K:Ds (λb=>E'.Keep b∨Own (S 0) ρs b) w caps vs:=⟨K.1,λj s v X V=>(K.2 j s v X V).less λb o=>o.imp id (hown0 b)⟩;obtain⟨E1,hE1⟩:∃E1:Env,E1=⟨w,E'.ρ0,E'.Keep,Own Z.M O,E'.ds⟩:=⟨_,rfl⟩;have hkeep:E1.Keep=E'.Keep:=by rw[hE1]
 rw[←hE1]at C;rw[←hkeep]at K;clear hE1 hkeep hrs0 hr0 hsub hown0;have hsz0:=C.stp.size;refine wpIn_rangeFunc λfn _=>?_;obtain⟨rec,hrec⟩:∃rec:LoopState->Option Code->Loop,rec=λst pe=>{ state:=st,pending:=pe,fn,tmps:=a.tmps,params:=ps,assign,body,defers:=w.heap.size }:=⟨_,rfl⟩
 obtain⟨W1,hin,hL1,hK1',hz1,hsame1,hout1,hos1⟩:=zAH (P:=P) w fn a.tmps ps assign body;rw[show({ state:=.ready,pending:=none,fn,tmps:=a.tmps,params:=ps,assign,body,defers:=w.heap.size }:Loop)=rec .ready none from by rw[hrec]]at hL1;obtain⟨l,hl⟩:∃l,l=w.heap.size+1:=⟨_,rfl⟩;obtain⟨D,hD⟩:∃D,D=w.heap.size:=⟨_,rfl⟩;rw[←hl]at hL1;rw[←hD]at hK1';have hDl:D<l:=oM;have hE0:∀b,b<E.w0.heap.size->b<w.heap.size:=λb o=>Xx o hsz0
 obtain⟨K0,hK0⟩:∃K0:LI,K0=λb=>E1.Keep b∨b=D∨b=l:=⟨_,rfl⟩
 have hKl:K0 l:=by rw[hK0];exact .inr (.inr rfl)
 have hKD:K0 D:=by rw[hK0];exact .inr (.inl rfl)
 have hK1:∀b,E1.Keep b->K0 b:=λb o=>by rw[hK0];exact .inl o
 have hKlt:∀b,K0 b->b<w.heap.size+2:=λb o=>by
  rw[hK0]at o
  rcases o with o|rfl|rfl
  .have:=C.rel.mem.kp b o;omega
  .omega
  omega
 have hKo:∀b,K0 b->b<w.heap.size->E1.Keep b:=λb o hlt=>by
  rw[hK0]at o
  rcases o with o|rfl|rfl
  .exact o
  .omega
  omega
 have hKe:∀b,K0 b->E1.Keep b∨b=D∨b=l:=λb o=>by rw[hK0]at o;exact o
 clear hK0
 -- what lies in the slots,looked at later
 have regsL:∀{SB:LI} {M:LT} {nkv:Nat} {ρj:zh} {W:World},Jc E K0 SB (Own (S 0) ρs) m nkv w ρs M ρj W->∀t s,kF L t=some s->
   t<Z.nt/\G (λb=>(K0 b∨SB b)∨Own M ρj b) (Own M ρj) ρj W s (a.tmps.getD t undef):=λ{SB M nkv ρj W} p t s x=>by
  obtain⟨h1,h2⟩:=C.rel.regs t s x;obtain⟨p1,p2⟩:=zpx hpf x;have hz:=p.size;refine⟨h1,(h2.pf (w':=W) oM (λb o T=>⟨λq=>?_,p.same b o λI=>T (.inr I)⟩) p1).low p.names p2⟩
  rcases q with(q|q)|q
  .exact T (.inl (hKo b q o))
  .have:=p.sb b q;omega
  exact(p.own b q).elim (λI=>T (.inr I)) λJ=>oM
 -- the first round
 have hst1:Stp (Own (S 0) ρs) (Own (S 0) ρs) ρs ρs w W1:=⟨hos1.1,hos1.2,hout1,oM,λb o _=>hsame1 b o,λ_ h=>.inl h,λ_ _ h=>h⟩
 have hj0:Jc E K0 (λ_=>False) (Own (S 0) ρs) m (nk 0) w ρs (S 0) ρs W1:=by
  refine⟨?_,λ_ _ _ h=>h,C.rel.fresh,C.stp.trans hst1,λb o _=>hsame1 b o,oM,λ_ h=>h.elim,λb h=>.inl h,λ_ h=>h.elim⟩
  have hm1:zJ E1.Keep (S 0) ρs W1:=⟨λk mm q=>(C.rel.mem.rel k mm q).keep hst1 rfl (λv b V o=>hsame1 b (C.rel.mem.old b ⟨k,mm,v,q,V,o⟩).1),C.rel.mem.keys,C.rel.mem.apart,
   λb o=>⟨by have:=(C.rel.mem.old b o).1;omega,(C.rel.mem.old b o).2⟩,λb o=>by have:=C.rel.mem.kp b o;omega,C.rel.mem.glS hst1⟩
  -- two new blocks are kept apart
  refine⟨λk mm q=>?_,hm1.keys,hm1.apart,λb o=>⟨(hm1.old b o).1,λq=>?_⟩,λb o=>o.elim (λq=>by have:=hKlt b q;omega) λh=>h.elim,hm1.gl⟩
  .have hst2:Stp (Own (S 0) ρs) (λb=>Own (S 0) ρs b∨b=D∨b=l) ρs ρs w W1:=⟨hst1.os,hst1.tape,hst1.output,hst1.size,hst1.block,λb o=>o.elim .inl λh=>.inr oM,hst1.rho⟩;have hb0:=(C.rel.mem.rel k mm q).keep hst2 rfl (λv b V o=>hsame1 b (C.rel.mem.old b ⟨k,mm,v,q,V,o⟩).1);exact hb0.pf (λb o=>o.elim (λh=>h.elim (λh=>(hKe b h).imp id .inr) λh=>h.elim) λh=>.inr (.inl h)) (hpm 0 k mm q)
  have hlt:=(C.rel.mem.old b o).1;exact q.elim (λq=>(C.rel.mem.old b o).2 (hKo b q hlt)) λh=>h
 refine⟨l,[{ target:=.collected D,args:=#[] }],W1,{ target:=.fn (.func f) vs.toArray,args:=#[.func (.yield l) #[] #[]] },W1,f,
  List.toArray (.func (.yield l) #[] #[]::vs),W1,?_,?_,λ_ _=>trivial,?_,ym.wide.need,?_⟩
 .rw[hl,hD];exact hin
 .simp only[resolve,hg];simp[go_sem]
 .obtain⟨fn',c1,c2,c3⟩:=hcall;simp only[invoke,callFunc,Sem.run_bind,Sem.run_pure,Result.andThen_ok,run_program,c1,c2,c3,KF,if_false];simp
 refine(hit (λb=>K0 b∨Own (S 0) ρs b) W1 vs l
  (λi SA SB W=>∃ρj,Jc E K0 SB (Own (S 0) ρs) m (nk i) w ρs (S i) ρj W/\(∀b,SA b↔K0 b∨Own (S i) ρj b)/\W.heap[l]?=some (.loop (rec .ready none))/\W.heap[D]?=some (.deferred (some [])))
  (λSA SB W=>∃c M' B ρj,Jc E K0 SB (Own (S 0) ρs) m B w ρs M' ρj W/\zlE M'/\(∀b,SA b↔K0 b∨Own M' ρj b)/\W.heap[l]?=some (.loop (rec .done (some c)))/\W.heap[D]?=some (.deferred (some []))/\
   ((∃id,c=.exit id/\Q (.exit id) ⟨L,M',B,Z.nt,Z.n0⟩)∨(c=.ret/\Q .ret ⟨L,M',B,Z.nt,Z.n0⟩)))
  ?_ (λg v h=>hj0.mem.glc h) ?_ ?_ ?_ ?_ ?_).mono ?_
 .intro b o;exact o.elim (λq=>by have:=hKlt b q;omega) λI=>(hj0.mem.old b I).1
 .refine⟨K.1,λj s v X V=>(K.2 j s v X V).mono oM λb o T=>⟨λq=>q.elim (λq=>T (.inl (hKo b q o))) λI=>T (.inr I),hsame1 b o⟩⟩
 .rintro i SA SB SB' W W' ⟨ρj,p,hSA,x,hD'⟩ Y hd
  have hz:=p.size;refine⟨ρj,p.other (hpm i) oM Y λb o=>⟨λq=>(hd b o).1 ((hSA b).2 q),(hd b o).2⟩,hSA,?_,?_⟩
  .exact(Y.block l oM λX=>p.dis l X hKl).trans x
  exact(Y.block D oM λX=>p.dis D X hKD).trans hD'
 .rintro SA SB SB' W W' ⟨c,M',B,ρj,p,hpM,hSA,x,hD',hc⟩ Y hd
  have hz:=p.size;refine⟨c,M',B,ρj,p.other hpM oM Y λb o=>⟨λq=>(hd b o).1 ((hSA b).2 q),(hd b o).2⟩,hpM,hSA,?_,?_,hc⟩
  .exact(Y.block l oM λX=>p.dis l X hKl).trans x
  exact(Y.block D oM λX=>p.dis D X hKD).trans hD'
 ·-- one round
  rintro i y SA SB W args hy ⟨ρj,p,hSA,x,hD'⟩ hSAlt hSBd hargs
  have hz:=p.size;have hlen:args.length=ps.toList.length:=by rw[hargs.1,henc y]
  have hrun:=run_yield (P:=P) (args:=List.toArray args) x (by rw[hrec];simp at hlen ⊢;omega);rw[hrec]at hrun
  have hzip:∀A:Array Value,(ps.zip (List.toArray args)).foldl (λtmps (t,a)=>tmps.setIfInBounds t a) A=vF (ps.toList.zip args) A:=λA=>by
   unfold vF;rw[←JY,Array.toList_zip]
  dsimp only at hrun;rw[hzip]at hrun;have hnoL:¬Own (S i) ρj l:=λI=>(p.mem.old l I).2 (.inl hKl)
  have hnoD:¬Own (S i) ρj D:=λI=>(p.mem.old D I).2 (.inl hKD)
  have hrel:Rel ⟨W,λk=>if k<m then ρj k else none,λb=>K0 b∨SB b,Own (S i) ρj,[]⟩ ⟨zmQ ps.toList (enc y) L,S i,nk i,Z.nt,m⟩ ρj { tmps:=vF (ps.toList.zip args) a.tmps,defers:=[] } W:=by
   have hsz:a.tmps.size=Z.nt:=C.rel.size;refine⟨by rw[zen];exact hsz,rfl,λt s hlk=>?_,p.mem,p.fresh,⟨rfl,rfl,.refl _,Xj _,λ_ _ _=>rfl,λ_ h=>.inl h,λk v q=>?_⟩,p.mem.kp,λk v q=>?_⟩
   .have:=zrL hnd (hsz ▸ hlt) (henc y) ⟨hargs.1,λj s v X V=>(hargs.2 j s v X V).less λb o=>o.elim (λh=>h.elim (λh=>.inl ((hSA b).2 (.inl h))) .inr) λh=>.inl ((hSA b).2 (.inr h))⟩ (λt s x=>hsz ▸ regsL p t s x) t s hlk
    rwa [hsz]at this
   .dsimp only at q
    split at q
    .exact q
    cases q
   dsimp only at q
   split at q
   .assumption
   cases q
  refine⟨fn,_,assign,body,hrun,roundIn_of_wpIn trivial ?_⟩;refine wpIn_mono (uT (ym.wide.inRound l) hT hm assign hd1 hrel (hround i y hy ⟨_,_,_,_,hrel⟩)) (λe a1 w1 hq=>?_)
  cases e with
  |exit id=>obtain⟨_,_,hf,_⟩:=hq;exact hf.elim
  |ret=>obtain⟨_,_,hf,_⟩:=hq;exact hf.elim
  |panic _=>exact hq.elim
  |outgrown=>exact hq.elim
  |goto _=>exact hq.elim
  |normal=>
   obtain⟨Z1,O1,o,R⟩:=hq;have hl1:w1.heap[l]?=some (.loop (rec .ready none)):=(R.stp.block l (by show l<W.heap.size;omega) hnoL).trans x;have hD1:w1.heap[D]?=some (.deferred (some [])):=(R.stp.block D (by show D<W.heap.size;omega) hnoD).trans hD';refine⟨_,run_beginRound hl1 (by rw[hrec]),?_⟩;have hr2:=R.put (o':=.loop { rec .ready none with state:=.busy }) hl1 rfl (by intro _ _ h;cases h);have hz1':W.heap.size<=w1.heap.size:=R.stp.size;refine wpIn_mono (uT (ym.wide.inRound l) hT hm body hd2 hr2 o) (λe a2 U hq=>?_)
   have fin:∀(M':LT) (B:Nat) (O3:zh) (jump:Option Code),zlE M'->
     Rel ⟨w1.putObj l (.loop { rec .ready none with state:=.busy }),λk=>if k<m then ρj k else none,λb=>K0 b∨SB b,Own Z1.M O1,[]⟩ ⟨[],M',B,Z.nt,m⟩ O3 a2 U->
     (Instr.endRound l jump).run P U=.ok (.bool jump.isNone) (U.putObj l (.loop (rec (if jump.isNone then .ready else .done) jump)))/\
     Jc E K0 SB (Own (S 0) ρs) m B w ρs M' O3 (U.putObj l (.loop (rec (if jump.isNone then .ready else .done) jump)))/\
     Mv SA (λb=>K0 b∨Own M' O3 b) W (U.putObj l (.loop (rec (if jump.isNone then .ready else .done) jump)))/\
     (∀b,(K0 b∨Own M' O3 b)->¬SB b/\b<(U.putObj l (.loop (rec (if jump.isNone then .ready else .done) jump))).heap.size)/\
     (U.putObj l (.loop (rec (if jump.isNone then .ready else .done) jump))).heap[l]?=some (.loop (rec (if jump.isNone then .ready else .done) jump))/\
     (U.putObj l (.loop (rec (if jump.isNone then .ready else .done) jump))).heap[D]?=some (.deferred (some [])):=by
    intro M' B O3 jump hpM z;have hz3:w1.heap.size<=U.heap.size:=by have:=z.stp.size;rwa [World.putObj_size]at this
    have hlt1:l<w1.heap.size:=(X3.1 hl1).1;have hnoL1:¬Own Z1.M O1 l:=λI=>(R.mem.old l I).2 (.inl hKl)
    have hnoD1:¬Own Z1.M O1 D:=λI=>(R.mem.old D I).2 (.inl hKD)
    have hl3:U.heap[l]?=some (.loop { rec .ready none with state:=.busy }):=
     (z.stp.block l (by show l<(World.putObj _ _ _).heap.size;rw[World.putObj_size];exact hlt1) hnoL1).trans (World.putObj_heap_same hlt1)
    have hD3:U.heap[D]?=some (.deferred (some [])):=
     (z.stp.block D (by show D<(World.putObj _ _ _).heap.size;rw[World.putObj_size];omega) hnoD1).trans ((World.putObj_heap_other oM).trans hD1)
    have hend:=run_endRound (P:=P) jump hl3;have erec:({ ({ rec .ready none with state:=.busy }:Loop) with state:=if jump.isNone then .ready else .done,pending:=jump }:Loop)=rec (if jump.isNone then .ready else .done) jump:=by rw[hrec]
    rw[erec]at hend;clear erec;have hlt3:l<U.heap.size:=oM
    have hown3:∀b,Own M' O3 b->Own (S i) ρj b∨W.heap.size<=b:=λb I=>(z.stp.own b I).elim (λh1=>R.stp.own b h1) λJ=>by
     have J:(w1.putObj l (.loop { rec .ready none with state:=.busy })).heap.size<=b:=J;rw[World.putObj_size]at J;exact .inr oM
    have hblk:∀b,b<W.heap.size->¬Own (S i) ρj b->b≠l->(U.putObj l (.loop (rec (if jump.isNone then .ready else .done) jump))).heap[b]?=W.heap[b]? :=λb o T hne=>by
     refine(World.putObj_heap_other hne).trans ?_;refine(z.stp.block b (by show b<(World.putObj _ _ _).heap.size;rw[World.putObj_size];omega) λh1=>(R.stp.own b h1).elim T λJ=>?_).trans ?_
     .have J:W.heap.size<=b:=J;omega
     exact(World.putObj_heap_other hne).trans (R.stp.block b o T)
    have hout:kR W (U.putObj l (.loop (rec (if jump.isNone then .ready else .done) jump))):=
     R.stp.output.trans ((kR.put hl1 rfl rfl).trans (z.stp.output.trans (kR.put hl3 rfl rfl)))
    have hos:U.os=W.os:=z.stp.os.trans R.stp.os;have htape:U.tape=W.tape:=z.stp.tape.trans R.stp.tape;have N:zJ (λb=>K0 b∨SB b) M' O3 (U.putObj l (.loop (rec (if jump.isNone then .ready else .done) jump))):=z.mem.put hl3 rfl (by intro _ _ h;cases h);have hname:∀k v,k<m->ρs k=some v->O3 k=some v:=λk v q V=>z.stp.rho k v (by show(if k<m then ρj k else none)=some v;rw[Xe q];exact p.names k v q V)
    refine⟨hend,⟨N,hname,z.fresh,⟨hos.trans p.stp.os,htape.trans p.stp.tape,p.stp.output.trans hout,?_,λb o T=>?_,λb I=>?_,λk v V=>?_⟩,λb o T=>?_,?_,p.sb,λb I=>?_,p.dis⟩,
     ⟨⟨hos,htape,hout,?_,λb o T=>?_,λb o=>?_,λ_ _ h=>h⟩,λg v h _=>N.glc h⟩,λb o=>?_,World.putObj_heap_same hlt3,(World.putObj_heap_other oM).trans hD3⟩
    .have:=p.stp.size;rw[World.putObj_size];omega
    .have hb':=hE0 b o;exact(hblk b oM (λI=>(p.stp.own b I).elim T λJ=>by omega) oM).trans (p.stp.block b o T)
    .exact(hown3 b I).elim (p.stp.own b) λJ=>.inr (by have:=p.stp.size;omega)
    .have h1:k<Z.n0:=C.rel.low k v (by rw[C.rho];exact V);exact hname k v oM (C.stp.rho k v V)
    .exact(hblk b oM (λI=>(p.own b I).elim T λJ=>by omega) oM).trans (p.same b o T)
    .rw[World.putObj_size];omega
    .exact(hown3 b I).elim (p.own b) λJ=>.inr oM
    .rw[World.putObj_size];omega
    .exact hblk b o (λI=>T ((hSA b).2 (.inr I))) λe=>T ((hSA b).2 (.inl (e ▸ hKl)))
    .exact o.elim (λq=>.inl ((hSA b).2 (.inl q))) λI=>(hown3 b I).imp (λh=>(hSA b).2 (.inr h)) id
    exact o.elim (λq=>⟨λX=>p.dis b X q,N.kp b (.inl q)⟩) λI=>⟨λX=>(N.old b I).2 (.inr X),(N.old b I).1⟩
   cases e with
   |normal=>
    obtain⟨Z2,O2,hs2,z⟩:=hq;obtain⟨O3,z⟩:=hs2 _ O2 a2 U z;obtain⟨f1,f2,f3,f4,f5,f6⟩:=fin _ _ O3 none (hpm (i+1)) z;exact⟨_,_,f1,λb=>K0 b∨Own (S (i+1)) O3 b,f3,f4,.inl ⟨rfl,O3,f2,λb=>Qj,f5,f6⟩⟩
   |ret=>
    obtain⟨Z2,O2,⟨M',B,hs2,hpM,hQ⟩,z⟩:=hq;obtain⟨O3,z⟩:=hs2 _ O2 a2 U z;obtain⟨f1,f2,f3,f4,f5,f6⟩:=fin _ _ O3 (some .ret) hpM z;exact⟨_,_,f1,λb=>K0 b∨Own M' O3 b,f3,f4,.inr ⟨rfl,.ret,M',B,O3,f2,hpM,λb=>Qj,f5,f6,.inr ⟨rfl,hQ⟩⟩⟩
   |exit id=>
    obtain⟨Z2,O2,⟨M',B,hs2,hpM,hQ⟩,z⟩:=hq;obtain⟨O3,z⟩:=hs2 _ O2 a2 U z;obtain⟨f1,f2,f3,f4,f5,f6⟩:=fin _ _ O3 (some (.exit id)) hpM z;exact⟨_,_,f1,λb=>K0 b∨Own M' O3 b,f3,f4,.inr ⟨rfl,.exit id,M',B,O3,f2,hpM,λb=>Qj,f5,f6,.inl ⟨id,rfl,hQ⟩⟩⟩
   |goto _=>exact hq.elim
   |panic _=>exact hq.elim
   |outgrown=>exact hq.elim
 .exact⟨ρs,hj0,λb=>Qj,hL1,hK1'⟩
 -- behind the iterator
 have finR:∀(M':LT) (B:Nat) (ρj:zh) (SB:LI) (W2:World) (r r':Loop),zlE M'->Jc E K0 SB (Own (S 0) ρs) m B w ρs M' ρj W2->W2.heap[l]?=some (.loop r)->W2.heap[D]?=some (.deferred (some []))->
   RR E ⟨W2.putObj l (.loop r'),E1.ρ0,λb=>E1.Keep b∨b=D,Own M' ρj,{ target:=.collected D,args:=#[] }::E1.ds⟩ ⟨L,M',B,Z.nt,Z.n0⟩ ρj { a with defers:=[{ target:=.collected D,args:=#[] }]++a.defers } (W2.putObj l (.loop r')):=by
  intro M' B ρj SB W2 r r' hpM p x hD';have hz:=p.size
  have hnm:∀k v,E1.ρ0 k=some v->ρj k=some v:=λk v V=>by
   have h1:k<Z.n0:=C.rel.low k v V;rw[C.rho]at V;exact p.names k v oM (C.stp.rho k v V)
  have N:zJ (λb=>E1.Keep b∨b=D) M' ρj (W2.putObj l (.loop r')):=(p.mem.put x rfl (by intro _ _ h;cases h)).few hpM λb o=>.inl (o.elim (hK1 b) λe=>e ▸ hKD)
  refine⟨⟨C.rel.size,?_,λt s hlk=>?_,N,p.fresh,⟨rfl,rfl,.refl _,Xj _,λ_ _ _=>rfl,λ_ h=>.inl h,hnm⟩,N.kp,C.rel.low⟩,C.rho,λb o=>.inl (C.kp b o),
   ⟨p.stp.os,p.stp.tape,p.stp.output.trans (kR.put x rfl rfl),?_,λb o T=>?_,p.stp.own,p.stp.rho⟩,λd hd=>?_,?_⟩
  .show[_]++a.defers=_::E1.ds;rw[C.rel.defers];rfl
  .obtain⟨g1,g2⟩:=regsL p t s hlk;exact⟨g1,(g2.put x rfl).pf (Xj _) (λb _ T=>⟨λq=>T (q.elim (λh=>.inl (.inl (h.elim (hK1 b) λe=>e ▸ hKD))) .inr),rfl⟩) (zpx hpf hlk).1⟩
  .rw[World.putObj_size];exact p.stp.size
  .have hb':=hE0 b o;exact(World.putObj_heap_other oM).trans (p.stp.block b o T)
  .cases hd with
   |head=>exact⟨D,rfl,.inr rfl,oM,(World.putObj_heap_other oM).trans hD'⟩
   |tail _ hd=>
    obtain⟨D',e,q,J,hh⟩:=C.marks d hd;have hlt':=C.rel.mem.kp D' q;exact⟨D',e,.inl q,J,(World.putObj_heap_other oM).trans ((p.same D' hlt' λI=>(C.rel.mem.old D' I).2 q).trans hh)⟩
  refine X4.2 ⟨λe he D1 D2 h1 h2=>?_,C.apart⟩;obtain⟨D',rfl,q,_,_⟩:=C.marks e he;have hlt':=C.rel.mem.kp D' q
  cases h1
  cases h2
  omega
 rintro e W2 ⟨⟨v,rfl⟩,SA',SB',(⟨ρj,p,_,x,hD'⟩|⟨c,M',B,ρj,p,hpM,_,x,hD',hc⟩)⟩
 .have he:=run_endLoop (P:=P) x (by rw[hrec];simp);have hpn:(rec .ready none).pending=none:=by rw[hrec]
  rw[hpn]at he;exact⟨none,_,he,_,_,ρj,hdone ⟨_,_,_,_,(finR _ _ ρj SB' W2 _ (rec .ready none) (hpm _) p x hD').rel⟩,finR _ _ ρj SB' W2 _ _ (hpm _) p x hD'⟩
 have he:=run_endLoop (P:=P) x (by rw[hrec];simp);have hpn:(rec .done (some c)).pending=some c:=by rw[hrec]
 rw[hpn]at he;refine⟨some c,_,he,?_⟩
 obtain⟨id,rfl,hQ⟩|⟨rfl,hQ⟩:=hc
 .exact wpIn_exit ⟨_,_,ρj,hQ,finR _ _ ρj SB' W2 _ _ hpM p x hD'⟩
 exact wpIn_ret ⟨_,_,ρj,hQ,finR _ _ ρj SB' W2 _ _ hpM p x hD'⟩
def zpy(P:Program)(H:LS)(c:Code):St->LH->Prop:=
 Code.rec (motive:=λ_=>St->LH->Prop)
  (λZ Q=>Q .normal Z)
  (λid ops draw Z Q=>jw P H (.region id ops draw) Z Q)
  (λ_ _ k l Z Q=>k Z λe Z=>(match e with
   |.normal=>l Z Q
   |.exit id=>Q (.exit id) Z
   |.ret=>Q .ret Z))
  (λc _ _ d h Z Q=>ev Z.L c λc=>(match c with
   |.val (.bool true)=>d Z Q
   |.val (.bool false)=>h Z Q
   |.pr p _=>Br (p->d Z Q) (¬p->h Z Q)
   |.anyb=>Br (d Z Q) (h Z Q)
   |_=>False))
  (λid _ b Z Q=>b Z λe Z=>(match e with
   |.normal=>Q .normal Z
   |.exit j=>(match Nat.beq j id with
    |true=>Q .normal Z
    |false=>Q (.exit j) Z)
   |.ret=>Q .ret Z))
  (λ_ b Z Q=>∃(ι:Type) (S:ι->St) (I:ι->Prop) (μ:ι->Nat) (i:ι),I i/\Sub Z (S i)/\
   ∀x,I x->b (S x) λe Z'=>(match e with
    |.normal=>∃x',I x'/\Sub Z' (S x')/\μ x'<μ x
    |.exit id=>Q (.exit id) Z'
    |.ret=>Q .ret Z'))
  (λg o assign body _ _ Z Q=>ev Z.L g λs=>(match s with
   |.dfn f caps=>zvE P H f caps o.toList assign body Z Q
   |_=>False))
  (λid Z Q=>Q (.exit id) Z)
  (λ_ _ _ _=>False)
  (λ_ Z Q=>Q .normal Z)
  (λ_ _ _=>False)
  (λZ Q=>Q .ret Z)
  (λ_ _ _=>False)
  c
variable{S:LI}{cs:LR}{u:Value}
def D.dfn_inv{w:World}(h:D S w (.dfn f cs) u):∃vs:LA,u=.func (.func f) #[] vs.toArray/\Ds S w cs vs:=by
 cases h with
 |dfn _ _ vs b h=>exact⟨vs,rfl,b,h⟩
variable{Pm:LI}
def G.dfn_d{w:World}(h:G S Pm O w (.dfn f cs) u):∃vs:LA,u=.func (.func f) #[] vs.toArray/\Ds S w cs vs:=by
 cases h with
 |d _ _ h=>exact h.dfn_inv
def zbG{P:Program}{H:LS}(hT:TOK P H)(o:P.follows .mixedOrders=true){E:Env}:∀(c:Code) {E':Env} {Z:St} {Q:LH} {O:zh} {a:Act} {w:World},
  RR E E' Z O a w->zpy P H c Z Q->c.wpIn Fence.wide 0 P (zlF E Q) a w
 |.skip,E',Z,Q,O,a,w,d,h=>wpIn_skip ⟨E',Z,O,h,d⟩
 |.region id ops draw,E',Z,Q,O,a,w,d,h=>wpIn_wide.2 (Code.wp_mono (λ_ _ _ k=>zlF.of d k) (kU hT o (.region id ops draw) d.rel.cut h))
 |.seq x y,E',Z,Q,O,a,w,d,h=>by
  refine wpIn_seq (wpIn_mono (zbG hT o x d h) (λe A w' k=>?_))
  cases e with
  |normal=>obtain⟨E'',Z',O',v,l⟩:=k;exact zbG hT o y l v
  |exit id=>exact k
  |ret=>exact k
  |_=>exact k.elim
 |.cond c x y,E',Z,Q,O,a,w,d,h=>by
  obtain⟨s,h,M⟩:=zcX h;have q:=M (a:=a) (λt s _ D=>(d.rel.regs t s D).2)
  split at h
  .exact wpIn_cond_true q.val_inv (zbG hT o x d h)
  .exact wpIn_cond_false q.val_inv (zbG hT o y d h)
  .rename_i p i
   by_cases C:p
   .exact wpIn_cond_true (by rw[q.pr_inv];simp[C]) (zbG hT o x d (h.yes C))
   exact wpIn_cond_false (by rw[q.pr_inv];simp[C]) (zbG hT o y d (h.no C))
  .obtain⟨b,z⟩:=q.anyb_inv
   cases b with
   |true=>exact wpIn_cond_true z (zbG hT o x d h.yes)
   |false=>exact wpIn_cond_false z (zbG hT o y d h.no)
  exact h.elim
 |.block id c,E',Z,Q,O,a,w,d,h=>by
  refine wpIn_block (wpIn_mono (zbG hT o c d h) (λe A w' k=>?_))
  cases e with
  |normal=>exact k
  |exit j=>
   obtain⟨E'',Z',O',v,l⟩:=k;dsimp only at v;show(if j=id then zlF E Q .normal A w' else zlF E Q (.exit j) A w')
   split at v
   .rename_i z;rw[Xe (Xk z)];exact⟨E'',Z',O',v,l⟩
   rename_i z;rw[Xc (KM z)];exact⟨E'',Z',O',v,l⟩
  |ret=>exact k
  |_=>exact k.elim
 |.loop c,E',Z,Q,O,a,w,d,h=>by
  obtain⟨ι,S,I,μ,T,U,B,hround⟩:=h;obtain⟨R,J⟩:=B _ O a w d.rel.cut;refine zaT (λn a w=>∃x E' O,I x/\μ x=n/\RR E E' (S x) O a w) (μ T) ⟨T,_,R,U,rfl,d.next J⟩ λn a w hI=>?_
  obtain⟨x,E1,O1,V,rfl,K⟩:=hI;refine wpIn_mono (zbG hT o c K (hround x V)) (λe A w' k=>?_)
  cases e with
  |normal=>
   obtain⟨E2,Z',O',⟨x',W,N,G⟩,l⟩:=k;obtain⟨O2,L⟩:=N _ O' A w' l.rel.cut;exact⟨μ x',G,x',_,O2,W,rfl,l.next L⟩
  |exit id=>exact k
  |ret=>exact k
  |_=>exact k.elim
 |.exit id,E',Z,Q,O,a,w,d,h=>wpIn_exit ⟨E',Z,O,h,d⟩
 |.ret,E',Z,Q,O,a,w,d,h=>wpIn_ret ⟨E',Z,O,h,d⟩
 |.rangeFunc g Y assign body,E',Z,Q,O,a,w,d,h=>by
  obtain⟨s,h,M⟩:=zcX h;have q:=M (a:=a) (λt s _ D=>(d.rel.regs t s D).2)
  split at h
  .obtain⟨vs,e,X⟩:=q.dfn_d;exact zrM hT o d e X h
  exact h.elim
 |.scope _,_,_,_,_,_,_,_,h=>by cases h
 |.label _,E',Z,Q,O,a,w,d,h=>wpIn_label ⟨E',Z,O,h,d⟩
 |.goto _,_,_,_,_,_,_,_,h=>by cases h
 |.refuse _,_,_,_,_,_,_,_,h=>by cases h
def jN.lessS{S':LI}{w:World}{k:Nat}{m:Mem}(hS:∀b,S' b->S b)(h:jN S Pm O w k m):jN S' Pm O w k m:=by
 have D:∀{s v},G S Pm O w s v->G S' Pm O w s v:=λh=>h.mono (Xj _) (λb _ z=>⟨λk=>z (hS b k),rfl⟩) (λb _ z=>⟨z,rfl⟩) λ_ _ h=>h
 cases m with
 |box T cs=>
  obtain⟨b,vs,d,g,l,o,p⟩:=h;exact⟨b,vs,d,g,l,o,λj s v A K=>D (p j s v A K)⟩
 |arr T enc sz xs=>
  obtain⟨v,cells,d,g,l,o,p,q⟩:=h;refine⟨v,cells,d,g,l,o,p,λi j x s C y=>?_⟩;obtain⟨u,B,t⟩:=q i j x s C y;exact⟨u,B,t.less hS⟩
 |garr T sz xs=>
  obtain⟨v,cells,d,g,l,o,p,q⟩:=h;refine⟨v,cells,d,g,l,o,p,λi j x s C y=>?_⟩;obtain⟨u,B,t⟩:=q i j x s C y;exact⟨u,B,D t⟩
 |map L=>
  obtain⟨r,ents,clock,d,g,l,o⟩:=h;refine⟨r,ents,clock,d,g,l,λi n s hi=>?_⟩;obtain⟨e,E,I,J⟩:=o i n s hi;exact⟨e,E,I,J.less hS⟩
def znP{P:Program}{fn:Func}{tmps:Array Value}{R:Ending->World->Prop}{E:Env}{Z:St}{O:zh}(y:E.ds=[]):
  ∀(j:List Deferred) (w:World),Rel E Z O { tmps:=tmps,defers:=[] } w->
   (∀d∈j,∃D,d={ target:=.collected D,args:=#[] }/\E.w0.heap.size<=D/\w.heap[D]?=some (.deferred (some [])))->
   (j.Pairwise λd e=>∀D D',d.target=.collected D->e.target=.collected D'->D≠D')->
   (∀w',Rel E Z O { tmps:=tmps,defers:=[] } w'->∃v,(results fn tmps).run P w'=.ok v w'/\R (.returned v) w')->LeavesInM Fence.wide 0 P fn tmps R j .returning w
 |[],w,g,_,_,l=>l w g
 |d::j,w,g,p,o,l=>by
  obtain⟨D,rfl,z,hD⟩:=p _ (.head _);rw[X4]at o;refine⟨sI,.inl ⟨D,_,rfl,run_takeDeferred hD,znP y j _ ?_ (λd k=>?_) o.2 l⟩⟩
  .have i:=g.stp
   refine⟨g.size,g.defers,λt s q=>⟨(g.regs t s q).1,(g.regs t s q).2.put hD rfl⟩,g.mem.put hD rfl (by intro _ _ h;cases h),g.fresh,
    ⟨i.os,i.tape,i.output.trans (kR.put hD rfl rfl),?_,λb x A=>(World.putObj_heap_other oM).trans (i.block b x A),i.own,i.rho⟩,g.keep,g.low⟩
   rw[World.putObj_size];exact i.size
  obtain⟨D',rfl,hge',hD'⟩:=p d (.tail _ k);exact⟨D',rfl,hge',(World.putObj_heap_other λe=>o.1 _ k D D' rfl rfl e.symm).trans hD'⟩
variable{fn:Func}{c:Code}{r:SV}
def ztY(hT:TOK P H)(hm:P.follows .mixedOrders=true){args:LR}{M:LT}(C:P.funcs[f]?=some fn)(j:fn.body=some c)(q:(fn.name== "runtime.NumGoroutine")=false) (A:Nat.ble args.length fn.ntmps=true)
  (h:zpy P H c ⟨jm 0 args,M,M.length,fn.ntmps,M.length⟩ Q){M':LT}
  (hQ:∀e Z,Q e Z->(∀id,e≠.exit id)->∃s,(∀{E:Env} {O:zh} {a:Act} {w:World},Rel E Z O a w->∃v,(results fn a.tmps).run P w=.ok v w/\G (λb=>E.Keep b∨Own Z.M O b) (Own Z.M O) O w s v)/\
   ∀{E:Env} {O:zh} {a:Act} {w:World} {v:Value},Rel E Z O a w->(∀b,E.W0 b↔Own M E.ρ0 b)->(∀k,M.length<=k->E.ρ0 k=none)->G (λb=>E.Keep b∨Own Z.M O b) (Own Z.M O) O w s v->
    ∃O',Stp (Own M E.ρ0) (Own M' O') E.ρ0 O' E.w0 w/\zJ E.Keep M' O' w/\G (λb=>E.Keep b∨Own M' O' b) (Own M' O') O' w r v)
  (hx:∀id Z,¬Q (.exit id) Z):qg P f args M r M':=by
 refine⟨⟨fn,C,q,by rw[j];rfl⟩,λKeep O w vs _ p hρ Y=>(callsIn_wide (n:=0)).1 (callsIn_of_wp_marks C j trivial ?_ rfl)⟩;have hrel:=vg (nt:=fn.ntmps) p hρ Y (Xz A);have B:RR ⟨w,O,Keep,Own M O,[]⟩ ⟨w,O,Keep,Own M O,[]⟩ _ O _ w:=⟨hrel,rfl,λ_ h=>h,hrel.stp,λ_ h=>(by cases h),List.Pairwise.nil⟩;refine wpIn_mono (zbG hT hm c B h) (λe l w' i=>?_)
 have fin:∀e E' Z O1,Q e Z->(∀id,e≠.exit id)->RR ⟨w,O,Keep,Own M O,[]⟩ E' Z O1 l w'->LeavesInM Fence.wide 0 P fn l.tmps (λe w''=>∃J O',e=.returned J/\Stp (Own M O) (Own M' O') O O' w w''/\
   zJ Keep M' O' w''/\G (λb=>Keep b∨Own M' O' b) (Own M' O') O' w'' r J) l.defers .returning w':=by
  intro e E' Z O1 i X g;obtain⟨s,U,V⟩:=hQ e Z i X;have y:l.defers=E'.ds:=g.rel.defers;rw[y]
  have hbase:Rel ⟨w,O,Keep,Own M O,[]⟩ Z O1 { tmps:=l.tmps,defers:=[] } w':=by
   refine⟨g.rel.size,rfl,λt s I=>⟨(g.rel.regs t s I).1,?_⟩,⟨λk m o=>(g.rel.mem.rel k m o).lessS λb j=>j.imp (g.kp b) id,g.rel.mem.keys,g.rel.mem.apart,
    λb j=>⟨(g.rel.mem.old b j).1,λo=>(g.rel.mem.old b j).2 (g.kp b o)⟩,λb j=>g.rel.mem.kp b (g.kp b j),g.rel.mem.gl⟩,g.rel.fresh,g.stp,hrel.keep,λk v o=>g.rel.low k v (by rw[g.rho];exact o)⟩
   exact(g.rel.regs t s I).2.mono (Xj _) (λb _ q=>⟨λk=>q (k.imp (g.kp b) id),rfl⟩) (λb _ q=>⟨q,rfl⟩) λ_ _ h=>h
  refine znP rfl E'.ds w' hbase (λd W=>?_) g.apart λw2 x=>?_
  .obtain⟨D,e,_,z,hh⟩:=g.marks d W;exact⟨D,e,z,hh⟩
  obtain⟨v,K,L⟩:=U x;obtain⟨O',N,R,T⟩:=V x (λ_=>Qj) hρ L;exact⟨v,K,v,O',rfl,N,R,T⟩
 cases e with
 |normal=>obtain⟨E',Z,O1,i,g⟩:=i;exact fin _ E' Z O1 i (λ_=>by simp) g
 |ret=>obtain⟨E',Z,O1,i,g⟩:=i;exact fin _ E' Z O1 i (λ_=>by simp) g
 |exit id=>obtain⟨E',Z,O1,i,g⟩:=i;exact absurd i (hx id Z)
 |_=>exact i.elim
def vk(n:Nat)(hT:TOK P H)(I:P.follows .mixedOrders=true){args:LR}(C:P.funcs[f]?=some fn)(i:fn.body=some c)(x:(fn.name== "runtime.NumGoroutine")=false) (l:Nat.ble args.length fn.ntmps=true)
  (h:zpy P H c ⟨jm 0 args,[],0,fn.ntmps,0⟩ (endF n H fn.results.toList r)):qg P f args [] r []:=by
 refine ztY hT I C i x l h (λe Z o B=>?_) (λid Z o=>o)
 have o:zbm Z H fn.results.toList λs=>LE (zjG (zW Z.M) n s) r:=by
  cases e with
  |exit id=>exact absurd rfl (B id)
  |normal=>exact o
  |ret=>exact o
 obtain⟨s,l,A⟩:=jL hT o;refine⟨s,A,λ{E O a w v} q hW _ z=>⟨O,?_,?_,?_⟩⟩
 .have g:=q.stp;exact⟨g.os,g.tape,g.output,g.size,λb i x=>g.block b i λh=>x ((hW b).1 h),λb i=>absurd i zN,g.rho⟩
 .exact qr q.mem.kp λ_ _ h=>q.mem.glc h
 have y:∀{s:SV} {v:Value},G (λb=>E.Keep b∨Own Z.M O b) (Own Z.M O) O w s v->D (λb=>E.Keep b∨Own [] O b) w (frz (zW Z.M) n s) v:=λh=>
  (znJ (λk m h=>zA h) q.mem n h).less λb i=>i.resolve_right zN
 refine l _ _ _ _ _ ?_;unfold zjG
 split
 .rename_i cs;obtain⟨vs,rfl,p⟩:=z.tup_inv;refine .tup _ vs (by rw[Xw];exact p.1) λj s v g J=>?_
  rw[XD]at g
  cases t:cs[j]? with
  |none=>simp[t]at g
  |some c=>
   simp[t]at g;subst g;exact .d _ _ (y (p.2 j c v t J))
 exact .d _ _ (y z)
def znQ(all:List Oper)(m:Nat):Bool:=
 let ms:=zbT all all.length
 zjN all&&Nat.ble m all.length&&((all.take m).all λo=>o.guard.isNone)&&(List.range all.length).all λj=>Nat.blt j m||(List.range j).all λi=>(ms.getD j 0).testBit i
def znR{all:List Oper}{m:Nat}(h:znQ all m=true):m<=all.length/\(∀i o,i<m->all[i]?=some o->o.guard=none)/\
  (∀j o,all[j]?=some o->∀e∈o.after,Region.binds .any e=true->e.on<j)/\∀i j,m<=j->j<all.length->i<j->Anc all j i:=by
 unfold znQ at h;simp only[XE]at h;obtain⟨⟨⟨p,s⟩,t⟩,v⟩:=h;refine⟨Xz s,λi o hi g=>?_,λj o g e w b=>?_,λi j x q k=>?_⟩
 .have d:o∈all.take m:=Xf (i:=i) (by rw[XK,Xe hi];exact g);have:=XX.1 t o d
  simpa using this
 .have l:j<all.length:=(Xd.1 g).1;unfold zjN at p;have:=XX.1 p j (XU.2 l);simp only[g]at this;have:=XX.1 this e (by simpa using w);simp only[b,QI,QU]at this;exact Xz this
 have:=XX.1 v j (XU.2 q)
 have b:Nat.blt j m=false:=by
  cases b:Nat.blt j m with
  |false=>rfl
  |true=>have:j+1<=m:=Xz b;omega
 simp only[b,QU]at this;exact zd1 all all.length j i q (XX.1 this i (XU.2 k))
def zeo{ops:List Oper}{listed:Array Bool}{i:Nat}(j:listed.size=ops.length):i∈Region.ready .any ops.toArray listed↔
  ∃o,ops[i]?=some o/\listed.getD i false=false/\∀e∈o.after,Region.binds .any e=true->listed.getD e.on false=true:=by
 rw[zeU]
 have key:∀o,ops[i]?=some o->listed.getD i true=listed.getD i false:=λo h=>by
  have:i<listed.size:=by have:=(Xd.1 h).1;omega
  simp[Array.getD,this]
 exact⟨λ⟨o,b,d,g⟩=>⟨o,b,(key o b) ▸ d,g⟩,λ⟨o,b,d,g⟩=>⟨o,b,(key o b).symm ▸ d,g⟩⟩
def zrN(R:LG):LF
 |.normal,a,w=>R a w
 |_,_,_=>False
def Oper.wp_only{o:Oper}{w:World}{K K':LG}{R:LG}{Q:LF}(h:∀a w,K a w->K' a w)(b:o.wp P a w K (zrN R)):o.wp P a w K' Q:=by
 unfold Oper.wp at*;generalize (execOp a.eval o).run P w=r at*;have no:¬LetsOut (zrN R):=λ⟨_,_,k⟩=>k
 cases r with
 |ok n w'=>
  cases n <;> simp only[Oper.upon]at b ⊢ <;>
   first
    |exact h _ _ b
    |exact Calls.mono b (λe w'' d=>by cases e <;> first|exact h _ _ d|exact d.elim|exact(no d).elim)
    |exact Rows.mono b (λ_ _ d=>h _ _ d)
 |halt x w'=>cases x <;> simp only[Oper.upon]at b ⊢ <;> exact b.elim
end
section
variable{F:Fence}{n:Nat}{P:Program}{all:List Oper}{Q:LF}{m:Nat}
def zDq(hedges:∀j o,all[j]?=some o->∀e∈o.after,Region.binds .any e=true->e.on<j)(hanc:∀i j,m<=j->j<all.length->i<j->Anc all j i):
  ∀(k fuel j:Nat) (la:Array Bool) (a:Act) (w:World),k=all.length-j->m<=j->j<=all.length->all.length-j<=fuel->la.size=all.length->(∀i,la.getD i false=true↔i<j)->
   wpListIn F n P all.toArray Q (all.drop j) a w->wpAnyIn F n P .any all.toArray Q fuel la a w:=by
 intro k
 induction k with
 |zero=>
  intro fuel j la a w L M B I d b h;have B:j=all.length:=oM;subst B;rw[List.drop_length]at h;have h:Q .normal a w:=h
  have y:Region.ready .any all.toArray la=[]:=by
   cases y:Region.ready .any all.toArray la with
   |nil=>rfl
   |cons i r=>
    have hi:i∈Region.ready .any all.toArray la:=by rw[y];exact .head _
    obtain⟨o,s,x,_⟩:=(zeo d).1 hi;have:=(b i).2 (Xd.1 s).1;rw[x]at this;cases this
  cases fuel with
  |zero=>exact⟨y,h⟩
  |succ fuel=>exact⟨λ_=>h,λi hi=>(by rw[y]at hi;cases hi)⟩
 |succ k U=>
  intro fuel j la a w L M B I d b h;have p:j<all.length:=oM;obtain⟨o,s⟩:∃o,all[j]?=some o:=⟨_,Xb p⟩
  cases fuel with
  |zero=>omega
  |succ fuel=>
  have hnot:∀i,¬i<j->la.getD i false=false:=λi hi=>by
   cases l:la.getD i false with
   |false=>rfl
   |true=>exact absurd ((b i).1 l) hi
  have hready:j∈Region.ready .any all.toArray la:=(zeo d).2 ⟨o,s,hnot j (YO j),λe t l=>(b _).2 (hedges j o s e t l)⟩;refine⟨λN=>(by rw[N]at hready;cases hready),λi hi=>?_⟩;obtain⟨oi,v,x,G⟩:=(zeo d).1 hi;have A:=(Xd.1 v).1;have J:¬i<j:=λC=>by rw[(b i).2 C]at x;cases x
  have z:i=j:=by
   refine XR λR=>?_
   have hD:=hanc j i oM A oM (λq=>la.getD q false=true) (λq oq T D e t l=>(b _).2 (by have:=hedges q oq D e t l;have:=(b q).1 T;omega))
    (λo' g e t l=>by rw[v]at g;cases g;exact G e t l)
   exact absurd ((b j).1 hD) (YO j)
  subst z
  have hnext:∀a w,wpListIn F n P all.toArray Q (all.drop (i+1)) a w->wpAnyIn F n P .any all.toArray Q fuel (la.setIfInBounds i true) a w:=λa w K=>
   U fuel (i+1) _ a w oM oM oM oM (by simpa using d) (λq=>by
    by_cases e:i=q
    .subst e;have:i<la.size:=oM;simp[Array.getD,this]
    simp only[Ke,KX e]
    rw[←Ke,b q];omega) K
  rw[K6 p]at h;have eo:all[i]=o:=by rw[Xb p]at s;exact Xl s
  rw[eo]at h;unfold wpListIn at h;unfold wpOpIn;have g:all.toArray[i]?=some o:=by simpa using s
  rw[g];dsimp only
  split
  .rename_i E;rw[Xe E]at h;exact Oper.wpIn_mono hnext h
  rename_i E;rw[Xc E]at h;exact⟨h.1,hnext _ _ h.2⟩
def zAI(hF:ym F)(hd:y5 all=true)(ht:znQ all m=true){R:LG}(hR:∀a w,R a w->wpListIn F n P all.toArray Q (all.drop m) a w):
  ∀(fuel:Nat) (lp la:Array Bool) (a:Act) (w:World),lp.size=m->la.size=all.length->(∀i,i<m->la.getD i false=lp.getD i false)->(∀i,m<=i->la.getD i false=false)->
   Down all (λi=>la.getD i false=true)->wpAny P .any (all.take m).toArray (zrN R) fuel lp a w->lp.toList.count false<=fuel->wpAnyIn F n P .any all.toArray Q (fuel+(all.length-m)) la a w:=by
 obtain⟨hm,N,hedges,hanc⟩:=znR ht;have hlen:(all.take m).length=m:=by rw[Xo];omega
 have Z:∀{i o},(all.take m)[i]?=some o->i<m/\all[i]?=some o:=λ{i o} h=>by
  have hi:i<m:=by have:=(Xd.1 h).1;omega
  rw[XK,Xe hi]at h;exact⟨hi,h⟩
 have hback:∀{i o},i<m->all[i]?=some o->(all.take m)[i]?=some o:=λ{i o} hi h=>by rw[XK,Xe hi];exact h
 -- all of the first are listed
 have full:∀(lp la:Array Bool) (a:Act) (w:World) (fuel:Nat),la.size=all.length->(∀i,i<m->la.getD i false=lp.getD i false)->(∀i,m<=i->la.getD i false=false)->
   (∀i,i<m->lp.getD i false=true)->all.length-m<=fuel->R a w->wpAnyIn F n P .any all.toArray Q fuel la a w:=λlp la a w fuel L p E h3 hf K=>
  zDq hedges hanc _ fuel m la a w rfl (Xj m) hm hf L (λi=>by
   by_cases hi:i<m
   .rw[p i hi,h3 i hi];simp[hi]
   rw[E i oM];simp[hi]) (hR a w K)
 have hdone:∀(lp:Array Bool),lp.size=m->Region.ready .any (all.take m).toArray lp=[]->∀i,i<m->lp.getD i false=true:=λlp L X i=>by
  induction i using Nat.strongRecOn with
  |_ i ih=>
   intro hi
   cases b:lp.getD i false with
   |true=>rfl
   |false=>
    obtain⟨o,j⟩:∃o,all[i]?=some o:=⟨_,Xb (show i<all.length by omega)⟩
    have:i∈Region.ready .any (all.take m).toArray lp:=(zeo oM).2 ⟨o,hback hi j,b,λe z hbind=>by
     have:=hedges i o j e z hbind
     exact ih e.on this oM⟩
    rw[X]at this;cases this
 intro fuel
 induction fuel with
 |zero=>
  intro lp la a w D l p E hD h hc;refine full lp la a w _ l p E (λi hi=>?_) oM h.2;have s:i<lp.size:=oM
  cases b:lp.getD i false with
  |true=>rfl
  |false=>
   have:false∈lp.toList:=by
    simp[Array.getD,s]at b;rw[←b];simp
   have:=Jk.2 this;omega
 |succ fuel ih=>
  intro lp la a w D l p E hD h hc
  cases K:Region.ready .any (all.take m).toArray lp with
  |nil=>exact full lp la a w _ l p E (hdone lp D K) oM (h.1 K)
  |cons i0 r0=>
  have U:i0∈Region.ready .any (all.take m).toArray lp:=by rw[K];exact .head _
  obtain⟨o0,x,I,M⟩:=(zeo oM).1 U;obtain⟨hlt0,x⟩:=Z x;rw[show fuel+1+(all.length-m)=(fuel+(all.length-m))+1 by omega]
  have up:∀{i o},i<m->all[i]?=some o->(∀e∈o.after,Region.binds .any e=true->lp.getD e.on false=true)->∀e∈o.after,Region.binds .any e=true->la.getD e.on false=true:=λ{i o} hi j T e z b=>by
   rw[p _ (by have:=hedges i o j e z b;omega)];exact T e z b
  refine⟨λX=>?_,λi hi=>?_⟩
  .have:i0∈Region.ready .any all.toArray la:=(zeo l).2 ⟨o0,x,by rw[p _ hlt0];exact I,up hlt0 x M⟩;rw[X]at this;cases this
  obtain⟨o,j,hl,z⟩:=(zeo l).1 hi;have V:=(Xd.1 j).1
  have t:i<m:=by
   refine XR λhge=>?_
   have:=hanc i0 i oM V oM _ hD λo' v e d b=>by rw[j]at v;cases v;exact z e d b
   rw[p _ hlt0,I]at this;cases this
  have W:i∈Region.ready .any (all.take m).toArray lp:=(zeo oM).2 ⟨o,hback t j,by rw[←p _ t];exact hl,λe d b=>by
   rw[←p _ (by have:=hedges i o j e d b;omega)];exact z e d b⟩
  have g:=h.2 i W;have s:i<lp.size:=oM;have G:lp[i]=false:=by have:=p i t;rw[hl]at this;simpa[Array.getD,s] using this.symm
  have hnext:∀a w,wpAny P .any (all.take m).toArray (zrN R) fuel (lp.setIfInBounds i true) a w->wpAnyIn F n P .any all.toArray Q (fuel+(all.length-m)) (la.setIfInBounds i true) a w:=λa w T=>by
   have set1:∀(A:Array Bool) (q:Nat),i<A.size->((A.setIfInBounds i true).getD q false=true↔q=i∨A.getD q false=true):=λA q hA=>by
    by_cases e:i=q
    .subst e;simp[Array.getD,hA]
    simp only[Ke,KX e];exact⟨.inr,λh=>h.resolve_left λk=>e k.symm⟩
   refine ih _ _ a w (by simpa using D) (by simpa using l) (λq C=>?_) (λq C=>?_) (λq oq C B e d b=>?_) T ?_
   .have e1:=set1 lp q s;have e2:=set1 la q oM;rw[p q C,←e1]at e2;exact QD.2 e2
   .have Y:i≠q:=by omega
    simp only[Ke,KX Y];rw[←Ke];exact E q C
   .refine(set1 la _ oM).2 (.inr ?_)
    rcases(set1 la q oM).1 C with rfl|C
    .rw[j]at B;cases B;exact z e d b
    exact hD q oq C B e d b
   have J:false∈lp.toList:=by rw[←G];simp
   have hpos:=Jk.2 J
   have:(lp.setIfInBounds i true).toList.count false=lp.toList.count false-1:=by
    rw[QY,List.count_set (by simpa using s)];simp[G]
   omega
  have hg:=N i o t j;have hw:∀y,Region.wanted o y=true:=λy=>by unfold Region.wanted;rw[hg]
  have hop':(all.take m).toArray[i]?=some o:=by simpa using hback t j
  have v:all.toArray[i]?=some o:=by simpa using j
  unfold wpOp at g;unfold wpOpIn;rw[hop']at g;rw[v];dsimp only at g ⊢;rw[Xe (hw _)]at g ⊢;have g:=g.resolve_right λk=>by obtain⟨_,_,_,k⟩:=k;exact k
  exact hF.op (zlD hd (o:=o) (Xf j)) (Oper.wp_only hnext g)
def zrO(hF:ym F)(e:P.follows .mixedOrders=true){H:LS}(hT:TOK P H){E:Env}{id:Nat}{ops:Array Oper}{K:St->Prop}{Z:St}{O:zh}{a:Act}{w:World}(d:y5 ops.toList=true)(ht:znQ ops.toList m=true)(j:Rel E Z O a w)(hord:vt (ops.toList.take m)=true)(h:ve P H true (ops.toList.take m) (ops.toList.take m) 0 Z K)(hK:∀Z O a w,K Z->Rel E Z O a w->wpListIn F n P ops Q (ops.toList.drop m) a w):(Code.region id ops true).wpIn F n P Q a w:=by
 have g:=(znR ht).1;have hpre:=zd3 (Q:=zrN λa w=>wpListIn F n P ops Q (ops.toList.drop m) a w) (ops:=(ops.toList.take m).toArray) hT j (by simpa using hord) (by simpa using h) hK
 have b:(ops.toList.take m).toArray.size=m:=by
  have:ops.toList.length=ops.size:=by simp
  simp only[KU,Xo];omega
 rw[b]at hpre;refine wpIn_region_any e ?_
 have:=zAI (F:=F) (n:=n) (Q:=Q) hF d ht (R:=λa w=>wpListIn F n P ops Q (ops.toList.drop m) a w) (λa w h=>by simpa using h) m (Array.replicate m false) (Array.replicate ops.size false) a _ sI sI
  (λi hi=>by simp[Array.getD]) (λi hi=>by simp[Array.getD]) (λi o hi=>by simp[Array.getD]at hi) hpre sI
 rw[show m+(ops.toList.length-m)=ops.size by
  have:ops.toList.length=ops.size:=by simp
  omega]at this
 simpa using this
end
end Go.Gs
