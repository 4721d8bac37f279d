/- An iterator whose code is a loop over another iterator. -/
import Derived.Test.YtdkomlilfdbahaaGreatDoorMAU
set_option maxRecDepth 100000
set_option maxHeartbeats 80000000
set_option linter.all false
namespace Go.Gs
def zwY:LP->Bool
 |[]=>true
 |(_,s)::r=>match yf s with
  |true=>zwY r
  |false=>false
def zoT:∀{L:LP} {t:Nat} {s:SV},zwY L=true->kw L t=some s->yf s=true
 |(k,s0)::r,t,s,h,a=>by
  unfold zwY at h
  split at h
  .rename_i b;rw[zV]at a
   by_cases e:k=t
   .rw[Xe e]at a;cases a;exact b
   rw[Xc e]at a;exact zoT h a
  cases h
def rngN(P:Program)(I:LS)(l:Nat){α:Type}(enc:α->LR)(xs:List α)(f:FuncId)(caps:LR)(a:LC)(assign body:Code)(O:St):Prop:=
 ∃(β:Type) (enc':β->LR) (ys:List β) (L:LP) (nk:Nat),
  zfY P f caps enc' ys/\(∀y,(enc' y).length=a.length)/\(v7 a=true/\zoc O.nt a=true/\zwY L=true)/\ys.length=xs.length/\Sub O ⟨L,[],nk,O.nt,O.n0⟩/\
  ∀(j:Nat) y,ys[j]?=some y->zBm P I l enc xs assign ⟨zne a (enc' y) L,[],nk,O.nt,O.n0⟩ j false λe O1 d c=>match e with
   |.normal=>zBm P I l enc xs body O1 d c λe _ g b=>(match e with
    |.normal=>g=j+1/\b=false
    |.exit _=>False
    |.ret=>b=true)
   |_=>False
def Mv.wide{S S' T T':LI}{w w':World}(h:Mv S S' w w')(c:∀b,S b->T b)(d:∀b,T' b->T b∨S' b):Mv T T' w w':=
 ⟨⟨h.os,h.tape,h.output,h.size,λb a e=>h.block b a λk=>e (c b k),λb a=>(d b a).elim .inl λk=>(h.own b k).imp (c b) id,λ_ _ h=>h⟩,h.gl⟩
def Mv.trans{S S' S'':LI}{w w' w'':World}(h:Mv S S' w w')(k:Mv S' S'' w' w''):Mv S S'' w w'':=
 ⟨h.toStp.trans k.toStp,λg v a b=>k.gl g v a (h.gl g v a b)⟩
def Mv.put{S S':LI}{w:World}{l:Nat}{o o':Obj}(c:w.heap[l]?=some o)(d:o.isCells=false)(a:o'.isCells=false)(f:S l)(i:∀b,S' b->S b):Mv S S' w (w.putObj l o'):=
 ⟨⟨rfl,rfl,kU.put c d a,by rw[World.putObj_size];exact Xj _,λb _ m=>World.putObj_heap_other λe=>m (e ▸ f),λb j=>.inl (i b j),λ_ _ h=>h⟩,λg v _ k=>zhy c d k⟩
section
variable{P:Program}{I:LS}{α:Type}{enc:α->LR}{xs:List α}{l:Nat}{J:Nat->LI->LI->World->Prop}{Jx:LI->LI->World->Prop}
structure Jh (J:LI->LI->World->Prop) (S0 T:LI) (l0:Nat) (r:Loop) (W:World) (SA SB:LI) (w:World):Prop where
 j:J SA (λb=>T b∨SB b) w
 mv:Mv (λb=>S0 b∨b=l0) (λb=>SA b∨SB b∨b=l0) W w
 lr:w.heap[l0]?=some (.loop r)
 new:∀b,SB b->W.heap.size<=b
 dis:∀b,SA b->¬(T b∨SB b)
def Jh.still(hS:zl3 J Jx){S0 T:LI}{d:Nat}{r:Loop}{W:World}(hT:T d)(hT':∀b,T b->b<W.heap.size):
  zl3 (λi=>Jh (J i) S0 T d r W) (Jh Jx S0 T d r W):=by
 have main:∀(K:LI->LI->World->Prop) (SA SB SB':LI) (w w':World),(∀SA SB SB' W W',K SA SB W->Mv SB SB' W W'->(∀b,SB' b->¬SA b/\b<W'.heap.size)->K SA SB' W')->
   Jh K S0 T d r W SA SB w->Mv SB SB' w w'->(∀b,SB' b->¬SA b/\b<w'.heap.size)->Jh K S0 T d r W SA SB' w':=by
  intro K SA SB SB' w w' hK h a e;have n:=h.mv.size;have g:=(X6.1 h.lr).1;have m:d<W.heap.size:=hT' d hT;have f:¬SB d:=λk=>by have:=h.new d k;omega
  have hdis:∀b,SA b->¬(T b∨SB' b):=λb c k=>k.elim (λk=>h.dis b c (.inl k)) λk=>(e b k).1 c
  refine⟨hK SA (λb=>T b∨SB b) _ w w' h.j (a.wide (λb c=>.inr c) λb c=>c.elim (λk=>.inl (.inl k)) .inr) λb c=>⟨λk=>hdis b k c,c.elim (λk=>by have:=hT' b k;have:=a.size;omega) λk=>(e b k).2⟩,?_,
   (a.block d g f).trans h.lr,λb c=>(a.own b c).elim (h.new b) λk=>by omega,hdis⟩
  exact h.mv.trans (a.wide (λb c=>.inr (.inl c)) λb c=>c.elim (λk=>.inl (.inl k)) λk=>k.elim .inr λk=>.inl (.inr (.inr k)))
 intro i b SA SB SB' w w' h a e
 cases b with
 |false=>exact main (J i) SA SB SB' w w' (hS i false) h a e
 |true=>exact main Jx SA SB SB' w w' (hS 0 true) h a e
def Jh.yields(hY:ziR P l enc xs J Jx){S0 T:LI}{d:Nat}{r:Loop}{W:World}(hT:T d)(hT':∀b,T b->b<W.heap.size):
  ziR P l enc xs (λi=>Jh (J i) S0 T d r W) (Jh Jx S0 T d r W):=by
 intro i x SA SB w args p h hA hB hargs;have q:=h.mv.size;have o:=(X6.1 h.lr).1;obtain⟨fn,tmps,za,bd,g,hR⟩:=hY i x SA (λb=>T b∨SB b) w args p h.j hA (λb a=>⟨λk=>h.dis b k a,a.elim (λk=>by have:=hT' b k;omega) λk=>(hB b k).2⟩) hargs;refine⟨fn,tmps,za,bd,g,hR.mono ?_⟩
 rintro e w' ⟨SA',c,m,hres⟩
 have f:∀K:LI->LI->World->Prop,K SA' (λb=>T b∨SB b) w'->Jh K S0 T d r W SA' SB w':=λK n=>
  ⟨n,h.mv.trans (c.wide (λb a=>.inl a) λb a=>a.elim .inr λk=>.inl (.inr k)),(c.block d o λk=>h.dis d k (.inl hT)).trans h.lr,h.new,λb a k=>(m b a).1 k⟩
 exact⟨SA',c,λb a=>⟨λk=>(m b a).1 (.inr k),(m b a).2⟩,hres.imp (λk=>⟨k.1,f _ k.2⟩) λk=>⟨k.1,f _ k.2⟩⟩
def Jh.jt(S0 T:LI)(a:Nat)(r:Loop)(W:World)(i:Nat)(b:Bool):Jt (λi=>Jh (J i) S0 T a r W) (Jh Jx S0 T a r W) i b=Jh (Jt J Jx i b) S0 T a r W:=by cases b <;> rfl
structure Fr (K:LI->LI->World->Prop) (SA:LI) (w:World) (l0 D:Nat) (r:Loop) (SAi SBi SAo T:LI) (W:World):Prop where
 j:K SAo T W
 sa:∀b,SAi b↔SAo b∨b=D∨b=l0
 td:T D
 tl:T l0
 dis:∀b,T b->¬SAo b/\b<W.heap.size
 sb:∀b,SBi b->T b/\w.heap.size+2<=b
 size:w.heap.size+2<=W.heap.size
 old:∀b,b<w.heap.size->¬SA b->¬SAo b/\W.heap[b]?=w.heap[b]?
 lr:W.heap[l0]?=some (.loop r)
 df:W.heap[D]?=some (.deferred (some []))
 lt:∀b,SAo b->b<W.heap.size
 gl:∀g v,GL g v->W.cell? ⟨g,0,none⟩=some v
def Fr.other{K:LI->LI->World->Prop}{SA SAi SBi SBi' SAo T:LI}{w W W':World}{d D:Nat}{r:Loop}(hK:∀SA SB SB' W W',K SA SB W->Mv SB SB' W W'->(∀b,SB' b->¬SA b/\b<W'.heap.size)->K SA SB' W')(h:Fr K SA w d D r SAi SBi SAo T W)(m:d<w.heap.size+2)(hD:D<w.heap.size+2)(c:Mv SBi SBi' W W')(e:∀b,SBi' b->¬SAi b/\b<W'.heap.size):Fr K SA w d D r SAi SBi' SAo (λb=>T b∨SBi' b) W':=by
 have o:=h.size;have n:=c.size;have hlow:∀b,b<w.heap.size+2->W'.heap[b]?=W.heap[b]? :=λb a=>c.block b oM λk=>by have:=(h.sb b k).2;omega
 have hdis:∀b,T b∨SBi' b->¬SAo b/\b<W'.heap.size:=λb a=>a.elim (λk=>⟨(h.dis b k).1,by have:=(h.dis b k).2;omega⟩) λk=>⟨λq=>(e b k).1 ((h.sa b).2 (.inl q)),(e b k).2⟩
 exact⟨hK SAo T _ W W' h.j (c.wide (λb a=>(h.sb b a).1) λb a=>a) hdis,h.sa,.inl h.td,.inl h.tl,hdis,λb a=>⟨.inr a,(c.own b a).elim (λk=>(h.sb b k).2) λk=>by omega⟩,oM,
  λb a i=>⟨(h.old b a i).1,(hlow b oM).trans (h.old b a i).2⟩,(hlow d m).trans h.lr,(hlow D hD).trans h.df,λb a=>by have:=h.lt b a;omega,λg v f=>c.gl g v f (h.gl g v f)⟩
def zFk(hT:TOK P I)(hm:P.follows .mixedOrders=true)(hS:zl3 J Jx)(hY:ziR P l enc xs J Jx){E:Env}{SA SB:LI}{O:St}{Z:zh}{a:Act}{w:World}(hr:RI J Jx E SA SB O 0 false Z a w){f:FuncId}{caps:LR}{vs:LA}{g:Operand}{G:Array Tmp}{assign body:Code}(B:a.eval g=.func (.func f) #[] vs.toArray)(o:Ds (λb=>E.Keep b∨Own O.M Z b) w caps vs)(h:rngN P I l enc xs f caps G.toList assign body O){Q:LF}(hQ:∀(e:Exit) (w':World) (D:Nat) (SA SB:LI),(e=.normal∨e=.ret)->w'.heap[D]?=some (.deferred (some []))->SB D->(∀b,SB b->¬SA b/\b<w'.heap.size)->(J xs.length SA SB w'∨Jx SA SB w')->
   Q e { a with defers:=[{ target:=.collected D,args:=#[] }]++a.defers } w'):(Code.rangeFunc g G assign body).wpIn Fence.wide 0 P Q a w:=by
 obtain⟨β,enc',ys,L,nk,⟨Y,hit⟩,henc,⟨hnd,hlt,hfl⟩,hlen,X,hround⟩:=h;obtain⟨ρs,R⟩:=X _ Z a w hr.rel.cut;have U:a.tmps.size=O.nt:=R.size;have hL:∀t s,kw L t=some s->t<a.tmps.size/\D E.Keep w s (a.tmps.getD t undef):=λt s hl=>⟨U ▸ (R.regs t s hl).1,(uY (zoT hfl hl) (R.regs t s hl).2).less λb c=>.inl c⟩
 have hgl:∀g v,GL g v->w.cell? ⟨g,0,none⟩=some v:=λg v B=>hr.rel.mem.glc B
 have hsa:=hr.sa;have hdj:=hr.dj;have hltA:=hr.lt;have hj0:=hr.j;have o:Ds E.Keep w caps vs:=⟨o.1,λj s v hs hv=>(o.2 j s v hs hv).less λb c=>.inl c⟩;clear hr R X;refine wpIn_rangeFunc λfn _=>?_;obtain⟨rec,hrec⟩:∃rec:LoopState->Option Code->Loop,rec=λst pe=>{ state:=st,pending:=pe,fn,tmps:=a.tmps,params:=G,assign,body,defers:=w.heap.size }:=⟨_,rfl⟩
 obtain⟨W1,hin,hL1,hK1,hz1,hsame1,hout1,hos1⟩:=zBj (P:=P) w fn a.tmps G assign body;rw[show({ state:=.ready,pending:=none,fn,tmps:=a.tmps,params:=G,assign,body,defers:=w.heap.size }:Loop)=rec .ready none from by rw[hrec]]at hL1;obtain⟨n,hl0⟩:∃n,n=w.heap.size+1:=⟨_,rfl⟩;obtain⟨D,hD⟩:∃D,D=w.heap.size:=⟨_,rfl⟩;rw[←hl0]at hL1;rw[←hD]at hK1;rw[←hl0,←hD]at hin;have hSl:∀i b SA SB SB' W W',Jt J Jx i b SA SB W->Mv SB SB' W W'->(∀b,SB' b->¬SA b/\b<W'.heap.size)->Jt J Jx i b SA SB' W':=hS
 have hmv1:Mv SB (λb=>SB b∨b=D∨b=n) w W1:=⟨⟨hos1.1,hos1.2,hout1,oM,λb c _=>hsame1 b c,λb c=>c.imp id λk=>by omega,λ_ _ h=>h⟩,λg v _ hc=>(zf8 (hsame1 g (zkF hc))).trans hc⟩;have hdis1:∀b,(SB b∨b=D∨b=n)->¬SA b/\b<W1.heap.size:=λb c=>c.elim (λk=>⟨(hdj b k).1,by have:=(hdj b k).2;omega⟩) λk=>⟨λq=>by have:=hltA b q;omega,oM⟩
 have hf0:Fr (J 0) SA w n D (rec .ready none) (λb=>SA b∨b=D∨b=n) (λ_=>False) SA (λb=>SB b∨b=D∨b=n) W1:=
  ⟨hSl 0 false SA SB _ w W1 hj0 hmv1 hdis1,λb=>Qk,.inr (.inl rfl),.inr (.inr rfl),hdis1,λb c=>c.elim,oM,λb c N=>⟨N,hsame1 b c⟩,hL1,hK1,λb c=>by have:=hltA b c;omega,
   λg v B=>hmv1.gl g v B (hgl g v B)⟩
 refine⟨n,[{ target:=.collected D,args:=#[] }],W1,{ target:=.fn (.func f) vs.toArray,args:=#[.func (.yield n) #[] #[]] },W1,f,List.toArray (.func (.yield n) #[] #[]::vs),W1,hin,?_,λ_ _=>trivial,?_,yo.wide.need,?_⟩
 .simp only[resolve,B];simp[go_sem]
 .obtain⟨fn',c1,c2,c3⟩:=Y;simp only[invoke,callFunc,Sem.run_bind,Sem.run_pure,Result.andThen_ok,run_program,c1,c2,c3,KJ,if_false];simp
 refine(hit (λb=>SA b∨b=D∨b=n) W1 vs n (λi SAi SBi W=>∃SAo T,Fr (J i) SA w n D (rec .ready none) SAi SBi SAo T W) (λSAi SBi W=>∃SAo T,Fr Jx SA w n D (rec .done (some .ret)) SAi SBi SAo T W)
  (λb c=>by rcases c with c|c|c <;> (try have:=hltA b c) <;> omega) hf0.gl ?_ ?_ ?_ ?_ ⟨_,_,hf0⟩).mono ?_
 .exact⟨o.1,λj s v hs hv=>(o.2 j s v hs hv).mono oM λb c N=>⟨λk=>k.elim (λk=>N (hsa b k)) λk=>by omega,hsame1 b c⟩⟩
 .rintro i SAi SBi SBi' W W' ⟨SAo,T,m⟩ hmv hd
  exact⟨SAo,_,m.other (hSl i false) oM oM hmv hd⟩
 .rintro SAi SBi SBi' W W' ⟨SAo,T,m⟩ hmv hd
  exact⟨SAo,_,m.other (hSl 0 true) oM oM hmv hd⟩
 .rintro i y SAi SBi W args hy ⟨SAo,T,m⟩ hSAlt hSBd hargs
  have hz:=m.size;have z:=run_yield (P:=P) (args:=List.toArray args) m.lr (by rw[hrec];have:=hargs.1;rw[henc y]at this;simpa using this);rw[hrec]at z
  have hzip:∀A:Array Value,(G.zip (List.toArray args)).foldl (λtmps (t,a)=>tmps.setIfInBounds t a) A=vK (G.toList.zip args) A:=λA=>by
   unfold vK;rw[←J3,Array.toList_zip]
  dsimp only at z;rw[hzip]at z;have hTl:∀b,T b->b<W.heap.size:=λb c=>(m.dis b c).2
  have hrel:Rel ⟨W,λ_=>none,SAo,Own [] (λ_=>none),[]⟩ ⟨zne G.toList (enc' y) L,[],nk,O.nt,O.n0⟩ (λ_=>none) { tmps:=vK (G.toList.zip args) a.tmps,defers:=[] } W:=by
   refine⟨by rw[zew];exact U,rfl,λt s hlk=>?_,qu m.lt m.gl,λ_ _=>rfl,.refl,m.lt,λk v hk=>by cases hk⟩
   have:=zse (S:=λb=>SAo b∨Own [] (λ_=>none) b) (Pm:=Own [] (λ_=>none)) (Z:=λ_=>none) hnd (U ▸ hlt) (henc y) ⟨hargs.1,λj s v hs hv=>(hargs.2 j s v hs hv).less λb c=>.inl ((m.sa b).2 (.inl (c.resolve_right zK)))⟩
    (λt s hl'=>⟨(hL t s hl').1,.d _ _ ((hL t s hl').2.mono oM λb c N=>by
     obtain⟨q1,q2⟩:=m.old b c λk=>N (hsa b k)
     exact⟨λk=>q1 (k.resolve_right zK),q2⟩)⟩) t s hlk
   rwa [U]at this
  have eT:(λb=>T b∨(λ_:Nat=>False) b)=T:=funext λb=>propext ⟨λh=>h.resolve_right id,.inl⟩
  have hri:RI (λi=>Jh (J i) SAo T n (rec .ready none) W) (Jh Jx SAo T n (rec .ready none) W) ⟨W,λ_=>none,SAo,Own [] (λ_=>none),[]⟩ SAo (λ_=>False) ⟨zne G.toList (enc' y) L,[],nk,O.nt,O.n0⟩ i false (λ_=>none)
    { tmps:=vK (G.toList.zip args) a.tmps,defers:=[] } W:=
   ⟨hrel,rfl,λ_ h=>h,λb c=>absurd c zK,λ_ h=>h.elim,m.lt,⟨by rw[eT];exact m.j,⟨⟨rfl,rfl,.refl _,Xj _,λ_ _ _=>rfl,λb c=>.inl (c.imp id λk=>k.resolve_left id),λ_ _ h=>h⟩,λ_ _ _ h=>h⟩,m.lr,λ_ h=>h.elim,
    λb c k=>k.elim (λk=>(m.dis b k).1 c) id⟩⟩
  refine⟨fn,_,assign,body,z,roundIn_of_wpIn trivial ?_⟩;refine wpIn_mono (vd (yo.wide.inRound n) hT hm (Jh.still hS m.tl hTl) (Jh.yields hY m.tl hTl) assign hri (hround i y hy)) (λe a1 w1 C=>?_)
  cases e with
  |exit id=>obtain⟨_,_,_,_,_,_,_,m,_⟩:=C;exact m.elim
  |ret=>obtain⟨_,_,_,_,_,_,_,m,_⟩:=C;exact m.elim
  |panic _=>exact C.elim
  |outgrown=>exact C.elim
  |goto _=>exact C.elim
  |normal=>
   obtain⟨E1,SA1,SB1,O1,i1,b1,Z1,c,p⟩:=C;have F:=p.j;rw[Jh.jt]at F;refine⟨_,run_beginRound F.lr (by rw[hrec]),?_⟩;have hl1:=(X6.1 F.lr).1;have hTd:∀b,T b∨SB1 b->¬SA1 b/\b<w1.heap.size:=λb c=>⟨λk=>F.dis b k c,c.elim (λk=>by have:=hTl b k;have:=F.mv.size;omega) λk=>(p.dj b k).2⟩
   have hri2:RI (λi=>Jh (J i) SAo T n { rec .ready none with state:=.busy } W) (Jh Jx SAo T n { rec .ready none with state:=.busy } W) ⟨w1.putObj n (.loop { rec .ready none with state:=.busy }),E1.ρ0,E1.Keep,Own O1.M Z1,E1.ds⟩ SA1 SB1 O1 i1 b1 Z1 a1 (w1.putObj n (.loop { rec .ready none with state:=.busy })):=by
    refine⟨p.rel.put F.lr rfl (by intro _ _ h;cases h),p.ds,p.sa,p.sb,λb c=>⟨(p.dj b c).1,by rw[World.putObj_size];exact(p.dj b c).2⟩,λb c=>by rw[World.putObj_size];exact p.lt b c,?_⟩;rw[Jh.jt]
    exact⟨hSl i1 b1 SA1 _ _ w1 _ F.j (Mv.put F.lr rfl rfl (.inl m.tl) λ_ h=>h) λb c=>⟨(hTd b c).1,by rw[World.putObj_size];exact(hTd b c).2⟩,
     F.mv.trans (Mv.put F.lr rfl rfl (.inr (.inr rfl)) λ_ h=>h),World.putObj_heap_same hl1,F.new,F.dis⟩
   refine wpIn_mono (vd (yo.wide.inRound n) hT hm (Jh.still hS m.tl hTl) (Jh.yields hY m.tl hTl) body hri2 c) (λe a2 H C=>?_)
   have fin:∀{E2:Env} {SA2 SB2:LI} {O2:St} {i2:Nat} {b2:Bool} {Z2:zh} (pe:Option Code),RI (λi=>Jh (J i) SAo T n { rec .ready none with state:=.busy } W) (Jh Jx SAo T n { rec .ready none with state:=.busy } W) E2 SA2 SB2 O2 i2 b2 Z2 a2 H->
     (Instr.endRound n pe).run P H=.ok (.bool pe.isNone) (H.putObj n (.loop (rec (if pe.isNone then .ready else .done) pe)))/\Mv SAi (λb=>SA2 b∨b=D∨b=n) W (H.putObj n (.loop (rec (if pe.isNone then .ready else .done) pe)))/\
     (∀b,(SA2 b∨b=D∨b=n)->¬SBi b/\b<(H.putObj n (.loop (rec (if pe.isNone then .ready else .done) pe))).heap.size)/\
     Fr (Jt J Jx i2 b2) SA w n D (rec (if pe.isNone then .ready else .done) pe) (λb=>SA2 b∨b=D∨b=n) SBi SA2 (λb=>T b∨SB2 b) (H.putObj n (.loop (rec (if pe.isNone then .ready else .done) pe))):=by
    intro E2 SA2 SB2 O2 i2 b2 Z2 pe x;have u:=x.j;rw[Jh.jt]at u;have hend:=run_endRound (P:=P) pe u.lr;have erec:({ ({ rec .ready none with state:=.busy }:Loop) with state:=if pe.isNone then .ready else .done,pending:=pe }:Loop)=rec (if pe.isNone then .ready else .done) pe:=by rw[hrec]
    rw[erec]at hend;have hz2:=u.mv.size;have hl2:=(X6.1 u.lr).1;have V:(H.putObj n (.loop (rec (if pe.isNone then .ready else .done) pe))).heap.size=H.heap.size:=World.putObj_size ..;have hSA2:∀b,SA2 b->SAo b∨b=n∨W.heap.size<=b:=λb c=>(u.mv.own b (.inl c)).elim (λk=>k.imp id .inl) λk=>.inr (.inr k)
    have hnl:¬SA2 n:=λk=>u.dis n k (.inl m.tl)
    have hTd2:∀b,T b∨SB2 b->¬SA2 b/\b<H.heap.size:=λb c=>⟨λk=>u.dis b k c,c.elim (λk=>by have:=hTl b k;omega) λk=>(x.dj b k).2⟩
    have hSBi:∀b,(SA2 b∨b=D∨b=n)->¬SBi b:=λb c k=>by
     have q:=m.sb b k
     rcases c with c|c|c
     .exact u.dis b c (.inl q.1)
     .omega
     omega
    have hput:=Mv.put (S:=SAi) (S':=SAi) (o':=.loop (rec (if pe.isNone then .ready else .done) pe)) u.lr rfl rfl ((m.sa n).2 (.inr (.inr rfl))) λ_ h=>h
    have hblk:∀b,b<W.heap.size->¬SAo b->b≠n->(H.putObj n (.loop (rec (if pe.isNone then .ready else .done) pe))).heap[b]?=W.heap[b]? :=λb c h3 h4=>(World.putObj_heap_other h4).trans (u.mv.block b c λk=>k.elim h3 h4)
    refine⟨hend,⟨⟨?_,?_,?_,oM,λb c N=>hblk b c (λk=>N ((m.sa b).2 (.inl k))) λk=>N ((m.sa b).2 (.inr (.inr k))),λb c=>?_,λ_ _ h=>h⟩,λg v B hc=>hput.gl g v B (u.mv.gl g v B hc)⟩,
     λb c=>⟨hSBi b c,?_⟩,⟨?_,λb=>Qk,.inl m.td,.inl m.tl,λb c=>⟨(hTd2 b c).1,by rw[V];exact(hTd2 b c).2⟩,λb c=>⟨.inl (m.sb b c).1,(m.sb b c).2⟩,oM,λb c N=>?_,World.putObj_heap_same hl2,
      (hblk D oM (λk=>(m.dis D m.td).1 k) oM).trans m.df,λb c=>by rw[V];exact x.lt b c,λg v B=>hput.gl g v B (u.mv.gl g v B (m.gl g v B))⟩⟩
    .exact hput.os.trans u.mv.os
    .exact hput.tape.trans u.mv.tape
    .exact u.mv.output.trans hput.output
    .rcases c with c|c
     .exact(hSA2 b c).imp (λk=>(m.sa b).2 (.inl k)) λk=>k.resolve_left λe=>hnl (e ▸ c)
     exact .inl ((m.sa b).2 (.inr c))
    .rcases c with c|c|c
     .rw[V];exact x.lt b c
     .omega
     omega
    .exact hSl i2 b2 SA2 _ _ H _ u.j (Mv.put u.lr rfl rfl (.inl m.tl) λ_ h=>h) λb c=>⟨(hTd2 b c).1,by rw[V];exact(hTd2 b c).2⟩
    obtain⟨q1,q2⟩:=m.old b c N;exact⟨λk=>(hSA2 b k).elim q1 λk=>by omega,(hblk b oM q1 oM).trans q2⟩
   cases e with
   |normal=>
    obtain⟨E2,SA2,SB2,O2,i2,b2,Z2,⟨rfl,rfl⟩,x⟩:=C;obtain⟨f1,f2,f3,f4⟩:=fin none x;exact⟨_,_,f1,_,f2,f3,.inl ⟨rfl,SA2,_,f4⟩⟩
   |ret=>
    obtain⟨E2,SA2,SB2,O2,i2,b2,Z2,rfl,x⟩:=C;obtain⟨f1,f2,f3,f4⟩:=fin (some .ret) x;exact⟨_,_,f1,_,f2,f3,.inr ⟨rfl,SA2,_,f4⟩⟩
   |exit id=>obtain⟨_,_,_,_,_,_,_,m,_⟩:=C;exact m.elim
   |goto _=>exact C.elim
   |panic _=>exact C.elim
   |outgrown=>exact C.elim
 -- behind the inner iterator
 have finR:∀(K:LI->LI->World->Prop) (r r':Loop) (SAi SBi SAo T:LI) (W2:World) (e:Exit),(∀SA SB SB' W W',K SA SB W->Mv SB SB' W W'->(∀b,SB' b->¬SA b/\b<W'.heap.size)->K SA SB' W')->(∀w',K SAo T w'->J xs.length SAo T w'∨Jx SAo T w')->
   (e=.normal∨e=.ret)->Fr K SA w n D r SAi SBi SAo T W2->Q e { a with defers:=[{ target:=.collected D,args:=#[] }]++a.defers } (W2.putObj n (.loop r')):=by
  intro K r r' SAi SBi SAo T W2 e hK hJ he m;have hd:∀b,T b->¬SAo b/\b<(W2.putObj n (.loop r')).heap.size:=λb c=>⟨(m.dis b c).1,by rw[World.putObj_size];exact(m.dis b c).2⟩
  exact hQ e _ D SAo T he ((World.putObj_heap_other oM).trans m.df) m.td hd (hJ _ (hK SAo T T W2 _ m.j (Mv.put m.lr rfl rfl m.tl λ_ h=>h) hd))
 rintro e W2 ⟨⟨v,rfl⟩,SA',SB',(⟨SAo,T,m⟩|⟨SAo,T,m⟩)⟩
 .have he:=run_endLoop (P:=P) m.lr (by rw[hrec];simp);have hpn:(rec .ready none).pending=none:=by rw[hrec]
  rw[hpn]at he;exact⟨none,_,he,finR _ _ _ _ _ _ _ W2 .normal (hSl ys.length false) (λw' k=>.inl (hlen ▸ k)) (.inl rfl) m⟩
 have he:=run_endLoop (P:=P) m.lr (by rw[hrec];simp);have hpn:(rec .done (some .ret)).pending=some .ret:=by rw[hrec]
 rw[hpn]at he;exact⟨some .ret,_,he,wpIn_ret (finR _ _ _ _ _ _ _ W2 .ret (hSl 0 true) (λw' k=>.inr k) (.inr rfl) m)⟩
def zCL(hT:TOK P I)(N:P.follows .mixedOrders=true){f:FuncId}{fn:Func}{c1 G assign body:Code}{id:Nat}{g:Operand}{U:Array Tmp}{caps:LR}(n:P.funcs[f]?=some fn)(o:fn.body=some (.seq c1 (.seq G (.block id (.rangeFunc g U assign body)))))(hn:(fn.name== "runtime.NumGoroutine")=false) (K:Nat.ble (caps.length+1) fn.ntmps=true) (hres:fn.results=#[])
  (h:∀l:Nat,zBm P I l enc xs (.seq c1 G) ⟨qG 0 (.val (.func (.yield l) #[] #[])::caps),[],0,fn.ntmps,0⟩ 0 false λe O i b=>match e with
   |.normal=>i=0/\b=false/\ev O.L g λs=>(match s with
    |.dfn V caps'=>rngN P I l enc xs V caps' U.toList assign body O
    |_=>False)
   |_=>False):zfY P f caps enc xs:=by
 refine⟨⟨fn,n,hn,by rw[o];rfl⟩,λSA w vs l J Jx y H m hSJ hSX hY X=>?_⟩;refine callsIn_of_wp_marks n o trivial ?_ rfl
 have A:=yU (Keep:=SA) (M:=[]) (Z:=λ_=>none) (w:=w) (args:=.val (.func (.yield l) #[] #[])::caps) (vs:=.func (.yield l) #[] #[]::vs) (nt:=fn.ntmps) (qu y H) (λ_ _=>rfl)
  ⟨by simp[m.1],λj s v F T=>by
   cases j with
   |zero=>cases F;cases T;exact .d _ _ (.val _)
   |succ j=>exact .d _ _ ((m.2 j s v (by simpa using F) (by simpa using T)).less λb o=>o.resolve_right zK)⟩ (by simpa using Xw K)
 have R:RI J Jx ⟨w,λ_=>none,SA,Own [] (λ_=>none),[]⟩ SA (λ_=>False) _ 0 false _ _ w:=⟨A,rfl,λ_ h=>h,λ_ o=>absurd o zK,λ_ h=>h.elim,y,X⟩
 have hS:zl3 J Jx:=λi b SA SB SB' W W' p z B=>by
  cases b with
  |false=>exact hSJ i SA SB SB' W W' p z B
  |true=>exact hSX SA SB SB' W W' p z B
 have hY':ziR P l enc xs J Jx:=λi x SA SB W args hx p hA hB ha=>hY i x SA SB W args hx p hA hB (ha _)
 refine wpIn_seq (wpIn_mono (vd yo.wide hT N hS hY' c1 R (h l)) (λe a w c=>?_))
 cases e with
 |exit id=>obtain⟨_,_,_,_,_,_,_,n,_⟩:=c;exact n.elim
 |ret=>obtain⟨_,_,_,_,_,_,_,n,_⟩:=c;exact n.elim
 |panic _=>exact c.elim
 |outgrown=>exact c.elim
 |goto _=>exact c.elim
 |normal=>
 obtain⟨E1,SA1,SB1,O1,i1,b1,Z1,Y,Q⟩:=c;refine wpIn_seq (wpIn_mono (vd yo.wide hT N hS hY' G Q Y) (λe a w c=>?_))
 cases e with
 |exit id=>obtain⟨_,_,_,_,_,_,_,n,_⟩:=c;exact n.elim
 |ret=>obtain⟨_,_,_,_,_,_,_,n,_⟩:=c;exact n.elim
 |panic _=>exact c.elim
 |outgrown=>exact c.elim
 |goto _=>exact c.elim
 |normal=>
 obtain⟨E,SA,SB,O,i,b,Z,⟨rfl,rfl,q⟩,C⟩:=c;obtain⟨s,q,F⟩:=zc8 q;have hg:=F (a:=a) (λt s _ hl=>(C.rel.regs t s hl).2)
 split at q
 .obtain⟨us,e,B⟩:=hg.dfn_d;refine wpIn_block (zFk hT N hS hY' C e B q λe w' D SA SB he hD hSD u p=>?_)
  have main:LeavesInM Fence.wide 0 P fn a.tmps (λe W'=>(∃v,e=.returned v)/\∃SA' SB',J xs.length SA' SB' W'∨Jx SA' SB' W') ([{ target:=.collected D,args:=#[] }]++a.defers) .returning w':=by
   rw[C.rel.defers,C.ds];have hput:=Mv.put (S:=SB) (S':=SB) (o':=.deferred none) hD rfl rfl hSD λ_ h=>h
   have r:∀b,SB b->¬SA b/\b<(w'.putObj D (.deferred none)).heap.size:=λb o=>⟨(u b o).1,by rw[World.putObj_size];exact(u b o).2⟩
   refine⟨sI,.inl ⟨D,_,rfl,run_takeDeferred hD,.tuple #[],by unfold results;rw[hres];simp,⟨_,rfl⟩,SA,SB,?_⟩⟩;exact p.imp (λk=>hSJ _ SA SB SB _ _ k hput r) λk=>hSX SA SB SB _ _ k hput r
  rcases he with rfl|rfl
  .exact main
  exact main
 exact q.elim
end
end Go.Gs
