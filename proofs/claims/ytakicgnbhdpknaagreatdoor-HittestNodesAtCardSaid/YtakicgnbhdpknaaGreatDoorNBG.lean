/- An iterator whose code is a loop over another iterator. -/
import Derived.Test.YtakicgnbhdpknaaGreatDoorNBA
set_option maxRecDepth 100000
set_option maxHeartbeats 8000000
set_option linter.all false
namespace Go.Gs
def zuH:LP->Bool
 |[]=>true
 |(_,s)::r=>match j9 s with
  |true=>zuH r
  |false=>false
def znn:∀{L:LP} {t:Nat} {s:SV},zuH L=true->kK L t=some s->j9 s=true
 |(k,s0)::r,t,s,h,hl=>by
  unfold zuH at h
  split at h
  ·rename_i h1;rw[kq]at hl
   by_cases e:k=t
   ·rw[Xe e]at hl;cases hl;exact h1
   rw[Xc e]at hl;exact znn h hl
  cases h
def rngN(P:Program)(Γ:LS)(l:Nat){α:Type}(enc:α->LR)(xs:List α)(f:FuncId)(caps:LR)(ps:LC)(assign body:Code)(σ:St):Prop:=
 ∃(β:Type) (enc':β->LR) (ys:List β) (L:LP) (nk:Nat),
  zfb P f caps enc' ys/\(∀y,(enc' y).length=ps.length)/\(zbJ ps=true/\zmJ σ.nt ps=true/\zuH L=true)/\ys.length=xs.length/\Sub σ ⟨L,[],nk,σ.nt,σ.n0⟩/\
  ∀(j:Nat) y,ys[j]?=some y->zyo P Γ l enc xs assign ⟨zlL ps (enc' y) L,[],nk,σ.nt,σ.n0⟩ j false λe σ1 i1 b1=>match e with
   |.normal=>zyo P Γ l enc xs body σ1 i1 b1 λe _ i2 b2=>(match e with
    |.normal=>i2=j+1/\b2=false
    |.exit _=>False
    |.ret=>b2=true)
   |_=>False
def Mv.wide{S S' T T':LI}{w w':World}(h:Mv S S' w w')(h1:∀b,S b->T b)(h2:∀b,T' b->T b∨S' b):Mv T T' w w':=
 ⟨⟨h.os,h.tape,h.output,h.size,λb hb hn=>h.block b hb λk=>hn (h1 b k),λb hb=>(h2 b hb).elim .inl λk=>(h.own b k).imp (h1 b) id,λ_ _ h=>h⟩,h.gl⟩
def Mv.trans{S S' S'':LI}{w w' w'':World}(h:Mv S S' w w')(k:Mv S' S'' w' w''):Mv S S'' w w'':=
 ⟨h.toStp.trans k.toStp,λg v hg hc=>k.gl g v hg (h.gl g v hg hc)⟩
def Mv.put{S S':LI}{w:World}{l:Nat}{o o':Obj}(hl:w.heap[l]?=some o)(ho:o.isCells=false)(ho':o'.isCells=false)(h1:S l)(h2:∀b,S' b->S b):Mv S S' w (w.putObj l o'):=
 ⟨⟨rfl,rfl,kO.put hl ho ho',by rw[World.putObj_size];exact Xk _,λb _ hn=>World.putObj_heap_other λe=>hn (e ▸ h1),λb hb=>.inl (h2 b hb),λ_ _ h=>h⟩,λg v _ hc=>zgH hl ho hc⟩
section
variable{P:Program}{Γ:LS}{α:Type}{enc:α->LR}{xs:List α}{l:Nat}{J:Nat->LI->LI->World->Prop}{Jx:LI->LI->World->Prop}
structure Jh (J:LI->LI->World->Prop) (S0 T:LI) (l0:Nat) (r:Loop) (W:World) (SA SB:LI) (w:World):Prop where
 j:J SA (λb=>T b∨SB b) w
 mv:Mv (λb=>S0 b∨b=l0) (λb=>SA b∨SB b∨b=l0) W w
 lr:w.heap[l0]?=some (.loop r)
 new:∀b,SB b->W.heap.size<=b
 dis:∀b,SA b->¬(T b∨SB b)
def Jh.still(hS:zkI J Jx){S0 T:LI}{l0:Nat}{r:Loop}{W:World}(hT:T l0)(hT':∀b,T b->b<W.heap.size):
  zkI (λi=>Jh (J i) S0 T l0 r W) (Jh Jx S0 T l0 r W):=by
 have main:∀(K:LI->LI->World->Prop) (SA SB SB':LI) (w w':World),(∀SA SB SB' W W',K SA SB W->Mv SB SB' W W'->(∀b,SB' b->¬SA b/\b<W'.heap.size)->K SA SB' W')->
   Jh K S0 T l0 r W SA SB w->Mv SB SB' w w'->(∀b,SB' b->¬SA b/\b<w'.heap.size)->Jh K S0 T l0 r W SA SB' w':=by
  intro K SA SB SB' w w' hK h hmv hd;have hz:=h.mv.size;have hl:=(XX.1 h.lr).1;have hlt:l0<W.heap.size:=hT' l0 hT;have hno:¬SB l0:=λk=>by have:=h.new l0 k;omega
  have hdis:∀b,SA b->¬(T b∨SB' b):=λb hb k=>k.elim (λk=>h.dis b hb (.inl k)) λk=>(hd b k).1 hb
  refine⟨hK SA (λb=>T b∨SB b) _ w w' h.j (hmv.wide (λb hb=>.inr hb) λb hb=>hb.elim (λk=>.inl (.inl k)) .inr) λb hb=>⟨λk=>hdis b k hb,hb.elim (λk=>by have:=hT' b k;have:=hmv.size;omega) λk=>(hd b k).2⟩,?_,
   (hmv.block l0 hl hno).trans h.lr,λb hb=>(hmv.own b hb).elim (h.new b) λk=>by omega,hdis⟩
  exact h.mv.trans (hmv.wide (λb hb=>.inr (.inl hb)) λb hb=>hb.elim (λk=>.inl (.inl k)) λk=>k.elim .inr λk=>.inl (.inr (.inr k)))
 intro i b SA SB SB' w w' h hmv hd
 cases b with
 |false=>exact main (J i) SA SB SB' w w' (hS i false) h hmv hd
 |true=>exact main Jx SA SB SB' w w' (hS 0 true) h hmv hd
def Jh.yields(hY:zhI P l enc xs J Jx){S0 T:LI}{l0:Nat}{r:Loop}{W:World}(hT:T l0)(hT':∀b,T b->b<W.heap.size):
  zhI P l enc xs (λi=>Jh (J i) S0 T l0 r W) (Jh Jx S0 T l0 r W):=by
 intro i x SA SB w args hx h hA hB hargs;have hz:=h.mv.size;have hl:=(XX.1 h.lr).1;obtain⟨fn,tmps,za,bd,hrun,hR⟩:=hY i x SA (λb=>T b∨SB b) w args hx h.j hA (λb hb=>⟨λk=>h.dis b k hb,hb.elim (λk=>by have:=hT' b k;omega) λk=>(hB b k).2⟩) hargs;refine⟨fn,tmps,za,bd,hrun,hR.mono ?_⟩
 rintro e w' ⟨SA',hmv,hd,hres⟩
 have fin:∀K:LI->LI->World->Prop,K SA' (λb=>T b∨SB b) w'->Jh K S0 T l0 r W SA' SB w':=λK hj=>
  ⟨hj,h.mv.trans (hmv.wide (λb hb=>.inl hb) λb hb=>hb.elim .inr λk=>.inl (.inr k)),(hmv.block l0 hl λk=>h.dis l0 k (.inl hT)).trans h.lr,h.new,λb hb k=>(hd b hb).1 k⟩
 exact⟨SA',hmv,λb hb=>⟨λk=>(hd b hb).1 (.inr k),(hd b hb).2⟩,hres.imp (λk=>⟨k.1,fin _ k.2⟩) λk=>⟨k.1,fin _ k.2⟩⟩
def Jh.jt(S0 T:LI)(l0:Nat)(r:Loop)(W:World)(i:Nat)(b:Bool):Jt (λi=>Jh (J i) S0 T l0 r W) (Jh Jx S0 T l0 r W) i b=Jh (Jt J Jx i b) S0 T l0 r W:=by cases b <;> rfl
structure Fr (K:LI->LI->World->Prop) (SA:LI) (w:World) (l0 D:Nat) (r:Loop) (SAi SBi SAo T:LI) (W:World):Prop where
 j:K SAo T W
 sa:∀b,SAi b↔SAo b∨b=D∨b=l0
 td:T D
 tl:T l0
 dis:∀b,T b->¬SAo b/\b<W.heap.size
 sb:∀b,SBi b->T b/\w.heap.size+2<=b
 size:w.heap.size+2<=W.heap.size
 old:∀b,b<w.heap.size->¬SA b->¬SAo b/\W.heap[b]?=w.heap[b]?
 lr:W.heap[l0]?=some (.loop r)
 df:W.heap[D]?=some (.deferred (some []))
 lt:∀b,SAo b->b<W.heap.size
 gl:∀g v,GL g v->W.cell? ⟨g,0,none⟩=some v
def Fr.other{K:LI->LI->World->Prop}{SA SAi SBi SBi' SAo T:LI}{w W W':World}{l0 D:Nat}{r:Loop}(hK:∀SA SB SB' W W',K SA SB W->Mv SB SB' W W'->(∀b,SB' b->¬SA b/\b<W'.heap.size)->K SA SB' W')(h:Fr K SA w l0 D r SAi SBi SAo T W)(hl:l0<w.heap.size+2)(hD:D<w.heap.size+2)(hmv:Mv SBi SBi' W W')(hd:∀b,SBi' b->¬SAi b/\b<W'.heap.size):Fr K SA w l0 D r SAi SBi' SAo (λb=>T b∨SBi' b) W':=by
 have hz:=h.size;have hz':=hmv.size;have hlow:∀b,b<w.heap.size+2->W'.heap[b]?=W.heap[b]? :=λb hb=>hmv.block b oM λk=>by have:=(h.sb b k).2;omega
 have hdis:∀b,T b∨SBi' b->¬SAo b/\b<W'.heap.size:=λb hb=>hb.elim (λk=>⟨(h.dis b k).1,by have:=(h.dis b k).2;omega⟩) λk=>⟨λq=>(hd b k).1 ((h.sa b).2 (.inl q)),(hd b k).2⟩
 exact⟨hK SAo T _ W W' h.j (hmv.wide (λb hb=>(h.sb b hb).1) λb hb=>hb) hdis,h.sa,.inl h.td,.inl h.tl,hdis,λb hb=>⟨.inr hb,(hmv.own b hb).elim (λk=>(h.sb b k).2) λk=>by omega⟩,oM,
  λb hb hn=>⟨(h.old b hb hn).1,(hlow b oM).trans (h.old b hb hn).2⟩,(hlow l0 hl).trans h.lr,(hlow D hD).trans h.df,λb hb=>by have:=h.lt b hb;omega,λg v hg=>hmv.gl g v hg (h.gl g v hg)⟩
def zB8(hT:TOK P Γ)(hm:P.follows .mixedOrders=true)(hS:zkI J Jx)(hY:zhI P l enc xs J Jx){E:Env}{SA SB:LI}{σ:St}{ρ:zh}{a:Act}{w:World}(hr:RI J Jx E SA SB σ 0 false ρ a w){f:FuncId}{caps:LR}{vs:LA}{g:Operand}{ps:Array Tmp}{assign body:Code}(hg:a.eval g=.func (.func f) #[] vs.toArray)(hcaps:Ds (λb=>E.Keep b∨Own σ.M ρ b) w caps vs)(h:rngN P Γ l enc xs f caps ps.toList assign body σ){Q:LF}(hQ:∀(e:Exit) (w':World) (D:Nat) (SA SB:LI),(e=.normal∨e=.ret)->w'.heap[D]?=some (.deferred (some []))->SB D->(∀b,SB b->¬SA b/\b<w'.heap.size)->(J xs.length SA SB w'∨Jx SA SB w')->
   Q e { a with defers:=[{ target:=.collected D,args:=#[] }]++a.defers } w'):(Code.rangeFunc g ps assign body).wpIn Fence.wide 0 P Q a w:=by
 obtain⟨β,enc',ys,L,nk,⟨hcall,hit⟩,henc,⟨hnd,hlt,hfl⟩,hlen,hsub,hround⟩:=h;obtain⟨ρs,hrs⟩:=hsub _ ρ a w hr.rel.cut;have hsz:a.tmps.size=σ.nt:=hrs.size;have hL:∀t s,kK L t=some s->t<a.tmps.size/\D E.Keep w s (a.tmps.getD t undef):=λt s hl=>⟨hsz ▸ (hrs.regs t s hl).1,(uP (znn hfl hl) (hrs.regs t s hl).2).less λb hb=>.inl hb⟩
 have hgl:∀g v,GL g v->w.cell? ⟨g,0,none⟩=some v:=λg v hg=>hr.rel.mem.glc hg
 have hsa:=hr.sa;have hdj:=hr.dj;have hltA:=hr.lt;have hj0:=hr.j;have hcaps:Ds E.Keep w caps vs:=⟨hcaps.1,λj s v hs hv=>(hcaps.2 j s v hs hv).less λb hb=>.inl hb⟩;clear hr hrs hsub;refine wpIn_rangeFunc λfn _=>?_;obtain⟨rec,hrec⟩:∃rec:LoopState->Option Code->Loop,rec=λst pe=>{ state:=st,pending:=pe,fn,tmps:=a.tmps,params:=ps,assign,body,defers:=w.heap.size }:=⟨_,rfl⟩
 obtain⟨W1,hin,hL1,hK1,hz1,hsame1,hout1,hos1⟩:=zyl (P:=P) w fn a.tmps ps assign body;rw[show({ state:=.ready,pending:=none,fn,tmps:=a.tmps,params:=ps,assign,body,defers:=w.heap.size }:Loop)=rec .ready none from by rw[hrec]]at hL1;obtain⟨l0,hl0⟩:∃l0,l0=w.heap.size+1:=⟨_,rfl⟩;obtain⟨D,hD⟩:∃D,D=w.heap.size:=⟨_,rfl⟩;rw[←hl0]at hL1;rw[←hD]at hK1;rw[←hl0,←hD]at hin;have hSl:∀i b SA SB SB' W W',Jt J Jx i b SA SB W->Mv SB SB' W W'->(∀b,SB' b->¬SA b/\b<W'.heap.size)->Jt J Jx i b SA SB' W':=hS
 have hmv1:Mv SB (λb=>SB b∨b=D∨b=l0) w W1:=⟨⟨hos1.1,hos1.2,hout1,oM,λb hb _=>hsame1 b hb,λb hb=>hb.imp id λk=>by omega,λ_ _ h=>h⟩,λg v _ hc=>(zfm (hsame1 g (zjl hc))).trans hc⟩;have hdis1:∀b,(SB b∨b=D∨b=l0)->¬SA b/\b<W1.heap.size:=λb hb=>hb.elim (λk=>⟨(hdj b k).1,by have:=(hdj b k).2;omega⟩) λk=>⟨λq=>by have:=hltA b q;omega,oM⟩
 have hf0:Fr (J 0) SA w l0 D (rec .ready none) (λb=>SA b∨b=D∨b=l0) (λ_=>False) SA (λb=>SB b∨b=D∨b=l0) W1:=
  ⟨hSl 0 false SA SB _ w W1 hj0 hmv1 hdis1,λb=>K5,.inr (.inl rfl),.inr (.inr rfl),hdis1,λb hb=>hb.elim,oM,λb hb hn=>⟨hn,hsame1 b hb⟩,hL1,hK1,λb hb=>by have:=hltA b hb;omega,
   λg v hg=>hmv1.gl g v hg (hgl g v hg)⟩
 refine⟨l0,[{ target:=.collected D,args:=#[] }],W1,{ target:=.fn (.func f) vs.toArray,args:=#[.func (.yield l0) #[] #[]] },W1,f,List.toArray (.func (.yield l0) #[] #[]::vs),W1,hin,?_,λ_ _=>trivial,?_,yj.wide.need,?_⟩
 ·simp only[resolve,hg];simp[go_sem]
 ·obtain⟨fn',c1,c2,c3⟩:=hcall;simp only[invoke,callFunc,Sem.run_bind,Sem.run_pure,Result.andThen_ok,run_program,c1,c2,c3,Ky,if_false];simp
 refine(hit (λb=>SA b∨b=D∨b=l0) W1 vs l0 (λi SAi SBi W=>∃SAo T,Fr (J i) SA w l0 D (rec .ready none) SAi SBi SAo T W) (λSAi SBi W=>∃SAo T,Fr Jx SA w l0 D (rec .done (some .ret)) SAi SBi SAo T W)
  (λb hb=>by rcases hb with hb|hb|hb <;> (try have:=hltA b hb) <;> omega) hf0.gl ?_ ?_ ?_ ?_ ⟨_,_,hf0⟩).mono ?_
 ·exact⟨hcaps.1,λj s v hs hv=>(hcaps.2 j s v hs hv).mono oM λb hb hn=>⟨λk=>k.elim (λk=>hn (hsa b k)) λk=>by omega,hsame1 b hb⟩⟩
 ·rintro i SAi SBi SBi' W W' ⟨SAo,T,hf⟩ hmv hd
  exact⟨SAo,_,hf.other (hSl i false) oM oM hmv hd⟩
 ·rintro SAi SBi SBi' W W' ⟨SAo,T,hf⟩ hmv hd
  exact⟨SAo,_,hf.other (hSl 0 true) oM oM hmv hd⟩
 ·rintro i y SAi SBi W args hy ⟨SAo,T,hf⟩ hSAlt hSBd hargs
  have hz:=hf.size;have hrun:=run_yield (P:=P) (args:=List.toArray args) hf.lr (by rw[hrec];have:=hargs.1;rw[henc y]at this;simpa using this);rw[hrec]at hrun
  have hzip:∀A:Array Value,(ps.zip (List.toArray args)).foldl (λtmps (t,a)=>tmps.setIfInBounds t a) A=vr (ps.toList.zip args) A:=λA=>by
   unfold vr;rw[←JG,Array.toList_zip]
  dsimp only at hrun;rw[hzip]at hrun;have hTl:∀b,T b->b<W.heap.size:=λb hb=>(hf.dis b hb).2
  have hrel:Rel ⟨W,λ_=>none,SAo,Own [] (λ_=>none),[]⟩ ⟨zlL ps.toList (enc' y) L,[],nk,σ.nt,σ.n0⟩ (λ_=>none) { tmps:=vr (ps.toList.zip args) a.tmps,defers:=[] } W:=by
   refine⟨by rw[zdR];exact hsz,rfl,λt s hlk=>?_,qt hf.lt hf.gl,λ_ _=>rfl,.refl,hf.lt,λk v hk=>by cases hk⟩
   have:=zql (S:=λb=>SAo b∨Own [] (λ_=>none) b) (Pm:=Own [] (λ_=>none)) (ρ:=λ_=>none) hnd (hsz ▸ hlt) (henc y) ⟨hargs.1,λj s v hs hv=>(hargs.2 j s v hs hv).less λb hb=>.inl ((hf.sa b).2 (.inl (hb.resolve_right zP)))⟩
    (λt s hl'=>⟨(hL t s hl').1,.d _ _ ((hL t s hl').2.mono oM λb hb hn=>by
     obtain⟨q1,q2⟩:=hf.old b hb λk=>hn (hsa b k)
     exact⟨λk=>q1 (k.resolve_right zP),q2⟩)⟩) t s hlk
   rwa [hsz]at this
  have eT:(λb=>T b∨(λ_:Nat=>False) b)=T:=funext λb=>propext ⟨λh=>h.resolve_right id,.inl⟩
  have hri:RI (λi=>Jh (J i) SAo T l0 (rec .ready none) W) (Jh Jx SAo T l0 (rec .ready none) W) ⟨W,λ_=>none,SAo,Own [] (λ_=>none),[]⟩ SAo (λ_=>False) ⟨zlL ps.toList (enc' y) L,[],nk,σ.nt,σ.n0⟩ i false (λ_=>none)
    { tmps:=vr (ps.toList.zip args) a.tmps,defers:=[] } W:=
   ⟨hrel,rfl,λ_ h=>h,λb hb=>absurd hb zP,λ_ h=>h.elim,hf.lt,⟨by rw[eT];exact hf.j,⟨⟨rfl,rfl,.refl _,Xk _,λ_ _ _=>rfl,λb hb=>.inl (hb.imp id λk=>k.resolve_left id),λ_ _ h=>h⟩,λ_ _ _ h=>h⟩,hf.lr,λ_ h=>h.elim,
    λb hb k=>k.elim (λk=>(hf.dis b k).1 hb) id⟩⟩
  refine⟨fn,_,assign,body,hrun,roundIn_of_wpIn trivial ?_⟩;refine wpIn_mono (u0 (yj.wide.inRound l0) hT hm (Jh.still hS hf.tl hTl) (Jh.yields hY hf.tl hTl) assign hri (hround i y hy)) (λe a1 w1 hq=>?_)
  cases e with
  |exit id=>obtain⟨_,_,_,_,_,_,_,hf,_⟩:=hq;exact hf.elim
  |ret=>obtain⟨_,_,_,_,_,_,_,hf,_⟩:=hq;exact hf.elim
  |panic _=>exact hq.elim
  |outgrown=>exact hq.elim
  |goto _=>exact hq.elim
  |normal=>
   obtain⟨E1,SA1,SB1,σ1,i1,b1,ρ1,hb,hr1⟩:=hq;have h1:=hr1.j;rw[Jh.jt]at h1;refine⟨_,run_beginRound h1.lr (by rw[hrec]),?_⟩;have hl1:=(XX.1 h1.lr).1;have hTd:∀b,T b∨SB1 b->¬SA1 b/\b<w1.heap.size:=λb hb=>⟨λk=>h1.dis b k hb,hb.elim (λk=>by have:=hTl b k;have:=h1.mv.size;omega) λk=>(hr1.dj b k).2⟩
   have hri2:RI (λi=>Jh (J i) SAo T l0 { rec .ready none with state:=.busy } W) (Jh Jx SAo T l0 { rec .ready none with state:=.busy } W) ⟨w1.putObj l0 (.loop { rec .ready none with state:=.busy }),E1.ρ0,E1.Keep,Own σ1.M ρ1,E1.ds⟩ SA1 SB1 σ1 i1 b1 ρ1 a1 (w1.putObj l0 (.loop { rec .ready none with state:=.busy })):=by
    refine⟨hr1.rel.put h1.lr rfl (by intro _ _ h;cases h),hr1.ds,hr1.sa,hr1.sb,λb hb=>⟨(hr1.dj b hb).1,by rw[World.putObj_size];exact(hr1.dj b hb).2⟩,λb hb=>by rw[World.putObj_size];exact hr1.lt b hb,?_⟩;rw[Jh.jt]
    exact⟨hSl i1 b1 SA1 _ _ w1 _ h1.j (Mv.put h1.lr rfl rfl (.inl hf.tl) λ_ h=>h) λb hb=>⟨(hTd b hb).1,by rw[World.putObj_size];exact(hTd b hb).2⟩,
     h1.mv.trans (Mv.put h1.lr rfl rfl (.inr (.inr rfl)) λ_ h=>h),World.putObj_heap_same hl1,h1.new,h1.dis⟩
   refine wpIn_mono (u0 (yj.wide.inRound l0) hT hm (Jh.still hS hf.tl hTl) (Jh.yields hY hf.tl hTl) body hri2 hb) (λe a2 w3 hq=>?_)
   have fin:∀{E2:Env} {SA2 SB2:LI} {σ2:St} {i2:Nat} {b2:Bool} {ρ2:zh} (pe:Option Code),RI (λi=>Jh (J i) SAo T l0 { rec .ready none with state:=.busy } W) (Jh Jx SAo T l0 { rec .ready none with state:=.busy } W) E2 SA2 SB2 σ2 i2 b2 ρ2 a2 w3->
     (Instr.endRound l0 pe).run P w3=.ok (.bool pe.isNone) (w3.putObj l0 (.loop (rec (if pe.isNone then .ready else .done) pe)))/\Mv SAi (λb=>SA2 b∨b=D∨b=l0) W (w3.putObj l0 (.loop (rec (if pe.isNone then .ready else .done) pe)))/\
     (∀b,(SA2 b∨b=D∨b=l0)->¬SBi b/\b<(w3.putObj l0 (.loop (rec (if pe.isNone then .ready else .done) pe))).heap.size)/\
     Fr (Jt J Jx i2 b2) SA w l0 D (rec (if pe.isNone then .ready else .done) pe) (λb=>SA2 b∨b=D∨b=l0) SBi SA2 (λb=>T b∨SB2 b) (w3.putObj l0 (.loop (rec (if pe.isNone then .ready else .done) pe))):=by
    intro E2 SA2 SB2 σ2 i2 b2 ρ2 pe hr2;have h2:=hr2.j;rw[Jh.jt]at h2;have hend:=run_endRound (P:=P) pe h2.lr;have erec:({ ({ rec .ready none with state:=.busy }:Loop) with state:=if pe.isNone then .ready else .done,pending:=pe }:Loop)=rec (if pe.isNone then .ready else .done) pe:=by rw[hrec]
    rw[erec]at hend;have hz2:=h2.mv.size;have hl2:=(XX.1 h2.lr).1;have hz3:(w3.putObj l0 (.loop (rec (if pe.isNone then .ready else .done) pe))).heap.size=w3.heap.size:=World.putObj_size ..;have hSA2:∀b,SA2 b->SAo b∨b=l0∨W.heap.size<=b:=λb hb=>(h2.mv.own b (.inl hb)).elim (λk=>k.imp id .inl) λk=>.inr (.inr k)
    have hnl:¬SA2 l0:=λk=>h2.dis l0 k (.inl hf.tl)
    have hTd2:∀b,T b∨SB2 b->¬SA2 b/\b<w3.heap.size:=λb hb=>⟨λk=>h2.dis b k hb,hb.elim (λk=>by have:=hTl b k;omega) λk=>(hr2.dj b k).2⟩
    have hSBi:∀b,(SA2 b∨b=D∨b=l0)->¬SBi b:=λb hb k=>by
     have q:=hf.sb b k
     rcases hb with hb|hb|hb
     ·exact h2.dis b hb (.inl q.1)
     ·omega
     omega
    have hput:=Mv.put (S:=SAi) (S':=SAi) (o':=.loop (rec (if pe.isNone then .ready else .done) pe)) h2.lr rfl rfl ((hf.sa l0).2 (.inr (.inr rfl))) λ_ h=>h
    have hblk:∀b,b<W.heap.size->¬SAo b->b≠l0->(w3.putObj l0 (.loop (rec (if pe.isNone then .ready else .done) pe))).heap[b]?=W.heap[b]? :=λb hb h3 h4=>(World.putObj_heap_other h4).trans (h2.mv.block b hb λk=>k.elim h3 h4)
    refine⟨hend,⟨⟨?_,?_,?_,oM,λb hb hn=>hblk b hb (λk=>hn ((hf.sa b).2 (.inl k))) λk=>hn ((hf.sa b).2 (.inr (.inr k))),λb hb=>?_,λ_ _ h=>h⟩,λg v hg hc=>hput.gl g v hg (h2.mv.gl g v hg hc)⟩,
     λb hb=>⟨hSBi b hb,?_⟩,⟨?_,λb=>K5,.inl hf.td,.inl hf.tl,λb hb=>⟨(hTd2 b hb).1,by rw[hz3];exact(hTd2 b hb).2⟩,λb hb=>⟨.inl (hf.sb b hb).1,(hf.sb b hb).2⟩,oM,λb hb hn=>?_,World.putObj_heap_same hl2,
      (hblk D oM (λk=>(hf.dis D hf.td).1 k) oM).trans hf.df,λb hb=>by rw[hz3];exact hr2.lt b hb,λg v hg=>hput.gl g v hg (h2.mv.gl g v hg (hf.gl g v hg))⟩⟩
    ·exact hput.os.trans h2.mv.os
    ·exact hput.tape.trans h2.mv.tape
    ·exact h2.mv.output.trans hput.output
    ·rcases hb with hb|hb
     ·exact(hSA2 b hb).imp (λk=>(hf.sa b).2 (.inl k)) λk=>k.resolve_left λe=>hnl (e ▸ hb)
     exact .inl ((hf.sa b).2 (.inr hb))
    ·rcases hb with hb|hb|hb
     ·rw[hz3];exact hr2.lt b hb
     ·omega
     omega
    ·exact hSl i2 b2 SA2 _ _ w3 _ h2.j (Mv.put h2.lr rfl rfl (.inl hf.tl) λ_ h=>h) λb hb=>⟨(hTd2 b hb).1,by rw[hz3];exact(hTd2 b hb).2⟩
    obtain⟨q1,q2⟩:=hf.old b hb hn;exact⟨λk=>(hSA2 b k).elim q1 λk=>by omega,(hblk b oM q1 oM).trans q2⟩
   cases e with
   |normal=>
    obtain⟨E2,SA2,SB2,σ2,i2,b2,ρ2,⟨rfl,rfl⟩,hr2⟩:=hq;obtain⟨f1,f2,f3,f4⟩:=fin none hr2;exact⟨_,_,f1,_,f2,f3,.inl ⟨rfl,SA2,_,f4⟩⟩
   |ret=>
    obtain⟨E2,SA2,SB2,σ2,i2,b2,ρ2,rfl,hr2⟩:=hq;obtain⟨f1,f2,f3,f4⟩:=fin (some .ret) hr2;exact⟨_,_,f1,_,f2,f3,.inr ⟨rfl,SA2,_,f4⟩⟩
   |exit id=>obtain⟨_,_,_,_,_,_,_,hf,_⟩:=hq;exact hf.elim
   |goto _=>exact hq.elim
   |panic _=>exact hq.elim
   |outgrown=>exact hq.elim
 -- behind the inner iterator
 have finR:∀(K:LI->LI->World->Prop) (r r':Loop) (SAi SBi SAo T:LI) (W2:World) (e:Exit),(∀SA SB SB' W W',K SA SB W->Mv SB SB' W W'->(∀b,SB' b->¬SA b/\b<W'.heap.size)->K SA SB' W')->(∀w',K SAo T w'->J xs.length SAo T w'∨Jx SAo T w')->
   (e=.normal∨e=.ret)->Fr K SA w l0 D r SAi SBi SAo T W2->Q e { a with defers:=[{ target:=.collected D,args:=#[] }]++a.defers } (W2.putObj l0 (.loop r')):=by
  intro K r r' SAi SBi SAo T W2 e hK hJ he hf;have hd:∀b,T b->¬SAo b/\b<(W2.putObj l0 (.loop r')).heap.size:=λb hb=>⟨(hf.dis b hb).1,by rw[World.putObj_size];exact(hf.dis b hb).2⟩
  exact hQ e _ D SAo T he ((World.putObj_heap_other oM).trans hf.df) hf.td hd (hJ _ (hK SAo T T W2 _ hf.j (Mv.put hf.lr rfl rfl hf.tl λ_ h=>h) hd))
 rintro e W2 ⟨⟨v,rfl⟩,SA',SB',(⟨SAo,T,hf⟩|⟨SAo,T,hf⟩)⟩
 ·have he:=run_endLoop (P:=P) hf.lr (by rw[hrec];simp);have hpn:(rec .ready none).pending=none:=by rw[hrec]
  rw[hpn]at he;exact⟨none,_,he,finR _ _ _ _ _ _ _ W2 .normal (hSl ys.length false) (λw' k=>.inl (hlen ▸ k)) (.inl rfl) hf⟩
 have he:=run_endLoop (P:=P) hf.lr (by rw[hrec];simp);have hpn:(rec .done (some .ret)).pending=some .ret:=by rw[hrec]
 rw[hpn]at he;exact⟨some .ret,_,he,wpIn_ret (finR _ _ _ _ _ _ _ W2 .ret (hSl 0 true) (λw' k=>.inr k) (.inr rfl) hf)⟩
def zzU(hT:TOK P Γ)(hm:P.follows .mixedOrders=true){f:FuncId}{fn:Func}{c1 c2 assign body:Code}{id:Nat}{g:Operand}{ps:Array Tmp}{caps:LR}(hf:P.funcs[f]?=some fn)(hb:fn.body=some (.seq c1 (.seq c2 (.block id (.rangeFunc g ps assign body)))))(hn:(fn.name== "runtime.NumGoroutine")=false) (hle:Nat.ble (caps.length+1) fn.ntmps=true) (hres:fn.results=#[])
  (h:∀l:Nat,zyo P Γ l enc xs (.seq c1 c2) ⟨jJ 0 (.val (.func (.yield l) #[] #[])::caps),[],0,fn.ntmps,0⟩ 0 false λe σ i b=>match e with
   |.normal=>i=0/\b=false/\ev σ.L g λs=>(match s with
    |.dfn f' caps'=>rngN P Γ l enc xs f' caps' ps.toList assign body σ
    |_=>False)
   |_=>False):zfb P f caps enc xs:=by
 refine⟨⟨fn,hf,hn,by rw[hb];rfl⟩,λSA w vs l J Jx hlt hgl hcaps hSJ hSX hY h0=>?_⟩;refine callsIn_of_wp_marks hf hb trivial ?_ rfl
 have hrel:=vK (Keep:=SA) (M:=[]) (ρ:=λ_=>none) (w:=w) (args:=.val (.func (.yield l) #[] #[])::caps) (vs:=.func (.yield l) #[] #[]::vs) (nt:=fn.ntmps) (qt hlt hgl) (λ_ _=>rfl)
  ⟨by simp[hcaps.1],λj s v hs hv=>by
   cases j with
   |zero=>cases hs;cases hv;exact .d _ _ (.val _)
   |succ j=>exact .d _ _ ((hcaps.2 j s v (by simpa using hs) (by simpa using hv)).less λb hb=>hb.resolve_right zP)⟩ (by simpa using Xz hle)
 have hri:RI J Jx ⟨w,λ_=>none,SA,Own [] (λ_=>none),[]⟩ SA (λ_=>False) _ 0 false _ _ w:=⟨hrel,rfl,λ_ h=>h,λ_ hb=>absurd hb zP,λ_ h=>h.elim,hlt,h0⟩
 have hS:zkI J Jx:=λi b SA SB SB' W W' hj hmv hd=>by
  cases b with
  |false=>exact hSJ i SA SB SB' W W' hj hmv hd
  |true=>exact hSX SA SB SB' W W' hj hmv hd
 have hY':zhI P l enc xs J Jx:=λi x SA SB W args hx hj hA hB ha=>hY i x SA SB W args hx hj hA hB (ha _)
 refine wpIn_seq (wpIn_mono (u0 yj.wide hT hm hS hY' c1 hri (h l)) (λe a w hq=>?_))
 cases e with
 |exit id=>obtain⟨_,_,_,_,_,_,_,hf,_⟩:=hq;exact hf.elim
 |ret=>obtain⟨_,_,_,_,_,_,_,hf,_⟩:=hq;exact hf.elim
 |panic _=>exact hq.elim
 |outgrown=>exact hq.elim
 |goto _=>exact hq.elim
 |normal=>
 obtain⟨E1,SA1,SB1,σ1,i1,b1,ρ1,h1,hr1⟩:=hq;refine wpIn_seq (wpIn_mono (u0 yj.wide hT hm hS hY' c2 hr1 h1) (λe a w hq=>?_))
 cases e with
 |exit id=>obtain⟨_,_,_,_,_,_,_,hf,_⟩:=hq;exact hf.elim
 |ret=>obtain⟨_,_,_,_,_,_,_,hf,_⟩:=hq;exact hf.elim
 |panic _=>exact hq.elim
 |outgrown=>exact hq.elim
 |goto _=>exact hq.elim
 |normal=>
 obtain⟨E,SA,SB,σ,i,b,ρ,⟨rfl,rfl,h2⟩,hr⟩:=hq;obtain⟨s,h2,hs⟩:=zcy h2;have hg:=hs (a:=a) (λt s _ hl=>(hr.rel.regs t s hl).2)
 split at h2
 ·obtain⟨us,e,hd⟩:=hg.dfn_d;refine wpIn_block (zB8 hT hm hS hY' hr e hd h2 λe w' D SA SB he hD hSD hdj hj=>?_)
  have main:LeavesInM Fence.wide 0 P fn a.tmps (λe W'=>(∃v,e=.returned v)/\∃SA' SB',J xs.length SA' SB' W'∨Jx SA' SB' W') ([{ target:=.collected D,args:=#[] }]++a.defers) .returning w':=by
   rw[hr.rel.defers,hr.ds];have hput:=Mv.put (S:=SB) (S':=SB) (o':=.deferred none) hD rfl rfl hSD λ_ h=>h
   have hd':∀b,SB b->¬SA b/\b<(w'.putObj D (.deferred none)).heap.size:=λb hb=>⟨(hdj b hb).1,by rw[World.putObj_size];exact(hdj b hb).2⟩
   refine⟨sI,.inl ⟨D,_,rfl,run_takeDeferred hD,.tuple #[],by unfold results;rw[hres];simp,⟨_,rfl⟩,SA,SB,?_⟩⟩;exact hj.imp (λk=>hSJ _ SA SB SB _ _ k hput hd') λk=>hSX SA SB SB _ _ k hput hd'
  rcases he with rfl|rfl
  ·exact main
  exact main
 exact h2.elim
end
end Go.Gs
