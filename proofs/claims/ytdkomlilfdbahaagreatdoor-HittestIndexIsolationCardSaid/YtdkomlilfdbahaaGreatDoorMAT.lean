/- A block that holds no cells turns: what is za0 stays; what another party writes. -/
import Derived.Test.YtdkomlilfdbahaaGreatDoorMAS
import Derived.RangeFuncBox
set_option maxRecDepth 100000
set_option maxHeartbeats 80000000
set_option linter.all false
namespace Go.Gs
section put
variable{w:World}{l:Nat}{o o':Obj}
def zhy(i:w.heap[l]?=some o)(j:o.isCells=false){a:Addr}{v:Value}(h:w.cell? a=some v):(w.putObj l o').cell? a=some v:=by
 obtain⟨k,d,g⟩:=cells_of_cell h
 have b:a.block≠l:=by
  intro e;rw[e,i]at d
  cases d
  rw[j]at g;cases g
 exact(World.cell?_of_block (World.putObj_heap_other b)).trans h
def kU.put(g:w.heap[l]?=some o)(h:o.isCells=false)(d:o'.isCells=false):kU w (w.putObj l o'):=⟨rfl,λa=>by
 unfold World.frozen?
 by_cases e:a.block=l
 .have b:=(X6.1 g).1;rw[e,g,World.putObj_heap_same b]
  cases o <;> cases o' <;> first|rfl|(cases h;done)|(cases d;done)
 rw[World.putObj_heap_other e]⟩
def D.put(e:w.heap[l]?=some o)(y:o.isCells=false){S:LI}{s:SV}{v:Value}(h:D S w s v):D S (w.putObj l o') s v:=by
 induction h with
 |val v=>exact .val v
 |pr p i=>exact .pr p i
 |agg cs vs e h d=>exact .agg cs vs e d
 |nil enc a=>exact .nil enc a
 |nils a=>exact .nils a
 |anyb b=>exact .anyb b
 |junk v=>exact .junk v
 |full enc xs a h d=>exact .full enc xs a d
 |sl enc xs sz b o cap c q hS' n k x g h d=>
  exact .sl enc xs sz b o cap c (by rw[World.putObj_size];exact q) hS' n k x (λi j hi m=>⟨zhy e y (g i j hi m).1,(g i j hi m).2⟩) d
 |dptr cs b o c q hS' g h d=>
  exact .dptr cs b o c (by rw[World.putObj_size];exact q) hS' (λj m=>⟨zhy e y (g j m).1,(g j m).2⟩) d
 |dfn f cs vs e h d=>exact .dfn f cs vs e d
 |bm f cs vs e h d=>exact .bm f cs vs e d
 |op v h=>exact .op v h
 |ifc t s v h d=>exact .ifc t s v d
def G.put(e:w.heap[l]?=some o)(p:o.isCells=false){S Pm:LI}{Z:zh}{s:SV}{v:Value}(h:G S Pm Z w s v):G S Pm Z (w.putObj l o') s v:=by
 induction h with
 |d s v h=>exact .d s v (h.put e p)
 |loc k off b h=>exact .loc k off b h
 |own k v h m=>exact .own k v h m
 |eloc k sz i off b len cap h=>exact .eloc k sz i off b len cap h
 |win k sz lo n b len cap cap' h m y=>exact .win k sz lo n b len cap cap' h m y
 |ptr cs b o c z hP' q h=>
  exact .ptr cs b o c (by rw[World.putObj_size];exact z) hP' (λj x=>⟨zhy e p (q j x).1,(q j x).2⟩) (λj s A=>(h j s A).put e p)
 |agg cs vs e h g=>exact .agg cs vs e g
 |tup cs vs e h g=>exact .tup cs vs e g
 |fn f cs vs e h g=>exact .fn f cs vs e g
 |ifc t s v h g=>exact .ifc t s v g
def jD.put(g:w.heap[l]?=some o)(y:o.isCells=false)(N:∀H c,o≠.map H c){S Pm:LI}{Z:zh}{k:Nat}{m:Mem}(h:jD S Pm Z w k m):jD S Pm Z (w.putObj l o') k m:=by
 cases m with
 |box T cs=>
  obtain⟨b,vs,p,d,q,t,z⟩:=h;refine⟨b,vs,p,(World.putObj_heap_other λe=>?_).trans d,q,t,λj s v D R=>(z j s v D R).put g y⟩;rw[e,g]at d;cases d;cases y
 |arr T enc sz xs=>
  obtain⟨v,cells,p,d,q,t,z,A⟩:=h;refine⟨v,cells,p,ownsRow_putObj d o' g y,q,t,z,λi j x s G C=>?_⟩;obtain⟨u,F,B⟩:=A i j x s G C;exact⟨u,F,B.put g y⟩
 |garr T sz xs=>
  obtain⟨v,cells,p,d,q,t,z,A⟩:=h;refine⟨v,cells,p,ownsRow_putObj d o' g y,q,t,z,λi j x s G C=>?_⟩;obtain⟨u,F,B⟩:=A i j x s G C;exact⟨u,F,B.put g y⟩
 |map H=>
  obtain⟨r,ents,clock,p,d,q,t⟩:=h;refine⟨r,ents,clock,p,(World.putObj_heap_other λe=>?_).trans d,q,λi n s hi=>?_⟩
  .rw[e,g]at d;cases d;exact N _ _ rfl
  obtain⟨e,J,K,L⟩:=t i n s hi;exact⟨e,J,K,L.put g y⟩
def zI.put(j:w.heap[l]?=some o)(n:o.isCells=false)(x:∀p c,o≠.map p c){Keep:LI}{M:LT}{Z:zh}(h:zI Keep M Z w):zI Keep M Z (w.putObj l o'):=
 ⟨λk m t=>(h.rel k m t).put j n x,h.keys,h.apart,λb d=>⟨by rw[World.putObj_size];exact(h.old b d).1,(h.old b d).2⟩,λb d=>by rw[World.putObj_size];exact h.kp b d,λg v s=>by
  obtain⟨q,i⟩:=h.gl g v s;refine⟨q,(zf8 (World.putObj_heap_other λe=>?_)).trans i⟩;subst e
  cases o <;> simp[World.cell?,j,Obj.isCells]at i n⟩
def Rel.cut{E:Env}{O:St}{Z:zh}{a:Act}{w:World}(h:Rel E O Z a w):Rel ⟨w,E.ρ0,E.Keep,Own O.M Z,E.ds⟩ O Z a w:=
 ⟨h.size,h.defers,h.regs,h.mem,h.fresh,⟨rfl,rfl,.refl _,Xj _,λ_ _ _=>rfl,λ_ h=>.inl h,h.stp.rho⟩,h.mem.kp,h.low⟩
def Rel.put(e:w.heap[l]?=some o)(g:o.isCells=false)(k:∀i c,o≠.map i c){E:Env}{O:St}{Z:zh}{a:Act}(h:Rel E O Z a w):
  Rel ⟨w.putObj l o',E.ρ0,E.Keep,Own O.M Z,E.ds⟩ O Z a (w.putObj l o'):=
 ⟨h.size,h.defers,λt s d=>⟨(h.regs t s d).1,(h.regs t s d).2.put e g⟩,h.mem.put e g k,h.fresh,
  ⟨rfl,rfl,.refl _,Xj _,λ_ _ _=>rfl,λ_ h=>.inl h,h.stp.rho⟩,λb j=>by rw[World.putObj_size];exact h.mem.kp b j,h.low⟩
end put
section
def pfS:SV->Bool
 |.ptr _=>false
 |.agg cs=>pfs cs
 |.tup cs=>pfs cs
 |.fn _ cs=>pfs cs
 |.ifc _ s=>pfS s
 |_=>true
 where
 pfs:LR->Bool
  |[]=>true
  |c::cs=>match pfS c with
   |true=>pfs cs
   |false=>false
def zfp:∀{cs:LR},pfS.pfs cs=true->∀(j:Nat) (s:SV),cs[j]?=some s->pfS s=true
 |[],_,j,s,b=>by simp at b
 |c::cs,h,j,s,b=>by
  unfold pfS.pfs at h
  split at h
  .rename_i d
   cases j with
   |zero=>cases b;exact d
   |succ j=>exact zfp h j s (by simpa using b)
  cases h
def G.pf{S S' Pm Pm':LI}{Z:zh}{w w':World}(z:w.heap.size<=w'.heap.size)(hS:∀b,b<w.heap.size->¬S b->¬S' b/\w'.heap[b]?=w.heap[b]?){s:SV}{v:Value}(h:G S Pm Z w s v)(p:pfS s=true):G S' Pm' Z w' s v:=by
 induction h with
 |d s v h=>exact .d s v (h.mono z hS)
 |loc k off b h=>exact .loc k off b h
 |own k v h x=>exact .own k v h x
 |eloc k sz i off b len cap h=>exact .eloc k sz i off b len cap h
 |win k sz lo n b len cap cap' h x y=>exact .win k sz lo n b len cap cap' h x y
 |ptr cs b o c A hP' B h=>cases p
 |agg cs vs m h g=>exact .agg cs vs m λj s v e q=>g j s v e q (zfp p j s e)
 |tup cs vs m h g=>exact .tup cs vs m λj s v e q=>g j s v e q (zfp p j s e)
 |fn f cs vs m h g=>exact .fn f cs vs m λj s v e q=>g j s v e q (zfp p j s e)
 |ifc t s v h g=>exact .ifc t s v (g p)
def G.low{S Pm:LI}{Z Z':zh}{w:World}{n:Nat}(m:∀k v,k<n->Z k=some v->Z' k=some v){s:SV}{v:Value}(h:G S Pm Z w s v)(e:uf n s=true):G S Pm Z' w s v:=by
 induction h with
 |d s v h=>exact .d s v h
 |loc k off b h=>exact .loc k off b (m _ _ (by unfold uf at e;exact Yv ▸ e) h)
 |own k v h y=>exact .own k v (m _ _ (by unfold uf at e;exact Yv ▸ e) h) y
 |eloc k sz i off b len cap h=>exact .eloc k sz i off b len cap (m _ _ (by unfold uf at e;exact Yv ▸ e) h)
 |win k sz lo n b len cap cap' h y z=>exact .win k sz lo n b len cap cap' (m _ _ (by unfold uf at e;exact Yv ▸ e) h) y z
 |ptr cs b o c A hP' B h=>exact .ptr cs b o c A hP' B h
 |agg cs vs g h q=>exact .agg cs vs g λj s v p x=>q j s v p x (zbs e j s p)
 |tup cs vs g h q=>exact .tup cs vs g λj s v p x=>q j s v p x (zbs e j s p)
 |fn f cs vs g h q=>exact .fn f cs vs g λj s v p x=>q j s v p x (zbs e j s p)
 |ifc t s v h q=>exact .ifc t s v (q (by unfold uf at e;exact e))
def pfM:Mem->Prop
 |.box _ cs=>pfS.pfs cs=true
 |.arr _ _ _ _=>True
 |.garr _ _ xs=>∀x∈xs,pfS.pfs x=true
 |.map _=>True
def zl1(M:LT):Prop:=∀k m,(k,m)∈M->pfM m
def jD.pf{S S' Pm Pm':LI}{Z:zh}{w:World}{k:Nat}{m:Mem}(hS:∀b,S' b->S b)(F:pfM m)(h:jD S Pm Z w k m):jD S' Pm' Z w k m:=by
 have hS':∀b,b<w.heap.size->¬S b->¬S' b/\w.heap[b]?=w.heap[b]? :=λb _ K=>⟨λk=>K (hS b k),rfl⟩
 cases m with
 |box T cs=>
  obtain⟨b,vs,d,g,p,q,t⟩:=h;exact⟨b,vs,d,g,p,q,λj s v y L=>(t j s v y L).pf (Xj _) hS' (zfp F j s y)⟩
 |arr T enc sz xs=>
  obtain⟨v,cells,d,g,p,q,t,B⟩:=h;refine⟨v,cells,d,g,p,q,t,λi j x s A z=>?_⟩;obtain⟨u,D,C⟩:=B i j x s A z;exact⟨u,D,C.less hS⟩
 |garr T sz xs=>
  obtain⟨v,cells,d,g,p,q,t,B⟩:=h;refine⟨v,cells,d,g,p,q,t,λi j x s A z=>?_⟩;obtain⟨u,D,C⟩:=B i j x s A z;exact⟨u,D,C.pf (Xj _) hS' (zfp (F x (Xf A)) j s z)⟩
 |map N=>
  obtain⟨r,ents,clock,d,g,p,q⟩:=h;refine⟨r,ents,clock,d,g,p,λi n s hi=>?_⟩;obtain⟨e,G,H,J⟩:=q i n s hi;exact⟨e,G,H,J.less hS⟩
structure Mv (S S':LI) (w w':World):Prop extends Stp S S' (λ_=>none) (λ_=>none) w w' where
 gl:∀g v,GL g v->w.cell? ⟨g,0,none⟩=some v->w'.cell? ⟨g,0,none⟩=some v
variable{M:LT}{Z:zh}{w':World}
def zI.other{K T T':LI}{w:World}(h:zI (λb=>K b∨T b) M Z w)(q:zl1 M)(d:Mv T T' w w')(p:∀b,T' b->¬Own M Z b/\b<w'.heap.size):zI (λb=>K b∨T' b) M Z w':=by
 have n:∀b,Own M Z b->¬T b:=λb e ht=>(h.old b e).2 (.inr ht)
 have z:Stp (λb=>Own M Z b∨T b) (λb=>Own M Z b∨T' b) Z Z w w':=
  ⟨d.os,d.tape,d.output,d.size,λb e y=>d.block b e λht=>y (.inr ht),λb e=>e.elim (λh=>.inl (.inl h)) λht=>(d.own b ht).imp .inr id,λ_ _ h=>h⟩
 refine⟨λk m i=>?_,h.keys,h.apart,λb e=>⟨Xx (h.old b e).1 d.size,λi=>i.elim (λk=>(h.old b e).2 (.inl k)) λht=>(p b ht).1 e⟩,λb e=>e.elim (λk=>Xx (h.kp b (.inl k)) d.size) λht=>(p b ht).2,λg v j=>⟨(h.gl g v j).1,d.gl g v j (h.glc j)⟩⟩
 have t:jD (λb=>K b∨(Own M Z b∨T b)) (λb=>Own M Z b∨T b) Z w k m:=
  (h.rel k m i).pf (λb e=>e.elim (λk=>.inl (.inl k)) λh=>h.elim .inr λht=>.inl (.inr ht)) (q k m i)
 have x:=t.keep z rfl (λv b s e=>d.block b (h.old b ⟨k,m,v,i,s,e⟩).1 (n b ⟨k,m,v,i,s,e⟩));exact x.pf (λb e=>e.elim (λh=>h.elim .inl λht=>.inr (.inr ht)) λh=>.inr (.inl h)) (q k m i)
def zI.few{K K':LI}{M:LT}{Z:zh}{w:World}(h:zI K M Z w)(i:zl1 M)(e:∀b,K' b->K b):zI K' M Z w:=
 ⟨λk m g=>(h.rel k m g).pf (λ_ d=>d.imp (e _) id) (i k m g),h.keys,h.apart,λb d=>⟨(h.old b d).1,λk=>(h.old b d).2 (e b k)⟩,λb d=>h.kp b (e b d),h.gl⟩
def Ds(S:LI)(w:World)(cs:LR)(vs:LA):Prop:=
 vs.length=cs.length/\∀(j:Nat) (s:SV) (v:Value),cs[j]?=some s->vs[j]?=some v->D S w s v
def zfY(P:Program)(f:FuncId)(caps:LR){α:Type}(enc:α->LR)(xs:List α):Prop:=
 zdT P f/\∀(SA:LI) (w:World) (vs:LA) (l:Nat) (J:Nat->LI->LI->World->Prop) (Jx:LI->LI->World->Prop),
  (∀b,SA b->b<w.heap.size)->(∀g v,GL g v->w.cell? ⟨g,0,none⟩=some v)->Ds SA w caps vs->
  (∀i SA SB SB' W W',J i SA SB W->Mv SB SB' W W'->(∀b,SB' b->¬SA b/\b<W'.heap.size)->J i SA SB' W')->
  (∀SA SB SB' W W',Jx SA SB W->Mv SB SB' W W'->(∀b,SB' b->¬SA b/\b<W'.heap.size)->Jx SA SB' W')->
  (∀i x SA SB W args,xs[i]?=some x->J i SA SB W->(∀b,SA b->b<W.heap.size)->(∀b,SB b->¬SA b/\b<W.heap.size)->Ds (λb=>SA b∨SB b) W (enc x) args->
   YieldAt Fence.wide 0 P l (List.toArray args) W λe W'=>∃SA':LI,Mv SA SA' W W'/\(∀b,SA' b->¬SB b/\b<W'.heap.size)/\
    ((e=.returned (.bool true)/\J (i+1) SA' SB W')∨(e=.returned (.bool false)/\Jx SA' SB W')))->
  J 0 SA (λ_=>False) w->
  CallsIn Fence.wide 0 P f (List.toArray (.func (.yield l) #[] #[]::vs)) w λe W'=>(∃v,e=.returned v)/\∃SA' SB',J xs.length SA' SB' W'∨Jx SA' SB' W'
def zne:LC->LR->LP->LP
 |p::d,e::b,L=>(p,e)::zne d b L
 |_,_,L=>L
def vK(l:List (Nat×Value))(A:Array Value):Array Value:=l.foldl (λtm p=>tm.setIfInBounds p.1 p.2) A
def zew:∀(l:List (Nat×Value)) (A:Array Value),(vK l A).size=A.size
 |[],_=>rfl
 |p::l,A=>by unfold vK;rw[Qo];exact(zew l _).trans sI
def zdk:∀(l:List (Nat×Value)) (A:Array Value) (t:Nat),(∀p∈l,p.1≠t)->(vK l A).getD t undef=A.getD t undef
 |[],_,_,_=>rfl
 |p::l,A,t,h=>by
  unfold vK;rw[Qo];refine(zdk l _ t λq b=>h q (.tail _ b)).trans ?_;rw[X7,K3 (h p (.head _)),←X7]
def zoa:∀(l:List (Nat×Value)) (A:Array Value),(l.map Prod.fst).Nodup->∀(j:Nat) (t:Nat) (v:Value),l[j]?=some (t,v)->t<A.size->(vK l A).getD t undef=v
 |[],_,_,j,t,v,h,_=>by simp at h
 |p::l,A,b,j,t,v,h,ht=>by
  rw[Qu,QV]at b;unfold vK;rw[Qo]
  cases j with
  |zero=>
   cases h
   refine(zdk l _ t λq d e=>b.1 (by rw[XK];exact⟨q,d,e⟩)).trans ?_;simp[X7,ht]
  |succ j=>exact zoa l _ b.2 j t v (by simpa using h) (by simpa using ht)
def zob:∀(d:LC) (g:LR) (L:LP) (t:Nat) (s:SV),d.length=g.length->kw (zne d g L) t=some s->
  (∃j:Nat,d[j]?=some t/\g[j]?=some s)∨((∀p∈d,p≠t)/\kw L t=some s)
 |[],[],L,t,s,_,h=>.inr ⟨λ_ b=>(by cases b),h⟩
 |[],_::_,_,_,_,i,_=>by cases i
 |_::_,[],_,_,_,i,_=>by cases i
 |p::d,e::g,L,t,s,i,h=>by
  unfold zne at h;rw[zV]at h
  by_cases b:p=t
  .rw[Xe b]at h
   cases h
   exact .inl ⟨0,by rw[b];rfl,rfl⟩
  rw[Xc b]at h
  rcases zob d g L t s (by simpa using i) h with⟨j,k,m⟩|⟨k,m⟩
  .exact .inl ⟨j+1,k,m⟩
  exact .inr ⟨λq n=>by cases n with
   |head=>exact b
   |tail _ n=>exact k q n,m⟩
def pfL(m:Nat):LP->Bool
 |[]=>true
 |(_,s)::r=>match pfS s with
  |true=>(match uf m s with
   |true=>pfL m r
   |false=>false)
  |false=>false
def zpX{m:Nat}:∀{L:LP} {t:Nat} {s:SV},pfL m L=true->kw L t=some s->pfS s=true/\uf m s=true
 |[],_,_,_,h=>by cases h
 |(k,s0)::r,t,s,h,b=>by
  unfold pfL at h
  split at h
  .rename_i d
   split at h
   .rename_i g;rw[zV]at b
    by_cases e:k=t
    .rw[Xe e]at b;cases b;exact⟨d,g⟩
    rw[Xc e]at b;exact zpX h b
   cases h
  cases h
def zoc(n:Nat):LC->Bool
 |[]=>true
 |p::r=>match Nat.blt p n with
  |true=>zoc n r
  |false=>false
def zod{n:Nat}:∀{l:LC},zoc n l=true->∀p∈l,p<n
 |[],_,_,h=>by cases h
 |q::r,h,p,b=>by
  unfold zoc at h
  split at h
  .rename_i d
   cases b with
   |head=>exact Yv ▸ d
   |tail _ b=>exact zod h p b
  cases h
def zBi(O:St):Prop:=∃E Z a w,Rel E O Z a w
def zwc(P:Program)(I:LS)(f:FuncId)(caps:LR)(d:LC)(assign body:Code)(O:St)(Q:LH):Prop:=
 ∃(β:Type) (enc:β->LR) (ys:List β) (m:Nat) (L:LP) (S:Nat->LT) (nk:Nat->Nat),
  zfY P f caps enc ys/\(∀y,(enc y).length=d.length)/\(v7 d=true/\zoc O.nt d=true/\u9 assign=true/\u9 body=true)/\
  Sub O ⟨L,S 0,nk 0,O.nt,O.n0⟩/\(O.n0<=m/\pfL m L=true)/\(∀j,zl1 (S j))/\
  (∀j y,ys[j]?=some y->zBi ⟨zne d (enc y) L,S j,nk j,O.nt,m⟩->js P I assign ⟨zne d (enc y) L,S j,nk j,O.nt,m⟩ λe O1=>match e with
   |.normal=>js P I body O1 λe O2=>match e with
    |.normal=>Sub O2 ⟨[],S (j+1),nk (j+1),O.nt,m⟩
    |.exit id=>∃M' b,Sub O2 ⟨[],M',b,O.nt,m⟩/\zl1 M'/\Q (.exit id) ⟨L,M',b,O.nt,O.n0⟩
    |.ret=>∃M' b,Sub O2 ⟨[],M',b,O.nt,m⟩/\zl1 M'/\Q .ret ⟨L,M',b,O.nt,O.n0⟩
   |_=>False)/\
  (zBi ⟨L,S ys.length,nk ys.length,O.nt,O.n0⟩->Q .normal ⟨L,S ys.length,nk ys.length,O.nt,O.n0⟩)
structure RR (E E':Env) (O:St) (Z:zh) (a:Act) (w:World):Prop where
 rel:Rel E' O Z a w
 rho:E'.ρ0=E.ρ0
 kp:∀b,E.Keep b->E'.Keep b
 stp:Stp E.W0 (Own O.M Z) E.ρ0 Z E.w0 w
 marks:∀d∈E'.ds,∃D,d={ target:=.collected D,args:=#[] }/\E'.Keep D/\E.w0.heap.size<=D/\w.heap[D]?=some (.deferred (some []))
 apart:E'.ds.Pairwise λd e=>∀D D',d.target=.collected D->e.target=.collected D'->D≠D'
variable{E:Env}{E':Env}{O:St}{a:Act}{a':Act}
def RR.next{O':St}{Z':zh}{w:World}(h:RR E E' O Z a w)(p:Rel ⟨w,E'.ρ0,E'.Keep,Own O.M Z,E'.ds⟩ O' Z' a' w'):
  RR E ⟨w,E'.ρ0,E'.Keep,Own O.M Z,E'.ds⟩ O' Z' a' w':=by
 have i:=p.stp;refine⟨p,h.rho,h.kp,⟨i.os.trans h.stp.os,i.tape.trans h.stp.tape,h.stp.output.trans i.output,XC h.stp.size i.size,λb m q=>?_,λb m=>?_,λk v j=>?_⟩,λd s=>?_,h.apart⟩
 .refine(i.block b (Xx m h.stp.size) λn=>?_).trans (h.stp.block b m q);exact(h.stp.own b n).elim q λg=>oM
 .exact(i.own b m).elim (h.stp.own b) λg=>.inr (XC h.stp.size g)
 .have:E'.ρ0 k=some v:=by rw[h.rho];exact j
  exact i.rho k v this
 obtain⟨D,e,j,g,t⟩:=h.marks d s;exact⟨D,e,j,g,(i.block D (h.rel.mem.kp D j) λn=>(h.rel.mem.old D n).2 j).trans t⟩
def zl2(E:Env)(Q:LH):LF
 |.normal,a,w=>∃E' O Z,Q .normal O/\RR E E' O Z a w
 |.exit id,a,w=>∃E' O Z,Q (.exit id) O/\RR E E' O Z a w
 |.ret,a,w=>∃E' O Z,Q .ret O/\RR E E' O Z a w
 |_,_,_=>False
variable{Q:LH}
def zl2.of{w:World}(h:RR E E' O Z a w){e:Exit}(g:u1 ⟨w,E'.ρ0,E'.Keep,Own O.M Z,E'.ds⟩ Q e a' w'):zl2 E Q e a' w':=by
 cases e with
 |normal=>obtain⟨O',Z',b,d⟩:=g;exact⟨_,O',Z',b,h.next d⟩
 |exit id=>obtain⟨O',Z',b,d⟩:=g;exact⟨_,O',Z',b,h.next d⟩
 |ret=>obtain⟨O',Z',b,d⟩:=g;exact⟨_,O',Z',b,h.next d⟩
 |_=>exact g
structure Jc (E:Env) (K0 SB Own0:LI) (m nkv:Nat) (w0:World) (ρs:zh) (M:LT) (ρj:zh) (W:World):Prop where
 mem:zI (λb=>K0 b∨SB b) M ρj W
 names:∀k v,k<m->ρs k=some v->ρj k=some v
 fresh:∀k,nkv<=k->ρj k=none
 stp:Stp E.W0 (Own M ρj) E.ρ0 ρj E.w0 W
 same:∀b,b<w0.heap.size->¬Own0 b->W.heap[b]?=w0.heap[b]?
 size:w0.heap.size+2<=W.heap.size
 sb:∀b,SB b->w0.heap.size+2<=b
 own:∀b,Own M ρj b->Own0 b∨w0.heap.size+2<=b
 dis:∀b,SB b->¬K0 b
def Jc.other{E:Env}{K0 SB SB' Own0:LI}{m nkv:Nat}{n:World}{ρs ρj:zh}{M:LT}{W W':World}(h:Jc E K0 SB Own0 m nkv n ρs M ρj W)(s:zl1 M)(t:E.w0.heap.size<=n.heap.size)(d:Mv SB SB' W W')(g:∀b,SB' b->¬(K0 b∨Own M ρj b)/\b<W'.heap.size):Jc E K0 SB' Own0 m nkv n ρs M ρj W':=by
 have v:=h.size
 refine⟨h.mem.other s d λb e=>⟨λq=>(g b e).1 (.inr q),(g b e).2⟩,h.names,h.fresh,
  ⟨d.os.trans h.stp.os,d.tape.trans h.stp.tape,h.stp.output.trans d.output,XC h.stp.size d.size,λb e i=>?_,h.stp.own,h.stp.rho⟩,
  λb e i=>?_,XC h.size d.size,λb e=>?_,h.own,λb e k=>(g b e).1 (.inl k)⟩
 .exact(d.block b oM λj=>by have:=h.sb b j;omega).trans (h.stp.block b e i)
 .exact(d.block b oM λj=>by have:=h.sb b j;omega).trans (h.same b e i)
 exact(d.own b e).elim (h.sb b) λp=>oM
def zhz:∀{l:LC},v7 l=true->l.Nodup
 |[],_=>List.nodup_nil
 |k::r,h=>by
  unfold v7 at h
  split at h
  .cases h
  rename_i b;exact QV.2 ⟨λd=>(by rw[zg1 d]at b;cases b),zhz h⟩
def zBj{P:Program}(w:World)(fn:FuncId)(tmps:Array Value)(d:Array Tmp)(assign body:Code):∃W1,
  (Instr.enterLoop fn tmps d assign body none).run P w=.ok (w.heap.size+1,[{ target:=.collected w.heap.size,args:=#[] }]) W1/\
  W1.heap[w.heap.size+1]?=some (.loop { state:=.ready,pending:=none,fn,tmps,params:=d,assign,body,defers:=w.heap.size })/\W1.heap[w.heap.size]?=some (.deferred (some []))/\
  W1.heap.size=w.heap.size+2/\(∀b,b<w.heap.size->W1.heap[b]?=w.heap[b]?)/\kU w W1/\W1.os=w.os/\W1.tape=w.tape:=by
 refine⟨_,run_enterLoop_outer _ _ _ _ _,?_,(RowKit.Below.heap_alloc _ _ _ sI).trans (World.alloc_heap_new w _),sI,λb h=>(RowKit.Below.heap_alloc _ _ _ (by simp;omega)).trans (RowKit.Below.heap_alloc _ _ _ h),?_,rfl,rfl⟩
 .have:=World.alloc_heap_new (w.alloc (.deferred (some []))) (.loop { state:=.ready,pending:=none,fn,tmps,params:=d,assign,body,defers:=w.heap.size });rwa [World.size_alloc]at this
 have one:∀(w:World) (o:Obj),o.isCells=false->kU w (w.alloc o):=λw o i=>⟨rfl,λb=>by
  unfold World.frozen?
  by_cases e:b.block=w.heap.size
  .rw[e,World.alloc_heap_new,K6 (Xj _)]
   cases o <;> first|rfl|cases i
  by_cases g:b.block<w.heap.size
  .rw[RowKit.Below.heap_alloc _ _ _ g]
  rw[K6 (by rw[World.size_alloc];omega),K6 oM]⟩
 exact(one w _ rfl).trans (one _ _ rfl)
def zse{S Pm:LI}{Z:zh}{w:World}{b:LC}{h:LR}{L:LP}{args:LA}{A:Array Value}(n:v7 b=true)(m:zoc A.size b=true)(j:h.length=b.length)(hargs:Ds S w h args)(hL:∀t s,kw L t=some s->t<A.size/\G S Pm Z w s (A.getD t undef))(t:Nat)(s:SV)(k:kw (zne b h L) t=some s):t<A.size/\G S Pm Z w s ((vK (b.zip args) A).getD t undef):=by
 obtain⟨q,e,i⟩|⟨e,i⟩:=zob _ _ _ _ _ j.symm k
 .have g:t<A.size:=zod m t (Xf e);have B:=hargs.1;have x:q<args.length:=by have:=(Xd.1 e).1;omega
  have v:(b.zip args)[q]?=some (t,args[q]):=by
   rw[List.getElem?_zip_eq_some];exact⟨e,Xb x⟩
  refine⟨g,?_⟩;rw[zoa _ _ (by rw[List.map_fst_zip oM];exact zhz n) q t _ v g];exact .d _ _ (hargs.2 q s _ i (Xb x))
 obtain⟨y,z⟩:=hL t s i;refine⟨y,?_⟩;rw[zdk _ _ _ λp C=>e p.1 (List.of_mem_zip C).1];exact z
variable{P:Program}{I:LS}{f:FuncId}
def zsf(hT:TOK P I)(hm:P.follows .mixedOrders=true){w:World}(hr0:RR E E' O Z a w)
{caps:LR} {vs:LA} {g:Operand} {ps:Array Tmp} {assign body:Code}
  (hg:a.eval g=.func (.func f) #[] vs.toArray) (J:Ds (λb=>E'.Keep b∨Own O.M Z b) w caps vs) (h:zwc P I f caps ps.toList assign body O Q):
  (Code.rangeFunc g ps assign body).wpIn Fence.wide 0 P (zl2 E Q) a w:=by
 obtain⟨β,enc,ys,m,L,S,nk,⟨hcall,hit⟩,henc,⟨hnd,hlt,hd1,hd2⟩,hsub,⟨hn0,hpf⟩,hpm,hround,hdone⟩:=h;obtain⟨ρs,hrs0⟩:=hsub _ Z a w hr0.rel.cut;have hown0:∀b,Own (S 0) ρs b->Own O.M Z b:=λb n=>(hrs0.stp.own b n).resolve_right λH=>by have:=(hrs0.mem.old b n).1;have H:w.heap.size<=b:=H;omega
 have C:=hr0.next hrs0
 have J:Ds (λb=>E'.Keep b∨Own (S 0) ρs b) w caps vs:=⟨J.1,λj s v V U=>(J.2 j s v V U).less λb n=>n.imp id (hown0 b)⟩;obtain⟨E1,hE1⟩:∃E1:Env,E1=⟨w,E'.ρ0,E'.Keep,Own O.M Z,E'.ds⟩:=⟨_,rfl⟩;have hkeep:E1.Keep=E'.Keep:=by rw[hE1]
 rw[←hE1]at C;rw[←hkeep]at J;clear hE1 hkeep hrs0 hr0 hsub hown0;have hsz0:=C.stp.size;refine wpIn_rangeFunc λfn _=>?_;obtain⟨rec,hrec⟩:∃rec:LoopState->Option Code->Loop,rec=λst pe=>{ state:=st,pending:=pe,fn,tmps:=a.tmps,params:=ps,assign,body,defers:=w.heap.size }:=⟨_,rfl⟩
 obtain⟨W1,hin,hL1,hK1',hz1,hsame1,hout1,hos1⟩:=zBj (P:=P) w fn a.tmps ps assign body;rw[show({ state:=.ready,pending:=none,fn,tmps:=a.tmps,params:=ps,assign,body,defers:=w.heap.size }:Loop)=rec .ready none from by rw[hrec]]at hL1;obtain⟨l,hl⟩:∃l,l=w.heap.size+1:=⟨_,rfl⟩;obtain⟨D,hD⟩:∃D,D=w.heap.size:=⟨_,rfl⟩;rw[←hl]at hL1;rw[←hD]at hK1';have hDl:D<l:=oM;have hE0:∀b,b<E.w0.heap.size->b<w.heap.size:=λb n=>Xx n hsz0
 obtain⟨K0,hK0⟩:∃K0:LI,K0=λb=>E1.Keep b∨b=D∨b=l:=⟨_,rfl⟩
 have hKl:K0 l:=by rw[hK0];exact .inr (.inr rfl)
 have hKD:K0 D:=by rw[hK0];exact .inr (.inl rfl)
 have hK1:∀b,E1.Keep b->K0 b:=λb n=>by rw[hK0];exact .inl n
 have hKlt:∀b,K0 b->b<w.heap.size+2:=λb n=>by
  rw[hK0]at n
  rcases n with n|rfl|rfl
  .have:=C.rel.mem.kp b n;omega
  .omega
  omega
 have hKo:∀b,K0 b->b<w.heap.size->E1.Keep b:=λb n hlt=>by
  rw[hK0]at n
  rcases n with n|rfl|rfl
  .exact n
  .omega
  omega
 have hKe:∀b,K0 b->E1.Keep b∨b=D∨b=l:=λb n=>by rw[hK0]at n;exact n
 clear hK0
 -- what lies in the slots,looked at later
 have regsL:∀{SB:LI} {M:LT} {nkv:Nat} {ρj:zh} {W:World},Jc E K0 SB (Own (S 0) ρs) m nkv w ρs M ρj W->∀t s,kw L t=some s->
   t<O.nt/\G (λb=>(K0 b∨SB b)∨Own M ρj b) (Own M ρj) ρj W s (a.tmps.getD t undef):=λ{SB M nkv ρj W} p t s x=>by
  obtain⟨h1,h2⟩:=C.rel.regs t s x;obtain⟨p1,p2⟩:=zpX hpf x;have hz:=p.size;refine⟨h1,(h2.pf (w':=W) oM (λb n R=>⟨λq=>?_,p.same b n λF=>R (.inr F)⟩) p1).low p.names p2⟩
  rcases q with(q|q)|q
  .exact R (.inl (hKo b q n))
  .have:=p.sb b q;omega
  exact(p.own b q).elim (λF=>R (.inr F)) λH=>oM
 -- the first round
 have hst1:Stp (Own (S 0) ρs) (Own (S 0) ρs) ρs ρs w W1:=⟨hos1.1,hos1.2,hout1,oM,λb n _=>hsame1 b n,λ_ h=>.inl h,λ_ _ h=>h⟩
 have hj0:Jc E K0 (λ_=>False) (Own (S 0) ρs) m (nk 0) w ρs (S 0) ρs W1:=by
  refine⟨?_,λ_ _ _ h=>h,C.rel.fresh,C.stp.trans hst1,λb n _=>hsame1 b n,oM,λ_ h=>h.elim,λb h=>.inl h,λ_ h=>h.elim⟩
  have hm1:zI E1.Keep (S 0) ρs W1:=⟨λk mm q=>(C.rel.mem.rel k mm q).keep hst1 rfl (λv b U n=>hsame1 b (C.rel.mem.old b ⟨k,mm,v,q,U,n⟩).1),C.rel.mem.keys,C.rel.mem.apart,
   λb n=>⟨by have:=(C.rel.mem.old b n).1;omega,(C.rel.mem.old b n).2⟩,λb n=>by have:=C.rel.mem.kp b n;omega,C.rel.mem.glS hst1⟩
  -- two new blocks are kept apart
  refine⟨λk mm q=>?_,hm1.keys,hm1.apart,λb n=>⟨(hm1.old b n).1,λq=>?_⟩,λb n=>n.elim (λq=>by have:=hKlt b q;omega) λh=>h.elim,hm1.gl⟩
  .have hst2:Stp (Own (S 0) ρs) (λb=>Own (S 0) ρs b∨b=D∨b=l) ρs ρs w W1:=⟨hst1.os,hst1.tape,hst1.output,hst1.size,hst1.block,λb n=>n.elim .inl λh=>.inr oM,hst1.rho⟩;have hb0:=(C.rel.mem.rel k mm q).keep hst2 rfl (λv b U n=>hsame1 b (C.rel.mem.old b ⟨k,mm,v,q,U,n⟩).1);exact hb0.pf (λb n=>n.elim (λh=>h.elim (λh=>(hKe b h).imp id .inr) λh=>h.elim) λh=>.inr (.inl h)) (hpm 0 k mm q)
  have hlt:=(C.rel.mem.old b n).1;exact q.elim (λq=>(C.rel.mem.old b n).2 (hKo b q hlt)) λh=>h
 refine⟨l,[{ target:=.collected D,args:=#[] }],W1,{ target:=.fn (.func f) vs.toArray,args:=#[.func (.yield l) #[] #[]] },W1,f,
  List.toArray (.func (.yield l) #[] #[]::vs),W1,?_,?_,λ_ _=>trivial,?_,yo.wide.need,?_⟩
 .rw[hl,hD];exact hin
 .simp only[resolve,hg];simp[go_sem]
 .obtain⟨fn',c1,c2,c3⟩:=hcall;simp only[invoke,callFunc,Sem.run_bind,Sem.run_pure,Result.andThen_ok,run_program,c1,c2,c3,KJ,if_false];simp
 refine(hit (λb=>K0 b∨Own (S 0) ρs b) W1 vs l
  (λi SA SB W=>∃ρj,Jc E K0 SB (Own (S 0) ρs) m (nk i) w ρs (S i) ρj W/\(∀b,SA b↔K0 b∨Own (S i) ρj b)/\W.heap[l]?=some (.loop (rec .ready none))/\W.heap[D]?=some (.deferred (some [])))
  (λSA SB W=>∃c M' B ρj,Jc E K0 SB (Own (S 0) ρs) m B w ρs M' ρj W/\zl1 M'/\(∀b,SA b↔K0 b∨Own M' ρj b)/\W.heap[l]?=some (.loop (rec .done (some c)))/\W.heap[D]?=some (.deferred (some []))/\
   ((∃id,c=.exit id/\Q (.exit id) ⟨L,M',B,O.nt,O.n0⟩)∨(c=.ret/\Q .ret ⟨L,M',B,O.nt,O.n0⟩)))
  ?_ (λg v h=>hj0.mem.glc h) ?_ ?_ ?_ ?_ ?_).mono ?_
 .intro b n;exact n.elim (λq=>by have:=hKlt b q;omega) λF=>(hj0.mem.old b F).1
 .refine⟨J.1,λj s v V U=>(J.2 j s v V U).mono oM λb n R=>⟨λq=>q.elim (λq=>R (.inl (hKo b q n))) λF=>R (.inr F),hsame1 b n⟩⟩
 .rintro i SA SB SB' W W' ⟨ρj,p,hSA,x,hD'⟩ X hd
  have hz:=p.size;refine⟨ρj,p.other (hpm i) oM X λb n=>⟨λq=>(hd b n).1 ((hSA b).2 q),(hd b n).2⟩,hSA,?_,?_⟩
  .exact(X.block l oM λV=>p.dis l V hKl).trans x
  exact(X.block D oM λV=>p.dis D V hKD).trans hD'
 .rintro SA SB SB' W W' ⟨c,M',B,ρj,p,hpM,hSA,x,hD',hc⟩ X hd
  have hz:=p.size;refine⟨c,M',B,ρj,p.other hpM oM X λb n=>⟨λq=>(hd b n).1 ((hSA b).2 q),(hd b n).2⟩,hpM,hSA,?_,?_,hc⟩
  .exact(X.block l oM λV=>p.dis l V hKl).trans x
  exact(X.block D oM λV=>p.dis D V hKD).trans hD'
 ·-- one round
  rintro i y SA SB W args hy ⟨ρj,p,hSA,x,hD'⟩ hSAlt hSBd hargs
  have hz:=p.size;have hlen:args.length=ps.toList.length:=by rw[hargs.1,henc y]
  have Y:=run_yield (P:=P) (args:=List.toArray args) x (by rw[hrec];simp at hlen ⊢;omega);rw[hrec]at Y
  have hzip:∀A:Array Value,(ps.zip (List.toArray args)).foldl (λtmps (t,a)=>tmps.setIfInBounds t a) A=vK (ps.toList.zip args) A:=λA=>by
   unfold vK;rw[←J3,Array.toList_zip]
  dsimp only at Y;rw[hzip]at Y;have hnoL:¬Own (S i) ρj l:=λF=>(p.mem.old l F).2 (.inl hKl)
  have hnoD:¬Own (S i) ρj D:=λF=>(p.mem.old D F).2 (.inl hKD)
  have hrel:Rel ⟨W,λk=>if k<m then ρj k else none,λb=>K0 b∨SB b,Own (S i) ρj,[]⟩ ⟨zne ps.toList (enc y) L,S i,nk i,O.nt,m⟩ ρj { tmps:=vK (ps.toList.zip args) a.tmps,defers:=[] } W:=by
   have hsz:a.tmps.size=O.nt:=C.rel.size;refine⟨by rw[zew];exact hsz,rfl,λt s hlk=>?_,p.mem,p.fresh,⟨rfl,rfl,.refl _,Xj _,λ_ _ _=>rfl,λ_ h=>.inl h,λk v q=>?_⟩,p.mem.kp,λk v q=>?_⟩
   .have:=zse hnd (hsz ▸ hlt) (henc y) ⟨hargs.1,λj s v V U=>(hargs.2 j s v V U).less λb n=>n.elim (λh=>h.elim (λh=>.inl ((hSA b).2 (.inl h))) .inr) λh=>.inl ((hSA b).2 (.inr h))⟩ (λt s x=>hsz ▸ regsL p t s x) t s hlk
    rwa [hsz]at this
   .dsimp only at q
    split at q
    .exact q
    cases q
   dsimp only at q
   split at q
   .assumption
   cases q
  refine⟨fn,_,assign,body,Y,roundIn_of_wpIn trivial ?_⟩;refine wpIn_mono (uX (yo.wide.inRound l) hT hm assign hd1 hrel (hround i y hy ⟨_,_,_,_,hrel⟩)) (λe a1 w1 hq=>?_)
  cases e with
  |exit id=>obtain⟨_,_,hf,_⟩:=hq;exact hf.elim
  |ret=>obtain⟨_,_,hf,_⟩:=hq;exact hf.elim
  |panic _=>exact hq.elim
  |outgrown=>exact hq.elim
  |goto _=>exact hq.elim
  |normal=>
   obtain⟨O1,Z1,n,N⟩:=hq;have hl1:w1.heap[l]?=some (.loop (rec .ready none)):=(N.stp.block l (by show l<W.heap.size;omega) hnoL).trans x;have hD1:w1.heap[D]?=some (.deferred (some [])):=(N.stp.block D (by show D<W.heap.size;omega) hnoD).trans hD';refine⟨_,run_beginRound hl1 (by rw[hrec]),?_⟩;have hr2:=N.put (o':=.loop { rec .ready none with state:=.busy }) hl1 rfl (by intro _ _ h;cases h);have hz1':W.heap.size<=w1.heap.size:=N.stp.size;refine wpIn_mono (uX (yo.wide.inRound l) hT hm body hd2 hr2 n) (λe a2 T hq=>?_)
   have fin:∀(M':LT) (B:Nat) (Z3:zh) (jump:Option Code),zl1 M'->
     Rel ⟨w1.putObj l (.loop { rec .ready none with state:=.busy }),λk=>if k<m then ρj k else none,λb=>K0 b∨SB b,Own O1.M Z1,[]⟩ ⟨[],M',B,O.nt,m⟩ Z3 a2 T->
     (Instr.endRound l jump).run P T=.ok (.bool jump.isNone) (T.putObj l (.loop (rec (if jump.isNone then .ready else .done) jump)))/\
     Jc E K0 SB (Own (S 0) ρs) m B w ρs M' Z3 (T.putObj l (.loop (rec (if jump.isNone then .ready else .done) jump)))/\
     Mv SA (λb=>K0 b∨Own M' Z3 b) W (T.putObj l (.loop (rec (if jump.isNone then .ready else .done) jump)))/\
     (∀b,(K0 b∨Own M' Z3 b)->¬SB b/\b<(T.putObj l (.loop (rec (if jump.isNone then .ready else .done) jump))).heap.size)/\
     (T.putObj l (.loop (rec (if jump.isNone then .ready else .done) jump))).heap[l]?=some (.loop (rec (if jump.isNone then .ready else .done) jump))/\
     (T.putObj l (.loop (rec (if jump.isNone then .ready else .done) jump))).heap[D]?=some (.deferred (some [])):=by
    intro M' B Z3 jump hpM z;have hz3:w1.heap.size<=T.heap.size:=by have:=z.stp.size;rwa [World.putObj_size]at this
    have hlt1:l<w1.heap.size:=(X6.1 hl1).1;have hnoL1:¬Own O1.M Z1 l:=λF=>(N.mem.old l F).2 (.inl hKl)
    have hnoD1:¬Own O1.M Z1 D:=λF=>(N.mem.old D F).2 (.inl hKD)
    have hl3:T.heap[l]?=some (.loop { rec .ready none with state:=.busy }):=
     (z.stp.block l (by show l<(World.putObj _ _ _).heap.size;rw[World.putObj_size];exact hlt1) hnoL1).trans (World.putObj_heap_same hlt1)
    have hD3:T.heap[D]?=some (.deferred (some [])):=
     (z.stp.block D (by show D<(World.putObj _ _ _).heap.size;rw[World.putObj_size];omega) hnoD1).trans ((World.putObj_heap_other oM).trans hD1)
    have hend:=run_endRound (P:=P) jump hl3;have erec:({ ({ rec .ready none with state:=.busy }:Loop) with state:=if jump.isNone then .ready else .done,pending:=jump }:Loop)=rec (if jump.isNone then .ready else .done) jump:=by rw[hrec]
    rw[erec]at hend;clear erec;have hlt3:l<T.heap.size:=oM
    have hown3:∀b,Own M' Z3 b->Own (S i) ρj b∨W.heap.size<=b:=λb F=>(z.stp.own b F).elim (λh1=>N.stp.own b h1) λH=>by
     have H:(w1.putObj l (.loop { rec .ready none with state:=.busy })).heap.size<=b:=H;rw[World.putObj_size]at H;exact .inr oM
    have hblk:∀b,b<W.heap.size->¬Own (S i) ρj b->b≠l->(T.putObj l (.loop (rec (if jump.isNone then .ready else .done) jump))).heap[b]?=W.heap[b]? :=λb n R hne=>by
     refine(World.putObj_heap_other hne).trans ?_;refine(z.stp.block b (by show b<(World.putObj _ _ _).heap.size;rw[World.putObj_size];omega) λh1=>(N.stp.own b h1).elim R λH=>?_).trans ?_
     .have H:W.heap.size<=b:=H;omega
     exact(World.putObj_heap_other hne).trans (N.stp.block b n R)
    have hout:kU W (T.putObj l (.loop (rec (if jump.isNone then .ready else .done) jump))):=
     N.stp.output.trans ((kU.put hl1 rfl rfl).trans (z.stp.output.trans (kU.put hl3 rfl rfl)))
    have hos:T.os=W.os:=z.stp.os.trans N.stp.os;have htape:T.tape=W.tape:=z.stp.tape.trans N.stp.tape;have K:zI (λb=>K0 b∨SB b) M' Z3 (T.putObj l (.loop (rec (if jump.isNone then .ready else .done) jump))):=z.mem.put hl3 rfl (by intro _ _ h;cases h);have hname:∀k v,k<m->ρs k=some v->Z3 k=some v:=λk v q U=>z.stp.rho k v (by show(if k<m then ρj k else none)=some v;rw[Xe q];exact p.names k v q U)
    refine⟨hend,⟨K,hname,z.fresh,⟨hos.trans p.stp.os,htape.trans p.stp.tape,p.stp.output.trans hout,?_,λb n R=>?_,λb F=>?_,λk v U=>?_⟩,λb n R=>?_,?_,p.sb,λb F=>?_,p.dis⟩,
     ⟨⟨hos,htape,hout,?_,λb n R=>?_,λb n=>?_,λ_ _ h=>h⟩,λg v h _=>K.glc h⟩,λb n=>?_,World.putObj_heap_same hlt3,(World.putObj_heap_other oM).trans hD3⟩
    .have:=p.stp.size;rw[World.putObj_size];omega
    .have hb':=hE0 b n;exact(hblk b oM (λF=>(p.stp.own b F).elim R λH=>by omega) oM).trans (p.stp.block b n R)
    .exact(hown3 b F).elim (p.stp.own b) λH=>.inr (by have:=p.stp.size;omega)
    .have h1:k<O.n0:=C.rel.low k v (by rw[C.rho];exact U);exact hname k v oM (C.stp.rho k v U)
    .exact(hblk b oM (λF=>(p.own b F).elim R λH=>by omega) oM).trans (p.same b n R)
    .rw[World.putObj_size];omega
    .exact(hown3 b F).elim (p.own b) λH=>.inr oM
    .rw[World.putObj_size];omega
    .exact hblk b n (λF=>R ((hSA b).2 (.inr F))) λe=>R ((hSA b).2 (.inl (e ▸ hKl)))
    .exact n.elim (λq=>.inl ((hSA b).2 (.inl q))) λF=>(hown3 b F).imp (λh=>(hSA b).2 (.inr h)) id
    exact n.elim (λq=>⟨λV=>p.dis b V q,K.kp b (.inl q)⟩) λF=>⟨λV=>(K.old b F).2 (.inr V),(K.old b F).1⟩
   cases e with
   |normal=>
    obtain⟨O2,Z2,hs2,z⟩:=hq;obtain⟨Z3,z⟩:=hs2 _ Z2 a2 T z;obtain⟨f1,f2,f3,f4,f5,f6⟩:=fin _ _ Z3 none (hpm (i+1)) z;exact⟨_,_,f1,λb=>K0 b∨Own (S (i+1)) Z3 b,f3,f4,.inl ⟨rfl,Z3,f2,λb=>Qk,f5,f6⟩⟩
   |ret=>
    obtain⟨O2,Z2,⟨M',B,hs2,hpM,hQ⟩,z⟩:=hq;obtain⟨Z3,z⟩:=hs2 _ Z2 a2 T z;obtain⟨f1,f2,f3,f4,f5,f6⟩:=fin _ _ Z3 (some .ret) hpM z;exact⟨_,_,f1,λb=>K0 b∨Own M' Z3 b,f3,f4,.inr ⟨rfl,.ret,M',B,Z3,f2,hpM,λb=>Qk,f5,f6,.inr ⟨rfl,hQ⟩⟩⟩
   |exit id=>
    obtain⟨O2,Z2,⟨M',B,hs2,hpM,hQ⟩,z⟩:=hq;obtain⟨Z3,z⟩:=hs2 _ Z2 a2 T z;obtain⟨f1,f2,f3,f4,f5,f6⟩:=fin _ _ Z3 (some (.exit id)) hpM z;exact⟨_,_,f1,λb=>K0 b∨Own M' Z3 b,f3,f4,.inr ⟨rfl,.exit id,M',B,Z3,f2,hpM,λb=>Qk,f5,f6,.inl ⟨id,rfl,hQ⟩⟩⟩
   |goto _=>exact hq.elim
   |panic _=>exact hq.elim
   |outgrown=>exact hq.elim
 .exact⟨ρs,hj0,λb=>Qk,hL1,hK1'⟩
 -- behind the iterator
 have finR:∀(M':LT) (B:Nat) (ρj:zh) (SB:LI) (W2:World) (r r':Loop),zl1 M'->Jc E K0 SB (Own (S 0) ρs) m B w ρs M' ρj W2->W2.heap[l]?=some (.loop r)->W2.heap[D]?=some (.deferred (some []))->
   RR E ⟨W2.putObj l (.loop r'),E1.ρ0,λb=>E1.Keep b∨b=D,Own M' ρj,{ target:=.collected D,args:=#[] }::E1.ds⟩ ⟨L,M',B,O.nt,O.n0⟩ ρj { a with defers:=[{ target:=.collected D,args:=#[] }]++a.defers } (W2.putObj l (.loop r')):=by
  intro M' B ρj SB W2 r r' hpM p x hD';have hz:=p.size
  have hnm:∀k v,E1.ρ0 k=some v->ρj k=some v:=λk v U=>by
   have h1:k<O.n0:=C.rel.low k v U;rw[C.rho]at U;exact p.names k v oM (C.stp.rho k v U)
  have K:zI (λb=>E1.Keep b∨b=D) M' ρj (W2.putObj l (.loop r')):=(p.mem.put x rfl (by intro _ _ h;cases h)).few hpM λb n=>.inl (n.elim (hK1 b) λe=>e ▸ hKD)
  refine⟨⟨C.rel.size,?_,λt s hlk=>?_,K,p.fresh,⟨rfl,rfl,.refl _,Xj _,λ_ _ _=>rfl,λ_ h=>.inl h,hnm⟩,K.kp,C.rel.low⟩,C.rho,λb n=>.inl (C.kp b n),
   ⟨p.stp.os,p.stp.tape,p.stp.output.trans (kU.put x rfl rfl),?_,λb n R=>?_,p.stp.own,p.stp.rho⟩,λd hd=>?_,?_⟩
  .show[_]++a.defers=_::E1.ds;rw[C.rel.defers];rfl
  .obtain⟨g1,g2⟩:=regsL p t s hlk;exact⟨g1,(g2.put x rfl).pf (Xj _) (λb _ R=>⟨λq=>R (q.elim (λh=>.inl (.inl (h.elim (hK1 b) λe=>e ▸ hKD))) .inr),rfl⟩) (zpX hpf hlk).1⟩
  .rw[World.putObj_size];exact p.stp.size
  .have hb':=hE0 b n;exact(World.putObj_heap_other oM).trans (p.stp.block b n R)
  .cases hd with
   |head=>exact⟨D,rfl,.inr rfl,oM,(World.putObj_heap_other oM).trans hD'⟩
   |tail _ hd=>
    obtain⟨D',e,q,H,hh⟩:=C.marks d hd;have hlt':=C.rel.mem.kp D' q;exact⟨D',e,.inl q,H,(World.putObj_heap_other oM).trans ((p.same D' hlt' λF=>(C.rel.mem.old D' F).2 q).trans hh)⟩
  refine XT.2 ⟨λe he D1 D2 h1 h2=>?_,C.apart⟩;obtain⟨D',rfl,q,_,_⟩:=C.marks e he;have hlt':=C.rel.mem.kp D' q
  cases h1
  cases h2
  omega
 rintro e W2 ⟨⟨v,rfl⟩,SA',SB',(⟨ρj,p,_,x,hD'⟩|⟨c,M',B,ρj,p,hpM,_,x,hD',hc⟩)⟩
 .have he:=run_endLoop (P:=P) x (by rw[hrec];simp);have hpn:(rec .ready none).pending=none:=by rw[hrec]
  rw[hpn]at he;exact⟨none,_,he,_,_,ρj,hdone ⟨_,_,_,_,(finR _ _ ρj SB' W2 _ (rec .ready none) (hpm _) p x hD').rel⟩,finR _ _ ρj SB' W2 _ _ (hpm _) p x hD'⟩
 have he:=run_endLoop (P:=P) x (by rw[hrec];simp);have hpn:(rec .done (some c)).pending=some c:=by rw[hrec]
 rw[hpn]at he;refine⟨some c,_,he,?_⟩
 obtain⟨id,rfl,hQ⟩|⟨rfl,hQ⟩:=hc
 .exact wpIn_exit ⟨_,_,ρj,hQ,finR _ _ ρj SB' W2 _ _ hpM p x hD'⟩
 exact wpIn_ret ⟨_,_,ρj,hQ,finR _ _ ρj SB' W2 _ _ hpM p x hD'⟩
def zpY(P:Program)(I:LS)(c:Code):St->LH->Prop:=
 Code.rec (motive:=λ_=>St->LH->Prop)
  (λO Q=>Q .normal O)
  (λid ops draw O Q=>js P I (.region id ops draw) O Q)
  (λ_ _ k m O Q=>k O λe O=>(match e with
   |.normal=>m O Q
   |.exit id=>Q (.exit id) O
   |.ret=>Q .ret O))
  (λc _ _ d h O Q=>ev O.L c λc=>(match c with
   |.val (.bool true)=>d O Q
   |.val (.bool false)=>h O Q
   |.pr p _=>Br (p->d O Q) (¬p->h O Q)
   |.anyb=>Br (d O Q) (h O Q)
   |_=>False))
  (λid _ b O Q=>b O λe O=>(match e with
   |.normal=>Q .normal O
   |.exit j=>(match Nat.beq j id with
    |true=>Q .normal O
    |false=>Q (.exit j) O)
   |.ret=>Q .ret O))
  (λ_ b O Q=>∃(ι:Type) (S:ι->St) (Vd:ι->Prop) (μ:ι->Nat) (i:ι),Vd i/\Sub O (S i)/\
   ∀x,Vd x->b (S x) λe O'=>(match e with
    |.normal=>∃x',Vd x'/\Sub O' (S x')/\μ x'<μ x
    |.exit id=>Q (.exit id) O'
    |.ret=>Q .ret O'))
  (λg n assign body _ _ O Q=>ev O.L g λs=>(match s with
   |.dfn f caps=>zwc P I f caps n.toList assign body O Q
   |_=>False))
  (λid O Q=>Q (.exit id) O)
  (λ_ _ _ _=>False)
  (λ_ O Q=>Q .normal O)
  (λ_ _ _=>False)
  (λO Q=>Q .ret O)
  (λ_ _ _=>False)
  c
variable{S:LI}{cs:LR}{u:Value}
def D.dfn_inv{w:World}(h:D S w (.dfn f cs) u):∃vs:LA,u=.func (.func f) #[] vs.toArray/\Ds S w cs vs:=by
 cases h with
 |dfn _ _ vs b h=>exact⟨vs,rfl,b,h⟩
variable{Pm:LI}
def G.dfn_d{w:World}(h:G S Pm Z w (.dfn f cs) u):∃vs:LA,u=.func (.func f) #[] vs.toArray/\Ds S w cs vs:=by
 cases h with
 |d _ _ h=>exact h.dfn_inv
def zbJ{P:Program}{I:LS}(hT:TOK P I)(q:P.follows .mixedOrders=true){E:Env}:∀(c:Code) {E':Env} {O:St} {Q:LH} {Z:zh} {a:Act} {w:World},
  RR E E' O Z a w->zpY P I c O Q->c.wpIn Fence.wide 0 P (zl2 E Q) a w
 |.skip,E',O,Q,Z,a,w,d,h=>wpIn_skip ⟨E',O,Z,h,d⟩
 |.region id ops draw,E',O,Q,Z,a,w,d,h=>wpIn_wide.2 (Code.wp_mono (λ_ _ _ k=>zl2.of d k) (kR hT q (.region id ops draw) d.rel.cut h))
 |.seq x y,E',O,Q,Z,a,w,d,h=>by
  refine wpIn_seq (wpIn_mono (zbJ hT q x d h) (λe a' w' k=>?_))
  cases e with
  |normal=>obtain⟨E'',O',Z',z,m⟩:=k;exact zbJ hT q y m z
  |exit id=>exact k
  |ret=>exact k
  |_=>exact k.elim
 |.cond c x y,E',O,Q,Z,a,w,d,h=>by
  obtain⟨s,h,K⟩:=zc8 h;have v:=K (a:=a) (λt s _ D=>(d.rel.regs t s D).2)
  split at h
  .exact wpIn_cond_true v.val_inv (zbJ hT q x d h)
  .exact wpIn_cond_false v.val_inv (zbJ hT q y d h)
  .rename_i p i
   by_cases C:p
   .exact wpIn_cond_true (by rw[v.pr_inv];simp[C]) (zbJ hT q x d (h.yes C))
   exact wpIn_cond_false (by rw[v.pr_inv];simp[C]) (zbJ hT q y d (h.no C))
  .obtain⟨b,A⟩:=v.anyb_inv
   cases b with
   |true=>exact wpIn_cond_true A (zbJ hT q x d h.yes)
   |false=>exact wpIn_cond_false A (zbJ hT q y d h.no)
  exact h.elim
 |.block id c,E',O,Q,Z,a,w,d,h=>by
  refine wpIn_block (wpIn_mono (zbJ hT q c d h) (λe a' w' k=>?_))
  cases e with
  |normal=>exact k
  |exit j=>
   obtain⟨E'',O',Z',z,m⟩:=k;dsimp only at z;show(if j=id then zl2 E Q .normal a' w' else zl2 E Q (.exit j) a' w')
   split at z
   .rename_i A;rw[Xe (Xk A)];exact⟨E'',O',Z',z,m⟩
   rename_i A;rw[Xc (KR A)];exact⟨E'',O',Z',z,m⟩
  |ret=>exact k
  |_=>exact k.elim
 |.loop c,E',O,Q,Z,a,w,d,h=>by
  obtain⟨ι,S,Vd,μ,R,T,B,hround⟩:=h;obtain⟨N,G⟩:=B _ Z a w d.rel.cut;refine zaU (λn a w=>∃x E' Z,Vd x/\μ x=n/\RR E E' (S x) Z a w) (μ R) ⟨R,_,N,T,rfl,d.next G⟩ λn a w hI=>?_
  obtain⟨x,E1,Z1,U,rfl,H⟩:=hI;refine wpIn_mono (zbJ hT q c H (hround x U)) (λe a' w' k=>?_)
  cases e with
  |normal=>
   obtain⟨E2,O',Z',⟨x',V,L,F⟩,m⟩:=k;obtain⟨Z2,J⟩:=L _ Z' a' w' m.rel.cut;exact⟨μ x',F,x',_,Z2,V,rfl,m.next J⟩
  |exit id=>exact k
  |ret=>exact k
  |_=>exact k.elim
 |.exit id,E',O,Q,Z,a,w,d,h=>wpIn_exit ⟨E',O,Z,h,d⟩
 |.ret,E',O,Q,Z,a,w,d,h=>wpIn_ret ⟨E',O,Z,h,d⟩
 |.rangeFunc g X assign body,E',O,Q,Z,a,w,d,h=>by
  obtain⟨s,h,K⟩:=zc8 h;have v:=K (a:=a) (λt s _ D=>(d.rel.regs t s D).2)
  split at h
  .obtain⟨vs,e,W⟩:=v.dfn_d;exact zsf hT q d e W h
  exact h.elim
 |.scope _,_,_,_,_,_,_,_,h=>by cases h
 |.label _,E',O,Q,Z,a,w,d,h=>wpIn_label ⟨E',O,Z,h,d⟩
 |.goto _,_,_,_,_,_,_,_,h=>by cases h
 |.refuse _,_,_,_,_,_,_,_,h=>by cases h
def jD.lessS{S':LI}{w:World}{k:Nat}{m:Mem}(hS:∀b,S' b->S b)(h:jD S Pm Z w k m):jD S' Pm Z w k m:=by
 have H:∀{s v},G S Pm Z w s v->G S' Pm Z w s v:=λh=>h.mono (Xj _) (λb _ B=>⟨λk=>B (hS b k),rfl⟩) (λb _ B=>⟨B,rfl⟩) λ_ _ h=>h
 cases m with
 |box T cs=>
  obtain⟨b,vs,d,g,p,q,t⟩:=h;exact⟨b,vs,d,g,p,q,λj s v C N=>H (t j s v C N)⟩
 |arr T enc sz xs=>
  obtain⟨v,cells,d,g,p,q,t,y⟩:=h;refine⟨v,cells,d,g,p,q,t,λi j x s F A=>?_⟩;obtain⟨u,D,z⟩:=y i j x s F A;exact⟨u,D,z.less hS⟩
 |garr T sz xs=>
  obtain⟨v,cells,d,g,p,q,t,y⟩:=h;refine⟨v,cells,d,g,p,q,t,λi j x s F A=>?_⟩;obtain⟨u,D,z⟩:=y i j x s F A;exact⟨u,D,H z⟩
 |map R=>
  obtain⟨r,ents,clock,d,g,p,q⟩:=h;refine⟨r,ents,clock,d,g,p,λi n s hi=>?_⟩;obtain⟨e,J,K,L⟩:=q i n s hi;exact⟨e,J,K,L.less hS⟩
def zoe{P:Program}{fn:Func}{tmps:Array Value}{R:Ending->World->Prop}{E:Env}{O:St}{Z:zh}(y:E.ds=[]):
  ∀(j:List Deferred) (w:World),Rel E O Z { tmps:=tmps,defers:=[] } w->
   (∀d∈j,∃D,d={ target:=.collected D,args:=#[] }/\E.w0.heap.size<=D/\w.heap[D]?=some (.deferred (some [])))->
   (j.Pairwise λd e=>∀D D',d.target=.collected D->e.target=.collected D'->D≠D')->
   (∀w',Rel E O Z { tmps:=tmps,defers:=[] } w'->∃v,(results fn tmps).run P w'=.ok v w'/\R (.returned v) w')->LeavesInM Fence.wide 0 P fn tmps R j .returning w
 |[],w,g,_,_,m=>m w g
 |d::j,w,g,p,n,m=>by
  obtain⟨D,rfl,z,hD⟩:=p _ (.head _);rw[XT]at n;refine⟨sI,.inl ⟨D,_,rfl,run_takeDeferred hD,zoe y j _ ?_ (λd k=>?_) n.2 m⟩⟩
  .have i:=g.stp
   refine⟨g.size,g.defers,λt s q=>⟨(g.regs t s q).1,(g.regs t s q).2.put hD rfl⟩,g.mem.put hD rfl (by intro _ _ h;cases h),g.fresh,
    ⟨i.os,i.tape,i.output.trans (kU.put hD rfl rfl),?_,λb x A=>(World.putObj_heap_other oM).trans (i.block b x A),i.own,i.rho⟩,g.keep,g.low⟩
   rw[World.putObj_size];exact i.size
  obtain⟨D',rfl,hge',hD'⟩:=p d (.tail _ k);exact⟨D',rfl,hge',(World.putObj_heap_other λe=>n.1 _ k D D' rfl rfl e.symm).trans hD'⟩
variable{fn:Func}{c:Code}{r:SV}
def zut(hT:TOK P I)(hm:P.follows .mixedOrders=true){args:LR}(K:P.funcs[f]?=some fn)(p:fn.body=some c)(z:(fn.name== "runtime.NumGoroutine")=false) (H:Nat.ble args.length fn.ntmps=true)
  (h:zpY P I c ⟨qG 0 args,M,M.length,fn.ntmps,M.length⟩ Q){M':LT}
  (hQ:∀e O,Q e O->(∀id,e≠.exit id)->∃s,(∀{E:Env} {Z:zh} {a:Act} {w:World},Rel E O Z a w->∃v,(results fn a.tmps).run P w=.ok v w/\G (λb=>E.Keep b∨Own O.M Z b) (Own O.M Z) Z w s v)/\
   ∀{E:Env} {Z:zh} {a:Act} {w:World} {v:Value},Rel E O Z a w->(∀b,E.W0 b↔Own M E.ρ0 b)->(∀k,M.length<=k->E.ρ0 k=none)->G (λb=>E.Keep b∨Own O.M Z b) (Own O.M Z) Z w s v->
    ∃Z',Stp (Own M E.ρ0) (Own M' Z') E.ρ0 Z' E.w0 w/\zI E.Keep M' Z' w/\G (λb=>E.Keep b∨Own M' Z' b) (Own M' Z') Z' w r v)
  (hx:∀id O,¬Q (.exit id) O):kL P f args M r M':=by
 refine⟨⟨fn,K,z,by rw[p];rfl⟩,λKeep Z w vs _ y B hg=>(callsIn_wide (n:=0)).1 (callsIn_of_wp_marks K p trivial ?_ rfl)⟩;have j:=yU (nt:=fn.ntmps) y B hg (Xw H);have J:RR ⟨w,Z,Keep,Own M Z,[]⟩ ⟨w,Z,Keep,Own M Z,[]⟩ _ Z _ w:=⟨j,rfl,λ_ h=>h,j.stp,λ_ h=>(by cases h),List.Pairwise.nil⟩;refine wpIn_mono (zbJ hT hm c J h) (λe a' w' i=>?_)
 have q:∀e E' O Z1,Q e O->(∀id,e≠.exit id)->RR ⟨w,Z,Keep,Own M Z,[]⟩ E' O Z1 a' w'->LeavesInM Fence.wide 0 P fn a'.tmps (λe w''=>∃N Z',e=.returned N/\Stp (Own M Z) (Own M' Z') Z Z' w w''/\
   zI Keep M' Z' w''/\G (λb=>Keep b∨Own M' Z' b) (Own M' Z') Z' w'' r N) a'.defers .returning w':=by
  intro e E' O Z1 i he g;obtain⟨s,X,Y⟩:=hQ e O i he;have C:a'.defers=E'.ds:=g.rel.defers;rw[C]
  have hbase:Rel ⟨w,Z,Keep,Own M Z,[]⟩ O Z1 { tmps:=a'.tmps,defers:=[] } w':=by
   refine⟨g.rel.size,rfl,λt s L=>⟨(g.rel.regs t s L).1,?_⟩,⟨λk m x=>(g.rel.mem.rel k m x).lessS λb p=>p.imp (g.kp b) id,g.rel.mem.keys,g.rel.mem.apart,
    λb p=>⟨(g.rel.mem.old b p).1,λx=>(g.rel.mem.old b p).2 (g.kp b x)⟩,λb p=>g.rel.mem.kp b (g.kp b p),g.rel.mem.gl⟩,g.rel.fresh,g.stp,j.keep,λk v x=>g.rel.low k v (by rw[g.rho];exact x)⟩
   exact(g.rel.regs t s L).2.mono (Xj _) (λb _ z=>⟨λk=>z (k.imp (g.kp b) id),rfl⟩) (λb _ z=>⟨z,rfl⟩) λ_ _ h=>h
  refine zoe rfl E'.ds w' hbase (λd hd=>?_) g.apart λw2 A=>?_
  .obtain⟨D,e,_,F,hh⟩:=g.marks d hd;exact⟨D,e,F,hh⟩
  obtain⟨v,R,T⟩:=X A;obtain⟨Z',U,V,W⟩:=Y A (λ_=>Qk) B T;exact⟨v,R,v,Z',rfl,U,V,W⟩
 cases e with
 |normal=>obtain⟨E',O,Z1,i,g⟩:=i;exact q _ E' O Z1 i (λ_=>by simp) g
 |ret=>obtain⟨E',O,Z1,i,g⟩:=i;exact q _ E' O Z1 i (λ_=>by simp) g
 |exit id=>obtain⟨E',O,Z1,i,g⟩:=i;exact absurd i (hx id O)
 |_=>exact i.elim
def vn(n:Nat)(hT:TOK P I)(J:P.follows .mixedOrders=true){args:LR}(H:P.funcs[f]?=some fn)(i:fn.body=some c)(z:(fn.name== "runtime.NumGoroutine")=false) (p:Nat.ble args.length fn.ntmps=true)
  (h:zpY P I c ⟨qG 0 args,[],0,fn.ntmps,0⟩ (endF n I fn.results.toList r)):kL P f args [] r []:=by
 refine zut hT J H i z p h (λe O q F=>?_) (λid O q=>q)
 have q:zaw O I fn.results.toList λs=>LE (zgt (zO O.M) n s) r:=by
  cases e with
  |exit id=>exact absurd rfl (F id)
  |normal=>exact q
  |ret=>exact q
 obtain⟨s,p,C⟩:=jj hT q;refine⟨s,C,λ{E Z a w v} x hW _ B=>⟨Z,?_,?_,?_⟩⟩
 .have g:=x.stp;exact⟨g.os,g.tape,g.output,g.size,λb i z=>g.block b i λh=>z ((hW b).1 h),λb i=>absurd i zK,g.rho⟩
 .exact qu x.mem.kp λ_ _ h=>x.mem.glc h
 have A:∀{s:SV} {v:Value},G (λb=>E.Keep b∨Own O.M Z b) (Own O.M Z) Z w s v->D (λb=>E.Keep b∨Own [] Z b) w (frz (zO O.M) n s) v:=λh=>
  (zlZ (λk m h=>zu h) x.mem n h).less λb i=>i.resolve_right zK
 refine p _ _ _ _ _ ?_;unfold zgt
 split
 .rename_i cs;obtain⟨vs,rfl,t⟩:=B.tup_inv;refine .tup _ vs (by rw[Xv];exact t.1) λj s v g K=>?_
  rw[XD]at g
  cases y:cs[j]? with
  |none=>simp[y]at g
  |some c=>
   simp[y]at g;subst g;exact .d _ _ (A (t.2 j c v y K))
 exact .d _ _ (A B)
end
end Go.Gs
