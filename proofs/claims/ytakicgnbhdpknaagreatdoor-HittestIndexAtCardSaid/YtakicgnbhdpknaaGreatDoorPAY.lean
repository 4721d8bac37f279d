/- Code inside a fence that lets everything in: what is shown for a walk holds in a round of a loop over a function. -/
import Derived.Test.YtakicgnbhdpknaaGreatDoorPAX
import Derived.RangeFuncRecord
import Derived.OrdersIn
import Derived.TacticsIn
import Derived.RangeFuncBox
set_option maxRecDepth 100000
set_option maxHeartbeats 8000000
set_option linter.all false
namespace Go.Gs
section
structure ym (F:Fence):Prop where
 fn:∀f,F.fn f
 depth:F.depth=none
 alive:F.alive=false
def ym.wide:ym Fence.wide:=⟨λ_=>trivial,rfl,rfl⟩
def ym.inRound{F:Fence}(h:ym F)(l:Nat):ym (F.inRound l):=⟨h.fn,h.depth,h.alive⟩
def ym.room{F:Fence}(h:ym F)(n:Nat):F.room n:=λd b=>by rw[h.depth]at b;cases b
def ym.fenced{F:Fence}(h:ym F)(P:Program)(m:Machine):m.fenced P F:=by
 intro g _;exact⟨λb=>(by rw[h.alive]at b;cases b),.inl (h.fn _),λf _=>h.fn f,h.room _⟩
variable{F:Fence}{P:Program}{m:Machine}{m':Machine}
def ym.steps(h:ym F)(b:Steps P m m'):StepsIn (Machine.fenced P F) P m m':=
 (StepsIn.of_steps b).mono λm _=>h.fenced P m
def ym.comes(h:ym F){e:Ending}(b:Comes P m m' e):ComesIn (Machine.fenced P F) P m m' e:=by
 cases e with
 |returned v=>exact h.steps b
 |panicked c=>exact h.steps b
 |outgrown=>exact b
def ym.calls(h:ym F){n:Nat}{f:FuncId}{args:Array Value}{w:World}{R:Ending->World->Prop}(c:Calls P f args w R):CallsIn F n P f args w R:=
 ⟨h.fn f,λb _=>let ⟨e,w',fr,r,s,x⟩:=c b;⟨e,w',fr,r,h.comes s,x⟩⟩
def ym.rows(h:ym F){n:Nat}{row:String}{args:Array Value}{w:World}{R:Value->World->Prop}(d:Go.Rows P row args w R):RowsIn F n P row args w R:=
 λc b _=>let ⟨v,w',r,s⟩:=d c b;⟨v,w',r,h.steps s⟩
def ym.need(h:ym F){n:Nat}:F.depth.isSome=true->1<=n:=λb=>by rw[h.depth]at b;cases b
variable{a:Act}{Q:LF}
def ym.op(h:ym F){n:Nat}{o:Oper}{w:World}{K:LG}(d:∀c,o.op≠.defer c)(b:o.wp P a w K Q):o.wpIn F n P a w K Q:=by
 refine⟨λf _=>h.fn f,?_⟩;rw[Oper.semAt_eq _ _ _ d];unfold Oper.wp at b;generalize (execOp a.eval o).run P w=r at*
 cases r with
 |ok x w'=>
  cases x <;> simp only[Oper.upon,Oper.uponIn]at b ⊢
  case value=>exact b
  case skip=>exact b
  case defer=>exact b
  case enter=>exact⟨h.need,(h.calls b).mono λe w'' g=>by cases e <;> exact g⟩
  case row=>exact⟨h.need,h.rows b⟩
 |halt x w'=>cases x <;> simp only[Oper.upon,Oper.uponIn]at b ⊢;exact b
def zrK(o:Oper):Bool:=match o.op with|.defer _=>false|_=>true
def zge{o:Oper}(h:zrK o=true):∀c,o.op≠.defer c:=λc e=>by unfold zrK at h;rw[e]at h;cases h
def y5(l:List Oper):Bool:=l.all zrK
def zlD{l:List Oper}(h:y5 l=true){o:Oper}(b:o∈l):∀c,o.op≠.defer c:=zge (XX.1 h o b)
def ym.list{F:Fence}(h:ym F){n:Nat}{P:Program}{ops:Array Oper}{Q:LF}(hQ:∀a w,¬Q .outgrown a w):∀{l:List Oper} {a:Act} {w:World},y5 l=true->
  wpList P ops Q l a w->wpListIn F n P ops Q l a w
 |[],_,_,_,b=>b
 |o::r,a,w,e,b=>by
  have c:zrK o=true/\y5 r=true:=by unfold y5 at e ⊢;rw[YN,XE]at e;exact e
  unfold wpList at b;unfold wpListIn
  split
  .rename_i d;rw[Xe d]at b;have b:=b.resolve_right λk=>by obtain⟨_,a',w',k⟩:=k;exact hQ _ _ k
   exact h.op (zge c.1) (Oper.wp_mono (λa w g=>h.list hQ c.2 g) b)
  rename_i d;rw[Xc d]at b;exact⟨λf _=>h.fn f,h.list hQ c.2 b⟩
def ym.any{F:Fence}(h:ym F){n:Nat}{P:Program}{j:Region.Mode}{ops:Array Oper}{Q:LF}(hQ:∀a w,¬Q .outgrown a w)(c:y5 ops.toList=true):
  ∀{fuel:Nat} {listed:Array Bool} {a:Act} {w:World},wpAny P j ops Q fuel listed a w->wpAnyIn F n P j ops Q fuel listed a w
 |0,_,_,_,d=>d
 |fuel+1,listed,a,w,d=>by
  refine⟨d.1,λi hi=>?_⟩;have:=d.2 i hi;unfold wpOp at this;unfold wpOpIn
  cases g:ops[i]? with
  |none=>rw[g]at this;exact h.any hQ c this
  |some o=>
   rw[g]at this;dsimp only at this ⊢;have e:=zlD c (o:=o) (by rw[Array.mem_toList_iff];exact Array.mem_of_getElem? g)
   split
   .rename_i b;rw[Xe b]at this;have:=this.resolve_right λk=>by obtain⟨_,a',w',k⟩:=k;exact hQ _ _ k
    exact h.op e (Oper.wp_mono (λa w p=>h.any hQ c p) this)
   rename_i b;rw[Xc b]at this;exact⟨λf _=>h.fn f,h.any hQ c this⟩
def u5:Code->Bool
 |.region _ ops _=>y5 ops.toList
 |.seq x y=>u5 x&&u5 y
 |.cond _ x y=>u5 x&&u5 y
 |.block _ c=>u5 c
 |.loop c=>u5 c
 |.scope _=>false
 |_=>true
variable{E:Env}
def uY.grown{Q:LH}(a:Act)(w:World):¬uY E Q .outgrown a w:=λh=>h
def znK(hF:ym F){n:Nat}{H:LS}(hT:TOK P H)(f:P.follows .mixedOrders=true){id:Nat}{ops:Array Oper}{draw:Bool}{Z:St}{Q:LH}{O:zh}{w:World}(e:y5 ops.toList=true)(b:Rel E Z O a w)(h:jw P H (.region id ops draw) Z Q):(Code.region id ops draw).wpIn F n P (uY E Q) a w:=by
 cases draw with
 |false=>
  have h:ve P H false ops.toList ops.toList 0 Z (Q .normal):=h;refine wpIn_region_list (hF.list uY.grown e ?_);have:=zjQ (Q:=uY E Q) hT (λZ O a w h b=>⟨Z,O,h,b⟩) b h
  simpa using this
 |true=>
  have h:Dr (vt ops.toList=true) (ve P H true ops.toList ops.toList 0 Z (Q .normal)) (Ob (zf0 ops.toList=true) (zbl P H ops.toList ops.toList 0 [] Z (Q .normal))):=h;refine wpIn_region_any f (hF.any uY.grown e ?_)
  obtain⟨c,d⟩|⟨c,d⟩:=h
  .exact zd3 hT b c d λZ O a w h b=>⟨Z,O,h,b⟩
  exact zgQ hT b c d λZ O a w h b=>⟨Z,O,h,b⟩
def zaT{n:Nat}{w:World}{c:Code}(I:Nat->LG)(n₀:Nat)(h₀:I n₀ a w)(round:∀m a w,I m a w->c.wpIn F n P (Exit.then (λa' w'=>∃m',m'<m/\I m' a' w') Q) a w):(Code.loop c).wpIn F n P Q a w:=by
 refine wpIn_loop (λa w=>∃m,I m a w) (λa w=>leastOf (λm=>I m a w)) ⟨n₀,h₀⟩ λa w hI=>wpIn_mono (round _ a w (leastOf_spec hI).1) λe a' w' b=>?_
 cases e with
 |normal=>
  obtain⟨m',d,hI'⟩:=b;exact show(∃m,I m a' w')/\leastOf (λm=>I m a' w')<leastOf (λm=>I m a w) from⟨⟨m',hI'⟩,Qh ((leastOf_spec ⟨m',hI'⟩).2 m' hI') d⟩
 |exit id=>exact b
 |goto l=>exact b
 |ret=>exact b
 |panic ch=>exact b
 |outgrown=>exact b
def uT{F:Fence}(hF:ym F){n:Nat}{P:Program}{H:LS}(hT:TOK P H)(q:P.follows .mixedOrders=true){E:Env}:∀(c:Code) {Z:St} {Q:LH} {O:zh} {a:Act} {w:World},
  u5 c=true->Rel E Z O a w->jw P H c Z Q->c.wpIn F n P (uY E Q) a w
 |.skip,Z,Q,O,a,w,_,f,h=>wpIn_skip ⟨Z,O,h,f⟩
 |.region id ops draw,Z,Q,O,a,w,d,f,h=>znK hF hT q d f h
 |.seq x y,Z,Q,O,a,w,d,f,h=>by
  have d:u5 x=true/\u5 y=true:=by unfold u5 at d;rwa [XE]at d
  refine wpIn_seq (wpIn_mono (uT hF hT q x d.1 f h) (λe a' w' g=>?_))
  cases e with
  |normal=>obtain⟨Z',O',r,k⟩:=g;exact uT hF hT q y d.2 k r
  |exit id=>exact g
  |ret=>exact g
  |_=>exact g.elim
 |.cond c x y,Z,Q,O,a,w,d,f,h=>by
  have d:u5 x=true/\u5 y=true:=by unfold u5 at d;rwa [XE]at d
  obtain⟨s,h,U⟩:=zcX h;have v:=U (a:=a) (λt s _ T=>(f.regs t s T).2)
  split at h
  .exact wpIn_cond_true v.val_inv (uT hF hT q x d.1 f h)
  .exact wpIn_cond_false v.val_inv (uT hF hT q y d.2 f h)
  .rename_i p i
   by_cases A:p
   .exact wpIn_cond_true (by rw[v.pr_inv];simp[A]) (uT hF hT q x d.1 f (h.yes A))
   exact wpIn_cond_false (by rw[v.pr_inv];simp[A]) (uT hF hT q y d.2 f (h.no A))
  .obtain⟨b,u⟩:=v.anyb_inv
   cases b with
   |true=>exact wpIn_cond_true u (uT hF hT q x d.1 f h.yes)
   |false=>exact wpIn_cond_false u (uT hF hT q y d.2 f h.no)
  exact h.elim
 |.block id c,Z,Q,O,a,w,d,f,h=>by
  refine wpIn_block (wpIn_mono (uT hF hT q c d f h) (λe a' w' g=>?_))
  cases e with
  |normal=>exact g
  |exit j=>
   obtain⟨Z',O',r,k⟩:=g;dsimp only at r;show(if j=id then uY E Q .normal a' w' else uY E Q (.exit j) a' w')
   split at r
   .rename_i u;rw[Xe (Xk u)];exact⟨Z',O',r,k⟩
   rename_i u;rw[Xc (KM u)];exact⟨Z',O',r,k⟩
  |ret=>exact g
  |_=>exact g.elim
 |.loop c,Z,Q,O,a,w,d,f,h=>by
  obtain⟨ι,S,I,μ,L,M,z,hround⟩:=h;obtain⟨K,C⟩:=z E O a w f;refine zaT (λn a w=>∃x O,I x/\μ x=n/\Rel E (S x) O a w) (μ L) ⟨L,K,M,rfl,C⟩ λn a w hI=>?_
  obtain⟨x,O1,N,rfl,D⟩:=hI;refine wpIn_mono (uT hF hT q c d D (hround x N)) (λe a' w' g=>?_)
  cases e with
  |normal=>
   obtain⟨Z',O',⟨x',R,J,B⟩,k⟩:=g;obtain⟨O2,G⟩:=J E O' a' w' k;exact⟨μ x',B,x',O2,R,rfl,G⟩
  |exit id=>exact g
  |ret=>exact g
  |_=>exact g.elim
 |.exit id,Z,Q,O,a,w,_,f,h=>wpIn_exit ⟨Z,O,h,f⟩
 |.ret,Z,Q,O,a,w,_,f,h=>wpIn_ret ⟨Z,O,h,f⟩
 |.rangeFunc _ _ _ _,_,_,_,_,_,_,_,h=>by cases h
 |.scope _,_,_,_,_,_,d,_,_=>by cases d
 |.label _,Z,Q,O,a,w,_,f,h=>wpIn_label ⟨Z,O,h,f⟩
 |.goto _,_,_,_,_,_,_,_,h=>by cases h
 |.refuse _,_,_,_,_,_,_,_,h=>by cases h
end
section put
variable{w:World}{l:Nat}{o o':Obj}
def zhh(f:w.heap[l]?=some o)(g:o.isCells=false){a:Addr}{v:Value}(h:w.cell? a=some v):(w.putObj l o').cell? a=some v:=by
 obtain⟨i,c,d⟩:=cells_of_cell h
 have b:a.block≠l:=by
  intro e;rw[e,f]at c
  cases c
  rw[g]at d;cases d
 exact(World.cell?_of_block (World.putObj_heap_other b)).trans h
def kR.put(d:w.heap[l]?=some o)(f:o.isCells=false)(c:o'.isCells=false):kR w (w.putObj l o'):=⟨rfl,λa=>by
 unfold World.frozen?
 by_cases e:a.block=l
 .have b:=(X3.1 d).1;rw[e,d,World.putObj_heap_same b]
  cases o <;> cases o' <;> first|rfl|(cases f;done)|(cases c;done)
 rw[World.putObj_heap_other e]⟩
def D.put(e:w.heap[l]?=some o)(y:o.isCells=false){S:LI}{s:SV}{v:Value}(h:D S w s v):D S (w.putObj l o') s v:=by
 induction h with
 |val v=>exact .val v
 |pr p i=>exact .pr p i
 |agg g vs e h d=>exact .agg g vs e d
 |nil enc a=>exact .nil enc a
 |nils a=>exact .nils a
 |anyb b=>exact .anyb b
 |junk v=>exact .junk v
 |full enc xs a h d=>exact .full enc xs a d
 |sl enc xs sz b o cap c u hS' r n x k h d=>
  exact .sl enc xs sz b o cap c (by rw[World.putObj_size];exact u) hS' r n x (λi j hi q=>⟨zhh e y (k i j hi q).1,(k i j hi q).2⟩) d
 |dptr g b o c u hS' k h d=>
  exact .dptr g b o c (by rw[World.putObj_size];exact u) hS' (λj q=>⟨zhh e y (k j q).1,(k j q).2⟩) d
 |dfn f g vs e h d=>exact .dfn f g vs e d
 |bm f g vs e h d=>exact .bm f g vs e d
 |op v h=>exact .op v h
 |ifc t s v h d=>exact .ifc t s v d
def G.put(e:w.heap[l]?=some o)(r:o.isCells=false){S Pm:LI}{O:zh}{s:SV}{v:Value}(h:G S Pm O w s v):G S Pm O (w.putObj l o') s v:=by
 induction h with
 |d s v h=>exact .d s v (h.put e r)
 |loc k off b h=>exact .loc k off b h
 |own k v h q=>exact .own k v h q
 |eloc k sz i off b len cap h=>exact .eloc k sz i off b len cap h
 |win k sz lo n b len cap cap' h q y=>exact .win k sz lo n b len cap cap' h q y
 |ptr g b o c z hP' u h=>
  exact .ptr g b o c (by rw[World.putObj_size];exact z) hP' (λj x=>⟨zhh e r (u j x).1,(u j x).2⟩) (λj s A=>(h j s A).put e r)
 |agg g vs e h p=>exact .agg g vs e p
 |tup g vs e h p=>exact .tup g vs e p
 |fn f g vs e h p=>exact .fn f g vs e p
 |ifc t s v h p=>exact .ifc t s v p
def jN.put(f:w.heap[l]?=some o)(t:o.isCells=false)(L:∀H c,o≠.map H c){S Pm:LI}{O:zh}{k:Nat}{m:Mem}(h:jN S Pm O w k m):jN S Pm O (w.putObj l o') k m:=by
 cases m with
 |box T N=>
  obtain⟨b,vs,g,d,p,q,y⟩:=h;refine⟨b,vs,g,(World.putObj_heap_other λe=>?_).trans d,p,q,λj s v C M=>(y j s v C M).put f t⟩;rw[e,f]at d;cases d;cases t
 |arr T enc sz xs=>
  obtain⟨v,cells,g,d,p,q,y,z⟩:=h;refine⟨v,cells,g,ownsRow_putObj d o' f t,p,q,y,λi j x s G B=>?_⟩;obtain⟨u,D,A⟩:=z i j x s G B;exact⟨u,D,A.put f t⟩
 |garr T sz xs=>
  obtain⟨v,cells,g,d,p,q,y,z⟩:=h;refine⟨v,cells,g,ownsRow_putObj d o' f t,p,q,y,λi j x s G B=>?_⟩;obtain⟨u,D,A⟩:=z i j x s G B;exact⟨u,D,A.put f t⟩
 |map H=>
  obtain⟨r,ents,clock,g,d,p,q⟩:=h;refine⟨r,ents,clock,g,(World.putObj_heap_other λe=>?_).trans d,p,λi n s hi=>?_⟩
  .rw[e,f]at d;cases d;exact L _ _ rfl
  obtain⟨e,I,J,K⟩:=q i n s hi;exact⟨e,I,J,K.put f t⟩
def zJ.put(i:w.heap[l]?=some o)(j:o.isCells=false)(s:∀n c,o≠.map n c){Keep:LI}{M:LT}{O:zh}(h:zJ Keep M O w):zJ Keep M O (w.putObj l o'):=
 ⟨λk m r=>(h.rel k m r).put i j s,h.keys,h.apart,λb d=>⟨by rw[World.putObj_size];exact(h.old b d).1,(h.old b d).2⟩,λb d=>by rw[World.putObj_size];exact h.kp b d,λg v q=>by
  obtain⟨p,f⟩:=h.gl g v q;refine⟨p,(zfS (World.putObj_heap_other λe=>?_)).trans f⟩;subst e
  cases o <;> simp[World.cell?,i,Obj.isCells]at f j⟩
def Rel.cut{E:Env}{Z:St}{O:zh}{a:Act}{w:World}(h:Rel E Z O a w):Rel ⟨w,E.ρ0,E.Keep,Own Z.M O,E.ds⟩ Z O a w:=
 ⟨h.size,h.defers,h.regs,h.mem,h.fresh,⟨rfl,rfl,.refl _,Xj _,λ_ _ _=>rfl,λ_ h=>.inl h,h.stp.rho⟩,h.mem.kp,h.low⟩
def Rel.put(e:w.heap[l]?=some o)(f:o.isCells=false)(j:∀g c,o≠.map g c){E:Env}{Z:St}{O:zh}{a:Act}(h:Rel E Z O a w):
  Rel ⟨w.putObj l o',E.ρ0,E.Keep,Own Z.M O,E.ds⟩ Z O a (w.putObj l o'):=
 ⟨h.size,h.defers,λt s d=>⟨(h.regs t s d).1,(h.regs t s d).2.put e f⟩,h.mem.put e f j,h.fresh,
  ⟨rfl,rfl,.refl _,Xj _,λ_ _ _=>rfl,λ_ h=>.inl h,h.stp.rho⟩,λb i=>by rw[World.putObj_size];exact h.mem.kp b i,h.low⟩
end put
section
def pfS:SV->Bool
 |.ptr _=>false
 |.agg b=>pfs b
 |.tup b=>pfs b
 |.fn _ b=>pfs b
 |.ifc _ s=>pfS s
 |_=>true
 where
 pfs:LR->Bool
  |[]=>true
  |c::b=>match pfS c with
   |true=>pfs b
   |false=>false
def zfc:∀{d:LR},pfS.pfs d=true->∀(j:Nat) (s:SV),d[j]?=some s->pfS s=true
 |[],_,j,s,b=>by simp at b
 |c::d,h,j,s,b=>by
  unfold pfS.pfs at h
  split at h
  .rename_i e
   cases j with
   |zero=>cases b;exact e
   |succ j=>exact zfc h j s (by simpa using b)
  cases h
def G.pf{S S' Pm Pm':LI}{O:zh}{w w':World}(z:w.heap.size<=w'.heap.size)(hS:∀b,b<w.heap.size->¬S b->¬S' b/\w'.heap[b]?=w.heap[b]?){s:SV}{v:Value}(h:G S Pm O w s v)(r:pfS s=true):G S' Pm' O w' s v:=by
 induction h with
 |d s v h=>exact .d s v (h.mono z hS)
 |loc k off b h=>exact .loc k off b h
 |own k v h x=>exact .own k v h x
 |eloc k sz i off b len cap h=>exact .eloc k sz i off b len cap h
 |win k sz lo n b len cap cap' h x y=>exact .win k sz lo n b len cap cap' h x y
 |ptr p b o c A hP' B h=>cases r
 |agg p vs q h g=>exact .agg p vs q λj s v e u=>g j s v e u (zfc r j s e)
 |tup p vs q h g=>exact .tup p vs q λj s v e u=>g j s v e u (zfc r j s e)
 |fn f p vs q h g=>exact .fn f p vs q λj s v e u=>g j s v e u (zfc r j s e)
 |ifc t s v h g=>exact .ifc t s v (g r)
variable{O:zh}{O':zh}
def G.low{S Pm:LI}{w:World}{n:Nat}(hρ:∀k v,k<n->O k=some v->O' k=some v){s:SV}{v:Value}(h:G S Pm O w s v)(e:uU n s=true):G S Pm O' w s v:=by
 induction h with
 |d s v h=>exact .d s v h
 |loc k off b h=>exact .loc k off b (hρ _ _ (by unfold uU at e;exact Yp ▸ e) h)
 |own k v h x=>exact .own k v (hρ _ _ (by unfold uU at e;exact Yp ▸ e) h) x
 |eloc k sz i off b len cap h=>exact .eloc k sz i off b len cap (hρ _ _ (by unfold uU at e;exact Yp ▸ e) h)
 |win k sz lo n b len cap cap' h x y=>exact .win k sz lo n b len cap cap' (hρ _ _ (by unfold uU at e;exact Yp ▸ e) h) x y
 |ptr q b o c z hP' A h=>exact .ptr q b o c z hP' A h
 |agg q vs g h r=>exact .agg q vs g λj s v p u=>r j s v p u (zbq e j s p)
 |tup q vs g h r=>exact .tup q vs g λj s v p u=>r j s v p u (zbq e j s p)
 |fn f q vs g h r=>exact .fn f q vs g λj s v p u=>r j s v p u (zbq e j s p)
 |ifc t s v h r=>exact .ifc t s v (r (by unfold uU at e;exact e))
def pfM:Mem->Prop
 |.box _ b=>pfS.pfs b=true
 |.arr _ _ _ _=>True
 |.garr _ _ xs=>∀x∈xs,pfS.pfs x=true
 |.map _=>True
def zlE(M:LT):Prop:=∀k m,(k,m)∈M->pfM m
def jN.pf{S S' Pm Pm':LI}{O:zh}{w:World}{k:Nat}{m:Mem}(hS:∀b,S' b->S b)(C:pfM m)(h:jN S Pm O w k m):jN S' Pm' O w k m:=by
 have hS':∀b,b<w.heap.size->¬S b->¬S' b/\w.heap[b]?=w.heap[b]? :=λb _ I=>⟨λk=>I (hS b k),rfl⟩
 cases m with
 |box T K=>
  obtain⟨b,vs,c,d,f,g,p⟩:=h;exact⟨b,vs,c,d,f,g,λj s v q J=>(p j s v q J).pf (Xj _) hS' (zfc C j s q)⟩
 |arr T enc sz xs=>
  obtain⟨v,cells,c,d,f,g,p,z⟩:=h;refine⟨v,cells,c,d,f,g,p,λi j x s y t=>?_⟩;obtain⟨u,B,A⟩:=z i j x s y t;exact⟨u,B,A.less hS⟩
 |garr T sz xs=>
  obtain⟨v,cells,c,d,f,g,p,z⟩:=h;refine⟨v,cells,c,d,f,g,p,λi j x s y t=>?_⟩;obtain⟨u,B,A⟩:=z i j x s y t;exact⟨u,B,A.pf (Xj _) hS' (zfc (C x (Xf y)) j s t)⟩
 |map L=>
  obtain⟨r,ents,clock,c,d,f,g⟩:=h;refine⟨r,ents,clock,c,d,f,λi n s hi=>?_⟩;obtain⟨e,D,G,H⟩:=g i n s hi;exact⟨e,D,G,H.less hS⟩
structure Mv (S S':LI) (w w':World):Prop extends Stp S S' (λ_=>none) (λ_=>none) w w' where
 gl:∀g v,GL g v->w.cell? ⟨g,0,none⟩=some v->w'.cell? ⟨g,0,none⟩=some v
variable{w':World}
def zJ.other{K T T':LI}{M:LT}{w:World}(h:zJ (λb=>K b∨T b) M O w)(n:zlE M)(c:Mv T T' w w')(j:∀b,T' b->¬Own M O b/\b<w'.heap.size):zJ (λb=>K b∨T' b) M O w':=by
 have i:∀b,Own M O b->¬T b:=λb d ht=>(h.old b d).2 (.inr ht)
 have t:Stp (λb=>Own M O b∨T b) (λb=>Own M O b∨T' b) O O w w':=
  ⟨c.os,c.tape,c.output,c.size,λb d s=>c.block b d λht=>s (.inr ht),λb d=>d.elim (λh=>.inl (.inl h)) λht=>(c.own b ht).imp .inr id,λ_ _ h=>h⟩
 refine⟨λk m e=>?_,h.keys,h.apart,λb d=>⟨Xx (h.old b d).1 c.size,λe=>e.elim (λk=>(h.old b d).2 (.inl k)) λht=>(j b ht).1 d⟩,λb d=>d.elim (λk=>Xx (h.kp b (.inl k)) c.size) λht=>(j b ht).2,λg v f=>⟨(h.gl g v f).1,c.gl g v f (h.glc f)⟩⟩
 have q:jN (λb=>K b∨(Own M O b∨T b)) (λb=>Own M O b∨T b) O w k m:=
  (h.rel k m e).pf (λb d=>d.elim (λk=>.inl (.inl k)) λh=>h.elim .inr λht=>.inl (.inr ht)) (n k m e)
 have r:=q.keep t rfl (λv b p d=>c.block b (h.old b ⟨k,m,v,e,p,d⟩).1 (i b ⟨k,m,v,e,p,d⟩));exact r.pf (λb d=>d.elim (λh=>h.elim .inl λht=>.inr (.inr ht)) λh=>.inr (.inl h)) (n k m e)
def zJ.few{K K':LI}{M:LT}{O:zh}{w:World}(h:zJ K M O w)(f:zlE M)(d:∀b,K' b->K b):zJ K' M O w:=
 ⟨λk m e=>(h.rel k m e).pf (λ_ c=>c.imp (d _) id) (f k m e),h.keys,h.apart,λb c=>⟨(h.old b c).1,λk=>(h.old b c).2 (d b k)⟩,λb c=>h.kp b (d b c),h.gl⟩
def Ds(S:LI)(w:World)(b:LR)(vs:LA):Prop:=
 vs.length=b.length/\∀(j:Nat) (s:SV) (v:Value),b[j]?=some s->vs[j]?=some v->D S w s v
def zfJ(P:Program)(f:FuncId)(caps:LR){α:Type}(enc:α->LR)(xs:List α):Prop:=
 zdM P f/\∀(SA:LI) (w:World) (vs:LA) (l:Nat) (J:Nat->LI->LI->World->Prop) (Jx:LI->LI->World->Prop),
  (∀b,SA b->b<w.heap.size)->(∀g v,GL g v->w.cell? ⟨g,0,none⟩=some v)->Ds SA w caps vs->
  (∀i SA SB SB' W W',J i SA SB W->Mv SB SB' W W'->(∀b,SB' b->¬SA b/\b<W'.heap.size)->J i SA SB' W')->
  (∀SA SB SB' W W',Jx SA SB W->Mv SB SB' W W'->(∀b,SB' b->¬SA b/\b<W'.heap.size)->Jx SA SB' W')->
  (∀i x SA SB W args,xs[i]?=some x->J i SA SB W->(∀b,SA b->b<W.heap.size)->(∀b,SB b->¬SA b/\b<W.heap.size)->Ds (λb=>SA b∨SB b) W (enc x) args->
   YieldAt Fence.wide 0 P l (List.toArray args) W λe W'=>∃SA':LI,Mv SA SA' W W'/\(∀b,SA' b->¬SB b/\b<W'.heap.size)/\
    ((e=.returned (.bool true)/\J (i+1) SA' SB W')∨(e=.returned (.bool false)/\Jx SA' SB W')))->
  J 0 SA (λ_=>False) w->
  CallsIn Fence.wide 0 P f (List.toArray (.func (.yield l) #[] #[]::vs)) w λe W'=>(∃v,e=.returned v)/\∃SA' SB',J xs.length SA' SB' W'∨Jx SA' SB' W'
def zmQ:LC->LR->LP->LP
 |p::c,e::b,L=>(p,e)::zmQ c b L
 |_,_,L=>L
def vF(l:List (Nat×Value))(A:Array Value):Array Value:=l.foldl (λtm p=>tm.setIfInBounds p.1 p.2) A
def zen:∀(l:List (Nat×Value)) (A:Array Value),(vF l A).size=A.size
 |[],_=>rfl
 |p::l,A=>by unfold vF;rw[Qm];exact(zen l _).trans sI
def zdb:∀(l:List (Nat×Value)) (A:Array Value) (t:Nat),(∀p∈l,p.1≠t)->(vF l A).getD t undef=A.getD t undef
 |[],_,_,_=>rfl
 |p::l,A,t,h=>by
  unfold vF;rw[Qm];refine(zdb l _ t λq b=>h q (.tail _ b)).trans ?_;rw[Ke,KX (h p (.head _)),←Ke]
def znL:∀(l:List (Nat×Value)) (A:Array Value),(l.map Prod.fst).Nodup->∀(j:Nat) (t:Nat) (v:Value),l[j]?=some (t,v)->t<A.size->(vF l A).getD t undef=v
 |[],_,_,j,t,v,h,_=>by simp at h
 |p::l,A,b,j,t,v,h,ht=>by
  rw[Qr,QS]at b;unfold vF;rw[Qm]
  cases j with
  |zero=>
   cases h
   refine(zdb l _ t λq c e=>b.1 (by rw[XN];exact⟨q,c,e⟩)).trans ?_;simp[Ke,ht]
  |succ j=>exact znL l _ b.2 j t v (by simpa using h) (by simpa using ht)
def znM:∀(c:LC) (d:LR) (L:LP) (t:Nat) (s:SV),c.length=d.length->kF (zmQ c d L) t=some s->
  (∃j:Nat,c[j]?=some t/\d[j]?=some s)∨((∀p∈c,p≠t)/\kF L t=some s)
 |[],[],L,t,s,_,h=>.inr ⟨λ_ b=>(by cases b),h⟩
 |[],_::_,_,_,_,f,_=>by cases f
 |_::_,[],_,_,_,f,_=>by cases f
 |p::c,e::d,L,t,s,f,h=>by
  unfold zmQ at h;rw[zU]at h
  by_cases b:p=t
  .rw[Xe b]at h
   cases h
   exact .inl ⟨0,by rw[b];rfl,rfl⟩
  rw[Xc b]at h
  rcases znM c d L t s (by simpa using f) h with⟨j,g,i⟩|⟨g,i⟩
  .exact .inl ⟨j+1,g,i⟩
  exact .inr ⟨λq k=>by cases k with
   |head=>exact b
   |tail _ k=>exact g q k,i⟩
def pfL(m:Nat):LP->Bool
 |[]=>true
 |(_,s)::r=>match pfS s with
  |true=>(match uU m s with
   |true=>pfL m r
   |false=>false)
  |false=>false
def zpx{m:Nat}:∀{L:LP} {t:Nat} {s:SV},pfL m L=true->kF L t=some s->pfS s=true/\uU m s=true
 |[],_,_,_,h=>by cases h
 |(k,f)::r,t,s,h,b=>by
  unfold pfL at h
  split at h
  .rename_i c
   split at h
   .rename_i d;rw[zU]at b
    by_cases e:k=t
    .rw[Xe e]at b;cases b;exact⟨c,d⟩
    rw[Xc e]at b;exact zpx h b
   cases h
  cases h
def znN(n:Nat):LC->Bool
 |[]=>true
 |p::r=>match Nat.blt p n with
  |true=>znN n r
  |false=>false
def znO{n:Nat}:∀{l:LC},znN n l=true->∀p∈l,p<n
 |[],_,_,h=>by cases h
 |q::r,h,p,b=>by
  unfold znN at h
  split at h
  .rename_i c
   cases b with
   |head=>exact Yp ▸ c
   |tail _ b=>exact znO h p b
  cases h
def zAG(Z:St):Prop:=∃E O a w,Rel E Z O a w
def zvE(P:Program)(H:LS)(f:FuncId)(caps:LR)(d:LC)(assign body:Code)(Z:St)(Q:LH):Prop:=
 ∃(β:Type) (enc:β->LR) (ys:List β) (m:Nat) (L:LP) (S:Nat->LT) (c:Nat->Nat),
  zfJ P f caps enc ys/\(∀y,(enc y).length=d.length)/\(zaJ d=true/\znN Z.nt d=true/\u5 assign=true/\u5 body=true)/\
  Sub Z ⟨L,S 0,c 0,Z.nt,Z.n0⟩/\(Z.n0<=m/\pfL m L=true)/\(∀j,zlE (S j))/\
  (∀j y,ys[j]?=some y->zAG ⟨zmQ d (enc y) L,S j,c j,Z.nt,m⟩->jw P H assign ⟨zmQ d (enc y) L,S j,c j,Z.nt,m⟩ λe Z1=>match e with
   |.normal=>jw P H body Z1 λe Z2=>match e with
    |.normal=>Sub Z2 ⟨[],S (j+1),c (j+1),Z.nt,m⟩
    |.exit id=>∃M' b,Sub Z2 ⟨[],M',b,Z.nt,m⟩/\zlE M'/\Q (.exit id) ⟨L,M',b,Z.nt,Z.n0⟩
    |.ret=>∃M' b,Sub Z2 ⟨[],M',b,Z.nt,m⟩/\zlE M'/\Q .ret ⟨L,M',b,Z.nt,Z.n0⟩
   |_=>False)/\
  (zAG ⟨L,S ys.length,c ys.length,Z.nt,Z.n0⟩->Q .normal ⟨L,S ys.length,c ys.length,Z.nt,Z.n0⟩)
structure RR (E E':Env) (Z:St) (O:zh) (a:Act) (w:World):Prop where
 rel:Rel E' Z O a w
 rho:E'.ρ0=E.ρ0
 kp:∀b,E.Keep b->E'.Keep b
 stp:Stp E.W0 (Own Z.M O) E.ρ0 O E.w0 w
 marks:∀d∈E'.ds,∃D,d={ target:=.collected D,args:=#[] }/\E'.Keep D/\E.w0.heap.size<=D/\w.heap[D]?=some (.deferred (some []))
 apart:E'.ds.Pairwise λd e=>∀D D',d.target=.collected D->e.target=.collected D'->D≠D'
variable{E:Env}{E':Env}{Z:St}{a:Act}{a':Act}
def RR.next{Z':St}{w:World}(h:RR E E' Z O a w)(n:Rel ⟨w,E'.ρ0,E'.Keep,Own Z.M O,E'.ds⟩ Z' O' a' w'):
  RR E ⟨w,E'.ρ0,E'.Keep,Own Z.M O,E'.ds⟩ Z' O' a' w':=by
 have f:=n.stp;refine⟨n,h.rho,h.kp,⟨f.os.trans h.stp.os,f.tape.trans h.stp.tape,h.stp.output.trans f.output,XB h.stp.size f.size,λb i p=>?_,λb i=>?_,λk v g=>?_⟩,λd q=>?_,h.apart⟩
 .refine(f.block b (Xx i h.stp.size) λj=>?_).trans (h.stp.block b i p);exact(h.stp.own b j).elim p λc=>oM
 .exact(f.own b i).elim (h.stp.own b) λc=>.inr (XB h.stp.size c)
 .have:E'.ρ0 k=some v:=by rw[h.rho];exact g
  exact f.rho k v this
 obtain⟨D,e,g,c,r⟩:=h.marks d q;exact⟨D,e,g,c,(f.block D (h.rel.mem.kp D g) λj=>(h.rel.mem.old D j).2 g).trans r⟩
def zlF(E:Env)(Q:LH):LF
 |.normal,a,w=>∃E' Z O,Q .normal Z/\RR E E' Z O a w
 |.exit id,a,w=>∃E' Z O,Q (.exit id) Z/\RR E E' Z O a w
 |.ret,a,w=>∃E' Z O,Q .ret Z/\RR E E' Z O a w
 |_,_,_=>False
def zlF.of{w:World}(h:RR E E' Z O a w){Q:LH}{e:Exit}(d:uY ⟨w,E'.ρ0,E'.Keep,Own Z.M O,E'.ds⟩ Q e a' w'):zlF E Q e a' w':=by
 cases e with
 |normal=>obtain⟨Z',O',b,c⟩:=d;exact⟨_,Z',O',b,h.next c⟩
 |exit id=>obtain⟨Z',O',b,c⟩:=d;exact⟨_,Z',O',b,h.next c⟩
 |ret=>obtain⟨Z',O',b,c⟩:=d;exact⟨_,Z',O',b,h.next c⟩
 |_=>exact d
end
end Go.Gs
