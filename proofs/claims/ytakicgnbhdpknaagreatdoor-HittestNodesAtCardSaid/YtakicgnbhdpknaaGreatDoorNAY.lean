/- A block that holds no cells turns: what is zdg stays; what another party writes. -/
import Derived.Test.YtakicgnbhdpknaaGreatDoorNAX
import Derived.RangeFuncBox
set_option maxRecDepth 100000
set_option maxHeartbeats 8000000
set_option linter.all false
namespace Go.Gs
section put
variable{w:World}{l:Nat}{o o':Obj}
def zgH(hl:w.heap[l]?=some o)(ho:o.isCells=false){a:Addr}{v:Value}(h:w.cell? a=some v):(w.putObj l o').cell? a=some v:=by
 obtain⟨o2,h2,hc⟩:=cells_of_cell h
 have hne:a.block≠l:=by
  intro e;rw[e,hl]at h2
  cases h2
  rw[ho]at hc;cases hc
 exact(World.cell?_of_block (World.putObj_heap_other hne)).trans h
def kO.put(hl:w.heap[l]?=some o)(ho:o.isCells=false)(ho':o'.isCells=false):kO w (w.putObj l o'):=⟨rfl,λa=>by
 unfold World.frozen?
 by_cases e:a.block=l
 ·have hlt:=(XX.1 hl).1;rw[e,hl,World.putObj_heap_same hlt]
  cases o <;> cases o' <;> first|rfl|(cases ho;done)|(cases ho';done)
 rw[World.putObj_heap_other e]⟩
def D.put(hl:w.heap[l]?=some o)(ho:o.isCells=false){S:LI}{s:SV}{v:Value}(h:D S w s v):D S (w.putObj l o') s v:=by
 induction h with
 |val v=>exact .val v
 |pr p i=>exact .pr p i
 |agg cs vs hl h ih=>exact .agg cs vs hl ih
 |nil enc a=>exact .nil enc a
 |nils a=>exact .nils a
 |anyb b=>exact .anyb b
 |junk v=>exact .junk v
 |full enc xs a h ih=>exact .full enc xs a ih
 |sl enc xs sz b o cap c hb hS' hlen hcap hsz hc h ih=>
  exact .sl enc xs sz b o cap c (by rw[World.putObj_size];exact hb) hS' hlen hcap hsz (λi j hi hj=>⟨zgH hl ho (hc i j hi hj).1,(hc i j hi hj).2⟩) ih
 |dptr cs b o c hb hS' hc h ih=>
  exact .dptr cs b o c (by rw[World.putObj_size];exact hb) hS' (λj hj=>⟨zgH hl ho (hc j hj).1,(hc j hj).2⟩) ih
 |dfn f cs vs hl h ih=>exact .dfn f cs vs hl ih
 |bm f cs vs hl h ih=>exact .bm f cs vs hl ih
 |op v h=>exact .op v h
 |ifc t s v h ih=>exact .ifc t s v ih
def G.put(hl:w.heap[l]?=some o)(ho:o.isCells=false){S Pm:LI}{ρ:zh}{s:SV}{v:Value}(h:G S Pm ρ w s v):G S Pm ρ (w.putObj l o') s v:=by
 induction h with
 |d s v h=>exact .d s v (h.put hl ho)
 |loc k off b h=>exact .loc k off b h
 |own k v h h1=>exact .own k v h h1
 |eloc k sz i off b len cap h=>exact .eloc k sz i off b len cap h
 |win k sz lo n b len cap cap' h h1 h2=>exact .win k sz lo n b len cap cap' h h1 h2
 |ptr cs b o c hb hP' hc h=>
  exact .ptr cs b o c (by rw[World.putObj_size];exact hb) hP' (λj hj=>⟨zgH hl ho (hc j hj).1,(hc j hj).2⟩) (λj s hs=>(h j s hs).put hl ho)
 |agg cs vs hl h ih=>exact .agg cs vs hl ih
 |tup cs vs hl h ih=>exact .tup cs vs hl ih
 |fn f cs vs hl h ih=>exact .fn f cs vs hl ih
 |ifc t s v h ih=>exact .ifc t s v ih
def jH.put(hl:w.heap[l]?=some o)(ho:o.isCells=false)(hm:∀es c,o≠.map es c){S Pm:LI}{ρ:zh}{k:Nat}{m:Mem}(h:jH S Pm ρ w k m):jH S Pm ρ (w.putObj l o') k m:=by
 cases m with
 |box T cs=>
  obtain⟨b,vs,h1,h2,h3,h4,h5⟩:=h;refine⟨b,vs,h1,(World.putObj_heap_other λe=>?_).trans h2,h3,h4,λj s v hs' hv=>(h5 j s v hs' hv).put hl ho⟩;rw[e,hl]at h2;cases h2;cases ho
 |arr T enc sz xs=>
  obtain⟨v,cells,h1,h2,h3,h4,h5,h6⟩:=h;refine⟨v,cells,h1,ownsRow_putObj h2 o' hl ho,h3,h4,h5,λi j x s hx hj=>?_⟩;obtain⟨u,hu,hd⟩:=h6 i j x s hx hj;exact⟨u,hu,hd.put hl ho⟩
 |garr T sz xs=>
  obtain⟨v,cells,h1,h2,h3,h4,h5,h6⟩:=h;refine⟨v,cells,h1,ownsRow_putObj h2 o' hl ho,h3,h4,h5,λi j x s hx hj=>?_⟩;obtain⟨u,hu,hd⟩:=h6 i j x s hx hj;exact⟨u,hu,hd.put hl ho⟩
 |map es=>
  obtain⟨r,ents,clock,h1,h2,h3,h4⟩:=h;refine⟨r,ents,clock,h1,(World.putObj_heap_other λe=>?_).trans h2,h3,λi n s hi=>?_⟩
  ·rw[e,hl]at h2;cases h2;exact hm _ _ rfl
  obtain⟨e,g1,g2,g3⟩:=h4 i n s hi;exact⟨e,g1,g2,g3.put hl ho⟩
def zL.put(hl:w.heap[l]?=some o)(ho:o.isCells=false)(hm:∀es c,o≠.map es c){Keep:LI}{M:LT}{ρ:zh}(h:zL Keep M ρ w):zL Keep M ρ (w.putObj l o'):=
 ⟨λk m hk=>(h.rel k m hk).put hl ho hm,h.keys,h.apart,λb hb=>⟨by rw[World.putObj_size];exact(h.old b hb).1,(h.old b hb).2⟩,λb hb=>by rw[World.putObj_size];exact h.kp b hb,λg v hg=>by
  obtain⟨h1,h2⟩:=h.gl g v hg;refine⟨h1,(zfm (World.putObj_heap_other λe=>?_)).trans h2⟩;subst e
  cases o <;> simp[World.cell?,hl,Obj.isCells]at h2 ho⟩
def Rel.cut{E:Env}{σ:St}{ρ:zh}{a:Act}{w:World}(h:Rel E σ ρ a w):Rel ⟨w,E.ρ0,E.Keep,Own σ.M ρ,E.ds⟩ σ ρ a w:=
 ⟨h.size,h.defers,h.regs,h.mem,h.fresh,⟨rfl,rfl,.refl _,Xk _,λ_ _ _=>rfl,λ_ h=>.inl h,h.stp.rho⟩,h.mem.kp,h.low⟩
def Rel.put(hl:w.heap[l]?=some o)(ho:o.isCells=false)(hm:∀es c,o≠.map es c){E:Env}{σ:St}{ρ:zh}{a:Act}(h:Rel E σ ρ a w):
  Rel ⟨w.putObj l o',E.ρ0,E.Keep,Own σ.M ρ,E.ds⟩ σ ρ a (w.putObj l o'):=
 ⟨h.size,h.defers,λt s hl'=>⟨(h.regs t s hl').1,(h.regs t s hl').2.put hl ho⟩,h.mem.put hl ho hm,h.fresh,
  ⟨rfl,rfl,.refl _,Xk _,λ_ _ _=>rfl,λ_ h=>.inl h,h.stp.rho⟩,λb hb=>by rw[World.putObj_size];exact h.mem.kp b hb,h.low⟩
end put
section
def pfS:SV->Bool
 |.ptr _=>false
 |.agg cs=>pfs cs
 |.tup cs=>pfs cs
 |.fn _ cs=>pfs cs
 |.ifc _ s=>pfS s
 |_=>true
 where
 pfs:LR->Bool
  |[]=>true
  |c::cs=>match pfS c with
   |true=>pfs cs
   |false=>false
def zeB:∀{cs:LR},pfS.pfs cs=true->∀(j:Nat) (s:SV),cs[j]?=some s->pfS s=true
 |[],_,j,s,hj=>by simp at hj
 |c::cs,h,j,s,hj=>by
  unfold pfS.pfs at h
  split at h
  ·rename_i hc
   cases j with
   |zero=>cases hj;exact hc
   |succ j=>exact zeB h j s (by simpa using hj)
  cases h
def G.pf{S S' Pm Pm':LI}{ρ:zh}{w w':World}(hz:w.heap.size<=w'.heap.size)(hS:∀b,b<w.heap.size->¬S b->¬S' b/\w'.heap[b]?=w.heap[b]?){s:SV}{v:Value}(h:G S Pm ρ w s v)(hp:pfS s=true):G S' Pm' ρ w' s v:=by
 induction h with
 |d s v h=>exact .d s v (h.mono hz hS)
 |loc k off b h=>exact .loc k off b h
 |own k v h h1=>exact .own k v h h1
 |eloc k sz i off b len cap h=>exact .eloc k sz i off b len cap h
 |win k sz lo n b len cap cap' h h1 h2=>exact .win k sz lo n b len cap cap' h h1 h2
 |ptr cs b o c hb hP' hc h=>cases hp
 |agg cs vs hl h ih=>exact .agg cs vs hl λj s v hs hv=>ih j s v hs hv (zeB hp j s hs)
 |tup cs vs hl h ih=>exact .tup cs vs hl λj s v hs hv=>ih j s v hs hv (zeB hp j s hs)
 |fn f cs vs hl h ih=>exact .fn f cs vs hl λj s v hs hv=>ih j s v hs hv (zeB hp j s hs)
 |ifc t s v h ih=>exact .ifc t s v (ih hp)
variable{ρ:zh}{ρ':zh}
def G.low{S Pm:LI}{w:World}{n:Nat}(hρ:∀k v,k<n->ρ k=some v->ρ' k=some v){s:SV}{v:Value}(h:G S Pm ρ w s v)(hl:vG n s=true):G S Pm ρ' w s v:=by
 induction h with
 |d s v h=>exact .d s v h
 |loc k off b h=>exact .loc k off b (hρ _ _ (by unfold vG at hl;exact J7 ▸ hl) h)
 |own k v h h1=>exact .own k v (hρ _ _ (by unfold vG at hl;exact J7 ▸ hl) h) h1
 |eloc k sz i off b len cap h=>exact .eloc k sz i off b len cap (hρ _ _ (by unfold vG at hl;exact J7 ▸ hl) h)
 |win k sz lo n b len cap cap' h h1 h2=>exact .win k sz lo n b len cap cap' (hρ _ _ (by unfold vG at hl;exact J7 ▸ hl) h) h1 h2
 |ptr cs b o c hb hP' hc h=>exact .ptr cs b o c hb hP' hc h
 |agg cs vs hl' h ih=>exact .agg cs vs hl' λj s v hs hv=>ih j s v hs hv (za5 hl j s hs)
 |tup cs vs hl' h ih=>exact .tup cs vs hl' λj s v hs hv=>ih j s v hs hv (za5 hl j s hs)
 |fn f cs vs hl' h ih=>exact .fn f cs vs hl' λj s v hs hv=>ih j s v hs hv (za5 hl j s hs)
 |ifc t s v h ih=>exact .ifc t s v (ih (by unfold vG at hl;exact hl))
def pfM:Mem->Prop
 |.box _ cs=>pfS.pfs cs=true
 |.arr _ _ _ _=>True
 |.garr _ _ xs=>∀x∈xs,pfS.pfs x=true
 |.map _=>True
def ziL(M:LT):Prop:=∀k m,(k,m)∈M->pfM m
def jH.pf{S S' Pm Pm':LI}{ρ:zh}{w:World}{k:Nat}{m:Mem}(hS:∀b,S' b->S b)(hp:pfM m)(h:jH S Pm ρ w k m):jH S' Pm' ρ w k m:=by
 have hS':∀b,b<w.heap.size->¬S b->¬S' b/\w.heap[b]?=w.heap[b]? :=λb _ hn=>⟨λk=>hn (hS b k),rfl⟩
 cases m with
 |box T cs=>
  obtain⟨b,vs,h1,h2,h3,h4,h5⟩:=h;exact⟨b,vs,h1,h2,h3,h4,λj s v hs' hv=>(h5 j s v hs' hv).pf (Xk _) hS' (zeB hp j s hs')⟩
 |arr T enc sz xs=>
  obtain⟨v,cells,h1,h2,h3,h4,h5,h6⟩:=h;refine⟨v,cells,h1,h2,h3,h4,h5,λi j x s hx hj=>?_⟩;obtain⟨u,hu,hd⟩:=h6 i j x s hx hj;exact⟨u,hu,hd.less hS⟩
 |garr T sz xs=>
  obtain⟨v,cells,h1,h2,h3,h4,h5,h6⟩:=h;refine⟨v,cells,h1,h2,h3,h4,h5,λi j x s hx hj=>?_⟩;obtain⟨u,hu,hd⟩:=h6 i j x s hx hj;exact⟨u,hu,hd.pf (Xk _) hS' (zeB (hp x (Xf hx)) j s hj)⟩
 |map es=>
  obtain⟨r,ents,clock,h1,h2,h3,h4⟩:=h;refine⟨r,ents,clock,h1,h2,h3,λi n s hi=>?_⟩;obtain⟨e,g1,g2,g3⟩:=h4 i n s hi;exact⟨e,g1,g2,g3.less hS⟩
structure Mv (S S':LI) (w w':World):Prop extends Stp S S' (λ_=>none) (λ_=>none) w w' where
 gl:∀g v,GL g v->w.cell? ⟨g,0,none⟩=some v->w'.cell? ⟨g,0,none⟩=some v
variable{w':World}
def zL.other{K T T':LI}{M:LT}{w:World}(h:zL (λb=>K b∨T b) M ρ w)(hp:ziL M)(hmv:Mv T T' w w')(hd:∀b,T' b->¬Own M ρ b/\b<w'.heap.size):zL (λb=>K b∨T' b) M ρ w':=by
 have hno:∀b,Own M ρ b->¬T b:=λb hb ht=>(h.old b hb).2 (.inr ht)
 have hs:Stp (λb=>Own M ρ b∨T b) (λb=>Own M ρ b∨T' b) ρ ρ w w':=
  ⟨hmv.os,hmv.tape,hmv.output,hmv.size,λb hb hn=>hmv.block b hb λht=>hn (.inr ht),λb hb=>hb.elim (λh=>.inl (.inl h)) λht=>(hmv.own b ht).imp .inr id,λ_ _ h=>h⟩
 refine⟨λk m hk=>?_,h.keys,h.apart,λb hb=>⟨Xw (h.old b hb).1 hmv.size,λhk=>hk.elim (λk=>(h.old b hb).2 (.inl k)) λht=>(hd b ht).1 hb⟩,λb hb=>hb.elim (λk=>Xw (h.kp b (.inl k)) hmv.size) λht=>(hd b ht).2,λg v hg=>⟨(h.gl g v hg).1,hmv.gl g v hg (h.glc hg)⟩⟩
 have h1:jH (λb=>K b∨(Own M ρ b∨T b)) (λb=>Own M ρ b∨T b) ρ w k m:=
  (h.rel k m hk).pf (λb hb=>hb.elim (λk=>.inl (.inl k)) λh=>h.elim .inr λht=>.inl (.inr ht)) (hp k m hk)
 have h2:=h1.keep hs rfl (λv b hv hb=>hmv.block b (h.old b ⟨k,m,v,hk,hv,hb⟩).1 (hno b ⟨k,m,v,hk,hv,hb⟩));exact h2.pf (λb hb=>hb.elim (λh=>h.elim .inl λht=>.inr (.inr ht)) λh=>.inr (.inl h)) (hp k m hk)
def zL.few{K K':LI}{M:LT}{ρ:zh}{w:World}(h:zL K M ρ w)(hp:ziL M)(hk:∀b,K' b->K b):zL K' M ρ w:=
 ⟨λk m hm=>(h.rel k m hm).pf (λ_ hb=>hb.imp (hk _) id) (hp k m hm),h.keys,h.apart,λb hb=>⟨(h.old b hb).1,λk=>(h.old b hb).2 (hk b k)⟩,λb hb=>h.kp b (hk b hb),h.gl⟩
def Ds(S:LI)(w:World)(cs:LR)(vs:LA):Prop:=
 vs.length=cs.length/\∀(j:Nat) (s:SV) (v:Value),cs[j]?=some s->vs[j]?=some v->D S w s v
def zfb(P:Program)(f:FuncId)(caps:LR){α:Type}(enc:α->LR)(xs:List α):Prop:=
 zdd P f/\∀(SA:LI) (w:World) (vs:LA) (l:Nat) (J:Nat->LI->LI->World->Prop) (Jx:LI->LI->World->Prop),
  (∀b,SA b->b<w.heap.size)->(∀g v,GL g v->w.cell? ⟨g,0,none⟩=some v)->Ds SA w caps vs->
  (∀i SA SB SB' W W',J i SA SB W->Mv SB SB' W W'->(∀b,SB' b->¬SA b/\b<W'.heap.size)->J i SA SB' W')->
  (∀SA SB SB' W W',Jx SA SB W->Mv SB SB' W W'->(∀b,SB' b->¬SA b/\b<W'.heap.size)->Jx SA SB' W')->
  (∀i x SA SB W args,xs[i]?=some x->J i SA SB W->(∀b,SA b->b<W.heap.size)->(∀b,SB b->¬SA b/\b<W.heap.size)->Ds (λb=>SA b∨SB b) W (enc x) args->
   YieldAt Fence.wide 0 P l (List.toArray args) W λe W'=>∃SA':LI,Mv SA SA' W W'/\(∀b,SA' b->¬SB b/\b<W'.heap.size)/\
    ((e=.returned (.bool true)/\J (i+1) SA' SB W')∨(e=.returned (.bool false)/\Jx SA' SB W')))->
  J 0 SA (λ_=>False) w->
  CallsIn Fence.wide 0 P f (List.toArray (.func (.yield l) #[] #[]::vs)) w λe W'=>(∃v,e=.returned v)/\∃SA' SB',J xs.length SA' SB' W'∨Jx SA' SB' W'
def zlL:LC->LR->LP->LP
 |p::ps,e::es,L=>(p,e)::zlL ps es L
 |_,_,L=>L
def vr(l:List (Nat×Value))(A:Array Value):Array Value:=l.foldl (λtm p=>tm.setIfInBounds p.1 p.2) A
def zdR:∀(l:List (Nat×Value)) (A:Array Value),(vr l A).size=A.size
 |[],_=>rfl
 |p::l,A=>by unfold vr;rw[Qw];exact(zdR l _).trans sI
def zcM:∀(l:List (Nat×Value)) (A:Array Value) (t:Nat),(∀p∈l,p.1≠t)->(vr l A).getD t undef=A.getD t undef
 |[],_,_,_=>rfl
 |p::l,A,t,h=>by
  unfold vr;rw[Qw];refine(zcM l _ t λq hq=>h q (.tail _ hq)).trans ?_;rw[X7,KM (h p (.head _)),←X7]
def zmH:∀(l:List (Nat×Value)) (A:Array Value),(l.map Prod.fst).Nodup->∀(j:Nat) (t:Nat) (v:Value),l[j]?=some (t,v)->t<A.size->(vr l A).getD t undef=v
 |[],_,_,j,t,v,h,_=>by simp at h
 |p::l,A,hn,j,t,v,h,ht=>by
  rw[QO,List.nodup_cons]at hn;unfold vr;rw[Qw]
  cases j with
  |zero=>
   cases h
   refine(zcM l _ t λq hq e=>hn.1 (by rw[XO];exact⟨q,hq,e⟩)).trans ?_;simp[X7,ht]
  |succ j=>exact zmH l _ hn.2 j t v (by simpa using h) (by simpa using ht)
def zmI:∀(ps:LC) (es:LR) (L:LP) (t:Nat) (s:SV),ps.length=es.length->kK (zlL ps es L) t=some s->
  (∃j:Nat,ps[j]?=some t/\es[j]?=some s)∨((∀p∈ps,p≠t)/\kK L t=some s)
 |[],[],L,t,s,_,h=>.inr ⟨λ_ hp=>(by cases hp),h⟩
 |[],_::_,_,_,_,hl,_=>by cases hl
 |_::_,[],_,_,_,hl,_=>by cases hl
 |p::ps,e::es,L,t,s,hl,h=>by
  unfold zlL at h;rw[kq]at h
  by_cases hp:p=t
  ·rw[Xe hp]at h
   cases h
   exact .inl ⟨0,by rw[hp];rfl,rfl⟩
  rw[Xc hp]at h
  rcases zmI ps es L t s (by simpa using hl) h with⟨j,h1,h2⟩|⟨h1,h2⟩
  ·exact .inl ⟨j+1,h1,h2⟩
  exact .inr ⟨λq hq=>by cases hq with
   |head=>exact hp
   |tail _ hq=>exact h1 q hq,h2⟩
def pfL(m:Nat):LP->Bool
 |[]=>true
 |(_,s)::r=>match pfS s with
  |true=>(match vG m s with
   |true=>pfL m r
   |false=>false)
  |false=>false
def zoo{m:Nat}:∀{L:LP} {t:Nat} {s:SV},pfL m L=true->kK L t=some s->pfS s=true/\vG m s=true
 |[],_,_,_,h=>by cases h
 |(k,s0)::r,t,s,h,hl=>by
  unfold pfL at h
  split at h
  ·rename_i h1
   split at h
   ·rename_i h2;rw[kq]at hl
    by_cases e:k=t
    ·rw[Xe e]at hl;cases hl;exact⟨h1,h2⟩
    rw[Xc e]at hl;exact zoo h hl
   cases h
  cases h
def zmJ(n:Nat):LC->Bool
 |[]=>true
 |p::r=>match Nat.blt p n with
  |true=>zmJ n r
  |false=>false
def zmK{n:Nat}:∀{l:LC},zmJ n l=true->∀p∈l,p<n
 |[],_,_,h=>by cases h
 |q::r,h,p,hp=>by
  unfold zmJ at h
  split at h
  ·rename_i h1
   cases hp with
   |head=>exact J7 ▸ h1
   |tail _ hp=>exact zmK h p hp
  cases h
def zyk(σ:St):Prop:=∃E ρ a w,Rel E σ ρ a w
def zt2(P:Program)(Γ:LS)(f:FuncId)(caps:LR)(ps:LC)(assign body:Code)(σ:St)(Q:LH):Prop:=
 ∃(β:Type) (enc:β->LR) (ys:List β) (m:Nat) (L:LP) (S:Nat->LT) (nk:Nat->Nat),
  zfb P f caps enc ys/\(∀y,(enc y).length=ps.length)/\(zbJ ps=true/\zmJ σ.nt ps=true/\uZ assign=true/\uZ body=true)/\
  Sub σ ⟨L,S 0,nk 0,σ.nt,σ.n0⟩/\(σ.n0<=m/\pfL m L=true)/\(∀j,ziL (S j))/\
  (∀j y,ys[j]?=some y->zyk ⟨zlL ps (enc y) L,S j,nk j,σ.nt,m⟩->jI P Γ assign ⟨zlL ps (enc y) L,S j,nk j,σ.nt,m⟩ λe σ1=>match e with
   |.normal=>jI P Γ body σ1 λe σ2=>match e with
    |.normal=>Sub σ2 ⟨[],S (j+1),nk (j+1),σ.nt,m⟩
    |.exit id=>∃M' nk',Sub σ2 ⟨[],M',nk',σ.nt,m⟩/\ziL M'/\Q (.exit id) ⟨L,M',nk',σ.nt,σ.n0⟩
    |.ret=>∃M' nk',Sub σ2 ⟨[],M',nk',σ.nt,m⟩/\ziL M'/\Q .ret ⟨L,M',nk',σ.nt,σ.n0⟩
   |_=>False)/\
  (zyk ⟨L,S ys.length,nk ys.length,σ.nt,σ.n0⟩->Q .normal ⟨L,S ys.length,nk ys.length,σ.nt,σ.n0⟩)
structure RR (E E':Env) (σ:St) (ρ:zh) (a:Act) (w:World):Prop where
 rel:Rel E' σ ρ a w
 rho:E'.ρ0=E.ρ0
 kp:∀b,E.Keep b->E'.Keep b
 stp:Stp E.W0 (Own σ.M ρ) E.ρ0 ρ E.w0 w
 marks:∀d∈E'.ds,∃D,d={ target:=.collected D,args:=#[] }/\E'.Keep D/\E.w0.heap.size<=D/\w.heap[D]?=some (.deferred (some []))
 apart:E'.ds.Pairwise λd e=>∀D D',d.target=.collected D->e.target=.collected D'->D≠D'
variable{E:Env}{E':Env}{σ:St}{a:Act}{a':Act}
def RR.next{σ':St}{w:World}(h:RR E E' σ ρ a w)(h':Rel ⟨w,E'.ρ0,E'.Keep,Own σ.M ρ,E'.ds⟩ σ' ρ' a' w'):
  RR E ⟨w,E'.ρ0,E'.Keep,Own σ.M ρ,E'.ds⟩ σ' ρ' a' w':=by
 have hs:=h'.stp;refine⟨h',h.rho,h.kp,⟨hs.os.trans h.stp.os,hs.tape.trans h.stp.tape,h.stp.output.trans hs.output,XB h.stp.size hs.size,λb hb hn=>?_,λb hb=>?_,λk v hk=>?_⟩,λd hd=>?_,h.apart⟩
 ·refine(hs.block b (Xw hb h.stp.size) λho=>?_).trans (h.stp.block b hb hn);exact(h.stp.own b ho).elim hn λhge=>oM
 ·exact(hs.own b hb).elim (h.stp.own b) λhge=>.inr (XB h.stp.size hge)
 ·have:E'.ρ0 k=some v:=by rw[h.rho];exact hk
  exact hs.rho k v this
 obtain⟨D,e,hk,hge,hh⟩:=h.marks d hd;exact⟨D,e,hk,hge,(hs.block D (h.rel.mem.kp D hk) λho=>(h.rel.mem.old D ho).2 hk).trans hh⟩
def zkH(E:Env)(Q:LH):LF
 |.normal,a,w=>∃E' σ ρ,Q .normal σ/\RR E E' σ ρ a w
 |.exit id,a,w=>∃E' σ ρ,Q (.exit id) σ/\RR E E' σ ρ a w
 |.ret,a,w=>∃E' σ ρ,Q .ret σ/\RR E E' σ ρ a w
 |_,_,_=>False
variable{Q:LH}
def zkH.of{w:World}(h:RR E E' σ ρ a w){e:Exit}(hp:uS ⟨w,E'.ρ0,E'.Keep,Own σ.M ρ,E'.ds⟩ Q e a' w'):zkH E Q e a' w':=by
 cases e with
 |normal=>obtain⟨σ',ρ',hq,hr⟩:=hp;exact⟨_,σ',ρ',hq,h.next hr⟩
 |exit id=>obtain⟨σ',ρ',hq,hr⟩:=hp;exact⟨_,σ',ρ',hq,h.next hr⟩
 |ret=>obtain⟨σ',ρ',hq,hr⟩:=hp;exact⟨_,σ',ρ',hq,h.next hr⟩
 |_=>exact hp
structure Jc (E:Env) (K0 SB Own0:LI) (m nkv:Nat) (w0:World) (ρs:zh) (M:LT) (ρj:zh) (W:World):Prop where
 mem:zL (λb=>K0 b∨SB b) M ρj W
 names:∀k v,k<m->ρs k=some v->ρj k=some v
 fresh:∀k,nkv<=k->ρj k=none
 stp:Stp E.W0 (Own M ρj) E.ρ0 ρj E.w0 W
 same:∀b,b<w0.heap.size->¬Own0 b->W.heap[b]?=w0.heap[b]?
 size:w0.heap.size+2<=W.heap.size
 sb:∀b,SB b->w0.heap.size+2<=b
 own:∀b,Own M ρj b->Own0 b∨w0.heap.size+2<=b
 dis:∀b,SB b->¬K0 b
def Jc.other{E:Env}{K0 SB SB' Own0:LI}{m nkv:Nat}{w0:World}{ρs ρj:zh}{M:LT}{W W':World}(h:Jc E K0 SB Own0 m nkv w0 ρs M ρj W)(hp:ziL M)(h0:E.w0.heap.size<=w0.heap.size)(hmv:Mv SB SB' W W')(hd:∀b,SB' b->¬(K0 b∨Own M ρj b)/\b<W'.heap.size):Jc E K0 SB' Own0 m nkv w0 ρs M ρj W':=by
 have hz:=h.size
 refine⟨h.mem.other hp hmv λb hb=>⟨λho=>(hd b hb).1 (.inr ho),(hd b hb).2⟩,h.names,h.fresh,
  ⟨hmv.os.trans h.stp.os,hmv.tape.trans h.stp.tape,h.stp.output.trans hmv.output,XB h.stp.size hmv.size,λb hb hn=>?_,h.stp.own,h.stp.rho⟩,
  λb hb hn=>?_,XB h.size hmv.size,λb hb=>?_,h.own,λb hb k=>(hd b hb).1 (.inl k)⟩
 ·exact(hmv.block b oM λhs=>by have:=h.sb b hs;omega).trans (h.stp.block b hb hn)
 ·exact(hmv.block b oM λhs=>by have:=h.sb b hs;omega).trans (h.same b hb hn)
 exact(hmv.own b hb).elim (h.sb b) λhge=>oM
def zgI:∀{l:LC},zbJ l=true->l.Nodup
 |[],_=>List.nodup_nil
 |k::r,h=>by
  unfold zbJ at h
  split at h
  ·cases h
  rename_i h1;exact List.nodup_cons.2 ⟨λhm=>(by rw[zjG hm]at h1;cases h1),zgI h⟩
def zyl{P:Program}(w:World)(fn:FuncId)(tmps:Array Value)(ps:Array Tmp)(assign body:Code):∃W1,
  (Instr.enterLoop fn tmps ps assign body none).run P w=.ok (w.heap.size+1,[{ target:=.collected w.heap.size,args:=#[] }]) W1/\
  W1.heap[w.heap.size+1]?=some (.loop { state:=.ready,pending:=none,fn,tmps,params:=ps,assign,body,defers:=w.heap.size })/\W1.heap[w.heap.size]?=some (.deferred (some []))/\
  W1.heap.size=w.heap.size+2/\(∀b,b<w.heap.size->W1.heap[b]?=w.heap[b]?)/\kO w W1/\W1.os=w.os/\W1.tape=w.tape:=by
 refine⟨_,run_enterLoop_outer _ _ _ _ _,?_,(RowKit.Below.heap_alloc _ _ _ sI).trans (World.alloc_heap_new w _),sI,λb hb=>(RowKit.Below.heap_alloc _ _ _ (by simp;omega)).trans (RowKit.Below.heap_alloc _ _ _ hb),?_,rfl,rfl⟩
 ·have:=World.alloc_heap_new (w.alloc (.deferred (some []))) (.loop { state:=.ready,pending:=none,fn,tmps,params:=ps,assign,body,defers:=w.heap.size });rwa [World.size_alloc]at this
 have one:∀(w:World) (o:Obj),o.isCells=false->kO w (w.alloc o):=λw o ho=>⟨rfl,λb=>by
  unfold World.frozen?
  by_cases e:b.block=w.heap.size
  ·rw[e,World.alloc_heap_new,KQ (Xk _)]
   cases o <;> first|rfl|cases ho
  by_cases h2:b.block<w.heap.size
  ·rw[RowKit.Below.heap_alloc _ _ _ h2]
  rw[KQ (by rw[World.size_alloc];omega),KQ oM]⟩
 exact(one w _ rfl).trans (one _ _ rfl)
def zql{S Pm:LI}{ρ:zh}{w:World}{ps:LC}{es:LR}{L:LP}{args:LA}{A:Array Value}(hnd:zbJ ps=true)(hlt:zmJ A.size ps=true)(hle:es.length=ps.length)(hargs:Ds S w es args)(hL:∀t s,kK L t=some s->t<A.size/\G S Pm ρ w s (A.getD t undef))(t:Nat)(s:SV)(hlk:kK (zlL ps es L) t=some s):t<A.size/\G S Pm ρ w s ((vr (ps.zip args) A).getD t undef):=by
 obtain⟨q,h1,h2⟩|⟨h1,h2⟩:=zmI _ _ _ _ _ hle.symm hlk
 ·have htn:t<A.size:=zmK hlt t (Xf h1);have hal:=hargs.1;have hq:q<args.length:=by have:=(Xd.1 h1).1;omega
  have hzq:(ps.zip args)[q]?=some (t,args[q]):=by
   rw[List.getElem?_zip_eq_some];exact⟨h1,Xb hq⟩
  refine⟨htn,?_⟩;rw[zmH _ _ (by rw[List.map_fst_zip oM];exact zgI hnd) q t _ hzq htn];exact .d _ _ (hargs.2 q s _ h2 (Xb hq))
 obtain⟨g1,g2⟩:=hL t s h2;refine⟨g1,?_⟩;rw[zcM _ _ _ λp hp=>h1 p.1 (List.of_mem_zip hp).1];exact g2
def zqm{P:Program}{Γ:LS}(hT:TOK P Γ)(hm:P.follows .mixedOrders=true){w:World}(hr0:RR E E' σ ρ a w){f:FuncId}{caps:LR}{vs:LA}{g:Operand}{ps:Array Tmp}{assign body:Code}(hg:a.eval g=.func (.func f) #[] vs.toArray)(hcaps:Ds (λb=>E'.Keep b∨Own σ.M ρ b) w caps vs)(h:zt2 P Γ f caps ps.toList assign body σ Q):
  (Code.rangeFunc g ps assign body).wpIn Fence.wide 0 P (zkH E Q) a w:=by
 obtain⟨β,enc,ys,m,L,S,nk,⟨hcall,hit⟩,henc,⟨hnd,hlt,hd1,hd2⟩,hsub,⟨hn0,hpf⟩,hpm,hround,hdone⟩:=h;obtain⟨ρs,hrs0⟩:=hsub _ ρ a w hr0.rel.cut;have hown0:∀b,Own (S 0) ρs b->Own σ.M ρ b:=λb hb=>(hrs0.stp.own b hb).resolve_right λhge=>by have:=(hrs0.mem.old b hb).1;have hge:w.heap.size<=b:=hge;omega
 have hr:=hr0.next hrs0
 have hcaps:Ds (λb=>E'.Keep b∨Own (S 0) ρs b) w caps vs:=⟨hcaps.1,λj s v hs hv=>(hcaps.2 j s v hs hv).less λb hb=>hb.imp id (hown0 b)⟩;obtain⟨E1,hE1⟩:∃E1:Env,E1=⟨w,E'.ρ0,E'.Keep,Own σ.M ρ,E'.ds⟩:=⟨_,rfl⟩;have hkeep:E1.Keep=E'.Keep:=by rw[hE1]
 rw[←hE1]at hr;rw[←hkeep]at hcaps;clear hE1 hkeep hrs0 hr0 hsub hown0;have hsz0:=hr.stp.size;refine wpIn_rangeFunc λfn _=>?_;obtain⟨rec,hrec⟩:∃rec:LoopState->Option Code->Loop,rec=λst pe=>{ state:=st,pending:=pe,fn,tmps:=a.tmps,params:=ps,assign,body,defers:=w.heap.size }:=⟨_,rfl⟩
 obtain⟨W1,hin,hL1,hK1',hz1,hsame1,hout1,hos1⟩:=zyl (P:=P) w fn a.tmps ps assign body;rw[show({ state:=.ready,pending:=none,fn,tmps:=a.tmps,params:=ps,assign,body,defers:=w.heap.size }:Loop)=rec .ready none from by rw[hrec]]at hL1;obtain⟨l,hl⟩:∃l,l=w.heap.size+1:=⟨_,rfl⟩;obtain⟨D,hD⟩:∃D,D=w.heap.size:=⟨_,rfl⟩;rw[←hl]at hL1;rw[←hD]at hK1';have hDl:D<l:=oM;have hE0:∀b,b<E.w0.heap.size->b<w.heap.size:=λb hb=>Xw hb hsz0
 obtain⟨K0,hK0⟩:∃K0:LI,K0=λb=>E1.Keep b∨b=D∨b=l:=⟨_,rfl⟩
 have hKl:K0 l:=by rw[hK0];exact .inr (.inr rfl)
 have hKD:K0 D:=by rw[hK0];exact .inr (.inl rfl)
 have hK1:∀b,E1.Keep b->K0 b:=λb hb=>by rw[hK0];exact .inl hb
 have hKlt:∀b,K0 b->b<w.heap.size+2:=λb hb=>by
  rw[hK0]at hb
  rcases hb with hb|rfl|rfl
  ·have:=hr.rel.mem.kp b hb;omega
  ·omega
  omega
 have hKo:∀b,K0 b->b<w.heap.size->E1.Keep b:=λb hb hlt=>by
  rw[hK0]at hb
  rcases hb with hb|rfl|rfl
  ·exact hb
  ·omega
  omega
 have hKe:∀b,K0 b->E1.Keep b∨b=D∨b=l:=λb hb=>by rw[hK0]at hb;exact hb
 clear hK0
 -- what lies in the slots,looked at later
 have regsL:∀{SB:LI} {M:LT} {nkv:Nat} {ρj:zh} {W:World},Jc E K0 SB (Own (S 0) ρs) m nkv w ρs M ρj W->∀t s,kK L t=some s->
   t<σ.nt/\G (λb=>(K0 b∨SB b)∨Own M ρj b) (Own M ρj) ρj W s (a.tmps.getD t undef):=λ{SB M nkv ρj W} hj t s hl'=>by
  obtain⟨h1,h2⟩:=hr.rel.regs t s hl';obtain⟨p1,p2⟩:=zoo hpf hl';have hz:=hj.size;refine⟨h1,(h2.pf (w':=W) oM (λb hb hn=>⟨λhk=>?_,hj.same b hb λho=>hn (.inr ho)⟩) p1).low hj.names p2⟩
  rcases hk with(hk|hk)|hk
  ·exact hn (.inl (hKo b hk hb))
  ·have:=hj.sb b hk;omega
  exact(hj.own b hk).elim (λho=>hn (.inr ho)) λhge=>oM
 -- the first round
 have hst1:Stp (Own (S 0) ρs) (Own (S 0) ρs) ρs ρs w W1:=⟨hos1.1,hos1.2,hout1,oM,λb hb _=>hsame1 b hb,λ_ h=>.inl h,λ_ _ h=>h⟩
 have hj0:Jc E K0 (λ_=>False) (Own (S 0) ρs) m (nk 0) w ρs (S 0) ρs W1:=by
  refine⟨?_,λ_ _ _ h=>h,hr.rel.fresh,hr.stp.trans hst1,λb hb _=>hsame1 b hb,oM,λ_ h=>h.elim,λb h=>.inl h,λ_ h=>h.elim⟩
  have hm1:zL E1.Keep (S 0) ρs W1:=⟨λk mm hk=>(hr.rel.mem.rel k mm hk).keep hst1 rfl (λv b hv hb=>hsame1 b (hr.rel.mem.old b ⟨k,mm,v,hk,hv,hb⟩).1),hr.rel.mem.keys,hr.rel.mem.apart,
   λb hb=>⟨by have:=(hr.rel.mem.old b hb).1;omega,(hr.rel.mem.old b hb).2⟩,λb hb=>by have:=hr.rel.mem.kp b hb;omega,hr.rel.mem.glS hst1⟩
  -- two new blocks are kept apart
  refine⟨λk mm hk=>?_,hm1.keys,hm1.apart,λb hb=>⟨(hm1.old b hb).1,λhk=>?_⟩,λb hb=>hb.elim (λhk=>by have:=hKlt b hk;omega) λh=>h.elim,hm1.gl⟩
  ·have hst2:Stp (Own (S 0) ρs) (λb=>Own (S 0) ρs b∨b=D∨b=l) ρs ρs w W1:=⟨hst1.os,hst1.tape,hst1.output,hst1.size,hst1.block,λb hb=>hb.elim .inl λh=>.inr oM,hst1.rho⟩;have hb0:=(hr.rel.mem.rel k mm hk).keep hst2 rfl (λv b hv hb=>hsame1 b (hr.rel.mem.old b ⟨k,mm,v,hk,hv,hb⟩).1);exact hb0.pf (λb hb=>hb.elim (λh=>h.elim (λh=>(hKe b h).imp id .inr) λh=>h.elim) λh=>.inr (.inl h)) (hpm 0 k mm hk)
  have hlt:=(hr.rel.mem.old b hb).1;exact hk.elim (λhk=>(hr.rel.mem.old b hb).2 (hKo b hk hlt)) λh=>h
 refine⟨l,[{ target:=.collected D,args:=#[] }],W1,{ target:=.fn (.func f) vs.toArray,args:=#[.func (.yield l) #[] #[]] },W1,f,
  List.toArray (.func (.yield l) #[] #[]::vs),W1,?_,?_,λ_ _=>trivial,?_,yj.wide.need,?_⟩
 ·rw[hl,hD];exact hin
 ·simp only[resolve,hg];simp[go_sem]
 ·obtain⟨fn',c1,c2,c3⟩:=hcall;simp only[invoke,callFunc,Sem.run_bind,Sem.run_pure,Result.andThen_ok,run_program,c1,c2,c3,Ky,if_false];simp
 refine(hit (λb=>K0 b∨Own (S 0) ρs b) W1 vs l
  (λi SA SB W=>∃ρj,Jc E K0 SB (Own (S 0) ρs) m (nk i) w ρs (S i) ρj W/\(∀b,SA b↔K0 b∨Own (S i) ρj b)/\W.heap[l]?=some (.loop (rec .ready none))/\W.heap[D]?=some (.deferred (some [])))
  (λSA SB W=>∃c M' nk' ρj,Jc E K0 SB (Own (S 0) ρs) m nk' w ρs M' ρj W/\ziL M'/\(∀b,SA b↔K0 b∨Own M' ρj b)/\W.heap[l]?=some (.loop (rec .done (some c)))/\W.heap[D]?=some (.deferred (some []))/\
   ((∃id,c=.exit id/\Q (.exit id) ⟨L,M',nk',σ.nt,σ.n0⟩)∨(c=.ret/\Q .ret ⟨L,M',nk',σ.nt,σ.n0⟩)))
  ?_ (λg v h=>hj0.mem.glc h) ?_ ?_ ?_ ?_ ?_).mono ?_
 ·intro b hb;exact hb.elim (λhk=>by have:=hKlt b hk;omega) λho=>(hj0.mem.old b ho).1
 ·refine⟨hcaps.1,λj s v hs hv=>(hcaps.2 j s v hs hv).mono oM λb hb hn=>⟨λhk=>hk.elim (λhk=>hn (.inl (hKo b hk hb))) λho=>hn (.inr ho),hsame1 b hb⟩⟩
 ·rintro i SA SB SB' W W' ⟨ρj,hj,hSA,hl',hD'⟩ hmv hd
  have hz:=hj.size;refine⟨ρj,hj.other (hpm i) oM hmv λb hb=>⟨λhk=>(hd b hb).1 ((hSA b).2 hk),(hd b hb).2⟩,hSA,?_,?_⟩
  ·exact(hmv.block l oM λhs=>hj.dis l hs hKl).trans hl'
  exact(hmv.block D oM λhs=>hj.dis D hs hKD).trans hD'
 ·rintro SA SB SB' W W' ⟨c,M',nk',ρj,hj,hpM,hSA,hl',hD',hc⟩ hmv hd
  have hz:=hj.size;refine⟨c,M',nk',ρj,hj.other hpM oM hmv λb hb=>⟨λhk=>(hd b hb).1 ((hSA b).2 hk),(hd b hb).2⟩,hpM,hSA,?_,?_,hc⟩
  ·exact(hmv.block l oM λhs=>hj.dis l hs hKl).trans hl'
  exact(hmv.block D oM λhs=>hj.dis D hs hKD).trans hD'
 ·-- one round
  rintro i y SA SB W args hy ⟨ρj,hj,hSA,hl',hD'⟩ hSAlt hSBd hargs
  have hz:=hj.size;have hlen:args.length=ps.toList.length:=by rw[hargs.1,henc y]
  have hrun:=run_yield (P:=P) (args:=List.toArray args) hl' (by rw[hrec];simp at hlen ⊢;omega);rw[hrec]at hrun
  have hzip:∀A:Array Value,(ps.zip (List.toArray args)).foldl (λtmps (t,a)=>tmps.setIfInBounds t a) A=vr (ps.toList.zip args) A:=λA=>by
   unfold vr;rw[←JG,Array.toList_zip]
  dsimp only at hrun;rw[hzip]at hrun;have hnoL:¬Own (S i) ρj l:=λho=>(hj.mem.old l ho).2 (.inl hKl)
  have hnoD:¬Own (S i) ρj D:=λho=>(hj.mem.old D ho).2 (.inl hKD)
  have hrel:Rel ⟨W,λk=>if k<m then ρj k else none,λb=>K0 b∨SB b,Own (S i) ρj,[]⟩ ⟨zlL ps.toList (enc y) L,S i,nk i,σ.nt,m⟩ ρj { tmps:=vr (ps.toList.zip args) a.tmps,defers:=[] } W:=by
   have hsz:a.tmps.size=σ.nt:=hr.rel.size;refine⟨by rw[zdR];exact hsz,rfl,λt s hlk=>?_,hj.mem,hj.fresh,⟨rfl,rfl,.refl _,Xk _,λ_ _ _=>rfl,λ_ h=>.inl h,λk v hk=>?_⟩,hj.mem.kp,λk v hk=>?_⟩
   ·have:=zql hnd (hsz ▸ hlt) (henc y) ⟨hargs.1,λj s v hs hv=>(hargs.2 j s v hs hv).less λb hb=>hb.elim (λh=>h.elim (λh=>.inl ((hSA b).2 (.inl h))) .inr) λh=>.inl ((hSA b).2 (.inr h))⟩ (λt s hl'=>hsz ▸ regsL hj t s hl') t s hlk
    rwa [hsz]at this
   ·dsimp only at hk
    split at hk
    ·exact hk
    cases hk
   dsimp only at hk
   split at hk
   ·assumption
   cases hk
  refine⟨fn,_,assign,body,hrun,roundIn_of_wpIn trivial ?_⟩;refine wpIn_mono (uN (yj.wide.inRound l) hT hm assign hd1 hrel (hround i y hy ⟨_,_,_,_,hrel⟩)) (λe a1 w1 hq=>?_)
  cases e with
  |exit id=>obtain⟨_,_,hf,_⟩:=hq;exact hf.elim
  |ret=>obtain⟨_,_,hf,_⟩:=hq;exact hf.elim
  |panic _=>exact hq.elim
  |outgrown=>exact hq.elim
  |goto _=>exact hq.elim
  |normal=>
   obtain⟨σ1,ρ1,hb,hr1⟩:=hq;have hl1:w1.heap[l]?=some (.loop (rec .ready none)):=(hr1.stp.block l (by show l<W.heap.size;omega) hnoL).trans hl';have hD1:w1.heap[D]?=some (.deferred (some [])):=(hr1.stp.block D (by show D<W.heap.size;omega) hnoD).trans hD';refine⟨_,run_beginRound hl1 (by rw[hrec]),?_⟩;have hr2:=hr1.put (o':=.loop { rec .ready none with state:=.busy }) hl1 rfl (by intro _ _ h;cases h);have hz1':W.heap.size<=w1.heap.size:=hr1.stp.size;refine wpIn_mono (uN (yj.wide.inRound l) hT hm body hd2 hr2 hb) (λe a2 w3 hq=>?_)
   have fin:∀(M':LT) (nk':Nat) (ρ3:zh) (jump:Option Code),ziL M'->
     Rel ⟨w1.putObj l (.loop { rec .ready none with state:=.busy }),λk=>if k<m then ρj k else none,λb=>K0 b∨SB b,Own σ1.M ρ1,[]⟩ ⟨[],M',nk',σ.nt,m⟩ ρ3 a2 w3->
     (Instr.endRound l jump).run P w3=.ok (.bool jump.isNone) (w3.putObj l (.loop (rec (if jump.isNone then .ready else .done) jump)))/\
     Jc E K0 SB (Own (S 0) ρs) m nk' w ρs M' ρ3 (w3.putObj l (.loop (rec (if jump.isNone then .ready else .done) jump)))/\
     Mv SA (λb=>K0 b∨Own M' ρ3 b) W (w3.putObj l (.loop (rec (if jump.isNone then .ready else .done) jump)))/\
     (∀b,(K0 b∨Own M' ρ3 b)->¬SB b/\b<(w3.putObj l (.loop (rec (if jump.isNone then .ready else .done) jump))).heap.size)/\
     (w3.putObj l (.loop (rec (if jump.isNone then .ready else .done) jump))).heap[l]?=some (.loop (rec (if jump.isNone then .ready else .done) jump))/\
     (w3.putObj l (.loop (rec (if jump.isNone then .ready else .done) jump))).heap[D]?=some (.deferred (some [])):=by
    intro M' nk' ρ3 jump hpM hr3;have hz3:w1.heap.size<=w3.heap.size:=by have:=hr3.stp.size;rwa [World.putObj_size]at this
    have hlt1:l<w1.heap.size:=(XX.1 hl1).1;have hnoL1:¬Own σ1.M ρ1 l:=λho=>(hr1.mem.old l ho).2 (.inl hKl)
    have hnoD1:¬Own σ1.M ρ1 D:=λho=>(hr1.mem.old D ho).2 (.inl hKD)
    have hl3:w3.heap[l]?=some (.loop { rec .ready none with state:=.busy }):=
     (hr3.stp.block l (by show l<(World.putObj _ _ _).heap.size;rw[World.putObj_size];exact hlt1) hnoL1).trans (World.putObj_heap_same hlt1)
    have hD3:w3.heap[D]?=some (.deferred (some [])):=
     (hr3.stp.block D (by show D<(World.putObj _ _ _).heap.size;rw[World.putObj_size];omega) hnoD1).trans ((World.putObj_heap_other oM).trans hD1)
    have hend:=run_endRound (P:=P) jump hl3;have erec:({ ({ rec .ready none with state:=.busy }:Loop) with state:=if jump.isNone then .ready else .done,pending:=jump }:Loop)=rec (if jump.isNone then .ready else .done) jump:=by rw[hrec]
    rw[erec]at hend;clear erec;have hlt3:l<w3.heap.size:=oM
    have hown3:∀b,Own M' ρ3 b->Own (S i) ρj b∨W.heap.size<=b:=λb ho=>(hr3.stp.own b ho).elim (λh1=>hr1.stp.own b h1) λhge=>by
     have hge:(w1.putObj l (.loop { rec .ready none with state:=.busy })).heap.size<=b:=hge;rw[World.putObj_size]at hge;exact .inr oM
    have hblk:∀b,b<W.heap.size->¬Own (S i) ρj b->b≠l->(w3.putObj l (.loop (rec (if jump.isNone then .ready else .done) jump))).heap[b]?=W.heap[b]? :=λb hb hn hne=>by
     refine(World.putObj_heap_other hne).trans ?_;refine(hr3.stp.block b (by show b<(World.putObj _ _ _).heap.size;rw[World.putObj_size];omega) λh1=>(hr1.stp.own b h1).elim hn λhge=>?_).trans ?_
     ·have hge:W.heap.size<=b:=hge;omega
     exact(World.putObj_heap_other hne).trans (hr1.stp.block b hb hn)
    have hout:kO W (w3.putObj l (.loop (rec (if jump.isNone then .ready else .done) jump))):=
     hr1.stp.output.trans ((kO.put hl1 rfl rfl).trans (hr3.stp.output.trans (kO.put hl3 rfl rfl)))
    have hos:w3.os=W.os:=hr3.stp.os.trans hr1.stp.os;have htape:w3.tape=W.tape:=hr3.stp.tape.trans hr1.stp.tape;have hmem:zL (λb=>K0 b∨SB b) M' ρ3 (w3.putObj l (.loop (rec (if jump.isNone then .ready else .done) jump))):=hr3.mem.put hl3 rfl (by intro _ _ h;cases h);have hname:∀k v,k<m->ρs k=some v->ρ3 k=some v:=λk v hk hv=>hr3.stp.rho k v (by show(if k<m then ρj k else none)=some v;rw[Xe hk];exact hj.names k v hk hv)
    refine⟨hend,⟨hmem,hname,hr3.fresh,⟨hos.trans hj.stp.os,htape.trans hj.stp.tape,hj.stp.output.trans hout,?_,λb hb hn=>?_,λb ho=>?_,λk v hv=>?_⟩,λb hb hn=>?_,?_,hj.sb,λb ho=>?_,hj.dis⟩,
     ⟨⟨hos,htape,hout,?_,λb hb hn=>?_,λb hb=>?_,λ_ _ h=>h⟩,λg v h _=>hmem.glc h⟩,λb hb=>?_,World.putObj_heap_same hlt3,(World.putObj_heap_other oM).trans hD3⟩
    ·have:=hj.stp.size;rw[World.putObj_size];omega
    ·have hb':=hE0 b hb;exact(hblk b oM (λho=>(hj.stp.own b ho).elim hn λhge=>by omega) oM).trans (hj.stp.block b hb hn)
    ·exact(hown3 b ho).elim (hj.stp.own b) λhge=>.inr (by have:=hj.stp.size;omega)
    ·have h1:k<σ.n0:=hr.rel.low k v (by rw[hr.rho];exact hv);exact hname k v oM (hr.stp.rho k v hv)
    ·exact(hblk b oM (λho=>(hj.own b ho).elim hn λhge=>by omega) oM).trans (hj.same b hb hn)
    ·rw[World.putObj_size];omega
    ·exact(hown3 b ho).elim (hj.own b) λhge=>.inr oM
    ·rw[World.putObj_size];omega
    ·exact hblk b hb (λho=>hn ((hSA b).2 (.inr ho))) λe=>hn ((hSA b).2 (.inl (e ▸ hKl)))
    ·exact hb.elim (λhk=>.inl ((hSA b).2 (.inl hk))) λho=>(hown3 b ho).imp (λh=>(hSA b).2 (.inr h)) id
    exact hb.elim (λhk=>⟨λhs=>hj.dis b hs hk,hmem.kp b (.inl hk)⟩) λho=>⟨λhs=>(hmem.old b ho).2 (.inr hs),(hmem.old b ho).1⟩
   cases e with
   |normal=>
    obtain⟨σ2,ρ2,hs2,hr3⟩:=hq;obtain⟨ρ3,hr3⟩:=hs2 _ ρ2 a2 w3 hr3;obtain⟨f1,f2,f3,f4,f5,f6⟩:=fin _ _ ρ3 none (hpm (i+1)) hr3;exact⟨_,_,f1,λb=>K0 b∨Own (S (i+1)) ρ3 b,f3,f4,.inl ⟨rfl,ρ3,f2,λb=>K5,f5,f6⟩⟩
   |ret=>
    obtain⟨σ2,ρ2,⟨M',nk',hs2,hpM,hQ⟩,hr3⟩:=hq;obtain⟨ρ3,hr3⟩:=hs2 _ ρ2 a2 w3 hr3;obtain⟨f1,f2,f3,f4,f5,f6⟩:=fin _ _ ρ3 (some .ret) hpM hr3;exact⟨_,_,f1,λb=>K0 b∨Own M' ρ3 b,f3,f4,.inr ⟨rfl,.ret,M',nk',ρ3,f2,hpM,λb=>K5,f5,f6,.inr ⟨rfl,hQ⟩⟩⟩
   |exit id=>
    obtain⟨σ2,ρ2,⟨M',nk',hs2,hpM,hQ⟩,hr3⟩:=hq;obtain⟨ρ3,hr3⟩:=hs2 _ ρ2 a2 w3 hr3;obtain⟨f1,f2,f3,f4,f5,f6⟩:=fin _ _ ρ3 (some (.exit id)) hpM hr3;exact⟨_,_,f1,λb=>K0 b∨Own M' ρ3 b,f3,f4,.inr ⟨rfl,.exit id,M',nk',ρ3,f2,hpM,λb=>K5,f5,f6,.inl ⟨id,rfl,hQ⟩⟩⟩
   |goto _=>exact hq.elim
   |panic _=>exact hq.elim
   |outgrown=>exact hq.elim
 ·exact⟨ρs,hj0,λb=>K5,hL1,hK1'⟩
 -- behind the iterator
 have finR:∀(M':LT) (nk':Nat) (ρj:zh) (SB:LI) (W2:World) (r r':Loop),ziL M'->Jc E K0 SB (Own (S 0) ρs) m nk' w ρs M' ρj W2->W2.heap[l]?=some (.loop r)->W2.heap[D]?=some (.deferred (some []))->
   RR E ⟨W2.putObj l (.loop r'),E1.ρ0,λb=>E1.Keep b∨b=D,Own M' ρj,{ target:=.collected D,args:=#[] }::E1.ds⟩ ⟨L,M',nk',σ.nt,σ.n0⟩ ρj { a with defers:=[{ target:=.collected D,args:=#[] }]++a.defers } (W2.putObj l (.loop r')):=by
  intro M' nk' ρj SB W2 r r' hpM hj hl' hD';have hz:=hj.size
  have hnm:∀k v,E1.ρ0 k=some v->ρj k=some v:=λk v hv=>by
   have h1:k<σ.n0:=hr.rel.low k v hv;rw[hr.rho]at hv;exact hj.names k v oM (hr.stp.rho k v hv)
  have hmem:zL (λb=>E1.Keep b∨b=D) M' ρj (W2.putObj l (.loop r')):=(hj.mem.put hl' rfl (by intro _ _ h;cases h)).few hpM λb hb=>.inl (hb.elim (hK1 b) λe=>e ▸ hKD)
  refine⟨⟨hr.rel.size,?_,λt s hlk=>?_,hmem,hj.fresh,⟨rfl,rfl,.refl _,Xk _,λ_ _ _=>rfl,λ_ h=>.inl h,hnm⟩,hmem.kp,hr.rel.low⟩,hr.rho,λb hb=>.inl (hr.kp b hb),
   ⟨hj.stp.os,hj.stp.tape,hj.stp.output.trans (kO.put hl' rfl rfl),?_,λb hb hn=>?_,hj.stp.own,hj.stp.rho⟩,λd hd=>?_,?_⟩
  ·show[_]++a.defers=_::E1.ds;rw[hr.rel.defers];rfl
  ·obtain⟨g1,g2⟩:=regsL hj t s hlk;exact⟨g1,(g2.put hl' rfl).pf (Xk _) (λb _ hn=>⟨λhk=>hn (hk.elim (λh=>.inl (.inl (h.elim (hK1 b) λe=>e ▸ hKD))) .inr),rfl⟩) (zoo hpf hlk).1⟩
  ·rw[World.putObj_size];exact hj.stp.size
  ·have hb':=hE0 b hb;exact(World.putObj_heap_other oM).trans (hj.stp.block b hb hn)
  ·cases hd with
   |head=>exact⟨D,rfl,.inr rfl,oM,(World.putObj_heap_other oM).trans hD'⟩
   |tail _ hd=>
    obtain⟨D',e,hk,hge,hh⟩:=hr.marks d hd;have hlt':=hr.rel.mem.kp D' hk;exact⟨D',e,.inl hk,hge,(World.putObj_heap_other oM).trans ((hj.same D' hlt' λho=>(hr.rel.mem.old D' ho).2 hk).trans hh)⟩
  refine X9.2 ⟨λe he D1 D2 h1 h2=>?_,hr.apart⟩;obtain⟨D',rfl,hk,_,_⟩:=hr.marks e he;have hlt':=hr.rel.mem.kp D' hk
  cases h1
  cases h2
  omega
 rintro e W2 ⟨⟨v,rfl⟩,SA',SB',(⟨ρj,hj,_,hl',hD'⟩|⟨c,M',nk',ρj,hj,hpM,_,hl',hD',hc⟩)⟩
 ·have he:=run_endLoop (P:=P) hl' (by rw[hrec];simp);have hpn:(rec .ready none).pending=none:=by rw[hrec]
  rw[hpn]at he;exact⟨none,_,he,_,_,ρj,hdone ⟨_,_,_,_,(finR _ _ ρj SB' W2 _ (rec .ready none) (hpm _) hj hl' hD').rel⟩,finR _ _ ρj SB' W2 _ _ (hpm _) hj hl' hD'⟩
 have he:=run_endLoop (P:=P) hl' (by rw[hrec];simp);have hpn:(rec .done (some c)).pending=some c:=by rw[hrec]
 rw[hpn]at he;refine⟨some c,_,he,?_⟩
 obtain⟨id,rfl,hQ⟩|⟨rfl,hQ⟩:=hc
 ·exact wpIn_exit ⟨_,_,ρj,hQ,finR _ _ ρj SB' W2 _ _ hpM hj hl' hD'⟩
 exact wpIn_ret ⟨_,_,ρj,hQ,finR _ _ ρj SB' W2 _ _ hpM hj hl' hD'⟩
end
end Go.Gs
