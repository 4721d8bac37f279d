/- A block that holds no cells turns: what is zcG stays; what another party writes. -/
import Derived.Test.YtplllpkdmehklaaGreatDoorMA
import Derived.Test.YtplllpkdmehklaaGreatDoorMBF
import Derived.RangeFuncBox
set_option maxRecDepth 100000
set_option maxHeartbeats 8000000
set_option linter.all false
namespace Go.Gs
section put
variable {w:World} {l:Nat} {o o':Obj}
theorem zji(hl:w.heap[l]? =some o)(ho:o.isCells=false){a:Addr}{v:Value}(h:w.cell? a=some v):(w.putObj l o').cell? a=some v:=by
 obtain ⟨o2,h2,hc⟩:=cells_of_cell h
 have hne:a.block≠l:=by
  intro e;rw [e,hl] at h2
  cases h2
  rw [ho] at hc;cases hc
 exact (World.cell?_of_block (World.putObj_heap_other hne)).trans h
theorem kL.put(hl:w.heap[l]? =some o)(ho:o.isCells=false)(ho':o'.isCells=false):kL w (w.putObj l o'):=⟨rfl,fun a=>by
 unfold World.frozen?
 by_cases e:a.block=l
 ·have hlt:=(Array.getElem?_eq_some_iff.1 hl).1;rw [e,hl,World.putObj_heap_same hlt]
  cases o <;> cases o' <;> first | rfl | (cases ho;done) | (cases ho';done)
 ·rw [World.putObj_heap_other e]⟩
theorem D.put(hl:w.heap[l]? =some o)(ho:o.isCells=false){S:Nat->Prop}{s:SV}{v:Value}(h:D S w s v):D S (w.putObj l o') s v:=by
 induction h with
 | val v=>exact .val v
 | pr p i=>exact .pr p i
 | agg cs vs hl h ih=>exact .agg cs vs hl ih
 | nil enc a=>exact .nil enc a
 | nils a=>exact .nils a
 | anyb b=>exact .anyb b
 | junk v=>exact .junk v
 | full enc xs a h ih=>exact .full enc xs a ih
 | sl enc xs sz b o cap c hb hS' hlen hcap hsz hc h ih=>
  exact .sl enc xs sz b o cap c (by rw [World.putObj_size];exact hb) hS' hlen hcap hsz (fun i j hi hj=>⟨zji hl ho (hc i j hi hj).1,(hc i j hi hj).2⟩) ih
 | dptr cs b o c hb hS' hc h ih=>
  exact .dptr cs b o c (by rw [World.putObj_size];exact hb) hS' (fun j hj=>⟨zji hl ho (hc j hj).1,(hc j hj).2⟩) ih
 | dfn f cs vs hl h ih=>exact .dfn f cs vs hl ih
 | bm f cs vs hl h ih=>exact .bm f cs vs hl ih
 | op v h=>exact .op v h
 | ifc t s v h ih=>exact .ifc t s v ih
theorem G.put(hl:w.heap[l]? =some o)(ho:o.isCells=false){S Pm:Nat->Prop}{ρ:zi}{s:SV}{v:Value}(h:G S Pm ρ w s v):G S Pm ρ (w.putObj l o') s v:=by
 induction h with
 | d s v h=>exact .d s v (h.put hl ho)
 | loc k off b h=>exact .loc k off b h
 | own k v h h1=>exact .own k v h h1
 | eloc k sz i off b len cap h=>exact .eloc k sz i off b len cap h
 | win k sz lo n b len cap cap' h h1 h2=>exact .win k sz lo n b len cap cap' h h1 h2
 | ptr cs b o c hb hP' hc h=>
  exact .ptr cs b o c (by rw [World.putObj_size];exact hb) hP' (fun j hj=>⟨zji hl ho (hc j hj).1,(hc j hj).2⟩) (fun j s hs=>(h j s hs).put hl ho)
 | agg cs vs hl h ih=>exact .agg cs vs hl ih
 | tup cs vs hl h ih=>exact .tup cs vs hl ih
 | fn f cs vs hl h ih=>exact .fn f cs vs hl ih
 | ifc t s v h ih=>exact .ifc t s v ih
theorem jC.put(hl:w.heap[l]? =some o)(ho:o.isCells=false)(hm:∀es c,o≠.map es c){S Pm:Nat->Prop}{ρ:zi}{k:Nat}{m:Mem}(h:jC S Pm ρ w k m):jC S Pm ρ (w.putObj l o') k m:=by
 cases m with
 | box T cs=>
  obtain ⟨b,vs,h1,h2,h3,h4,h5⟩:=h;refine ⟨b,vs,h1,(World.putObj_heap_other fun e=>?_).trans h2,h3,h4,fun j s v hs' hv=>(h5 j s v hs' hv).put hl ho⟩;rw [e,hl] at h2;cases h2;cases ho
 | arr T enc sz xs=>
  obtain ⟨v,cells,h1,h2,h3,h4,h5,h6⟩:=h;refine ⟨v,cells,h1,ownsRow_putObj h2 o' hl ho,h3,h4,h5,fun i j x s hx hj=>?_⟩;obtain ⟨u,hu,hd⟩:=h6 i j x s hx hj;exact ⟨u,hu,hd.put hl ho⟩
 | garr T sz xs=>
  obtain ⟨v,cells,h1,h2,h3,h4,h5,h6⟩:=h;refine ⟨v,cells,h1,ownsRow_putObj h2 o' hl ho,h3,h4,h5,fun i j x s hx hj=>?_⟩;obtain ⟨u,hu,hd⟩:=h6 i j x s hx hj;exact ⟨u,hu,hd.put hl ho⟩
 | map es=>
  obtain ⟨r,ents,clock,h1,h2,h3,h4⟩:=h;refine ⟨r,ents,clock,h1,(World.putObj_heap_other fun e=>?_).trans h2,h3,fun i n s hi=>?_⟩
  ·rw [e,hl] at h2;cases h2;exact hm _ _ rfl
  obtain ⟨e,g1,g2,g3⟩:=h4 i n s hi;exact ⟨e,g1,g2,g3.put hl ho⟩
theorem zJ.put(hl:w.heap[l]? =some o)(ho:o.isCells=false)(hm:∀es c,o≠.map es c){Keep:Nat->Prop}{M:List (Nat×Mem)}{ρ:zi}(h:zJ Keep M ρ w):zJ Keep M ρ (w.putObj l o'):=
 ⟨fun k m hk=>(h.rel k m hk).put hl ho hm,h.keys,h.apart,fun b hb=>⟨by rw [World.putObj_size];exact (h.old b hb).1,(h.old b hb).2⟩,fun b hb=>by rw [World.putObj_size];exact h.kp b hb,fun g v hg=>by
  obtain ⟨h1,h2⟩:=h.gl g v hg;refine ⟨h1,(zh1 (World.putObj_heap_other fun e=>?_)).trans h2⟩;subst e
  cases o <;> simp [World.cell?,hl,Obj.isCells] at h2 ho⟩
theorem Rel.cut{E:Env}{σ:St}{ρ:zi}{a:Act}{w:World}(h:Rel E σ ρ a w):Rel ⟨w,E.ρ0,E.Keep,Own σ.M ρ,E.ds⟩ σ ρ a w:=
 ⟨h.size,h.defers,h.regs,h.mem,h.fresh,⟨rfl,rfl,.refl _,Nat.le_refl _,fun _ _ _=>rfl,fun _ h=>.inl h,h.stp.rho⟩,h.mem.kp,h.low⟩
theorem Rel.put(hl:w.heap[l]? =some o)(ho:o.isCells=false)(hm:∀es c,o≠.map es c){E:Env}{σ:St}{ρ:zi}{a:Act}(h:Rel E σ ρ a w):
  Rel ⟨w.putObj l o',E.ρ0,E.Keep,Own σ.M ρ,E.ds⟩ σ ρ a (w.putObj l o'):=
 ⟨h.size,h.defers,fun t s hl'=>⟨(h.regs t s hl').1,(h.regs t s hl').2.put hl ho⟩,h.mem.put hl ho hm,h.fresh,
  ⟨rfl,rfl,.refl _,Nat.le_refl _,fun _ _ _=>rfl,fun _ h=>.inl h,h.stp.rho⟩,fun b hb=>by rw [World.putObj_size];exact h.mem.kp b hb,h.low⟩
end put
def pfS:SV->Bool
 | .ptr _=>false
 | .agg cs=>pfs cs
 | .tup cs=>pfs cs
 | .fn _ cs=>pfs cs
 | .ifc _ s=>pfS s
 | _=>true
 where
 pfs:List SV->Bool
  | []=>true
  | c::cs=>match pfS c with
   | true=>pfs cs
   | false=>false
theorem zd7:∀{cs:List SV},pfS.pfs cs=true->∀(j:Nat) (s:SV),cs[j]? =some s->pfS s=true
 | [],_,j,s,hj=>by simp at hj
 | c::cs,h,j,s,hj=>by
  unfold pfS.pfs at h
  split at h
  ·rename_i hc
   cases j with
   | zero=>cases hj;exact hc
   | succ j=>exact zd7 h j s (by simpa using hj)
  ·cases h
theorem G.pf {S S' Pm Pm':Nat->Prop} {ρ:zi} {w w':World} (hz:w.heap.size<=w'.heap.size)
  (hS:∀b,b < w.heap.size->¬S b->¬S' b/\w'.heap[b]? =w.heap[b]?) {s:SV} {v:Value} (h:G S Pm ρ w s v) (hp:pfS s=true):G S' Pm' ρ w' s v:=by
 induction h with
 | d s v h=>exact .d s v (h.mono hz hS)
 | loc k off b h=>exact .loc k off b h
 | own k v h h1=>exact .own k v h h1
 | eloc k sz i off b len cap h=>exact .eloc k sz i off b len cap h
 | win k sz lo n b len cap cap' h h1 h2=>exact .win k sz lo n b len cap cap' h h1 h2
 | ptr cs b o c hb hP' hc h=>cases hp
 | agg cs vs hl h ih=>exact .agg cs vs hl fun j s v hs hv=>ih j s v hs hv (zd7 hp j s hs)
 | tup cs vs hl h ih=>exact .tup cs vs hl fun j s v hs hv=>ih j s v hs hv (zd7 hp j s hs)
 | fn f cs vs hl h ih=>exact .fn f cs vs hl fun j s v hs hv=>ih j s v hs hv (zd7 hp j s hs)
 | ifc t s v h ih=>exact .ifc t s v (ih hp)
theorem G.low{S Pm:Nat->Prop}{ρ ρ':zi}{w:World}{n:Nat}(hρ:∀k v,k < n->ρ k=some v->ρ' k=some v){s:SV}{v:Value}(h:G S Pm ρ w s v)(hl:vh n s=true):G S Pm ρ' w s v:=by
 induction h with
 | d s v h=>exact .d s v h
 | loc k off b h=>exact .loc k off b (hρ _ _ (by unfold vh at hl;exact Nat.blt_eq ▸ hl) h)
 | own k v h h1=>exact .own k v (hρ _ _ (by unfold vh at hl;exact Nat.blt_eq ▸ hl) h) h1
 | eloc k sz i off b len cap h=>exact .eloc k sz i off b len cap (hρ _ _ (by unfold vh at hl;exact Nat.blt_eq ▸ hl) h)
 | win k sz lo n b len cap cap' h h1 h2=>exact .win k sz lo n b len cap cap' (hρ _ _ (by unfold vh at hl;exact Nat.blt_eq ▸ hl) h) h1 h2
 | ptr cs b o c hb hP' hc h=>exact .ptr cs b o c hb hP' hc h
 | agg cs vs hl' h ih=>exact .agg cs vs hl' fun j s v hs hv=>ih j s v hs hv (zax hl j s hs)
 | tup cs vs hl' h ih=>exact .tup cs vs hl' fun j s v hs hv=>ih j s v hs hv (zax hl j s hs)
 | fn f cs vs hl' h ih=>exact .fn f cs vs hl' fun j s v hs hv=>ih j s v hs hv (zax hl j s hs)
 | ifc t s v h ih=>exact .ifc t s v (ih (by unfold vh at hl;exact hl))
def pfM:Mem->Prop
 | .box _ cs=>pfS.pfs cs=true
 | .arr _ _ _ _=>True
 | .garr _ _ xs=>∀x∈xs,pfS.pfs x=true
 | .map _=>True
def zjj(M:List (Nat×Mem)):Prop:=∀k m,(k,m)∈M->pfM m
theorem jC.pf{S S' Pm Pm':Nat->Prop}{ρ:zi}{w:World}{k:Nat}{m:Mem}(hS:∀b,S' b->S b)(hp:pfM m)(h:jC S Pm ρ w k m):jC S' Pm' ρ w k m:=by
 have hS':∀b,b < w.heap.size->¬S b->¬S' b/\w.heap[b]? =w.heap[b]? :=fun b _ hn=>⟨fun k=>hn (hS b k),rfl⟩
 cases m with
 | box T cs=>
  obtain ⟨b,vs,h1,h2,h3,h4,h5⟩:=h;exact ⟨b,vs,h1,h2,h3,h4,fun j s v hs' hv=>(h5 j s v hs' hv).pf (Nat.le_refl _) hS' (zd7 hp j s hs')⟩
 | arr T enc sz xs=>
  obtain ⟨v,cells,h1,h2,h3,h4,h5,h6⟩:=h;refine ⟨v,cells,h1,h2,h3,h4,h5,fun i j x s hx hj=>?_⟩;obtain ⟨u,hu,hd⟩:=h6 i j x s hx hj;exact ⟨u,hu,hd.less hS⟩
 | garr T sz xs=>
  obtain ⟨v,cells,h1,h2,h3,h4,h5,h6⟩:=h;refine ⟨v,cells,h1,h2,h3,h4,h5,fun i j x s hx hj=>?_⟩;obtain ⟨u,hu,hd⟩:=h6 i j x s hx hj;exact ⟨u,hu,hd.pf (Nat.le_refl _) hS' (zd7 (hp x (List.mem_of_getElem? hx)) j s hj)⟩
 | map es=>
  obtain ⟨r,ents,clock,h1,h2,h3,h4⟩:=h;refine ⟨r,ents,clock,h1,h2,h3,fun i n s hi=>?_⟩;obtain ⟨e,g1,g2,g3⟩:=h4 i n s hi;exact ⟨e,g1,g2,g3.less hS⟩
structure Mv (S S':Nat->Prop) (w w':World):Prop extends Stp S S' (fun _=>none) (fun _=>none) w w' where
 gl:∀g v,GL g v->w.cell? ⟨g,0,none⟩=some v->w'.cell? ⟨g,0,none⟩=some v
theorem zJ.other {K T T':Nat->Prop} {M:List (Nat×Mem)} {ρ:zi} {w w':World} (h:zJ (fun b=>K b∨T b) M ρ w) (hp:zjj M) (hmv:Mv T T' w w')
  (hd:∀b,T' b->¬Own M ρ b/\b < w'.heap.size):zJ (fun b=>K b∨T' b) M ρ w':=by
 have hno:∀b,Own M ρ b->¬T b:=fun b hb ht=>(h.old b hb).2 (.inr ht)
 have hs:Stp (fun b=>Own M ρ b∨T b) (fun b=>Own M ρ b∨T' b) ρ ρ w w':=
  ⟨hmv.os,hmv.tape,hmv.output,hmv.size,fun b hb hn=>hmv.block b hb fun ht=>hn (.inr ht),fun b hb=>hb.elim (fun h=>.inl (.inl h)) fun ht=>(hmv.own b ht).imp .inr id,fun _ _ h=>h⟩
 refine ⟨fun k m hk=>?_,h.keys,h.apart,fun b hb=>⟨Nat.lt_of_lt_of_le (h.old b hb).1 hmv.size,fun hk=>hk.elim (fun k=>(h.old b hb).2 (.inl k)) fun ht=>(hd b ht).1 hb⟩,fun b hb=>hb.elim (fun k=>Nat.lt_of_lt_of_le (h.kp b (.inl k)) hmv.size) fun ht=>(hd b ht).2,fun g v hg=>⟨(h.gl g v hg).1,hmv.gl g v hg (h.glc hg)⟩⟩
 have h1:jC (fun b=>K b∨(Own M ρ b∨T b)) (fun b=>Own M ρ b∨T b) ρ w k m:=
  (h.rel k m hk).pf (fun b hb=>hb.elim (fun k=>.inl (.inl k)) fun h=>h.elim .inr fun ht=>.inl (.inr ht)) (hp k m hk)
 have h2:=h1.keep hs rfl (fun v b hv hb=>hmv.block b (h.old b ⟨k,m,v,hk,hv,hb⟩).1 (hno b ⟨k,m,v,hk,hv,hb⟩));exact h2.pf (fun b hb=>hb.elim (fun h=>h.elim .inl fun ht=>.inr (.inr ht)) fun h=>.inr (.inl h)) (hp k m hk)
theorem zJ.few{K K':Nat->Prop}{M:List (Nat×Mem)}{ρ:zi}{w:World}(h:zJ K M ρ w)(hp:zjj M)(hk:∀b,K' b->K b):zJ K' M ρ w:=
 ⟨fun k m hm=>(h.rel k m hm).pf (fun _ hb=>hb.imp (hk _) id) (hp k m hm),h.keys,h.apart,fun b hb=>⟨(h.old b hb).1,fun k=>(h.old b hb).2 (hk b k)⟩,fun b hb=>h.kp b (hk b hb),h.gl⟩
def Ds(S:Nat->Prop)(w:World)(cs:List SV)(vs:List Value):Prop:=
 vs.length=cs.length/\∀(j:Nat) (s:SV) (v:Value),cs[j]? =some s->vs[j]? =some v->D S w s v
def zk7(P:Program)(f:FuncId)(caps:List SV){α:Type}(enc:α->List SV)(xs:List α):Prop:=
 zbn P f/\∀(SA:Nat->Prop) (w:World) (vs:List Value) (l:Nat) (J:Nat->(Nat->Prop)->(Nat->Prop)->World->Prop) (Jx:(Nat->Prop)->(Nat->Prop)->World->Prop),
  (∀b,SA b->b < w.heap.size)->(∀g v,GL g v->w.cell? ⟨g,0,none⟩=some v)->Ds SA w caps vs->
  (∀i SA SB SB' W W',J i SA SB W->Mv SB SB' W W'->(∀b,SB' b->¬SA b/\b < W'.heap.size)->J i SA SB' W')->
  (∀SA SB SB' W W',Jx SA SB W->Mv SB SB' W W'->(∀b,SB' b->¬SA b/\b < W'.heap.size)->Jx SA SB' W')->
  (∀i x SA SB W args,xs[i]? =some x->J i SA SB W->(∀b,SA b->b < W.heap.size)->(∀b,SB b->¬SA b/\b < W.heap.size)->Ds (fun b=>SA b∨SB b) W (enc x) args->
   YieldAt Fence.wide 0 P l (List.toArray args) W fun e W'=>∃SA':Nat->Prop,Mv SA SA' W W'/\(∀b,SA' b->¬SB b/\b < W'.heap.size)/\
    ((e=.returned (.bool true)/\J (i+1) SA' SB W')∨(e=.returned (.bool false)/\Jx SA' SB W')))->
  J 0 SA (fun _=>False) w->
  CallsIn Fence.wide 0 P f (List.toArray (.func (.yield l) #[] #[]::vs)) w fun e W'=>(∃v,e=.returned v)/\∃SA' SB',J xs.length SA' SB' W'∨Jx SA' SB' W'
def zwR:List Nat->List SV->List (Nat×SV)->List (Nat×SV)
 | p::ps,e::es,L=>(p,e)::zwR ps es L
 | _,_,L=>L
def zcf(l:List (Nat×Value))(A:Array Value):Array Value:=l.foldl (fun tm p=>tm.setIfInBounds p.1 p.2) A
theorem zhi:∀(l:List (Nat×Value)) (A:Array Value),(zcf l A).size=A.size
 | [],_=>rfl
 | p::l,A=>by unfold zcf;rw [List.foldl_cons];exact (zhi l _).trans (by simp)
theorem zcg:∀(l:List (Nat×Value)) (A:Array Value) (t:Nat),(∀p∈l,p.1≠t)->(zcf l A).getD t undef=A.getD t undef
 | [],_,_,_=>rfl
 | p::l,A,t,h=>by
  unfold zcf;rw [List.foldl_cons];refine (zcg l _ t fun q hq=>h q (.tail _ hq)).trans ?_;rw [Array.getD_eq_getD_getElem?,Array.getElem?_setIfInBounds_ne (h p (.head _)),← Array.getD_eq_getD_getElem?]
theorem zk8:∀(l:List (Nat×Value)) (A:Array Value),(l.map Prod.fst).Nodup->∀(j:Nat) (t:Nat) (v:Value),l[j]? =some (t,v)->t < A.size->(zcf l A).getD t undef=v
 | [],_,_,j,t,v,h,_=>by simp at h
 | p::l,A,hn,j,t,v,h,ht=>by
  rw [List.map_cons,List.nodup_cons] at hn;unfold zcf;rw [List.foldl_cons]
  cases j with
  | zero=>
   cases h
   refine (zcg l _ t fun q hq e=>hn.1 (by rw [List.mem_map];exact ⟨q,hq,e⟩)).trans ?_;simp [Array.getD_eq_getD_getElem?,ht]
  | succ j=>exact zk8 l _ hn.2 j t v (by simpa using h) (by simpa using ht)
theorem zk9:∀(ps:List Nat) (es:List SV) (L:List (Nat×SV)) (t:Nat) (s:SV),ps.length=es.length->kM (zwR ps es L) t=some s->
  (∃j:Nat,ps[j]? =some t/\es[j]? =some s)∨((∀p∈ps,p≠t)/\kM L t=some s)
 | [],[],L,t,s,_,h=>.inr ⟨fun _ hp=>(by cases hp),h⟩
 | [],_::_,_,_,_,hl,_=>by cases hl
 | _::_,[],_,_,_,hl,_=>by cases hl
 | p::ps,e::es,L,t,s,hl,h=>by
  unfold zwR at h;rw [kw] at h
  by_cases hp:p=t
  ·rw [if_pos hp] at h
   cases h
   exact .inl ⟨0,by rw [hp];rfl,rfl⟩
  ·rw [if_neg hp] at h
   rcases zk9 ps es L t s (by simpa using hl) h with ⟨j,h1,h2⟩ | ⟨h1,h2⟩
   ·exact .inl ⟨j+1,h1,h2⟩
   ·exact .inr ⟨fun q hq=>by cases hq with
     | head=>exact hp
     | tail _ hq=>exact h1 q hq,h2⟩
def pfL(m:Nat):List (Nat×SV)->Bool
 | []=>true
 | (_,s)::r=>match pfS s with
  |true=>(match vh m s with
   | true=>pfL m r
   | false=>false)
  | false=>false
theorem zmK{m:Nat}:∀{L:List (Nat×SV)} {t:Nat} {s:SV},pfL m L=true->kM L t=some s->pfS s=true/\vh m s=true
 | [],_,_,_,h=>by cases h
 | (k,s0)::r,t,s,h,hl=>by
  unfold pfL at h
  split at h
  ·rename_i h1
   split at h
   ·rename_i h2;rw [kw] at hl
    by_cases e:k=t
    ·rw [if_pos e] at hl;cases hl;exact ⟨h1,h2⟩
    ·rw [if_neg e] at hl;exact zmK h hl
   ·cases h
  ·cases h
def zsa(n:Nat):List Nat->Bool
 | []=>true
 | p::r=>match Nat.blt p n with
  | true=>zsa n r
  | false=>false
theorem zla{n:Nat}:∀{l:List Nat},zsa n l=true->∀p∈l,p < n
 | [],_,_,h=>by cases h
 | q::r,h,p,hp=>by
  unfold zsa at h
  split at h
  ·rename_i h1
   cases hp with
   | head=>exact Nat.blt_eq ▸ h1
   | tail _ hp=>exact zla h p hp
  ·cases h
def zsb(P:Program)(Γ:List (TypeId×TI))(f:FuncId)(caps:List SV)(ps:List Nat)(assign body:Code)(σ:St)(Q:Ex->St->Prop):Prop:=
 ∃(β:Type) (enc:β->List SV) (ys:List β) (m:Nat) (L:List (Nat×SV)) (S:Nat->List (Nat×Mem)) (nk:Nat->Nat),
  zk7 P f caps enc ys/\(∀y,(enc y).length=ps.length)/\(zcD ps=true/\zsa σ.nt ps=true/\uF assign=true/\uF body=true)/\
  Sub σ ⟨L,S 0,nk 0,σ.nt,σ.n0⟩/\(σ.n0<=m/\pfL m L=true)/\(∀j,zjj (S j))/\
  (∀j y,ys[j]? =some y->jJ P Γ assign ⟨zwR ps (enc y) L,S j,nk j,σ.nt,m⟩ fun e σ1=>match e with
   | .normal=>jJ P Γ body σ1 fun e σ2=>match e with
    | .normal=>Sub σ2 ⟨[],S (j+1),nk (j+1),σ.nt,m⟩
    | .exit id=>∃M' nk',Sub σ2 ⟨[],M',nk',σ.nt,m⟩/\zjj M'/\Q (.exit id) ⟨L,M',nk',σ.nt,σ.n0⟩
    | .ret=>∃M' nk',Sub σ2 ⟨[],M',nk',σ.nt,m⟩/\zjj M'/\Q .ret ⟨L,M',nk',σ.nt,σ.n0⟩
   | _=>False)/\
  Q .normal ⟨L,S ys.length,nk ys.length,σ.nt,σ.n0⟩
structure RR (E E':Env) (σ:St) (ρ:zi) (a:Act) (w:World):Prop where
 rel:Rel E' σ ρ a w
 rho:E'.ρ0=E.ρ0
 kp:∀b,E.Keep b->E'.Keep b
 stp:Stp E.W0 (Own σ.M ρ) E.ρ0 ρ E.w0 w
 marks:∀d∈E'.ds,∃D,d={ target:=.collected D,args:=#[] }/\E'.Keep D/\E.w0.heap.size<=D/\w.heap[D]? =some (.deferred (some []))
 apart:E'.ds.Pairwise fun d e=>∀D D',d.target=.collected D->e.target=.collected D'->D≠D'
theorem RR.next{E E':Env}{σ σ':St}{ρ ρ':zi}{a a':Act}{w w':World}(h:RR E E' σ ρ a w)(h':Rel ⟨w,E'.ρ0,E'.Keep,Own σ.M ρ,E'.ds⟩ σ' ρ' a' w'):
  RR E ⟨w,E'.ρ0,E'.Keep,Own σ.M ρ,E'.ds⟩ σ' ρ' a' w':=by
 have hs:=h'.stp;refine ⟨h',h.rho,h.kp,⟨hs.os.trans h.stp.os,hs.tape.trans h.stp.tape,h.stp.output.trans hs.output,Nat.le_trans h.stp.size hs.size,fun b hb hn=>?_,fun b hb=>?_,fun k v hk=>?_⟩,fun d hd=>?_,h.apart⟩
 ·refine (hs.block b (Nat.lt_of_lt_of_le hb h.stp.size) fun ho=>?_).trans (h.stp.block b hb hn);exact (h.stp.own b ho).elim hn fun hge=>oM
 ·exact (hs.own b hb).elim (h.stp.own b) fun hge=>.inr (Nat.le_trans h.stp.size hge)
 ·have:E'.ρ0 k=some v:=by rw [h.rho];exact hk
  exact hs.rho k v this
 ·obtain ⟨D,e,hk,hge,hh⟩:=h.marks d hd;exact ⟨D,e,hk,hge,(hs.block D (h.rel.mem.kp D hk) fun ho=>(h.rel.mem.old D ho).2 hk).trans hh⟩
def zjk(E:Env)(Q:Ex->St->Prop):Exit->Act->World->Prop
 | .normal,a,w=>∃E' σ ρ,Q .normal σ/\RR E E' σ ρ a w
 | .exit id,a,w=>∃E' σ ρ,Q (.exit id) σ/\RR E E' σ ρ a w
 | .ret,a,w=>∃E' σ ρ,Q .ret σ/\RR E E' σ ρ a w
 | _,_,_=>False
theorem zjk.of {E E':Env} {σ:St} {ρ:zi} {a:Act} {w:World} (h:RR E E' σ ρ a w) {Q:Ex->St->Prop} {e:Exit} {a':Act} {w':World}
  (hp:uz ⟨w,E'.ρ0,E'.Keep,Own σ.M ρ,E'.ds⟩ Q e a' w'):zjk E Q e a' w':=by
 cases e with
 | normal=>obtain ⟨σ',ρ',hq,hr⟩:=hp;exact ⟨_,σ',ρ',hq,h.next hr⟩
 | exit id=>obtain ⟨σ',ρ',hq,hr⟩:=hp;exact ⟨_,σ',ρ',hq,h.next hr⟩
 | ret=>obtain ⟨σ',ρ',hq,hr⟩:=hp;exact ⟨_,σ',ρ',hq,h.next hr⟩
 | _=>exact hp
end Go.Gs
