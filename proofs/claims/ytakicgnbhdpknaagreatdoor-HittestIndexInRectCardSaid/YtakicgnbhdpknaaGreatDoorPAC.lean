/- What is zaZ stays zaZ; one operation carried out. -/
import Derived.Test.YtakicgnbhdpknaaGreatDoorPAB
import Derived.Laws.Rows
import Derived.Laws.Tables
import Derived.RowKit3
import Derived.Laws.StructEq
import Derived.Laws.MakeOwn
import Derived.Laws.Slices
import Derived.Laws.BitsLemmas
import Derived.Laws.Small
import Derived.ChangeKeysEq
set_option maxRecDepth 100000
set_option maxHeartbeats 8000000
set_option linter.all false
namespace Go.Gs
def zh1{w w':World}{b o:Nat}(h:w'.heap[b]?=w.heap[b]?):w'.cell? ⟨b,o,none⟩=w.cell? ⟨b,o,none⟩:=by
 simp only[World.cell?,h]
def D.mono{S S':LI}{w w':World}(A:w.heap.size<=w'.heap.size)(hS:∀b,b<w.heap.size->¬S b->¬S' b/\w'.heap[b]?=w.heap[b]?){s:SV}{v:Value}(h:D S w s v):D S' w' s v:=by
 induction h with
 |val v=>exact .val v
 |pr p i=>exact .pr p i
 |agg cs vs l h d=>exact .agg cs vs l d
 |nil enc a=>exact .nil enc a
 |nils a=>exact .nils a
 |anyb b=>exact .anyb b
 |junk v=>exact .junk v
 |full enc xs a h d=>exact .full enc xs a d
 |sl enc xs sz b o cap c g hS' n k z x h d=>
  obtain⟨q,r⟩:=hS b g hS';exact .sl enc xs sz b o cap c (Xx g A) q n k z (λi j hi y=>by rw[zh1 r];exact x i j hi y) d
 |dptr cs b o c g hS' x h d=>
  obtain⟨q,r⟩:=hS b g hS';exact .dptr cs b o c (Xx g A) q (λj y=>by rw[zh1 r];exact x j y) d
 |dfn f cs vs l h d=>exact .dfn f cs vs l d
 |bm f cs vs l h d=>exact .bm f cs vs l d
 |op v h=>exact .op v h
 |ifc t s v h d=>exact .ifc t s v d
def G.mono{S S' Pm Pm':LI}{O O':zh}{w w':World}(q:w.heap.size<=w'.heap.size)(hS:∀b,b<w.heap.size->¬S b->¬S' b/\w'.heap[b]?=w.heap[b]?)(hP:∀b,b<w.heap.size->¬Pm b->¬Pm' b/\w'.heap[b]?=w.heap[b]?)(hρ:∀k v,O k=some v->O' k=some v){s:SV}{v:Value}(h:G S Pm O w s v):G S' Pm' O' w' s v:=by
 induction h with
 |d s v h=>exact .d s v (h.mono q hS)
 |loc k off b h=>exact .loc k off b (hρ _ _ h)
 |own k v h g=>exact .own k v (hρ _ _ h) g
 |eloc k sz i off b len cap h=>exact .eloc k sz i off b len cap (hρ _ _ h)
 |win k sz lo n b len cap cap' h g p=>exact .win k sz lo n b len cap cap' (hρ _ _ h) g p
 |ptr cs b o c r hP' x h=>
  obtain⟨g,p⟩:=hP b r hP';exact .ptr cs b o c (Xx r q) g (λj y=>by rw[zh1 p];exact x j y) (λj s z=>(h j s z).mono q hS)
 |agg cs vs l h a=>exact .agg cs vs l a
 |tup cs vs l h a=>exact .tup cs vs l a
 |fn f cs vs l h a=>exact .fn f cs vs l a
 |ifc t s v h a=>exact .ifc t s v a
def kR.refl(w:World):kR w w:=⟨rfl,λ_=>rfl⟩
def kR.trans{w w' w'':World}(h:kR w w')(k:kR w' w''):kR w w'':=⟨k.1.trans h.1,λa=>(k.2 a).trans (h.2 a)⟩
def kR.cells(w:World)(c:Array Value)(t:TypeId):kR w (w.alloc (.cells c t)):=⟨rfl,λa=>RowKit.frozen?_alloc_cells w c t a⟩
def kR.setRow(w:World)(g:Nat)(cs:Array Value):kR w (w.setRow g cs):=⟨rfl,λa=>by
 show World.frozen? { w with heap:=w.heap.modify g _ } a=_;unfold World.frozen?;simp only[Jz]
 by_cases h:g=a.block
 .simp only[h,if_true]
  cases w.heap[a.block]? with
  |none=>rfl
  |some o=>cases o <;> rfl
 simp only[h,if_false]⟩
def Stp.refl{W:LI}{O:zh}{w:World}:Stp W W O O w w:=⟨rfl,rfl,.refl _,Xj _,λ_ _ _=>rfl,λ_ h=>.inl h,λ_ _ h=>h⟩
def Stp.trans{W W' W'':LI}{O O' O'':zh}{w w' w'':World}(h:Stp W W' O O' w w')(k:Stp W' W'' O' O'' w' w''):Stp W W'' O O'' w w'':=
 ⟨k.os.trans h.os,k.tape.trans h.tape,h.output.trans k.output,XB h.size k.size,
  λb a d=>(k.block b (Xx a h.size) (λj=>(h.own b j).elim d (λc=>by omega))).trans (h.block b a d),
  λb a=>(k.own b a).elim (h.own b) (λc=>.inr (XB h.size c)),λk' v g=>k.rho _ _ (h.rho _ _ g)⟩
def G.stp{Keep W W':LI}{O O':zh}{w w':World}(h:Stp W W' O O' w w'){s:SV}{v:Value}(k:G (λb=>Keep b∨W b) W O w s v):G (λb=>Keep b∨W' b) W' O' w' s v:=
 k.mono h.size (λb d c=>⟨λa=>a.elim (λl=>c (.inl l)) (λa=>(h.own b a).elim (λg=>c (.inr g)) (λj=>by omega)),h.block b d (λa=>c (.inr a))⟩)
  (λb d c=>⟨λa=>(h.own b a).elim c (λj=>by omega),h.block b d c⟩) h.rho
def D.stp{Keep W W':LI}{O O':zh}{w w':World}(h:Stp W W' O O' w w'){s:SV}{v:Value}(j:D (λb=>Keep b∨W b) w s v):D (λb=>Keep b∨W' b) w' s v:=
 j.mono h.size (λb g c=>⟨λa=>a.elim (λk=>c (.inl k)) (λa=>(h.own b a).elim (λd=>c (.inr d)) (λl=>by omega)),h.block b g (λa=>c (.inr a))⟩)
def qM(P:Program)(o:Oper)(a:Act)(w:World)(R:Value->World->Prop):Prop:=
 o.wp P a w (λc w'=>∃v,c=a.put o.dst v/\R v w') (λ_ _ _=>False)
def qM.value{P:Program}{o:Oper}{a:Act}{w w':World}{R:Value->World->Prop}{v:Value}(h:(execOp a.eval o).run P w=.ok (.value v) w')(c:R v w'):qM P o a w R:=by
 unfold qM Oper.wp;rw[h];exact⟨v,rfl,c⟩
def qM.skip{P:Program}{o:Oper}{a:Act}{w w':World}{R:Value->World->Prop}(h:(execOp a.eval o).run P w=.ok .skip w')(c:R undef w'):qM P o a w R:=by
 unfold qM Oper.wp;rw[h];exact⟨undef,rfl,c⟩
def qM.call{P:Program}{o:Oper}{a:Act}{w w':World}{R:Value->World->Prop}{f:FuncId}{args:Array Value}(h:(execOp a.eval o).run P w=.ok (.enter f args) w')(c:Calls P f args w' λe w''=>∃v,e=.returned v/\R v w''):qM P o a w R:=by
 unfold qM Oper.wp;rw[h];refine c.mono ?_
 rintro e w'' ⟨v,rfl,d⟩
 exact⟨v,rfl,d⟩
def qM.wp{P:Program}{o:Oper}{a:Act}{w:World}{R:Value->World->Prop}{K:LG}{Q:LF}(h:qM P o a w R)(j:∀v w',R v w'->K (a.put o.dst v) w'):o.wp P a w K Q:=by
 unfold qM Oper.wp at*;generalize (execOp a.eval o).run P w=r at*
 cases r with
 |ok n w'=>
  cases n <;> simp only[Oper.upon]at h ⊢
  case value v=>obtain⟨u,e,g⟩:=h;rw[e];exact j u w' g
  case skip=>obtain⟨u,e,g⟩:=h;rw[e];exact j u w' g
  case defer d=>obtain⟨u,e,g⟩:=h;rw[e];exact j u w' g
  case enter f args=>
   refine Calls.mono h λe w'' k=>?_
   cases e with
   |returned v=>obtain⟨u,e,g⟩:=k;show K (a.put o.dst v) w'';rw[e];exact j u w'' g
   |panicked c=>exact k.elim
   |outgrown=>obtain⟨_,_,l⟩:=k;exact l.elim
  case row row args=>
   exact Rows.mono h (λv w' ⟨u,e,g⟩=>by show K (a.put o.dst v) w';rw[e];exact j u w' g)
 |halt x w'=>cases x <;> simp only[Oper.upon]at h
def qc(Keep:LI)(M:LT)(O:zh)(w:World)(Y:Nat)(s:SV)(a:MD)(v:Value)(w':World):Prop:=
 ∃O',Stp (Own M O) (Own (zdD M Y a) O') O O' w w'/\zJ Keep (zdD M Y a) O' w'/\
  G (λb=>Keep b∨Own (zdD M Y a) O' b) (Own (zdD M Y a) O') O' w' s v/\∀k,(k<Y∨zb5 Y a<=k)->O' k=O k
def zyY:MD->Bool
 |.push _=>true
 |.repl _ _=>true
 |_=>false
def yU(P:Program)(op:Op)(d:LR)(g:LJ)(Y:Nat)(s:SV)(c:MD):Prop:=
 ∀(o:Oper),o.op=op->∀(Keep:LI) (M:LT) (O:zh) (a:Act) (w:World),
  (∀k m,g k=some m->zW M k=some m)->zJ Keep M O w->(∀k,Y<=k->k<zb5 Y c->O k=none)->(zyY c=true->∀m,(Y,m)∉M)->
  Gs (λb=>Keep b∨Own M O b) (Own M O) O w d ((qi op).map a.eval)->qM P o a w (qc Keep M O w Y s c)
def zA{M:LT}{k:Nat}{m:Mem}(h:zW M k=some m):(k,m)∈M:=by
 induction M with
 |nil=>simp[zW]at h
 |cons x r c=>
  obtain⟨k',d⟩:=x;simp only[zW]at h
  split at h
  .rename_i a;have:=Xk a
   cases h;subst this;exact .head _
  exact .tail _ (c h)
def qc.same{Keep:LI}{M:LT}{O:zh}{w:World}{Y:Nat}{s:SV}{v:Value}(c:zJ Keep M O w)(a:G (λb=>Keep b∨Own M O b) (Own M O) O w s v):qc Keep M O w Y s .none v w:=
 ⟨O,.refl,c,a,λ_ _=>rfl⟩
section inv
variable{S Pm:LI}{O:zh}{w:World}
section
variable{u:Value}
def D.val_inv{v:Value}(h:D S w (.val v) u):u=v:=by cases h;rfl
def G.val_inv{v u:Value}(h:G S Pm O w (.val v) u):u=v:=by cases h with|d _ _ h=>exact h.val_inv
def G.pr_inv{p:Prop}{i:Decidable p}(h:G S Pm O w (.pr p i) u):u=.bool (@decide p i):=by
 cases h with|d _ _ h=>cases h;rfl
variable{off:Nat}
def G.loc_inv{k:Nat}(h:G S Pm O w (.loc k off) u):∃b,O k=some (.pointer (some ⟨b,0,none⟩))/\u=.pointer (some ⟨b,off,none⟩):=by
 cases h with
 |d _ _ h=>cases h
 |loc _ _ b h=>exact⟨b,h,rfl⟩
def G.own_inv{k:Nat}(h:G S Pm O w (.own k) u):O k=some u/\u.oneCell'=true:=by
 cases h with
 |d _ _ h=>cases h
 |own _ _ h a=>exact⟨h,a⟩
variable{sz:Nat}
def G.eloc_inv{k:Nat}{i:Int}(h:G S Pm O w (.eloc k sz i off) u):
  ∃b len cap,O k=some (.slice (some ⟨b,0,none⟩) len cap)/\u=.pointer (some ⟨b,i.toNat*sz+off,none⟩):=by
 cases h with
 |d _ _ h=>cases h
 |eloc _ _ _ _ b len cap h=>exact⟨b,len,cap,h,rfl⟩
def G.win_inv{k:Nat}{lo n:Int}(h:G S Pm O w (.win k sz lo n) u):
  ∃b len cap cap',O k=some (.slice (some ⟨b,0,none⟩) len cap)/\u=.slice (some ⟨b,lo.toNat*sz,none⟩) n.toNat cap'/\lo.toNat+n.toNat<=len/\n.toNat<=cap':=by
 cases h with
 |d _ _ h=>cases h
 |win _ _ _ _ b len cap cap' h a c=>exact⟨b,len,cap,cap',h,rfl,a,c⟩
variable{cs:LR}
def G.ptr_inv(h:G S Pm O w (.ptr cs) u):∃b o,∃c:Nat->Value,u=.pointer (some ⟨b,o,none⟩)/\b<w.heap.size/\¬Pm b/\
  (∀j,j<cs.length->w.cell? ⟨b,o+j,none⟩=some (c j)/\(c j).oneCell'=true)/\∀(j:Nat) (s:SV),cs[j]?=some s->D S w s (c j):=by
 cases h with
 |d _ _ h=>cases h
 |ptr _ b o c a hP g h=>exact⟨b,o,c,rfl,a,hP,g,h⟩
def G.dptr_inv(h:G S Pm O w (.dptr cs) u):∃b o,∃c:Nat->Value,u=.pointer (some ⟨b,o,none⟩)/\b<w.heap.size/\¬S b/\
  (∀j,j<cs.length->w.cell? ⟨b,o+j,none⟩=some (c j)/\(c j).oneCell'=true)/\∀(j:Nat) (s:SV),cs[j]?=some s->D S w s (c j):=by
 cases h with
 |d _ _ h=>cases h with|dptr _ b o c a hS g h=>exact⟨b,o,c,rfl,a,hS,g,h⟩
variable{f:FuncId}
def G.dfn_inv(h:G S Pm O w (.dfn f cs) u):∃vs:LA,u=.func (.func f) #[] vs.toArray/\Gs S Pm O w cs vs:=by
 cases h with
 |d _ _ h=>cases h with|dfn _ _ vs g h=>exact⟨vs,rfl,g,λj s v a c=>.d _ _ (h j s v a c)⟩
def G.bm_inv(h:G S Pm O w (.bm f cs) u):∃vs:LA,u=.func (.func f) vs.toArray #[]/\Gs S Pm O w cs vs:=by
 cases h with
 |d _ _ h=>cases h with|bm _ _ vs g h=>exact⟨vs,rfl,g,λj s v a c=>.d _ _ (h j s v a c)⟩
def G.op_inv{v:Value}(h:G S Pm O w (.op v) u):u=v/\ifB v=true:=by
 cases h with
 |d _ _ h=>cases h with|op _ h=>exact⟨rfl,h⟩
def G.ifc_inv{t:TypeId}{s:SV}(h:G S Pm O w (.ifc t s) u):∃v,u=.iface t v/\G S Pm O w s v:=by
 cases h with
 |d _ _ h=>cases h with|ifc _ _ v h=>exact⟨v,rfl,.d _ _ h⟩
 |ifc _ _ v h=>exact⟨v,rfl,h⟩
def G.agg_inv(h:G S Pm O w (.agg cs) u):∃vs:LA,u=.agg vs.toArray/\Gs S Pm O w cs vs:=by
 cases h with
 |d _ _ h=>cases h with|agg _ vs a h=>exact⟨vs,rfl,a,λj s v c g=>.d _ _ (h j s v c g)⟩
 |agg _ vs a h=>exact⟨vs,rfl,a,h⟩
def G.tup_inv(h:G S Pm O w (.tup cs) u):∃vs:LA,u=.tuple vs.toArray/\Gs S Pm O w cs vs:=by
 cases h with
 |d _ _ h=>cases h
 |tup _ vs a h=>exact⟨vs,rfl,a,h⟩
def G.fn_inv(h:G S Pm O w (.fn f cs) u):∃vs:LA,u=.func (.func f) #[] vs.toArray/\Gs S Pm O w cs vs:=by
 cases h with
 |d _ _ h=>cases h
 |fn _ _ vs a h=>exact⟨vs,rfl,a,h⟩
variable{α:Type}{xs:List α}
def G.sl_inv{enc:α->LR}(h:G S Pm O w (.sl enc xs) u):D S w (.sl enc xs) u:=by
 cases h with|d _ _ h=>exact h
def D.sl_inv{enc:α->LR}(h:D S w (.sl enc xs) u):
  (xs=[]/\∃a,u=.slice a 0 0)∨∃sz b o cap,∃c:Nat->Nat->Value,u=.slice (some ⟨b,o,none⟩) xs.length cap/\b<w.heap.size/\¬S b/\xs.length<=9223372036854775807/\xs.length<=cap/\
   (∀x∈xs,(enc x).length=sz)/\(∀i j,i<xs.length->j<sz->w.cell? ⟨b,o+i*sz+j,none⟩=some (c i j)/\(c i j).oneCell'=true)/\
   ∀(i j:Nat) (x:α) (s:SV),xs[i]?=some x->(enc x)[j]?=some s->D S w s (c i j):=by
 cases h with
 |nil _ a=>exact .inl ⟨rfl,a,rfl⟩
 |sl _ _ sz b o cap c l hS g d k n h=>exact .inr ⟨sz,b,o,cap,c,rfl,l,hS,g,d,k,n,h⟩
def G.nils_inv(h:G S Pm O w .nils u):∃a,u=.slice a 0 0:=by
 cases h with|d _ _ h=>cases h with|nils a=>exact⟨a,rfl⟩
def G.full_inv{enc:α->LR}(h:G S Pm O w (.full enc xs) u):∃a,u=.slice a xs.length xs.length/\D S w (.sl enc xs) u:=by
 cases h with|d _ _ h=>cases h with|full _ _ a h=>exact⟨a,rfl,h⟩
def G.anyb_inv(h:G S Pm O w .anyb u):∃b,u=.bool b:=by
 cases h with|d _ _ h=>cases h with|anyb b=>exact⟨b,rfl⟩
def Gs.nil:Gs S Pm O w [] []:=⟨rfl,λ_ _ _ h=>by simp at h⟩
variable{vs:LA}
def Gs.cons{s:SV}{v:Value}(h:G S Pm O w s v)(d:Gs S Pm O w cs vs):Gs S Pm O w (s::cs) (v::vs):=
 ⟨by simp[d.1],λj s' g a c=>by
  cases j with
  |zero=>simp at a c;subst a;subst c;exact h
  |succ j=>simp at a c;exact d.2 j s' g a c⟩
def Gs.head{s:SV}{v:Value}(h:Gs S Pm O w (s::cs) (v::vs)):G S Pm O w s v:=h.2 0 s v rfl rfl
def Gs.tail{s:SV}{v:Value}(h:Gs S Pm O w (s::cs) (v::vs)):Gs S Pm O w cs vs:=
 ⟨by simpa using h.1,λj s' d a c=>h.2 (j+1) s' d (by simpa using a) (by simpa using c)⟩
def Gs.cons_inv{s:SV}(h:Gs S Pm O w (s::cs) vs):∃v a,vs=v::a/\G S Pm O w s v/\Gs S Pm O w cs a:=by
 cases vs with
 |nil=>simp[Gs]at h
 |cons v vs=>exact⟨v,vs,rfl,h.head,h.tail⟩
def Gs.nil_inv(h:Gs S Pm O w [] vs):vs=[]:=by simpa[Gs] using h.1
def Gs.append{a:LR}{us:LA}(h:Gs S Pm O w cs vs)(k:Gs S Pm O w a us):Gs S Pm O w (cs++a) (vs++us):=by
 induction cs generalizing vs with
 |nil=>rw[h.nil_inv];exact k
 |cons s cs g=>obtain⟨v,j,rfl,c,d⟩:=h.cons_inv;exact .cons c (g d)
def Gs.drop{cs:LR}{vs:LA}(n:Nat)(h:Gs S Pm O w cs vs):Gs S Pm O w (cs.drop n) (vs.drop n):=
 ⟨by simp[h.1],λj s v a c=>h.2 (n+j) s v (by simpa using a) (by simpa using c)⟩
def Gs.take{cs:LR}{vs:LA}(n:Nat)(h:Gs S Pm O w cs vs):Gs S Pm O w (cs.take n) (vs.take n):=
 ⟨by simp[h.1],λj s v a c=>by
  rw[XK]at a c
  split at a
  .rename_i d;rw[Xe d]at c;exact h.2 j s v a c
  cases a⟩
def Gs.vals(l:LA):Gs S Pm O w (vals l) l:=
 ⟨by simp[Go.Gs.vals],λj s v a c=>by
  simp[Go.Gs.vals,c]at a;subst a;exact .d _ _ (.val v)⟩
def Gs.mono'{S' Pm':LI}{O':zh}{w':World}(h:Gs S Pm O w cs vs)(d:∀s v,G S Pm O w s v->G S' Pm' O' w' s v):Gs S' Pm' O' w' cs vs:=⟨h.1,λj s v a c=>d s v (h.2 j s v a c)⟩
end
end inv
def qO{s:SV}{K:SV->Prop}(h:vT s K):K s:=by
 cases s with
 |val v=>cases v with
  |bool b=>cases b <;> exact h
  |_=>exact h
 |_=>exact h
def zj{b:Bool}{K:Prop}(h:zR b K):b=true/\K:=by cases b <;> first|exact h.elim|exact⟨rfl,h⟩
def kr{a b:Bool}(h:yB a b=true):a=true/\b=true:=by cases a <;> simp_all[yB]
def zE{H:LS}{t:TypeId}{K:TI->Prop}(h:k7 H t K):∃i,ti H t=some i/\K i:=by
 unfold k7 at h;split at h
 .exact⟨_,‹_›,h⟩
 exact h.elim
def zf1(P:Program)(t:TypeId):TK->Prop
 |.int k=>P.underlying t=some (.int k)
 |.bool=>P.underlying t=some .bool
 |.str=>P.underlying t=some .string
 |.ptr e=>P.underlying t=some (.pointer e)
 |.slice e=>P.underlying t=some (.slice e)
 |.struct fs=>∃F,P.underlying t=some (.struct F)/\F.toList.map (λf=>(f.offset,f.type))=fs/\∃pl,F.toList.mapM (λf=>(P.info? f.type).map λi=>(f.offset,i.size))=some pl
 |.arr n e=>P.underlying t=some (.array n e)
 |.map k e=>P.underlying t=some (.map k e)
 |.iface=>∃ms,P.underlying t=some (.interface ms)
 |.other=>∃a b c,P.underlying t=some (.func a b c)
structure zjB (P:Program) (t:TypeId) (i:TI):Prop where
 inf:∃f,P.info? t=some f/\f.size=i.sz/\f.bytes=i.bytes/\∃z,f.zero=some z/\z.cells.toList=i.zero/\(i.kind.agg=false->z.cells=#[z])/\i.zero.length=i.sz/\
  ∀v∈i.zero,v.oneCell'=true
 kind:zf1 P t i.kind
 zagg:i.kind.agg=true->∃f,P.info? t=some f/\f.zero=some (.agg i.zero.toArray)
 cmp:i.cmp=true->P.stoodInHeld t=false/\P.eqGuardType P.depth t=false/\∀f∈(P.fieldsOf t).toList,f.name≠ "_"
def TOK(P:Program)(H:LS):Prop:=∀t i,ti H t=some i->zjB P t i
section types
variable{P:Program}{t:TypeId}{i:TI}
def zjB.size(h:zjB P t i)(w:World):(sizeOf t).run P w=.ok i.sz w:=by
 obtain⟨f,a,c,_⟩:=h.inf;simp[sizeOf,typeInfo,a,c]
def zjB.agg(h:zjB P t i)(w:World):(isAgg t).run P w=.ok i.kind.agg w:=by
 have d:=h.kind
 cases hi:i.kind <;> rw[hi]at d <;> simp only[zf1]at d
 case struct fs=>obtain⟨F,hF,_⟩:=d;simp[isAgg,run_underlying hF,TK.agg]
 case other=>obtain⟨a,b,c,g⟩:=d;simp[isAgg,run_underlying g,TK.agg]
 case iface=>obtain⟨ms,g⟩:=d;simp[isAgg,run_underlying g,TK.agg]
 all_goals simp[isAgg,run_underlying d,TK.agg]
def zjB.und(h:zjB P t i):∃d,P.underlying t=some d:=by
 have g:=h.kind
 cases hi:i.kind <;> rw[hi]at g <;> simp only[zf1]at g
 case struct fs=>exact⟨_,g.choose_spec.1⟩
 case other=>obtain⟨a,b,c,j⟩:=g;exact⟨_,j⟩
 case iface=>obtain⟨ms,j⟩:=g;exact⟨_,j⟩
 all_goals exact⟨_,g⟩
end types
section
variable{Keep:LI}{O:zh}{O':zh}{w':World}{m:Mem}
def jN.keep{W W':LI}{w:World}{k:Nat}(z:Stp W W' O O' w w')(y:O' k=O k)(q:∀v b,O k=some v->qf v=some b->w'.heap[b]?=w.heap[b]?)(h:jN (λb=>Keep b∨W b) W O w k m):jN (λb=>Keep b∨W' b) W' O' w' k m:=by
 cases m with
 |box T cs=>
  obtain⟨b,vs,a,c,l,o,p⟩:=h;exact⟨b,vs,y.trans a,(q _ b a rfl).trans c,l,o,λj s v G Q=>(p j s v G Q).stp z⟩
 |arr T enc sz xs=>
  obtain⟨v,cells,a,c,l,o,p,A⟩:=h;refine⟨v,cells,y.trans a,⟨c.1,?_⟩,l,o,p,λi j x s I F=>?_⟩
  .rcases c.2 with h|⟨g,cap,d,rfl,B,C,D⟩
   .exact .inl h
   exact .inr ⟨g,cap,d,rfl,B,(q _ g a rfl).trans C,D⟩
  obtain⟨u,H,E⟩:=A i j x s I F;exact⟨u,H,E.stp z⟩
 |garr T sz xs=>
  obtain⟨v,cells,a,c,l,o,p,A⟩:=h;refine⟨v,cells,y.trans a,⟨c.1,?_⟩,l,o,p,λi j x s I F=>?_⟩
  .rcases c.2 with h|⟨g,cap,d,rfl,B,C,D⟩
   .exact .inl h
   exact .inr ⟨g,cap,d,rfl,B,(q _ g a rfl).trans C,D⟩
  obtain⟨u,H,E⟩:=A i j x s I F;exact⟨u,H,E.stp z⟩
 |map R=>
  obtain⟨r,ents,clock,a,c,l,o⟩:=h;refine⟨r,ents,clock,y.trans a,(q _ r a rfl).trans c,l,λi n s hi=>?_⟩;obtain⟨e,J,L,N⟩:=o i n s hi;exact⟨e,J,L,N.stp z⟩
variable{M:LT}{M':LT}
def zJ.next{w:World}(Y:Nat)(s:zJ Keep M O w)(z:Stp (Own M O) (Own M' O') O O' w w')(hkeys:M'.Pairwise λa b=>a.1≠b.1)(hold:∀k m,(k,m)∈M'->k≠Y->(k,m)∈M/\O' k=O k/\∀v b,O k=some v->qf v=some b->w'.heap[b]?=w.heap[b]?)(hnew:∀m,(Y,m)∈M'->jN (λb=>Keep b∨Own M' O' b) (Own M' O') O' w' Y m)(l:∀m v b,(Y,m)∈M'->O' Y=some v->qf v=some b->
   (∀k m q,(k,m)∈M'->k≠Y->O k=some q->qf q≠some b)/\b<w'.heap.size/\¬Keep b):zJ Keep M' O' w' where
 rel k m r:=by
  by_cases g:k=Y
  .subst g;exact hnew m r
  obtain⟨h,j,d⟩:=hold k m r g;exact(s.rel k m h).keep z j d
 keys:=hkeys
 apart k m k' y v q b h j x C p n o:=by
  by_cases g:k=Y
  .subst g;have c:k'≠k:=Ne.symm x;obtain⟨_,d,_⟩:=hold k' y j c;exact(l m v b h C n).1 k' y q j c (d ▸ p) o
  by_cases c:k'=Y
  .subst c;obtain⟨_,d,_⟩:=hold k m h g;exact(l y q b j p o).1 k m v h g (d ▸ C) n
  obtain⟨d,A,_⟩:=hold k m h g;obtain⟨B,D,_⟩:=hold k' y j c;exact s.apart k m k' y v q b d B x (A ▸ C) (D ▸ p) n o
 old b n:=by
  obtain⟨k,m,v,h,j,d⟩:=n
  by_cases g:k=Y
  .subst g;exact(l m v b h j d).2
  obtain⟨A,B,_⟩:=hold k m h g;have:=s.old b ⟨k,m,v,A,B ▸ j,d⟩;exact⟨Xx this.1 z.size,this.2⟩
 kp b n:=Xx (s.kp b n) z.size
 gl:=s.glS z
def qj{k:Nat}(x:Nat×Mem)(h:x∈qb M k):x∈M:=by
 induction M with
 |nil=>exact h
 |cons y r a=>
  obtain⟨k',c⟩:=y;simp only[qb]at h
  split at h
  .exact .tail _ h
  cases h with
  |head=>exact .head _
  |tail _ h=>exact .tail _ (a h)
def vu{k:Nat}(d:M.Pairwise λa b=>a.1≠b.1)(x:Nat×Mem)(h:x∈qb M k):x.1≠k:=by
 induction M with
 |nil=>cases h
 |cons y r g=>
  obtain⟨k',j⟩:=y;rw[X4]at d;simp only[qb]at h
  split at h
  .rename_i c;have:=Xk c;subst this;exact λe=>d.1 x h e.symm
  rename_i c
  cases h with
  |head=>exact KM c
  |tail _ h=>exact g d.2 h
def qP{M:LT}{k:Nat}(c:M.Pairwise λa b=>a.1≠b.1):(qb M k).Pairwise λa b=>a.1≠b.1:=by
 induction M with
 |nil=>exact c
 |cons y r g=>
  obtain⟨k',h⟩:=y;rw[X4]at c;simp only[qb]
  split
  .exact c.2
  rw[X4];exact⟨λx d=>c.1 x (qj x d),g c.2⟩
def jO{k:Nat}(d:M.Pairwise λa b=>a.1≠b.1)(x:Nat×Mem)(h:x∈qN M k m):x.1≠k/\x∈M∨x=(k,m):=by
 induction M with
 |nil=>cases h
 |cons y r g=>
  obtain⟨k',j⟩:=y;rw[X4]at d;simp only[qN]at h
  split at h
  .rename_i c;have:=Xk c;subst this
   cases h with
   |head=>exact .inr rfl
   |tail _ h=>exact .inl ⟨λe=>d.1 x h e.symm,.tail _ h⟩
  rename_i c
  cases h with
  |head=>exact .inl ⟨KM c,.head _⟩
  |tail _ h=>exact(g d.2 h).imp (λh=>⟨h.1,.tail _ h.2⟩) id
def za9{k:Nat}:(qN M k m).map (·.1)=M.map (·.1):=by
 induction M with
 |nil=>rfl
 |cons y r c=>
  obtain⟨k',d⟩:=y;simp only[qN]
  split
  .rename_i a;have:=Xk a;subst this;rfl
  simp[c]
def yO(h:M'.map (·.1)=M.map (·.1))(d:M.Pairwise λa b=>a.1≠b.1):M'.Pairwise λa b=>a.1≠b.1:=by
 have c:(M.map (·.1)).Pairwise λa b=>a≠b:=QW.2 d
 rw[←h]at c;exact QW.1 c
variable{b:Nat}
def zav(h:M'.map (·.1)=M.map (·.1))(g:Own M O b):Own M' O b:=by
 obtain⟨k,m,v,a,c,d⟩:=g;have:k∈M'.map (·.1):=by rw[h];exact XN.2 ⟨_,a,rfl⟩
 obtain⟨⟨k',l⟩,j,rfl⟩:=XN.1 this;exact⟨_,l,v,j,c,d⟩
def zh2{k:Nat}(c:M.Pairwise λa b=>a.1≠b.1)(h:∀m,(k,m)∉M):((k,m)::M).Pairwise λa b=>a.1≠b.1:=
 X4.2 ⟨λx d e=>by obtain⟨k',g⟩:=x;have e:k=k':=e;subst e;exact h g d,c⟩
def upd(O:zh)(Y:Nat)(v:Value):zh:=λk=>if k=Y then some v else O k
variable{Y:Nat}
def kG{v:Value}:upd O Y v Y=some v:=by simp[upd]
def zf2{k:Nat}{v:Value}(h:k≠Y):upd O Y v k=O k:=by simp[upd,h]
def zJ.write{w:World}(g:zJ Keep M O w){k:Nat}(l:Mem)(q:(k,m)∈M){v:Value}(p:O k=some v)(o:qf v=some b)(cs:Array Value)(hrel:Stp (Own M O) (Own (qN M k l) O) O O w (w.setRow b cs)->jN (λb=>Keep b∨Own (qN M k l) O b) (Own (qN M k l) O) O (w.setRow b cs) k l):
  Stp (Own M O) (Own (qN M k l) O) O O w (w.setRow b cs)/\zJ Keep (qN M k l) O (w.setRow b cs):=by
 have hkeys:(qN M k l).map (·.1)=M.map (·.1):=za9
 have y:Stp (Own M O) (Own (qN M k l) O) O O w (w.setRow b cs):=
  ⟨rfl,rfl,.setRow _ _ _,sI,λn _ C=>setRow_other w b n cs (λe=>C ⟨k,m,v,q,p,e ▸ o⟩),λn a=>.inl (zav hkeys.symm a),λ_ _ h=>h⟩
 refine⟨y,zJ.next k g y (yO hkeys g.keys) ?_ ?_ ?_⟩
 .intro k' A r c
  obtain⟨_,d⟩|d:=jO g.keys _ r
  .refine⟨d,rfl,λB n j a=>setRow_other w b n cs (λe=>?_)⟩;subst e;exact g.apart k' A k m B v n d q c j p a o
  cases d;exact absurd rfl c
 .intro A r
  obtain⟨d,_⟩|d:=jO g.keys _ r
  .exact absurd rfl d
  cases d;exact hrel y
 intro A B n _ j a;rw[p]at j;cases j
 rw[o]at a;cases a
 refine⟨λk' D v2 d c z x=>?_,by simpa using (g.old b ⟨k,m,v,q,p,o⟩).1,(g.old b ⟨k,m,v,q,p,o⟩).2⟩
 obtain⟨_,s⟩|s:=jO g.keys _ d
 .exact g.apart k' D k m v2 v b s q c z p x o
 cases s;exact absurd rfl c
def zJ.grow{Keep:LI}{M M1:LT}{O:zh}{w:World}(s:zJ Keep M O w)(c:∀x∈M1,x∈M)(z:M1.Pairwise λa b=>a.1≠b.1){Y:Nat}(hκ:O Y=none)(hκM:∀m,(Y,m)∉M)(v:Value)(m:Mem)(w':World)(y:w'.os=w.os)(htape:w'.tape=w.tape)(hout:kR w w')(hsize:w.heap.size<=w'.heap.size)(hblock:∀b,b<w.heap.size->¬Own M O b->w'.heap[b]?=w.heap[b]?)(hkeep:∀k m v b,(k,m)∈M1->O k=some v->qf v=some b->w'.heap[b]?=w.heap[b]?)(C:∀b,qf v=some b->(Own M O b∨w.heap.size<=b)/\b<w'.heap.size/\∀k m j,(k,m)∈M1->O k=some j->qf j≠some b)(hrel:Stp (Own M O) (Own ((Y,m)::M1) (upd O Y v)) O (upd O Y v) w w'->
   jN (λb=>Keep b∨Own ((Y,m)::M1) (upd O Y v) b) (Own ((Y,m)::M1) (upd O Y v)) (upd O Y v) w' Y m):
  Stp (Own M O) (Own ((Y,m)::M1) (upd O Y v)) O (upd O Y v) w w'/\zJ Keep ((Y,m)::M1) (upd O Y v) w':=by
 have l:∀k m,(k,m)∈M1->k≠Y:=λk m h e=>by subst e;exact hκM m (c _ h)
 have A:Stp (Own M O) (Own ((Y,m)::M1) (upd O Y v)) O (upd O Y v) w w':=by
  refine⟨y,htape,hout,hsize,hblock,?_,?_⟩
  .rintro b ⟨k,n,j,d,g,B⟩
   cases d with
   |head=>rw[kG]at g;cases g;exact(C b B).1
   |tail _ d=>rw[zf2 (l _ _ d)]at g;exact .inl ⟨k,n,j,c _ d,g,B⟩
  intro k j h;rw[zf2 (λe=>by subst e;rw[hκ]at h;cases h)];exact h
 refine⟨A,zJ.next Y s A (zh2 z λm h=>hκM m (c _ h)) ?_ ?_ ?_⟩
 .intro k n h d
  cases h with
  |head=>exact absurd rfl d
  |tail _ h=>exact⟨c _ h,zf2 d,λj b o q=>hkeep k n j b h o q⟩
 .intro n h
  cases h with
  |head=>exact hrel A
  |tail _ h=>exact absurd rfl (l _ _ h)
 intro n j b _ o q;rw[kG]at o;cases o
 obtain⟨p,D,E⟩:=C b q;refine⟨λk H v1 r F G=>?_,D,λd=>?_⟩
 .cases r with
  |head=>exact absurd rfl F
  |tail _ r=>exact E k H v1 r G
 rcases p with p|p
 .exact(s.old b p).2 d
 have:=s.kp b d;omega
def zJ.let_go{Keep:LI}{M M1:LT}{O:zh}{w:World}(j:zJ Keep M O w)(c:∀x∈M1,x∈M)(n:M1.Pairwise λa b=>a.1≠b.1):
  Stp (Own M O) (Own M1 O) O O w w/\zJ Keep M1 O w:=by
 have o:Stp (Own M O) (Own M1 O) O O w w:=
  ⟨rfl,rfl,.refl _,Xj _,λ_ _ _=>rfl,λb ⟨k,m,v,d,g,l⟩=>.inl ⟨k,m,v,c _ d,g,l⟩,λ_ _ h=>h⟩
 exact⟨o,λk m h=>(j.rel k m (c _ h)).keep o rfl (λ_ _ _ _=>rfl),n,
  λk m k' p v q b d g=>j.apart k m k' p v q b (c _ d) (c _ g),λb ⟨k,m,v,d,g,l⟩=>j.old b ⟨k,m,v,c _ d,g,l⟩,j.kp,j.glS o⟩
variable{k':IntKind}
def zgA{k:IntKind}(h:zs9 k k'=true):k=k':=by cases k <;> cases k' <;> first|rfl|(simp[zs9]at h)
def InK(k:IntKind)(e:Int):Prop:=
 match k with
 |.i64=> -9223372036854775808<=e/\e<=9223372036854775807
 |.i32=> -2147483648<=e/\e<=2147483647
 |.i16=> -32768<=e/\e<=32767
 |.i8=> -128<=e/\e<=127
 |.u64=>0<=e/\e<=18446744073709551615
 |.u32=>0<=e/\e<=4294967295
 |.u16=>0<=e/\e<=65535
 |.u8=>0<=e/\e<=255
variable{e:Int}
def zqq{k:IntKind}(h:InK k e):k.wrap e=e:=by
 cases k <;> simp only[InK]at h <;> simp[IntKind.wrap,IntKind.bits,IntKind.signed] <;> (try split) <;> omega
variable{K:SV->Prop}
def vf{k:IntKind}(h:zmE k e K):K (.val (.int k (k.wrap e))):=by
 cases k <;> simp only[zmE]at h <;> cases h with
 |fit a c=>rw[zqq (by exact a)];exact c
 |wrap h=>exact h
def zaM(s:SV)(v:Value):Prop:=(∃u,s=.val u/\v=u)∨∃p i,s=.pr p i/\v=.bool (@decide p i)
def zaM.g{s:SV}{v:Value}(h:zaM s v){S Pm:LI}{w:World}:G S Pm O w s v:=by
 obtain⟨u,rfl,rfl⟩|⟨p,i,rfl,rfl⟩:=h
 .exact .d _ _ (.val _)
 exact .d _ _ (.pr p i)
def zaM.val(v:Value):zaM (.val v) v:=.inl ⟨v,rfl,rfl⟩
def zaM.pr{p:Prop}{i:Decidable p}{b:Bool}(h:b=@decide p i):zaM (.pr p i) (.bool b):=.inr ⟨p,i,rfl,by rw[h]⟩
def zCL{k:IntKind}(a:0<=e)(c:e<=kmax k):InK k e:=by cases k <;> simp only[kmax,InK] at*<;> omega
def ztk{op:BinOp}{k:IntKind}{m n:Int}(p:zuH op=false)(h:intV op k m n K):
  ∃s,K s/\∃v,zaM s v/\∀(P:Program) (t:TypeId) (w:World),(binOp op t (.int k m) (.int k n)).run P w=.ok v w:=by
 cases op <;> simp only[intV]at h <;> try (exact h.elim)
 case add=>exact⟨_,vf h,_,.val _,λP t w=>by simp[binOp,Op.intArith]⟩
 case sub=>exact⟨_,vf h,_,.val _,λP t w=>by simp[binOp,Op.intArith]⟩
 case mul=>exact⟨_,vf h,_,.val _,λP t w=>by simp[binOp,Op.intArith]⟩
 case quo=>
  cases h with
  |pos a c=>
   refine⟨_,c,_,.val _,λP t w=>?_⟩;have g:n≠0:=oM;have j:m.tdiv n=m/n:=Int.tdiv_eq_ediv_of_nonneg a.1;have l:0<=m/n:=Int.ediv_nonneg a.1 oM;have o:m/n<=m:=Int.ediv_le_self n a.1;simp[binOp,Op.intDiv,g,j,zqq (zCL l (Int.le_trans o a.2.2))]
  |any a c=>exact⟨_,vf c,_,.val _,λP t w=>by simp[binOp,Op.intDiv,a]⟩
 case rem=>
  cases h with
  |pos a c=>
   refine⟨_,c,_,.val _,λP t w=>?_⟩;have g:n≠0:=oM;have j:m.tmod n=m%n:=Int.tmod_eq_emod_of_nonneg a.1;simp[binOp,Op.intDiv,g,j]
  |any a c=>exact⟨_,c,_,.val _,λP t w=>by simp[binOp,Op.intDiv,a]⟩
 case eql=>exact⟨_,h,.bool (m==n),.pr (by rw[QD];simp),λP t w=>by simp[binOp,Op.intCmp]⟩
 case neq=>exact⟨_,h,.bool (m != n),.pr (by rw[QD];simp),λP t w=>by simp[binOp,Op.intCmp]⟩
 case lss=>exact⟨_,h,.bool (decide (m<n)),.pr rfl,λP t w=>by simp[binOp,Op.intCmp]⟩
 case leq=>exact⟨_,h,.bool (decide (m<=n)),.pr rfl,λP t w=>by simp[binOp,Op.intCmp]⟩
 case gtr=>exact⟨_,h,.bool (decide (m > n)),.pr rfl,λP t w=>by simp[binOp,Op.intCmp]⟩
 case geq=>exact⟨_,h,.bool (decide (m≥n)),.pr rfl,λP t w=>by simp[binOp,Op.intCmp]⟩
 case and=>
  obtain⟨r,d,h⟩:=h;refine⟨_,h,.int k r,.val _,λP t w=>?_⟩;rw[d];simp[binOp,Op.intBits,vr]
 case or=>
  obtain⟨r,d,h⟩:=h;refine⟨_,h,.int k r,.val _,λP t w=>?_⟩;rw[d];simp[binOp,Op.intBits,vr]
 case xor=>
  obtain⟨r,d,h⟩:=h;refine⟨_,h,.int k r,.val _,λP t w=>?_⟩;rw[d];simp[binOp,Op.intBits,vr]
 case andNot=>
  obtain⟨r,d,h⟩:=h;refine⟨_,h,.int k r,.val _,λP t w=>?_⟩;rw[d];simp[binOp,Op.intBits,vr]
def zyZ(m:Int)(c:Nat):m.fdiv (2^c)=m/2^c:=Int.fdiv_eq_ediv_of_nonneg m (Int.pow_nonneg oM)
def zoP{op:BinOp}{y:Operand}{k:IntKind}{m n:Int}(h:zta op y k m n K):
  ∃s,K s/\∃v,zaM s v/\∀(P:Program) (t:TypeId) (w:World),(binOp op t (.int k m) (.int k' n)).run P w=.ok v w:=by
 unfold zta at h
 split at h
 .split at h
  .rename_i c;have a:min c k.bits=c:=by have:=h.ob;omega
   refine⟨_,vf h.go,_,.val _,λP t w=>?_⟩;simp[binOp,Op.shift,a];intro j;omega
  exact h.elim
 .obtain⟨d,g⟩:=h.ob;have a:min n.toNat k.bits=n.toNat:=oM;refine⟨_,vf h.go,_,.val _,λP t w=>?_⟩;simp[binOp,Op.shift,a,show¬n<0 by omega]
 .split at h
  .rename_i c;have a:min c k.bits=c:=by have:=h.ob;omega
   refine⟨_,h.go,_,.val _,λP t w=>?_⟩;simp[binOp,Op.shift,a,zyZ];intro j;omega
  exact h.elim
 .obtain⟨d,g⟩:=h.ob;have a:min n.toNat k.bits=n.toNat:=oM;refine⟨_,h.go,_,.val _,λP t w=>?_⟩;simp[binOp,Op.shift,a,show¬n<0 by omega,zyZ]
 exact h.elim
def eqB:LA->LA->Bool
 |.int _ m::r,.int _ n::a=>(m==n)&&eqB r a
 |[],[]=>true
 |_,_=>false
inductive uc:LA->LA->Prop
 |nil:uc [] []
 |cons (k:IntKind) (m n:Int) {r r':LA} (h:uc r r'):uc (.int k m::r) (.int k n::r')
def zgB{cs a:LR}:∀{K:(p:Prop)->Decidable p->Prop},zgt cs a K->∃p i,K p i/\
  ∀{S Pm:LI} {O:zh} {w:World} {vs us:LA},Gs S Pm O w cs vs->Gs S Pm O w a us->uc vs us/\eqB vs us=@decide p i:=by
 induction cs generalizing a with
 |nil=>
  intro K h
  cases a with
  |nil=>exact⟨True,_,h,λg j=>by rw[g.nil_inv,j.nil_inv];exact⟨.nil,rfl⟩⟩
  |cons d a=>exact h.elim
 |cons c cs B=>
  intro K h
  cases a with
  |nil=>exact h.elim
  |cons d a=>
   simp only[zgt]at h;have h:=qO (qO h)
   split at h
   .rename_i k m k' n;obtain⟨l,o⟩:=zj h;obtain⟨p,i,hK,A⟩:=B o;have l:=zgA l;refine⟨_,_,hK,λg j=>?_⟩;obtain⟨v,vs,rfl,q,r⟩:=g.cons_inv;obtain⟨u,us,rfl,s,x⟩:=j.cons_inv;subst l;rw[q.val_inv,s.val_inv];obtain⟨y,z⟩:=A r x;refine⟨.cons _ _ _ y,?_⟩;simp only[eqB,z];rw[QD];simp
   exact h.elim
def uc.length{vs us:LA}(h:uc vs us):vs.length=us.length:=by induction h <;> simp_all
def uc.drop{vs us:LA}(n:Nat)(h:uc vs us):uc (vs.drop n) (us.drop n):=by
 induction n generalizing vs us with
 |zero=>exact h
 |succ n a=>cases h with
  |nil=>exact .nil
  |cons k m n h=>exact a h
def uc.take{vs us:LA}(n:Nat)(h:uc vs us):uc (vs.take n) (us.take n):=by
 induction n generalizing vs us with
 |zero=>exact .nil
 |succ n a=>cases h with
  |nil=>exact .nil
  |cons k m n h=>exact .cons _ _ _ (a h)
def zm4{vs us:LA}(n:Nat)(h:uc vs us):eqB vs us=(eqB (vs.take n) (us.take n)&&eqB (vs.drop n) (us.drop n)):=by
 induction n generalizing vs us with
 |zero=>simp[eqB]
 |succ n a=>cases h with
  |nil=>rfl
  |cons k m n h=>simp[eqB,a h,Bool.and_assoc]
def zdW(agg:Bool)(vs:LA):Value:=if agg then .agg vs.toArray else vs.headD undef
def zcf{P:Program}{t:TypeId}{i:TI}(hT:zjB P t i)(vs:LA)(off:Nat)(h:off+i.sz<=vs.length)(j:i.kind.agg=false->i.sz=1)(w:World):
  (part t vs.toArray off).run P w=.ok (zdW i.kind.agg ((vs.drop off).take i.sz)) w:=by
 unfold part;rw[Sem.run_bind,hT.agg w,Result.andThen_ok]
 cases g:i.kind.agg with
 |true=>simp[hT.size,zdW]
 |false=>
  have c:=j g;have a:off<vs.length:=oM;have d:(List.take 1 (List.drop off vs))=[vs[off]]:=by rw[K6 a];rfl
  simp[zdW,c,a,d]
def zqr{P:Program}{H:LS}(hT:TOK P H)(n:Nat)(r:∀t i,ti H t=some i->zgu H n t=true->(i.kind.agg=false->i.sz=1)/\∀(d:Nat) (vs us:LA) (w:World),vs.length=i.sz->uc vs us->
   (Op.equalIn (n+d) t (zdW i.kind.agg vs) (zdW i.kind.agg us)).run P w=.ok (eqB vs us) w)(d sz:Nat)(vs us:LA)(o:vs.length=sz)(c:uc vs us)(w:World):
  ∀(F:List Field) (at_:Nat),zke H (zgu H n) (F.map λf=>(f.offset,f.type)) at_ sz=true->(∀f∈F,f.name≠ "_")->
   at_<=sz/\(Op.eqFields (n+d) vs.toArray us.toArray F).run P w=.ok (eqB (vs.drop at_) (us.drop at_)) w
 |[],at_,h,_=>by
  simp only[List.map_nil,zke]at h;have h:=Xk h;subst h;have a:=c.length;simp[Op.eqFields,Jq (YQ o),Jq (YQ (a ▸ o)),eqB]
 |f::F,at_,h,p=>by
  simp only[Qr,zke]at h
  split at h
  .rename_i j l;obtain⟨g,h⟩:=kr h;obtain⟨s,v⟩:=kr h;have g:=Xk g;obtain⟨q,y⟩:=r _ _ l s;obtain⟨C,x⟩:=zqr hT n r d sz vs us o c w F (at_+j.sz) v (λf z=>p f (.tail _ z));have a:=c.length;have p1:=zcf (hT _ _ l) vs f.offset oM q w;have B:=zcf (hT _ _ l) us f.offset oM q w;have k:=y d ((vs.drop f.offset).take j.sz) ((us.drop f.offset).take j.sz) w (by simp;omega) ((c.drop _).take _);refine⟨oM,?_⟩;have A:=zm4 j.sz (c.drop f.offset)
   simp only[Op.eqFields,p f (.head _),ne_eq,not_false_eq_true,if_true,Sem.run_bind,p1,B,Result.andThen_ok,k];rw[←g,A]
   cases D:eqB ((vs.drop f.offset).take j.sz) ((us.drop f.offset).take j.sz) with
   |true=>simp[x,g,J1]
   |false=>simp
  cases h
def zdX{P:Program}{H:LS}(hT:TOK P H):∀(n:Nat) (t:TypeId) (i:TI),ti H t=some i->zgu H n t=true->
  (i.kind.agg=false->i.sz=1)/\∀(d:Nat) (vs us:LA) (w:World),vs.length=i.sz->uc vs us->
   (Op.equalIn (n+d) t (zdW i.kind.agg vs) (zdW i.kind.agg us)).run P w=.ok (eqB vs us) w
 |0,t,i,hi,h=>by simp[zgu]at h
 |n+1,t,i,hi,h=>by
  unfold zgu at h;rw[hi]at h;simp only at h;have hK:=(hT t i hi).kind
  split at h
  .rename_i k g;rw[g]at hK;have q:=Xk h;refine⟨λ_=>q,λd vs us w s o=>?_⟩;rw[q]at s
   cases o with
   |nil=>simp at s
   |cons k' m m' h=>
    cases h with
    |nil=>
     rw[show n+1+d=(n+d)+1 by omega];simp only[g,TK.agg,zdW,KF,if_false,List.headD_cons,run_equalIn_int w _ t k' k m _ hK,eqB,Bool.and_true]
    |cons=>simp at s
  .rename_i fs g;obtain⟨J,Q⟩:=kr h;rw[g]at hK;obtain⟨F,hF,hmap,_⟩:=hK;obtain⟨V,h2,W⟩:=(hT t i hi).cmp J;have p:P.fieldsOf t=F:=by simp[Program.fieldsOf,hF]
   refine⟨λh=>(by rw[g]at h;cases h),λd vs us w s o=>?_⟩;rw[show n+1+d=(n+d)+1 by omega];rw[←hmap]at Q;have:=(zqr hT n (zdX hT n) d i.sz vs us s o w F.toList 0 Q (by rw[←p];exact W)).2;simp only[g,TK.agg,zdW,if_true];rw[run_equalIn_struct w (n+d) t _ _ (by rw[p];exact hF) V,p]
   simpa using this
  .rename_i len e g;obtain⟨J,G⟩:=kr h;obtain⟨c,I⟩:=kr G;obtain⟨hisz,x⟩:=kr I;have c:=Xk c;have hisz:=Xk hisz;subst c;clear h G I
   cases l:ti H e with
   |some j=>
    rw[l]at x;obtain⟨a,C⟩:=kr x;have a:=Xk a;rw[g]at hK;have hK:P.underlying t=some (.array 2 e):=hK;obtain⟨q,L⟩:=zdX hT n e j l C;refine⟨λh=>(by rw[g]at h;cases h),λd vs us w s o=>?_⟩;rw[show n+1+d=(n+d)+1 by omega];simp only[g,TK.agg,zdW,if_true];obtain⟨f,N,B,_⟩:=(hT e j l).inf;rw[run_equalIn_array w (n+d) _ _ hK N];have A:P.cellsOf e=1:=by unfold Program.cellsOf;rw[N];simp[B,a]
    have Z:=o.length;have p1:=zcf (hT e j l) vs 0 oM q w;have R:=zcf (hT e j l) us 0 oM q w;have y:=zcf (hT e j l) vs 1 oM q w;have z:=zcf (hT e j l) us 1 oM q w;have E:=L d ((vs.drop 0).take j.sz) ((us.drop 0).take j.sz) w (by simp;omega) ((o.drop 0).take _);have r:=L d ((vs.drop 1).take j.sz) ((us.drop 1).take j.sz) w (by simp;omega) ((o.drop 1).take _);have hs:=zm4 1 o;have T:(vs.drop 1).take j.sz=vs.drop 1:=Xi (by simp;omega);have U:(us.drop 1).take j.sz=us.drop 1:=Xi (by simp;omega)
    rw[T,U]at r;rw[a]at E;rw[T]at y;rw[U]at z;rw[a]at p1 R;rw[hs,A];have D:List.range 2=[0,1]:=rfl;rw[D];simp only[Op.eqItems,Sem.run_bind,Jw,YJ,p1,R,y,z,Result.andThen_ok,E,r];simp only[Qc]
    cases X:eqB (vs.take 1) (us.take 1) with
    |true=>
     rw[X] at*
     cases v:eqB (vs.drop 1) (us.drop 1) with
     |true=>rw[v,Ye,Ye]at r;simp[y,z,r]
     |false=>rw[v,Ye,Ye]at r;simp[y,z,r]
    |false=>simp
   |none=>rw[l]at x;cases x
  cases h
def zeO{s:SV}{K:(p:Prop)->Decidable p->Prop}(h:zwG s K):∃p i,K p i/\∀{S Pm:LI} {O:zh} {w:World} {v:Value},G S Pm O w s v->v=.bool (@decide p i):=by
 unfold zwG at h
 split at h
 .exact⟨_,_,h,λa=>a.pr_inv⟩
 .exact⟨_,_,h,λa=>by rw[a.val_inv];rfl⟩
 .exact⟨_,_,h,λa=>by rw[a.val_inv];rfl⟩
 exact h.elim
end
end Go.Gs
