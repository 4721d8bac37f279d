/- What a symbolic value says, read back; blocks of one's own behind a change. -/
import Derived.Test.YtdkomlilfdbahaaGreatDoorMAB
import Derived.Laws.StructEq
import Derived.Laws.MakeOwn
import Derived.Laws.Slices
import Derived.Laws.BitsLemmas
import Derived.Laws.Small
import Derived.ChangeKeysEq
import Derived.Laws.CopyRow
import Derived.Laws.Cover3
set_option maxRecDepth 100000
set_option maxHeartbeats 80000000
set_option linter.all false
namespace Go.Gs
section inv
variable{S Pm:LI}{Z:zh}{w:World}
section
variable{u:Value}
def D.val_inv{v:Value}(h:D S w (.val v) u):u=v:=by cases h;rfl
def G.val_inv{v u:Value}(h:G S Pm Z w (.val v) u):u=v:=by cases h with|d _ _ h=>exact h.val_inv
def G.pr_inv{p:Prop}{i:Decidable p}(h:G S Pm Z w (.pr p i) u):u=.bool (@decide p i):=by
 cases h with|d _ _ h=>cases h;rfl
variable{off:Nat}
def G.loc_inv{k:Nat}(h:G S Pm Z w (.loc k off) u):∃b,Z k=some (.pointer (some ⟨b,0,none⟩))/\u=.pointer (some ⟨b,off,none⟩):=by
 cases h with
 |d _ _ h=>cases h
 |loc _ _ b h=>exact⟨b,h,rfl⟩
def G.own_inv{k:Nat}(h:G S Pm Z w (.own k) u):Z k=some u/\u.oneCell'=true:=by
 cases h with
 |d _ _ h=>cases h
 |own _ _ h c=>exact⟨h,c⟩
variable{sz:Nat}
def G.eloc_inv{k:Nat}{i:Int}(h:G S Pm Z w (.eloc k sz i off) u):
  ∃b len cap,Z k=some (.slice (some ⟨b,0,none⟩) len cap)/\u=.pointer (some ⟨b,i.toNat*sz+off,none⟩):=by
 cases h with
 |d _ _ h=>cases h
 |eloc _ _ _ _ b len cap h=>exact⟨b,len,cap,h,rfl⟩
def G.win_inv{k:Nat}{lo n:Int}(h:G S Pm Z w (.win k sz lo n) u):
  ∃b len cap cap',Z k=some (.slice (some ⟨b,0,none⟩) len cap)/\u=.slice (some ⟨b,lo.toNat*sz,none⟩) n.toNat cap'/\lo.toNat+n.toNat<=len/\n.toNat<=cap':=by
 cases h with
 |d _ _ h=>cases h
 |win _ _ _ _ b len cap cap' h c g=>exact⟨b,len,cap,cap',h,rfl,c,g⟩
variable{cs:LR}
def G.ptr_inv(h:G S Pm Z w (.ptr cs) u):∃b o,∃c:Nat->Value,u=.pointer (some ⟨b,o,none⟩)/\b<w.heap.size/\¬Pm b/\
  (∀j,j<cs.length->w.cell? ⟨b,o+j,none⟩=some (c j)/\(c j).oneCell'=true)/\∀(j:Nat) (s:SV),cs[j]?=some s->D S w s (c j):=by
 cases h with
 |d _ _ h=>cases h
 |ptr _ b o c g hP k h=>exact⟨b,o,c,rfl,g,hP,k,h⟩
def G.dptr_inv(h:G S Pm Z w (.dptr cs) u):∃b o,∃c:Nat->Value,u=.pointer (some ⟨b,o,none⟩)/\b<w.heap.size/\¬S b/\
  (∀j,j<cs.length->w.cell? ⟨b,o+j,none⟩=some (c j)/\(c j).oneCell'=true)/\∀(j:Nat) (s:SV),cs[j]?=some s->D S w s (c j):=by
 cases h with
 |d _ _ h=>cases h with|dptr _ b o c g hS k h=>exact⟨b,o,c,rfl,g,hS,k,h⟩
variable{f:FuncId}
def G.dfn_inv(h:G S Pm Z w (.dfn f cs) u):∃vs:LA,u=.func (.func f) #[] vs.toArray/\Gs S Pm Z w cs vs:=by
 cases h with
 |d _ _ h=>cases h with|dfn _ _ vs k h=>exact⟨vs,rfl,k,λj s v c g=>.d _ _ (h j s v c g)⟩
def G.bm_inv(h:G S Pm Z w (.bm f cs) u):∃vs:LA,u=.func (.func f) vs.toArray #[]/\Gs S Pm Z w cs vs:=by
 cases h with
 |d _ _ h=>cases h with|bm _ _ vs k h=>exact⟨vs,rfl,k,λj s v c g=>.d _ _ (h j s v c g)⟩
def G.op_inv{v:Value}(h:G S Pm Z w (.op v) u):u=v/\ifB v=true:=by
 cases h with
 |d _ _ h=>cases h with|op _ h=>exact⟨rfl,h⟩
def G.ifc_inv{t:TypeId}{s:SV}(h:G S Pm Z w (.ifc t s) u):∃v,u=.iface t v/\G S Pm Z w s v:=by
 cases h with
 |d _ _ h=>cases h with|ifc _ _ v h=>exact⟨v,rfl,.d _ _ h⟩
 |ifc _ _ v h=>exact⟨v,rfl,h⟩
def G.agg_inv(h:G S Pm Z w (.agg cs) u):∃vs:LA,u=.agg vs.toArray/\Gs S Pm Z w cs vs:=by
 cases h with
 |d _ _ h=>cases h with|agg _ vs c h=>exact⟨vs,rfl,c,λj s v g k=>.d _ _ (h j s v g k)⟩
 |agg _ vs c h=>exact⟨vs,rfl,c,h⟩
def G.tup_inv(h:G S Pm Z w (.tup cs) u):∃vs:LA,u=.tuple vs.toArray/\Gs S Pm Z w cs vs:=by
 cases h with
 |d _ _ h=>cases h
 |tup _ vs c h=>exact⟨vs,rfl,c,h⟩
def G.fn_inv(h:G S Pm Z w (.fn f cs) u):∃vs:LA,u=.func (.func f) #[] vs.toArray/\Gs S Pm Z w cs vs:=by
 cases h with
 |d _ _ h=>cases h
 |fn _ _ vs c h=>exact⟨vs,rfl,c,h⟩
variable{α:Type}{xs:List α}
def G.sl_inv{enc:α->LR}(h:G S Pm Z w (.sl enc xs) u):D S w (.sl enc xs) u:=by
 cases h with|d _ _ h=>exact h
def D.sl_inv{enc:α->LR}(h:D S w (.sl enc xs) u):
  (xs=[]/\∃a,u=.slice a 0 0)∨∃sz b o cap,∃c:Nat->Nat->Value,u=.slice (some ⟨b,o,none⟩) xs.length cap/\b<w.heap.size/\¬S b/\xs.length<=9223372036854775807/\xs.length<=cap/\
   (∀x∈xs,(enc x).length=sz)/\(∀i j,i<xs.length->j<sz->w.cell? ⟨b,o+i*sz+j,none⟩=some (c i j)/\(c i j).oneCell'=true)/\
   ∀(i j:Nat) (x:α) (s:SV),xs[i]?=some x->(enc x)[j]?=some s->D S w s (c i j):=by
 cases h with
 |nil _ a=>exact .inl ⟨rfl,a,rfl⟩
 |sl _ _ sz b o cap c l hS g d k n h=>exact .inr ⟨sz,b,o,cap,c,rfl,l,hS,g,d,k,n,h⟩
def G.nils_inv(h:G S Pm Z w .nils u):∃a,u=.slice a 0 0:=by
 cases h with|d _ _ h=>cases h with|nils a=>exact⟨a,rfl⟩
def G.full_inv{enc:α->LR}(h:G S Pm Z w (.full enc xs) u):∃a,u=.slice a xs.length xs.length/\D S w (.sl enc xs) u:=by
 cases h with|d _ _ h=>cases h with|full _ _ a h=>exact⟨a,rfl,h⟩
def G.anyb_inv(h:G S Pm Z w .anyb u):∃b,u=.bool b:=by
 cases h with|d _ _ h=>cases h with|anyb b=>exact⟨b,rfl⟩
def Gs.nil:Gs S Pm Z w [] []:=⟨rfl,λ_ _ _ h=>by simp at h⟩
variable{vs:LA}
def Gs.cons{s:SV}{v:Value}(h:G S Pm Z w s v)(g:Gs S Pm Z w cs vs):Gs S Pm Z w (s::cs) (v::vs):=
 ⟨by simp[g.1],λj s' k c d=>by
  cases j with
  |zero=>simp at c d;subst c;subst d;exact h
  |succ j=>simp at c d;exact g.2 j s' k c d⟩
def Gs.head{s:SV}{v:Value}(h:Gs S Pm Z w (s::cs) (v::vs)):G S Pm Z w s v:=h.2 0 s v rfl rfl
def Gs.tail{s:SV}{v:Value}(h:Gs S Pm Z w (s::cs) (v::vs)):Gs S Pm Z w cs vs:=
 ⟨by simpa using h.1,λj s' g c d=>h.2 (j+1) s' g (by simpa using c) (by simpa using d)⟩
def Gs.cons_inv{s:SV}(h:Gs S Pm Z w (s::cs) vs):∃v c,vs=v::c/\G S Pm Z w s v/\Gs S Pm Z w cs c:=by
 cases vs with
 |nil=>simp[Gs]at h
 |cons v vs=>exact⟨v,vs,rfl,h.head,h.tail⟩
def Gs.nil_inv(h:Gs S Pm Z w [] vs):vs=[]:=by simpa[Gs] using h.1
def Gs.append{c:LR}{us:LA}(h:Gs S Pm Z w cs vs)(k:Gs S Pm Z w c us):Gs S Pm Z w (cs++c) (vs++us):=by
 induction cs generalizing vs with
 |nil=>rw[h.nil_inv];exact k
 |cons s cs j=>obtain⟨v,l,rfl,d,g⟩:=h.cons_inv;exact .cons d (j g)
def Gs.drop{cs:LR}{vs:LA}(n:Nat)(h:Gs S Pm Z w cs vs):Gs S Pm Z w (cs.drop n) (vs.drop n):=
 ⟨by simp[h.1],λj s v c d=>h.2 (n+j) s v (by simpa using c) (by simpa using d)⟩
def Gs.take{cs:LR}{vs:LA}(n:Nat)(h:Gs S Pm Z w cs vs):Gs S Pm Z w (cs.take n) (vs.take n):=
 ⟨by simp[h.1],λj s v c d=>by
  rw[XM]at c d
  split at c
  .rename_i g;rw[Xe g]at d;exact h.2 j s v c d
  cases c⟩
def Gs.vals(l:LA):Gs S Pm Z w (vals l) l:=
 ⟨by simp[Go.Gs.vals],λj s v c g=>by
  simp[Go.Gs.vals,g]at c;subst c;exact .d _ _ (.val v)⟩
def Gs.mono'{S' Pm':LI}{Z':zh}{w':World}(h:Gs S Pm Z w cs vs)(g:∀s v,G S Pm Z w s v->G S' Pm' Z' w' s v):Gs S' Pm' Z' w' cs vs:=⟨h.1,λj s v c d=>g s v (h.2 j s v c d)⟩
end
end inv
def qH{s:SV}{K:SV->Prop}(h:vv s K):K s:=by
 cases s with
 |val v=>cases v with
  |bool b=>cases b <;> exact h
  |_=>exact h
 |_=>exact h
def zj{b:Bool}{K:Prop}(h:zS b K):b=true/\K:=by cases b <;> first|exact h.elim|exact⟨rfl,h⟩
def kr{a b:Bool}(h:yp a b=true):a=true/\b=true:=by cases a <;> simp_all[yp]
def zE{I:LS}{t:TypeId}{K:TI->Prop}(h:qa I t K):∃i,ti I t=some i/\K i:=by
 unfold qa at h;split at h
 .exact⟨_,‹_›,h⟩
 exact h.elim
def zgg(P:Program)(t:TypeId):TK->Prop
 |.int k=>P.underlying t=some (.int k)
 |.bool=>P.underlying t=some .bool
 |.str=>P.underlying t=some .string
 |.ptr e=>P.underlying t=some (.pointer e)
 |.slice e=>P.underlying t=some (.slice e)
 |.struct fs=>∃F,P.underlying t=some (.struct F)/\F.toList.map (λf=>(f.offset,f.type))=fs/\∃pl,F.toList.mapM (λf=>(P.info? f.type).map λi=>(f.offset,i.size))=some pl
 |.arr n e=>P.underlying t=some (.array n e)
 |.map k e=>P.underlying t=some (.map k e)
 |.iface=>∃ms,P.underlying t=some (.interface ms)
 |.other=>∃a b c,P.underlying t=some (.func a b c)
structure zjX (P:Program) (t:TypeId) (i:TI):Prop where
 inf:∃f,P.info? t=some f/\f.size=i.sz/\f.bytes=i.bytes/\∃z,f.zero=some z/\z.cells.toList=i.zero/\(i.kind.agg=false->z.cells=#[z])/\i.zero.length=i.sz/\
  ∀v∈i.zero,v.oneCell'=true
 kind:zgg P t i.kind
 zagg:i.kind.agg=true->∃f,P.info? t=some f/\f.zero=some (.agg i.zero.toArray)
 cmp:i.cmp=true->P.stoodInHeld t=false/\P.eqGuardType P.depth t=false/\∀f∈(P.fieldsOf t).toList,f.name≠ "_"
def TOK(P:Program)(I:LS):Prop:=∀t i,ti I t=some i->zjX P t i
section types
variable{P:Program}{t:TypeId}{i:TI}
def zjX.size(h:zjX P t i)(w:World):(sizeOf t).run P w=.ok i.sz w:=by
 obtain⟨f,c,d,_⟩:=h.inf;simp[sizeOf,typeInfo,c,d]
def zjX.agg(h:zjX P t i)(w:World):(isAgg t).run P w=.ok i.kind.agg w:=by
 have d:=h.kind
 cases hi:i.kind <;> rw[hi]at d <;> simp only[zgg]at d
 case struct fs=>obtain⟨F,hF,_⟩:=d;simp[isAgg,run_underlying hF,TK.agg]
 case other=>obtain⟨a,b,c,g⟩:=d;simp[isAgg,run_underlying g,TK.agg]
 case iface=>obtain⟨ms,g⟩:=d;simp[isAgg,run_underlying g,TK.agg]
 all_goals simp[isAgg,run_underlying d,TK.agg]
def zjX.und(h:zjX P t i):∃d,P.underlying t=some d:=by
 have g:=h.kind
 cases hi:i.kind <;> rw[hi]at g <;> simp only[zgg]at g
 case struct fs=>exact⟨_,g.choose_spec.1⟩
 case other=>obtain⟨a,b,c,j⟩:=g;exact⟨_,j⟩
 case iface=>obtain⟨ms,j⟩:=g;exact⟨_,j⟩
 all_goals exact⟨_,g⟩
end types
section
variable{Keep:LI}{Z:zh}{Z':zh}{w':World}{m:Mem}
def jD.keep{W W':LI}{w:World}{k:Nat}(A:Stp W W' Z Z' w w')(z:Z' k=Z k)(y:∀v b,Z k=some v->qi v=some b->w'.heap[b]?=w.heap[b]?)(h:jD (λb=>Keep b∨W b) W Z w k m):jD (λb=>Keep b∨W' b) W' Z' w' k m:=by
 cases m with
 |box T cs=>
  obtain⟨b,vs,c,d,o,p,q⟩:=h;exact⟨b,vs,z.trans c,(y _ b c rfl).trans d,o,p,λj s v H Q=>(q j s v H Q).stp A⟩
 |arr T enc sz xs=>
  obtain⟨v,cells,c,d,o,p,q,B⟩:=h;refine⟨v,cells,z.trans c,⟨d.1,?_⟩,o,p,q,λi j x s J G=>?_⟩
  .rcases d.2 with h|⟨g,cap,l,rfl,C,D,E⟩
   .exact .inl h
   exact .inr ⟨g,cap,l,rfl,C,(y _ g c rfl).trans D,E⟩
  obtain⟨u,I,F⟩:=B i j x s J G;exact⟨u,I,F.stp A⟩
 |garr T sz xs=>
  obtain⟨v,cells,c,d,o,p,q,B⟩:=h;refine⟨v,cells,z.trans c,⟨d.1,?_⟩,o,p,q,λi j x s J G=>?_⟩
  .rcases d.2 with h|⟨g,cap,l,rfl,C,D,E⟩
   .exact .inl h
   exact .inr ⟨g,cap,l,rfl,C,(y _ g c rfl).trans D,E⟩
  obtain⟨u,I,F⟩:=B i j x s J G;exact⟨u,I,F.stp A⟩
 |map R=>
  obtain⟨r,ents,clock,c,d,o,p⟩:=h;refine⟨r,ents,clock,z.trans c,(y _ r c rfl).trans d,o,λi n s hi=>?_⟩;obtain⟨e,L,N,O⟩:=p i n s hi;exact⟨e,L,N,O.stp A⟩
variable{M:LT}{M':LT}
def zI.next{w:World}(Y:Nat)(s:zI Keep M Z w)(A:Stp (Own M Z) (Own M' Z') Z Z' w w')(hkeys:M'.Pairwise λa b=>a.1≠b.1)(hold:∀k m,(k,m)∈M'->k≠Y->(k,m)∈M/\Z' k=Z k/\∀v b,Z k=some v->qi v=some b->w'.heap[b]?=w.heap[b]?)(hnew:∀m,(Y,m)∈M'->jD (λb=>Keep b∨Own M' Z' b) (Own M' Z') Z' w' Y m)(l:∀m v b,(Y,m)∈M'->Z' Y=some v->qi v=some b->
   (∀k m q,(k,m)∈M'->k≠Y->Z k=some q->qi q≠some b)/\b<w'.heap.size/\¬Keep b):zI Keep M' Z' w' where
 rel k m r:=by
  by_cases g:k=Y
  .subst g;exact hnew m r
  obtain⟨h,j,d⟩:=hold k m r g;exact(s.rel k m h).keep A j d
 keys:=hkeys
 apart k m k' z v q b h j y D p n o:=by
  by_cases g:k=Y
  .subst g;have c:k'≠k:=Ne.symm y;obtain⟨_,d,_⟩:=hold k' z j c;exact(l m v b h D n).1 k' z q j c (d ▸ p) o
  by_cases c:k'=Y
  .subst c;obtain⟨_,d,_⟩:=hold k m h g;exact(l z q b j p o).1 k m v h g (d ▸ D) n
  obtain⟨d,B,_⟩:=hold k m h g;obtain⟨C,E,_⟩:=hold k' z j c;exact s.apart k m k' z v q b d C y (B ▸ D) (E ▸ p) n o
 old b n:=by
  obtain⟨k,m,v,h,j,d⟩:=n
  by_cases g:k=Y
  .subst g;exact(l m v b h j d).2
  obtain⟨B,C,_⟩:=hold k m h g;have:=s.old b ⟨k,m,v,B,C ▸ j,d⟩;exact⟨Xx this.1 A.size,this.2⟩
 kp b n:=Xx (s.kp b n) A.size
 gl:=s.glS A
def qn{k:Nat}(x:Nat×Mem)(h:x∈k9 M k):x∈M:=by
 induction M with
 |nil=>exact h
 |cons y r c=>
  obtain⟨k',d⟩:=y;simp only[k9]at h
  split at h
  .exact .tail _ h
  cases h with
  |head=>exact .head _
  |tail _ h=>exact .tail _ (c h)
def vA{k:Nat}(d:M.Pairwise λa b=>a.1≠b.1)(x:Nat×Mem)(h:x∈k9 M k):x.1≠k:=by
 induction M with
 |nil=>cases h
 |cons y r g=>
  obtain⟨k',j⟩:=y;rw[XT]at d;simp only[k9]at h
  split at h
  .rename_i c;have:=Xk c;subst this;exact λe=>d.1 x h e.symm
  rename_i c
  cases h with
  |head=>exact KR c
  |tail _ h=>exact g d.2 h
def qR{M:LT}{k:Nat}(c:M.Pairwise λa b=>a.1≠b.1):(k9 M k).Pairwise λa b=>a.1≠b.1:=by
 induction M with
 |nil=>exact c
 |cons y r g=>
  obtain⟨k',h⟩:=y;rw[XT]at c;simp only[k9]
  split
  .exact c.2
  rw[XT];exact⟨λx d=>c.1 x (qn x d),g c.2⟩
def jS{k:Nat}(d:M.Pairwise λa b=>a.1≠b.1)(x:Nat×Mem)(h:x∈qL M k m):x.1≠k/\x∈M∨x=(k,m):=by
 induction M with
 |nil=>cases h
 |cons y r g=>
  obtain⟨k',j⟩:=y;rw[XT]at d;simp only[qL]at h
  split at h
  .rename_i c;have:=Xk c;subst this
   cases h with
   |head=>exact .inr rfl
   |tail _ h=>exact .inl ⟨λe=>d.1 x h e.symm,.tail _ h⟩
  rename_i c
  cases h with
  |head=>exact .inl ⟨KR c,.head _⟩
  |tail _ h=>exact(g d.2 h).imp (λh=>⟨h.1,.tail _ h.2⟩) id
def zbc{k:Nat}:(qL M k m).map (·.1)=M.map (·.1):=by
 induction M with
 |nil=>rfl
 |cons y r d=>
  obtain⟨k',g⟩:=y;simp only[qL]
  split
  .rename_i c;have:=Xk c;subst this;rfl
  simp[d]
def yS(h:M'.map (·.1)=M.map (·.1))(d:M.Pairwise λa b=>a.1≠b.1):M'.Pairwise λa b=>a.1≠b.1:=by
 have c:(M.map (·.1)).Pairwise λa b=>a≠b:=Q0.2 d
 rw[←h]at c;exact Q0.1 c
variable{b:Nat}
def zax(h:M'.map (·.1)=M.map (·.1))(j:Own M Z b):Own M' Z b:=by
 obtain⟨k,m,v,c,d,g⟩:=j;have:k∈M'.map (·.1):=by rw[h];exact XK.2 ⟨_,c,rfl⟩
 obtain⟨⟨k',n⟩,l,rfl⟩:=XK.1 this;exact⟨_,n,v,l,d,g⟩
def zc2{k:Nat}(d:M.Pairwise λa b=>a.1≠b.1)(h:(k,m)∈M):zO M k=some m:=by
 induction M with
 |nil=>cases h
 |cons y r j=>
  obtain⟨k',l⟩:=y;rw[XT]at d;simp only[zO]
  cases h with
  |head=>simp[KQ]
  |tail _ h=>
   have c:k'≠k:=d.1 _ h
   have:Nat.beq k' k=false:=by
    cases g:Nat.beq k' k with
    |false=>rfl
    |true=>exact absurd (Xk g) c
   simp[this,j d.2 h]
def zim{k:Nat}(c:M.Pairwise λa b=>a.1≠b.1)(h:∀m,(k,m)∉M):((k,m)::M).Pairwise λa b=>a.1≠b.1:=
 XT.2 ⟨λx d e=>by obtain⟨k',g⟩:=x;have e:k=k':=e;subst e;exact h g d,c⟩
def upd(Z:zh)(Y:Nat)(v:Value):zh:=λk=>if k=Y then some v else Z k
variable{Y:Nat}
def kG{v:Value}:upd Z Y v Y=some v:=by simp[upd]
def zgh{k:Nat}{v:Value}(h:k≠Y):upd Z Y v k=Z k:=by simp[upd,h]
def zI.write{w:World}(j:zI Keep M Z w){k:Nat}(n:Mem)(r:(k,m)∈M){v:Value}(q:Z k=some v)(p:qi v=some b)(cs:Array Value)(s:Stp (Own M Z) (Own (qL M k n) Z) Z Z w (w.setRow b cs)->jD (λb=>Keep b∨Own (qL M k n) Z b) (Own (qL M k n) Z) Z (w.setRow b cs) k n):
  Stp (Own M Z) (Own (qL M k n) Z) Z Z w (w.setRow b cs)/\zI Keep (qL M k n) Z (w.setRow b cs):=by
 have hkeys:(qL M k n).map (·.1)=M.map (·.1):=zbc
 have B:Stp (Own M Z) (Own (qL M k n) Z) Z Z w (w.setRow b cs):=
  ⟨rfl,rfl,.setRow _ _ _,sI,λo _ F=>setRow_other w b o cs (λe=>F ⟨k,m,v,r,q,e ▸ p⟩),λo c=>.inl (zax hkeys.symm c),λ_ _ h=>h⟩
 refine⟨B,zI.next k j B (yS hkeys j.keys) ?_ ?_ ?_⟩
 .intro k' D y d
  obtain⟨_,g⟩|g:=jS j.keys _ y
  .refine⟨g,rfl,λE o l c=>setRow_other w b o cs (λe=>?_)⟩;subst e;exact j.apart k' D k m E v o g r d l q c p
  cases g;exact absurd rfl d
 .intro D y
  obtain⟨g,_⟩|g:=jS j.keys _ y
  .exact absurd rfl g
  cases g;exact s B
 intro D E o _ l c;rw[q]at l;cases l
 rw[p]at c;cases c
 refine⟨λk' G v2 g d C A=>?_,by simpa using (j.old b ⟨k,m,v,r,q,p⟩).1,(j.old b ⟨k,m,v,r,q,p⟩).2⟩
 obtain⟨_,z⟩|z:=jS j.keys _ g
 .exact j.apart k' G k m v2 v b z r d C q A p
 cases z;exact absurd rfl d
def zI.grow{Keep:LI}{M M1:LT}{Z:zh}{w:World}(y:zI Keep M Z w)(c:∀x∈M1,x∈M)(A:M1.Pairwise λa b=>a.1≠b.1){Y:Nat}(C:Z Y=none)(hκM:∀m,(Y,m)∉M)(v:Value)(m:Mem)(w':World)(z:w'.os=w.os)(htape:w'.tape=w.tape)(hout:kU w w')(hsize:w.heap.size<=w'.heap.size)(hblock:∀b,b<w.heap.size->¬Own M Z b->w'.heap[b]?=w.heap[b]?)(hkeep:∀k m v b,(k,m)∈M1->Z k=some v->qi v=some b->w'.heap[b]?=w.heap[b]?)(E:∀b,qi v=some b->(Own M Z b∨w.heap.size<=b)/\b<w'.heap.size/\∀k m j,(k,m)∈M1->Z k=some j->qi j≠some b)(n:Stp (Own M Z) (Own ((Y,m)::M1) (upd Z Y v)) Z (upd Z Y v) w w'->
   jD (λb=>Keep b∨Own ((Y,m)::M1) (upd Z Y v) b) (Own ((Y,m)::M1) (upd Z Y v)) (upd Z Y v) w' Y m):
  Stp (Own M Z) (Own ((Y,m)::M1) (upd Z Y v)) Z (upd Z Y v) w w'/\zI Keep ((Y,m)::M1) (upd Z Y v) w':=by
 have l:∀k m,(k,m)∈M1->k≠Y:=λk m h e=>by subst e;exact hκM m (c _ h)
 have B:Stp (Own M Z) (Own ((Y,m)::M1) (upd Z Y v)) Z (upd Z Y v) w w':=by
  refine⟨z,htape,hout,hsize,hblock,?_,?_⟩
  .rintro b ⟨k,o,j,d,g,D⟩
   cases d with
   |head=>rw[kG]at g;cases g;exact(E b D).1
   |tail _ d=>rw[zgh (l _ _ d)]at g;exact .inl ⟨k,o,j,c _ d,g,D⟩
  intro k j h;rw[zgh (λe=>by subst e;rw[C]at h;cases h)];exact h
 refine⟨B,zI.next Y y B (zim A λm h=>hκM m (c _ h)) ?_ ?_ ?_⟩
 .intro k o h d
  cases h with
  |head=>exact absurd rfl d
  |tail _ h=>exact⟨c _ h,zgh d,λj b p r=>hkeep k o j b h p r⟩
 .intro o h
  cases h with
  |head=>exact n B
  |tail _ h=>exact absurd rfl (l _ _ h)
 intro o j b _ p r;rw[kG]at p;cases p
 obtain⟨q,F,G⟩:=E b r;refine⟨λk J v1 s H I=>?_,F,λd=>?_⟩
 .cases s with
  |head=>exact absurd rfl H
  |tail _ s=>exact G k J v1 s I
 rcases q with q|q
 .exact(y.old b q).2 d
 have:=y.kp b d;omega
def zI.let_go{Keep:LI}{M M1:LT}{Z:zh}{w:World}(j:zI Keep M Z w)(c:∀x∈M1,x∈M)(n:M1.Pairwise λa b=>a.1≠b.1):
  Stp (Own M Z) (Own M1 Z) Z Z w w/\zI Keep M1 Z w:=by
 have o:Stp (Own M Z) (Own M1 Z) Z Z w w:=
  ⟨rfl,rfl,.refl _,Xj _,λ_ _ _=>rfl,λb ⟨k,m,v,d,g,l⟩=>.inl ⟨k,m,v,c _ d,g,l⟩,λ_ _ h=>h⟩
 exact⟨o,λk m h=>(j.rel k m (c _ h)).keep o rfl (λ_ _ _ _=>rfl),n,
  λk m k' p v q b d g=>j.apart k m k' p v q b (c _ d) (c _ g),λb ⟨k,m,v,d,g,l⟩=>j.old b ⟨k,m,v,c _ d,g,l⟩,j.kp,j.glS o⟩
variable{k':IntKind}
def zgR{k:IntKind}(h:ztF k k'=true):k=k':=by cases k <;> cases k' <;> first|rfl|(simp[ztF]at h)
def InK(k:IntKind)(e:Int):Prop:=
 match k with
 |.i64=> -9223372036854775808<=e/\e<=9223372036854775807
 |.i32=> -2147483648<=e/\e<=2147483647
 |.i16=> -32768<=e/\e<=32767
 |.i8=> -128<=e/\e<=127
 |.u64=>0<=e/\e<=18446744073709551615
 |.u32=>0<=e/\e<=4294967295
 |.u16=>0<=e/\e<=65535
 |.u8=>0<=e/\e<=255
variable{e:Int}
def zqS{k:IntKind}(h:InK k e):k.wrap e=e:=by
 cases k <;> simp only[InK]at h <;> simp[IntKind.wrap,IntKind.bits,IntKind.signed] <;> (try split) <;> omega
variable{K:SV->Prop}
def vi{k:IntKind}(h:zm2 k e K):K (.val (.int k (k.wrap e))):=by
 cases k <;> simp only[zm2]at h <;> cases h with
 |fit c d=>rw[zqS (by exact c)];exact d
 |wrap h=>exact h
def zaN(s:SV)(v:Value):Prop:=(∃u,s=.val u/\v=u)∨∃p i,s=.pr p i/\v=.bool (@decide p i)
def zaN.g{s:SV}{v:Value}(h:zaN s v){S Pm:LI}{w:World}:G S Pm Z w s v:=by
 obtain⟨u,rfl,rfl⟩|⟨p,i,rfl,rfl⟩:=h
 .exact .d _ _ (.val _)
 exact .d _ _ (.pr p i)
def zaN.val(v:Value):zaN (.val v) v:=.inl ⟨v,rfl,rfl⟩
def zaN.pr{p:Prop}{i:Decidable p}{b:Bool}(h:b=@decide p i):zaN (.pr p i) (.bool b):=.inr ⟨p,i,rfl,by rw[h]⟩
def zDy{k:IntKind}(c:0<=e)(d:e<=kmax k):InK k e:=by cases k <;> simp only[kmax,InK] at*<;> omega
def ztQ{op:BinOp}{k:IntKind}{m n:Int}(q:zvc op=false)(h:intV op k m n K):
  ∃s,K s/\∃v,zaN s v/\∀(P:Program) (t:TypeId) (w:World),(binOp op t (.int k m) (.int k n)).run P w=.ok v w:=by
 cases op <;> simp only[intV]at h <;> try (exact h.elim)
 case add=>exact⟨_,vi h,_,.val _,λP t w=>by simp[binOp,Op.intArith]⟩
 case sub=>exact⟨_,vi h,_,.val _,λP t w=>by simp[binOp,Op.intArith]⟩
 case mul=>exact⟨_,vi h,_,.val _,λP t w=>by simp[binOp,Op.intArith]⟩
 case quo=>
  cases h with
  |pos c d=>
   refine⟨_,d,_,.val _,λP t w=>?_⟩;have j:n≠0:=oM;have l:m.tdiv n=m/n:=Int.tdiv_eq_ediv_of_nonneg c.1;have o:0<=m/n:=Int.ediv_nonneg c.1 oM;have p:m/n<=m:=Int.ediv_le_self n c.1;simp[binOp,Op.intDiv,j,l,zqS (zDy o (Int.le_trans p c.2.2))]
  |any c d=>exact⟨_,vi d,_,.val _,λP t w=>by simp[binOp,Op.intDiv,c]⟩
 case rem=>
  cases h with
  |pos c d=>
   refine⟨_,d,_,.val _,λP t w=>?_⟩;have j:n≠0:=oM;have l:m.tmod n=m%n:=Int.tmod_eq_emod_of_nonneg c.1;simp[binOp,Op.intDiv,j,l]
  |any c d=>exact⟨_,d,_,.val _,λP t w=>by simp[binOp,Op.intDiv,c]⟩
 case eql=>exact⟨_,h,.bool (m==n),.pr (by rw[QG];simp),λP t w=>by simp[binOp,Op.intCmp]⟩
 case neq=>exact⟨_,h,.bool (m != n),.pr (by rw[QG];simp),λP t w=>by simp[binOp,Op.intCmp]⟩
 case lss=>exact⟨_,h,.bool (decide (m<n)),.pr rfl,λP t w=>by simp[binOp,Op.intCmp]⟩
 case leq=>exact⟨_,h,.bool (decide (m<=n)),.pr rfl,λP t w=>by simp[binOp,Op.intCmp]⟩
 case gtr=>exact⟨_,h,.bool (decide (m > n)),.pr rfl,λP t w=>by simp[binOp,Op.intCmp]⟩
 case geq=>exact⟨_,h,.bool (decide (m≥n)),.pr rfl,λP t w=>by simp[binOp,Op.intCmp]⟩
 case and=>
  obtain⟨r,g,h⟩:=h;refine⟨_,h,.int k r,.val _,λP t w=>?_⟩;rw[g];simp[binOp,Op.intBits,vy]
 case or=>
  obtain⟨r,g,h⟩:=h;refine⟨_,h,.int k r,.val _,λP t w=>?_⟩;rw[g];simp[binOp,Op.intBits,vy]
 case xor=>
  obtain⟨r,g,h⟩:=h;refine⟨_,h,.int k r,.val _,λP t w=>?_⟩;rw[g];simp[binOp,Op.intBits,vy]
 case andNot=>
  obtain⟨r,g,h⟩:=h;refine⟨_,h,.int k r,.val _,λP t w=>?_⟩;rw[g];simp[binOp,Op.intBits,vy]
def zzD(m:Int)(c:Nat):m.fdiv (2^c)=m/2^c:=Int.fdiv_eq_ediv_of_nonneg m (Int.pow_nonneg oM)
def zpf{op:BinOp}{y:Operand}{k:IntKind}{m n:Int}(h:ztG op y k m n K):
  ∃s,K s/\∃v,zaN s v/\∀(P:Program) (t:TypeId) (w:World),(binOp op t (.int k m) (.int k' n)).run P w=.ok v w:=by
 unfold ztG at h
 split at h
 .split at h
  .rename_i c;have d:min c k.bits=c:=by have:=h.ob;omega
   refine⟨_,vi h.go,_,.val _,λP t w=>?_⟩;simp[binOp,Op.shift,d];intro l;omega
  exact h.elim
 .obtain⟨g,j⟩:=h.ob;have d:min n.toNat k.bits=n.toNat:=oM;refine⟨_,vi h.go,_,.val _,λP t w=>?_⟩;simp[binOp,Op.shift,d,show¬n<0 by omega]
 .split at h
  .rename_i c;have d:min c k.bits=c:=by have:=h.ob;omega
   refine⟨_,h.go,_,.val _,λP t w=>?_⟩;simp[binOp,Op.shift,d,zzD];intro l;omega
  exact h.elim
 .obtain⟨g,j⟩:=h.ob;have d:min n.toNat k.bits=n.toNat:=oM;refine⟨_,h.go,_,.val _,λP t w=>?_⟩;simp[binOp,Op.shift,d,show¬n<0 by omega,zzD]
 exact h.elim
def eqB:LA->LA->Bool
 |.int _ m::r,.int _ n::c=>(m==n)&&eqB r c
 |[],[]=>true
 |_,_=>false
inductive ug:LA->LA->Prop
 |nil:ug [] []
 |cons (k:IntKind) (m n:Int) {r r':LA} (h:ug r r'):ug (.int k m::r) (.int k n::r')
def zgS{cs g:LR}:∀{K:(p:Prop)->Decidable p->Prop},zgK cs g K->∃p i,K p i/\
  ∀{S Pm:LI} {Z:zh} {w:World} {vs us:LA},Gs S Pm Z w cs vs->Gs S Pm Z w g us->ug vs us/\eqB vs us=@decide p i:=by
 induction cs generalizing g with
 |nil=>
  intro K h
  cases g with
  |nil=>exact⟨True,_,h,λj l=>by rw[j.nil_inv,l.nil_inv];exact⟨.nil,rfl⟩⟩
  |cons d g=>exact h.elim
 |cons c cs D=>
  intro K h
  cases g with
  |nil=>exact h.elim
  |cons d g=>
   simp only[zgK]at h;have h:=qH (qH h)
   split at h
   .rename_i k m k' n;obtain⟨o,q⟩:=zj h;obtain⟨p,i,hK,C⟩:=D q;have o:=zgR o;refine⟨_,_,hK,λj l=>?_⟩;obtain⟨v,vs,rfl,r,s⟩:=j.cons_inv;obtain⟨u,us,rfl,y,z⟩:=l.cons_inv;subst o;rw[r.val_inv,y.val_inv];obtain⟨A,B⟩:=C s z;refine⟨.cons _ _ _ A,?_⟩;simp only[eqB,B];rw[QG];simp
   exact h.elim
def ug.length{vs us:LA}(h:ug vs us):vs.length=us.length:=by induction h <;> simp_all
def ug.drop{vs us:LA}(n:Nat)(h:ug vs us):ug (vs.drop n) (us.drop n):=by
 induction n generalizing vs us with
 |zero=>exact h
 |succ n c=>cases h with
  |nil=>exact .nil
  |cons k m n h=>exact c h
def ug.take{vs us:LA}(n:Nat)(h:ug vs us):ug (vs.take n) (us.take n):=by
 induction n generalizing vs us with
 |zero=>exact .nil
 |succ n c=>cases h with
  |nil=>exact .nil
  |cons k m n h=>exact .cons _ _ _ (c h)
def zns{vs us:LA}(n:Nat)(h:ug vs us):eqB vs us=(eqB (vs.take n) (us.take n)&&eqB (vs.drop n) (us.drop n)):=by
 induction n generalizing vs us with
 |zero=>simp[eqB]
 |succ n c=>cases h with
  |nil=>rfl
  |cons k m n h=>simp[eqB,c h,Bool.and_assoc]
def zd4(agg:Bool)(vs:LA):Value:=if agg then .agg vs.toArray else vs.headD undef
def zco{P:Program}{t:TypeId}{i:TI}(hT:zjX P t i)(vs:LA)(off:Nat)(h:off+i.sz<=vs.length)(k:i.kind.agg=false->i.sz=1)(w:World):
  (part t vs.toArray off).run P w=.ok (zd4 i.kind.agg ((vs.drop off).take i.sz)) w:=by
 unfold part;rw[Sem.run_bind,hT.agg w,Result.andThen_ok]
 cases j:i.kind.agg with
 |true=>simp[hT.size,zd4]
 |false=>
  have d:=k j;have c:off<vs.length:=oM;have g:(List.take 1 (List.drop off vs))=[vs[off]]:=by rw[K8 c];rfl
  simp[zd4,d,c,g]
def zqT{P:Program}{I:LS}(hT:TOK P I)(n:Nat)(s:∀t i,ti I t=some i->zgL I n t=true->(i.kind.agg=false->i.sz=1)/\∀(d:Nat) (vs us:LA) (w:World),vs.length=i.sz->ug vs us->
   (Op.equalIn (n+d) t (zd4 i.kind.agg vs) (zd4 i.kind.agg us)).run P w=.ok (eqB vs us) w)(d sz:Nat)(vs us:LA)(p:vs.length=sz)(g:ug vs us)(w:World):
  ∀(F:List Field) (at_:Nat),zkB I (zgL I n) (F.map λf=>(f.offset,f.type)) at_ sz=true->(∀f∈F,f.name≠ "_")->
   at_<=sz/\(Op.eqFields (n+d) vs.toArray us.toArray F).run P w=.ok (eqB (vs.drop at_) (us.drop at_)) w
 |[],at_,h,_=>by
  simp only[List.map_nil,zkB]at h;have h:=Xk h;subst h;have c:=g.length;simp[Op.eqFields,Jv (YV p),Jv (YV (c ▸ p)),eqB]
 |f::F,at_,h,q=>by
  simp only[Qu,zkB]at h
  split at h
  .rename_i j o;obtain⟨k,h⟩:=kr h;obtain⟨v,y⟩:=kr h;have k:=Xk k;obtain⟨r,A⟩:=s _ _ o v;obtain⟨E,z⟩:=zqT hT n s d sz vs us p g w F (at_+j.sz) y (λf B=>q f (.tail _ B));have c:=g.length;have p1:=zco (hT _ _ o) vs f.offset oM r w;have D:=zco (hT _ _ o) us f.offset oM r w;have l:=A d ((vs.drop f.offset).take j.sz) ((us.drop f.offset).take j.sz) w (by simp;omega) ((g.drop _).take _);refine⟨oM,?_⟩;have C:=zns j.sz (g.drop f.offset)
   simp only[Op.eqFields,q f (.head _),ne_eq,not_false_eq_true,if_true,Sem.run_bind,p1,D,Result.andThen_ok,l];rw[←k,C]
   cases G:eqB ((vs.drop f.offset).take j.sz) ((us.drop f.offset).take j.sz) with
   |true=>simp[z,k,J7]
   |false=>simp
  cases h
def zd5{P:Program}{I:LS}(hT:TOK P I):∀(n:Nat) (t:TypeId) (i:TI),ti I t=some i->zgL I n t=true->
  (i.kind.agg=false->i.sz=1)/\∀(d:Nat) (vs us:LA) (w:World),vs.length=i.sz->ug vs us->
   (Op.equalIn (n+d) t (zd4 i.kind.agg vs) (zd4 i.kind.agg us)).run P w=.ok (eqB vs us) w
 |0,t,i,hi,h=>by simp[zgL]at h
 |n+1,t,i,hi,h=>by
  unfold zgL at h;rw[hi]at h;simp only at h;have hK:=(hT t i hi).kind
  split at h
  .rename_i k l;rw[l]at hK;have r:=Xk h;refine⟨λ_=>r,λd vs us w v p=>?_⟩;rw[r]at v
   cases p with
   |nil=>simp at v
   |cons k' m m' h=>
    cases h with
    |nil=>
     rw[show n+1+d=(n+d)+1 by omega];simp only[l,TK.agg,zd4,KJ,if_false,List.headD_cons,run_equalIn_int w _ t k' k m _ hK,eqB,Bool.and_true]
    |cons=>simp at v
  .rename_i fs l;obtain⟨N,R⟩:=kr h;rw[l]at hK;obtain⟨F,hF,hmap,_⟩:=hK;obtain⟨W,h2,X⟩:=(hT t i hi).cmp N;have q:P.fieldsOf t=F:=by simp[Program.fieldsOf,hF]
   refine⟨λh=>(by rw[l]at h;cases h),λd vs us w v p=>?_⟩;rw[show n+1+d=(n+d)+1 by omega];rw[←hmap]at R;have:=(zqT hT n (zd5 hT n) d i.sz vs us v p w F.toList 0 R (by rw[←q];exact X)).2;simp only[l,TK.agg,zd4,if_true];rw[run_equalIn_struct w (n+d) t _ _ (by rw[q];exact hF) W,q]
   simpa using this
  .rename_i len e l;obtain⟨N,J⟩:=kr h;obtain⟨g,L⟩:=kr J;obtain⟨hisz,z⟩:=kr L;have g:=Xk g;have hisz:=Xk hisz;subst g;clear h J L
   cases o:ti I e with
   |some j=>
    rw[o]at z;obtain⟨c,E⟩:=kr z;have c:=Xk c;rw[l]at hK;have hK:P.underlying t=some (.array 2 e):=hK;obtain⟨r,O⟩:=zd5 hT n e j o E;refine⟨λh=>(by rw[l]at h;cases h),λd vs us w v p=>?_⟩;rw[show n+1+d=(n+d)+1 by omega];simp only[l,TK.agg,zd4,if_true];obtain⟨f,Q,D,_⟩:=(hT e j o).inf;rw[run_equalIn_array w (n+d) _ _ hK Q];have C:P.cellsOf e=1:=by unfold Program.cellsOf;rw[Q];simp[D,c]
    have hlu:=p.length;have p1:=zco (hT e j o) vs 0 oM r w;have T:=zco (hT e j o) us 0 oM r w;have A:=zco (hT e j o) vs 1 oM r w;have B:=zco (hT e j o) us 1 oM r w;have H:=O d ((vs.drop 0).take j.sz) ((us.drop 0).take j.sz) w (by simp;omega) ((p.drop 0).take _);have s:=O d ((vs.drop 1).take j.sz) ((us.drop 1).take j.sz) w (by simp;omega) ((p.drop 1).take _);have hs:=zns 1 p;have U:(vs.drop 1).take j.sz=vs.drop 1:=Xi (by simp;omega);have V:(us.drop 1).take j.sz=us.drop 1:=Xi (by simp;omega)
    rw[U,V]at s;rw[c]at H;rw[U]at A;rw[V]at B;rw[c]at p1 T;rw[hs,C];have G:List.range 2=[0,1]:=rfl;rw[G];simp only[Op.eqItems,Sem.run_bind,JB,YO,p1,T,A,B,Result.andThen_ok,H,s];simp only[Qd]
    cases hb:eqB (vs.take 1) (us.take 1) with
    |true=>
     rw[hb] at*
     cases y:eqB (vs.drop 1) (us.drop 1) with
     |true=>rw[y,Yk,Yk]at s;simp[A,B,s]
     |false=>rw[y,Yk,Yk]at s;simp[A,B,s]
    |false=>simp
   |none=>rw[o]at z;cases z
  cases h
def ze0{s:SV}{K:(p:Prop)->Decidable p->Prop}(h:zxj s K):∃p i,K p i/\∀{S Pm:LI} {Z:zh} {w:World} {v:Value},G S Pm Z w s v->v=.bool (@decide p i):=by
 unfold zxj at h
 split at h
 .exact⟨_,_,h,λc=>c.pr_inv⟩
 .exact⟨_,_,h,λc=>by rw[c.val_inv];rfl⟩
 .exact⟨_,_,h,λc=>by rw[c.val_inv];rfl⟩
 exact h.elim
end
section
variable{P:Program}{op:Op}{svs:LR}{lm:LJ}{Y:Nat}
def yq.pure{s:SV}(h:∀(o:Oper),o.op=op->∀(S Pm:LI) (Z:zh) (a:Act) (w:World),Gs S Pm Z w svs ((qm op).map a.eval)->
  ∃v,(execOp a.eval o).run P w=.ok (.value v) w/\G S Pm Z w s v):yq P op svs lm Y s .none:=by
 intro o k Keep M Z a w _ j _ _ g;obtain⟨v,c,d⟩:=h o k _ _ Z a w g;exact qB.value c (qg.same j d)
def yq.read{s:SV}(h:∀(o:Oper),o.op=op->∀(Keep:LI) (M:LT) (Z:zh) (a:Act) (w:World),(∀k m,lm k=some m->(k,m)∈M)->zI Keep M Z w->
  Gs (λb=>Keep b∨Own M Z b) (Own M Z) Z w svs ((qm op).map a.eval)->
  ∃v,(execOp a.eval o).run P w=.ok (.value v) w/\G (λb=>Keep b∨Own M Z b) (Own M Z) Z w s v):yq P op svs lm Y s .none:=by
 intro o n Keep M Z a w c d _ _ l;obtain⟨v,g,j⟩:=h o n Keep M Z a w (λk m h=>zu (c k m h)) d l;exact qB.value g (qg.same d j)
end
section
variable{P:Program}
def zay{w:World}{t e:TypeId}{p:Option Addr}(h:P.underlying t=some (.pointer e)):(Op.equal t (.pointer p) (.pointer none)).run P w=.ok p.isNone w:=by
 have key:∀d,(Op.equalIn (d+1) t (.pointer p) (.pointer none)).run P w=.ok p.isNone w:=λd=>by
  cases p <;> simp[Op.equalIn,run_underlying h]
 exact key 9999
variable{ms:Array (String×TypeId)}
def ze1{w:World}{t u:TypeId}{v:Value}(h:P.underlying t=some (.interface ms)):(Op.equal t (.iface u v) .nilIface).run P w=.ok false w:=by
 have key:∀d,(Op.equalIn (d+1) t (.iface u v) .nilIface).run P w=.ok false w:=λd=>by simp[Op.equalIn,run_underlying h]
 exact key 9999
def zc3{w:World}{t:TypeId}(h:P.underlying t=some (.interface ms)):(Op.equal t .nilIface .nilIface).run P w=.ok true w:=by
 have key:∀d,(Op.equalIn (d+1) t .nilIface .nilIface).run P w=.ok true w:=λd=>by simp[Op.equalIn,run_underlying h]
 exact key 9999
def zqU{w:World}{t:TypeId}{f:Fn}{x y:Array Value}{a b:Array TypeId}{c:Bool}(h:P.underlying t=some (.func a b c)):(Op.equal t (.func f x y) .nilFunc).run P w=.ok false w:=by
 have key:∀d,(Op.equalIn (d+1) t (.func f x y) .nilFunc).run P w=.ok false w:=λd=>by simp[Op.equalIn,run_underlying h]
 exact key 9999
variable{a:SV}{b:SV}{S:LI}{Pm:LI}{Z:zh}
def znt{t:TypeId}{k:TK}{y:Operand}{r:Bool}(c:zgg P t k)(h:zzm k (zvb y) a b=some r){w:World}{u v:Value}(g:G S Pm Z w a u)(j:G S Pm Z w b v):
  ((binOp .eql t u v).run P w=.ok (.bool r) w/\(binOp .neq t u v).run P w=.ok (.bool (!r)) w)/\∀op x,(eqGuard op t x y u v).run P w=.ok () w:=by
 unfold zzm at h
 split at h
 .split at h
  .cases h;rw[g.val_inv,j.val_inv];exact⟨⟨by simp[binOp,run_equal_slice_nil w t _ none 0 0 c],by simp[binOp,run_equal_slice_nil w t _ none 0 0 c]⟩,λ_ _=>by simp[eqGuard]⟩
  cases h
 .split at h
  .cases h;obtain⟨_,_,_,rfl,_⟩:=g.dptr_inv;rw[j.val_inv];exact⟨⟨by simp[binOp,zay c],by simp[binOp,zay c]⟩,λ_ _=>by simp[eqGuard]⟩
  cases h
 .split at h
  .cases h;obtain⟨_,_,_,rfl,_⟩:=g.ptr_inv;rw[j.val_inv];exact⟨⟨by simp[binOp,zay c],by simp[binOp,zay c]⟩,λ_ _=>by simp[eqGuard]⟩
  cases h
 .split at h
  .cases h;obtain⟨_,_,rfl⟩:=g.loc_inv;rw[j.val_inv];exact⟨⟨by simp[binOp,zay c],by simp[binOp,zay c]⟩,λ_ _=>by simp[eqGuard]⟩
  cases h
 .split at h
  .cases h;rw[g.val_inv,j.val_inv];exact⟨⟨by simp[binOp,zay c],by simp[binOp,zay c]⟩,λ_ _=>by simp[eqGuard]⟩
  cases h
 .split at h
  .cases h;obtain⟨_,rfl,_⟩:=g.ifc_inv;rw[j.val_inv];obtain⟨_,c⟩:=c;exact⟨⟨by simp[binOp,ze1 c],by simp[binOp,ze1 c]⟩,λ_ _=>by simp[eqGuard]⟩
  cases h
 .split at h
  .rename_i hlit
   cases h;rw[g.val_inv,j.val_inv];obtain⟨_,c⟩:=c
   refine⟨⟨by simp[binOp,zc3 c],by simp[binOp,zc3 c]⟩,λ_ _=>?_⟩
   cases y <;> first|(cases hlit;done)|simp[eqGuard]
  cases h
 .split at h
  .cases h
   cases g with
   |d _ _ g=>
    cases g with
    |dfn _ _ _ _ _=>rw[j.val_inv];obtain⟨_,_,_,c⟩:=c;exact⟨⟨by simp[binOp,zqU c],by simp[binOp,zqU c]⟩,λ_ _=>by simp[eqGuard]⟩
  cases h
 cases h
variable{x:Operand}{lm:LJ}{Y:Nat}{K:SV->Prop}
def zxm{I:LS}(hT:TOK P I){op:BinOp}{t yt:TypeId}{y:Operand}(h:bin I op t y a b K):∃s,K s/\yq P (.binOp op t x y yt) [a,b] lm Y s .none:=by
 unfold bin at h
 split at h
 .rename_i k m k' n
  have F:∃s,K s/\∃v,zaN s v/\∀(P:Program) (t:TypeId) (w:World),(binOp op t (.int k m) (.int k' n)).run P w=.ok v w:=by
   split at h
   .exact zpf h
   rename_i hs;obtain⟨A,h'⟩:=zj h;have:=zgR A;subst this;exact ztQ hs h'
  obtain⟨s,hK,v,hg,X⟩:=F;refine⟨s,hK,.pure λo B S Pm Z a w j=>⟨v,?_,hg.g⟩⟩;have C:=(Gs.head j).val_inv;have D:=(Gs.head (Gs.tail j)).val_inv;simp[execOp,B,C,D,eqGuard_at_int,X]
 .rename_i cs T;obtain⟨i,hi,h⟩:=zE h;obtain⟨hagg,h⟩:=zj h;obtain⟨E,h⟩:=zj h;obtain⟨hint,h⟩:=zj h;have E:=Xk E;have hsound:=(zd5 hT 8 t i hi hint).2
  have V:i.cmp=true:=by
   unfold zgL at hint;rw[hi]at hint;simp only at hint
   split at hint
   .rename_i A;rw[A]at hagg;cases hagg
   .exact(kr hint).1
   .exact(kr hint).1
   cases hint
  have hguard:=((hT t i hi).cmp V).2.1
  have run:∀(cs T:LA) (w:World),cs.length=i.sz->ug cs T->(Op.equalIn 10000 t (.agg cs.toArray) (.agg T.toArray)).run P w=.ok (eqB cs T) w:=by
   intro cs T w J F;have:=hsound 9992 cs T w J F
   simpa[zd4,hagg] using this
  split at h
  .obtain⟨p,ip,hK,N⟩:=zgS h;refine⟨_,hK,.pure λo B S Pm Z a w j=>?_⟩;obtain⟨vs,C,H⟩:=(Gs.head j).agg_inv;obtain⟨us,D,R⟩:=(Gs.head (Gs.tail j)).agg_inv;obtain⟨J,F⟩:=N H R;refine⟨.bool (eqB vs us),?_,(zaN.pr F).g⟩;simp only[execOp,B,C,D,Sem.run_bind,run_eqGuard_agg w _ t x y _ _ hguard,Result.andThen_ok,run_eql_struct,run vs us w (by rw[H.1,E]) J,Sem.run_pure]
  .obtain⟨p,ip,hK,N⟩:=zgS h;refine⟨_,hK,.pure λo B S Pm Z a w j=>?_⟩;obtain⟨vs,C,H⟩:=(Gs.head j).agg_inv;obtain⟨us,D,R⟩:=(Gs.head (Gs.tail j)).agg_inv;obtain⟨J,F⟩:=N H R;refine⟨.bool (!eqB vs us),?_,(zaN.pr (by rw[F];rw[QG];simp)).g⟩;simp only[execOp,B,C,D,Sem.run_bind,run_eqGuard_agg w _ t x y _ _ hguard,Result.andThen_ok,run_neq_struct,run vs us w (by rw[H.1,E]) J,Sem.run_pure]
  exact h.elim
 .rename_i α enc xs;replace h:=zE h;obtain⟨i,hi,h⟩:=h;have A:=(hT t i hi).kind
  have key:∀{S Pm:LI} {Z:zh} {w:World} {v:Value},G S Pm Z w (.sl enc xs) v->∃a c,v=.slice a xs.length c/\(xs.length≠0->a.isNone=false):=λhg=>by
   obtain⟨rfl,a,rfl⟩|⟨_,b,o,cap,_,rfl,_⟩:=hg.sl_inv.sl_inv
   .exact⟨a,0,rfl,λh=>absurd rfl h⟩
   exact⟨_,cap,rfl,λ_=>rfl⟩
  have hguard:∀(w:World) (a b:Value),(∃x y z,a=.slice x y z)->(eqGuard op t x y a b).run P w=.ok () w:=λw a b ⟨x,y,z,e⟩=>by subst e;simp[eqGuard]
  unfold zzl at h
  split at h
  .rename_i e l;rw[l]at A;have A:P.underlying t=some (.slice e):=A
   obtain⟨hn,h⟩|h:=h
   .refine⟨_,h,.pure λo B S Pm Z a w j=>?_⟩;obtain⟨ad,c,C,W⟩:=key (Gs.head j);have D:=(Gs.head (Gs.tail j)).val_inv;refine⟨.bool false,?_,(zaN.val _).g⟩;simp[execOp,B,C,D,hguard,binOp,run_equal_slice_nil w t e ad _ c A,W hn]
   refine⟨_,h,.pure λo B S Pm Z a w j=>?_⟩;obtain⟨ad,c,C,W⟩:=key (Gs.head j);have D:=(Gs.head (Gs.tail j)).val_inv;refine⟨.bool ad.isNone,?_,.d _ _ (.anyb _)⟩;simp[execOp,B,C,D,hguard,binOp,run_equal_slice_nil w t e ad _ c A]
  .rename_i e l;rw[l]at A;have A:P.underlying t=some (.slice e):=A
   obtain⟨hn,h⟩|h:=h
   .refine⟨_,h,.pure λo B S Pm Z a w j=>?_⟩;obtain⟨ad,c,C,W⟩:=key (Gs.head j);have D:=(Gs.head (Gs.tail j)).val_inv;refine⟨.bool true,?_,(zaN.val _).g⟩;simp[execOp,B,C,D,hguard,binOp,run_equal_slice_nil w t e ad _ c A,W hn]
   refine⟨_,h,.pure λo B S Pm Z a w j=>?_⟩;obtain⟨ad,c,C,W⟩:=key (Gs.head j);have D:=(Gs.head (Gs.tail j)).val_inv;refine⟨.bool (!ad.isNone),?_,.d _ _ (.anyb _)⟩;simp[execOp,B,C,D,hguard,binOp,run_equal_slice_nil w t e ad _ c A]
  exact h.elim
 .rename_i U;replace h:=zE h;obtain⟨i,hi,h⟩:=h;have A:=(hT t i hi).kind
  split at h
  .rename_i l;rw[l]at A;obtain⟨ms,A⟩:=A;replace h:=zj h;obtain⟨hlit,h⟩:=h;obtain⟨yv,hyv⟩:∃yv,y=.const yv:=by cases y <;> first|exact⟨_,rfl⟩|cases hlit
   subst hyv
   split at h
   .refine⟨_,h,.pure λo B S Pm Z a w j=>?_⟩;obtain⟨C,L⟩:=(Gs.head j).op_inv;have D:=(Gs.head (Gs.tail j)).val_inv;refine⟨.bool (zqL U),?_,(zaN.pr (by cases zqL U <;> simp)).g⟩
    cases U <;> first|(cases L;done)|simp[execOp,B,C,D,eqGuard,binOp,zc3 A,ze1 A,zqL]
   .refine⟨_,h,.pure λo B S Pm Z a w j=>?_⟩;obtain⟨C,L⟩:=(Gs.head j).op_inv;have D:=(Gs.head (Gs.tail j)).val_inv;refine⟨.bool (!zqL U),?_,(zaN.pr (by cases zqL U <;> simp)).g⟩
    cases U <;> first|(cases L;done)|simp[execOp,B,C,D,eqGuard,binOp,zc3 A,ze1 A,zqL]
   exact h.elim
  exact h.elim
 replace h:=zE h;obtain⟨i,hi,h⟩:=h;have A:=(hT t i hi).kind
 split at h
 .rename_i r X;unfold zvd at h
  split at h
  .refine⟨_,h,.pure λo B S Pm Z a w j=>?_⟩;obtain⟨⟨J,_⟩,F⟩:=znt A X (Gs.head j) (Gs.head (Gs.tail j));exact⟨.bool r,by simp[execOp,B,J,F],(zaN.val _).g⟩
  .refine⟨_,h,.pure λo B S Pm Z a w j=>?_⟩;obtain⟨⟨_,J⟩,F⟩:=znt A X (Gs.head j) (Gs.head (Gs.tail j));exact⟨.bool (!r),by simp[execOp,B,J,F],(zaN.val _).g⟩
  exact h.elim
 split at h
 .rename_i l;rw[l]at A;obtain⟨p,ip,h,N⟩:=ze0 h;obtain⟨q,iq,h,hq⟩:=ze0 h;refine⟨_,h,.pure λo B S Pm Z a w j=>?_⟩;have C:=N (Gs.head j);have D:=hq (Gs.head (Gs.tail j));refine⟨.bool (@decide p ip==@decide q iq),?_,(zaN.pr (by by_cases O:p <;> by_cases Q:q <;> simp[O,Q])).g⟩;simp[execOp,B,C,D,eqGuard_at_bool,binOp,Op.equal,Op.maxDepth,run_equalIn_bool w 9999 t _ _ A]
 .rename_i l;rw[l]at A;obtain⟨p,ip,h,N⟩:=ze0 h;obtain⟨q,iq,h,hq⟩:=ze0 h;refine⟨_,h,.pure λo B S Pm Z a w j=>?_⟩;have C:=N (Gs.head j);have D:=hq (Gs.head (Gs.tail j));refine⟨.bool (!(@decide p ip==@decide q iq)),?_,(zaN.pr (by by_cases O:p <;> by_cases Q:q <;> simp[O,Q])).g⟩;simp[execOp,B,C,D,eqGuard_at_bool,binOp,Op.equal,Op.maxDepth,run_equalIn_bool w 9999 t _ _ A]
 exact h.elim
def ztR{c:SV}{xc xa xb:Operand}{K:LD}(h:zzu c a b K):
  ∃s,K s .none/\yq P (.pick xc xa xb) [c,a,b] lm Y s .none:=by
 have yes:∀(j:Bool),(∀{S Pm:LI} {Z:zh} {w:World} {v:Value},G S Pm Z w c v->v=.bool j)->yq P (.pick xc xa xb) [c,a,b] lm Y (if j then a else b) .none:=by
  intro j y;refine .pure λo n S Pm Z e w g=>?_
  have l:=y (Gs.head g);have q:=Gs.head (Gs.tail g);have r:=Gs.head (Gs.tail (Gs.tail g))
  cases j with
  |true=>exact⟨_,by simp[execOp,n,l,asBool],q⟩
  |false=>exact⟨_,by simp[execOp,n,l,asBool],r⟩
 unfold zzu at h
 split at h
 .exact⟨a,h,yes true λd=>d.val_inv⟩
 .exact⟨b,h,yes false λd=>d.val_inv⟩
 .rename_i p i
  by_cases k:p
  .exact⟨a,h.yes k,yes true λd=>by rw[d.pr_inv];simp[k]⟩
  exact⟨b,h.no k,yes false λd=>by rw[d.pr_inv];simp[k]⟩
 exact h.elim
def zzE{op:UnOp}{t:TypeId}{s:SV}{K:LD}(h:unV op s K):
  ∃r,K r .none/\yq P (.unOp op t x) [s] lm Y r .none:=by
 unfold unV at h
 split at h
 .exact⟨_,h,.pure λo d S Pm Z a w c=>⟨.bool false,by simp[execOp,d,(Gs.head c).val_inv,Op.unary],(zaN.val _).g⟩⟩
 .exact⟨_,h,.pure λo d S Pm Z a w c=>⟨.bool true,by simp[execOp,d,(Gs.head c).val_inv,Op.unary],(zaN.val _).g⟩⟩
 .rename_i p i;exact⟨_,h,.pure λo d S Pm Z a w c=>⟨.bool (!(@decide p i)),by simp[execOp,d,(Gs.head c).pr_inv,Op.unary],(zaN.pr (by rw[QG];simp)).g⟩⟩
 .rename_i k n;exact⟨_,vi h,.pure λo d S Pm Z a w c=>⟨.int k (k.wrap (-n)),by simp[execOp,d,(Gs.head c).val_inv,Op.unary,Op.intArith],(zaN.val _).g⟩⟩
 exact h.elim
variable{cs:LR}
def vB{agg:Bool}{sz:Nat}(h:mkV agg sz cs K):∃s,K s/\((agg=true/\s=.agg (cs.take sz))∨(agg=false/\∃r,cs=s::r)):=by
 unfold mkV at h
 split at h
 .exact⟨_,h,.inl ⟨rfl,rfl⟩⟩
 split at h
 .exact⟨_,qH h,.inr ⟨rfl,_,rfl⟩⟩
 exact h.elim
def yg(b o n:Nat):(⟨b,o,none⟩:Addr).add n=⟨b,o+n,none⟩:=by unfold Addr.add;split <;> simp_all
variable{vs:LA}
def zcp{t:TypeId}{i:TI}(hT:zjX P t i){w:World}{b o:Nat}(c:Gs S Pm Z w cs vs)(h:∀j v,vs[j]?=some v->w.cell? ⟨b,o+j,none⟩=some v)(n:i.sz<=cs.length){s:SV}(p:(i.kind.agg=true/\s=.agg (cs.take i.sz))∨(i.kind.agg=false/\∃r,cs=s::r)):
  ∃v,(loadVar t ⟨b,o,none⟩).run P w=.ok v w/\G S Pm Z w s v:=by
 unfold loadVar;rw[Sem.run_bind,hT.agg w,Result.andThen_ok]
 obtain⟨g,rfl⟩|⟨g,r,rfl⟩:=p
 .have l:(vs.take i.sz).length=i.sz:=by have:=c.1;simp;omega
  have hload:=run_loadCells_list (P:=P) w ⟨b,o,none⟩ (vs.take i.sz) (λj v d=>by
   rw[yg];rw[XM]at d
   split at d
   .exact h j v d
   cases d)
  rw[l]at hload;refine⟨.agg (vs.take i.sz).toArray,?_,.agg _ _ (c.take _).1 (c.take _).2⟩;simp[g,hT.size,hload]
 obtain⟨v,q,rfl,k,y⟩:=c.cons_inv;have:=h 0 v rfl;exact⟨v,by simp only[g,KJ,if_false,run_load,XX]at this ⊢;rw[this],k⟩
def zqV{s:SV}(h:znn s=true){w:World}{v:Value}(c:G S Pm Z w s v):v.oneCell'=true:=by
 cases s with
 |val u=>rw[c.val_inv];cases u <;> first|rfl|(simp[znn]at h)
 |pr p i=>rw[c.pr_inv];rfl
 |agg cs=>simp[znn]at h
 |sl enc xs=>obtain⟨_,_,rfl⟩|⟨_,_,_,_,_,rfl,_⟩:=c.sl_inv.sl_inv <;> rfl
 |nils=>obtain⟨_,rfl⟩:=c.nils_inv;rfl
 |anyb=>obtain⟨_,rfl⟩:=c.anyb_inv;rfl
 |full enc xs=>obtain⟨_,rfl,_⟩:=c.full_inv;rfl
 |ptr cs=>obtain⟨_,_,_,rfl,_⟩:=c.ptr_inv;rfl
 |loc k off=>obtain⟨_,_,rfl⟩:=c.loc_inv;rfl
 |own k=>exact c.own_inv.2
 |eloc k sz i off=>obtain⟨_,_,_,_,rfl⟩:=c.eloc_inv;rfl
 |win k sz lo n=>obtain⟨_,_,_,_,_,rfl,_⟩:=c.win_inv;rfl
 |fn f cs=>obtain⟨_,rfl,_⟩:=c.fn_inv;rfl
 |dptr cs=>obtain⟨_,_,_,rfl,_⟩:=c.dptr_inv;rfl
 |dfn f cs=>obtain⟨_,rfl,_⟩:=c.dfn_inv;rfl
 |bm f cs=>obtain⟨_,rfl,_⟩:=c.bm_inv;rfl
 |op v=>obtain⟨rfl,h⟩:=c.op_inv;cases v <;> first|rfl|cases h
 |ifc t s=>obtain⟨_,rfl,_⟩:=c.ifc_inv;rfl
 |tup cs=>simp[znn]at h
 |junk=>simp[znn]at h
def zin(h:yc cs=true){w:World}(d:Gs S Pm Z w cs vs):∀v∈vs,v.oneCell'=true:=by
 induction cs generalizing vs with
 |nil=>rw[d.nil_inv];simp
 |cons s cs l=>
  obtain⟨v,n,rfl,g,j⟩:=d.cons_inv;simp only[yc]at h
  split at h
  .rename_i k;intro u c
   cases c with
   |head=>exact zqV k g
   |tail _ c=>exact l h j u c
  cases h
def znu{v:Value}(h:v.oneCell'=true):v.cells=#[v]:=by cases v <;> first|rfl|(simp[Value.oneCell']at h)
def v8{s:SV}(h:yc (kT s)=true){w:World}{v:Value}(d:G S Pm Z w s v):
  Gs S Pm Z w (kT s) v.cells.toList/\∀u∈v.cells.toList,u.oneCell'=true:=by
 have key:Gs S Pm Z w (kT s) v.cells.toList:=by
  by_cases g:∃cs,s=.agg cs
  .obtain⟨cs,rfl⟩:=g;obtain⟨vs,rfl,c⟩:=d.agg_inv;exact c
  have j:kT s=[s]:=by cases s <;> first|rfl|exact absurd ⟨_,rfl⟩ g
  rw[j]at h ⊢;simp only[yc]at h
  split at h
  .rename_i c;rw[znu (zqV c d)];exact .cons d .nil
  cases h
 exact⟨key,zin h key⟩
def zqW{w:World}{new:LR}{us:LA}(off:Nat)(h:Gs S Pm Z w cs vs)(c:Gs S Pm Z w new us):
  Gs S Pm Z w (vw cs off new) (vs.take off++us++vs.drop (off+us.length)):=by
 unfold vw;rw[c.1];exact((h.take _).append c).append (h.drop _)
end
end Go.Gs
