/- What a symbolic value says, read back; blocks of one's own behind a change. -/
import Derived.Test.YtkngjacccoklaaaGreatDoorMA
import Derived.Test.YtkngjacccoklaaaGreatDoorMAB
import Derived.Laws.StructEq
import Derived.Laws.MakeOwn
import Derived.Laws.Slices
import Derived.Laws.BitsLemmas
import Derived.Laws.Small
import Derived.ChangeKeysEq
import Derived.Laws.CopyRow
import Derived.Laws.Cover3
set_option maxRecDepth 100000
set_option maxHeartbeats 8000000
set_option linter.all false
namespace Go.Gs
section inv
variable{S Pm:Nat->Prop}{ρ:zi}{w:World}
section
variable{u:Value}
def D.val_inv{v:Value}(h:D S w (.val v) u):u=v:=by cases h;rfl
def G.val_inv{v u:Value}(h:G S Pm ρ w (.val v) u):u=v:=by cases h with|d _ _ h=>exact h.val_inv
def G.pr_inv{p:Prop}{i:Decidable p}(h:G S Pm ρ w (.pr p i) u):u=.bool (@decide p i):=by
 cases h with|d _ _ h=>cases h;rfl
variable{off:Nat}
def G.loc_inv{k:Nat}(h:G S Pm ρ w (.loc k off) u):∃b,ρ k=some (.pointer (some ⟨b,0,none⟩))/\u=.pointer (some ⟨b,off,none⟩):=by
 cases h with
 |d _ _ h=>cases h
 |loc _ _ b h=>exact⟨b,h,rfl⟩
def G.own_inv{k:Nat}(h:G S Pm ρ w (.own k) u):ρ k=some u/\u.oneCell'=true:=by
 cases h with
 |d _ _ h=>cases h
 |own _ _ h h1=>exact⟨h,h1⟩
variable{sz:Nat}
def G.eloc_inv{k:Nat}{i:Int}(h:G S Pm ρ w (.eloc k sz i off) u):
  ∃b len cap,ρ k=some (.slice (some ⟨b,0,none⟩) len cap)/\u=.pointer (some ⟨b,i.toNat*sz+off,none⟩):=by
 cases h with
 |d _ _ h=>cases h
 |eloc _ _ _ _ b len cap h=>exact⟨b,len,cap,h,rfl⟩
def G.win_inv{k:Nat}{lo n:Int}(h:G S Pm ρ w (.win k sz lo n) u):
  ∃b len cap cap',ρ k=some (.slice (some ⟨b,0,none⟩) len cap)/\u=.slice (some ⟨b,lo.toNat*sz,none⟩) n.toNat cap'/\lo.toNat+n.toNat<=len/\n.toNat<=cap':=by
 cases h with
 |d _ _ h=>cases h
 |win _ _ _ _ b len cap cap' h h1 h2=>exact⟨b,len,cap,cap',h,rfl,h1,h2⟩
variable{cs:List SV}
def G.ptr_inv(h:G S Pm ρ w (.ptr cs) u):∃b o,∃c:Nat->Value,u=.pointer (some ⟨b,o,none⟩)/\b<w.heap.size/\¬Pm b/\
  (∀j,j<cs.length->w.cell? ⟨b,o+j,none⟩=some (c j)/\(c j).oneCell'=true)/\∀(j:Nat) (s:SV),cs[j]?=some s->D S w s (c j):=by
 cases h with
 |d _ _ h=>cases h
 |ptr _ b o c hb hP hc h=>exact⟨b,o,c,rfl,hb,hP,hc,h⟩
def G.dptr_inv(h:G S Pm ρ w (.dptr cs) u):∃b o,∃c:Nat->Value,u=.pointer (some ⟨b,o,none⟩)/\b<w.heap.size/\¬S b/\
  (∀j,j<cs.length->w.cell? ⟨b,o+j,none⟩=some (c j)/\(c j).oneCell'=true)/\∀(j:Nat) (s:SV),cs[j]?=some s->D S w s (c j):=by
 cases h with
 |d _ _ h=>cases h with|dptr _ b o c hb hS hc h=>exact⟨b,o,c,rfl,hb,hS,hc,h⟩
variable{f:FuncId}
def G.dfn_inv(h:G S Pm ρ w (.dfn f cs) u):∃vs:List Value,u=.func (.func f) #[] vs.toArray/\Gs S Pm ρ w cs vs:=by
 cases h with
 |d _ _ h=>cases h with|dfn _ _ vs hl h=>exact⟨vs,rfl,hl,λj s v h1 h2=>.d _ _ (h j s v h1 h2)⟩
def G.bm_inv(h:G S Pm ρ w (.bm f cs) u):∃vs:List Value,u=.func (.func f) vs.toArray #[]/\Gs S Pm ρ w cs vs:=by
 cases h with
 |d _ _ h=>cases h with|bm _ _ vs hl h=>exact⟨vs,rfl,hl,λj s v h1 h2=>.d _ _ (h j s v h1 h2)⟩
def G.op_inv{v:Value}(h:G S Pm ρ w (.op v) u):u=v/\ifB v=true:=by
 cases h with
 |d _ _ h=>cases h with|op _ h=>exact⟨rfl,h⟩
def G.ifc_inv{t:TypeId}{s:SV}(h:G S Pm ρ w (.ifc t s) u):∃v,u=.iface t v/\G S Pm ρ w s v:=by
 cases h with
 |d _ _ h=>cases h with|ifc _ _ v h=>exact⟨v,rfl,.d _ _ h⟩
 |ifc _ _ v h=>exact⟨v,rfl,h⟩
def G.agg_inv(h:G S Pm ρ w (.agg cs) u):∃vs:List Value,u=.agg vs.toArray/\Gs S Pm ρ w cs vs:=by
 cases h with
 |d _ _ h=>cases h with|agg _ vs hl h=>exact⟨vs,rfl,hl,λj s v hs hv=>.d _ _ (h j s v hs hv)⟩
 |agg _ vs hl h=>exact⟨vs,rfl,hl,h⟩
def G.tup_inv(h:G S Pm ρ w (.tup cs) u):∃vs:List Value,u=.tuple vs.toArray/\Gs S Pm ρ w cs vs:=by
 cases h with
 |d _ _ h=>cases h
 |tup _ vs hl h=>exact⟨vs,rfl,hl,h⟩
def G.fn_inv(h:G S Pm ρ w (.fn f cs) u):∃vs:List Value,u=.func (.func f) #[] vs.toArray/\Gs S Pm ρ w cs vs:=by
 cases h with
 |d _ _ h=>cases h
 |fn _ _ vs hl h=>exact⟨vs,rfl,hl,h⟩
variable{α:Type}{xs:List α}
def G.sl_inv{enc:α->List SV}(h:G S Pm ρ w (.sl enc xs) u):D S w (.sl enc xs) u:=by
 cases h with|d _ _ h=>exact h
def D.sl_inv{enc:α->List SV}(h:D S w (.sl enc xs) u):
  (xs=[]/\∃a,u=.slice a 0 0)∨∃sz b o cap,∃c:Nat->Nat->Value,u=.slice (some ⟨b,o,none⟩) xs.length cap/\b<w.heap.size/\¬S b/\xs.length<=9223372036854775807/\xs.length<=cap/\
   (∀x∈xs,(enc x).length=sz)/\(∀i j,i<xs.length->j<sz->w.cell? ⟨b,o+i*sz+j,none⟩=some (c i j)/\(c i j).oneCell'=true)/\
   ∀(i j:Nat) (x:α) (s:SV),xs[i]?=some x->(enc x)[j]?=some s->D S w s (c i j):=by
 cases h with
 |nil _ a=>exact .inl ⟨rfl,a,rfl⟩
 |sl _ _ sz b o cap c hb hS hlen hcap hsz hc h=>exact .inr ⟨sz,b,o,cap,c,rfl,hb,hS,hlen,hcap,hsz,hc,h⟩
def G.nils_inv(h:G S Pm ρ w .nils u):∃a,u=.slice a 0 0:=by
 cases h with|d _ _ h=>cases h with|nils a=>exact⟨a,rfl⟩
def G.full_inv{enc:α->List SV}(h:G S Pm ρ w (.full enc xs) u):∃a,u=.slice a xs.length xs.length/\D S w (.sl enc xs) u:=by
 cases h with|d _ _ h=>cases h with|full _ _ a h=>exact⟨a,rfl,h⟩
def G.anyb_inv(h:G S Pm ρ w .anyb u):∃b,u=.bool b:=by
 cases h with|d _ _ h=>cases h with|anyb b=>exact⟨b,rfl⟩
def Gs.nil:Gs S Pm ρ w [] []:=⟨rfl,λ_ _ _ h=>by simp at h⟩
variable{vs:List Value}
def Gs.cons{s:SV}{v:Value}(h:G S Pm ρ w s v)(hs:Gs S Pm ρ w cs vs):Gs S Pm ρ w (s::cs) (v::vs):=
 ⟨by simp[hs.1],λj s' v' h1 h2=>by
  cases j with
  |zero=>simp at h1 h2;subst h1;subst h2;exact h
  |succ j=>simp at h1 h2;exact hs.2 j s' v' h1 h2⟩
def Gs.head{s:SV}{v:Value}(h:Gs S Pm ρ w (s::cs) (v::vs)):G S Pm ρ w s v:=h.2 0 s v rfl rfl
def Gs.tail{s:SV}{v:Value}(h:Gs S Pm ρ w (s::cs) (v::vs)):Gs S Pm ρ w cs vs:=
 ⟨by simpa using h.1,λj s' v' h1 h2=>h.2 (j+1) s' v' (by simpa using h1) (by simpa using h2)⟩
def Gs.cons_inv{s:SV}(h:Gs S Pm ρ w (s::cs) vs):∃v vs',vs=v::vs'/\G S Pm ρ w s v/\Gs S Pm ρ w cs vs':=by
 cases vs with
 |nil=>simp[Gs]at h
 |cons v vs=>exact⟨v,vs,rfl,h.head,h.tail⟩
def Gs.nil_inv(h:Gs S Pm ρ w [] vs):vs=[]:=by simpa[Gs] using h.1
def Gs.append{ds:List SV}{us:List Value}(h:Gs S Pm ρ w cs vs)(k:Gs S Pm ρ w ds us):Gs S Pm ρ w (cs++ds) (vs++us):=by
 induction cs generalizing vs with
 |nil=>rw[h.nil_inv];exact k
 |cons s cs ih=>obtain⟨v,vs',rfl,h1,h2⟩:=h.cons_inv;exact .cons h1 (ih h2)
def Gs.drop{cs:List SV}{vs:List Value}(n:Nat)(h:Gs S Pm ρ w cs vs):Gs S Pm ρ w (cs.drop n) (vs.drop n):=
 ⟨by simp[h.1],λj s v h1 h2=>h.2 (n+j) s v (by simpa using h1) (by simpa using h2)⟩
def Gs.take{cs:List SV}{vs:List Value}(n:Nat)(h:Gs S Pm ρ w cs vs):Gs S Pm ρ w (cs.take n) (vs.take n):=
 ⟨by simp[h.1],λj s v h1 h2=>by
  rw[XI]at h1 h2
  split at h1
  ·rename_i hj;rw[Xe hj]at h2;exact h.2 j s v h1 h2
  cases h1⟩
def Gs.vals(l:List Value):Gs S Pm ρ w (vals l) l:=
 ⟨by simp[Go.Gs.vals],λj s v h1 h2=>by
  simp[Go.Gs.vals,h2]at h1;subst h1;exact .d _ _ (.val v)⟩
def Gs.mono'{S' Pm':Nat->Prop}{ρ':zi}{w':World}(h:Gs S Pm ρ w cs vs)(hg:∀s v,G S Pm ρ w s v->G S' Pm' ρ' w' s v):Gs S' Pm' ρ' w' cs vs:=⟨h.1,λj s v h1 h2=>hg s v (h.2 j s v h1 h2)⟩
end
end inv
def qy{s:SV}{K:SV->Prop}(h:zaD s K):K s:=by
 cases s with
 |val v=>cases v with
  |bool b=>cases b <;> exact h
  |_=>exact h
 |_=>exact h
def zh{b:Bool}{K:Prop}(h:zN b K):b=true/\K:=by cases b <;> first|exact h.elim|exact⟨rfl,h⟩
def kj{a b:Bool}(h:uw a b=true):a=true/\b=true:=by cases a <;> simp_all[uw]
def zB{Γ:List (TypeId×TI)}{t:TypeId}{K:TI->Prop}(h:kM Γ t K):∃i,ti Γ t=some i/\K i:=by
 unfold kM at h;split at h
 ·exact⟨_,‹_›,h⟩
 exact h.elim
def zdq(P:Program)(t:TypeId):TK->Prop
 |.int k=>P.underlying t=some (.int k)
 |.bool=>P.underlying t=some .bool
 |.str=>P.underlying t=some .string
 |.ptr e=>P.underlying t=some (.pointer e)
 |.slice e=>P.underlying t=some (.slice e)
 |.struct fs=>∃F,P.underlying t=some (.struct F)/\F.toList.map (λf=>(f.offset,f.type))=fs/\∃pl,F.toList.mapM (λf=>(P.info? f.type).map λi=>(f.offset,i.size))=some pl
 |.arr n e=>P.underlying t=some (.array n e)
 |.map k e=>P.underlying t=some (.map k e)
 |.iface=>∃ms,P.underlying t=some (.interface ms)
 |.other=>∃a b c,P.underlying t=some (.func a b c)
structure ziD (P:Program) (t:TypeId) (i:TI):Prop where
 inf:∃f,P.info? t=some f/\f.size=i.sz/\f.bytes=i.bytes/\∃z,f.zero=some z/\z.cells.toList=i.zero/\(i.kind.agg=false->z.cells=#[z])/\i.zero.length=i.sz/\
  ∀v∈i.zero,v.oneCell'=true
 kind:zdq P t i.kind
 zagg:i.kind.agg=true->∃f,P.info? t=some f/\f.zero=some (.agg i.zero.toArray)
 cmp:i.cmp=true->P.stoodInHeld t=false/\P.eqGuardType P.depth t=false/\∀f∈(P.fieldsOf t).toList,f.name≠ "_"
def TOK(P:Program)(Γ:List (TypeId×TI)):Prop:=∀t i,ti Γ t=some i->ziD P t i
section types
variable{P:Program}{t:TypeId}{i:TI}
def ziD.size(h:ziD P t i)(w:World):(sizeOf t).run P w=.ok i.sz w:=by
 obtain⟨f,h1,h2,_⟩:=h.inf;simp[sizeOf,typeInfo,h1,h2]
def ziD.agg(h:ziD P t i)(w:World):(isAgg t).run P w=.ok i.kind.agg w:=by
 have hk:=h.kind
 cases hi:i.kind <;> rw[hi]at hk <;> simp only[zdq]at hk
 case struct fs=>obtain⟨F,hF,_⟩:=hk;simp[isAgg,run_underlying hF,TK.agg]
 case other=>obtain⟨a,b,c,hd⟩:=hk;simp[isAgg,run_underlying hd,TK.agg]
 case iface=>obtain⟨ms,hd⟩:=hk;simp[isAgg,run_underlying hd,TK.agg]
 all_goals simp[isAgg,run_underlying hk,TK.agg]
def ziD.und(h:ziD P t i):∃d,P.underlying t=some d:=by
 have hk:=h.kind
 cases hi:i.kind <;> rw[hi]at hk <;> simp only[zdq]at hk
 case struct fs=>exact⟨_,hk.choose_spec.1⟩
 case other=>obtain⟨a,b,c,hd⟩:=hk;exact⟨_,hd⟩
 case iface=>obtain⟨ms,hd⟩:=hk;exact⟨_,hd⟩
 all_goals exact⟨_,hk⟩
end types
section
variable{Keep:Nat->Prop}{ρ:zi}{ρ':zi}{w':World}{m:Mem}
def jG.keep{W W':Nat->Prop}{w:World}{k:Nat}(hs:Stp W W' ρ ρ' w w')(hk:ρ' k=ρ k)(hb:∀v b,ρ k=some v->qc v=some b->w'.heap[b]?=w.heap[b]?)(h:jG (λb=>Keep b∨W b) W ρ w k m):jG (λb=>Keep b∨W' b) W' ρ' w' k m:=by
 cases m with
 |box T cs=>
  obtain⟨b,vs,h1,h2,h3,h4,h5⟩:=h;exact⟨b,vs,hk.trans h1,(hb _ b h1 rfl).trans h2,h3,h4,λj s v hs' hv=>(h5 j s v hs' hv).stp hs⟩
 |arr T enc sz xs=>
  obtain⟨v,cells,h1,h2,h3,h4,h5,h6⟩:=h;refine⟨v,cells,hk.trans h1,⟨h2.1,?_⟩,h3,h4,h5,λi j x s hx hj=>?_⟩
  ·rcases h2.2 with h|⟨g,cap,cur,rfl,h7,h8,h9⟩
   ·exact .inl h
   exact .inr ⟨g,cap,cur,rfl,h7,(hb _ g h1 rfl).trans h8,h9⟩
  obtain⟨u,hu,hd⟩:=h6 i j x s hx hj;exact⟨u,hu,hd.stp hs⟩
 |garr T sz xs=>
  obtain⟨v,cells,h1,h2,h3,h4,h5,h6⟩:=h;refine⟨v,cells,hk.trans h1,⟨h2.1,?_⟩,h3,h4,h5,λi j x s hx hj=>?_⟩
  ·rcases h2.2 with h|⟨g,cap,cur,rfl,h7,h8,h9⟩
   ·exact .inl h
   exact .inr ⟨g,cap,cur,rfl,h7,(hb _ g h1 rfl).trans h8,h9⟩
  obtain⟨u,hu,hd⟩:=h6 i j x s hx hj;exact⟨u,hu,hd.stp hs⟩
 |map es=>
  obtain⟨r,ents,clock,h1,h2,h3,h4⟩:=h;refine⟨r,ents,clock,hk.trans h1,(hb _ r h1 rfl).trans h2,h3,λi n s hi=>?_⟩;obtain⟨e,g1,g2,g3⟩:=h4 i n s hi;exact⟨e,g1,g2,g3.stp hs⟩
variable{M:List (Nat×Mem)}{M':List (Nat×Mem)}
def zK.next{w:World}(κ:Nat)(hm:zK Keep M ρ w)(hs:Stp (Own M ρ) (Own M' ρ') ρ ρ' w w')(hkeys:M'.Pairwise λa b=>a.1≠b.1)(hold:∀k m,(k,m)∈M'->k≠κ->(k,m)∈M/\ρ' k=ρ k/\∀v b,ρ k=some v->qc v=some b->w'.heap[b]?=w.heap[b]?)(hnew:∀m,(κ,m)∈M'->jG (λb=>Keep b∨Own M' ρ' b) (Own M' ρ') ρ' w' κ m)(hap:∀m v b,(κ,m)∈M'->ρ' κ=some v->qc v=some b->
   (∀k m v',(k,m)∈M'->k≠κ->ρ k=some v'->qc v'≠some b)/\b<w'.heap.size/\¬Keep b):zK Keep M' ρ' w' where
 rel k m hkm:=by
  by_cases hk:k=κ
  ·subst hk;exact hnew m hkm
  obtain⟨h1,h2,h3⟩:=hold k m hkm hk;exact(hm.rel k m h1).keep hs h2 h3
 keys:=hkeys
 apart k m k' m' v v' b h1 h2 hne hv hv' hb hb':=by
  by_cases hk:k=κ
  ·subst hk;have hk':k'≠k:=Ne.symm hne;obtain⟨_,h3,_⟩:=hold k' m' h2 hk';exact(hap m v b h1 hv hb).1 k' m' v' h2 hk' (h3 ▸ hv') hb'
  by_cases hk':k'=κ
  ·subst hk';obtain⟨_,h3,_⟩:=hold k m h1 hk;exact(hap m' v' b h2 hv' hb').1 k m v h1 hk (h3 ▸ hv) hb
  obtain⟨h3,h4,_⟩:=hold k m h1 hk;obtain⟨h5,h6,_⟩:=hold k' m' h2 hk';exact hm.apart k m k' m' v v' b h3 h5 hne (h4 ▸ hv) (h6 ▸ hv') hb hb'
 old b hb:=by
  obtain⟨k,m,v,h1,h2,h3⟩:=hb
  by_cases hk:k=κ
  ·subst hk;exact(hap m v b h1 h2 h3).2
  obtain⟨h4,h5,_⟩:=hold k m h1 hk;have:=hm.old b ⟨k,m,v,h4,h5 ▸ h2,h3⟩;exact⟨Xw this.1 hs.size,this.2⟩
 kp b hb:=Xw (hm.kp b hb) hs.size
 gl:=hm.glS hs
def qC{k:Nat}(x:Nat×Mem)(h:x∈qg M k):x∈M:=by
 induction M with
 |nil=>exact h
 |cons y r ih=>
  obtain⟨k',m'⟩:=y;simp only[qg]at h
  split at h
  ·exact .tail _ h
  cases h with
  |head=>exact .head _
  |tail _ h=>exact .tail _ (ih h)
def v9{k:Nat}(hp:M.Pairwise λa b=>a.1≠b.1)(x:Nat×Mem)(h:x∈qg M k):x.1≠k:=by
 induction M with
 |nil=>cases h
 |cons y r ih=>
  obtain⟨k',m'⟩:=y;rw[X8]at hp;simp only[qg]at h
  split at h
  ·rename_i hb;have:=Xj hb;subst this;exact λe=>hp.1 x h e.symm
  rename_i hb
  cases h with
  |head=>exact KG hb
  |tail _ h=>exact ih hp.2 h
def jg{M:List (Nat×Mem)}{k:Nat}(hp:M.Pairwise λa b=>a.1≠b.1):(qg M k).Pairwise λa b=>a.1≠b.1:=by
 induction M with
 |nil=>exact hp
 |cons y r ih=>
  obtain⟨k',m'⟩:=y;rw[X8]at hp;simp only[qg]
  split
  ·exact hp.2
  rw[X8];exact⟨λx hx=>hp.1 x (qC x hx),ih hp.2⟩
def jJ{k:Nat}(hp:M.Pairwise λa b=>a.1≠b.1)(x:Nat×Mem)(h:x∈qH M k m):x.1≠k/\x∈M∨x=(k,m):=by
 induction M with
 |nil=>cases h
 |cons y r ih=>
  obtain⟨k',m'⟩:=y;rw[X8]at hp;simp only[qH]at h
  split at h
  ·rename_i hb;have:=Xj hb;subst this
   cases h with
   |head=>exact .inr rfl
   |tail _ h=>exact .inl ⟨λe=>hp.1 x h e.symm,.tail _ h⟩
  rename_i hb
  cases h with
  |head=>exact .inl ⟨KG hb,.head _⟩
  |tail _ h=>exact(ih hp.2 h).imp (λh=>⟨h.1,.tail _ h.2⟩) id
def zaP{k:Nat}:(qH M k m).map (·.1)=M.map (·.1):=by
 induction M with
 |nil=>rfl
 |cons y r ih=>
  obtain⟨k',m'⟩:=y;simp only[qH]
  split
  ·rename_i hb;have:=Xj hb;subst this;rfl
  simp[ih]
def yL(h:M'.map (·.1)=M.map (·.1))(hp:M.Pairwise λa b=>a.1≠b.1):M'.Pairwise λa b=>a.1≠b.1:=by
 have h1:(M.map (·.1)).Pairwise λa b=>a≠b:=JU.2 hp
 rw[←h]at h1;exact JU.1 h1
variable{b:Nat}
def zaa(h:M'.map (·.1)=M.map (·.1))(ho:Own M ρ b):Own M' ρ b:=by
 obtain⟨k,m,v,h1,h2,h3⟩:=ho;have:k∈M'.map (·.1):=by rw[h];exact XP.2 ⟨_,h1,rfl⟩
 obtain⟨⟨k',m'⟩,hx,rfl⟩:=XP.1 this;exact⟨_,m',v,hx,h2,h3⟩
def zhg{k:Nat}(hp:M.Pairwise λa b=>a.1≠b.1)(h:∀m,(k,m)∉M):((k,m)::M).Pairwise λa b=>a.1≠b.1:=
 X8.2 ⟨λx hx e=>by obtain⟨k',m'⟩:=x;have e:k=k':=e;subst e;exact h m' hx,hp⟩
def upd(ρ:zi)(κ:Nat)(v:Value):zi:=λk=>if k=κ then some v else ρ k
variable{κ:Nat}
def kD{v:Value}:upd ρ κ v κ=some v:=by simp[upd]
def zfs{k:Nat}{v:Value}(h:k≠κ):upd ρ κ v k=ρ k:=by simp[upd,h]
def zK.write{w:World}(hm:zK Keep M ρ w){k:Nat}(m':Mem)(hk:(k,m)∈M){v:Value}(hv:ρ k=some v)(hb:qc v=some b)(cs:Array Value)(hrel:Stp (Own M ρ) (Own (qH M k m') ρ) ρ ρ w (w.setRow b cs)->jG (λb=>Keep b∨Own (qH M k m') ρ b) (Own (qH M k m') ρ) ρ (w.setRow b cs) k m'):
  Stp (Own M ρ) (Own (qH M k m') ρ) ρ ρ w (w.setRow b cs)/\zK Keep (qH M k m') ρ (w.setRow b cs):=by
 have hkeys:(qH M k m').map (·.1)=M.map (·.1):=zaP
 have hs:Stp (Own M ρ) (Own (qH M k m') ρ) ρ ρ w (w.setRow b cs):=
  ⟨rfl,rfl,.setRow _ _ _,by simp,λb' _ hn=>setRow_other w b b' cs (λe=>hn ⟨k,m,v,hk,hv,e ▸ hb⟩),λb' hb'=>.inl (zaa hkeys.symm hb'),λ_ _ h=>h⟩
 refine⟨hs,zK.next k hm hs (yL hkeys hm.keys) ?_ ?_ ?_⟩
 ·intro k' m1 h1 hne
  obtain⟨_,h2⟩|h2:=jJ hm.keys _ h1
  ·refine⟨h2,rfl,λv' b' hv' hb'=>setRow_other w b b' cs (λe=>?_)⟩;subst e;exact hm.apart k' m1 k m v' v b' h2 hk hne hv' hv hb' hb
  cases h2;exact absurd rfl hne
 ·intro m1 h1
  obtain⟨h2,_⟩|h2:=jJ hm.keys _ h1
  ·exact absurd rfl h2
  cases h2;exact hrel hs
 intro m1 v' b' _ hv' hb';rw[hv]at hv';cases hv'
 rw[hb]at hb';cases hb'
 refine⟨λk' m2 v2 h2 hne hv2 hb2=>?_,by simpa using (hm.old b ⟨k,m,v,hk,hv,hb⟩).1,(hm.old b ⟨k,m,v,hk,hv,hb⟩).2⟩
 obtain⟨_,h3⟩|h3:=jJ hm.keys _ h2
 ·exact hm.apart k' m2 k m v2 v b h3 hk hne hv2 hv hb2 hb
 cases h3;exact absurd rfl hne
def zK.grow{Keep:Nat->Prop}{M M1:List (Nat×Mem)}{ρ:zi}{w:World}(hm:zK Keep M ρ w)(hsub:∀x∈M1,x∈M)(hpw:M1.Pairwise λa b=>a.1≠b.1){κ:Nat}(hκ:ρ κ=none)(hκM:∀m,(κ,m)∉M)(v:Value)(m:Mem)(w':World)(hos:w'.os=w.os)(htape:w'.tape=w.tape)(hout:kQ w w')(hsize:w.heap.size<=w'.heap.size)(hblock:∀b,b<w.heap.size->¬Own M ρ b->w'.heap[b]?=w.heap[b]?)(hkeep:∀k m v b,(k,m)∈M1->ρ k=some v->qc v=some b->w'.heap[b]?=w.heap[b]?)(hv:∀b,qc v=some b->(Own M ρ b∨w.heap.size<=b)/\b<w'.heap.size/\∀k m v',(k,m)∈M1->ρ k=some v'->qc v'≠some b)(hrel:Stp (Own M ρ) (Own ((κ,m)::M1) (upd ρ κ v)) ρ (upd ρ κ v) w w'->
   jG (λb=>Keep b∨Own ((κ,m)::M1) (upd ρ κ v) b) (Own ((κ,m)::M1) (upd ρ κ v)) (upd ρ κ v) w' κ m):
  Stp (Own M ρ) (Own ((κ,m)::M1) (upd ρ κ v)) ρ (upd ρ κ v) w w'/\zK Keep ((κ,m)::M1) (upd ρ κ v) w':=by
 have hne:∀k m,(k,m)∈M1->k≠κ:=λk m h e=>by subst e;exact hκM m (hsub _ h)
 have hs:Stp (Own M ρ) (Own ((κ,m)::M1) (upd ρ κ v)) ρ (upd ρ κ v) w w':=by
  refine⟨hos,htape,hout,hsize,hblock,?_,?_⟩
  ·rintro b ⟨k,m',v',hk,hv',hb⟩
   cases hk with
   |head=>rw[kD]at hv';cases hv';exact(hv b hb).1
   |tail _ hk=>rw[zfs (hne _ _ hk)]at hv';exact .inl ⟨k,m',v',hsub _ hk,hv',hb⟩
  intro k v' h;rw[zfs (λe=>by subst e;rw[hκ]at h;cases h)];exact h
 refine⟨hs,zK.next κ hm hs (zhg hpw λm h=>hκM m (hsub _ h)) ?_ ?_ ?_⟩
 ·intro k m' h hk
  cases h with
  |head=>exact absurd rfl hk
  |tail _ h=>exact⟨hsub _ h,zfs hk,λv' b h1 h2=>hkeep k m' v' b h h1 h2⟩
 ·intro m' h
  cases h with
  |head=>exact hrel hs
  |tail _ h=>exact absurd rfl (hne _ _ h)
 intro m' v' b _ h1 h2;rw[kD]at h1;cases h1
 obtain⟨h3,h4,h5⟩:=hv b h2;refine⟨λk m1 v1 h6 h7 h8=>?_,h4,λhk=>?_⟩
 ·cases h6 with
  |head=>exact absurd rfl h7
  |tail _ h6=>exact h5 k m1 v1 h6 h8
 rcases h3 with h3|h3
 ·exact(hm.old b h3).2 hk
 have:=hm.kp b hk;omega
def zK.let_go{Keep:Nat->Prop}{M M1:List (Nat×Mem)}{ρ:zi}{w:World}(hm:zK Keep M ρ w)(hsub:∀x∈M1,x∈M)(hpw:M1.Pairwise λa b=>a.1≠b.1):
  Stp (Own M ρ) (Own M1 ρ) ρ ρ w w/\zK Keep M1 ρ w:=by
 have hs:Stp (Own M ρ) (Own M1 ρ) ρ ρ w w:=
  ⟨rfl,rfl,.refl _,Xk _,λ_ _ _=>rfl,λb ⟨k,m,v,h1,h2,h3⟩=>.inl ⟨k,m,v,hsub _ h1,h2,h3⟩,λ_ _ h=>h⟩
 exact⟨hs,λk m h=>(hm.rel k m (hsub _ h)).keep hs rfl (λ_ _ _ _=>rfl),hpw,
  λk m k' m' v v' b h1 h2=>hm.apart k m k' m' v v' b (hsub _ h1) (hsub _ h2),λb ⟨k,m,v,h1,h2,h3⟩=>hm.old b ⟨k,m,v,hsub _ h1,h2,h3⟩,hm.kp,hm.glS hs⟩
variable{k':IntKind}
def zf0{k:IntKind}(h:zrz k k'=true):k=k':=by cases k <;> cases k' <;> first|rfl|(simp[zrz]at h)
def InK(k:IntKind)(e:Int):Prop:=
 match k with
 |.i64=> -9223372036854775808<=e/\e<=9223372036854775807
 |.i32=> -2147483648<=e/\e<=2147483647
 |.i16=> -32768<=e/\e<=32767
 |.i8=> -128<=e/\e<=127
 |.u64=>0<=e/\e<=18446744073709551615
 |.u32=>0<=e/\e<=4294967295
 |.u16=>0<=e/\e<=65535
 |.u8=>0<=e/\e<=255
variable{e:Int}
def zo7{k:IntKind}(h:InK k e):k.wrap e=e:=by
 cases k <;> simp only[InK]at h <;> simp[IntKind.wrap,IntKind.bits,IntKind.signed] <;> (try split) <;> omega
variable{K:SV->Prop}
def u7{k:IntKind}(h:zlx k e K):K (.val (.int k (k.wrap e))):=by
 cases k <;> simp only[zlx]at h <;> cases h with
 |fit h1 h2=>rw[zo7 (by exact h1)];exact h2
 |wrap h=>exact h
def zar(s:SV)(v:Value):Prop:=(∃u,s=.val u/\v=u)∨∃p i,s=.pr p i/\v=.bool (@decide p i)
def zar.g{s:SV}{v:Value}(h:zar s v){S Pm:Nat->Prop}{w:World}:G S Pm ρ w s v:=by
 obtain⟨u,rfl,rfl⟩|⟨p,i,rfl,rfl⟩:=h
 ·exact .d _ _ (.val _)
 exact .d _ _ (.pr p i)
def zar.val(v:Value):zar (.val v) v:=.inl ⟨v,rfl,rfl⟩
def zar.pr{p:Prop}{i:Decidable p}{b:Bool}(h:b=@decide p i):zar (.pr p i) (.bool b):=.inr ⟨p,i,rfl,by rw[h]⟩
def zAh{k:IntKind}(h0:0<=e)(h1:e<=kmax k):InK k e:=by cases k <;> simp only[kmax,InK] at*<;> omega
def zrL{op:BinOp}{k:IntKind}{m n:Int}(hs:zs3 op=false)(h:intV op k m n K):
  ∃s,K s/\∃v,zar s v/\∀(P:Program) (t:TypeId) (w:World),(binOp op t (.int k m) (.int k n)).run P w=.ok v w:=by
 cases op <;> simp only[intV]at h <;> try (exact h.elim)
 case add=>exact⟨_,u7 h,_,.val _,λP t w=>by simp[binOp,Op.intArith]⟩
 case sub=>exact⟨_,u7 h,_,.val _,λP t w=>by simp[binOp,Op.intArith]⟩
 case mul=>exact⟨_,u7 h,_,.val _,λP t w=>by simp[binOp,Op.intArith]⟩
 case quo=>
  cases h with
  |pos h1 h2=>
   refine⟨_,h2,_,.val _,λP t w=>?_⟩;have h3:n≠0:=oM;have h4:m.tdiv n=m/n:=Int.tdiv_eq_ediv_of_nonneg h1.1;have h5:0<=m/n:=Int.ediv_nonneg h1.1 oM;have h6:m/n<=m:=Int.ediv_le_self n h1.1;simp[binOp,Op.intDiv,h3,h4,zo7 (zAh h5 (Int.le_trans h6 h1.2.2))]
  |any h1 h2=>exact⟨_,u7 h2,_,.val _,λP t w=>by simp[binOp,Op.intDiv,h1]⟩
 case rem=>
  cases h with
  |pos h1 h2=>
   refine⟨_,h2,_,.val _,λP t w=>?_⟩;have h3:n≠0:=oM;have h4:m.tmod n=m%n:=Int.tmod_eq_emod_of_nonneg h1.1;simp[binOp,Op.intDiv,h3,h4]
  |any h1 h2=>exact⟨_,h2,_,.val _,λP t w=>by simp[binOp,Op.intDiv,h1]⟩
 case eql=>exact⟨_,h,.bool (m==n),.pr (by rw[Qw];simp),λP t w=>by simp[binOp,Op.intCmp]⟩
 case neq=>exact⟨_,h,.bool (m != n),.pr (by rw[Qw];simp),λP t w=>by simp[binOp,Op.intCmp]⟩
 case lss=>exact⟨_,h,.bool (decide (m<n)),.pr rfl,λP t w=>by simp[binOp,Op.intCmp]⟩
 case leq=>exact⟨_,h,.bool (decide (m<=n)),.pr rfl,λP t w=>by simp[binOp,Op.intCmp]⟩
 case gtr=>exact⟨_,h,.bool (decide (m > n)),.pr rfl,λP t w=>by simp[binOp,Op.intCmp]⟩
 case geq=>exact⟨_,h,.bool (decide (m≥n)),.pr rfl,λP t w=>by simp[binOp,Op.intCmp]⟩
 case and=>
  obtain⟨r,hr,h⟩:=h;refine⟨_,h,.int k r,.val _,λP t w=>?_⟩;rw[hr];simp[binOp,Op.intBits,vk]
 case or=>
  obtain⟨r,hr,h⟩:=h;refine⟨_,h,.int k r,.val _,λP t w=>?_⟩;rw[hr];simp[binOp,Op.intBits,vk]
 case xor=>
  obtain⟨r,hr,h⟩:=h;refine⟨_,h,.int k r,.val _,λP t w=>?_⟩;rw[hr];simp[binOp,Op.intBits,vk]
 case andNot=>
  obtain⟨r,hr,h⟩:=h;refine⟨_,h,.int k r,.val _,λP t w=>?_⟩;rw[hr];simp[binOp,Op.intBits,vk]
def zwM(m:Int)(c:Nat):m.fdiv (2^c)=m/2^c:=Int.fdiv_eq_ediv_of_nonneg m (Int.pow_nonneg oM)
def znF{op:BinOp}{y:Operand}{k:IntKind}{m n:Int}(h:zrA op y k m n K):
  ∃s,K s/\∃v,zar s v/\∀(P:Program) (t:TypeId) (w:World),(binOp op t (.int k m) (.int k' n)).run P w=.ok v w:=by
 unfold zrA at h
 split at h
 ·split at h
  ·rename_i c;have hc:min c k.bits=c:=by have:=h.ob;omega
   refine⟨_,u7 h.go,_,.val _,λP t w=>?_⟩;simp[binOp,Op.shift,hc];intro hn;omega
  exact h.elim
 ·obtain⟨h0,h1⟩:=h.ob;have hc:min n.toNat k.bits=n.toNat:=oM;refine⟨_,u7 h.go,_,.val _,λP t w=>?_⟩;simp[binOp,Op.shift,hc,show¬n<0 by omega]
 ·split at h
  ·rename_i c;have hc:min c k.bits=c:=by have:=h.ob;omega
   refine⟨_,h.go,_,.val _,λP t w=>?_⟩;simp[binOp,Op.shift,hc,zwM];intro hn;omega
  exact h.elim
 ·obtain⟨h0,h1⟩:=h.ob;have hc:min n.toNat k.bits=n.toNat:=oM;refine⟨_,h.go,_,.val _,λP t w=>?_⟩;simp[binOp,Op.shift,hc,show¬n<0 by omega,zwM]
 exact h.elim
def eqB:List Value->List Value->Bool
 |.int _ m::r,.int _ n::r'=>(m==n)&&eqB r r'
 |[],[]=>true
 |_,_=>false
inductive y7:List Value->List Value->Prop
 |nil:y7 [] []
 |cons (k:IntKind) (m n:Int) {r r':List Value} (h:y7 r r'):y7 (.int k m::r) (.int k n::r')
def zf1{cs ds:List SV}:∀{K:(p:Prop)->Decidable p->Prop},zfV cs ds K->∃p i,K p i/\
  ∀{S Pm:Nat->Prop} {ρ:zi} {w:World} {vs us:List Value},Gs S Pm ρ w cs vs->Gs S Pm ρ w ds us->y7 vs us/\eqB vs us=@decide p i:=by
 induction cs generalizing ds with
 |nil=>
  intro K h
  cases ds with
  |nil=>exact⟨True,_,h,λh1 h2=>by rw[h1.nil_inv,h2.nil_inv];exact⟨.nil,rfl⟩⟩
  |cons d ds=>exact h.elim
 |cons c cs ih=>
  intro K h
  cases ds with
  |nil=>exact h.elim
  |cons d ds=>
   simp only[zfV]at h;have h:=qy (qy h)
   split at h
   ·rename_i k m k' n;obtain⟨hk,h'⟩:=zh h;obtain⟨p,i,hK,hp⟩:=ih h';have hk:=zf0 hk;refine⟨_,_,hK,λh1 h2=>?_⟩;obtain⟨v,vs,rfl,h3,h4⟩:=h1.cons_inv;obtain⟨u,us,rfl,h5,h6⟩:=h2.cons_inv;subst hk;rw[h3.val_inv,h5.val_inv];obtain⟨h7,h8⟩:=hp h4 h6;refine⟨.cons _ _ _ h7,?_⟩;simp only[eqB,h8];rw[Qw];simp
   exact h.elim
def y7.length{vs us:List Value}(h:y7 vs us):vs.length=us.length:=by induction h <;> simp_all
def y7.drop{vs us:List Value}(n:Nat)(h:y7 vs us):y7 (vs.drop n) (us.drop n):=by
 induction n generalizing vs us with
 |zero=>exact h
 |succ n ih=>cases h with
  |nil=>exact .nil
  |cons k m n h=>exact ih h
def y7.take{vs us:List Value}(n:Nat)(h:y7 vs us):y7 (vs.take n) (us.take n):=by
 induction n generalizing vs us with
 |zero=>exact .nil
 |succ n ih=>cases h with
  |nil=>exact .nil
  |cons k m n h=>exact .cons _ _ _ (ih h)
def zlV{vs us:List Value}(n:Nat)(h:y7 vs us):eqB vs us=(eqB (vs.take n) (us.take n)&&eqB (vs.drop n) (us.drop n)):=by
 induction n generalizing vs us with
 |zero=>simp[eqB]
 |succ n ih=>cases h with
  |nil=>rfl
  |cons k m n h=>simp[eqB,ih h,Bool.and_assoc]
def zdr(agg:Bool)(vs:List Value):Value:=if agg then .agg vs.toArray else vs.headD undef
def zbW{P:Program}{t:TypeId}{i:TI}(hT:ziD P t i)(vs:List Value)(off:Nat)(h:off+i.sz<=vs.length)(hz:i.kind.agg=false->i.sz=1)(w:World):
  (part t vs.toArray off).run P w=.ok (zdr i.kind.agg ((vs.drop off).take i.sz)) w:=by
 unfold part;rw[Sem.run_bind,hT.agg w,Result.andThen_ok]
 cases hk:i.kind.agg with
 |true=>simp[hT.size,zdr]
 |false=>
  have h1:=hz hk;have hlt:off<vs.length:=oM;have h2:(List.take 1 (List.drop off vs))=[vs[off]]:=by rw[KT hlt];rfl
  simp[zdr,h1,hlt,h2]
def zo8{P:Program}{Γ:List (TypeId×TI)}(hT:TOK P Γ)(n:Nat)(ih:∀t i,ti Γ t=some i->zfW Γ n t=true->(i.kind.agg=false->i.sz=1)/\∀(d:Nat) (vs us:List Value) (w:World),vs.length=i.sz->y7 vs us->
   (Op.equalIn (n+d) t (zdr i.kind.agg vs) (zdr i.kind.agg us)).run P w=.ok (eqB vs us) w)(d sz:Nat)(vs us:List Value)(hl:vs.length=sz)(hp:y7 vs us)(w:World):
  ∀(F:List Field) (at_:Nat),zjf Γ (zfW Γ n) (F.map λf=>(f.offset,f.type)) at_ sz=true->(∀f∈F,f.name≠ "_")->
   at_<=sz/\(Op.eqFields (n+d) vs.toArray us.toArray F).run P w=.ok (eqB (vs.drop at_) (us.drop at_)) w
 |[],at_,h,_=>by
  simp only[List.map_nil,zjf]at h;have h:=Xj h;subst h;have hlu:=hp.length;simp[Op.eqFields,Jj (Nat.le_of_eq hl),Jj (Nat.le_of_eq (hlu ▸ hl)),eqB]
 |f::F,at_,h,hn=>by
  simp only[QO,zjf]at h
  split at h
  ·rename_i j hj;obtain⟨h1,h⟩:=kj h;obtain⟨h2,h3⟩:=kj h;have h1:=Xj h1;obtain⟨hz,he⟩:=ih _ _ hj h2;obtain⟨h4,h5⟩:=zo8 hT n ih d sz vs us hl hp w F (at_+j.sz) h3 (λf hf=>hn f (.tail _ hf));have hlu:=hp.length;have p1:=zbW (hT _ _ hj) vs f.offset oM hz w;have p2:=zbW (hT _ _ hj) us f.offset oM hz w;have he':=he d ((vs.drop f.offset).take j.sz) ((us.drop f.offset).take j.sz) w (by simp;omega) ((hp.drop _).take _);refine⟨oM,?_⟩;have hs:=zlV j.sz (hp.drop f.offset)
   simp only[Op.eqFields,hn f (.head _),ne_eq,not_false_eq_true,if_true,Sem.run_bind,p1,p2,Result.andThen_ok,he'];rw[←h1,hs]
   cases hb:eqB ((vs.drop f.offset).take j.sz) ((us.drop f.offset).take j.sz) with
   |true=>simp[h5,h1,JM]
   |false=>simp
  cases h
def zds{P:Program}{Γ:List (TypeId×TI)}(hT:TOK P Γ):∀(n:Nat) (t:TypeId) (i:TI),ti Γ t=some i->zfW Γ n t=true->
  (i.kind.agg=false->i.sz=1)/\∀(d:Nat) (vs us:List Value) (w:World),vs.length=i.sz->y7 vs us->
   (Op.equalIn (n+d) t (zdr i.kind.agg vs) (zdr i.kind.agg us)).run P w=.ok (eqB vs us) w
 |0,t,i,hi,h=>by simp[zfW]at h
 |n+1,t,i,hi,h=>by
  unfold zfW at h;rw[hi]at h;simp only at h;have hK:=(hT t i hi).kind
  split at h
  ·rename_i k hk;rw[hk]at hK;have hz:=Xj h;refine⟨λ_=>hz,λd vs us w hl hp=>?_⟩;rw[hz]at hl
   cases hp with
   |nil=>simp at hl
   |cons k' m m' h=>
    cases h with
    |nil=>
     rw[show n+1+d=(n+d)+1 by omega];simp only[hk,TK.agg,zdr,Kr,if_false,List.headD_cons,run_equalIn_int w _ t k' k m _ hK,eqB,Bool.and_true]
    |cons=>simp at hl
  ·rename_i fs hk;obtain⟨hc,hg⟩:=kj h;rw[hk]at hK;obtain⟨F,hF,hmap,_⟩:=hK;obtain⟨h1,h2,h3⟩:=(hT t i hi).cmp hc;have hfo:P.fieldsOf t=F:=by simp[Program.fieldsOf,hF]
   refine⟨λh=>(by rw[hk]at h;cases h),λd vs us w hl hp=>?_⟩;rw[show n+1+d=(n+d)+1 by omega];rw[←hmap]at hg;have:=(zo8 hT n (zds hT n) d i.sz vs us hl hp w F.toList 0 hg (by rw[←hfo];exact h3)).2;simp only[hk,TK.agg,zdr,if_true];rw[run_equalIn_struct w (n+d) t _ _ (by rw[hfo];exact hF) h1,hfo]
   simpa using this
  ·rename_i len e hk;obtain⟨hc,g1⟩:=kj h;obtain⟨hlen,g2⟩:=kj g1;obtain⟨hisz,g3⟩:=kj g2;have hlen:=Xj hlen;have hisz:=Xj hisz;subst hlen;clear h g1 g2
   cases hj:ti Γ e with
   |some j=>
    rw[hj]at g3;obtain⟨hjz,hje⟩:=kj g3;have hjz:=Xj hjz;rw[hk]at hK;have hK:P.underlying t=some (.array 2 e):=hK;obtain⟨hz,he⟩:=zds hT n e j hj hje;refine⟨λh=>(by rw[hk]at h;cases h),λd vs us w hl hp=>?_⟩;rw[show n+1+d=(n+d)+1 by omega];simp only[hk,TK.agg,zdr,if_true];obtain⟨f,hf,hfs,_⟩:=(hT e j hj).inf;rw[run_equalIn_array w (n+d) _ _ hK hf];have hco:P.cellsOf e=1:=by unfold Program.cellsOf;rw[hf];simp[hfs,hjz]
    have hlu:=hp.length;have p1:=zbW (hT e j hj) vs 0 oM hz w;have p2:=zbW (hT e j hj) us 0 oM hz w;have p3:=zbW (hT e j hj) vs 1 oM hz w;have p4:=zbW (hT e j hj) us 1 oM hz w;have e1:=he d ((vs.drop 0).take j.sz) ((us.drop 0).take j.sz) w (by simp;omega) ((hp.drop 0).take _);have e2:=he d ((vs.drop 1).take j.sz) ((us.drop 1).take j.sz) w (by simp;omega) ((hp.drop 1).take _);have hs:=zlV 1 hp;have t1:(vs.drop 1).take j.sz=vs.drop 1:=Xi (by simp;omega);have t2:(us.drop 1).take j.sz=us.drop 1:=Xi (by simp;omega)
    rw[t1,t2]at e2;rw[hjz]at e1;rw[t1]at p3;rw[t2]at p4;rw[hjz]at p1 p2;rw[hs,hco];have hr2:List.range 2=[0,1]:=rfl;rw[hr2];simp only[Op.eqItems,Sem.run_bind,QZ,Yu,p1,p2,p3,p4,Result.andThen_ok,e1,e2];simp only[KZ]
    cases hb:eqB (vs.take 1) (us.take 1) with
    |true=>
     rw[hb] at*
     cases hb2:eqB (vs.drop 1) (us.drop 1) with
     |true=>rw[hb2,JX,JX]at e2;simp[p3,p4,e2]
     |false=>rw[hb2,JX,JX]at e2;simp[p3,p4,e2]
    |false=>simp
   |none=>rw[hj]at g3;cases g3
  cases h
def zef{s:SV}{K:(p:Prop)->Decidable p->Prop}(h:zuG s K):∃p i,K p i/\∀{S Pm:Nat->Prop} {ρ:zi} {w:World} {v:Value},G S Pm ρ w s v->v=.bool (@decide p i):=by
 unfold zuG at h
 split at h
 ·exact⟨_,_,h,λhg=>hg.pr_inv⟩
 ·exact⟨_,_,h,λhg=>by rw[hg.val_inv];rfl⟩
 ·exact⟨_,_,h,λhg=>by rw[hg.val_inv];rfl⟩
 exact h.elim
end
section
variable{P:Program}{op:Op}{svs:List SV}{lm:Nat->Option Mem}{κ:Nat}
def yx.pure{s:SV}(h:∀(o:Oper),o.op=op->∀(S Pm:Nat->Prop) (ρ:zi) (a:Act) (w:World),Gs S Pm ρ w svs ((k9 op).map a.eval)->
  ∃v,(execOp a.eval o).run P w=.ok (.value v) w/\G S Pm ρ w s v):yx P op svs lm κ s .none:=by
 intro o ho Keep M ρ a w _ hm _ _ hg;obtain⟨v,h1,h2⟩:=h o ho _ _ ρ a w hg;exact qw.value h1 (kR.same hm h2)
def yx.read{s:SV}(h:∀(o:Oper),o.op=op->∀(Keep:Nat->Prop) (M:List (Nat×Mem)) (ρ:zi) (a:Act) (w:World),(∀k m,lm k=some m->(k,m)∈M)->zK Keep M ρ w->
  Gs (λb=>Keep b∨Own M ρ b) (Own M ρ) ρ w svs ((k9 op).map a.eval)->
  ∃v,(execOp a.eval o).run P w=.ok (.value v) w/\G (λb=>Keep b∨Own M ρ b) (Own M ρ) ρ w s v):yx P op svs lm κ s .none:=by
 intro o ho Keep M ρ a w hlm hm _ _ hg;obtain⟨v,h1,h2⟩:=h o ho Keep M ρ a w (λk m h=>zw (hlm k m h)) hm hg;exact qw.value h1 (kR.same hm h2)
end
section
variable{P:Program}
def zab{w:World}{t e:TypeId}{p:Option Addr}(h:P.underlying t=some (.pointer e)):(Op.equal t (.pointer p) (.pointer none)).run P w=.ok p.isNone w:=by
 have key:∀d,(Op.equalIn (d+1) t (.pointer p) (.pointer none)).run P w=.ok p.isNone w:=λd=>by
  cases p <;> simp[Op.equalIn,run_underlying h]
 exact key 9999
variable{ms:Array (String×TypeId)}
def zeg{w:World}{t u:TypeId}{v:Value}(h:P.underlying t=some (.interface ms)):(Op.equal t (.iface u v) .nilIface).run P w=.ok false w:=by
 have key:∀d,(Op.equalIn (d+1) t (.iface u v) .nilIface).run P w=.ok false w:=λd=>by simp[Op.equalIn,run_underlying h]
 exact key 9999
def zcy{w:World}{t:TypeId}(h:P.underlying t=some (.interface ms)):(Op.equal t .nilIface .nilIface).run P w=.ok true w:=by
 have key:∀d,(Op.equalIn (d+1) t .nilIface .nilIface).run P w=.ok true w:=λd=>by simp[Op.equalIn,run_underlying h]
 exact key 9999
def zo9{w:World}{t:TypeId}{f:Fn}{x y:Array Value}{a b:Array TypeId}{c:Bool}(h:P.underlying t=some (.func a b c)):(Op.equal t (.func f x y) .nilFunc).run P w=.ok false w:=by
 have key:∀d,(Op.equalIn (d+1) t (.func f x y) .nilFunc).run P w=.ok false w:=λd=>by simp[Op.equalIn,run_underlying h]
 exact key 9999
variable{a:SV}{b:SV}{S:Nat->Prop}{Pm:Nat->Prop}{ρ:zi}
def zlW{t:TypeId}{k:TK}{y:Operand}{r:Bool}(hk:zdq P t k)(h:zwu k (zs2 y) a b=some r){w:World}{u v:Value}(ha:G S Pm ρ w a u)(hb:G S Pm ρ w b v):
  ((binOp .eql t u v).run P w=.ok (.bool r) w/\(binOp .neq t u v).run P w=.ok (.bool (!r)) w)/\∀op x,(eqGuard op t x y u v).run P w=.ok () w:=by
 unfold zwu at h
 split at h
 ·split at h
  ·cases h;rw[ha.val_inv,hb.val_inv];exact⟨⟨by simp[binOp,run_equal_slice_nil w t _ none 0 0 hk],by simp[binOp,run_equal_slice_nil w t _ none 0 0 hk]⟩,λ_ _=>by simp[eqGuard]⟩
  cases h
 ·split at h
  ·cases h;obtain⟨_,_,_,rfl,_⟩:=ha.dptr_inv;rw[hb.val_inv];exact⟨⟨by simp[binOp,zab hk],by simp[binOp,zab hk]⟩,λ_ _=>by simp[eqGuard]⟩
  cases h
 ·split at h
  ·cases h;obtain⟨_,_,_,rfl,_⟩:=ha.ptr_inv;rw[hb.val_inv];exact⟨⟨by simp[binOp,zab hk],by simp[binOp,zab hk]⟩,λ_ _=>by simp[eqGuard]⟩
  cases h
 ·split at h
  ·cases h;obtain⟨_,_,rfl⟩:=ha.loc_inv;rw[hb.val_inv];exact⟨⟨by simp[binOp,zab hk],by simp[binOp,zab hk]⟩,λ_ _=>by simp[eqGuard]⟩
  cases h
 ·split at h
  ·cases h;rw[ha.val_inv,hb.val_inv];exact⟨⟨by simp[binOp,zab hk],by simp[binOp,zab hk]⟩,λ_ _=>by simp[eqGuard]⟩
  cases h
 ·split at h
  ·cases h;obtain⟨_,rfl,_⟩:=ha.ifc_inv;rw[hb.val_inv];obtain⟨_,hk⟩:=hk;exact⟨⟨by simp[binOp,zeg hk],by simp[binOp,zeg hk]⟩,λ_ _=>by simp[eqGuard]⟩
  cases h
 ·split at h
  ·rename_i hlit
   cases h;rw[ha.val_inv,hb.val_inv];obtain⟨_,hk⟩:=hk
   refine⟨⟨by simp[binOp,zcy hk],by simp[binOp,zcy hk]⟩,λ_ _=>?_⟩
   cases y <;> first|(cases hlit;done)|simp[eqGuard]
  cases h
 ·split at h
  ·cases h
   cases ha with
   |d _ _ ha=>
    cases ha with
    |dfn _ _ _ _ _=>rw[hb.val_inv];obtain⟨_,_,_,hk⟩:=hk;exact⟨⟨by simp[binOp,zo9 hk],by simp[binOp,zo9 hk]⟩,λ_ _=>by simp[eqGuard]⟩
  cases h
 cases h
variable{x:Operand}{lm:Nat->Option Mem}{κ:Nat}{K:SV->Prop}
def zuI{Γ:List (TypeId×TI)}(hT:TOK P Γ){op:BinOp}{t yt:TypeId}{y:Operand}(h:bin Γ op t y a b K):∃s,K s/\yx P (.binOp op t x y yt) [a,b] lm κ s .none:=by
 unfold bin at h
 split at h
 ·rename_i k m k' n
  have h2:∃s,K s/\∃v,zar s v/\∀(P:Program) (t:TypeId) (w:World),(binOp op t (.int k m) (.int k' n)).run P w=.ok v w:=by
   split at h
   ·exact znF h
   rename_i hs;obtain⟨hk,h'⟩:=zh h;have:=zf0 hk;subst this;exact zrL hs h'
  obtain⟨s,hK,v,hg,hr⟩:=h2;refine⟨s,hK,.pure λo ho S Pm ρ a w hgs=>⟨v,?_,hg.g⟩⟩;have hx:=(Gs.head hgs).val_inv;have hy:=(Gs.head (Gs.tail hgs)).val_inv;simp[execOp,ho,hx,hy,eqGuard_at_int,hr]
 ·rename_i cs ds;obtain⟨i,hi,h⟩:=zB h;obtain⟨hagg,h⟩:=zh h;obtain⟨hlen,h⟩:=zh h;obtain⟨hint,h⟩:=zh h;have hlen:=Xj hlen;have hsound:=(zds hT 8 t i hi hint).2
  have hcmp:i.cmp=true:=by
   unfold zfW at hint;rw[hi]at hint;simp only at hint
   split at hint
   ·rename_i hk;rw[hk]at hagg;cases hagg
   ·exact(kj hint).1
   ·exact(kj hint).1
   cases hint
  have hguard:=((hT t i hi).cmp hcmp).2.1
  have run:∀(cs ds:List Value) (w:World),cs.length=i.sz->y7 cs ds->(Op.equalIn 10000 t (.agg cs.toArray) (.agg ds.toArray)).run P w=.ok (eqB cs ds) w:=by
   intro cs ds w h1 h2;have:=hsound 9992 cs ds w h1 h2
   simpa[zdr,hagg] using this
  split at h
  ·obtain⟨p,ip,hK,hp⟩:=zf1 h;refine⟨_,hK,.pure λo ho S Pm ρ a w hgs=>?_⟩;obtain⟨vs,hx,hvs⟩:=(Gs.head hgs).agg_inv;obtain⟨us,hy,hus⟩:=(Gs.head (Gs.tail hgs)).agg_inv;obtain⟨h1,h2⟩:=hp hvs hus;refine⟨.bool (eqB vs us),?_,(zar.pr h2).g⟩;simp only[execOp,ho,hx,hy,Sem.run_bind,run_eqGuard_agg w _ t x y _ _ hguard,Result.andThen_ok,run_eql_struct,run vs us w (by rw[hvs.1,hlen]) h1,Sem.run_pure]
  ·obtain⟨p,ip,hK,hp⟩:=zf1 h;refine⟨_,hK,.pure λo ho S Pm ρ a w hgs=>?_⟩;obtain⟨vs,hx,hvs⟩:=(Gs.head hgs).agg_inv;obtain⟨us,hy,hus⟩:=(Gs.head (Gs.tail hgs)).agg_inv;obtain⟨h1,h2⟩:=hp hvs hus;refine⟨.bool (!eqB vs us),?_,(zar.pr (by rw[h2];rw[Qw];simp)).g⟩;simp only[execOp,ho,hx,hy,Sem.run_bind,run_eqGuard_agg w _ t x y _ _ hguard,Result.andThen_ok,run_neq_struct,run vs us w (by rw[hvs.1,hlen]) h1,Sem.run_pure]
  exact h.elim
 ·rename_i α enc xs;replace h:=zB h;obtain⟨i,hi,h⟩:=h;have hk:=(hT t i hi).kind
  have key:∀{S Pm:Nat->Prop} {ρ:zi} {w:World} {v:Value},G S Pm ρ w (.sl enc xs) v->∃a c,v=.slice a xs.length c/\(xs.length≠0->a.isNone=false):=λhg=>by
   obtain⟨rfl,a,rfl⟩|⟨_,b,o,cap,_,rfl,_⟩:=hg.sl_inv.sl_inv
   ·exact⟨a,0,rfl,λh=>absurd rfl h⟩
   exact⟨_,cap,rfl,λ_=>rfl⟩
  have hguard:∀(w:World) (a b:Value),(∃x y z,a=.slice x y z)->(eqGuard op t x y a b).run P w=.ok () w:=λw a b ⟨x,y,z,e⟩=>by subst e;simp[eqGuard]
  unfold zwt at h
  split at h
  ·rename_i e hkind;rw[hkind]at hk;have hk:P.underlying t=some (.slice e):=hk
   obtain⟨hn,h⟩|h:=h
   ·refine⟨_,h,.pure λo ho S Pm ρ a w hgs=>?_⟩;obtain⟨ad,c,hx,hz⟩:=key (Gs.head hgs);have hy:=(Gs.head (Gs.tail hgs)).val_inv;refine⟨.bool false,?_,(zar.val _).g⟩;simp[execOp,ho,hx,hy,hguard,binOp,run_equal_slice_nil w t e ad _ c hk,hz hn]
   refine⟨_,h,.pure λo ho S Pm ρ a w hgs=>?_⟩;obtain⟨ad,c,hx,hz⟩:=key (Gs.head hgs);have hy:=(Gs.head (Gs.tail hgs)).val_inv;refine⟨.bool ad.isNone,?_,.d _ _ (.anyb _)⟩;simp[execOp,ho,hx,hy,hguard,binOp,run_equal_slice_nil w t e ad _ c hk]
  ·rename_i e hkind;rw[hkind]at hk;have hk:P.underlying t=some (.slice e):=hk
   obtain⟨hn,h⟩|h:=h
   ·refine⟨_,h,.pure λo ho S Pm ρ a w hgs=>?_⟩;obtain⟨ad,c,hx,hz⟩:=key (Gs.head hgs);have hy:=(Gs.head (Gs.tail hgs)).val_inv;refine⟨.bool true,?_,(zar.val _).g⟩;simp[execOp,ho,hx,hy,hguard,binOp,run_equal_slice_nil w t e ad _ c hk,hz hn]
   refine⟨_,h,.pure λo ho S Pm ρ a w hgs=>?_⟩;obtain⟨ad,c,hx,hz⟩:=key (Gs.head hgs);have hy:=(Gs.head (Gs.tail hgs)).val_inv;refine⟨.bool (!ad.isNone),?_,.d _ _ (.anyb _)⟩;simp[execOp,ho,hx,hy,hguard,binOp,run_equal_slice_nil w t e ad _ c hk]
  exact h.elim
 ·rename_i v0;replace h:=zB h;obtain⟨i,hi,h⟩:=h;have hk:=(hT t i hi).kind
  split at h
  ·rename_i hkind;rw[hkind]at hk;obtain⟨ms,hk⟩:=hk;replace h:=zh h;obtain⟨hlit,h⟩:=h;obtain⟨yv,hyv⟩:∃yv,y=.const yv:=by cases y <;> first|exact⟨_,rfl⟩|cases hlit
   subst hyv
   split at h
   ·refine⟨_,h,.pure λo ho S Pm ρ a w hgs=>?_⟩;obtain⟨hx,hif⟩:=(Gs.head hgs).op_inv;have hy:=(Gs.head (Gs.tail hgs)).val_inv;refine⟨.bool (zo3 v0),?_,(zar.pr (by cases zo3 v0 <;> simp)).g⟩
    cases v0 <;> first|(cases hif;done)|simp[execOp,ho,hx,hy,eqGuard,binOp,zcy hk,zeg hk,zo3]
   ·refine⟨_,h,.pure λo ho S Pm ρ a w hgs=>?_⟩;obtain⟨hx,hif⟩:=(Gs.head hgs).op_inv;have hy:=(Gs.head (Gs.tail hgs)).val_inv;refine⟨.bool (!zo3 v0),?_,(zar.pr (by cases zo3 v0 <;> simp)).g⟩
    cases v0 <;> first|(cases hif;done)|simp[execOp,ho,hx,hy,eqGuard,binOp,zcy hk,zeg hk,zo3]
   exact h.elim
  exact h.elim
 replace h:=zB h;obtain⟨i,hi,h⟩:=h;have hk:=(hT t i hi).kind
 split at h
 ·rename_i r hr;unfold zs4 at h
  split at h
  ·refine⟨_,h,.pure λo ho S Pm ρ a w hgs=>?_⟩;obtain⟨⟨h1,_⟩,h2⟩:=zlW hk hr (Gs.head hgs) (Gs.head (Gs.tail hgs));exact⟨.bool r,by simp[execOp,ho,h1,h2],(zar.val _).g⟩
  ·refine⟨_,h,.pure λo ho S Pm ρ a w hgs=>?_⟩;obtain⟨⟨_,h1⟩,h2⟩:=zlW hk hr (Gs.head hgs) (Gs.head (Gs.tail hgs));exact⟨.bool (!r),by simp[execOp,ho,h1,h2],(zar.val _).g⟩
  exact h.elim
 split at h
 ·rename_i hkind;rw[hkind]at hk;obtain⟨p,ip,h,hp⟩:=zef h;obtain⟨q,iq,h,hq⟩:=zef h;refine⟨_,h,.pure λo ho S Pm ρ a w hgs=>?_⟩;have hx:=hp (Gs.head hgs);have hy:=hq (Gs.head (Gs.tail hgs));refine⟨.bool (@decide p ip==@decide q iq),?_,(zar.pr (by by_cases hp':p <;> by_cases hq':q <;> simp[hp',hq'])).g⟩;simp[execOp,ho,hx,hy,eqGuard_at_bool,binOp,Op.equal,Op.maxDepth,run_equalIn_bool w 9999 t _ _ hk]
 ·rename_i hkind;rw[hkind]at hk;obtain⟨p,ip,h,hp⟩:=zef h;obtain⟨q,iq,h,hq⟩:=zef h;refine⟨_,h,.pure λo ho S Pm ρ a w hgs=>?_⟩;have hx:=hp (Gs.head hgs);have hy:=hq (Gs.head (Gs.tail hgs));refine⟨.bool (!(@decide p ip==@decide q iq)),?_,(zar.pr (by by_cases hp':p <;> by_cases hq':q <;> simp[hp',hq'])).g⟩;simp[execOp,ho,hx,hy,eqGuard_at_bool,binOp,Op.equal,Op.maxDepth,run_equalIn_bool w 9999 t _ _ hk]
 exact h.elim
def zrM{c:SV}{xc xa xb:Operand}{K:SV->MD->Prop}(h:zwC c a b K):
  ∃s,K s .none/\yx P (.pick xc xa xb) [c,a,b] lm κ s .none:=by
 have yes:∀(c':Bool),(∀{S Pm:Nat->Prop} {ρ:zi} {w:World} {v:Value},G S Pm ρ w c v->v=.bool c')->yx P (.pick xc xa xb) [c,a,b] lm κ (if c' then a else b) .none:=by
  intro c' hc;refine .pure λo ho S Pm ρ e w hgs=>?_
  have h1:=hc (Gs.head hgs);have h2:=Gs.head (Gs.tail hgs);have h3:=Gs.head (Gs.tail (Gs.tail hgs))
  cases c' with
  |true=>exact⟨_,by simp[execOp,ho,h1,asBool],h2⟩
  |false=>exact⟨_,by simp[execOp,ho,h1,asBool],h3⟩
 unfold zwC at h
 split at h
 ·exact⟨a,h,yes true λhg=>hg.val_inv⟩
 ·exact⟨b,h,yes false λhg=>hg.val_inv⟩
 ·rename_i p i
  by_cases hp:p
  ·exact⟨a,h.yes hp,yes true λhg=>by rw[hg.pr_inv];simp[hp]⟩
  exact⟨b,h.no hp,yes false λhg=>by rw[hg.pr_inv];simp[hp]⟩
 exact h.elim
def zwN{op:UnOp}{t:TypeId}{s:SV}{K:SV->MD->Prop}(h:unV op s K):
  ∃r,K r .none/\yx P (.unOp op t x) [s] lm κ r .none:=by
 unfold unV at h
 split at h
 ·exact⟨_,h,.pure λo ho S Pm ρ a w hgs=>⟨.bool false,by simp[execOp,ho,(Gs.head hgs).val_inv,Op.unary],(zar.val _).g⟩⟩
 ·exact⟨_,h,.pure λo ho S Pm ρ a w hgs=>⟨.bool true,by simp[execOp,ho,(Gs.head hgs).val_inv,Op.unary],(zar.val _).g⟩⟩
 ·rename_i p i;exact⟨_,h,.pure λo ho S Pm ρ a w hgs=>⟨.bool (!(@decide p i)),by simp[execOp,ho,(Gs.head hgs).pr_inv,Op.unary],(zar.pr (by rw[Qw];simp)).g⟩⟩
 ·rename_i k n;exact⟨_,u7 h,.pure λo ho S Pm ρ a w hgs=>⟨.int k (k.wrap (-n)),by simp[execOp,ho,(Gs.head hgs).val_inv,Op.unary,Op.intArith],(zar.val _).g⟩⟩
 exact h.elim
variable{cs:List SV}
def uF{agg:Bool}{sz:Nat}(h:mkV agg sz cs K):∃s,K s/\((agg=true/\s=.agg (cs.take sz))∨(agg=false/\∃r,cs=s::r)):=by
 unfold mkV at h
 split at h
 ·exact⟨_,h,.inl ⟨rfl,rfl⟩⟩
 split at h
 ·exact⟨_,qy h,.inr ⟨rfl,_,rfl⟩⟩
 exact h.elim
def ya(b o n:Nat):(⟨b,o,none⟩:Addr).add n=⟨b,o+n,none⟩:=by unfold Addr.add;split <;> simp_all
variable{vs:List Value}
def zbX{t:TypeId}{i:TI}(hT:ziD P t i){w:World}{b o:Nat}(hg:Gs S Pm ρ w cs vs)(hc:∀j v,vs[j]?=some v->w.cell? ⟨b,o+j,none⟩=some v)(hle:i.sz<=cs.length){s:SV}(hs:(i.kind.agg=true/\s=.agg (cs.take i.sz))∨(i.kind.agg=false/\∃r,cs=s::r)):
  ∃v,(loadVar t ⟨b,o,none⟩).run P w=.ok v w/\G S Pm ρ w s v:=by
 unfold loadVar;rw[Sem.run_bind,hT.agg w,Result.andThen_ok]
 obtain⟨h1,rfl⟩|⟨h1,r,rfl⟩:=hs
 ·have hl:(vs.take i.sz).length=i.sz:=by have:=hg.1;simp;omega
  have hload:=run_loadCells_list (P:=P) w ⟨b,o,none⟩ (vs.take i.sz) (λj v hv=>by
   rw[ya];rw[XI]at hv
   split at hv
   ·exact hc j v hv
   cases hv)
  rw[hl]at hload;refine⟨.agg (vs.take i.sz).toArray,?_,.agg _ _ (hg.take _).1 (hg.take _).2⟩;simp[h1,hT.size,hload]
 obtain⟨v,vs',rfl,h2,h3⟩:=hg.cons_inv;have:=hc 0 v rfl;exact⟨v,by simp only[h1,Kr,if_false,run_load,XQ]at this ⊢;rw[this],h2⟩
def zpa{s:SV}(h:zlQ s=true){w:World}{v:Value}(hg:G S Pm ρ w s v):v.oneCell'=true:=by
 cases s with
 |val u=>rw[hg.val_inv];cases u <;> first|rfl|(simp[zlQ]at h)
 |pr p i=>rw[hg.pr_inv];rfl
 |agg cs=>simp[zlQ]at h
 |sl enc xs=>obtain⟨_,_,rfl⟩|⟨_,_,_,_,_,rfl,_⟩:=hg.sl_inv.sl_inv <;> rfl
 |nils=>obtain⟨_,rfl⟩:=hg.nils_inv;rfl
 |anyb=>obtain⟨_,rfl⟩:=hg.anyb_inv;rfl
 |full enc xs=>obtain⟨_,rfl,_⟩:=hg.full_inv;rfl
 |ptr cs=>obtain⟨_,_,_,rfl,_⟩:=hg.ptr_inv;rfl
 |loc k off=>obtain⟨_,_,rfl⟩:=hg.loc_inv;rfl
 |own k=>exact hg.own_inv.2
 |eloc k sz i off=>obtain⟨_,_,_,_,rfl⟩:=hg.eloc_inv;rfl
 |win k sz lo n=>obtain⟨_,_,_,_,_,rfl,_⟩:=hg.win_inv;rfl
 |fn f cs=>obtain⟨_,rfl,_⟩:=hg.fn_inv;rfl
 |dptr cs=>obtain⟨_,_,_,rfl,_⟩:=hg.dptr_inv;rfl
 |dfn f cs=>obtain⟨_,rfl,_⟩:=hg.dfn_inv;rfl
 |bm f cs=>obtain⟨_,rfl,_⟩:=hg.bm_inv;rfl
 |op v=>obtain⟨rfl,h⟩:=hg.op_inv;cases v <;> first|rfl|cases h
 |ifc t s=>obtain⟨_,rfl,_⟩:=hg.ifc_inv;rfl
 |tup cs=>simp[zlQ]at h
 |junk=>simp[zlQ]at h
def zhh(h:jX cs=true){w:World}(hg:Gs S Pm ρ w cs vs):∀v∈vs,v.oneCell'=true:=by
 induction cs generalizing vs with
 |nil=>rw[hg.nil_inv];simp
 |cons s cs ih=>
  obtain⟨v,vs',rfl,h1,h2⟩:=hg.cons_inv;simp only[jX]at h
  split at h
  ·rename_i hc;intro u hu
   cases hu with
   |head=>exact zpa hc h1
   |tail _ hu=>exact ih h h2 u hu
  cases h
def zlX{v:Value}(h:v.oneCell'=true):v.cells=#[v]:=by cases v <;> first|rfl|(simp[Value.oneCell']at h)
def vJ{s:SV}(h:jX (kO s)=true){w:World}{v:Value}(hg:G S Pm ρ w s v):
  Gs S Pm ρ w (kO s) v.cells.toList/\∀u∈v.cells.toList,u.oneCell'=true:=by
 have key:Gs S Pm ρ w (kO s) v.cells.toList:=by
  by_cases ha:∃cs,s=.agg cs
  ·obtain⟨cs,rfl⟩:=ha;obtain⟨vs,rfl,h1⟩:=hg.agg_inv;exact h1
  have hc:kO s=[s]:=by cases s <;> first|rfl|exact absurd ⟨_,rfl⟩ ha
  rw[hc]at h ⊢;simp only[jX]at h
  split at h
  ·rename_i h1;rw[zlX (zpa h1 hg)];exact .cons hg .nil
  cases h
 exact⟨key,zhh h key⟩
def zpb{w:World}{new:List SV}{us:List Value}(off:Nat)(h:Gs S Pm ρ w cs vs)(hn:Gs S Pm ρ w new us):
  Gs S Pm ρ w (vj cs off new) (vs.take off++us++vs.drop (off+us.length)):=by
 unfold vj;rw[hn.1];exact((h.take _).append hn).append (h.drop _)
end
end Go.Gs
