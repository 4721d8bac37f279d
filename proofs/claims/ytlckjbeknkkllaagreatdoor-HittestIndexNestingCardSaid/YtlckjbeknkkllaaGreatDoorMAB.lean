/- What a symbolic value says, read back; blocks of one's own behind a change. -/
import Derived.Test.YtlckjbeknkkllaaGreatDoorMAA
import Derived.Laws.StructEq
import Derived.Laws.MakeOwn
import Derived.Laws.Slices
import Derived.Laws.BitsLemmas
import Derived.Laws.Small
import Derived.ChangeKeysEq
import Derived.Laws.CopyRow
import Derived.Laws.Cover3
set_option maxRecDepth 100000
set_option maxHeartbeats 8000000
set_option linter.all false
namespace Go.Gs
section inv
variable{S Pm:LG}{ρ:ze}{w:World}
section
variable{u:Value}
def D.val_inv{v:Value}(h:D S w (.val v) u):u=v:=by cases h;rfl
def G.val_inv{v u:Value}(h:G S Pm ρ w (.val v) u):u=v:=by cases h with|d _ _ h=>exact h.val_inv
def G.pr_inv{p:Prop}{i:Decidable p}(h:G S Pm ρ w (.pr p i) u):u=.bool (@decide p i):=by
 cases h with|d _ _ h=>cases h;rfl
variable{off:Nat}
def G.loc_inv{k:Nat}(h:G S Pm ρ w (.loc k off) u):∃b,ρ k=some (.pointer (some ⟨b,0,none⟩))/\u=.pointer (some ⟨b,off,none⟩):=by
 cases h with
 |d _ _ h=>cases h
 |loc _ _ b h=>exact⟨b,h,rfl⟩
def G.own_inv{k:Nat}(h:G S Pm ρ w (.own k) u):ρ k=some u/\u.oneCell'=true:=by
 cases h with
 |d _ _ h=>cases h
 |own _ _ h h1=>exact⟨h,h1⟩
variable{sz:Nat}
def G.eloc_inv{k:Nat}{i:Int}(h:G S Pm ρ w (.eloc k sz i off) u):
  ∃b len cap,ρ k=some (.slice (some ⟨b,0,none⟩) len cap)/\u=.pointer (some ⟨b,i.toNat*sz+off,none⟩):=by
 cases h with
 |d _ _ h=>cases h
 |eloc _ _ _ _ b len cap h=>exact⟨b,len,cap,h,rfl⟩
def G.win_inv{k:Nat}{lo n:Int}(h:G S Pm ρ w (.win k sz lo n) u):
  ∃b len cap cap',ρ k=some (.slice (some ⟨b,0,none⟩) len cap)/\u=.slice (some ⟨b,lo.toNat*sz,none⟩) n.toNat cap'/\lo.toNat+n.toNat<=len/\n.toNat<=cap':=by
 cases h with
 |d _ _ h=>cases h
 |win _ _ _ _ b len cap cap' h h1 h2=>exact⟨b,len,cap,cap',h,rfl,h1,h2⟩
variable{cs:LQ}
def G.ptr_inv(h:G S Pm ρ w (.ptr cs) u):∃b o,∃c:Nat->Value,u=.pointer (some ⟨b,o,none⟩)/\b<w.heap.size/\¬Pm b/\
  (∀j,j<cs.length->w.cell? ⟨b,o+j,none⟩=some (c j)/\(c j).oneCell'=true)/\∀(j:Nat) (s:SV),cs[j]?=some s->D S w s (c j):=by
 cases h with
 |d _ _ h=>cases h
 |ptr _ b o c hb hP hc h=>exact⟨b,o,c,rfl,hb,hP,hc,h⟩
def G.dptr_inv(h:G S Pm ρ w (.dptr cs) u):∃b o,∃c:Nat->Value,u=.pointer (some ⟨b,o,none⟩)/\b<w.heap.size/\¬S b/\
  (∀j,j<cs.length->w.cell? ⟨b,o+j,none⟩=some (c j)/\(c j).oneCell'=true)/\∀(j:Nat) (s:SV),cs[j]?=some s->D S w s (c j):=by
 cases h with
 |d _ _ h=>cases h with|dptr _ b o c hb hS hc h=>exact⟨b,o,c,rfl,hb,hS,hc,h⟩
variable{f:FuncId}
def G.dfn_inv(h:G S Pm ρ w (.dfn f cs) u):∃vs:LZ,u=.func (.func f) #[] vs.toArray/\Gs S Pm ρ w cs vs:=by
 cases h with
 |d _ _ h=>cases h with|dfn _ _ vs hl h=>exact⟨vs,rfl,hl,λj s v h1 h2=>.d _ _ (h j s v h1 h2)⟩
def G.bm_inv(h:G S Pm ρ w (.bm f cs) u):∃vs:LZ,u=.func (.func f) vs.toArray #[]/\Gs S Pm ρ w cs vs:=by
 cases h with
 |d _ _ h=>cases h with|bm _ _ vs hl h=>exact⟨vs,rfl,hl,λj s v h1 h2=>.d _ _ (h j s v h1 h2)⟩
def G.op_inv{v:Value}(h:G S Pm ρ w (.op v) u):u=v/\ifB v=true:=by
 cases h with
 |d _ _ h=>cases h with|op _ h=>exact⟨rfl,h⟩
def G.ifc_inv{t:TypeId}{s:SV}(h:G S Pm ρ w (.ifc t s) u):∃v,u=.iface t v/\G S Pm ρ w s v:=by
 cases h with
 |d _ _ h=>cases h with|ifc _ _ v h=>exact⟨v,rfl,.d _ _ h⟩
 |ifc _ _ v h=>exact⟨v,rfl,h⟩
def G.agg_inv(h:G S Pm ρ w (.agg cs) u):∃vs:LZ,u=.agg vs.toArray/\Gs S Pm ρ w cs vs:=by
 cases h with
 |d _ _ h=>cases h with|agg _ vs hl h=>exact⟨vs,rfl,hl,λj s v hs hv=>.d _ _ (h j s v hs hv)⟩
 |agg _ vs hl h=>exact⟨vs,rfl,hl,h⟩
def G.tup_inv(h:G S Pm ρ w (.tup cs) u):∃vs:LZ,u=.tuple vs.toArray/\Gs S Pm ρ w cs vs:=by
 cases h with
 |d _ _ h=>cases h
 |tup _ vs hl h=>exact⟨vs,rfl,hl,h⟩
def G.fn_inv(h:G S Pm ρ w (.fn f cs) u):∃vs:LZ,u=.func (.func f) #[] vs.toArray/\Gs S Pm ρ w cs vs:=by
 cases h with
 |d _ _ h=>cases h
 |fn _ _ vs hl h=>exact⟨vs,rfl,hl,h⟩
variable{α:Type}{xs:List α}
def G.sl_inv{enc:α->LQ}(h:G S Pm ρ w (.sl enc xs) u):D S w (.sl enc xs) u:=by
 cases h with|d _ _ h=>exact h
def D.sl_inv{enc:α->LQ}(h:D S w (.sl enc xs) u):
  (xs=[]/\∃a,u=.slice a 0 0)∨∃sz b o cap,∃c:Nat->Nat->Value,u=.slice (some ⟨b,o,none⟩) xs.length cap/\b<w.heap.size/\¬S b/\xs.length<=9223372036854775807/\xs.length<=cap/\
   (∀x∈xs,(enc x).length=sz)/\(∀i j,i<xs.length->j<sz->w.cell? ⟨b,o+i*sz+j,none⟩=some (c i j)/\(c i j).oneCell'=true)/\
   ∀(i j:Nat) (x:α) (s:SV),xs[i]?=some x->(enc x)[j]?=some s->D S w s (c i j):=by
 cases h with
 |nil _ a=>exact .inl ⟨rfl,a,rfl⟩
 |sl _ _ sz b o cap c hb hS hlen hcap hsz hc h=>exact .inr ⟨sz,b,o,cap,c,rfl,hb,hS,hlen,hcap,hsz,hc,h⟩
def G.nils_inv(h:G S Pm ρ w .nils u):∃a,u=.slice a 0 0:=by
 cases h with|d _ _ h=>cases h with|nils a=>exact⟨a,rfl⟩
def G.full_inv{enc:α->LQ}(h:G S Pm ρ w (.full enc xs) u):∃a,u=.slice a xs.length xs.length/\D S w (.sl enc xs) u:=by
 cases h with|d _ _ h=>cases h with|full _ _ a h=>exact⟨a,rfl,h⟩
def G.anyb_inv(h:G S Pm ρ w .anyb u):∃b,u=.bool b:=by
 cases h with|d _ _ h=>cases h with|anyb b=>exact⟨b,rfl⟩
def Gs.nil:Gs S Pm ρ w [] []:=⟨rfl,λ_ _ _ h=>by simp at h⟩
variable{vs:LZ}
def Gs.cons{s:SV}{v:Value}(h:G S Pm ρ w s v)(hs:Gs S Pm ρ w cs vs):Gs S Pm ρ w (s::cs) (v::vs):=
 ⟨by simp[hs.1],λj s' v' h1 h2=>by
  cases j with
  |zero=>simp at h1 h2;subst h1;subst h2;exact h
  |succ j=>simp at h1 h2;exact hs.2 j s' v' h1 h2⟩
def Gs.head{s:SV}{v:Value}(h:Gs S Pm ρ w (s::cs) (v::vs)):G S Pm ρ w s v:=h.2 0 s v rfl rfl
def Gs.tail{s:SV}{v:Value}(h:Gs S Pm ρ w (s::cs) (v::vs)):Gs S Pm ρ w cs vs:=
 ⟨by simpa using h.1,λj s' v' h1 h2=>h.2 (j+1) s' v' (by simpa using h1) (by simpa using h2)⟩
def Gs.cons_inv{s:SV}(h:Gs S Pm ρ w (s::cs) vs):∃v vs',vs=v::vs'/\G S Pm ρ w s v/\Gs S Pm ρ w cs vs':=by
 cases vs with
 |nil=>simp[Gs]at h
 |cons v vs=>exact⟨v,vs,rfl,h.head,h.tail⟩
def Gs.nil_inv(h:Gs S Pm ρ w [] vs):vs=[]:=by simpa[Gs] using h.1
def Gs.append{ds:LQ}{us:LZ}(h:Gs S Pm ρ w cs vs)(k:Gs S Pm ρ w ds us):Gs S Pm ρ w (cs++ds) (vs++us):=by
 induction cs generalizing vs with
 |nil=>rw[h.nil_inv];exact k
 |cons s cs ih=>obtain⟨v,vs',rfl,h1,h2⟩:=h.cons_inv;exact .cons h1 (ih h2)
def Gs.drop{cs:LQ}{vs:LZ}(n:Nat)(h:Gs S Pm ρ w cs vs):Gs S Pm ρ w (cs.drop n) (vs.drop n):=
 ⟨by simp[h.1],λj s v h1 h2=>h.2 (n+j) s v (by simpa using h1) (by simpa using h2)⟩
def Gs.take{cs:LQ}{vs:LZ}(n:Nat)(h:Gs S Pm ρ w cs vs):Gs S Pm ρ w (cs.take n) (vs.take n):=
 ⟨by simp[h.1],λj s v h1 h2=>by
  rw[XK]at h1 h2
  split at h1
  ·rename_i hj;rw[Xe hj]at h2;exact h.2 j s v h1 h2
  cases h1⟩
def Gs.vals(l:LZ):Gs S Pm ρ w (vals l) l:=
 ⟨by simp[Go.Gs.vals],λj s v h1 h2=>by
  simp[Go.Gs.vals,h2]at h1;subst h1;exact .d _ _ (.val v)⟩
def Gs.mono'{S' Pm':LG}{ρ':ze}{w':World}(h:Gs S Pm ρ w cs vs)(hg:∀s v,G S Pm ρ w s v->G S' Pm' ρ' w' s v):Gs S' Pm' ρ' w' cs vs:=⟨h.1,λj s v h1 h2=>hg s v (h.2 j s v h1 h2)⟩
end
end inv
def qn{s:SV}{K:SV->Prop}(h:uW s K):K s:=by
 cases s with
 |val v=>cases v with
  |bool b=>cases b <;> exact h
  |_=>exact h
 |_=>exact h
def zf{b:Bool}{K:Prop}(h:zJ b K):b=true/\K:=by cases b <;> first|exact h.elim|exact⟨rfl,h⟩
def zZ{a b:Bool}(h:jN a b=true):a=true/\b=true:=by cases a <;> simp_all[jN]
def zo{Γ:LS}{t:TypeId}{K:TI->Prop}(h:kz Γ t K):∃i,ti Γ t=some i/\K i:=by
 unfold kz at h;split at h
 ·exact⟨_,‹_›,h⟩
 exact h.elim
def zeN(P:Program)(t:TypeId):TK->Prop
 |.int k=>P.underlying t=some (.int k)
 |.bool=>P.underlying t=some .bool
 |.str=>P.underlying t=some .string
 |.ptr e=>P.underlying t=some (.pointer e)
 |.slice e=>P.underlying t=some (.slice e)
 |.struct fs=>∃F,P.underlying t=some (.struct F)/\F.toList.map (λf=>(f.offset,f.type))=fs/\∃pl,F.toList.mapM (λf=>(P.info? f.type).map λi=>(f.offset,i.size))=some pl
 |.arr n e=>P.underlying t=some (.array n e)
 |.map k e=>P.underlying t=some (.map k e)
 |.iface=>∃ms,P.underlying t=some (.interface ms)
 |.other=>∃a b c,P.underlying t=some (.func a b c)
structure zhX (P:Program) (t:TypeId) (i:TI):Prop where
 inf:∃f,P.info? t=some f/\f.size=i.sz/\f.bytes=i.bytes/\∃z,f.zero=some z/\z.cells.toList=i.zero/\(i.kind.agg=false->z.cells=#[z])/\i.zero.length=i.sz/\
  ∀v∈i.zero,v.oneCell'=true
 kind:zeN P t i.kind
 zagg:i.kind.agg=true->∃f,P.info? t=some f/\f.zero=some (.agg i.zero.toArray)
 cmp:i.cmp=true->P.stoodInHeld t=false/\P.eqGuardType P.depth t=false/\∀f∈(P.fieldsOf t).toList,f.name≠ "_"
def TOK(P:Program)(Γ:LS):Prop:=∀t i,ti Γ t=some i->zhX P t i
section types
variable{P:Program}{t:TypeId}{i:TI}
def zhX.size(h:zhX P t i)(w:World):(sizeOf t).run P w=.ok i.sz w:=by
 obtain⟨f,h1,h2,_⟩:=h.inf;simp[sizeOf,typeInfo,h1,h2]
def zhX.agg(h:zhX P t i)(w:World):(isAgg t).run P w=.ok i.kind.agg w:=by
 have hk:=h.kind
 cases hi:i.kind <;> rw[hi]at hk <;> simp only[zeN]at hk
 case struct fs=>obtain⟨F,hF,_⟩:=hk;simp[isAgg,run_underlying hF,TK.agg]
 case other=>obtain⟨a,b,c,hd⟩:=hk;simp[isAgg,run_underlying hd,TK.agg]
 case iface=>obtain⟨ms,hd⟩:=hk;simp[isAgg,run_underlying hd,TK.agg]
 all_goals simp[isAgg,run_underlying hk,TK.agg]
def zhX.und(h:zhX P t i):∃d,P.underlying t=some d:=by
 have hk:=h.kind
 cases hi:i.kind <;> rw[hi]at hk <;> simp only[zeN]at hk
 case struct fs=>exact⟨_,hk.choose_spec.1⟩
 case other=>obtain⟨a,b,c,hd⟩:=hk;exact⟨_,hd⟩
 case iface=>obtain⟨ms,hd⟩:=hk;exact⟨_,hd⟩
 all_goals exact⟨_,hk⟩
end types
section
variable{Keep:LG}{ρ:ze}{ρ':ze}{w':World}{m:Mem}
def je.keep{W W':LG}{w:World}{k:Nat}(hs:Stp W W' ρ ρ' w w')(hk:ρ' k=ρ k)(hb:∀v b,ρ k=some v->kI v=some b->w'.heap[b]?=w.heap[b]?)(h:je (λb=>Keep b∨W b) W ρ w k m):je (λb=>Keep b∨W' b) W' ρ' w' k m:=by
 cases m with
 |box T cs=>
  obtain⟨b,vs,h1,h2,h3,h4,h5⟩:=h;exact⟨b,vs,hk.trans h1,(hb _ b h1 rfl).trans h2,h3,h4,λj s v hs' hv=>(h5 j s v hs' hv).stp hs⟩
 |arr T enc sz xs=>
  obtain⟨v,cells,h1,h2,h3,h4,h5,h6⟩:=h;refine⟨v,cells,hk.trans h1,⟨h2.1,?_⟩,h3,h4,h5,λi j x s hx hj=>?_⟩
  ·rcases h2.2 with h|⟨g,cap,cur,rfl,h7,h8,h9⟩
   ·exact .inl h
   exact .inr ⟨g,cap,cur,rfl,h7,(hb _ g h1 rfl).trans h8,h9⟩
  obtain⟨u,hu,hd⟩:=h6 i j x s hx hj;exact⟨u,hu,hd.stp hs⟩
 |garr T sz xs=>
  obtain⟨v,cells,h1,h2,h3,h4,h5,h6⟩:=h;refine⟨v,cells,hk.trans h1,⟨h2.1,?_⟩,h3,h4,h5,λi j x s hx hj=>?_⟩
  ·rcases h2.2 with h|⟨g,cap,cur,rfl,h7,h8,h9⟩
   ·exact .inl h
   exact .inr ⟨g,cap,cur,rfl,h7,(hb _ g h1 rfl).trans h8,h9⟩
  obtain⟨u,hu,hd⟩:=h6 i j x s hx hj;exact⟨u,hu,hd.stp hs⟩
 |map es=>
  obtain⟨r,ents,clock,h1,h2,h3,h4⟩:=h;refine⟨r,ents,clock,hk.trans h1,(hb _ r h1 rfl).trans h2,h3,λi n s hi=>?_⟩;obtain⟨e,g1,g2,g3⟩:=h4 i n s hi;exact⟨e,g1,g2,g3.stp hs⟩
variable{M:LT}{M':LT}
def zB.next{w:World}(κ:Nat)(hm:zB Keep M ρ w)(hs:Stp (Own M ρ) (Own M' ρ') ρ ρ' w w')(hkeys:M'.Pairwise λa b=>a.1≠b.1)(hold:∀k m,(k,m)∈M'->k≠κ->(k,m)∈M/\ρ' k=ρ k/\∀v b,ρ k=some v->kI v=some b->w'.heap[b]?=w.heap[b]?)(hnew:∀m,(κ,m)∈M'->je (λb=>Keep b∨Own M' ρ' b) (Own M' ρ') ρ' w' κ m)(hap:∀m v b,(κ,m)∈M'->ρ' κ=some v->kI v=some b->
   (∀k m v',(k,m)∈M'->k≠κ->ρ k=some v'->kI v'≠some b)/\b<w'.heap.size/\¬Keep b):zB Keep M' ρ' w' where
 rel k m hkm:=by
  by_cases hk:k=κ
  ·subst hk;exact hnew m hkm
  obtain⟨h1,h2,h3⟩:=hold k m hkm hk;exact(hm.rel k m h1).keep hs h2 h3
 keys:=hkeys
 apart k m k' m' v v' b h1 h2 hne hv hv' hb hb':=by
  by_cases hk:k=κ
  ·subst hk;have hk':k'≠k:=YM hne;obtain⟨_,h3,_⟩:=hold k' m' h2 hk';exact(hap m v b h1 hv hb).1 k' m' v' h2 hk' (h3 ▸ hv') hb'
  by_cases hk':k'=κ
  ·subst hk';obtain⟨_,h3,_⟩:=hold k m h1 hk;exact(hap m' v' b h2 hv' hb').1 k m v h1 hk (h3 ▸ hv) hb
  obtain⟨h3,h4,_⟩:=hold k m h1 hk;obtain⟨h5,h6,_⟩:=hold k' m' h2 hk';exact hm.apart k m k' m' v v' b h3 h5 hne (h4 ▸ hv) (h6 ▸ hv') hb hb'
 old b hb:=by
  obtain⟨k,m,v,h1,h2,h3⟩:=hb
  by_cases hk:k=κ
  ·subst hk;exact(hap m v b h1 h2 h3).2
  obtain⟨h4,h5,_⟩:=hold k m h1 hk;have:=hm.old b ⟨k,m,v,h4,h5 ▸ h2,h3⟩;exact⟨Xy this.1 hs.size,this.2⟩
 kp b hb:=Xy (hm.kp b hb) hs.size
 gl:=hm.glS hs
def kF{k:Nat}(x:Nat×Mem)(h:x∈z5 M k):x∈M:=by
 induction M with
 |nil=>exact h
 |cons y r ih=>
  obtain⟨k',m'⟩:=y;simp only[z5]at h
  split at h
  ·exact .tail _ h
  cases h with
  |head=>exact .head _
  |tail _ h=>exact .tail _ (ih h)
def yP{k:Nat}(hp:M.Pairwise λa b=>a.1≠b.1)(x:Nat×Mem)(h:x∈z5 M k):x.1≠k:=by
 induction M with
 |nil=>cases h
 |cons y r ih=>
  obtain⟨k',m'⟩:=y;rw[XY]at hp;simp only[z5]at h
  split at h
  ·rename_i hb;have:=Xh hb;subst this;exact λe=>hp.1 x h e.symm
  rename_i hb
  cases h with
  |head=>exact KO hb
  |tail _ h=>exact ih hp.2 h
def k7{M:LT}{k:Nat}(hp:M.Pairwise λa b=>a.1≠b.1):(z5 M k).Pairwise λa b=>a.1≠b.1:=by
 induction M with
 |nil=>exact hp
 |cons y r ih=>
  obtain⟨k',m'⟩:=y;rw[XY]at hp;simp only[z5]
  split
  ·exact hp.2
  rw[XY];exact⟨λx hx=>hp.1 x (kF x hx),ih hp.2⟩
def qJ{k:Nat}(hp:M.Pairwise λa b=>a.1≠b.1)(x:Nat×Mem)(h:x∈kO M k m):x.1≠k/\x∈M∨x=(k,m):=by
 induction M with
 |nil=>cases h
 |cons y r ih=>
  obtain⟨k',m'⟩:=y;rw[XY]at hp;simp only[kO]at h
  split at h
  ·rename_i hb;have:=Xh hb;subst this
   cases h with
   |head=>exact .inr rfl
   |tail _ h=>exact .inl ⟨λe=>hp.1 x h e.symm,.tail _ h⟩
  rename_i hb
  cases h with
  |head=>exact .inl ⟨KO hb,.head _⟩
  |tail _ h=>exact(ih hp.2 h).imp (λh=>⟨h.1,.tail _ h.2⟩) id
def u0{k:Nat}:(kO M k m).map (·.1)=M.map (·.1):=by
 induction M with
 |nil=>rfl
 |cons y r ih=>
  obtain⟨k',m'⟩:=y;simp only[kO]
  split
  ·rename_i hb;have:=Xh hb;subst this;rfl
  simp[ih]
def jC(h:M'.map (·.1)=M.map (·.1))(hp:M.Pairwise λa b=>a.1≠b.1):M'.Pairwise λa b=>a.1≠b.1:=by
 have h1:(M.map (·.1)).Pairwise λa b=>a≠b:=QS.2 hp
 rw[←h]at h1;exact QS.1 h1
variable{b:Nat}
def uF(h:M'.map (·.1)=M.map (·.1))(ho:Own M ρ b):Own M' ρ b:=by
 obtain⟨k,m,v,h1,h2,h3⟩:=ho;have:k∈M'.map (·.1):=by rw[h];exact XL.2 ⟨_,h1,rfl⟩
 obtain⟨⟨k',m'⟩,hx,rfl⟩:=XL.1 this;exact⟨_,m',v,hx,h2,h3⟩
def zgz{k:Nat}(hp:M.Pairwise λa b=>a.1≠b.1)(h:∀m,(k,m)∉M):((k,m)::M).Pairwise λa b=>a.1≠b.1:=
 XY.2 ⟨λx hx e=>by obtain⟨k',m'⟩:=x;have e:k=k':=e;subst e;exact h m' hx,hp⟩
def upd(ρ:ze)(κ:Nat)(v:Value):ze:=λk=>if k=κ then some v else ρ k
variable{κ:Nat}
def z7{v:Value}:upd ρ κ v κ=some v:=by simp[upd]
def zeO{k:Nat}{v:Value}(h:k≠κ):upd ρ κ v k=ρ k:=by simp[upd,h]
def zB.write{w:World}(hm:zB Keep M ρ w){k:Nat}(m':Mem)(hk:(k,m)∈M){v:Value}(hv:ρ k=some v)(hb:kI v=some b)(cs:Array Value)(hrel:Stp (Own M ρ) (Own (kO M k m') ρ) ρ ρ w (w.setRow b cs)->je (λb=>Keep b∨Own (kO M k m') ρ b) (Own (kO M k m') ρ) ρ (w.setRow b cs) k m'):
  Stp (Own M ρ) (Own (kO M k m') ρ) ρ ρ w (w.setRow b cs)/\zB Keep (kO M k m') ρ (w.setRow b cs):=by
 have hkeys:(kO M k m').map (·.1)=M.map (·.1):=u0
 have hs:Stp (Own M ρ) (Own (kO M k m') ρ) ρ ρ w (w.setRow b cs):=
  ⟨rfl,rfl,.setRow _ _ _,sI,λb' _ hn=>setRow_other w b b' cs (λe=>hn ⟨k,m,v,hk,hv,e ▸ hb⟩),λb' hb'=>.inl (uF hkeys.symm hb'),λ_ _ h=>h⟩
 refine⟨hs,zB.next k hm hs (jC hkeys hm.keys) ?_ ?_ ?_⟩
 ·intro k' m1 h1 hne
  obtain⟨_,h2⟩|h2:=qJ hm.keys _ h1
  ·refine⟨h2,rfl,λv' b' hv' hb'=>setRow_other w b b' cs (λe=>?_)⟩;subst e;exact hm.apart k' m1 k m v' v b' h2 hk hne hv' hv hb' hb
  cases h2;exact absurd rfl hne
 ·intro m1 h1
  obtain⟨h2,_⟩|h2:=qJ hm.keys _ h1
  ·exact absurd rfl h2
  cases h2;exact hrel hs
 intro m1 v' b' _ hv' hb';rw[hv]at hv';cases hv'
 rw[hb]at hb';cases hb'
 refine⟨λk' m2 v2 h2 hne hv2 hb2=>?_,by simpa using (hm.old b ⟨k,m,v,hk,hv,hb⟩).1,(hm.old b ⟨k,m,v,hk,hv,hb⟩).2⟩
 obtain⟨_,h3⟩|h3:=qJ hm.keys _ h2
 ·exact hm.apart k' m2 k m v2 v b h3 hk hne hv2 hv hb2 hb
 cases h3;exact absurd rfl hne
def zB.grow{Keep:LG}{M M1:LT}{ρ:ze}{w:World}(hm:zB Keep M ρ w)(hsub:∀x∈M1,x∈M)(hpw:M1.Pairwise λa b=>a.1≠b.1){κ:Nat}(hκ:ρ κ=none)(hκM:∀m,(κ,m)∉M)(v:Value)(m:Mem)(w':World)(hos:w'.os=w.os)(htape:w'.tape=w.tape)(hout:kr w w')(hsize:w.heap.size<=w'.heap.size)(hblock:∀b,b<w.heap.size->¬Own M ρ b->w'.heap[b]?=w.heap[b]?)(hkeep:∀k m v b,(k,m)∈M1->ρ k=some v->kI v=some b->w'.heap[b]?=w.heap[b]?)(hv:∀b,kI v=some b->(Own M ρ b∨w.heap.size<=b)/\b<w'.heap.size/\∀k m v',(k,m)∈M1->ρ k=some v'->kI v'≠some b)(hrel:Stp (Own M ρ) (Own ((κ,m)::M1) (upd ρ κ v)) ρ (upd ρ κ v) w w'->
   je (λb=>Keep b∨Own ((κ,m)::M1) (upd ρ κ v) b) (Own ((κ,m)::M1) (upd ρ κ v)) (upd ρ κ v) w' κ m):
  Stp (Own M ρ) (Own ((κ,m)::M1) (upd ρ κ v)) ρ (upd ρ κ v) w w'/\zB Keep ((κ,m)::M1) (upd ρ κ v) w':=by
 have hne:∀k m,(k,m)∈M1->k≠κ:=λk m h e=>by subst e;exact hκM m (hsub _ h)
 have hs:Stp (Own M ρ) (Own ((κ,m)::M1) (upd ρ κ v)) ρ (upd ρ κ v) w w':=by
  refine⟨hos,htape,hout,hsize,hblock,?_,?_⟩
  ·rintro b ⟨k,m',v',hk,hv',hb⟩
   cases hk with
   |head=>rw[z7]at hv';cases hv';exact(hv b hb).1
   |tail _ hk=>rw[zeO (hne _ _ hk)]at hv';exact .inl ⟨k,m',v',hsub _ hk,hv',hb⟩
  intro k v' h;rw[zeO (λe=>by subst e;rw[hκ]at h;cases h)];exact h
 refine⟨hs,zB.next κ hm hs (zgz hpw λm h=>hκM m (hsub _ h)) ?_ ?_ ?_⟩
 ·intro k m' h hk
  cases h with
  |head=>exact absurd rfl hk
  |tail _ h=>exact⟨hsub _ h,zeO hk,λv' b h1 h2=>hkeep k m' v' b h h1 h2⟩
 ·intro m' h
  cases h with
  |head=>exact hrel hs
  |tail _ h=>exact absurd rfl (hne _ _ h)
 intro m' v' b _ h1 h2;rw[z7]at h1;cases h1
 obtain⟨h3,h4,h5⟩:=hv b h2;refine⟨λk m1 v1 h6 h7 h8=>?_,h4,λhk=>?_⟩
 ·cases h6 with
  |head=>exact absurd rfl h7
  |tail _ h6=>exact h5 k m1 v1 h6 h8
 rcases h3 with h3|h3
 ·exact(hm.old b h3).2 hk
 have:=hm.kp b hk;omega
def zB.let_go{Keep:LG}{M M1:LT}{ρ:ze}{w:World}(hm:zB Keep M ρ w)(hsub:∀x∈M1,x∈M)(hpw:M1.Pairwise λa b=>a.1≠b.1):
  Stp (Own M ρ) (Own M1 ρ) ρ ρ w w/\zB Keep M1 ρ w:=by
 have hs:Stp (Own M ρ) (Own M1 ρ) ρ ρ w w:=
  ⟨rfl,rfl,.refl _,Xi _,λ_ _ _=>rfl,λb ⟨k,m,v,h1,h2,h3⟩=>.inl ⟨k,m,v,hsub _ h1,h2,h3⟩,λ_ _ h=>h⟩
 exact⟨hs,λk m h=>(hm.rel k m (hsub _ h)).keep hs rfl (λ_ _ _ _=>rfl),hpw,
  λk m k' m' v v' b h1 h2=>hm.apart k m k' m' v v' b (hsub _ h1) (hsub _ h2),λb ⟨k,m,v,h1,h2,h3⟩=>hm.old b ⟨k,m,v,hsub _ h1,h2,h3⟩,hm.kp,hm.glS hs⟩
variable{k':IntKind}
def zfl{k:IntKind}(h:zqX k k'=true):k=k':=by cases k <;> cases k' <;> first|rfl|(simp[zqX]at h)
def InK(k:IntKind)(e:Int):Prop:=
 match k with
 |.i64=> -9223372036854775808<=e/\e<=9223372036854775807
 |.i32=> -2147483648<=e/\e<=2147483647
 |.i16=> -32768<=e/\e<=32767
 |.i8=> -128<=e/\e<=127
 |.u64=>0<=e/\e<=18446744073709551615
 |.u32=>0<=e/\e<=4294967295
 |.u16=>0<=e/\e<=65535
 |.u8=>0<=e/\e<=255
variable{e:Int}
def zoj{k:IntKind}(h:InK k e):k.wrap e=e:=by
 cases k <;> simp only[InK]at h <;> simp[IntKind.wrap,IntKind.bits,IntKind.signed] <;> (try split) <;> omega
variable{K:SV->Prop}
def uv{k:IntKind}(h:zkN k e K):K (.val (.int k (k.wrap e))):=by
 cases k <;> simp only[zkN]at h <;> cases h with
 |fit h1 h2=>rw[zoj (by exact h1)];exact h2
 |wrap h=>exact h
def vL(s:SV)(v:Value):Prop:=(∃u,s=.val u/\v=u)∨∃p i,s=.pr p i/\v=.bool (@decide p i)
def vL.g{s:SV}{v:Value}(h:vL s v){S Pm:LG}{w:World}:G S Pm ρ w s v:=by
 obtain⟨u,rfl,rfl⟩|⟨p,i,rfl,rfl⟩:=h
 ·exact .d _ _ (.val _)
 exact .d _ _ (.pr p i)
def vL.val(v:Value):vL (.val v) v:=.inl ⟨v,rfl,rfl⟩
def vL.pr{p:Prop}{i:Decidable p}{b:Bool}(h:b=@decide p i):vL (.pr p i) (.bool b):=.inr ⟨p,i,rfl,by rw[h]⟩
def zAH{k:IntKind}(h0:0<=e)(h1:e<=kmax k):InK k e:=by cases k <;> simp only[kmax,InK] at*<;> omega
def zq8{op:BinOp}{k:IntKind}{m n:Int}(hs:zsI op=false)(h:intV op k m n K):
  ∃s,K s/\∃v,vL s v/\∀(P:Program) (t:TypeId) (w:World),(binOp op t (.int k m) (.int k n)).run P w=.ok v w:=by
 cases op <;> simp only[intV]at h <;> try (exact h.elim)
 case add=>exact⟨_,uv h,_,.val _,λP t w=>by simp[binOp,Op.intArith]⟩
 case sub=>exact⟨_,uv h,_,.val _,λP t w=>by simp[binOp,Op.intArith]⟩
 case mul=>exact⟨_,uv h,_,.val _,λP t w=>by simp[binOp,Op.intArith]⟩
 case quo=>
  cases h with
  |pos h1 h2=>
   refine⟨_,h2,_,.val _,λP t w=>?_⟩;have h3:n≠0:=oM;have h4:m.tdiv n=m/n:=Int.tdiv_eq_ediv_of_nonneg h1.1;have h5:0<=m/n:=Int.ediv_nonneg h1.1 oM;have h6:m/n<=m:=Int.ediv_le_self n h1.1;simp[binOp,Op.intDiv,h3,h4,zoj (zAH h5 (Int.le_trans h6 h1.2.2))]
  |any h1 h2=>exact⟨_,uv h2,_,.val _,λP t w=>by simp[binOp,Op.intDiv,h1]⟩
 case rem=>
  cases h with
  |pos h1 h2=>
   refine⟨_,h2,_,.val _,λP t w=>?_⟩;have h3:n≠0:=oM;have h4:m.tmod n=m%n:=Int.tmod_eq_emod_of_nonneg h1.1;simp[binOp,Op.intDiv,h3,h4]
  |any h1 h2=>exact⟨_,h2,_,.val _,λP t w=>by simp[binOp,Op.intDiv,h1]⟩
 case eql=>exact⟨_,h,.bool (m==n),.pr (by rw[QA];simp),λP t w=>by simp[binOp,Op.intCmp]⟩
 case neq=>exact⟨_,h,.bool (m != n),.pr (by rw[QA];simp),λP t w=>by simp[binOp,Op.intCmp]⟩
 case lss=>exact⟨_,h,.bool (decide (m<n)),.pr rfl,λP t w=>by simp[binOp,Op.intCmp]⟩
 case leq=>exact⟨_,h,.bool (decide (m<=n)),.pr rfl,λP t w=>by simp[binOp,Op.intCmp]⟩
 case gtr=>exact⟨_,h,.bool (decide (m > n)),.pr rfl,λP t w=>by simp[binOp,Op.intCmp]⟩
 case geq=>exact⟨_,h,.bool (decide (m≥n)),.pr rfl,λP t w=>by simp[binOp,Op.intCmp]⟩
 case and=>
  obtain⟨r,hr,h⟩:=h;refine⟨_,h,.int k r,.val _,λP t w=>?_⟩;rw[hr];simp[binOp,Op.intBits,uX]
 case or=>
  obtain⟨r,hr,h⟩:=h;refine⟨_,h,.int k r,.val _,λP t w=>?_⟩;rw[hr];simp[binOp,Op.intBits,uX]
 case xor=>
  obtain⟨r,hr,h⟩:=h;refine⟨_,h,.int k r,.val _,λP t w=>?_⟩;rw[hr];simp[binOp,Op.intBits,uX]
 case andNot=>
  obtain⟨r,hr,h⟩:=h;refine⟨_,h,.int k r,.val _,λP t w=>?_⟩;rw[hr];simp[binOp,Op.intBits,uX]
def zwW(m:Int)(c:Nat):m.fdiv (2^c)=m/2^c:=Int.fdiv_eq_ediv_of_nonneg m (Int.pow_nonneg oM)
def zmY{op:BinOp}{y:Operand}{k:IntKind}{m n:Int}(h:zqY op y k m n K):
  ∃s,K s/\∃v,vL s v/\∀(P:Program) (t:TypeId) (w:World),(binOp op t (.int k m) (.int k' n)).run P w=.ok v w:=by
 unfold zqY at h
 split at h
 ·split at h
  ·rename_i c;have hc:min c k.bits=c:=by have:=h.ob;omega
   refine⟨_,uv h.go,_,.val _,λP t w=>?_⟩;simp[binOp,Op.shift,hc];intro hn;omega
  exact h.elim
 ·obtain⟨h0,h1⟩:=h.ob;have hc:min n.toNat k.bits=n.toNat:=oM;refine⟨_,uv h.go,_,.val _,λP t w=>?_⟩;simp[binOp,Op.shift,hc,show¬n<0 by omega]
 ·split at h
  ·rename_i c;have hc:min c k.bits=c:=by have:=h.ob;omega
   refine⟨_,h.go,_,.val _,λP t w=>?_⟩;simp[binOp,Op.shift,hc,zwW];intro hn;omega
  exact h.elim
 ·obtain⟨h0,h1⟩:=h.ob;have hc:min n.toNat k.bits=n.toNat:=oM;refine⟨_,h.go,_,.val _,λP t w=>?_⟩;simp[binOp,Op.shift,hc,show¬n<0 by omega,zwW]
 exact h.elim
def eqB:LZ->LZ->Bool
 |.int _ m::r,.int _ n::r'=>(m==n)&&eqB r r'
 |[],[]=>true
 |_,_=>false
inductive yl:LZ->LZ->Prop
 |nil:yl [] []
 |cons (k:IntKind) (m n:Int) {r r':LZ} (h:yl r r'):yl (.int k m::r) (.int k n::r')
def zfm{cs ds:LQ}:∀{K:(p:Prop)->Decidable p->Prop},zfe cs ds K->∃p i,K p i/\
  ∀{S Pm:LG} {ρ:ze} {w:World} {vs us:LZ},Gs S Pm ρ w cs vs->Gs S Pm ρ w ds us->yl vs us/\eqB vs us=@decide p i:=by
 induction cs generalizing ds with
 |nil=>
  intro K h
  cases ds with
  |nil=>exact⟨True,_,h,λh1 h2=>by rw[h1.nil_inv,h2.nil_inv];exact⟨.nil,rfl⟩⟩
  |cons d ds=>exact h.elim
 |cons c cs ih=>
  intro K h
  cases ds with
  |nil=>exact h.elim
  |cons d ds=>
   simp only[zfe]at h;have h:=qn (qn h)
   split at h
   ·rename_i k m k' n;obtain⟨hk,h'⟩:=zf h;obtain⟨p,i,hK,hp⟩:=ih h';have hk:=zfl hk;refine⟨_,_,hK,λh1 h2=>?_⟩;obtain⟨v,vs,rfl,h3,h4⟩:=h1.cons_inv;obtain⟨u,us,rfl,h5,h6⟩:=h2.cons_inv;subst hk;rw[h3.val_inv,h5.val_inv];obtain⟨h7,h8⟩:=hp h4 h6;refine⟨.cons _ _ _ h7,?_⟩;simp only[eqB,h8];rw[QA];simp
   exact h.elim
def yl.length{vs us:LZ}(h:yl vs us):vs.length=us.length:=by induction h <;> simp_all
def yl.drop{vs us:LZ}(n:Nat)(h:yl vs us):yl (vs.drop n) (us.drop n):=by
 induction n generalizing vs us with
 |zero=>exact h
 |succ n ih=>cases h with
  |nil=>exact .nil
  |cons k m n h=>exact ih h
def yl.take{vs us:LZ}(n:Nat)(h:yl vs us):yl (vs.take n) (us.take n):=by
 induction n generalizing vs us with
 |zero=>exact .nil
 |succ n ih=>cases h with
  |nil=>exact .nil
  |cons k m n h=>exact .cons _ _ _ (ih h)
def zld{vs us:LZ}(n:Nat)(h:yl vs us):eqB vs us=(eqB (vs.take n) (us.take n)&&eqB (vs.drop n) (us.drop n)):=by
 induction n generalizing vs us with
 |zero=>simp[eqB]
 |succ n ih=>cases h with
  |nil=>rfl
  |cons k m n h=>simp[eqB,ih h,Bool.and_assoc]
def zcO(agg:Bool)(vs:LZ):Value:=if agg then .agg vs.toArray else vs.headD undef
def zbk{P:Program}{t:TypeId}{i:TI}(hT:zhX P t i)(vs:LZ)(off:Nat)(h:off+i.sz<=vs.length)(hz:i.kind.agg=false->i.sz=1)(w:World):
  (part t vs.toArray off).run P w=.ok (zcO i.kind.agg ((vs.drop off).take i.sz)) w:=by
 unfold part;rw[Sem.run_bind,hT.agg w,Result.andThen_ok]
 cases hk:i.kind.agg with
 |true=>simp[hT.size,zcO]
 |false=>
  have h1:=hz hk;have hlt:off<vs.length:=oM;have h2:(List.take 1 (List.drop off vs))=[vs[off]]:=by rw[K5 hlt];rfl
  simp[zcO,h1,hlt,h2]
def zok{P:Program}{Γ:LS}(hT:TOK P Γ)(n:Nat)(ih:∀t i,ti Γ t=some i->zff Γ n t=true->(i.kind.agg=false->i.sz=1)/\∀(d:Nat) (vs us:LZ) (w:World),vs.length=i.sz->yl vs us->
   (Op.equalIn (n+d) t (zcO i.kind.agg vs) (zcO i.kind.agg us)).run P w=.ok (eqB vs us) w)(d sz:Nat)(vs us:LZ)(hl:vs.length=sz)(hp:yl vs us)(w:World):
  ∀(F:List Field) (at_:Nat),zis Γ (zff Γ n) (F.map λf=>(f.offset,f.type)) at_ sz=true->(∀f∈F,f.name≠ "_")->
   at_<=sz/\(Op.eqFields (n+d) vs.toArray us.toArray F).run P w=.ok (eqB (vs.drop at_) (us.drop at_)) w
 |[],at_,h,_=>by
  simp only[List.map_nil,zis]at h;have h:=Xh h;subst h;have hlu:=hp.length;simp[Op.eqFields,Qf (YJ hl),Qf (YJ (hlu ▸ hl)),eqB]
 |f::F,at_,h,hn=>by
  simp only[K8,zis]at h
  split at h
  ·rename_i j hj;obtain⟨h1,h⟩:=zZ h;obtain⟨h2,h3⟩:=zZ h;have h1:=Xh h1;obtain⟨hz,he⟩:=ih _ _ hj h2;obtain⟨h4,h5⟩:=zok hT n ih d sz vs us hl hp w F (at_+j.sz) h3 (λf hf=>hn f (.tail _ hf));have hlu:=hp.length;have p1:=zbk (hT _ _ hj) vs f.offset oM hz w;have p2:=zbk (hT _ _ hj) us f.offset oM hz w;have he':=he d ((vs.drop f.offset).take j.sz) ((us.drop f.offset).take j.sz) w (by simp;omega) ((hp.drop _).take _);refine⟨oM,?_⟩;have hs:=zld j.sz (hp.drop f.offset)
   simp only[Op.eqFields,hn f (.head _),ne_eq,not_false_eq_true,if_true,Sem.run_bind,p1,p2,Result.andThen_ok,he'];rw[←h1,hs]
   cases hb:eqB ((vs.drop f.offset).take j.sz) ((us.drop f.offset).take j.sz) with
   |true=>simp[h5,h1,JY]
   |false=>simp
  cases h
def zcP{P:Program}{Γ:LS}(hT:TOK P Γ):∀(n:Nat) (t:TypeId) (i:TI),ti Γ t=some i->zff Γ n t=true->
  (i.kind.agg=false->i.sz=1)/\∀(d:Nat) (vs us:LZ) (w:World),vs.length=i.sz->yl vs us->
   (Op.equalIn (n+d) t (zcO i.kind.agg vs) (zcO i.kind.agg us)).run P w=.ok (eqB vs us) w
 |0,t,i,hi,h=>by simp[zff]at h
 |n+1,t,i,hi,h=>by
  unfold zff at h;rw[hi]at h;simp only at h;have hK:=(hT t i hi).kind
  split at h
  ·rename_i k hk;rw[hk]at hK;have hz:=Xh h;refine⟨λ_=>hz,λd vs us w hl hp=>?_⟩;rw[hz]at hl
   cases hp with
   |nil=>simp at hl
   |cons k' m m' h=>
    cases h with
    |nil=>
     rw[show n+1+d=(n+d)+1 by omega];simp only[hk,TK.agg,zcO,KC,if_false,List.headD_cons,run_equalIn_int w _ t k' k m _ hK,eqB,Bool.and_true]
    |cons=>simp at hl
  ·rename_i fs hk;obtain⟨hc,hg⟩:=zZ h;rw[hk]at hK;obtain⟨F,hF,hmap,_⟩:=hK;obtain⟨h1,h2,h3⟩:=(hT t i hi).cmp hc;have hfo:P.fieldsOf t=F:=by simp[Program.fieldsOf,hF]
   refine⟨λh=>(by rw[hk]at h;cases h),λd vs us w hl hp=>?_⟩;rw[show n+1+d=(n+d)+1 by omega];rw[←hmap]at hg;have:=(zok hT n (zcP hT n) d i.sz vs us hl hp w F.toList 0 hg (by rw[←hfo];exact h3)).2;simp only[hk,TK.agg,zcO,if_true];rw[run_equalIn_struct w (n+d) t _ _ (by rw[hfo];exact hF) h1,hfo]
   simpa using this
  ·rename_i len e hk;obtain⟨hc,g1⟩:=zZ h;obtain⟨hlen,g2⟩:=zZ g1;obtain⟨hisz,g3⟩:=zZ g2;have hlen:=Xh hlen;have hisz:=Xh hisz;subst hlen;clear h g1 g2
   cases hj:ti Γ e with
   |some j=>
    rw[hj]at g3;obtain⟨hjz,hje⟩:=zZ g3;have hjz:=Xh hjz;rw[hk]at hK;have hK:P.underlying t=some (.array 2 e):=hK;obtain⟨hz,he⟩:=zcP hT n e j hj hje;refine⟨λh=>(by rw[hk]at h;cases h),λd vs us w hl hp=>?_⟩;rw[show n+1+d=(n+d)+1 by omega];simp only[hk,TK.agg,zcO,if_true];obtain⟨f,hf,hfs,_⟩:=(hT e j hj).inf;rw[run_equalIn_array w (n+d) _ _ hK hf];have hco:P.cellsOf e=1:=by unfold Program.cellsOf;rw[hf];simp[hfs,hjz]
    have hlu:=hp.length;have p1:=zbk (hT e j hj) vs 0 oM hz w;have p2:=zbk (hT e j hj) us 0 oM hz w;have p3:=zbk (hT e j hj) vs 1 oM hz w;have p4:=zbk (hT e j hj) us 1 oM hz w;have e1:=he d ((vs.drop 0).take j.sz) ((us.drop 0).take j.sz) w (by simp;omega) ((hp.drop 0).take _);have e2:=he d ((vs.drop 1).take j.sz) ((us.drop 1).take j.sz) w (by simp;omega) ((hp.drop 1).take _);have hs:=zld 1 hp;have t1:(vs.drop 1).take j.sz=vs.drop 1:=Xk (by simp;omega);have t2:(us.drop 1).take j.sz=us.drop 1:=Xk (by simp;omega)
    rw[t1,t2]at e2;rw[hjz]at e1;rw[t1]at p3;rw[t2]at p4;rw[hjz]at p1 p2;rw[hs,hco];have hr2:List.range 2=[0,1]:=rfl;rw[hr2];simp only[Op.eqItems,Sem.run_bind,Jq,YD,p1,p2,p3,p4,Result.andThen_ok,e1,e2];simp only[K7]
    cases hb:eqB (vs.take 1) (us.take 1) with
    |true=>
     rw[hb] at*
     cases hb2:eqB (vs.drop 1) (us.drop 1) with
     |true=>rw[hb2,Ya,Ya]at e2;simp[p3,p4,e2]
     |false=>rw[hb2,Ya,Ya]at e2;simp[p3,p4,e2]
    |false=>simp
   |none=>rw[hj]at g3;cases g3
  cases h
def zdD{s:SV}{K:(p:Prop)->Decidable p->Prop}(h:zuD s K):∃p i,K p i/\∀{S Pm:LG} {ρ:ze} {w:World} {v:Value},G S Pm ρ w s v->v=.bool (@decide p i):=by
 unfold zuD at h
 split at h
 ·exact⟨_,_,h,λhg=>hg.pr_inv⟩
 ·exact⟨_,_,h,λhg=>by rw[hg.val_inv];rfl⟩
 ·exact⟨_,_,h,λhg=>by rw[hg.val_inv];rfl⟩
 exact h.elim
end
section
variable{P:Program}{op:Op}{svs:LQ}{lm:LH}{κ:Nat}
def ya.pure{s:SV}(h:∀(o:Oper),o.op=op->∀(S Pm:LG) (ρ:ze) (a:Act) (w:World),Gs S Pm ρ w svs ((kL op).map a.eval)->
  ∃v,(execOp a.eval o).run P w=.ok (.value v) w/\G S Pm ρ w s v):ya P op svs lm κ s .none:=by
 intro o ho Keep M ρ a w _ hm _ _ hg;obtain⟨v,h1,h2⟩:=h o ho _ _ ρ a w hg;exact qk.value h1 (kG.same hm h2)
def ya.read{s:SV}(h:∀(o:Oper),o.op=op->∀(Keep:LG) (M:LT) (ρ:ze) (a:Act) (w:World),(∀k m,lm k=some m->(k,m)∈M)->zB Keep M ρ w->
  Gs (λb=>Keep b∨Own M ρ b) (Own M ρ) ρ w svs ((kL op).map a.eval)->
  ∃v,(execOp a.eval o).run P w=.ok (.value v) w/\G (λb=>Keep b∨Own M ρ b) (Own M ρ) ρ w s v):ya P op svs lm κ s .none:=by
 intro o ho Keep M ρ a w hlm hm _ _ hg;obtain⟨v,h1,h2⟩:=h o ho Keep M ρ a w (λk m h=>zn (hlm k m h)) hm hg;exact qk.value h1 (kG.same hm h2)
end
section
variable{P:Program}{e:TypeId}
def vy{w:World}{t:TypeId}{p:Option Addr}(h:P.underlying t=some (.pointer e)):(Op.equal t (.pointer p) (.pointer none)).run P w=.ok p.isNone w:=by
 have key:∀d,(Op.equalIn (d+1) t (.pointer p) (.pointer none)).run P w=.ok p.isNone w:=λd=>by
  cases p <;> simp[Op.equalIn,run_underlying h]
 exact key 9999
variable{ms:Array (String×TypeId)}
def zdE{w:World}{t u:TypeId}{v:Value}(h:P.underlying t=some (.interface ms)):(Op.equal t (.iface u v) .nilIface).run P w=.ok false w:=by
 have key:∀d,(Op.equalIn (d+1) t (.iface u v) .nilIface).run P w=.ok false w:=λd=>by simp[Op.equalIn,run_underlying h]
 exact key 9999
def zbP{w:World}{t:TypeId}(h:P.underlying t=some (.interface ms)):(Op.equal t .nilIface .nilIface).run P w=.ok true w:=by
 have key:∀d,(Op.equalIn (d+1) t .nilIface .nilIface).run P w=.ok true w:=λd=>by simp[Op.equalIn,run_underlying h]
 exact key 9999
def zol{w:World}{t:TypeId}{f:Fn}{x y:Array Value}{a b:Array TypeId}{c:Bool}(h:P.underlying t=some (.func a b c)):(Op.equal t (.func f x y) .nilFunc).run P w=.ok false w:=by
 have key:∀d,(Op.equalIn (d+1) t (.func f x y) .nilFunc).run P w=.ok false w:=λd=>by simp[Op.equalIn,run_underlying h]
 exact key 9999
variable{a:SV}{S:LG}{Pm:LG}{ρ:ze}{u:Value}
def zle{t:TypeId}{k:TK}{y:Operand}{b:SV}{r:Bool}(hk:zeN P t k)(h:zwG k (zsH y) a b=some r){w:World}{v:Value}(ha:G S Pm ρ w a u)(hb:G S Pm ρ w b v):
  ((binOp .eql t u v).run P w=.ok (.bool r) w/\(binOp .neq t u v).run P w=.ok (.bool (!r)) w)/\∀op x,(eqGuard op t x y u v).run P w=.ok () w:=by
 unfold zwG at h
 split at h
 ·split at h
  ·cases h;rw[ha.val_inv,hb.val_inv];exact⟨⟨by simp[binOp,run_equal_slice_nil w t _ none 0 0 hk],by simp[binOp,run_equal_slice_nil w t _ none 0 0 hk]⟩,λ_ _=>by simp[eqGuard]⟩
  cases h
 ·split at h
  ·cases h;obtain⟨_,_,_,rfl,_⟩:=ha.dptr_inv;rw[hb.val_inv];exact⟨⟨by simp[binOp,vy hk],by simp[binOp,vy hk]⟩,λ_ _=>by simp[eqGuard]⟩
  cases h
 ·split at h
  ·cases h;obtain⟨_,_,_,rfl,_⟩:=ha.ptr_inv;rw[hb.val_inv];exact⟨⟨by simp[binOp,vy hk],by simp[binOp,vy hk]⟩,λ_ _=>by simp[eqGuard]⟩
  cases h
 ·split at h
  ·cases h;obtain⟨_,_,rfl⟩:=ha.loc_inv;rw[hb.val_inv];exact⟨⟨by simp[binOp,vy hk],by simp[binOp,vy hk]⟩,λ_ _=>by simp[eqGuard]⟩
  cases h
 ·split at h
  ·cases h;rw[ha.val_inv,hb.val_inv];exact⟨⟨by simp[binOp,vy hk],by simp[binOp,vy hk]⟩,λ_ _=>by simp[eqGuard]⟩
  cases h
 ·split at h
  ·cases h;obtain⟨_,rfl,_⟩:=ha.ifc_inv;rw[hb.val_inv];obtain⟨_,hk⟩:=hk;exact⟨⟨by simp[binOp,zdE hk],by simp[binOp,zdE hk]⟩,λ_ _=>by simp[eqGuard]⟩
  cases h
 ·split at h
  ·rename_i hlit
   cases h;rw[ha.val_inv,hb.val_inv];obtain⟨_,hk⟩:=hk
   refine⟨⟨by simp[binOp,zbP hk],by simp[binOp,zbP hk]⟩,λ_ _=>?_⟩
   cases y <;> first|(cases hlit;done)|simp[eqGuard]
  cases h
 ·split at h
  ·cases h
   cases ha with
   |d _ _ ha=>
    cases ha with
    |dfn _ _ _ _ _=>rw[hb.val_inv];obtain⟨_,_,_,hk⟩:=hk;exact⟨⟨by simp[binOp,zol hk],by simp[binOp,zol hk]⟩,λ_ _=>by simp[eqGuard]⟩
  cases h
 cases h
variable{Γ:LS}{x:Operand}{lm:LH}{κ:Nat}
def zuG(hT:TOK P Γ){op:BinOp}{t yt:TypeId}{y:Operand}{b:SV}{K:SV->Prop}(h:bin Γ op t y a b K):∃s,K s/\ya P (.binOp op t x y yt) [a,b] lm κ s .none:=by
 unfold bin at h
 split at h
 ·rename_i k m k' n
  have h2:∃s,K s/\∃v,vL s v/\∀(P:Program) (t:TypeId) (w:World),(binOp op t (.int k m) (.int k' n)).run P w=.ok v w:=by
   split at h
   ·exact zmY h
   rename_i hs;obtain⟨hk,h'⟩:=zf h;have:=zfl hk;subst this;exact zq8 hs h'
  obtain⟨s,hK,v,hg,hr⟩:=h2;refine⟨s,hK,.pure λo ho S Pm ρ a w hgs=>⟨v,?_,hg.g⟩⟩;have hx:=(Gs.head hgs).val_inv;have hy:=(Gs.head (Gs.tail hgs)).val_inv;simp[execOp,ho,hx,hy,eqGuard_at_int,hr]
 ·rename_i cs ds;obtain⟨i,hi,h⟩:=zo h;obtain⟨hagg,h⟩:=zf h;obtain⟨hlen,h⟩:=zf h;obtain⟨hint,h⟩:=zf h;have hlen:=Xh hlen;have hsound:=(zcP hT 8 t i hi hint).2
  have hcmp:i.cmp=true:=by
   unfold zff at hint;rw[hi]at hint;simp only at hint
   split at hint
   ·rename_i hk;rw[hk]at hagg;cases hagg
   ·exact(zZ hint).1
   ·exact(zZ hint).1
   cases hint
  have hguard:=((hT t i hi).cmp hcmp).2.1
  have run:∀(cs ds:LZ) (w:World),cs.length=i.sz->yl cs ds->(Op.equalIn 10000 t (.agg cs.toArray) (.agg ds.toArray)).run P w=.ok (eqB cs ds) w:=by
   intro cs ds w h1 h2;have:=hsound 9992 cs ds w h1 h2
   simpa[zcO,hagg] using this
  split at h
  ·obtain⟨p,ip,hK,hp⟩:=zfm h;refine⟨_,hK,.pure λo ho S Pm ρ a w hgs=>?_⟩;obtain⟨vs,hx,hvs⟩:=(Gs.head hgs).agg_inv;obtain⟨us,hy,hus⟩:=(Gs.head (Gs.tail hgs)).agg_inv;obtain⟨h1,h2⟩:=hp hvs hus;refine⟨.bool (eqB vs us),?_,(vL.pr h2).g⟩;simp only[execOp,ho,hx,hy,Sem.run_bind,run_eqGuard_agg w _ t x y _ _ hguard,Result.andThen_ok,run_eql_struct,run vs us w (by rw[hvs.1,hlen]) h1,Sem.run_pure]
  ·obtain⟨p,ip,hK,hp⟩:=zfm h;refine⟨_,hK,.pure λo ho S Pm ρ a w hgs=>?_⟩;obtain⟨vs,hx,hvs⟩:=(Gs.head hgs).agg_inv;obtain⟨us,hy,hus⟩:=(Gs.head (Gs.tail hgs)).agg_inv;obtain⟨h1,h2⟩:=hp hvs hus;refine⟨.bool (!eqB vs us),?_,(vL.pr (by rw[h2];rw[QA];simp)).g⟩;simp only[execOp,ho,hx,hy,Sem.run_bind,run_eqGuard_agg w _ t x y _ _ hguard,Result.andThen_ok,run_neq_struct,run vs us w (by rw[hvs.1,hlen]) h1,Sem.run_pure]
  exact h.elim
 ·rename_i α enc xs;replace h:=zo h;obtain⟨i,hi,h⟩:=h;have hk:=(hT t i hi).kind
  have key:∀{S Pm:LG} {ρ:ze} {w:World} {v:Value},G S Pm ρ w (.sl enc xs) v->∃a c,v=.slice a xs.length c/\(xs.length≠0->a.isNone=false):=λhg=>by
   obtain⟨rfl,a,rfl⟩|⟨_,b,o,cap,_,rfl,_⟩:=hg.sl_inv.sl_inv
   ·exact⟨a,0,rfl,λh=>absurd rfl h⟩
   exact⟨_,cap,rfl,λ_=>rfl⟩
  have hguard:∀(w:World) (a b:Value),(∃x y z,a=.slice x y z)->(eqGuard op t x y a b).run P w=.ok () w:=λw a b ⟨x,y,z,e⟩=>by subst e;simp[eqGuard]
  unfold zwF at h
  split at h
  ·rename_i e hkind;rw[hkind]at hk;have hk:P.underlying t=some (.slice e):=hk
   obtain⟨hn,h⟩|h:=h
   ·refine⟨_,h,.pure λo ho S Pm ρ a w hgs=>?_⟩;obtain⟨ad,c,hx,hz⟩:=key (Gs.head hgs);have hy:=(Gs.head (Gs.tail hgs)).val_inv;refine⟨.bool false,?_,(vL.val _).g⟩;simp[execOp,ho,hx,hy,hguard,binOp,run_equal_slice_nil w t e ad _ c hk,hz hn]
   refine⟨_,h,.pure λo ho S Pm ρ a w hgs=>?_⟩;obtain⟨ad,c,hx,hz⟩:=key (Gs.head hgs);have hy:=(Gs.head (Gs.tail hgs)).val_inv;refine⟨.bool ad.isNone,?_,.d _ _ (.anyb _)⟩;simp[execOp,ho,hx,hy,hguard,binOp,run_equal_slice_nil w t e ad _ c hk]
  ·rename_i e hkind;rw[hkind]at hk;have hk:P.underlying t=some (.slice e):=hk
   obtain⟨hn,h⟩|h:=h
   ·refine⟨_,h,.pure λo ho S Pm ρ a w hgs=>?_⟩;obtain⟨ad,c,hx,hz⟩:=key (Gs.head hgs);have hy:=(Gs.head (Gs.tail hgs)).val_inv;refine⟨.bool true,?_,(vL.val _).g⟩;simp[execOp,ho,hx,hy,hguard,binOp,run_equal_slice_nil w t e ad _ c hk,hz hn]
   refine⟨_,h,.pure λo ho S Pm ρ a w hgs=>?_⟩;obtain⟨ad,c,hx,hz⟩:=key (Gs.head hgs);have hy:=(Gs.head (Gs.tail hgs)).val_inv;refine⟨.bool (!ad.isNone),?_,.d _ _ (.anyb _)⟩;simp[execOp,ho,hx,hy,hguard,binOp,run_equal_slice_nil w t e ad _ c hk]
  exact h.elim
 ·rename_i v0;replace h:=zo h;obtain⟨i,hi,h⟩:=h;have hk:=(hT t i hi).kind
  split at h
  ·rename_i hkind;rw[hkind]at hk;obtain⟨ms,hk⟩:=hk;replace h:=zf h;obtain⟨hlit,h⟩:=h;obtain⟨yv,hyv⟩:∃yv,y=.const yv:=by cases y <;> first|exact⟨_,rfl⟩|cases hlit
   subst hyv
   split at h
   ·refine⟨_,h,.pure λo ho S Pm ρ a w hgs=>?_⟩;obtain⟨hx,hif⟩:=(Gs.head hgs).op_inv;have hy:=(Gs.head (Gs.tail hgs)).val_inv;refine⟨.bool (zoc v0),?_,(vL.pr (by cases zoc v0 <;> simp)).g⟩
    cases v0 <;> first|(cases hif;done)|simp[execOp,ho,hx,hy,eqGuard,binOp,zbP hk,zdE hk,zoc]
   ·refine⟨_,h,.pure λo ho S Pm ρ a w hgs=>?_⟩;obtain⟨hx,hif⟩:=(Gs.head hgs).op_inv;have hy:=(Gs.head (Gs.tail hgs)).val_inv;refine⟨.bool (!zoc v0),?_,(vL.pr (by cases zoc v0 <;> simp)).g⟩
    cases v0 <;> first|(cases hif;done)|simp[execOp,ho,hx,hy,eqGuard,binOp,zbP hk,zdE hk,zoc]
   exact h.elim
  exact h.elim
 replace h:=zo h;obtain⟨i,hi,h⟩:=h;have hk:=(hT t i hi).kind
 split at h
 ·rename_i r hr;unfold zsJ at h
  split at h
  ·refine⟨_,h,.pure λo ho S Pm ρ a w hgs=>?_⟩;obtain⟨⟨h1,_⟩,h2⟩:=zle hk hr (Gs.head hgs) (Gs.head (Gs.tail hgs));exact⟨.bool r,by simp[execOp,ho,h1,h2],(vL.val _).g⟩
  ·refine⟨_,h,.pure λo ho S Pm ρ a w hgs=>?_⟩;obtain⟨⟨_,h1⟩,h2⟩:=zle hk hr (Gs.head hgs) (Gs.head (Gs.tail hgs));exact⟨.bool (!r),by simp[execOp,ho,h1,h2],(vL.val _).g⟩
  exact h.elim
 split at h
 ·rename_i hkind;rw[hkind]at hk;obtain⟨p,ip,h,hp⟩:=zdD h;obtain⟨q,iq,h,hq⟩:=zdD h;refine⟨_,h,.pure λo ho S Pm ρ a w hgs=>?_⟩;have hx:=hp (Gs.head hgs);have hy:=hq (Gs.head (Gs.tail hgs));refine⟨.bool (@decide p ip==@decide q iq),?_,(vL.pr (by by_cases hp':p <;> by_cases hq':q <;> simp[hp',hq'])).g⟩;simp[execOp,ho,hx,hy,eqGuard_at_bool,binOp,Op.equal,Op.maxDepth,run_equalIn_bool w 9999 t _ _ hk]
 ·rename_i hkind;rw[hkind]at hk;obtain⟨p,ip,h,hp⟩:=zdD h;obtain⟨q,iq,h,hq⟩:=zdD h;refine⟨_,h,.pure λo ho S Pm ρ a w hgs=>?_⟩;have hx:=hp (Gs.head hgs);have hy:=hq (Gs.head (Gs.tail hgs));refine⟨.bool (!(@decide p ip==@decide q iq)),?_,(vL.pr (by by_cases hp':p <;> by_cases hq':q <;> simp[hp',hq'])).g⟩;simp[execOp,ho,hx,hy,eqGuard_at_bool,binOp,Op.equal,Op.maxDepth,run_equalIn_bool w 9999 t _ _ hk]
 exact h.elim
variable{K:SV->MD->Prop}
def zq9{c b:SV}{xc xa xb:Operand}(h:zwO c a b K):
  ∃s,K s .none/\ya P (.pick xc xa xb) [c,a,b] lm κ s .none:=by
 have yes:∀(c':Bool),(∀{S Pm:LG} {ρ:ze} {w:World} {v:Value},G S Pm ρ w c v->v=.bool c')->ya P (.pick xc xa xb) [c,a,b] lm κ (if c' then a else b) .none:=by
  intro c' hc;refine .pure λo ho S Pm ρ e w hgs=>?_
  have h1:=hc (Gs.head hgs);have h2:=Gs.head (Gs.tail hgs);have h3:=Gs.head (Gs.tail (Gs.tail hgs))
  cases c' with
  |true=>exact⟨_,by simp[execOp,ho,h1,asBool],h2⟩
  |false=>exact⟨_,by simp[execOp,ho,h1,asBool],h3⟩
 unfold zwO at h
 split at h
 ·exact⟨a,h,yes true λhg=>hg.val_inv⟩
 ·exact⟨b,h,yes false λhg=>hg.val_inv⟩
 ·rename_i p i
  by_cases hp:p
  ·exact⟨a,h.yes hp,yes true λhg=>by rw[hg.pr_inv];simp[hp]⟩
  exact⟨b,h.no hp,yes false λhg=>by rw[hg.pr_inv];simp[hp]⟩
 exact h.elim
def zwX{op:UnOp}{t:TypeId}{s:SV}(h:unV op s K):
  ∃r,K r .none/\ya P (.unOp op t x) [s] lm κ r .none:=by
 unfold unV at h
 split at h
 ·exact⟨_,h,.pure λo ho S Pm ρ a w hgs=>⟨.bool false,by simp[execOp,ho,(Gs.head hgs).val_inv,Op.unary],(vL.val _).g⟩⟩
 ·exact⟨_,h,.pure λo ho S Pm ρ a w hgs=>⟨.bool true,by simp[execOp,ho,(Gs.head hgs).val_inv,Op.unary],(vL.val _).g⟩⟩
 ·rename_i p i;exact⟨_,h,.pure λo ho S Pm ρ a w hgs=>⟨.bool (!(@decide p i)),by simp[execOp,ho,(Gs.head hgs).pr_inv,Op.unary],(vL.pr (by rw[QA];simp)).g⟩⟩
 ·rename_i k n;exact⟨_,uv h,.pure λo ho S Pm ρ a w hgs=>⟨.int k (k.wrap (-n)),by simp[execOp,ho,(Gs.head hgs).val_inv,Op.unary,Op.intArith],(vL.val _).g⟩⟩
 exact h.elim
variable{sz:Nat}{cs:LQ}
def uG{agg:Bool}{K:SV->Prop}(h:mkV agg sz cs K):∃s,K s/\((agg=true/\s=.agg (cs.take sz))∨(agg=false/\∃r,cs=s::r)):=by
 unfold mkV at h
 split at h
 ·exact⟨_,h,.inl ⟨rfl,rfl⟩⟩
 split at h
 ·exact⟨_,qn h,.inr ⟨rfl,_,rfl⟩⟩
 exact h.elim
def jx(b o n:Nat):(⟨b,o,none⟩:Addr).add n=⟨b,o+n,none⟩:=by unfold Addr.add;split <;> simp_all
variable{i:TI}{b:Nat}{vs:LZ}
def zbl{t:TypeId}(hT:zhX P t i){w:World}{o:Nat}(hg:Gs S Pm ρ w cs vs)(hc:∀j v,vs[j]?=some v->w.cell? ⟨b,o+j,none⟩=some v)(hle:i.sz<=cs.length){s:SV}(hs:(i.kind.agg=true/\s=.agg (cs.take i.sz))∨(i.kind.agg=false/\∃r,cs=s::r)):
  ∃v,(loadVar t ⟨b,o,none⟩).run P w=.ok v w/\G S Pm ρ w s v:=by
 unfold loadVar;rw[Sem.run_bind,hT.agg w,Result.andThen_ok]
 obtain⟨h1,rfl⟩|⟨h1,r,rfl⟩:=hs
 ·have hl:(vs.take i.sz).length=i.sz:=by have:=hg.1;simp;omega
  have hload:=run_loadCells_list (P:=P) w ⟨b,o,none⟩ (vs.take i.sz) (λj v hv=>by
   rw[jx];rw[XK]at hv
   split at hv
   ·exact hc j v hv
   cases hv)
  rw[hl]at hload;refine⟨.agg (vs.take i.sz).toArray,?_,.agg _ _ (hg.take _).1 (hg.take _).2⟩;simp[h1,hT.size,hload]
 obtain⟨v,vs',rfl,h2,h3⟩:=hg.cons_inv;have:=hc 0 v rfl;exact⟨v,by simp only[h1,KC,if_false,run_load,XU]at this ⊢;rw[this],h2⟩
def zom{s:SV}(h:zk8 s=true){w:World}{v:Value}(hg:G S Pm ρ w s v):v.oneCell'=true:=by
 cases s with
 |val u=>rw[hg.val_inv];cases u <;> first|rfl|(simp[zk8]at h)
 |pr p i=>rw[hg.pr_inv];rfl
 |agg cs=>simp[zk8]at h
 |sl enc xs=>obtain⟨_,_,rfl⟩|⟨_,_,_,_,_,rfl,_⟩:=hg.sl_inv.sl_inv <;> rfl
 |nils=>obtain⟨_,rfl⟩:=hg.nils_inv;rfl
 |anyb=>obtain⟨_,rfl⟩:=hg.anyb_inv;rfl
 |full enc xs=>obtain⟨_,rfl,_⟩:=hg.full_inv;rfl
 |ptr cs=>obtain⟨_,_,_,rfl,_⟩:=hg.ptr_inv;rfl
 |loc k off=>obtain⟨_,_,rfl⟩:=hg.loc_inv;rfl
 |own k=>exact hg.own_inv.2
 |eloc k sz i off=>obtain⟨_,_,_,_,rfl⟩:=hg.eloc_inv;rfl
 |win k sz lo n=>obtain⟨_,_,_,_,_,rfl,_⟩:=hg.win_inv;rfl
 |fn f cs=>obtain⟨_,rfl,_⟩:=hg.fn_inv;rfl
 |dptr cs=>obtain⟨_,_,_,rfl,_⟩:=hg.dptr_inv;rfl
 |dfn f cs=>obtain⟨_,rfl,_⟩:=hg.dfn_inv;rfl
 |bm f cs=>obtain⟨_,rfl,_⟩:=hg.bm_inv;rfl
 |op v=>obtain⟨rfl,h⟩:=hg.op_inv;cases v <;> first|rfl|cases h
 |ifc t s=>obtain⟨_,rfl,_⟩:=hg.ifc_inv;rfl
 |tup cs=>simp[zk8]at h
 |junk=>simp[zk8]at h
def zgA(h:jn cs=true){w:World}(hg:Gs S Pm ρ w cs vs):∀v∈vs,v.oneCell'=true:=by
 induction cs generalizing vs with
 |nil=>rw[hg.nil_inv];simp
 |cons s cs ih=>
  obtain⟨v,vs',rfl,h1,h2⟩:=hg.cons_inv;simp only[jn]at h
  split at h
  ·rename_i hc;intro u hu
   cases hu with
   |head=>exact zom hc h1
   |tail _ hu=>exact ih h h2 u hu
  cases h
def zlf{v:Value}(h:v.oneCell'=true):v.cells=#[v]:=by cases v <;> first|rfl|(simp[Value.oneCell']at h)
def u1{s:SV}(h:jn (kq s)=true){w:World}{v:Value}(hg:G S Pm ρ w s v):
  Gs S Pm ρ w (kq s) v.cells.toList/\∀u∈v.cells.toList,u.oneCell'=true:=by
 have key:Gs S Pm ρ w (kq s) v.cells.toList:=by
  by_cases ha:∃cs,s=.agg cs
  ·obtain⟨cs,rfl⟩:=ha;obtain⟨vs,rfl,h1⟩:=hg.agg_inv;exact h1
  have hc:kq s=[s]:=by cases s <;> first|rfl|exact absurd ⟨_,rfl⟩ ha
  rw[hc]at h ⊢;simp only[jn]at h
  split at h
  ·rename_i h1;rw[zlf (zom h1 hg)];exact .cons hg .nil
  cases h
 exact⟨key,zgA h key⟩
def zon{w:World}{new:LQ}{us:LZ}(off:Nat)(h:Gs S Pm ρ w cs vs)(hn:Gs S Pm ρ w new us):
  Gs S Pm ρ w (uC cs off new) (vs.take off++us++vs.drop (off+us.length)):=by
 unfold uC;rw[hn.1];exact((h.take _).append hn).append (h.drop _)
def zbm{w:World}{T:TypeId}(h:w.heap[b]?=some (.cells vs.toArray T (0,0)))(j:Nat):w.cell? ⟨b,j,none⟩=vs[j]? :=by
 rw[cell_of_row w b j _ T _ h];simp
variable{cap:Nat}
def zdF{w:World}{T:TypeId}{v:Value}{n:Nat}{cells:LZ}{len:Nat}(hv:v=.slice (some ⟨b,0,none⟩) len cap)(h:w.ownsRow 0 T sz v n cells):len=n/\∃cur:Array Value,w.heap[b]?=some (.cells cur T (0,0))/\n<=cap/\cap<=maxLen/\cur.size=cap*sz/\cur.toList.take (n*sz)=cells:=by
 obtain⟨h1,_⟩|⟨g,cap',cur,h1,_,h2,h3,h4,h5,h6⟩:=h.2
 ·rw[h1]at hv;cases hv
 rw[h1]at hv;cases hv;exact⟨rfl,cur,h2,h3,h4,h5,h6⟩
variable{cur:Array Value}
def zam{w:World}{T:TypeId}{n:Nat}{cells:LZ}(h:w.heap[b]?=some (.cells cur T (0,0)))(ht:cur.toList.take n=cells){j:Nat}(hu:cells[j]?=some u):w.cell? ⟨b,j,none⟩=some u:=by
 rw[cell_of_row w b j _ T _ h];rw[←ht,XK]at hu
 split at hu
 ·simpa using hu
 cases hu
def zhn{w:World}{α:Type _}{enc:α->LQ}{xs:List α}{cells:LZ}(hsz:∀x∈xs,(enc x).length=sz)(hg:∀(i j:Nat) x (s:SV),xs[i]?=some x->(enc x)[j]?=some s->∃u,cells[i*sz+j]?=some u/\G S Pm ρ w s u){i:Nat}{x:α}(hx:xs[i]?=some x):Gs S Pm ρ w (enc x) ((cells.drop (i*sz)).take sz):=by
 have hlen:=hsz x (Xf hx);refine⟨?_,λj s v h1 h2=>?_⟩
 ·have h:(cells.drop (i*sz)).take sz=(List.range sz).map λj=>(cells[i*sz+j]?).getD undef:=by
   apply Kv;intro j
   by_cases hj:j<sz
   ·obtain⟨u,hu,_⟩:=hg i j x ((enc x)[j]'oM) hx (by simp[hlen,hj]);simp[hj,hu]
   simp[XK,hj]
  rw[h];simp[hlen]
 rw[XK]at h2
 split at h2
 ·obtain⟨u,hu,hd⟩:=hg i j x s hx h1;simp only[KD]at h2;rw[hu]at h2;cases h2
  exact hd
 cases h2
def zra{w:World}{α:Type}{enc:α->LQ}{xs:List α}{cells:LZ}(hsz:∀x∈xs,(enc x).length=sz)(hg:∀(i j:Nat) x (s:SV),xs[i]?=some x->(enc x)[j]?=some s->∃u,cells[i*sz+j]?=some u/\D S w s u){i:Nat}{x:α}(hx:xs[i]?=some x)
:Gs S Pm ρ w (enc x) ((cells.drop (i*sz)).take sz):=
 zhn hsz (λi j x s a b=>(hg i j x s a b).imp λ_ h=>⟨h.1,.d _ _ h.2⟩) hx
def zrb(hT:TOK P Γ){t:TypeId}{s:SV}(h:zwK Γ t s lm K):
  ∃r,K r .none/\ya P (.load t x) [s] lm κ r .none:=by
 unfold zwK at h;replace h:=zo h;obtain⟨i,hi,h⟩:=h;have hTi:=hT t i hi
 have run:∀{o:Oper} (_:o.op=.load t x) {a:Act} {w:World} {b off:Nat} {v:Value},a.eval x=.pointer (some ⟨b,off,none⟩)->(loadVar t ⟨b,off,none⟩).run P w=.ok v w->
   (execOp a.eval o).run P w=.ok (.value v) w:=by
  intro o ho a w b off v h1 h2;simp[execOp,ho,h1,Instr.loadAt,Instr.sureAddr,h2]
 split at h
 ·rename_i k off
  split at h
  ·rename_i T cs hlk;replace h:=zf h;obtain⟨hle,h⟩:=h;have hle:=Xx hle;obtain⟨r,hK,hr⟩:=uG h;refine⟨r,hK,.read λo ho Keep M ρ a w hlm hm hgs=>?_⟩;obtain⟨b,vs,hρ,hheap,hlen,_,hcells⟩:=hm.rel k _ (hlm k _ hlk);obtain⟨b',hρ',hx⟩:=(Gs.head hgs).loc_inv;rw[hρ]at hρ';cases hρ'
   have hg:Gs (λb=>Keep b∨Own M ρ b) (Own M ρ) ρ w (cs.drop off) (vs.drop off):=Gs.drop off ⟨hlen,hcells⟩;obtain⟨v,h1,h2⟩:=zbl hTi (b:=b) (o:=off) hg (λj v hv=>by rw[zbm hheap];simpa using hv) (by simp;omega) hr;exact⟨v,run ho hx h1,h2⟩
  exact h.elim
 ·rename_i cs;replace h:=zf h;obtain⟨hle,h⟩:=h;have hle:=Xx hle;obtain⟨r,hK,hr⟩:=uG h;refine⟨r,hK,.pure λo ho S Pm ρ a w hgs=>?_⟩;obtain⟨b,off,c,hx,_,_,hc,hd⟩:=(Gs.head hgs).ptr_inv
  have hg:Gs S Pm ρ w cs ((List.range cs.length).map c):=⟨sI,λj s v h1 h2=>by
   have hj:j<cs.length:=(Xd.1 h1).1;simp[hj]at h2;subst h2
   exact .d _ _ (hd j s h1)⟩
  obtain⟨v,h1,h2⟩:=zbl hTi (b:=b) (o:=off) hg (λj v hv=>by
   have hj:j<cs.length:=by have:=(Xd.1 hv).1;simpa using this
   simp[hj]at hv;subst hv
   exact(hc j hj).1) hle hr
  exact⟨v,run ho hx h1,h2⟩
 ·rename_i cs;replace h:=zf h;obtain⟨hle,h⟩:=h;have hle:=Xx hle;obtain⟨r,hK,hr⟩:=uG h;refine⟨r,hK,.pure λo ho S Pm ρ a w hgs=>?_⟩;obtain⟨b,off,c,hx,_,_,hc,hd⟩:=(Gs.head hgs).dptr_inv
  have hg:Gs S Pm ρ w cs ((List.range cs.length).map c):=⟨sI,λj s v h1 h2=>by
   have hj:j<cs.length:=(Xd.1 h1).1;simp[hj]at h2;subst h2
   exact .d _ _ (hd j s h1)⟩
  obtain⟨v,h1,h2⟩:=zbl hTi (b:=b) (o:=off) hg (λj v hv=>by
   have hj:j<cs.length:=by have:=(Xd.1 hv).1;simpa using this
   simp[hj]at hv;subst hv
   exact(hc j hj).1) hle hr
  exact⟨v,run ho hx h1,h2⟩
 ·rename_i k sz n off
  split at h
  ·rename_i T α enc sz' xs hlk;replace h:=zf h;obtain⟨hsz,h⟩:=h;replace h:=zf h;obtain⟨hle,h⟩:=h;have hsz:=Xh hsz;subst hsz;have hle:=Xx hle;obtain⟨h0,h1⟩:=h.ob;have hlt:n.toNat<xs.length:=oM;have hx:=Xa hlt;obtain⟨r,hK,hr⟩:=uG (h.go _ hx);refine⟨r,hK,.read λo ho Keep M ρ a w hlm hm hgs=>?_⟩;obtain⟨v,cells,hρ,hown,_,_,hesz,hcells⟩:=hm.rel k _ (hlm k _ hlk);obtain⟨b,len,cap,hρ',hxv⟩:=(Gs.head hgs).eloc_inv;rw[hρ]at hρ';cases hρ'
   obtain⟨_,cur,hheap,_,_,_,htake⟩:=zdF rfl hown;have hg:=Gs.drop off (zra hesz hcells hx (Pm:=Own M ρ) (ρ:=ρ));have hl:=hesz _ (Xf hx)
   obtain⟨v,h1,h2⟩:=zbl hTi (b:=b) (o:=n.toNat*sz+off) hg (λj u hu=>by
    simp only[KD,XK]at hu
    split at hu
    ·refine zam hheap htake ?_;rw[←hu];congr 1;omega
    cases hu) (by simp;omega) hr
   exact⟨v,run ho hxv h1,h2⟩
  ·rename_i T sz' xs hlk;replace h:=zf h;obtain⟨hsz,h⟩:=h;replace h:=zf h;obtain⟨hle,h⟩:=h;have hsz:=Xh hsz;subst hsz;have hle:=Xx hle;obtain⟨h0,h1⟩:=h.ob;have hlt:n.toNat<xs.length:=oM;have hx:=Xa hlt;obtain⟨r,hK,hr⟩:=uG (h.go _ hx);refine⟨r,hK,.read λo ho Keep M ρ a w hlm hm hgs=>?_⟩;obtain⟨v,cells,hρ,hown,_,_,hesz,hcells⟩:=hm.rel k _ (hlm k _ hlk);obtain⟨b,len,cap,hρ',hxv⟩:=(Gs.head hgs).eloc_inv;rw[hρ]at hρ';cases hρ'
   obtain⟨_,cur,hheap,_,_,_,htake⟩:=zdF rfl hown;have hg:=Gs.drop off (zhn hesz hcells hx);have hl:=hesz _ (Xf hx)
   obtain⟨v,h1,h2⟩:=zbl hTi (b:=b) (o:=n.toNat*sz+off) hg (λj u hu=>by
    simp only[KD,XK]at hu
    split at hu
    ·refine zam hheap htake ?_;rw[←hu];congr 1;omega
    cases hu) (by simp;omega) hr
   exact⟨v,run ho hxv h1,h2⟩
  exact h.elim
 exact h.elim
def Gs.stp{Keep W W':LG}{ρ ρ':ze}{w w':World}(h:Stp W W' ρ ρ' w w'){cs:LQ}{vs:LZ}(hg:Gs (λb=>Keep b∨W b) W ρ w cs vs):Gs (λb=>Keep b∨W' b) W' ρ' w' cs vs:=hg.mono' λ_ _ h'=>h'.stp h
variable{Keep:LG}{M:LT}
def zbQ{w:World}(hm:zB Keep M ρ w)(hκ:ρ κ=none)(hκM:∀m,(κ,m)∉M)(m:Mem)(o:Obj)(v:Value)(ho:kr w (w.alloc o))(hv:kI v=some w.heap.size)(hrel:Stp (Own M ρ) (Own ((κ,m)::M) (upd ρ κ v)) ρ (upd ρ κ v) w (w.alloc o)->
   je (λb=>Keep b∨Own ((κ,m)::M) (upd ρ κ v) b) (Own ((κ,m)::M) (upd ρ κ v)) (upd ρ κ v) (w.alloc o) κ m):
  Stp (Own M ρ) (Own ((κ,m)::M) (upd ρ κ v)) ρ (upd ρ κ v) w (w.alloc o)/\zB Keep ((κ,m)::M) (upd ρ κ v) (w.alloc o):=
 hm.grow (λ_ h=>h) hm.keys hκ hκM v m (w.alloc o) rfl rfl ho sI (λb hb _=>heap_alloc_old w o b hb)
  (λk m v b h1 h2 h3=>heap_alloc_old w o b (hm.old b ⟨k,m,v,h1,h2,h3⟩).1)
  (λb hb=>by
   rw[hv]at hb;cases hb
   exact⟨.inr (Xi _),sI,λk m v' h1 h2 h3=>by have:=(hm.old _ ⟨k,m,v',h1,h2,h3⟩).1;omega⟩) hrel
def kG.push{Keep:LG}{M:LT}{ρ:ze}{w w':World}{κ:Nat}{s:SV}{m:Mem}{v u:Value}(h:Stp (Own M ρ) (Own ((κ,m)::M) (upd ρ κ u)) ρ (upd ρ κ u) w w'/\zB Keep ((κ,m)::M) (upd ρ κ u) w')(hg:G (λb=>Keep b∨Own ((κ,m)::M) (upd ρ κ u) b) (Own ((κ,m)::M) (upd ρ κ u)) (upd ρ κ u) w' s v):kG Keep M ρ w κ s (.push m) v w':=
 ⟨upd ρ κ u,h.1,h.2,hg,λk hk=>zeO (by
  rcases hk with hk|hk
  ·omega
  simp only[za8]at hk;omega)⟩
def zlg{w:World}(hm:zB Keep M ρ w)(hκ:ρ κ=none)(hκM:∀m,(κ,m)∉M)(T:TypeId)(hg:Gs (λb=>Keep b∨Own M ρ b) (Own M ρ) ρ w cs vs)(h1:∀v∈vs,v.oneCell'=true):
  kG Keep M ρ w κ (.loc κ 0) (.push (.box T cs)) (.pointer (some ⟨w.heap.size,0,none⟩)) (w.alloc (.cells vs.toArray T)):=
 kG.push (u:=.pointer (some ⟨w.heap.size,0,none⟩)) (zbQ hm hκ hκM _ _ _ (.cells _ _ _) rfl λhs=>
  ⟨w.heap.size,vs,z7,heap_alloc_new w _,hg.1,h1,(hg.stp hs).2⟩) (.loc _ _ _ z7)
def zoo(hT:TOK P Γ){svs:LQ}(h:kz Γ e λi=>K (.loc κ 0) (.push (.box e (vals i.zero)))):∃r md,K r md/\ya P (.alloc e) svs lm κ r md:=by
 replace h:=zo h;obtain⟨i,hi,h⟩:=h;obtain⟨f,h1,h2,h3,z,h4,h5,h6,h7,h8⟩:=(hT e i hi).inf;refine⟨_,_,h,λo ho Keep M ρ a w _ hm hκ hκM _=>?_⟩;replace hκ:=hκ _ (Xi _) (X2 _);replace hκM:=hκM rfl;refine qk.value (v:=.pointer (some ⟨w.heap.size,0,none⟩)) (w':=w.alloc (.cells i.zero.toArray e)) ?_ (zlg hm hκ hκM e (Gs.vals _) h8);have hz:z.cells=i.zero.toArray:=by rw[←h5]
 simp[execOp,ho,Instr.alloc,zeroValue,typeInfo,h1,h4,newVar,newRow,hz]
def zuH{s:SV}(h:zJ (jn (kq s)) (K (.loc κ 0) (.push (.box e (kq s))))):∃r md,K r md/\ya P (.box e x) [s] lm κ r md:=by
 replace h:=zf h;obtain⟨hc,h⟩:=h;refine⟨_,_,h,λo ho Keep M ρ a w _ hm hκ hκM hgs=>?_⟩;replace hκ:=hκ _ (Xi _) (X2 _);replace hκM:=hκM rfl;obtain⟨h1,h2⟩:=u1 hc (Gs.head hgs);refine qk.value (v:=.pointer (some ⟨w.heap.size,0,none⟩)) (w':=w.alloc (.cells (a.eval x).cells e)) ?_ (by simpa using zlg hm hκ hκM e h1 h2);simp[execOp,ho,Instr.box,newVar,newRow]
variable{off:Nat}
def uH{t:TypeId}(hT:zhX P t i){w:World}{T:TypeId}(hheap:w.heap[b]?=some (.cells cur T (0,0))){v:Value}(hsz:v.cells.size=i.sz)(hle:off+i.sz<=cur.size)(h1:∀u∈v.cells.toList,u.oneCell'=true):
  (storeVar t ⟨b,off,none⟩ v).run P w=.ok () (w.setRow b (cur.toList.take off++v.cells.toList++cur.toList.drop (off+i.sz)).toArray):=by
 have:=run_storeCells_at P b off T v.cells.toList 0 cur w hheap (by simp[hsz];omega) h1;simp only[XU,Qv,hsz]at this;simp[storeVar,hT.size,hsz,this]
def kG.set{Keep:LG}{M:LT}{ρ:ze}{w w':World}{κ k:Nat}{s:SV}{m:Mem}{v:Value}(h:Stp (Own M ρ) (Own (kO M k m) ρ) ρ ρ w w'/\zB Keep (kO M k m) ρ w')(hg:G (λb=>Keep b∨Own (kO M k m) ρ b) (Own (kO M k m) ρ) ρ w' s v):kG Keep M ρ w κ s (.set k m) v w':=
 ⟨ρ,h.1,h.2,hg,λ_ _=>rfl⟩
def jY(h:jw.flats cs=true):∀(j:Nat) (s:SV),cs[j]?=some s->jw s=true:=by
 induction cs with
 |nil=>intro j s h1;simp at h1
 |cons c cs ih=>
  intro j s h1;simp only[jw.flats]at h
  split at h
  ·rename_i hc
   cases j with
   |zero=>simp at h1;subst h1;exact hc
   |succ j=>exact ih h j s (by simpa using h1)
  cases h
def y9{w:World}{s:SV}(hs:jw s=true){v:Value}(hg:G S Pm ρ w s v):D S w s v:=by
 induction hg with
 |d _ _ h=>exact h
 |agg cs vs hl h ih=>
  have hf:jw.flats cs=true:=hs;exact .agg cs vs hl λj s v h1 h2=>ih j s v h1 h2 (jY hf j s h1)
 |ifc t s v h ih=>
  have hf:jw s=true:=hs;exact .ifc t s v (ih hf)
 |_=>simp[jw]at hs
def zAI(h:jw.flats cs=true){w:World}(hg:Gs S Pm ρ w cs vs):
  ∀(j:Nat) (s:SV) (v:Value),cs[j]?=some s->vs[j]?=some v->D S w s v:=λj s v h1 h2=>y9 (jY h j s h1) (hg.2 j s v h1 h2)
def zho(cur new:LZ)(o N:Nat)(h:o+new.length<=N)(hN:N<=cur.length):
  (cur.take o++new++cur.drop (o+new.length)).take N=(cur.take N).take o++new++(cur.take N).drop (o+new.length):=by
 have e1:(cur.take o++new).length=o+new.length:=by simp;omega
 rw[List.take_append,Xk oM,e1,YB,Qj oM,List.drop_take]
def zgB{R R':SV->Value->Prop}{α:Type _}{enc:α->LQ}{sz off n:Nat}{xs:List α}{x x':α}{cells new:LZ}{cs:LQ}(hRR:∀s u,R s u->R' s u)(hx:xs[n]?=some x)(hesz:∀y∈xs,(enc y).length=sz)(hle:off+new.length<=sz)(hcs:cs.length=new.length)(he:enc x'=uC (enc x) off cs)(hlen:cells.length=xs.length*sz)(hcells:∀(i j:Nat) y (s:SV),xs[i]?=some y->(enc y)[j]?=some s->∃u,cells[i*sz+j]?=some u/\R s u)(hd:∀(j:Nat) (s:SV) (u:Value),cs[j]?=some s->new[j]?=some u->R s u):
  (∀z∈xs.set n x',(enc z).length=sz)/\∀(i j:Nat) y (s:SV),(xs.set n x')[i]?=some y->(enc y)[j]?=some s->
   ∃u,(cells.take (n*sz+off)++new++cells.drop (n*sz+off+new.length))[i*sz+j]?=some u/\R' s u:=by
 have hl:=hesz _ (Xf hx);have hlt:=(Xd.1 hx).1
 have hmul:n*sz+sz<=xs.length*sz:=by
  have:=Xs sz (X3 hlt);rw[X4]at this;exact this
 have hel:(enc x').length=sz:=by rw[he];unfold uC;simp only[Xp,Xv,KJ,hl,hcs];omega
 refine⟨λz hz=>(List.mem_or_eq_of_mem_set hz).elim (hesz z) λe=>e ▸ hel,λi' j y s hxi hs'=>?_⟩;have hln:(cells.take (n*sz+off)).length=n*sz+off:=by simp[hlen];omega
 simp only[Kt,Xp,hln,XK,KD]
 by_cases hi':n=i'
 ·subst hi';simp only[Kw,hlt,if_true,Jr]at hxi;subst hxi;have hj:=(Xd.1 hs').1;rw[hel]at hj;rw[he]at hs';unfold uC at hs';simp only[Kt,Xp,Xv,hl,hcs,XK,KD,show min off sz=off by omega]at hs'
  by_cases hj1:j<off
  ·simp only[show j<off+new.length by omega,hj1,if_true]at hs';simp only[show n*sz+j<n*sz+off+new.length by omega,show n*sz+j<n*sz+off by omega,if_true];exact(hcells _ j _ s hx hs').imp λu h=>⟨h.1,hRR _ _ h.2⟩
  by_cases hj2:j<off+new.length
  ·simp only[hj2,hj1,if_true,if_false]at hs';simp only[show n*sz+j<n*sz+off+new.length by omega,show¬(n*sz+j<n*sz+off) by omega,if_true,if_false,show n*sz+j-(n*sz+off)=j-off by omega];have hlt':j-off<new.length:=oM;exact⟨new[j-off],Xa hlt',hRR _ _ (hd (j-off) s _ hs' (Xa hlt'))⟩
  simp only[hj2,if_false,show off+new.length+(j-(off+new.length))=j by omega]at hs';simp only[show¬(n*sz+j<n*sz+off+new.length) by omega,if_false,show n*sz+off+new.length+(n*sz+j-(n*sz+off+new.length))=n*sz+j by omega];exact(hcells _ j _ s hx hs').imp λu h=>⟨h.1,hRR _ _ h.2⟩
 simp only[Kw,hi',if_false]at hxi;obtain⟨u,hu,hd'⟩:=hcells i' j y s hxi hs';refine⟨u,?_,hRR _ _ hd'⟩;have hj:=(Xd.1 hs').1;rw[hesz y (Xf hxi)]at hj
 rcases X7 i' n with hlt2|hge
 ·have h5:=Xs sz (X3 hlt2);rw[X4]at h5;simp only[show i'*sz+j<n*sz+off+new.length by omega,show i'*sz+j<n*sz+off by omega,if_true];exact hu
 have h5:=Xs sz (X3 (Nat.lt_of_le_of_ne hge hi'));rw[X4]at h5;simp only[show¬(i'*sz+j<n*sz+off+new.length) by omega,if_false,show n*sz+off+new.length+(i'*sz+j-(n*sz+off+new.length))=i'*sz+j by omega];exact hu
variable{new:LZ}
def zmZ{w':World}{T:TypeId}{N N' o:Nat}{cells:LZ}{v:Value}(hv:v=.slice (some ⟨b,0,none⟩) N cap)(e:N'=N)(hw:w'.heap[b]?=some (.cells (cur.toList.take o++new++cur.toList.drop (o+new.length)).toArray T (0,0)))(hnc:N<=cap)(hcm:cap<=maxLen)(hcs:cur.size=cap*sz)(ht:cur.toList.take (N*sz)=cells)(h:o+new.length<=N*sz):w'.ownsRow 0 T sz v N' (cells.take o++new++cells.drop (o+new.length)):=by
 have hcur:N*sz<=cur.toList.length:=by simp[hcs];exact Xs _ hnc
 have hcl:cells.length=N*sz:=by rw[←ht,Xv];omega
 subst e;refine⟨?_,.inr ⟨b,cap,_,hv,Xg _,hw,hnc,hcm,?_,?_⟩⟩
 ·simp only[Xp,Xv,KJ,hcl];omega
 ·simp only[KU,Xp,Xv,KJ,Qv,hcs];simp at hcur;omega
 rw[←ht];exact zho cur.toList new o (N'*sz) h hcur
def zh9{cells:LZ}(o e:Nat)(h:∀u∈cells,u.oneCell'=true)(k:∀u∈new,u.oneCell'=true):∀u∈cells.take o++new++cells.drop e,u.oneCell'=true:=λu hu=>by
 simp only[Xr]at hu
 rcases hu with(hu|hu)|hu
 ·exact h u (XQ hu)
 ·exact k u hu
 exact h u (KZ hu)
def zop(hT:TOK P Γ){t:TypeId}{y:Operand}{s v:SV}(h:zq0 Γ t s v lm K):
  ∃r md,K r md/\ya P (.store t x y) [s,v] lm κ r md:=by
 unfold zq0 at h;replace h:=zo h;obtain⟨i,hi,h⟩:=h;have hTi:=hT t i hi;replace h:=zf h;obtain⟨hcell,h⟩:=h;replace h:=zf h;obtain⟨hlen,h⟩:=h;have hlen:=Xh hlen
 split at h
 ·rename_i k off
  split at h
  ·rename_i T cs hlk;replace h:=zf h;obtain⟨hle,h⟩:=h;have hle:=Xx hle;refine⟨_,_,h,λo ho Keep M ρ a w hlm hm _ _ hgs=>?_⟩;have hmem:=zn (hlm k _ hlk);obtain⟨b,vs,hρ,hheap,hl,h1,hcells⟩:=hm.rel k _ hmem;obtain⟨b',hρ',hx⟩:=(Gs.head hgs).loc_inv;rw[hρ]at hρ';cases hρ'
   obtain⟨hg,hone⟩:=u1 hcell (Gs.head (Gs.tail hgs));have hcl:(a.eval y).cells.toList.length=i.sz:=by rw[hg.1,hlen]
   have hrun:=uH hTi hheap (v:=a.eval y) (off:=off) (by simpa using hcl) (by simp;omega) hone;refine qk.skip (w':=_) (by simp[execOp,ho,hx,Instr.storeAt,Instr.sureAddr,hrun];rfl) ?_;have hsp:=zon off (⟨hl,hcells⟩:Gs (λb=>Keep b∨Own M ρ b) (Own M ρ) ρ w cs vs) hg;rw[hcl]at hsp;refine kG.set (hm.write _ hmem hρ rfl _ λhs=>?_) (.d _ _ (.val _));exact⟨b,_,hρ,by simpa using setRow_heap w b _ _ T _ hheap,(hsp.stp hs).1,zh9 _ _ h1 hone,(hsp.stp hs).2⟩
  exact h.elim
 ·rename_i k sz n off
  split at h
  ·rename_i T α enc sz' xs hlk;replace h:=zf h;obtain⟨hsz,h⟩:=h;replace h:=zf h;obtain⟨hle,h⟩:=h;have hsz:=Xh hsz;subst hsz;have hle:=Xx hle
   split at h
   rotate_left
   ·obtain⟨h0,h1⟩:=h.ob;have hlt0:n.toNat<xs.length:=oM;have hx0:=Xa hlt0;replace h:=h.go _ hx0;obtain⟨zs,hzs⟩:∃zs,zs=xs.map enc:=⟨_,rfl⟩;have hzl:zs.length=xs.length:=by rw[hzs,Xz]
    have hlt:n.toNat<zs.length:=oM;have hx:=Xa hlt;have hxe:zs[n.toNat]=enc xs[n.toNat]:=by subst hzs;simp
    rw[←hzs,←hxe]at h;obtain⟨x',hx'⟩:∃x',x'=uC (zs[n.toNat]) off (kq v):=⟨_,rfl⟩;rw[←hx']at h;refine⟨_,_,h,λo ho Keep M ρ a w hlm hm _ _ hgs=>?_⟩;have hmem:=zn (hlm k _ hlk);obtain⟨v0,cells,hρ,hown,hnl,hone0,hesz0,hcells0⟩:=hm.rel k _ hmem;rw[←hzl]at hown hnl
    have hesz:∀x∈zs,x.length=sz:=λx hx=>by
     rw[hzs]at hx;obtain⟨y,hy,rfl⟩:=XL.1 hx;exact hesz0 y hy
    have hcells:∀(i j:Nat) (x:LQ) (s:SV),zs[i]?=some x->x[j]?=some s->∃u,cells[i*sz+j]?=some u/\G (λb=>Keep b∨Own M ρ b) (Own M ρ) ρ w s u:=λi j x s hx hs=>by
     rw[hzs,XA]at hx
     cases hy:xs[i]? with
     |none=>simp[hy]at hx
     |some y=>
      simp[hy]at hx;subst hx;obtain⟨u,hu,hd⟩:=hcells0 i j y s hy hs;exact⟨u,hu,.d _ _ hd⟩
    obtain⟨b,len,cap,hρ',hxv⟩:=(Gs.head hgs).eloc_inv;rw[hρ]at hρ';cases hρ'
    obtain⟨hlen',cur,hheap,hnc,hcm,hcs,htake⟩:=zdF rfl hown;obtain⟨hg,hone⟩:=u1 hcell (Gs.head (Gs.tail hgs));have hcl:(a.eval y).cells.toList.length=i.sz:=by rw[hg.1,hlen]
    have hl:=hesz _ (Xf hx)
    have hmul:n.toNat*sz+sz<=zs.length*sz:=by
     have:=Xs sz (X3 hlt);rw[X4]at this;exact this
    have hcurlen:zs.length*sz<=cur.toList.length:=by simp[hcs];exact Xs _ hnc
    have hrun:=uH hTi hheap (v:=a.eval y) (off:=n.toNat*sz+off) (by simpa using hcl) (by simp at hcurlen;omega) hone;refine qk.skip (w':=_) (by simp[execOp,ho,hxv,Instr.storeAt,Instr.sureAddr,hrun];rfl) ?_;have hd:=hg.2;refine kG.set (hm.write _ hmem hρ rfl _ λhs=>?_) (.d _ _ (.val _));have hp:=zgB (n:=n.toNat) (off:=off) (x':=x') (λs u q=>q.stp hs) hx hesz (by rw[hcl];exact hle) (by rw[hcl];exact hlen) hx' hown.1 hcells hd
    exact⟨_,_,hρ,zmZ (by rw[←hlen']) (by rw[XP]) (by rw[hcl];simpa using setRow_heap w b _ _ T _ hheap) hnc hcm hcs htake (by rw[hcl];omega),by simpa using hnl,zh9 _ _ hone0 hone,hp.1,hp.2⟩
   rename_i hflat;obtain⟨h0,h1⟩:=h.ob;have hlt:n.toNat<xs.length:=oM;have hx:=Xa hlt;obtain⟨x',hx',h⟩:=h.go _ hx;refine⟨_,_,h,λo ho Keep M ρ a w hlm hm _ _ hgs=>?_⟩;have hmem:=zn (hlm k _ hlk);obtain⟨v0,cells,hρ,hown,hnl,hone0,hesz,hcells⟩:=hm.rel k _ hmem;obtain⟨b,len,cap,hρ',hxv⟩:=(Gs.head hgs).eloc_inv;rw[hρ]at hρ';cases hρ'
   obtain⟨hlen',cur,hheap,hnc,hcm,hcs,htake⟩:=zdF rfl hown;obtain⟨hg,hone⟩:=u1 hcell (Gs.head (Gs.tail hgs));have hcl:(a.eval y).cells.toList.length=i.sz:=by rw[hg.1,hlen]
   have hl:=hesz _ (Xf hx)
   have hmul:n.toNat*sz+sz<=xs.length*sz:=by
    have:=Xs sz (X3 hlt);rw[X4]at this;exact this
   have hcurlen:xs.length*sz<=cur.toList.length:=by simp[hcs];exact Xs _ hnc
   have hrun:=uH hTi hheap (v:=a.eval y) (off:=n.toNat*sz+off) (by simpa using hcl) (by simp at hcurlen;omega) hone;refine qk.skip (w':=_) (by simp[execOp,ho,hxv,Instr.storeAt,Instr.sureAddr,hrun];rfl) ?_;have hd:=zAI hflat hg;refine kG.set (hm.write _ hmem hρ rfl _ λhs=>?_) (.d _ _ (.val _));have hp:=zgB (n:=n.toNat) (off:=off) (x':=x') (λs u q=>q.stp hs) hx hesz (by rw[hcl];exact hle) (by rw[hcl];exact hlen) hx' hown.1 hcells hd
   exact⟨_,_,hρ,zmZ (by rw[←hlen']) (by rw[XP]) (by rw[hcl];simpa using setRow_heap w b _ _ T _ hheap) hnc hcm hcs htake (by rw[hcl];omega),by simpa using hnl,zh9 _ _ hone0 hone,hp.1,hp.2⟩
  ·rename_i T sz' xs hlk;replace h:=zf h;obtain⟨hsz,h⟩:=h;replace h:=zf h;obtain⟨hle,h⟩:=h;have hsz:=Xh hsz;subst hsz;have hle:=Xx hle;obtain⟨h0,h1⟩:=h.ob;have hlt:n.toNat<xs.length:=oM;have hx:=Xa hlt;replace h:=h.go _ hx;obtain⟨x',hx'⟩:∃x',x'=uC (xs[n.toNat]) off (kq v):=⟨_,rfl⟩;rw[←hx']at h;refine⟨_,_,h,λo ho Keep M ρ a w hlm hm _ _ hgs=>?_⟩;have hmem:=zn (hlm k _ hlk);obtain⟨v0,cells,hρ,hown,hnl,hone0,hesz,hcells⟩:=hm.rel k _ hmem
   obtain⟨b,len,cap,hρ',hxv⟩:=(Gs.head hgs).eloc_inv;rw[hρ]at hρ';cases hρ'
   obtain⟨hlen',cur,hheap,hnc,hcm,hcs,htake⟩:=zdF rfl hown;obtain⟨hg,hone⟩:=u1 hcell (Gs.head (Gs.tail hgs));have hcl:(a.eval y).cells.toList.length=i.sz:=by rw[hg.1,hlen]
   have hl:=hesz _ (Xf hx)
   have hmul:n.toNat*sz+sz<=xs.length*sz:=by
    have:=Xs sz (X3 hlt);rw[X4]at this;exact this
   have hcurlen:xs.length*sz<=cur.toList.length:=by simp[hcs];exact Xs _ hnc
   have hrun:=uH hTi hheap (v:=a.eval y) (off:=n.toNat*sz+off) (by simpa using hcl) (by simp at hcurlen;omega) hone;refine qk.skip (w':=_) (by simp[execOp,ho,hxv,Instr.storeAt,Instr.sureAddr,hrun];rfl) ?_;have hd:=hg.2;refine kG.set (hm.write _ hmem hρ rfl _ λhs=>?_) (.d _ _ (.val _));have hp:=zgB (n:=n.toNat) (off:=off) (x':=x') (λs u q=>q.stp hs) hx hesz (by rw[hcl];exact hle) (by rw[hcl];exact hlen) hx' hown.1 hcells hd
   exact⟨_,_,hρ,zmZ (by rw[←hlen']) (by rw[XP]) (by rw[hcl];simpa using setRow_heap w b _ _ T _ hheap) hnc hcm hcs htake (by rw[hcl];omega),by simpa using hnl,zh9 _ _ hone0 hone,hp.1,hp.2⟩
  exact h.elim
 exact h.elim
def zsS{l:List (Nat×TypeId)}{n:Nat}:zob l n=l[n]? :=by
 induction l generalizing n with
 |nil=>rfl
 |cons x r ih=>cases n with
  |zero=>rfl
  |succ n=>simp[zob,ih]
variable{f:Nat}
def zoq{t:TypeId}{fs:List (Nat×TypeId)}(h:zeN P t (.struct fs)){ft:TypeId}(hn:zob fs f=some (off,ft)):
  ∃(F:Array Field) (fl:Field),P.underlying t=some (.struct F)/\F[f]?=some fl/\fl.offset=off/\fl.type=ft:=by
 obtain⟨F,hF,hm,_⟩:=h;rw[zsS,←hm,XA]at hn
 cases hq:F.toList[f]? with
 |none=>simp[hq]at hn
 |some fl=>
  simp only[hq,Qk,Jr,KL]at hn;exact⟨F,fl,hF,by simpa using hq,hn.1,hn.2⟩
def zhY(hT:TOK P Γ){t:TypeId}{s:SV}(h:zeI Γ t f s K):∃r,K r .none/\ya P (.fieldAddr t x f) [s] lm κ r .none:=by
 unfold zeI at h;replace h:=zo h;obtain⟨i,hi,h⟩:=h;have hk:=(hT t i hi).kind
 split at h
 ·rename_i fs hfs;rw[hfs]at hk
  split at h
  ·rename_i off ft hn;replace h:=zo h;obtain⟨j,hj,h⟩:=h;replace h:=zf h;obtain⟨hz,h⟩:=h;obtain⟨F,fl,hF,hfl,hoff,hft⟩:=zoq hk hn;have hsz:∀w,(sizeOf fl.type).run P w=.ok j.sz w:=λw=>by rw[hft];exact(hT ft j hj).size w
   have hz:¬j.sz=0:=by
    have:=Xx hz;omega
   have run:∀{o:Oper} (_:o.op=.fieldAddr t x f) {a:Act} {w:World} {b o':Nat},a.eval x=.pointer (some ⟨b,o',none⟩)->
     (execOp a.eval o).run P w=.ok (.value (.pointer (some ⟨b,o'+off,none⟩))) w:=by
    intro o ho a w b o' hx;simp[execOp,ho,hx,Instr.fieldAt,Instr.sureAddr,run_underlying hF,hfl,fieldPlace,hsz,hz,jx,hoff]
   split at h
   ·exact⟨_,h,.pure λo ho S Pm ρ a w hgs=>by
     obtain⟨b,hρ,hx⟩:=(Gs.head hgs).loc_inv
     exact⟨_,run ho hx,.loc _ _ b hρ⟩⟩
   ·refine⟨_,h,.pure λo ho S Pm ρ a w hgs=>?_⟩;obtain⟨b,o',c,hx,hb,hP,hc,hd⟩:=(Gs.head hgs).ptr_inv;refine⟨_,run ho hx,.ptr _ b (o'+off) (λj=>c (off+j)) hb hP (λj hj=>?_) (λj s hs=>hd _ s (by simpa using hs))⟩;have:=hc (off+j) (by simp at hj;omega)
    rwa [←KE]at this
   ·refine⟨_,h,.pure λo ho S Pm ρ a w hgs=>?_⟩;obtain⟨b,o',c,hx,hb,hP,hc,hd⟩:=(Gs.head hgs).dptr_inv;refine⟨_,run ho hx,.d _ _ (.dptr _ b (o'+off) (λj=>c (off+j)) hb hP (λj hj=>?_) (λj s hs=>hd _ s (by simpa using hs)))⟩;have:=hc (off+j) (by simp at hj;omega)
    rwa [←KE]at this
   ·exact⟨_,h,.pure λo ho S Pm ρ a w hgs=>by
     obtain⟨b,len,cap,hρ,hx⟩:=(Gs.head hgs).eloc_inv;refine⟨_,run ho hx,?_⟩;rw[KE]
     exact .eloc _ _ _ _ b len cap hρ⟩
   exact h.elim
  exact h.elim
 exact h.elim
def zor{t:TypeId}(hT:zhX P t i){w:World}(hg:Gs S Pm ρ w cs vs){s:SV}(hs:(i.kind.agg=true/\s=.agg ((cs.drop off).take i.sz))∨(i.kind.agg=false/\∃r,cs.drop off=s::r)):
  ∃v,(part t vs.toArray off).run P w=.ok v w/\G S Pm ρ w s v:=by
 unfold part;rw[Sem.run_bind,hT.agg w,Result.andThen_ok]
 obtain⟨h1,rfl⟩|⟨h1,r,hr⟩:=hs
 ·have h2:=(hg.drop off).take i.sz;exact⟨.agg ((vs.drop off).take i.sz).toArray,by simp[h1,hT.size],.agg _ _ h2.1 h2.2⟩
 have h2:=hg.drop off;rw[hr]at h2;obtain⟨v,vs',hv,h3,_⟩:=h2.cons_inv
 have h4:vs[off]?=some v:=by
  have:(vs.drop off)[0]?=some v:=by rw[hv];rfl
  simpa using this
 exact⟨v,by simp[h1,h4],h3⟩
def zos(hT:TOK P Γ){t:TypeId}{s:SV}(h:kz Γ t λi=>(match i.kind,s with
  |.struct fs,.agg cs=>(match zob fs f with
   |some (off,ft)=>kz Γ ft λj=>zJ (Nat.ble (off+j.sz) cs.length) (mkV j.kind.agg j.sz (cs.drop off) λs=>K s .none)
   |none=>False)
  |_,_=>False)):∃r,K r .none/\ya P (.field t x f) [s] lm κ r .none:=by
 replace h:=zo h;obtain⟨i,hi,h⟩:=h;have hk:=(hT t i hi).kind
 split at h
 ·rename_i fs cs hfs;rw[hfs]at hk
  split at h
  ·rename_i off ft hn;replace h:=zo h;obtain⟨j,hj,h⟩:=h;replace h:=(zf h).2;replace h:=uG h;obtain⟨r,hK,h⟩:=h;obtain⟨F,fl,hF,hfl,hoff,hft⟩:=zoq hk hn;refine⟨r,hK,.pure λo ho S Pm ρ a w hgs=>?_⟩;obtain⟨vs,hx,hvs⟩:=(Gs.head hgs).agg_inv;obtain⟨v,h1,h2⟩:=zor (hT ft j hj) hvs h;exact⟨v,by simp[execOp,ho,hx,Instr.field,run_underlying hF,hfl,asAgg,hoff,hft,h1],h2⟩
  exact h.elim
 exact h.elim
def zot(hT:TOK P Γ){t:TypeId}{y:Operand}{s n:SV}(h:zq2 Γ t s n K):∃r,K r .none/\ya P (.index t x y) [s,n] lm κ r .none:=by
 unfold zq2 at h;replace h:=zo h;obtain⟨i,hi,h⟩:=h;have hk:=(hT t i hi).kind
 split at h
 ·rename_i len e cs k n hkind;rw[hkind]at hk;replace h:=zo h;obtain⟨j,hj,h⟩:=h
  split at h
  ·rename_i m;replace h:=zf h;obtain⟨hlt,h⟩:=h;replace h:=(zf h).2;replace h:=uG h;obtain⟨r,hK,h⟩:=h;have hlt:m<len:=Xx hlt;refine⟨r,hK,.pure λo ho S Pm ρ a w hgs=>?_⟩;obtain⟨vs,hx,hvs⟩:=(Gs.head hgs).agg_inv;have hy:=(Gs.head (Gs.tail hgs)).val_inv;obtain⟨v,h1,h2⟩:=zor (hT e j hj) hvs h;exact⟨v,by simp[execOp,ho,hx,hy,Instr.index,asIntOf,run_underlying hk,hlt,(hT e j hj).size,h1],h2⟩
  exact h.elim
 ·rename_i s k n hkind;rw[hkind]at hk;obtain⟨⟨h0,h1⟩,h⟩:=h;have hb:s[n.toNat]?=some (s[n.toNat]'oM):=getElem?_pos s n.toNat oM;refine⟨_,h _ hb,.pure λo ho S Pm ρ a w hgs=>?_⟩;have hx:=hgs.head.val_inv;have hy:=hgs.tail.head.val_inv;have hk:P.underlying t=some .string:=hk;refine⟨_,?_,.d _ _ (.val _)⟩;simp only[execOp,ho,hx,hy,Instr.index,asIntOf,Sem.run_bind,Sem.run_pure,Result.andThen_ok,run_underlying hk,h0,if_true,hb]
 exact h.elim
def zhZ(hT:TOK P Γ){t:TypeId}{y:Operand}{s n:SV}(h:zeJ Γ t s n lm K):∃r,K r .none/\ya P (.indexAddr t x y) [s,n] lm κ r .none:=by
 unfold zeJ at h;replace h:=zo h;obtain⟨i,hi,h⟩:=h;have hk:=(hT t i hi).kind
 split at h
 ·rename_i k n
  split at h
  ·rename_i e hkind;rw[hkind]at hk;replace h:=zo h;obtain⟨j,hj,h⟩:=h;have hsz:=(hT e j hj).size
   have run:∀{o:Oper} (_:o.op=.indexAddr t x y) {a:Act} {w:World} {b off len cap:Nat},a.eval x=.slice (some ⟨b,off,none⟩) len cap->a.eval y=.int k n->0<=n->n<len->
     (execOp a.eval o).run P w=.ok (.value (.pointer (some ⟨b,off+n.toNat*j.sz,none⟩))) w:=by
    intro o ho a w b off len cap hx hy h0 h1;simp[execOp,ho,hx,hy,Instr.indexAt,asIntOf,run_underlying hk,h0,h1,hsz,jx]
   split at h
   ·rename_i α enc xs;obtain⟨h0,h1⟩:=h.ob;have hlt:n.toNat<xs.length:=oM;have hx:=Xa hlt;have h:=h.go _ hx;replace h:=zf h;obtain⟨hl,h⟩:=h;have hl:=Xh hl;refine⟨_,h,.read λo ho Keep M ρ a w _ _ hgs=>?_⟩;have hy:=(Gs.head (Gs.tail hgs)).val_inv
    rcases(Gs.head hgs).sl_inv.sl_inv with⟨rfl,_⟩|⟨sz,b,off,cap,c,hxv,hb,hS,_,_,hesz,hc,hd⟩
    ·simp at hlt
    have hs:sz=j.sz:=by rw[←hl];exact(hesz _ (Xf hx)).symm
    subst hs;refine⟨_,run ho hxv hy h0 h1,?_⟩;refine .ptr _ b _ (λj=>c n.toNat j) hb ?_ (λq hq=>?_) (λq s hs=>hd _ q _ s hx hs)
    ·exact λho=>hS (.inr ho)
    have:=hc n.toNat q hlt oM;exact this
   ·rename_i k'
    split at h
    ·rename_i T α enc sz xs hlk;replace h:=zf h;obtain⟨hs,h⟩:=h;have hs:=Xh hs;subst hs;obtain⟨h0,h1⟩:=h.ob;refine⟨_,h.go,.read λo ho Keep M ρ a w hlm hm hgs=>?_⟩;have hy:=(Gs.head (Gs.tail hgs)).val_inv;obtain⟨hρ',_⟩:=(Gs.head hgs).own_inv;obtain⟨v,cells,hρ,hown,_⟩:=hm.rel k' _ (hlm k' _ hlk);have hxv:a.eval x=v:=by rw[hρ]at hρ';exact(Xl hρ').symm
     obtain⟨_,h3⟩|⟨g,cap,cur,rfl,_⟩:=hown.2
     ·omega
     refine⟨_,run ho hxv hy h0 h1,?_⟩;rw[show 0+n.toNat*j.sz=n.toNat*j.sz+0 by omega];exact .eloc _ _ _ _ g _ _ hρ
    ·rename_i T sz xs hlk;replace h:=zf h;obtain⟨hs,h⟩:=h;have hs:=Xh hs;subst hs;obtain⟨h0,h1⟩:=h.ob;refine⟨_,h.go,.read λo ho Keep M ρ a w hlm hm hgs=>?_⟩;have hy:=(Gs.head (Gs.tail hgs)).val_inv;obtain⟨hρ',_⟩:=(Gs.head hgs).own_inv;obtain⟨v,cells,hρ,hown,_⟩:=hm.rel k' _ (hlm k' _ hlk);have hxv:a.eval x=v:=by rw[hρ]at hρ';exact(Xl hρ').symm
     obtain⟨_,h3⟩|⟨g,cap,cur,rfl,_⟩:=hown.2
     ·omega
     refine⟨_,run ho hxv hy h0 h1,?_⟩;rw[show 0+n.toNat*j.sz=n.toNat*j.sz+0 by omega];exact .eloc _ _ _ _ g _ _ hρ
    exact h.elim
   ·rename_i k' sz lo l;replace h:=zf h;obtain⟨hs,h⟩:=h;have hs:=Xh hs;subst hs;obtain⟨h0,h1,h2⟩:=h.ob;refine⟨_,h.go,.read λo ho Keep M ρ a w hlm hm hgs=>?_⟩;have hy:=(Gs.head (Gs.tail hgs)).val_inv;obtain⟨b,len,cap,cap',hρ,hx,_,_⟩:=(Gs.head hgs).win_inv;refine⟨_,run ho hx hy h1 oM,?_⟩
    have e:lo.toNat*j.sz+n.toNat*j.sz=(lo+n).toNat*j.sz+0:=by
     rw[←X6,XU];congr 1;omega
    rw[e];exact .eloc _ _ _ _ b _ _ hρ
   exact h.elim
  ·rename_i len e hkind;rw[hkind]at hk;replace h:=zo h;obtain⟨j,hj,h⟩:=h;have hsz:=(hT e j hj).size
   split at h
   ·rename_i m;replace h:=zf h;obtain⟨hlt,h⟩:=h;have hlt:m<len:=Xx hlt
    have run:∀{o:Oper} (_:o.op=.indexAddr t x y) {a:Act} {w:World} {b off:Nat},a.eval x=.pointer (some ⟨b,off,none⟩)->a.eval y=.int k (Int.ofNat m)->
      (execOp a.eval o).run P w=.ok (.value (.pointer (some ⟨b,off+m*j.sz,none⟩))) w:=by
     intro o ho a w b off hx hy;simp[execOp,ho,hx,hy,Instr.indexAt,Instr.sureAddr,asIntOf,run_underlying hk,hlt,hsz,jx]
    split at h
    ·exact⟨_,h,.pure λo ho S Pm ρ a w hgs=>by
      obtain⟨b,hρ,hx⟩:=(Gs.head hgs).loc_inv
      exact⟨_,run ho hx (Gs.head (Gs.tail hgs)).val_inv,.loc _ _ b hρ⟩⟩
    ·refine⟨_,h,.pure λo ho S Pm ρ a w hgs=>?_⟩;obtain⟨b,o',c,hx,hb,hP,hc,hd⟩:=(Gs.head hgs).ptr_inv;refine⟨_,run ho hx (Gs.head (Gs.tail hgs)).val_inv,.ptr _ b _ (λq=>c (m*j.sz+q)) hb hP (λq hq=>?_) (λq s hs=>hd _ s (by simpa using hs))⟩;have:=hc (m*j.sz+q) (by simp at hq;omega)
     rwa [←KE]at this
    ·refine⟨_,h,.pure λo ho S Pm ρ a w hgs=>?_⟩;obtain⟨b,o',c,hx,hb,hP,hc,hd⟩:=(Gs.head hgs).dptr_inv;refine⟨_,run ho hx (Gs.head (Gs.tail hgs)).val_inv,.d _ _ (.dptr _ b _ (λq=>c (m*j.sz+q)) hb hP (λq hq=>?_) (λq s hs=>hd _ s (by simpa using hs)))⟩;have:=hc (m*j.sz+q) (by simp at hq;omega)
     rwa [←KE]at this
    ·exact⟨_,h,.pure λo ho S Pm ρ a w hgs=>by
      obtain⟨b,len,cap,hρ,hx⟩:=(Gs.head hgs).eloc_inv;refine⟨_,run ho hx (Gs.head (Gs.tail hgs)).val_inv,?_⟩;rw[KE]
      exact .eloc _ _ _ _ b len cap hρ⟩
    exact h.elim
   exact h.elim
  exact h.elim
 exact h.elim
end
end Go.Gs
