/- What a symbolic value says, read back; blocks of one's own behind a change. -/
import Derived.Test.YtjgadnaphffpkaaGreatDoorNA
import Derived.Test.YtjgadnaphffpkaaGreatDoorNAA
import Derived.Laws.StructEq
import Derived.Laws.MakeOwn
import Derived.Laws.Slices
import Derived.Laws.BitsLemmas
import Derived.Laws.Small
import Derived.ChangeKeysEq
import Derived.Laws.CopyRow
import Derived.Laws.Cover3
set_option maxRecDepth 100000
set_option maxHeartbeats 8000000
set_option linter.all false
namespace Go.Gs
section inv
variable {S Pm:Nat->Prop} {ρ:zk} {w:World}
section
variable{u:Value}
theorem D.val_inv{v:Value}(h:D S w (.val v) u):u=v:=by cases h;rfl
theorem G.val_inv{v u:Value}(h:G S Pm ρ w (.val v) u):u=v:=by cases h with | d _ _ h=>exact h.val_inv
theorem G.pr_inv{p:Prop}{i:Decidable p}(h:G S Pm ρ w (.pr p i) u):u=.bool (@decide p i):=by
 cases h with | d _ _ h=>cases h;rfl
variable{off:Nat}
theorem G.loc_inv{k:Nat}(h:G S Pm ρ w (.loc k off) u):∃b,ρ k=some (.pointer (some ⟨b,0,none⟩))/\u=.pointer (some ⟨b,off,none⟩):=by
 cases h with
 | d _ _ h=>cases h
 | loc _ _ b h=>exact⟨b,h,rfl⟩
theorem G.own_inv{k:Nat}(h:G S Pm ρ w (.own k) u):ρ k=some u/\u.oneCell'=true:=by
 cases h with
 | d _ _ h=>cases h
 | own _ _ h h1=>exact⟨h,h1⟩
variable{sz:Nat}
theorem G.eloc_inv{k:Nat}{i:Int}(h:G S Pm ρ w (.eloc k sz i off) u):
  ∃b len cap,ρ k=some (.slice (some ⟨b,0,none⟩) len cap)/\u=.pointer (some ⟨b,i.toNat*sz+off,none⟩):=by
 cases h with
 | d _ _ h=>cases h
 | eloc _ _ _ _ b len cap h=>exact⟨b,len,cap,h,rfl⟩
theorem G.win_inv{k:Nat}{lo n:Int}(h:G S Pm ρ w (.win k sz lo n) u):
  ∃b len cap cap',ρ k=some (.slice (some ⟨b,0,none⟩) len cap)/\u=.slice (some ⟨b,lo.toNat*sz,none⟩) n.toNat cap'/\lo.toNat+n.toNat<=len/\n.toNat<=cap':=by
 cases h with
 | d _ _ h=>cases h
 | win _ _ _ _ b len cap cap' h h1 h2=>exact⟨b,len,cap,cap',h,rfl,h1,h2⟩
variable{cs:List SV}
theorem G.ptr_inv(h:G S Pm ρ w (.ptr cs) u):∃b o,∃c:Nat->Value,u=.pointer (some ⟨b,o,none⟩)/\b < w.heap.size/\¬Pm b/\
  (∀j,j < cs.length->w.cell? ⟨b,o+j,none⟩=some (c j)/\(c j).oneCell'=true)/\∀(j:Nat) (s:SV),cs[j]? =some s->D S w s (c j):=by
 cases h with
 | d _ _ h=>cases h
 | ptr _ b o c hb hP hc h=>exact⟨b,o,c,rfl,hb,hP,hc,h⟩
theorem G.dptr_inv(h:G S Pm ρ w (.dptr cs) u):∃b o,∃c:Nat->Value,u=.pointer (some ⟨b,o,none⟩)/\b < w.heap.size/\¬S b/\
  (∀j,j < cs.length->w.cell? ⟨b,o+j,none⟩=some (c j)/\(c j).oneCell'=true)/\∀(j:Nat) (s:SV),cs[j]? =some s->D S w s (c j):=by
 cases h with
 | d _ _ h=>cases h with | dptr _ b o c hb hS hc h=>exact⟨b,o,c,rfl,hb,hS,hc,h⟩
variable{f:FuncId}
theorem G.dfn_inv(h:G S Pm ρ w (.dfn f cs) u):∃vs:List Value,u=.func (.func f) #[] vs.toArray/\Gs S Pm ρ w cs vs:=by
 cases h with
 | d _ _ h=>cases h with | dfn _ _ vs hl h=>exact⟨vs,rfl,hl,λj s v h1 h2=>.d _ _ (h j s v h1 h2)⟩
theorem G.bm_inv(h:G S Pm ρ w (.bm f cs) u):∃vs:List Value,u=.func (.func f) vs.toArray #[]/\Gs S Pm ρ w cs vs:=by
 cases h with
 | d _ _ h=>cases h with | bm _ _ vs hl h=>exact⟨vs,rfl,hl,λj s v h1 h2=>.d _ _ (h j s v h1 h2)⟩
theorem G.op_inv{v:Value}(h:G S Pm ρ w (.op v) u):u=v/\ifB v=true:=by
 cases h with
 | d _ _ h=>cases h with | op _ h=>exact⟨rfl,h⟩
theorem G.ifc_inv{t:TypeId}{s:SV}(h:G S Pm ρ w (.ifc t s) u):∃v,u=.iface t v/\G S Pm ρ w s v:=by
 cases h with
 | d _ _ h=>cases h with | ifc _ _ v h=>exact⟨v,rfl,.d _ _ h⟩
 | ifc _ _ v h=>exact⟨v,rfl,h⟩
theorem G.agg_inv(h:G S Pm ρ w (.agg cs) u):∃vs:List Value,u=.agg vs.toArray/\Gs S Pm ρ w cs vs:=by
 cases h with
 | d _ _ h=>cases h with | agg _ vs hl h=>exact⟨vs,rfl,hl,λj s v hs hv=>.d _ _ (h j s v hs hv)⟩
 | agg _ vs hl h=>exact⟨vs,rfl,hl,h⟩
theorem G.tup_inv(h:G S Pm ρ w (.tup cs) u):∃vs:List Value,u=.tuple vs.toArray/\Gs S Pm ρ w cs vs:=by
 cases h with
 | d _ _ h=>cases h
 | tup _ vs hl h=>exact⟨vs,rfl,hl,h⟩
theorem G.fn_inv(h:G S Pm ρ w (.fn f cs) u):∃vs:List Value,u=.func (.func f) #[] vs.toArray/\Gs S Pm ρ w cs vs:=by
 cases h with
 | d _ _ h=>cases h
 | fn _ _ vs hl h=>exact⟨vs,rfl,hl,h⟩
variable{α:Type}{xs:List α}
theorem G.sl_inv{enc:α->List SV}(h:G S Pm ρ w (.sl enc xs) u):D S w (.sl enc xs) u:=by
 cases h with | d _ _ h=>exact h
theorem D.sl_inv{enc:α->List SV}(h:D S w (.sl enc xs) u):
  (xs=[]/\∃a,u=.slice a 0 0)∨∃sz b o cap,∃c:Nat->Nat->Value,u=.slice (some ⟨b,o,none⟩) xs.length cap/\b < w.heap.size/\¬S b/\xs.length<=9223372036854775807/\xs.length<=cap/\
   (∀x∈xs,(enc x).length=sz)/\(∀i j,i < xs.length->j < sz->w.cell? ⟨b,o+i*sz+j,none⟩=some (c i j)/\(c i j).oneCell'=true)/\
   ∀(i j:Nat) (x:α) (s:SV),xs[i]? =some x->(enc x)[j]? =some s->D S w s (c i j):=by
 cases h with
 | nil _ a=>exact .inl ⟨rfl,a,rfl⟩
 | sl _ _ sz b o cap c hb hS hlen hcap hsz hc h=>exact .inr ⟨sz,b,o,cap,c,rfl,hb,hS,hlen,hcap,hsz,hc,h⟩
theorem G.nils_inv(h:G S Pm ρ w .nils u):∃a,u=.slice a 0 0:=by
 cases h with | d _ _ h=>cases h with | nils a=>exact⟨a,rfl⟩
theorem G.full_inv{enc:α->List SV}(h:G S Pm ρ w (.full enc xs) u):∃a,u=.slice a xs.length xs.length/\D S w (.sl enc xs) u:=by
 cases h with | d _ _ h=>cases h with | full _ _ a h=>exact⟨a,rfl,h⟩
theorem G.anyb_inv(h:G S Pm ρ w .anyb u):∃b,u=.bool b:=by
 cases h with | d _ _ h=>cases h with | anyb b=>exact⟨b,rfl⟩
theorem Gs.nil:Gs S Pm ρ w [] []:=⟨rfl,λ_ _ _ h=>by simp at h⟩
variable{vs:List Value}
theorem Gs.cons{s:SV}{v:Value}(h:G S Pm ρ w s v)(hs:Gs S Pm ρ w cs vs):Gs S Pm ρ w (s::cs) (v::vs):=
 ⟨by simp[hs.1],λj s' v' h1 h2=>by
  cases j with
  | zero=>simp at h1 h2;subst h1;subst h2;exact h
  | succ j=>simp at h1 h2;exact hs.2 j s' v' h1 h2⟩
theorem Gs.head{s:SV}{v:Value}(h:Gs S Pm ρ w (s::cs) (v::vs)):G S Pm ρ w s v:=h.2 0 s v rfl rfl
theorem Gs.tail{s:SV}{v:Value}(h:Gs S Pm ρ w (s::cs) (v::vs)):Gs S Pm ρ w cs vs:=
 ⟨by simpa using h.1,λj s' v' h1 h2=>h.2 (j+1) s' v' (by simpa using h1) (by simpa using h2)⟩
theorem Gs.cons_inv{s:SV}(h:Gs S Pm ρ w (s::cs) vs):∃v vs',vs=v::vs'/\G S Pm ρ w s v/\Gs S Pm ρ w cs vs':=by
 cases vs with
 | nil=>simp[Gs]at h
 | cons v vs=>exact⟨v,vs,rfl,h.head,h.tail⟩
theorem Gs.nil_inv(h:Gs S Pm ρ w [] vs):vs=[]:=by simpa[Gs] using h.1
theorem Gs.append{ds:List SV}{us:List Value}(h:Gs S Pm ρ w cs vs)(k:Gs S Pm ρ w ds us):Gs S Pm ρ w (cs++ds) (vs++us):=by
 induction cs generalizing vs with
 | nil=>rw[h.nil_inv];exact k
 | cons s cs ih=>obtain⟨v,vs',rfl,h1,h2⟩:=h.cons_inv;exact .cons h1 (ih h2)
theorem Gs.drop{cs:List SV}{vs:List Value}(n:Nat)(h:Gs S Pm ρ w cs vs):Gs S Pm ρ w (cs.drop n) (vs.drop n):=
 ⟨by simp[h.1],λj s v h1 h2=>h.2 (n+j) s v (by simpa using h1) (by simpa using h2)⟩
theorem Gs.take{cs:List SV}{vs:List Value}(n:Nat)(h:Gs S Pm ρ w cs vs):Gs S Pm ρ w (cs.take n) (vs.take n):=
 ⟨by simp[h.1],λj s v h1 h2=>by
  rw[Xv]at h1 h2
  split at h1
  ·rename_i hj;rw[if_pos hj]at h2;exact h.2 j s v h1 h2
  ·cases h1⟩
theorem Gs.vals(l:List Value):Gs S Pm ρ w (vals l) l:=
 ⟨by simp[Go.Gs.vals],λj s v h1 h2=>by
  simp[Go.Gs.vals,h2]at h1;subst h1;exact .d _ _ (.val v)⟩
theorem Gs.mono' {S' Pm':Nat->Prop} {ρ':zk} {w':World}(h:Gs S Pm ρ w cs vs)
  (hg:∀s v,G S Pm ρ w s v->G S' Pm' ρ' w' s v):Gs S' Pm' ρ' w' cs vs:=⟨h.1,λj s v h1 h2=>hg s v (h.2 j s v h1 h2)⟩
end
end inv
theorem qJ{s:SV}{K:SV->Prop}(h:zaz s K):K s:=by
 cases s with
 | val v=>cases v with
  | bool b=>cases b <;> exact h
  | _=>exact h
 | _=>exact h
theorem zi{b:Bool}{K:Prop}(h:zS b K):b=true/\K:=by cases b <;> first | exact h.elim | exact⟨rfl,h⟩
theorem ky{a b:Bool}(h:uD a b=true):a=true/\b=true:=by cases a <;> simp_all[uD]
theorem zt{Γ:List (TypeId×TI)}{t:TypeId}{K:TI->Prop}(h:kH Γ t K):∃i,ti Γ t=some i/\K i:=by
 unfold kH at h;split at h
 ·exact⟨_,‹_›,h⟩
 ·exact h.elim
def zfg(P:Program)(t:TypeId):TK->Prop
 | .int k=>P.underlying t=some (.int k)
 | .bool=>P.underlying t=some .bool
 | .str=>P.underlying t=some .string
 | .ptr e=>P.underlying t=some (.pointer e)
 | .slice e=>P.underlying t=some (.slice e)
 | .struct fs=>∃F,P.underlying t=some (.struct F)/\F.toList.map (λf=>(f.offset,f.type))=fs/\∃pl,F.toList.mapM (λf=>(P.info? f.type).map λi=>(f.offset,i.size))=some pl
 | .arr n e=>P.underlying t=some (.array n e)
 | .map k e=>P.underlying t=some (.map k e)
 | .iface=>∃ms,P.underlying t=some (.interface ms)
 | .other=>∃d,P.underlying t=some d/\∀w:World,(isAgg t).run P w=.ok false w
structure zin (P:Program) (t:TypeId) (i:TI):Prop where
 inf:∃f,P.info? t=some f/\f.size=i.sz/\f.bytes=i.bytes/\∃z,f.zero=some z/\z.cells.toList=i.zero/\(i.kind.agg=false->z.cells=#[z])/\i.zero.length=i.sz/\
  ∀v∈i.zero,v.oneCell'=true
 kind:zfg P t i.kind
 zagg:i.kind.agg=true->∃f,P.info? t=some f/\f.zero=some (.agg i.zero.toArray)
 cmp:i.cmp=true->P.stoodInHeld t=false/\P.eqGuardType P.depth t=false/\∀f∈(P.fieldsOf t).toList,f.name≠ "_"
def TOK(P:Program)(Γ:List (TypeId×TI)):Prop:=∀t i,ti Γ t=some i->zin P t i
section types
variable {P:Program} {t:TypeId} {i:TI}
theorem zin.size(h:zin P t i)(w:World):(sizeOf t).run P w=.ok i.sz w:=by
 obtain⟨f,h1,h2,_⟩:=h.inf;simp[sizeOf,typeInfo,h1,h2]
theorem zin.agg(h:zin P t i)(w:World):(isAgg t).run P w=.ok i.kind.agg w:=by
 have hk:=h.kind
 cases hi:i.kind <;> rw[hi]at hk <;> simp only[zfg]at hk
 case struct fs=>obtain⟨F,hF,_⟩:=hk;simp[isAgg,run_underlying hF,TK.agg]
 case other=>obtain⟨d,hd,ha⟩:=hk;exact ha w
 case iface=>obtain⟨ms,hd⟩:=hk;simp[isAgg,run_underlying hd,TK.agg]
 all_goals simp[isAgg,run_underlying hk,TK.agg]
theorem zin.und(h:zin P t i):∃d,P.underlying t=some d:=by
 have hk:=h.kind
 cases hi:i.kind <;> rw[hi]at hk <;> simp only[zfg]at hk
 case struct fs=>exact⟨_,hk.choose_spec.1⟩
 case other=>obtain⟨d,hd,_⟩:=hk;exact⟨d,hd⟩
 case iface=>obtain⟨ms,hd⟩:=hk;exact⟨_,hd⟩
 all_goals exact⟨_,hk⟩
end types
section
variable{Keep:Nat->Prop}{ρ:zk}{ρ':zk}{w:World}{w':World}{m:Mem}
theorem j8.keep{W W':Nat->Prop}{k:Nat}(hs:Stp W W' ρ ρ' w w') (hk:ρ' k=ρ k)
  (hb:∀v b,ρ k=some v->qz v=some b->w'.heap[b]? =w.heap[b]?)
  (h:j8 (λb=>Keep b∨W b) W ρ w k m):j8 (λb=>Keep b∨W' b) W' ρ' w' k m:=by
 cases m with
 | box T cs=>
  obtain⟨b,vs,h1,h2,h3,h4,h5⟩:=h;exact⟨b,vs,hk.trans h1,(hb _ b h1 rfl).trans h2,h3,h4,λj s v hs' hv=>(h5 j s v hs' hv).stp hs⟩
 | arr T enc sz xs=>
  obtain⟨v,cells,h1,h2,h3,h4,h5,h6⟩:=h;refine⟨v,cells,hk.trans h1,⟨h2.1,?_⟩,h3,h4,h5,λi j x s hx hj=>?_⟩
  ·rcases h2.2 with h | ⟨g,cap,cur,rfl,h7,h8,h9⟩
   ·exact .inl h
   ·exact .inr ⟨g,cap,cur,rfl,h7,(hb _ g h1 rfl).trans h8,h9⟩
  ·obtain⟨u,hu,hd⟩:=h6 i j x s hx hj;exact⟨u,hu,hd.stp hs⟩
 | garr T sz xs=>
  obtain⟨v,cells,h1,h2,h3,h4,h5,h6⟩:=h;refine⟨v,cells,hk.trans h1,⟨h2.1,?_⟩,h3,h4,h5,λi j x s hx hj=>?_⟩
  ·rcases h2.2 with h | ⟨g,cap,cur,rfl,h7,h8,h9⟩
   ·exact .inl h
   ·exact .inr ⟨g,cap,cur,rfl,h7,(hb _ g h1 rfl).trans h8,h9⟩
  ·obtain⟨u,hu,hd⟩:=h6 i j x s hx hj;exact⟨u,hu,hd.stp hs⟩
 | map es=>
  obtain⟨r,ents,clock,h1,h2,h3,h4⟩:=h;refine⟨r,ents,clock,hk.trans h1,(hb _ r h1 rfl).trans h2,h3,λi n s hi=>?_⟩;obtain⟨e,g1,g2,g3⟩:=h4 i n s hi;exact⟨e,g1,g2,g3.stp hs⟩
variable{M:List (Nat×Mem)}{M':List (Nat×Mem)}
theorem zO.next(κ:Nat) (hm:zO Keep M ρ w)
  (hs:Stp (Own M ρ) (Own M' ρ') ρ ρ' w w') (hkeys:M'.Pairwise λa b=>a.1≠b.1)
  (hold:∀k m,(k,m)∈M'->k≠κ->(k,m)∈M/\ρ' k=ρ k/\∀v b,ρ k=some v->qz v=some b->w'.heap[b]? =w.heap[b]?)
  (hnew:∀m,(κ,m)∈M'->j8 (λb=>Keep b∨Own M' ρ' b) (Own M' ρ') ρ' w' κ m)
  (hap:∀m v b,(κ,m)∈M'->ρ' κ=some v->qz v=some b->
   (∀k m v',(k,m)∈M'->k≠κ->ρ k=some v'->qz v'≠some b)/\b < w'.heap.size/\¬Keep b):zO Keep M' ρ' w' where
 rel k m hkm:=by
  by_cases hk:k=κ
  ·subst hk;exact hnew m hkm
  ·obtain⟨h1,h2,h3⟩:=hold k m hkm hk;exact(hm.rel k m h1).keep hs h2 h3
 keys:=hkeys
 apart k m k' m' v v' b h1 h2 hne hv hv' hb hb':=by
  by_cases hk:k=κ
  ·subst hk;have hk':k'≠k:=Ne.symm hne;obtain⟨_,h3,_⟩:=hold k' m' h2 hk';exact(hap m v b h1 hv hb).1 k' m' v' h2 hk' (h3 ▸ hv') hb'
  ·by_cases hk':k'=κ
   ·subst hk';obtain⟨_,h3,_⟩:=hold k m h1 hk;exact(hap m' v' b h2 hv' hb').1 k m v h1 hk (h3 ▸ hv) hb
   ·obtain⟨h3,h4,_⟩:=hold k m h1 hk;obtain⟨h5,h6,_⟩:=hold k' m' h2 hk';exact hm.apart k m k' m' v v' b h3 h5 hne (h4 ▸ hv) (h6 ▸ hv') hb hb'
 old b hb:=by
  obtain⟨k,m,v,h1,h2,h3⟩:=hb
  by_cases hk:k=κ
  ·subst hk;exact(hap m v b h1 h2 h3).2
  ·obtain⟨h4,h5,_⟩:=hold k m h1 hk;have:=hm.old b ⟨k,m,v,h4,h5 ▸ h2,h3⟩;exact⟨Xr this.1 hs.size,this.2⟩
 kp b hb:=Xr (hm.kp b hb) hs.size
 gl:=hm.glS hs
theorem kD{k:Nat}(x:Nat×Mem)(h:x∈qn M k):x∈M:=by
 induction M with
 | nil=>exact h
 | cons y r ih=>
  obtain⟨k',m'⟩:=y;simp only[qn]at h
  split at h
  ·exact .tail _ h
  ·cases h with
   | head=>exact .head _
   | tail _ h=>exact .tail _ (ih h)
theorem yL{k:Nat}(hp:M.Pairwise λa b=>a.1≠b.1)(x:Nat×Mem)(h:x∈qn M k):x.1≠k:=by
 induction M with
 | nil=>cases h
 | cons y r ih=>
  obtain⟨k',m'⟩:=y;rw[X4]at hp;simp only[qn]at h
  split at h
  ·rename_i hb;have:=Xg hb;subst this;exact λe=>hp.1 x h e.symm
  ·rename_i hb
   cases h with
   | head=>exact KH hb
   | tail _ h=>exact ih hp.2 h
theorem qE{M:List (Nat×Mem)}{k:Nat}(hp:M.Pairwise λa b=>a.1≠b.1):(qn M k).Pairwise λa b=>a.1≠b.1:=by
 induction M with
 | nil=>exact hp
 | cons y r ih=>
  obtain⟨k',m'⟩:=y;rw[X4]at hp;simp only[qn]
  split
  ·exact hp.2
  ·rw[X4];exact⟨λx hx=>hp.1 x (kD x hx),ih hp.2⟩
theorem jQ{k:Nat}(hp:M.Pairwise λa b=>a.1≠b.1)(x:Nat×Mem)(h:x∈qM M k m):x.1≠k/\x∈M∨x=(k,m):=by
 induction M with
 | nil=>cases h
 | cons y r ih=>
  obtain⟨k',m'⟩:=y;rw[X4]at hp;simp only[qM]at h
  split at h
  ·rename_i hb;have:=Xg hb;subst this
   cases h with
   | head=>exact .inr rfl
   | tail _ h=>exact .inl ⟨λe=>hp.1 x h e.symm,.tail _ h⟩
  ·rename_i hb
   cases h with
   | head=>exact .inl ⟨KH hb,.head _⟩
   | tail _ h=>exact(ih hp.2 h).imp (λh=>⟨h.1,.tail _ h.2⟩) id
theorem zaI{k:Nat}:(qM M k m).map (·.1)=M.map (·.1):=by
 induction M with
 | nil=>rfl
 | cons y r ih=>
  obtain⟨k',m'⟩:=y;simp only[qM]
  split
  ·rename_i hb;have:=Xg hb;subst this;rfl
  ·simp[ih]
theorem yS(h:M'.map (·.1)=M.map (·.1))(hp:M.Pairwise λa b=>a.1≠b.1):M'.Pairwise λa b=>a.1≠b.1:=by
 have h1:(M.map (·.1)).Pairwise λa b=>a≠b:=List.pairwise_map.2 hp
 rw[← h]at h1;exact List.pairwise_map.1 h1
variable{b:Nat}
theorem zad(h:M'.map (·.1)=M.map (·.1))(ho:Own M ρ b):Own M' ρ b:=by
 obtain⟨k,m,v,h1,h2,h3⟩:=ho;have:k∈M'.map (·.1):=by rw[h];exact XO.2 ⟨_,h1,rfl⟩
 obtain⟨⟨k',m'⟩,hx,rfl⟩:=XO.1 this;exact⟨_,m',v,hx,h2,h3⟩
theorem zg4{k:Nat}(hp:M.Pairwise λa b=>a.1≠b.1)(h:∀m,(k,m)∉M):((k,m)::M).Pairwise λa b=>a.1≠b.1:=
 X4.2 ⟨λx hx e=>by obtain⟨k',m'⟩:=x;have e:k=k':=e;subst e;exact h m' hx,hp⟩
def upd(ρ:zk)(κ:Nat)(v:Value):zk:=λk=>if k=κ then some v else ρ k
variable{κ:Nat}
theorem kB{v:Value}:upd ρ κ v κ=some v:=by simp[upd]
theorem zct{k:Nat}{v:Value}(h:k≠κ):upd ρ κ v k=ρ k:=by simp[upd,h]
theorem zO.write(hm:zO Keep M ρ w) {k:Nat}(m':Mem) (hk:(k,m)∈M) {v:Value}
  (hv:ρ k=some v) (hb:qz v=some b) (cs:Array Value)
  (hrel:Stp (Own M ρ) (Own (qM M k m') ρ) ρ ρ w (w.setRow b cs)->j8 (λb=>Keep b∨Own (qM M k m') ρ b) (Own (qM M k m') ρ) ρ (w.setRow b cs) k m'):
  Stp (Own M ρ) (Own (qM M k m') ρ) ρ ρ w (w.setRow b cs)/\zO Keep (qM M k m') ρ (w.setRow b cs):=by
 have hkeys:(qM M k m').map (·.1)=M.map (·.1):=zaI
 have hs:Stp (Own M ρ) (Own (qM M k m') ρ) ρ ρ w (w.setRow b cs):=
  ⟨rfl,rfl,.setRow _ _ _,by simp,λb' _ hn=>setRow_other w b b' cs (λe=>hn ⟨k,m,v,hk,hv,e ▸ hb⟩),λb' hb'=>.inl (zad hkeys.symm hb'),λ_ _ h=>h⟩
 refine⟨hs,zO.next k hm hs (yS hkeys hm.keys) ?_ ?_ ?_⟩
 ·intro k' m1 h1 hne
  rcases jQ hm.keys _ h1 with⟨_,h2⟩ | h2
  ·refine⟨h2,rfl,λv' b' hv' hb'=>setRow_other w b b' cs (λe=>?_)⟩;subst e;exact hm.apart k' m1 k m v' v b' h2 hk hne hv' hv hb' hb
  ·cases h2;exact absurd rfl hne
 ·intro m1 h1
  rcases jQ hm.keys _ h1 with⟨h2,_⟩ | h2
  ·exact absurd rfl h2
  ·cases h2;exact hrel hs
 ·intro m1 v' b' _ hv' hb';rw[hv]at hv';cases hv'
  rw[hb]at hb';cases hb'
  refine⟨λk' m2 v2 h2 hne hv2 hb2=>?_,by simpa using (hm.old b ⟨k,m,v,hk,hv,hb⟩).1,(hm.old b ⟨k,m,v,hk,hv,hb⟩).2⟩
  rcases jQ hm.keys _ h2 with⟨_,h3⟩ | h3
  ·exact hm.apart k' m2 k m v2 v b h3 hk hne hv2 hv hb2 hb
  ·cases h3;exact absurd rfl hne
theorem zO.grow {Keep:Nat->Prop} {M M1:List (Nat×Mem)} {ρ:zk} {w:World} (hm:zO Keep M ρ w) (hsub:∀x∈M1,x∈M) (hpw:M1.Pairwise λa b=>a.1≠b.1)
  {κ:Nat} (hκ:ρ κ=none) (hκM:∀m,(κ,m)∉M) (v:Value) (m:Mem) (w':World) (hos:w'.os=w.os) (htape:w'.tape=w.tape) (hout:qc w w')
  (hsize:w.heap.size<=w'.heap.size) (hblock:∀b,b < w.heap.size->¬Own M ρ b->w'.heap[b]? =w.heap[b]?)
  (hkeep:∀k m v b,(k,m)∈M1->ρ k=some v->qz v=some b->w'.heap[b]? =w.heap[b]?)
  (hv:∀b,qz v=some b->(Own M ρ b∨w.heap.size<=b)/\b < w'.heap.size/\∀k m v',(k,m)∈M1->ρ k=some v'->qz v'≠some b)
  (hrel:Stp (Own M ρ) (Own ((κ,m)::M1) (upd ρ κ v)) ρ (upd ρ κ v) w w'->
   j8 (λb=>Keep b∨Own ((κ,m)::M1) (upd ρ κ v) b) (Own ((κ,m)::M1) (upd ρ κ v)) (upd ρ κ v) w' κ m):
  Stp (Own M ρ) (Own ((κ,m)::M1) (upd ρ κ v)) ρ (upd ρ κ v) w w'/\zO Keep ((κ,m)::M1) (upd ρ κ v) w':=by
 have hne:∀k m,(k,m)∈M1->k≠κ:=λk m h e=>by subst e;exact hκM m (hsub _ h)
 have hs:Stp (Own M ρ) (Own ((κ,m)::M1) (upd ρ κ v)) ρ (upd ρ κ v) w w':=by
  refine⟨hos,htape,hout,hsize,hblock,?_,?_⟩
  ·rintro b ⟨k,m',v',hk,hv',hb⟩
   cases hk with
   | head=>rw[kB]at hv';cases hv';exact(hv b hb).1
   | tail _ hk=>rw[zct (hne _ _ hk)]at hv';exact .inl ⟨k,m',v',hsub _ hk,hv',hb⟩
  ·intro k v' h;rw[zct (λe=>by subst e;rw[hκ]at h;cases h)];exact h
 refine⟨hs,zO.next κ hm hs (zg4 hpw λm h=>hκM m (hsub _ h)) ?_ ?_ ?_⟩
 ·intro k m' h hk
  cases h with
  | head=>exact absurd rfl hk
  | tail _ h=>exact⟨hsub _ h,zct hk,λv' b h1 h2=>hkeep k m' v' b h h1 h2⟩
 ·intro m' h
  cases h with
  | head=>exact hrel hs
  | tail _ h=>exact absurd rfl (hne _ _ h)
 ·intro m' v' b _ h1 h2;rw[kB]at h1;cases h1
  obtain⟨h3,h4,h5⟩:=hv b h2;refine⟨λk m1 v1 h6 h7 h8=>?_,h4,λhk=>?_⟩
  ·cases h6 with
   | head=>exact absurd rfl h7
   | tail _ h6=>exact h5 k m1 v1 h6 h8
  ·rcases h3 with h3 | h3
   ·exact(hm.old b h3).2 hk
   ·have:=hm.kp b hk;omega
theorem zO.let_go{Keep:Nat->Prop}{M M1:List (Nat×Mem)}{ρ:zk}{w:World}(hm:zO Keep M ρ w)(hsub:∀x∈M1,x∈M)(hpw:M1.Pairwise λa b=>a.1≠b.1):
  Stp (Own M ρ) (Own M1 ρ) ρ ρ w w/\zO Keep M1 ρ w:=by
 have hs:Stp (Own M ρ) (Own M1 ρ) ρ ρ w w:=
  ⟨rfl,rfl,.refl _,Xh _,λ_ _ _=>rfl,λb ⟨k,m,v,h1,h2,h3⟩=>.inl ⟨k,m,v,hsub _ h1,h2,h3⟩,λ_ _ h=>h⟩
 exact⟨hs,λk m h=>(hm.rel k m (hsub _ h)).keep hs rfl (λ_ _ _ _=>rfl),hpw,
  λk m k' m' v v' b h1 h2=>hm.apart k m k' m' v v' b (hsub _ h1) (hsub _ h2),λb ⟨k,m,v,h1,h2,h3⟩=>hm.old b ⟨k,m,v,hsub _ h1,h2,h3⟩,hm.kp,hm.glS hs⟩
variable{k':IntKind}
theorem zfN{k:IntKind}(h:zq8 k k'=true):k=k':=by cases k <;> cases k' <;> first | rfl | (simp[zq8]at h)
def InK(k:IntKind)(e:Int):Prop:=
 match k with
 | .i64=> -9223372036854775808<=e/\e<=9223372036854775807
 | .i32=> -2147483648<=e/\e<=2147483647
 | .i16=> -32768<=e/\e<=32767
 | .i8=> -128<=e/\e<=127
 | .u64=>0<=e/\e<=18446744073709551615
 | .u32=>0<=e/\e<=4294967295
 | .u16=>0<=e/\e<=65535
 | .u8=>0<=e/\e<=255
variable{e:Int}
theorem zoD{k:IntKind}(h:InK k e):k.wrap e=e:=by
 cases k <;> simp only[InK]at h <;> simp[IntKind.wrap,IntKind.bits,IntKind.signed] <;> (try split) <;> omega
variable{K:SV->Prop}
theorem vi{k:IntKind}(h:zle k e K):K (.val (.int k (k.wrap e))):=by
 cases k <;> simp only[zle]at h <;> cases h with
 | fit h1 h2=>rw[zoD (by exact h1)];exact h2
 | wrap h=>exact h
def j9(s:SV)(v:Value):Prop:=(∃u,s=.val u/\v=u)∨∃p i,s=.pr p i/\v=.bool (@decide p i)
theorem j9.g{s:SV}{v:Value}(h:j9 s v){S Pm:Nat->Prop}:G S Pm ρ w s v:=by
 rcases h with⟨u,rfl,rfl⟩ | ⟨p,i,rfl,rfl⟩
 ·exact .d _ _ (.val _)
 ·exact .d _ _ (.pr p i)
theorem j9.val(v:Value):j9 (.val v) v:=.inl ⟨v,rfl,rfl⟩
theorem j9.pr{p:Prop}{i:Decidable p}{b:Bool}(h:b=@decide p i):j9 (.pr p i) (.bool b):=.inr ⟨p,i,rfl,by rw[h]⟩
theorem zzo{k:IntKind}(h0:0<=e)(h1:e<=kmax k):InK k e:=by cases k <;> simp only[kmax,InK] at*<;> omega
theorem zrj{op:BinOp}{k:IntKind}{m n:Int}(hs:zsu op=false)(h:intV op k m n K):
  ∃s,K s/\∃v,j9 s v/\∀(P:Program) (t:TypeId) (w:World),(binOp op t (.int k m) (.int k n)).run P w=.ok v w:=by
 cases op <;> simp only[intV]at h <;> try (exact h.elim)
 case add=>exact⟨_,vi h,_,.val _,λP t w=>by simp[binOp,Op.intArith]⟩
 case sub=>exact⟨_,vi h,_,.val _,λP t w=>by simp[binOp,Op.intArith]⟩
 case mul=>exact⟨_,vi h,_,.val _,λP t w=>by simp[binOp,Op.intArith]⟩
 case quo=>
  cases h with
  | pos h1 h2=>
   refine⟨_,h2,_,.val _,λP t w=>?_⟩;have h3:n≠0:=oM;have h4:m.tdiv n=m / n:=Int.tdiv_eq_ediv_of_nonneg h1.1;have h5:0<=m / n:=Int.ediv_nonneg h1.1 oM;have h6:m / n<=m:=Int.ediv_le_self n h1.1;simp[binOp,Op.intDiv,h3,h4,zoD (zzo h5 (Yx h6 h1.2.2))]
  | any h1 h2=>exact⟨_,vi h2,_,.val _,λP t w=>by simp[binOp,Op.intDiv,h1]⟩
 case rem=>
  cases h with
  | pos h1 h2=>
   refine⟨_,h2,_,.val _,λP t w=>?_⟩;have h3:n≠0:=oM;have h4:m.tmod n=m % n:=Int.tmod_eq_emod_of_nonneg h1.1;simp[binOp,Op.intDiv,h3,h4]
  | any h1 h2=>exact⟨_,h2,_,.val _,λP t w=>by simp[binOp,Op.intDiv,h1]⟩
 case eql=>exact⟨_,h,.bool (m==n),.pr (by rw[Qj];simp),λP t w=>by simp[binOp,Op.intCmp]⟩
 case neq=>exact⟨_,h,.bool (m != n),.pr (by rw[Qj];simp),λP t w=>by simp[binOp,Op.intCmp]⟩
 case lss=>exact⟨_,h,.bool (decide (m < n)),.pr rfl,λP t w=>by simp[binOp,Op.intCmp]⟩
 case leq=>exact⟨_,h,.bool (decide (m<=n)),.pr rfl,λP t w=>by simp[binOp,Op.intCmp]⟩
 case gtr=>exact⟨_,h,.bool (decide (m > n)),.pr rfl,λP t w=>by simp[binOp,Op.intCmp]⟩
 case geq=>exact⟨_,h,.bool (decide (m≥n)),.pr rfl,λP t w=>by simp[binOp,Op.intCmp]⟩
 case and=>
  obtain⟨r,hr,h⟩:=h;refine⟨_,h,.int k r,.val _,λP t w=>?_⟩;rw[hr];simp[binOp,Op.intBits,zaA]
 case or=>
  obtain⟨r,hr,h⟩:=h;refine⟨_,h,.int k r,.val _,λP t w=>?_⟩;rw[hr];simp[binOp,Op.intBits,zaA]
 case xor=>
  obtain⟨r,hr,h⟩:=h;refine⟨_,h,.int k r,.val _,λP t w=>?_⟩;rw[hr];simp[binOp,Op.intBits,zaA]
 case andNot=>
  obtain⟨r,hr,h⟩:=h;refine⟨_,h,.int k r,.val _,λP t w=>?_⟩;rw[hr];simp[binOp,Op.intBits,zaA]
theorem zwi(m:Int)(c:Nat):m.fdiv (2 ^ c)=m / 2 ^ c:=Int.fdiv_eq_ediv_of_nonneg m (Int.pow_nonneg oM)
theorem znc{op:BinOp}{y:Operand}{k:IntKind}{m n:Int}(h:zq9 op y k m n K):
  ∃s,K s/\∃v,j9 s v/\∀(P:Program) (t:TypeId) (w:World),(binOp op t (.int k m) (.int k' n)).run P w=.ok v w:=by
 unfold zq9 at h
 split at h
 ·split at h
  ·rename_i c;have hc:min c k.bits=c:=by have:=h.ob;omega
   refine⟨_,vi h.go,_,.val _,λP t w=>?_⟩;simp[binOp,Op.shift,hc];intro hn;omega
  ·exact h.elim
 ·obtain⟨h0,h1⟩:=h.ob;have hc:min n.toNat k.bits=n.toNat:=oM;refine⟨_,vi h.go,_,.val _,λP t w=>?_⟩;simp[binOp,Op.shift,hc,show ¬n < 0 by omega]
 ·split at h
  ·rename_i c;have hc:min c k.bits=c:=by have:=h.ob;omega
   refine⟨_,h.go,_,.val _,λP t w=>?_⟩;simp[binOp,Op.shift,hc,zwi];intro hn;omega
  ·exact h.elim
 ·obtain⟨h0,h1⟩:=h.ob;have hc:min n.toNat k.bits=n.toNat:=oM;refine⟨_,h.go,_,.val _,λP t w=>?_⟩;simp[binOp,Op.shift,hc,show ¬n < 0 by omega,zwi]
 ·exact h.elim
def eqB:List Value->List Value->Bool
 | .int _ m::r,.int _ n::r'=>(m==n)&&eqB r r'
 | [],[]=>true
 | _,_=>false
inductive ub:List Value->List Value->Prop
 | nil:ub [] []
 | cons (k:IntKind) (m n:Int) {r r':List Value} (h:ub r r'):ub (.int k m::r) (.int k n::r')
theorem zfO{cs ds:List SV}:∀{K:(p:Prop)->Decidable p->Prop},zfK cs ds K->∃p i,K p i/\
  ∀{S Pm:Nat->Prop} {ρ:zk} {w:World} {vs us:List Value},Gs S Pm ρ w cs vs->Gs S Pm ρ w ds us->ub vs us/\eqB vs us=@decide p i:=by
 induction cs generalizing ds with
 | nil=>
  intro K h
  cases ds with
  | nil=>exact⟨True,_,h,λh1 h2=>by rw[h1.nil_inv,h2.nil_inv];exact⟨.nil,rfl⟩⟩
  | cons d ds=>exact h.elim
 | cons c cs ih=>
  intro K h
  cases ds with
  | nil=>exact h.elim
  | cons d ds=>
   simp only[zfK]at h;have h:=qJ (qJ h)
   split at h
   ·rename_i k m k' n;obtain⟨hk,h'⟩:=zi h;obtain⟨p,i,hK,hp⟩:=ih h';have hk:=zfN hk;refine⟨_,_,hK,λh1 h2=>?_⟩;obtain⟨v,vs,rfl,h3,h4⟩:=h1.cons_inv;obtain⟨u,us,rfl,h5,h6⟩:=h2.cons_inv;subst hk;rw[h3.val_inv,h5.val_inv];obtain⟨h7,h8⟩:=hp h4 h6;refine⟨.cons _ _ _ h7,?_⟩;simp only[eqB,h8];rw[Qj];simp
   ·exact h.elim
theorem ub.length{vs us:List Value}(h:ub vs us):vs.length=us.length:=by induction h <;> simp_all
theorem ub.drop{vs us:List Value}(n:Nat)(h:ub vs us):ub (vs.drop n) (us.drop n):=by
 induction n generalizing vs us with
 | zero=>exact h
 | succ n ih=>cases h with
  | nil=>exact .nil
  | cons k m n h=>exact ih h
theorem ub.take{vs us:List Value}(n:Nat)(h:ub vs us):ub (vs.take n) (us.take n):=by
 induction n generalizing vs us with
 | zero=>exact .nil
 | succ n ih=>cases h with
  | nil=>exact .nil
  | cons k m n h=>exact .cons _ _ _ (ih h)
theorem zlC{vs us:List Value}(n:Nat)(h:ub vs us):eqB vs us=(eqB (vs.take n) (us.take n)&&eqB (vs.drop n) (us.drop n)):=by
 induction n generalizing vs us with
 | zero=>simp[eqB]
 | succ n ih=>cases h with
  | nil=>rfl
  | cons k m n h=>simp[eqB,ih h,Bool.and_assoc]
def zdp(agg:Bool)(vs:List Value):Value:=if agg then .agg vs.toArray else vs.headD undef
theorem zbR{P:Program}{t:TypeId}{i:TI}(hT:zin P t i)(vs:List Value)(off:Nat)(h:off+i.sz<=vs.length)(hz:i.kind.agg=false->i.sz=1)(w:World):
  (part t vs.toArray off).run P w=.ok (zdp i.kind.agg ((vs.drop off).take i.sz)) w:=by
 unfold part;rw[Sem.run_bind,hT.agg w,Result.andThen_ok]
 cases hk:i.kind.agg with
 | true=>simp[hT.size,zdp]
 | false=>
  have h1:=hz hk;have hlt:off < vs.length:=oM;have h2:(List.take 1 (List.drop off vs))=[vs[off]]:=by rw[KG hlt];rfl
  simp[zdp,h1,hlt,h2]
theorem zoE {P:Program} {Γ:List (TypeId×TI)} (hT:TOK P Γ) (n:Nat)
  (ih:∀t i,ti Γ t=some i->zfL Γ n t=true->(i.kind.agg=false->i.sz=1)/\∀(d:Nat) (vs us:List Value) (w:World),vs.length=i.sz->ub vs us->
   (Op.equalIn (n+d) t (zdp i.kind.agg vs) (zdp i.kind.agg us)).run P w=.ok (eqB vs us) w) (d sz:Nat) (vs us:List Value) (hl:vs.length=sz) (hp:ub vs us) (w:World):
  ∀(F:List Field) (at_:Nat),ziX Γ (zfL Γ n) (F.map λf=>(f.offset,f.type)) at_ sz=true->(∀f∈F,f.name≠ "_")->
   at_<=sz/\(Op.eqFields (n+d) vs.toArray us.toArray F).run P w=.ok (eqB (vs.drop at_) (us.drop at_)) w
 | [],at_,h,_=>by
  simp only[List.map_nil,ziX]at h;have h:=Xg h;subst h;have hlu:=hp.length;simp[Op.eqFields,Jh (Nat.le_of_eq hl),Jh (Nat.le_of_eq (hlu ▸ hl)),eqB]
 | f::F,at_,h,hn=>by
  simp only[Q1,ziX]at h
  split at h
  ·rename_i j hj;obtain⟨h1,h⟩:=ky h;obtain⟨h2,h3⟩:=ky h;have h1:=Xg h1;obtain⟨hz,he⟩:=ih _ _ hj h2;obtain⟨h4,h5⟩:=zoE hT n ih d sz vs us hl hp w F (at_+j.sz) h3 (λf hf=>hn f (.tail _ hf));have hlu:=hp.length;have p1:=zbR (hT _ _ hj) vs f.offset oM hz w;have p2:=zbR (hT _ _ hj) us f.offset oM hz w;have he':=he d ((vs.drop f.offset).take j.sz) ((us.drop f.offset).take j.sz) w (by simp;omega) ((hp.drop _).take _);refine⟨oM,?_⟩;have hs:=zlC j.sz (hp.drop f.offset)
   simp only[Op.eqFields,hn f (.head _),ne_eq,not_false_eq_true,if_true,Sem.run_bind,p1,p2,Result.andThen_ok,he'];rw[← h1,hs]
   cases hb:eqB ((vs.drop f.offset).take j.sz) ((us.drop f.offset).take j.sz) with
   | true=>simp[h5,h1,JJ]
   | false=>simp
  ·cases h
theorem zdq{P:Program}{Γ:List (TypeId×TI)}(hT:TOK P Γ):∀(n:Nat) (t:TypeId) (i:TI),ti Γ t=some i->zfL Γ n t=true->
  (i.kind.agg=false->i.sz=1)/\∀(d:Nat) (vs us:List Value) (w:World),vs.length=i.sz->ub vs us->
   (Op.equalIn (n+d) t (zdp i.kind.agg vs) (zdp i.kind.agg us)).run P w=.ok (eqB vs us) w
 | 0,t,i,hi,h=>by simp[zfL]at h
 | n+1,t,i,hi,h=>by
  unfold zfL at h;rw[hi]at h;simp only at h;have hK:=(hT t i hi).kind
  split at h
  ·rename_i k hk;rw[hk]at hK;have hz:=Xg h;refine⟨λ_=>hz,λd vs us w hl hp=>?_⟩;rw[hz]at hl
   cases hp with
   | nil=>simp at hl
   | cons k' m m' h=>
    cases h with
    | nil=>
     rw[show n+1+d=(n+d)+1 by omega];simp only[hk,TK.agg,zdp,KA,if_false,List.headD_cons,run_equalIn_int w _ t k' k m _ hK,eqB,Bool.and_true]
    | cons=>simp at hl
  ·rename_i fs hk;obtain⟨hc,hg⟩:=ky h;rw[hk]at hK;obtain⟨F,hF,hmap,_⟩:=hK;obtain⟨h1,h2,h3⟩:=(hT t i hi).cmp hc;have hfo:P.fieldsOf t=F:=by simp[Program.fieldsOf,hF]
   refine⟨λh=>(by rw[hk]at h;cases h),λd vs us w hl hp=>?_⟩;rw[show n+1+d=(n+d)+1 by omega];rw[← hmap]at hg;have:=(zoE hT n (zdq hT n) d i.sz vs us hl hp w F.toList 0 hg (by rw[← hfo];exact h3)).2;simp only[hk,TK.agg,zdp,if_true];rw[run_equalIn_struct w (n+d) t _ _ (by rw[hfo];exact hF) h1,hfo]
   simpa using this
  ·rename_i len e hk;obtain⟨hc,g1⟩:=ky h;obtain⟨hlen,g2⟩:=ky g1;obtain⟨hisz,g3⟩:=ky g2;have hlen:=Xg hlen;have hisz:=Xg hisz;subst hlen;clear h g1 g2
   cases hj:ti Γ e with
   | some j=>
    rw[hj]at g3;obtain⟨hjz,hje⟩:=ky g3;have hjz:=Xg hjz;rw[hk]at hK;have hK:P.underlying t=some (.array 2 e):=hK;obtain⟨hz,he⟩:=zdq hT n e j hj hje;refine⟨λh=>(by rw[hk]at h;cases h),λd vs us w hl hp=>?_⟩;rw[show n+1+d=(n+d)+1 by omega];simp only[hk,TK.agg,zdp,if_true];obtain⟨f,hf,hfs,_⟩:=(hT e j hj).inf;rw[run_equalIn_array w (n+d) _ _ hK hf];have hco:P.cellsOf e=1:=by unfold Program.cellsOf;rw[hf];simp[hfs,hjz]
    have hlu:=hp.length;have p1:=zbR (hT e j hj) vs 0 oM hz w;have p2:=zbR (hT e j hj) us 0 oM hz w;have p3:=zbR (hT e j hj) vs 1 oM hz w;have p4:=zbR (hT e j hj) us 1 oM hz w;have e1:=he d ((vs.drop 0).take j.sz) ((us.drop 0).take j.sz) w (by simp;omega) ((hp.drop 0).take _);have e2:=he d ((vs.drop 1).take j.sz) ((us.drop 1).take j.sz) w (by simp;omega) ((hp.drop 1).take _);have hs:=zlC 1 hp;have t1:(vs.drop 1).take j.sz=vs.drop 1:=Xf (by simp;omega);have t2:(us.drop 1).take j.sz=us.drop 1:=Xf (by simp;omega)
    rw[t1,t2]at e2;rw[hjz]at e1;rw[t1]at p3;rw[t2]at p4;rw[hjz]at p1 p2;rw[hs,hco];have hr2:List.range 2=[0,1]:=rfl;rw[hr2];simp only[Op.eqItems,Sem.run_bind,QS,Ys,p1,p2,p3,p4,Result.andThen_ok,e1,e2];simp only[KT]
    cases hb:eqB (vs.take 1) (us.take 1) with
    | true=>
     rw[hb] at*
     cases hb2:eqB (vs.drop 1) (us.drop 1) with
     | true=>rw[hb2,JW,JW]at e2;simp[p3,p4,e2]
     | false=>rw[hb2,JW,JW]at e2;simp[p3,p4,e2]
    | false=>simp
   | none=>rw[hj]at g3;cases g3
  ·cases h
theorem zea{s:SV}{K:(p:Prop)->Decidable p->Prop}(h:zue s K):∃p i,K p i/\∀{S Pm:Nat->Prop} {ρ:zk} {w:World} {v:Value},G S Pm ρ w s v->v=.bool (@decide p i):=by
 unfold zue at h
 split at h
 ·exact⟨_,_,h,λhg=>hg.pr_inv⟩
 ·exact⟨_,_,h,λhg=>by rw[hg.val_inv];rfl⟩
 ·exact⟨_,_,h,λhg=>by rw[hg.val_inv];rfl⟩
 ·exact h.elim
end
section
variable {P:Program} {op:Op} {svs:List SV} {lm:Nat->Option Mem} {κ:Nat}
theorem yK.pure {s:SV} (h:∀(o:Oper),o.op=op->∀(S Pm:Nat->Prop) (ρ:zk) (a:Act) (w:World),Gs S Pm ρ w svs ((qf op).map a.eval)->
  ∃v,(execOp a.eval o).run P w=.ok (.value v) w/\G S Pm ρ w s v):yK P op svs lm κ s .none:=by
 intro o ho Keep M ρ a w _ hm _ _ hg;obtain⟨v,h1,h2⟩:=h o ho _ _ ρ a w hg;exact qH.value h1 (k8.same hm h2)
theorem yK.read {s:SV} (h:∀(o:Oper),o.op=op->∀(Keep:Nat->Prop) (M:List (Nat×Mem)) (ρ:zk) (a:Act) (w:World),(∀k m,lm k=some m->(k,m)∈M)->zO Keep M ρ w->
  Gs (λb=>Keep b∨Own M ρ b) (Own M ρ) ρ w svs ((qf op).map a.eval)->
  ∃v,(execOp a.eval o).run P w=.ok (.value v) w/\G (λb=>Keep b∨Own M ρ b) (Own M ρ) ρ w s v):yK P op svs lm κ s .none:=by
 intro o ho Keep M ρ a w hlm hm _ _ hg;obtain⟨v,h1,h2⟩:=h o ho Keep M ρ a w (λk m h=>zA (hlm k m h)) hm hg;exact qH.value h1 (k8.same hm h2)
end
section
variable{P:Program}{w:World}{e:TypeId}
theorem zae{t:TypeId}{p:Option Addr}(h:P.underlying t=some (.pointer e)):(Op.equal t (.pointer p) (.pointer none)).run P w=.ok p.isNone w:=by
 have key:∀d,(Op.equalIn (d+1) t (.pointer p) (.pointer none)).run P w=.ok p.isNone w:=λd=>by
  cases p <;> simp[Op.equalIn,run_underlying h]
 exact key 9999
variable{ms:Array (String×TypeId)}
theorem zeb{t u:TypeId}{v:Value}(h:P.underlying t=some (.interface ms)):(Op.equal t (.iface u v) .nilIface).run P w=.ok false w:=by
 have key:∀d,(Op.equalIn (d+1) t (.iface u v) .nilIface).run P w=.ok false w:=λd=>by simp[Op.equalIn,run_underlying h]
 exact key 9999
theorem zcu{t:TypeId}(h:P.underlying t=some (.interface ms)):(Op.equal t .nilIface .nilIface).run P w=.ok true w:=by
 have key:∀d,(Op.equalIn (d+1) t .nilIface .nilIface).run P w=.ok true w:=λd=>by simp[Op.equalIn,run_underlying h]
 exact key 9999
variable{Γ:List (TypeId×TI)}{x:Operand}{a:SV}{lm:Nat->Option Mem}{κ:Nat}
theorem zui(hT:TOK P Γ) {op:BinOp} {t yt:TypeId}{y:Operand}{b:SV}{K:SV->Prop}
  (h:bin Γ op t y a b K):∃s,K s/\yK P (.binOp op t x y yt) [a,b] lm κ s .none:=by
 unfold bin at h
 split at h
 ·rename_i k m k' n
  have h2:∃s,K s/\∃v,j9 s v/\∀(P:Program) (t:TypeId) (w:World),(binOp op t (.int k m) (.int k' n)).run P w=.ok v w:=by
   split at h
   ·exact znc h
   ·rename_i hs;obtain⟨hk,h'⟩:=zi h;have:=zfN hk;subst this;exact zrj hs h'
  obtain⟨s,hK,v,hg,hr⟩:=h2;refine⟨s,hK,.pure λo ho S Pm ρ a w hgs=>⟨v,?_,hg.g⟩⟩;have hx:=(Gs.head hgs).val_inv;have hy:=(Gs.head (Gs.tail hgs)).val_inv;simp[execOp,ho,hx,hy,eqGuard_at_int,hr]
 ·rename_i cs ds;obtain⟨i,hi,h⟩:=zt h;obtain⟨hagg,h⟩:=zi h;obtain⟨hlen,h⟩:=zi h;obtain⟨hint,h⟩:=zi h;have hlen:=Xg hlen;have hsound:=(zdq hT 8 t i hi hint).2
  have hcmp:i.cmp=true:=by
   unfold zfL at hint;rw[hi]at hint;simp only at hint
   split at hint
   ·rename_i hk;rw[hk]at hagg;cases hagg
   ·exact(ky hint).1
   ·exact(ky hint).1
   ·cases hint
  have hguard:=((hT t i hi).cmp hcmp).2.1
  have run:∀(cs ds:List Value) (w:World),cs.length=i.sz->ub cs ds->(Op.equalIn 10000 t (.agg cs.toArray) (.agg ds.toArray)).run P w=.ok (eqB cs ds) w:=by
   intro cs ds w h1 h2;have:=hsound 9992 cs ds w h1 h2
   simpa[zdp,hagg] using this
  split at h
  ·obtain⟨p,ip,hK,hp⟩:=zfO h;refine⟨_,hK,.pure λo ho S Pm ρ a w hgs=>?_⟩;obtain⟨vs,hx,hvs⟩:=(Gs.head hgs).agg_inv;obtain⟨us,hy,hus⟩:=(Gs.head (Gs.tail hgs)).agg_inv;obtain⟨h1,h2⟩:=hp hvs hus;refine⟨.bool (eqB vs us),?_,(j9.pr h2).g⟩;simp only[execOp,ho,hx,hy,Sem.run_bind,run_eqGuard_agg w _ t x y _ _ hguard,Result.andThen_ok,run_eql_struct,run vs us w (by rw[hvs.1,hlen]) h1,Sem.run_pure]
  ·obtain⟨p,ip,hK,hp⟩:=zfO h;refine⟨_,hK,.pure λo ho S Pm ρ a w hgs=>?_⟩;obtain⟨vs,hx,hvs⟩:=(Gs.head hgs).agg_inv;obtain⟨us,hy,hus⟩:=(Gs.head (Gs.tail hgs)).agg_inv;obtain⟨h1,h2⟩:=hp hvs hus;refine⟨.bool (!eqB vs us),?_,(j9.pr (by rw[h2];rw[Qj];simp)).g⟩;simp only[execOp,ho,hx,hy,Sem.run_bind,run_eqGuard_agg w _ t x y _ _ hguard,Result.andThen_ok,run_neq_struct,run vs us w (by rw[hvs.1,hlen]) h1,Sem.run_pure]
  ·exact h.elim
 ·rename_i α enc xs;replace h:=zt h;obtain⟨i,hi,h⟩:=h;have hk:=(hT t i hi).kind
  have key:∀{S Pm:Nat->Prop} {ρ:zk} {w:World} {v:Value},G S Pm ρ w (.sl enc xs) v->∃a c,v=.slice a xs.length c/\(xs.length≠0->a.isNone=false):=λhg=>by
   rcases hg.sl_inv.sl_inv with⟨rfl,a,rfl⟩ | ⟨_,b,o,cap,_,rfl,_⟩
   ·exact⟨a,0,rfl,λh=>absurd rfl h⟩
   ·exact⟨_,cap,rfl,λ_=>rfl⟩
  have hguard:∀(w:World) (a b:Value),(∃x y z,a=.slice x y z)->(eqGuard op t x y a b).run P w=.ok () w:=λw a b ⟨x,y,z,e⟩=>by subst e;simp[eqGuard]
  unfold zv0 at h
  split at h
  ·rename_i e hkind;rw[hkind]at hk;have hk:P.underlying t=some (.slice e):=hk
   rcases h with⟨hn,h⟩ | h
   ·refine⟨_,h,.pure λo ho S Pm ρ a w hgs=>?_⟩;obtain⟨ad,c,hx,hz⟩:=key (Gs.head hgs);have hy:=(Gs.head (Gs.tail hgs)).val_inv;refine⟨.bool false,?_,(j9.val _).g⟩;simp[execOp,ho,hx,hy,hguard,binOp,run_equal_slice_nil w t e ad _ c hk,hz hn]
   ·refine⟨_,h,.pure λo ho S Pm ρ a w hgs=>?_⟩;obtain⟨ad,c,hx,hz⟩:=key (Gs.head hgs);have hy:=(Gs.head (Gs.tail hgs)).val_inv;refine⟨.bool ad.isNone,?_,.d _ _ (.anyb _)⟩;simp[execOp,ho,hx,hy,hguard,binOp,run_equal_slice_nil w t e ad _ c hk]
  ·rename_i e hkind;rw[hkind]at hk;have hk:P.underlying t=some (.slice e):=hk
   rcases h with⟨hn,h⟩ | h
   ·refine⟨_,h,.pure λo ho S Pm ρ a w hgs=>?_⟩;obtain⟨ad,c,hx,hz⟩:=key (Gs.head hgs);have hy:=(Gs.head (Gs.tail hgs)).val_inv;refine⟨.bool true,?_,(j9.val _).g⟩;simp[execOp,ho,hx,hy,hguard,binOp,run_equal_slice_nil w t e ad _ c hk,hz hn]
   ·refine⟨_,h,.pure λo ho S Pm ρ a w hgs=>?_⟩;obtain⟨ad,c,hx,hz⟩:=key (Gs.head hgs);have hy:=(Gs.head (Gs.tail hgs)).val_inv;refine⟨.bool (!ad.isNone),?_,.d _ _ (.anyb _)⟩;simp[execOp,ho,hx,hy,hguard,binOp,run_equal_slice_nil w t e ad _ c hk]
  ·exact h.elim
 ·replace h:=zt h;obtain⟨i,hi,h⟩:=h;have hk:=(hT t i hi).kind;have hguard:∀(w:World) (a b:Value),(∃x y z,a=.slice x y z)->(eqGuard op t x y a b).run P w=.ok () w:=λw a b ⟨x,y,z,e⟩=>by subst e;simp[eqGuard]
  split at h
  ·rename_i e hkind;rw[hkind]at hk;have hk:P.underlying t=some (.slice e):=hk;refine⟨_,h,.pure λo ho S Pm ρ a w hgs=>?_⟩;have hx:=(Gs.head hgs).val_inv;have hy:=(Gs.head (Gs.tail hgs)).val_inv;refine⟨.bool true,?_,(j9.val _).g⟩;simp[execOp,ho,hx,hy,hguard,binOp,run_equal_slice_nil w t e none 0 0 hk]
  ·rename_i e hkind;rw[hkind]at hk;have hk:P.underlying t=some (.slice e):=hk;refine⟨_,h,.pure λo ho S Pm ρ a w hgs=>?_⟩;have hx:=(Gs.head hgs).val_inv;have hy:=(Gs.head (Gs.tail hgs)).val_inv;refine⟨.bool false,?_,(j9.val _).g⟩;simp[execOp,ho,hx,hy,hguard,binOp,run_equal_slice_nil w t e none 0 0 hk]
  ·exact h.elim
 ·replace h:=zt h;obtain⟨i,hi,h⟩:=h;have hk:=(hT t i hi).kind
  split at h
  ·rename_i e hkind;rw[hkind]at hk;have hk:P.underlying t=some (.pointer e):=hk;unfold uX at h
   split at h
   ·refine⟨_,h,.pure λo ho S Pm ρ a w hgs=>?_⟩;obtain⟨b,o',c,hx,_⟩:=(Gs.head hgs).dptr_inv;have hy:=(Gs.head (Gs.tail hgs)).val_inv;exact⟨.bool false,by simp[execOp,ho,hx,hy,eqGuard,binOp,zae hk],(j9.val _).g⟩
   ·refine⟨_,h,.pure λo ho S Pm ρ a w hgs=>?_⟩;obtain⟨b,o',c,hx,_⟩:=(Gs.head hgs).dptr_inv;have hy:=(Gs.head (Gs.tail hgs)).val_inv;exact⟨.bool true,by simp[execOp,ho,hx,hy,eqGuard,binOp,zae hk],(j9.val _).g⟩
   ·exact h.elim
  ·exact h.elim
 ·replace h:=zt h;obtain⟨i,hi,h⟩:=h;have hk:=(hT t i hi).kind
  split at h
  ·rename_i e hkind;rw[hkind]at hk;have hk:P.underlying t=some (.pointer e):=hk;unfold uX at h
   split at h
   ·refine⟨_,h,.pure λo ho S Pm ρ a w hgs=>?_⟩;obtain⟨b,o',c,hx,_⟩:=(Gs.head hgs).ptr_inv;have hy:=(Gs.head (Gs.tail hgs)).val_inv;exact⟨.bool false,by simp[execOp,ho,hx,hy,eqGuard,binOp,zae hk],(j9.val _).g⟩
   ·refine⟨_,h,.pure λo ho S Pm ρ a w hgs=>?_⟩;obtain⟨b,o',c,hx,_⟩:=(Gs.head hgs).ptr_inv;have hy:=(Gs.head (Gs.tail hgs)).val_inv;exact⟨.bool true,by simp[execOp,ho,hx,hy,eqGuard,binOp,zae hk],(j9.val _).g⟩
   ·exact h.elim
  ·exact h.elim
 ·replace h:=zt h;obtain⟨i,hi,h⟩:=h;have hk:=(hT t i hi).kind
  split at h
  ·rename_i e hkind;rw[hkind]at hk;have hk:P.underlying t=some (.pointer e):=hk;unfold uX at h
   split at h
   ·refine⟨_,h,.pure λo ho S Pm ρ a w hgs=>?_⟩;obtain⟨b,_,hx⟩:=(Gs.head hgs).loc_inv;have hy:=(Gs.head (Gs.tail hgs)).val_inv;exact⟨.bool false,by simp[execOp,ho,hx,hy,eqGuard,binOp,zae hk],(j9.val _).g⟩
   ·refine⟨_,h,.pure λo ho S Pm ρ a w hgs=>?_⟩;obtain⟨b,_,hx⟩:=(Gs.head hgs).loc_inv;have hy:=(Gs.head (Gs.tail hgs)).val_inv;exact⟨.bool true,by simp[execOp,ho,hx,hy,eqGuard,binOp,zae hk],(j9.val _).g⟩
   ·exact h.elim
  ·exact h.elim
 ·replace h:=zt h;obtain⟨i,hi,h⟩:=h;have hk:=(hT t i hi).kind
  split at h
  ·rename_i e hkind;rw[hkind]at hk;have hk:P.underlying t=some (.pointer e):=hk;unfold uX at h
   split at h
   ·refine⟨_,h,.pure λo ho S Pm ρ a w hgs=>?_⟩;have hx:=(Gs.head hgs).val_inv;have hy:=(Gs.head (Gs.tail hgs)).val_inv;exact⟨.bool true,by simp[execOp,ho,hx,hy,eqGuard,binOp,zae hk],(j9.val _).g⟩
   ·refine⟨_,h,.pure λo ho S Pm ρ a w hgs=>?_⟩;have hx:=(Gs.head hgs).val_inv;have hy:=(Gs.head (Gs.tail hgs)).val_inv;exact⟨.bool false,by simp[execOp,ho,hx,hy,eqGuard,binOp,zae hk],(j9.val _).g⟩
   ·exact h.elim
  ·exact h.elim
 ·replace h:=zt h;obtain⟨i,hi,h⟩:=h;have hk:=(hT t i hi).kind
  split at h
  ·rename_i hkind;rw[hkind]at hk;obtain⟨ms,hk⟩:=hk;unfold uX at h
   split at h
   ·refine⟨_,h,.pure λo ho S Pm ρ a w hgs=>?_⟩;obtain⟨v,hx,_⟩:=(Gs.head hgs).ifc_inv;have hy:=(Gs.head (Gs.tail hgs)).val_inv;exact⟨.bool false,by simp[execOp,ho,hx,hy,eqGuard,binOp,zeb hk],(j9.val _).g⟩
   ·refine⟨_,h,.pure λo ho S Pm ρ a w hgs=>?_⟩;obtain⟨v,hx,_⟩:=(Gs.head hgs).ifc_inv;have hy:=(Gs.head (Gs.tail hgs)).val_inv;exact⟨.bool true,by simp[execOp,ho,hx,hy,eqGuard,binOp,zeb hk],(j9.val _).g⟩
   ·exact h.elim
  ·exact h.elim
 ·replace h:=zt h;obtain⟨i,hi,h⟩:=h;have hk:=(hT t i hi).kind
  split at h
  ·rename_i hkind;rw[hkind]at hk;obtain⟨ms,hk⟩:=hk;replace h:=zi h;obtain⟨hlit,h⟩:=h;obtain⟨yv,hyv⟩:∃yv,y=.const yv:=by cases y <;> first | exact⟨_,rfl⟩ | cases hlit
   subst hyv;unfold uX at h
   split at h
   ·refine⟨_,h,.pure λo ho S Pm ρ a w hgs=>?_⟩;have hx:=(Gs.head hgs).val_inv;have hy:=(Gs.head (Gs.tail hgs)).val_inv;exact⟨.bool true,by simp[execOp,ho,hx,hy,eqGuard,binOp,zcu hk],(j9.val _).g⟩
   ·refine⟨_,h,.pure λo ho S Pm ρ a w hgs=>?_⟩;have hx:=(Gs.head hgs).val_inv;have hy:=(Gs.head (Gs.tail hgs)).val_inv;exact⟨.bool false,by simp[execOp,ho,hx,hy,eqGuard,binOp,zcu hk],(j9.val _).g⟩
   ·exact h.elim
  ·exact h.elim
 ·rename_i v0;replace h:=zt h;obtain⟨i,hi,h⟩:=h;have hk:=(hT t i hi).kind
  split at h
  ·rename_i hkind;rw[hkind]at hk;obtain⟨ms,hk⟩:=hk;replace h:=zi h;obtain⟨hlit,h⟩:=h;obtain⟨yv,hyv⟩:∃yv,y=.const yv:=by cases y <;> first | exact⟨_,rfl⟩ | cases hlit
   subst hyv
   split at h
   ·refine⟨_,h,.pure λo ho S Pm ρ a w hgs=>?_⟩;obtain⟨hx,hif⟩:=(Gs.head hgs).op_inv;have hy:=(Gs.head (Gs.tail hgs)).val_inv;refine⟨.bool (zoy v0),?_,(j9.pr (by cases zoy v0 <;> simp)).g⟩
    cases v0 <;> first | (cases hif;done) | simp[execOp,ho,hx,hy,eqGuard,binOp,zcu hk,zeb hk,zoy]
   ·refine⟨_,h,.pure λo ho S Pm ρ a w hgs=>?_⟩;obtain⟨hx,hif⟩:=(Gs.head hgs).op_inv;have hy:=(Gs.head (Gs.tail hgs)).val_inv;refine⟨.bool (!zoy v0),?_,(j9.pr (by cases zoy v0 <;> simp)).g⟩
    cases v0 <;> first | (cases hif;done) | simp[execOp,ho,hx,hy,eqGuard,binOp,zcu hk,zeb hk,zoy]
   ·exact h.elim
  ·exact h.elim
 ·replace h:=zt h;obtain⟨i,hi,h⟩:=h;have hk:=(hT t i hi).kind
  split at h
  ·rename_i hkind;rw[hkind]at hk;obtain⟨p,ip,h,hp⟩:=zea h;obtain⟨q,iq,h,hq⟩:=zea h;refine⟨_,h,.pure λo ho S Pm ρ a w hgs=>?_⟩;have hx:=hp (Gs.head hgs);have hy:=hq (Gs.head (Gs.tail hgs));refine⟨.bool (@decide p ip==@decide q iq),?_,(j9.pr (by by_cases hp':p <;> by_cases hq':q <;> simp[hp',hq'])).g⟩;simp[execOp,ho,hx,hy,eqGuard_at_bool,binOp,Op.equal,Op.maxDepth,run_equalIn_bool w 9999 t _ _ hk]
  ·rename_i hkind;rw[hkind]at hk;obtain⟨p,ip,h,hp⟩:=zea h;obtain⟨q,iq,h,hq⟩:=zea h;refine⟨_,h,.pure λo ho S Pm ρ a w hgs=>?_⟩;have hx:=hp (Gs.head hgs);have hy:=hq (Gs.head (Gs.tail hgs));refine⟨.bool (!(@decide p ip==@decide q iq)),?_,(j9.pr (by by_cases hp':p <;> by_cases hq':q <;> simp[hp',hq'])).g⟩;simp[execOp,ho,hx,hy,eqGuard_at_bool,binOp,Op.equal,Op.maxDepth,run_equalIn_bool w 9999 t _ _ hk]
  ·exact h.elim
variable{K:SV->MD->Prop}
theorem zrk{c b:SV}{xc xa xb:Operand}(h:zv8 c a b K):
  ∃s,K s .none/\yK P (.pick xc xa xb) [c,a,b] lm κ s .none:=by
 have yes:∀(c':Bool),(∀{S Pm:Nat->Prop} {ρ:zk} {w:World} {v:Value},G S Pm ρ w c v->v=.bool c')->yK P (.pick xc xa xb) [c,a,b] lm κ (if c' then a else b) .none:=by
  intro c' hc;refine .pure λo ho S Pm ρ e w hgs=>?_
  have h1:=hc (Gs.head hgs);have h2:=Gs.head (Gs.tail hgs);have h3:=Gs.head (Gs.tail (Gs.tail hgs))
  cases c' with
  | true=>exact⟨_,by simp[execOp,ho,h1,asBool],h2⟩
  | false=>exact⟨_,by simp[execOp,ho,h1,asBool],h3⟩
 unfold zv8 at h
 split at h
 ·exact⟨a,h,yes true λhg=>hg.val_inv⟩
 ·exact⟨b,h,yes false λhg=>hg.val_inv⟩
 ·rename_i p i
  by_cases hp:p
  ·exact⟨a,h.yes hp,yes true λhg=>by rw[hg.pr_inv];simp[hp]⟩
  ·exact⟨b,h.no hp,yes false λhg=>by rw[hg.pr_inv];simp[hp]⟩
 ·exact h.elim
theorem zwj{op:UnOp}{t:TypeId}{s:SV}(h:unV op s K):
  ∃r,K r .none/\yK P (.unOp op t x) [s] lm κ r .none:=by
 unfold unV at h
 split at h
 ·exact⟨_,h,.pure λo ho S Pm ρ a w hgs=>⟨.bool false,by simp[execOp,ho,(Gs.head hgs).val_inv,Op.unary],(j9.val _).g⟩⟩
 ·exact⟨_,h,.pure λo ho S Pm ρ a w hgs=>⟨.bool true,by simp[execOp,ho,(Gs.head hgs).val_inv,Op.unary],(j9.val _).g⟩⟩
 ·rename_i p i;exact⟨_,h,.pure λo ho S Pm ρ a w hgs=>⟨.bool (!(@decide p i)),by simp[execOp,ho,(Gs.head hgs).pr_inv,Op.unary],(j9.pr (by rw[Qj];simp)).g⟩⟩
 ·rename_i k n;exact⟨_,vi h,.pure λo ho S Pm ρ a w hgs=>⟨.int k (k.wrap (-n)),by simp[execOp,ho,(Gs.head hgs).val_inv,Op.unary,Op.intArith],(j9.val _).g⟩⟩
 ·exact h.elim
variable{sz:Nat}{cs:List SV}
theorem uN{agg:Bool}{K:SV->Prop}(h:mkV agg sz cs K):∃s,K s/\((agg=true/\s=.agg (cs.take sz))∨(agg=false/\∃r,cs=s::r)):=by
 unfold mkV at h
 split at h
 ·exact⟨_,h,.inl ⟨rfl,rfl⟩⟩
 ·split at h
  ·exact⟨_,qJ h,.inr ⟨rfl,_,rfl⟩⟩
  ·exact h.elim
theorem yh(b o n:Nat):(⟨b,o,none⟩:Addr).add n=⟨b,o+n,none⟩:=by unfold Addr.add;split <;> simp_all
variable{i:TI}{S:Nat->Prop}{Pm:Nat->Prop}{ρ:zk}{b:Nat}{vs:List Value}
theorem zbS{t:TypeId}(hT:zin P t i){o:Nat}(hg:Gs S Pm ρ w cs vs)
  (hc:∀j v,vs[j]? =some v->w.cell? ⟨b,o+j,none⟩=some v) (hle:i.sz<=cs.length) {s:SV}
  (hs:(i.kind.agg=true/\s=.agg (cs.take i.sz))∨(i.kind.agg=false/\∃r,cs=s::r)):
  ∃v,(loadVar t ⟨b,o,none⟩).run P w=.ok v w/\G S Pm ρ w s v:=by
 unfold loadVar;rw[Sem.run_bind,hT.agg w,Result.andThen_ok]
 rcases hs with⟨h1,rfl⟩ | ⟨h1,r,rfl⟩
 ·have hl:(vs.take i.sz).length=i.sz:=by have:=hg.1;simp;omega
  have hload:=run_loadCells_list (P:=P) w ⟨b,o,none⟩ (vs.take i.sz) (λj v hv=>by
   rw[yh];rw[Xv]at hv
   split at hv
   ·exact hc j v hv
   ·cases hv)
  rw[hl]at hload;refine⟨.agg (vs.take i.sz).toArray,?_,.agg _ _ (hg.take _).1 (hg.take _).2⟩;simp[h1,hT.size,hload]
 ·obtain⟨v,vs',rfl,h2,h3⟩:=hg.cons_inv;have:=hc 0 v rfl;exact⟨v,by simp only[h1,KA,if_false,run_load,XP]at this ⊢;rw[this],h2⟩
theorem zoF{s:SV}(h:zlx s=true){v:Value}(hg:G S Pm ρ w s v):v.oneCell'=true:=by
 cases s with
 | val u=>rw[hg.val_inv];cases u <;> first | rfl | (simp[zlx]at h)
 | pr p i=>rw[hg.pr_inv];rfl
 | agg cs=>simp[zlx]at h
 | sl enc xs=>rcases hg.sl_inv.sl_inv with⟨_,_,rfl⟩ | ⟨_,_,_,_,_,rfl,_⟩ <;> rfl
 | nils=>obtain⟨_,rfl⟩:=hg.nils_inv;rfl
 | anyb=>obtain⟨_,rfl⟩:=hg.anyb_inv;rfl
 | full enc xs=>obtain⟨_,rfl,_⟩:=hg.full_inv;rfl
 | ptr cs=>obtain⟨_,_,_,rfl,_⟩:=hg.ptr_inv;rfl
 | loc k off=>obtain⟨_,_,rfl⟩:=hg.loc_inv;rfl
 | own k=>exact hg.own_inv.2
 | eloc k sz i off=>obtain⟨_,_,_,_,rfl⟩:=hg.eloc_inv;rfl
 | win k sz lo n=>obtain⟨_,_,_,_,_,rfl,_⟩:=hg.win_inv;rfl
 | fn f cs=>obtain⟨_,rfl,_⟩:=hg.fn_inv;rfl
 | dptr cs=>obtain⟨_,_,_,rfl,_⟩:=hg.dptr_inv;rfl
 | dfn f cs=>obtain⟨_,rfl,_⟩:=hg.dfn_inv;rfl
 | bm f cs=>obtain⟨_,rfl,_⟩:=hg.bm_inv;rfl
 | op v=>obtain⟨rfl,h⟩:=hg.op_inv;cases v <;> first | rfl | cases h
 | ifc t s=>obtain⟨_,rfl,_⟩:=hg.ifc_inv;rfl
 | tup cs=>simp[zlx]at h
 | junk=>simp[zlx]at h
theorem zg5(h:jO cs=true)(hg:Gs S Pm ρ w cs vs):∀v∈vs,v.oneCell'=true:=by
 induction cs generalizing vs with
 | nil=>rw[hg.nil_inv];simp
 | cons s cs ih=>
  obtain⟨v,vs',rfl,h1,h2⟩:=hg.cons_inv;simp only[jO]at h
  split at h
  ·rename_i hc;intro u hu
   cases hu with
   | head=>exact zoF hc h1
   | tail _ hu=>exact ih h h2 u hu
  ·cases h
theorem zlD{v:Value}(h:v.oneCell'=true):v.cells=#[v]:=by cases v <;> first | rfl | (simp[Value.oneCell']at h)
theorem vO{s:SV}(h:jO (kT s)=true){v:Value}(hg:G S Pm ρ w s v):
  Gs S Pm ρ w (kT s) v.cells.toList/\∀u∈v.cells.toList,u.oneCell'=true:=by
 have key:Gs S Pm ρ w (kT s) v.cells.toList:=by
  by_cases ha:∃cs,s=.agg cs
  ·obtain⟨cs,rfl⟩:=ha;obtain⟨vs,rfl,h1⟩:=hg.agg_inv;exact h1
  ·have hc:kT s=[s]:=by cases s <;> first | rfl | exact absurd ⟨_,rfl⟩ ha
   rw[hc]at h ⊢;simp only[jO]at h
   split at h
   ·rename_i h1;rw[zlD (zoF h1 hg)];exact .cons hg .nil
   ·cases h
 exact⟨key,zg5 h key⟩
theorem zdr{new:List SV}{us:List Value}(off:Nat)(h:Gs S Pm ρ w cs vs)(hn:Gs S Pm ρ w new us):
  Gs S Pm ρ w (yu cs off new) (vs.take off++us++vs.drop (off+us.length)):=by
 unfold yu;rw[hn.1];exact((h.take _).append hn).append (h.drop _)
theorem zfP{T:TypeId}(h:w.heap[b]? =some (.cells vs.toArray T (0,0)))(j:Nat):w.cell? ⟨b,j,none⟩=vs[j]? :=by
 rw[cell_of_row w b j _ T _ h];simp
theorem zec{T:TypeId}{v:Value} {n:Nat} {cells:List Value}{len cap:Nat}(hv:v=.slice (some ⟨b,0,none⟩) len cap)
  (h:w.ownsRow 0 T sz v n cells):len=n/\∃cur:Array Value,w.heap[b]? =some (.cells cur T (0,0))/\n<=cap/\cap<=maxLen/\cur.size=cap*sz/\cur.toList.take (n*sz)=cells:=by
 rcases h.2 with⟨h1,_⟩ | ⟨g,cap',cur,h1,_,h2,h3,h4,h5,h6⟩
 ·rw[h1]at hv;cases hv
 ·rw[h1]at hv;cases hv;exact⟨rfl,cur,h2,h3,h4,h5,h6⟩
variable{cur:Array Value}
theorem zbT{T:TypeId} {n:Nat} {cells:List Value} (h:w.heap[b]? =some (.cells cur T (0,0))) (ht:cur.toList.take n=cells)
  {j:Nat} {u:Value} (hu:cells[j]? =some u):w.cell? ⟨b,j,none⟩=some u:=by
 rw[cell_of_row w b j _ T _ h];rw[← ht,Xv]at hu
 split at hu
 ·simpa using hu
 ·cases hu
theorem zja{α:Type} {enc:α->List SV}{xs:List α} {cells:List Value} (hsz:∀x∈xs,(enc x).length=sz)
  (hg:∀(i j:Nat) x (s:SV),xs[i]? =some x->(enc x)[j]? =some s->∃u,cells[i*sz+j]? =some u/\D S w s u) {i:Nat} {x:α} (hx:xs[i]? =some x)
:Gs S Pm ρ w (enc x) ((cells.drop (i*sz)).take sz):=by
 have hlen:=hsz x (Xd hx);refine⟨?_,λj s v h1 h2=>?_⟩
 ·have h:(cells.drop (i*sz)).take sz=(List.range sz).map λj=>(cells[i*sz+j]?).getD undef:=by
   apply Ke;intro j
   by_cases hj:j < sz
   ·obtain⟨u,hu,_⟩:=hg i j x ((enc x)[j]'oM) hx (by simp[hlen,hj]);simp[hj,hu]
   ·simp[Xv,hj]
  rw[h];simp[hlen]
 ·rw[Xv]at h2
  split at h2
  ·obtain⟨u,hu,hd⟩:=hg i j x s hx h1;simp only[XV]at h2;rw[hu]at h2;cases h2
   exact .d _ _ hd
  ·cases h2
theorem zds{xs:List (List SV)} {cells:List Value} (hsz:∀x∈xs,x.length=sz)
  (hg:∀(i j:Nat) x (s:SV),xs[i]? =some x->x[j]? =some s->∃u,cells[i*sz+j]? =some u/\G S Pm ρ w s u) {i:Nat} {x:List SV} (hx:xs[i]? =some x):Gs S Pm ρ w x ((cells.drop (i*sz)).take sz):=by
 have hlen:=hsz x (Xd hx);refine⟨?_,λj s v h1 h2=>?_⟩
 ·have h:(cells.drop (i*sz)).take sz=(List.range sz).map λj=>(cells[i*sz+j]?).getD undef:=by
   apply Ke;intro j
   by_cases hj:j < sz
   ·obtain⟨u,hu,_⟩:=hg i j x (x[j]'oM) hx (by simp[hlen,hj]);simp[hj,hu]
   ·simp[Xv,hj]
  rw[h];simp[hlen]
 ·rw[Xv]at h2
  split at h2
  ·obtain⟨u,hu,hd⟩:=hg i j x s hx h1;simp only[XV]at h2;rw[hu]at h2;cases h2
   exact hd
  ·cases h2
theorem zrl(hT:TOK P Γ){t:TypeId}{s:SV}(h:zv4 Γ t s lm K):
  ∃r,K r .none/\yK P (.load t x) [s] lm κ r .none:=by
 unfold zv4 at h;replace h:=zt h;obtain⟨i,hi,h⟩:=h;have hTi:=hT t i hi
 have run:∀{o:Oper} (_:o.op=.load t x) {a:Act} {w:World} {b off:Nat} {v:Value},a.eval x=.pointer (some ⟨b,off,none⟩)->(loadVar t ⟨b,off,none⟩).run P w=.ok v w->
   (execOp a.eval o).run P w=.ok (.value v) w:=by
  intro o ho a w b off v h1 h2;simp[execOp,ho,h1,Instr.loadAt,Instr.sureAddr,h2]
 split at h
 ·rename_i k off
  split at h
  ·rename_i T cs hlk;replace h:=zi h;obtain⟨hle,h⟩:=h;have hle:=Xw hle;obtain⟨r,hK,hr⟩:=uN h;refine⟨r,hK,.read λo ho Keep M ρ a w hlm hm hgs=>?_⟩;obtain⟨b,vs,hρ,hheap,hlen,_,hcells⟩:=hm.rel k _ (hlm k _ hlk);obtain⟨b',hρ',hx⟩:=(Gs.head hgs).loc_inv;rw[hρ]at hρ';cases hρ'
   have hg:Gs (λb=>Keep b∨Own M ρ b) (Own M ρ) ρ w (cs.drop off) (vs.drop off):=Gs.drop off ⟨hlen,hcells⟩;obtain⟨v,h1,h2⟩:=zbS hTi (b:=b) (o:=off) hg (λj v hv=>by rw[zfP hheap];simpa using hv) (by simp;omega) hr;exact⟨v,run ho hx h1,h2⟩
  ·exact h.elim
 ·rename_i cs;replace h:=zi h;obtain⟨hle,h⟩:=h;have hle:=Xw hle;obtain⟨r,hK,hr⟩:=uN h;refine⟨r,hK,.pure λo ho S Pm ρ a w hgs=>?_⟩;obtain⟨b,off,c,hx,_,_,hc,hd⟩:=(Gs.head hgs).ptr_inv
  have hg:Gs S Pm ρ w cs ((List.range cs.length).map c):=⟨by simp,λj s v h1 h2=>by
   have hj:j < cs.length:=(Xc.1 h1).1;simp[hj]at h2;subst h2
   exact .d _ _ (hd j s h1)⟩
  obtain⟨v,h1,h2⟩:=zbS hTi (b:=b) (o:=off) hg (λj v hv=>by
   have hj:j < cs.length:=by have:=(Xc.1 hv).1;simpa using this
   simp[hj]at hv;subst hv
   exact(hc j hj).1) hle hr
  exact⟨v,run ho hx h1,h2⟩
 ·rename_i cs;replace h:=zi h;obtain⟨hle,h⟩:=h;have hle:=Xw hle;obtain⟨r,hK,hr⟩:=uN h;refine⟨r,hK,.pure λo ho S Pm ρ a w hgs=>?_⟩;obtain⟨b,off,c,hx,_,_,hc,hd⟩:=(Gs.head hgs).dptr_inv
  have hg:Gs S Pm ρ w cs ((List.range cs.length).map c):=⟨by simp,λj s v h1 h2=>by
   have hj:j < cs.length:=(Xc.1 h1).1;simp[hj]at h2;subst h2
   exact .d _ _ (hd j s h1)⟩
  obtain⟨v,h1,h2⟩:=zbS hTi (b:=b) (o:=off) hg (λj v hv=>by
   have hj:j < cs.length:=by have:=(Xc.1 hv).1;simpa using this
   simp[hj]at hv;subst hv
   exact(hc j hj).1) hle hr
  exact⟨v,run ho hx h1,h2⟩
 ·rename_i k sz n off
  split at h
  ·rename_i T α enc sz' xs hlk;replace h:=zi h;obtain⟨hsz,h⟩:=h;replace h:=zi h;obtain⟨hle,h⟩:=h;have hsz:=Xg hsz;subst hsz;have hle:=Xw hle;obtain⟨h0,h1⟩:=h.ob;have hlt:n.toNat < xs.length:=oM;have hx:=Xb hlt;obtain⟨r,hK,hr⟩:=uN (h.go _ hx);refine⟨r,hK,.read λo ho Keep M ρ a w hlm hm hgs=>?_⟩;obtain⟨v,cells,hρ,hown,_,_,hesz,hcells⟩:=hm.rel k _ (hlm k _ hlk);obtain⟨b,len,cap,hρ',hxv⟩:=(Gs.head hgs).eloc_inv;rw[hρ]at hρ';cases hρ'
   obtain⟨_,cur,hheap,_,_,_,htake⟩:=zec rfl hown;have hg:=Gs.drop off (zja hesz hcells hx (Pm:=Own M ρ) (ρ:=ρ));have hl:=hesz _ (Xd hx)
   obtain⟨v,h1,h2⟩:=zbS hTi (b:=b) (o:=n.toNat*sz+off) hg (λj u hu=>by
    simp only[XV,Xv]at hu
    split at hu
    ·refine zbT hheap htake ?_;rw[← hu];congr 1;omega
    ·cases hu) (by simp;omega) hr
   exact⟨v,run ho hxv h1,h2⟩
  ·rename_i T sz' xs hlk;replace h:=zi h;obtain⟨hsz,h⟩:=h;replace h:=zi h;obtain⟨hle,h⟩:=h;have hsz:=Xg hsz;subst hsz;have hle:=Xw hle;obtain⟨h0,h1⟩:=h.ob;have hlt:n.toNat < xs.length:=oM;have hx:=Xb hlt;obtain⟨r,hK,hr⟩:=uN (h.go _ hx);refine⟨r,hK,.read λo ho Keep M ρ a w hlm hm hgs=>?_⟩;obtain⟨v,cells,hρ,hown,_,_,hesz,hcells⟩:=hm.rel k _ (hlm k _ hlk);obtain⟨b,len,cap,hρ',hxv⟩:=(Gs.head hgs).eloc_inv;rw[hρ]at hρ';cases hρ'
   obtain⟨_,cur,hheap,_,_,_,htake⟩:=zec rfl hown;have hg:=Gs.drop off (zds hesz hcells hx);have hl:=hesz _ (Xd hx)
   obtain⟨v,h1,h2⟩:=zbS hTi (b:=b) (o:=n.toNat*sz+off) hg (λj u hu=>by
    simp only[XV,Xv]at hu
    split at hu
    ·refine zbT hheap htake ?_;rw[← hu];congr 1;omega
    ·cases hu) (by simp;omega) hr
   exact⟨v,run ho hxv h1,h2⟩
  ·exact h.elim
 ·exact h.elim
theorem Gs.stp {Keep W W':Nat->Prop} {ρ ρ':zk} {w w':World} (h:Stp W W' ρ ρ' w w') {cs:List SV} {vs:List Value}
  (hg:Gs (λb=>Keep b∨W b) W ρ w cs vs):Gs (λb=>Keep b∨W' b) W' ρ' w' cs vs:=hg.mono' λ_ _ h'=>h'.stp h
variable{Keep:Nat->Prop}{M:List (Nat×Mem)}
theorem zcv(hm:zO Keep M ρ w)(hκ:ρ κ=none) (hκM:∀m,(κ,m)∉M) (m:Mem) (o:Obj) (v:Value) (ho:qc w (w.alloc o))
  (hv:qz v=some w.heap.size)
  (hrel:Stp (Own M ρ) (Own ((κ,m)::M) (upd ρ κ v)) ρ (upd ρ κ v) w (w.alloc o)->
   j8 (λb=>Keep b∨Own ((κ,m)::M) (upd ρ κ v) b) (Own ((κ,m)::M) (upd ρ κ v)) (upd ρ κ v) (w.alloc o) κ m):
  Stp (Own M ρ) (Own ((κ,m)::M) (upd ρ κ v)) ρ (upd ρ κ v) w (w.alloc o)/\zO Keep ((κ,m)::M) (upd ρ κ v) (w.alloc o):=
 hm.grow (λ_ h=>h) hm.keys hκ hκM v m (w.alloc o) rfl rfl ho (by simp) (λb hb _=>heap_alloc_old w o b hb)
  (λk m v b h1 h2 h3=>heap_alloc_old w o b (hm.old b ⟨k,m,v,h1,h2,h3⟩).1)
  (λb hb=>by
   rw[hv]at hb;cases hb
   exact⟨.inr (Xh _),by simp,λk m v' h1 h2 h3=>by have:=(hm.old _ ⟨k,m,v',h1,h2,h3⟩).1;omega⟩) hrel
theorem k8.push {Keep:Nat->Prop} {M:List (Nat×Mem)} {ρ:zk} {w w':World} {κ:Nat} {s:SV} {m:Mem} {v u:Value}
  (h:Stp (Own M ρ) (Own ((κ,m)::M) (upd ρ κ u)) ρ (upd ρ κ u) w w'/\zO Keep ((κ,m)::M) (upd ρ κ u) w')
  (hg:G (λb=>Keep b∨Own ((κ,m)::M) (upd ρ κ u) b) (Own ((κ,m)::M) (upd ρ κ u)) (upd ρ κ u) w' s v):k8 Keep M ρ w κ s (.push m) v w':=
 ⟨upd ρ κ u,h.1,h.2,hg,λk hk=>zct (by
  rcases hk with hk | hk
  ·omega
  ·simp only[zaU]at hk;omega)⟩
theorem zlE(hm:zO Keep M ρ w)(hκ:ρ κ=none) (hκM:∀m,(κ,m)∉M) (T:TypeId)
  (hg:Gs (λb=>Keep b∨Own M ρ b) (Own M ρ) ρ w cs vs) (h1:∀v∈vs,v.oneCell'=true):
  k8 Keep M ρ w κ (.loc κ 0) (.push (.box T cs)) (.pointer (some ⟨w.heap.size,0,none⟩)) (w.alloc (.cells vs.toArray T)):=
 k8.push (u:=.pointer (some ⟨w.heap.size,0,none⟩)) (zcv hm hκ hκM _ _ _ (.cells _ _ _) rfl λhs=>
  ⟨w.heap.size,vs,kB,heap_alloc_new w _,hg.1,h1,(hg.stp hs).2⟩) (.loc _ _ _ kB)
theorem zoG(hT:TOK P Γ){svs:List SV}
  (h:kH Γ e λi=>K (.loc κ 0) (.push (.box e (vals i.zero)))):∃r md,K r md/\yK P (.alloc e) svs lm κ r md:=by
 replace h:=zt h;obtain⟨i,hi,h⟩:=h;obtain⟨f,h1,h2,h3,z,h4,h5,h6,h7,h8⟩:=(hT e i hi).inf;refine⟨_,_,h,λo ho Keep M ρ a w _ hm hκ hκM _=>?_⟩;replace hκ:=hκ _ (Xh _) (XX _);replace hκM:=hκM rfl;refine qH.value (v:=.pointer (some ⟨w.heap.size,0,none⟩)) (w':=w.alloc (.cells i.zero.toArray e)) ?_ (zlE hm hκ hκM e (Gs.vals _) h8);have hz:z.cells=i.zero.toArray:=by rw[← h5]
 simp[execOp,ho,Instr.alloc,zeroValue,typeInfo,h1,h4,newVar,newRow,hz]
theorem zuj{s:SV}
  (h:zS (jO (kT s)) (K (.loc κ 0) (.push (.box e (kT s))))):∃r md,K r md/\yK P (.box e x) [s] lm κ r md:=by
 replace h:=zi h;obtain⟨hc,h⟩:=h;refine⟨_,_,h,λo ho Keep M ρ a w _ hm hκ hκM hgs=>?_⟩;replace hκ:=hκ _ (Xh _) (XX _);replace hκM:=hκM rfl;obtain⟨h1,h2⟩:=vO hc (Gs.head hgs);refine qH.value (v:=.pointer (some ⟨w.heap.size,0,none⟩)) (w':=w.alloc (.cells (a.eval x).cells e)) ?_ (by simpa using zlE hm hκ hκM e h1 h2);simp[execOp,ho,Instr.box,newVar,newRow]
theorem vr{t:TypeId}(hT:zin P t i){off:Nat}{T:TypeId}(hheap:w.heap[b]? =some (.cells cur T (0,0))) {v:Value}
  (hsz:v.cells.size=i.sz) (hle:off+i.sz<=cur.size) (h1:∀u∈v.cells.toList,u.oneCell'=true):
  (storeVar t ⟨b,off,none⟩ v).run P w=.ok () (w.setRow b (cur.toList.take off++v.cells.toList++cur.toList.drop (off+i.sz)).toArray):=by
 have:=run_storeCells_at P b off T v.cells.toList 0 cur w hheap (by simp[hsz];omega) h1;simp only[XP,KR,hsz]at this;simp[storeVar,hT.size,hsz,this]
theorem k8.set {Keep:Nat->Prop} {M:List (Nat×Mem)} {ρ:zk} {w w':World} {κ k:Nat} {s:SV} {m:Mem} {v:Value}
  (h:Stp (Own M ρ) (Own (qM M k m) ρ) ρ ρ w w'/\zO Keep (qM M k m) ρ w')
  (hg:G (λb=>Keep b∨Own (qM M k m) ρ b) (Own (qM M k m) ρ) ρ w' s v):k8 Keep M ρ w κ s (.set k m) v w':=
 ⟨ρ,h.1,h.2,hg,λ_ _=>rfl⟩
theorem yT(h:ym.flats cs=true):∀(j:Nat) (s:SV),cs[j]? =some s->ym s=true:=by
 induction cs with
 | nil=>intro j s h1;simp at h1
 | cons c cs ih=>
  intro j s h1;simp only[ym.flats]at h
  split at h
  ·rename_i hc
   cases j with
   | zero=>simp at h1;subst h1;exact hc
   | succ j=>exact ih h j s (by simpa using h1)
  ·cases h
theorem uH{s:SV}(hs:ym s=true){v:Value}(hg:G S Pm ρ w s v):D S w s v:=by
 induction hg with
 | d _ _ h=>exact h
 | agg cs vs hl h ih=>
  have hf:ym.flats cs=true:=hs;exact .agg cs vs hl λj s v h1 h2=>ih j s v h1 h2 (yT hf j s h1)
 | ifc t s v h ih=>
  have hf:ym s=true:=hs;exact .ifc t s v (ih hf)
 | _=>simp[ym]at hs
theorem zzp(h:ym.flats cs=true)(hg:Gs S Pm ρ w cs vs):
  ∀(j:Nat) (s:SV) (v:Value),cs[j]? =some s->vs[j]? =some v->D S w s v:=λj s v h1 h2=>uH (yT h j s h1) (hg.2 j s v h1 h2)
theorem zbu(cur new:List Value)(o N:Nat)(h:o+new.length<=N)(hN:N<=cur.length):
  (cur.take o++new++cur.drop (o+new.length)).take N=(cur.take N).take o++new++(cur.take N).drop (o+new.length):=by
 have e1:(cur.take o++new).length=o+new.length:=by simp;omega
 rw[List.take_append,Xf oM,e1,Yr,KW oM,List.drop_take]
theorem zoH(hT:TOK P Γ){t:TypeId}{y:Operand}{s v:SV}(h:zrb Γ t s v lm K):
  ∃r md,K r md/\yK P (.store t x y) [s,v] lm κ r md:=by
 unfold zrb at h;replace h:=zt h;obtain⟨i,hi,h⟩:=h;have hTi:=hT t i hi;replace h:=zi h;obtain⟨hcell,h⟩:=h;replace h:=zi h;obtain⟨hlen,h⟩:=h;have hlen:=Xg hlen
 split at h
 ·rename_i k off
  split at h
  ·rename_i T cs hlk;replace h:=zi h;obtain⟨hle,h⟩:=h;have hle:=Xw hle;refine⟨_,_,h,λo ho Keep M ρ a w hlm hm _ _ hgs=>?_⟩;have hmem:=zA (hlm k _ hlk);obtain⟨b,vs,hρ,hheap,hl,h1,hcells⟩:=hm.rel k _ hmem;obtain⟨b',hρ',hx⟩:=(Gs.head hgs).loc_inv;rw[hρ]at hρ';cases hρ'
   obtain⟨hg,hone⟩:=vO hcell (Gs.head (Gs.tail hgs));have hcl:(a.eval y).cells.toList.length=i.sz:=by rw[hg.1,hlen]
   have hrun:=vr hTi hheap (v:=a.eval y) (off:=off) (by simpa using hcl) (by simp;omega) hone;refine qH.skip (w':=_) (by simp[execOp,ho,hx,Instr.storeAt,Instr.sureAddr,hrun];rfl) ?_;have hsp:=zdr off (⟨hl,hcells⟩:Gs (λb=>Keep b∨Own M ρ b) (Own M ρ) ρ w cs vs) hg;rw[hcl]at hsp;refine k8.set (hm.write _ hmem hρ rfl _ λhs=>?_) (.d _ _ (.val _));refine⟨b,_,hρ,by simpa using setRow_heap w b _ _ T _ hheap,(hsp.stp hs).1,λu hu=>?_,(hsp.stp hs).2⟩;simp only[Xo]at hu
   rcases hu with(hu | hu) | hu
   ·exact h1 u (XE hu)
   ·exact hone u hu
   ·exact h1 u (Kq hu)
  ·exact h.elim
 ·rename_i k sz n off
  split at h
  ·rename_i T α enc sz' xs hlk;replace h:=zi h;obtain⟨hsz,h⟩:=h;replace h:=zi h;obtain⟨hle,h⟩:=h;have hsz:=Xg hsz;subst hsz;have hle:=Xw hle
   split at h
   rotate_left
   ·obtain⟨h0,h1⟩:=h.ob;have hlt0:n.toNat < xs.length:=oM;have hx0:=Xb hlt0;replace h:=h.go _ hx0;obtain⟨zs,hzs⟩:∃zs,zs=xs.map enc:=⟨_,rfl⟩;have hzl:zs.length=xs.length:=by rw[hzs,Xz]
    have hlt:n.toNat < zs.length:=oM;have hx:=Xb hlt;have hxe:zs[n.toNat]=enc xs[n.toNat]:=by subst hzs;simp
    rw[← hzs,← hxe]at h;obtain⟨x',hx'⟩:∃x',x'=yu (zs[n.toNat]) off (kT v):=⟨_,rfl⟩;rw[← hx']at h;refine⟨_,_,h,λo ho Keep M ρ a w hlm hm _ _ hgs=>?_⟩;have hmem:=zA (hlm k _ hlk);obtain⟨v0,cells,hρ,hown,hnl,hone0,hesz0,hcells0⟩:=hm.rel k _ hmem;rw[← hzl]at hown hnl
    have hesz:∀x∈zs,x.length=sz:=λx hx=>by
     rw[hzs]at hx;obtain⟨y,hy,rfl⟩:=XO.1 hx;exact hesz0 y hy
    have hcells:∀(i j:Nat) (x:List SV) (s:SV),zs[i]? =some x->x[j]? =some s->∃u,cells[i*sz+j]? =some u/\G (λb=>Keep b∨Own M ρ b) (Own M ρ) ρ w s u:=λi j x s hx hs=>by
     rw[hzs,XC]at hx
     cases hy:xs[i]? with
     | none=>simp[hy]at hx
     | some y=>
      simp[hy]at hx;subst hx;obtain⟨u,hu,hd⟩:=hcells0 i j y s hy hs;exact⟨u,hu,.d _ _ hd⟩
    obtain⟨b,len,cap,hρ',hxv⟩:=(Gs.head hgs).eloc_inv;rw[hρ]at hρ';cases hρ'
    obtain⟨hlen',cur,hheap,hnc,hcm,hcs,htake⟩:=zec rfl hown;obtain⟨hg,hone⟩:=vO hcell (Gs.head (Gs.tail hgs));have hcl:(a.eval y).cells.toList.length=i.sz:=by rw[hg.1,hlen]
    have hl:=hesz _ (Xd hx)
    have hmul:n.toNat*sz+sz<=zs.length*sz:=by
     have:=Xp sz (XT hlt);rw[XU]at this;exact this
    have hcurlen:zs.length*sz<=cur.toList.length:=by simp[hcs];exact Xp _ hnc
    have hrun:=vr hTi hheap (v:=a.eval y) (off:=n.toNat*sz+off) (by simpa using hcl) (by simp at hcurlen;omega) hone;refine qH.skip (w':=_) (by simp[execOp,ho,hxv,Instr.storeAt,Instr.sureAddr,hrun];rfl) ?_;have hsp:=zdr off (zds hesz hcells hx) hg;have hd:=hg.2;have hcellslen:cells.length=zs.length*sz:=hown.1;refine k8.set (hm.write _ hmem hρ rfl _ λhs=>?_) (.d _ _ (.val _))
    refine⟨_,cells.take (n.toNat*sz+off)++(a.eval y).cells.toList++cells.drop (n.toNat*sz+off+i.sz),hρ,⟨?_,.inr ⟨b,cap,_,by simp[hlen'],Xe _,setRow_heap w b _ _ T _ hheap,by simpa using hnc,hcm,?_,?_⟩⟩,by simpa using hnl,?_,?_,?_⟩
    ·simp only[Xj,Xk,XQ,hcellslen,hcl,X0];omega
    ·simp only[Kz,Xj,Xk,XQ,hcl,KR,hcs];simp at hcurlen;omega
    ·rw[← htake,← hcl];simp only[X0];rw[← XK];exact zbu cur.toList (a.eval y).cells.toList (n.toNat*sz+off) (zs.length*sz) (by rw[hcl];omega) hcurlen
    ·intro u hu;simp only[Xo]at hu
     rcases hu with(hu | hu) | hu
     ·exact hone0 u (XE hu)
     ·exact hone u hu
     ·exact hone0 u (Kq hu)
    ·intro z hz
     rcases QX hz with hz | rfl
     ·exact hesz z hz
     ·rw[hx'];unfold yu;simp only[Xj,Xk,XQ,hl,hlen];omega
    ·intro i' j x s hxi hs';have hln:(cells.take (n.toNat*sz+off)).length=n.toNat*sz+off:=by simp[hcellslen];omega
     by_cases hi':n.toNat=i'
     ·subst hi';simp only[Kf,hlt,if_true,Qp]at hxi;subst hxi
      have hj:j < sz:=by
       have:=(Xc.1 hs').1;rw[hx']at this;unfold yu at this;simp only[Xj,Xk,XQ,hl,hlen]at this;omega
      rw[hx']at hs';unfold yu at hs';simp only[XM,Xj,Xk,hl,hlen,Xv,XV]at hs';simp only[XM,Xj,hln,hcl,Xv,XV];have em:min off sz=off:=oM;simp only[em]at hs'
      by_cases hj1:j < off
      ·simp only[show j < off+i.sz by omega,hj1,if_true]at hs';simp only[show n.toNat*sz+j < n.toNat*sz+off+i.sz by omega,show n.toNat*sz+j < n.toNat*sz+off by omega,if_true];obtain⟨u,hu,hd'⟩:=hcells _ j _ s hx hs';exact⟨u,hu,hd'.stp hs⟩
      ·by_cases hj2:j < off+i.sz
       ·simp only[hj2,hj1,if_true,if_false]at hs';simp only[show n.toNat*sz+j < n.toNat*sz+off+i.sz by omega,show ¬(n.toNat*sz+j < n.toNat*sz+off) by omega,if_true,if_false];have hlt':j - off < (a.eval y).cells.toList.length:=oM;refine⟨(a.eval y).cells.toList[j - off],?_,(hd (j - off) s _ hs' (Xb hlt')).stp hs⟩;rw[show n.toNat*sz+j - (n.toNat*sz+off)=j - off by omega];exact Xb hlt'
       ·simp only[hj2,if_false]at hs';simp only[show ¬(n.toNat*sz+j < n.toNat*sz+off+i.sz) by omega,if_false];rw[show off+i.sz+(j - (off+i.sz))=j by omega]at hs';obtain⟨u,hu,hd'⟩:=hcells _ j _ s hx hs';refine⟨u,?_,hd'.stp hs⟩;rw[show n.toNat*sz+off+i.sz+(n.toNat*sz+j - (n.toNat*sz+off+i.sz))=n.toNat*sz+j by omega];exact hu
     ·simp only[Kf,hi',if_false]at hxi;obtain⟨u,hu,hd'⟩:=hcells i' j x s hxi hs';refine⟨u,?_,hd'.stp hs⟩
      have hj:j < sz:=by
       have:=(Xc.1 hs').1;rw[hesz x (Xd hxi)]at this;exact this
      simp only[XM,Xj,hln,hcl,Xv,XV]
      rcases Qe i' n.toNat with hlt2 | hge
      ·have h5:i'*sz+sz<=n.toNat*sz:=by
        have:=Xp sz (XT hlt2);rw[XU]at this;exact this
       simp only[show i'*sz+j < n.toNat*sz+off+i.sz by omega,show i'*sz+j < n.toNat*sz+off by omega,if_true];exact hu
      ·have h5:n.toNat*sz+sz<=i'*sz:=by
        have:=Xp sz (XT (JM hge hi'));rw[XU]at this;exact this
       simp only[show ¬(i'*sz+j < n.toNat*sz+off+i.sz) by omega,if_false];rw[show n.toNat*sz+off+i.sz+(i'*sz+j - (n.toNat*sz+off+i.sz))=i'*sz+j by omega];exact hu
   rename_i hflat;obtain⟨h0,h1⟩:=h.ob;have hlt:n.toNat < xs.length:=oM;have hx:=Xb hlt;obtain⟨x',hx',h⟩:=h.go _ hx;refine⟨_,_,h,λo ho Keep M ρ a w hlm hm _ _ hgs=>?_⟩;have hmem:=zA (hlm k _ hlk);obtain⟨v0,cells,hρ,hown,hnl,hone0,hesz,hcells⟩:=hm.rel k _ hmem;obtain⟨b,len,cap,hρ',hxv⟩:=(Gs.head hgs).eloc_inv;rw[hρ]at hρ';cases hρ'
   obtain⟨hlen',cur,hheap,hnc,hcm,hcs,htake⟩:=zec rfl hown;obtain⟨hg,hone⟩:=vO hcell (Gs.head (Gs.tail hgs));have hcl:(a.eval y).cells.toList.length=i.sz:=by rw[hg.1,hlen]
   have hl:=hesz _ (Xd hx)
   have hmul:n.toNat*sz+sz<=xs.length*sz:=by
    have:=Xp sz (XT hlt);rw[XU]at this;exact this
   have hcurlen:xs.length*sz<=cur.toList.length:=by simp[hcs];exact Xp _ hnc
   have hrun:=vr hTi hheap (v:=a.eval y) (off:=n.toNat*sz+off) (by simpa using hcl) (by simp at hcurlen;omega) hone;refine qH.skip (w':=_) (by simp[execOp,ho,hxv,Instr.storeAt,Instr.sureAddr,hrun];rfl) ?_;have hsp:=zdr off (zja hesz hcells hx (Pm:=Own M ρ) (ρ:=ρ)) hg;have hd:=zzp hflat hg;have hcellslen:cells.length=xs.length*sz:=hown.1;refine k8.set (hm.write _ hmem hρ rfl _ λhs=>?_) (.d _ _ (.val _))
   refine⟨_,cells.take (n.toNat*sz+off)++(a.eval y).cells.toList++cells.drop (n.toNat*sz+off+i.sz),hρ,⟨?_,.inr ⟨b,cap,_,by simp[hlen'],Xe _,setRow_heap w b _ _ T _ hheap,by simpa using hnc,hcm,?_,?_⟩⟩,by simpa using hnl,?_,?_,?_⟩
   ·simp only[Xj,Xk,XQ,hcellslen,hcl,X0];omega
   ·simp only[Kz,Xj,Xk,XQ,hcl,KR,hcs];simp at hcurlen;omega
   ·rw[← htake,← hcl];simp only[X0];rw[← XK];exact zbu cur.toList (a.eval y).cells.toList (n.toNat*sz+off) (xs.length*sz) (by rw[hcl];omega) hcurlen
   ·intro u hu;simp only[Xo]at hu
    rcases hu with(hu | hu) | hu
    ·exact hone0 u (XE hu)
    ·exact hone u hu
    ·exact hone0 u (Kq hu)
   ·intro z hz
    rcases QX hz with hz | rfl
    ·exact hesz z hz
    ·rw[hx'];unfold yu;simp only[Xj,Xk,XQ,hl,hlen];omega
   ·intro i' j x s hxi hs';have hln:(cells.take (n.toNat*sz+off)).length=n.toNat*sz+off:=by simp[hcellslen];omega
    by_cases hi':n.toNat=i'
    ·subst hi';simp only[Kf,hlt,if_true,Qp]at hxi;subst hxi
     have hj:j < sz:=by
      have:=(Xc.1 hs').1;rw[hx']at this;unfold yu at this;simp only[Xj,Xk,XQ,hl,hlen]at this;omega
     rw[hx']at hs';unfold yu at hs';simp only[XM,Xj,Xk,hl,hlen,Xv,XV]at hs';simp only[XM,Xj,hln,hcl,Xv,XV];have em:min off sz=off:=oM;simp only[em]at hs'
     by_cases hj1:j < off
     ·simp only[show j < off+i.sz by omega,hj1,if_true]at hs';simp only[show n.toNat*sz+j < n.toNat*sz+off+i.sz by omega,show n.toNat*sz+j < n.toNat*sz+off by omega,if_true];obtain⟨u,hu,hd'⟩:=hcells _ j _ s hx hs';exact⟨u,hu,hd'.stp hs⟩
     ·by_cases hj2:j < off+i.sz
      ·simp only[hj2,hj1,if_true,if_false]at hs';simp only[show n.toNat*sz+j < n.toNat*sz+off+i.sz by omega,show ¬(n.toNat*sz+j < n.toNat*sz+off) by omega,if_true,if_false];have hlt':j - off < (a.eval y).cells.toList.length:=oM;refine⟨(a.eval y).cells.toList[j - off],?_,(hd (j - off) s _ hs' (Xb hlt')).stp hs⟩;rw[show n.toNat*sz+j - (n.toNat*sz+off)=j - off by omega];exact Xb hlt'
      ·simp only[hj2,if_false]at hs';simp only[show ¬(n.toNat*sz+j < n.toNat*sz+off+i.sz) by omega,if_false];rw[show off+i.sz+(j - (off+i.sz))=j by omega]at hs';obtain⟨u,hu,hd'⟩:=hcells _ j _ s hx hs';refine⟨u,?_,hd'.stp hs⟩;rw[show n.toNat*sz+off+i.sz+(n.toNat*sz+j - (n.toNat*sz+off+i.sz))=n.toNat*sz+j by omega];exact hu
    ·simp only[Kf,hi',if_false]at hxi;obtain⟨u,hu,hd'⟩:=hcells i' j x s hxi hs';refine⟨u,?_,hd'.stp hs⟩
     have hj:j < sz:=by
      have:=(Xc.1 hs').1;rw[hesz x (Xd hxi)]at this;exact this
     simp only[XM,Xj,hln,hcl,Xv,XV]
     rcases Qe i' n.toNat with hlt2 | hge
     ·have h5:i'*sz+sz<=n.toNat*sz:=by
       have:=Xp sz (XT hlt2);rw[XU]at this;exact this
      simp only[show i'*sz+j < n.toNat*sz+off+i.sz by omega,show i'*sz+j < n.toNat*sz+off by omega,if_true];exact hu
     ·have h5:n.toNat*sz+sz<=i'*sz:=by
       have:=Xp sz (XT (JM hge hi'));rw[XU]at this;exact this
      simp only[show ¬(i'*sz+j < n.toNat*sz+off+i.sz) by omega,if_false];rw[show n.toNat*sz+off+i.sz+(i'*sz+j - (n.toNat*sz+off+i.sz))=i'*sz+j by omega];exact hu
  ·rename_i T sz' xs hlk;replace h:=zi h;obtain⟨hsz,h⟩:=h;replace h:=zi h;obtain⟨hle,h⟩:=h;have hsz:=Xg hsz;subst hsz;have hle:=Xw hle;obtain⟨h0,h1⟩:=h.ob;have hlt:n.toNat < xs.length:=oM;have hx:=Xb hlt;replace h:=h.go _ hx;obtain⟨x',hx'⟩:∃x',x'=yu (xs[n.toNat]) off (kT v):=⟨_,rfl⟩;rw[← hx']at h;refine⟨_,_,h,λo ho Keep M ρ a w hlm hm _ _ hgs=>?_⟩;have hmem:=zA (hlm k _ hlk);obtain⟨v0,cells,hρ,hown,hnl,hone0,hesz,hcells⟩:=hm.rel k _ hmem
   obtain⟨b,len,cap,hρ',hxv⟩:=(Gs.head hgs).eloc_inv;rw[hρ]at hρ';cases hρ'
   obtain⟨hlen',cur,hheap,hnc,hcm,hcs,htake⟩:=zec rfl hown;obtain⟨hg,hone⟩:=vO hcell (Gs.head (Gs.tail hgs));have hcl:(a.eval y).cells.toList.length=i.sz:=by rw[hg.1,hlen]
   have hl:=hesz _ (Xd hx)
   have hmul:n.toNat*sz+sz<=xs.length*sz:=by
    have:=Xp sz (XT hlt);rw[XU]at this;exact this
   have hcurlen:xs.length*sz<=cur.toList.length:=by simp[hcs];exact Xp _ hnc
   have hrun:=vr hTi hheap (v:=a.eval y) (off:=n.toNat*sz+off) (by simpa using hcl) (by simp at hcurlen;omega) hone;refine qH.skip (w':=_) (by simp[execOp,ho,hxv,Instr.storeAt,Instr.sureAddr,hrun];rfl) ?_;have hsp:=zdr off (zds hesz hcells hx) hg;have hd:=hg.2;have hcellslen:cells.length=xs.length*sz:=hown.1;refine k8.set (hm.write _ hmem hρ rfl _ λhs=>?_) (.d _ _ (.val _))
   refine⟨_,cells.take (n.toNat*sz+off)++(a.eval y).cells.toList++cells.drop (n.toNat*sz+off+i.sz),hρ,⟨?_,.inr ⟨b,cap,_,by simp[hlen'],Xe _,setRow_heap w b _ _ T _ hheap,by simpa using hnc,hcm,?_,?_⟩⟩,by simpa using hnl,?_,?_,?_⟩
   ·simp only[Xj,Xk,XQ,hcellslen,hcl,X0];omega
   ·simp only[Kz,Xj,Xk,XQ,hcl,KR,hcs];simp at hcurlen;omega
   ·rw[← htake,← hcl];simp only[X0];rw[← XK];exact zbu cur.toList (a.eval y).cells.toList (n.toNat*sz+off) (xs.length*sz) (by rw[hcl];omega) hcurlen
   ·intro u hu;simp only[Xo]at hu
    rcases hu with(hu | hu) | hu
    ·exact hone0 u (XE hu)
    ·exact hone u hu
    ·exact hone0 u (Kq hu)
   ·intro z hz
    rcases QX hz with hz | rfl
    ·exact hesz z hz
    ·rw[hx'];unfold yu;simp only[Xj,Xk,XQ,hl,hlen];omega
   ·intro i' j x s hxi hs';have hln:(cells.take (n.toNat*sz+off)).length=n.toNat*sz+off:=by simp[hcellslen];omega
    by_cases hi':n.toNat=i'
    ·subst hi';simp only[Kf,hlt,if_true,Qp]at hxi;subst hxi
     have hj:j < sz:=by
      have:=(Xc.1 hs').1;rw[hx']at this;unfold yu at this;simp only[Xj,Xk,XQ,hl,hlen]at this;omega
     rw[hx']at hs';unfold yu at hs';simp only[XM,Xj,Xk,hl,hlen,Xv,XV]at hs';simp only[XM,Xj,hln,hcl,Xv,XV];have em:min off sz=off:=oM;simp only[em]at hs'
     by_cases hj1:j < off
     ·simp only[show j < off+i.sz by omega,hj1,if_true]at hs';simp only[show n.toNat*sz+j < n.toNat*sz+off+i.sz by omega,show n.toNat*sz+j < n.toNat*sz+off by omega,if_true];obtain⟨u,hu,hd'⟩:=hcells _ j _ s hx hs';exact⟨u,hu,hd'.stp hs⟩
     ·by_cases hj2:j < off+i.sz
      ·simp only[hj2,hj1,if_true,if_false]at hs';simp only[show n.toNat*sz+j < n.toNat*sz+off+i.sz by omega,show ¬(n.toNat*sz+j < n.toNat*sz+off) by omega,if_true,if_false];have hlt':j - off < (a.eval y).cells.toList.length:=oM;refine⟨(a.eval y).cells.toList[j - off],?_,(hd (j - off) s _ hs' (Xb hlt')).stp hs⟩;rw[show n.toNat*sz+j - (n.toNat*sz+off)=j - off by omega];exact Xb hlt'
      ·simp only[hj2,if_false]at hs';simp only[show ¬(n.toNat*sz+j < n.toNat*sz+off+i.sz) by omega,if_false];rw[show off+i.sz+(j - (off+i.sz))=j by omega]at hs';obtain⟨u,hu,hd'⟩:=hcells _ j _ s hx hs';refine⟨u,?_,hd'.stp hs⟩;rw[show n.toNat*sz+off+i.sz+(n.toNat*sz+j - (n.toNat*sz+off+i.sz))=n.toNat*sz+j by omega];exact hu
    ·simp only[Kf,hi',if_false]at hxi;obtain⟨u,hu,hd'⟩:=hcells i' j x s hxi hs';refine⟨u,?_,hd'.stp hs⟩
     have hj:j < sz:=by
      have:=(Xc.1 hs').1;rw[hesz x (Xd hxi)]at this;exact this
     simp only[XM,Xj,hln,hcl,Xv,XV]
     rcases Qe i' n.toNat with hlt2 | hge
     ·have h5:i'*sz+sz<=n.toNat*sz:=by
       have:=Xp sz (XT hlt2);rw[XU]at this;exact this
      simp only[show i'*sz+j < n.toNat*sz+off+i.sz by omega,show i'*sz+j < n.toNat*sz+off by omega,if_true];exact hu
     ·have h5:n.toNat*sz+sz<=i'*sz:=by
       have:=Xp sz (XT (JM hge hi'));rw[XU]at this;exact this
      simp only[show ¬(i'*sz+j < n.toNat*sz+off+i.sz) by omega,if_false];rw[show n.toNat*sz+off+i.sz+(i'*sz+j - (n.toNat*sz+off+i.sz))=i'*sz+j by omega];exact hu
  ·exact h.elim
 ·exact h.elim
end
end Go.Gs
