/- What is zdg stays zdg; one operation carried out. -/
import Derived.Test.YtakicgnbhdpknaaGreatDoorNAB
import Derived.Laws.Rows
import Derived.Laws.Tables
import Derived.RowKit3
import Derived.Laws.StructEq
import Derived.Laws.MakeOwn
import Derived.Laws.Slices
import Derived.Laws.BitsLemmas
import Derived.Laws.Small
import Derived.ChangeKeysEq
set_option maxRecDepth 100000
set_option maxHeartbeats 8000000
set_option linter.all false
namespace Go.Gs
def zhf{w w':World}{b o:Nat}(h:w'.heap[b]?=w.heap[b]?):w'.cell? ⟨b,o,none⟩=w.cell? ⟨b,o,none⟩:=by
 simp only[World.cell?,h]
def D.mono{S S':LI}{w w':World}(hz:w.heap.size<=w'.heap.size)(hS:∀b,b<w.heap.size->¬S b->¬S' b/\w'.heap[b]?=w.heap[b]?){s:SV}{v:Value}(h:D S w s v):D S' w' s v:=by
 induction h with
 |val v=>exact .val v
 |pr p i=>exact .pr p i
 |agg cs vs hl h ih=>exact .agg cs vs hl ih
 |nil enc a=>exact .nil enc a
 |nils a=>exact .nils a
 |anyb b=>exact .anyb b
 |junk v=>exact .junk v
 |full enc xs a h ih=>exact .full enc xs a ih
 |sl enc xs sz b o cap c hb hS' hlen hcap hsz hc h ih=>
  obtain⟨h1,h2⟩:=hS b hb hS';exact .sl enc xs sz b o cap c (Xw hb hz) h1 hlen hcap hsz (λi j hi hj=>by rw[zhf h2];exact hc i j hi hj) ih
 |dptr cs b o c hb hS' hc h ih=>
  obtain⟨h1,h2⟩:=hS b hb hS';exact .dptr cs b o c (Xw hb hz) h1 (λj hj=>by rw[zhf h2];exact hc j hj) ih
 |dfn f cs vs hl h ih=>exact .dfn f cs vs hl ih
 |bm f cs vs hl h ih=>exact .bm f cs vs hl ih
 |op v h=>exact .op v h
 |ifc t s v h ih=>exact .ifc t s v ih
def G.mono{S S' Pm Pm':LI}{ρ ρ':zh}{w w':World}(hz:w.heap.size<=w'.heap.size)(hS:∀b,b<w.heap.size->¬S b->¬S' b/\w'.heap[b]?=w.heap[b]?)(hP:∀b,b<w.heap.size->¬Pm b->¬Pm' b/\w'.heap[b]?=w.heap[b]?)(hρ:∀k v,ρ k=some v->ρ' k=some v){s:SV}{v:Value}(h:G S Pm ρ w s v):G S' Pm' ρ' w' s v:=by
 induction h with
 |d s v h=>exact .d s v (h.mono hz hS)
 |loc k off b h=>exact .loc k off b (hρ _ _ h)
 |own k v h h1=>exact .own k v (hρ _ _ h) h1
 |eloc k sz i off b len cap h=>exact .eloc k sz i off b len cap (hρ _ _ h)
 |win k sz lo n b len cap cap' h h1 h2=>exact .win k sz lo n b len cap cap' (hρ _ _ h) h1 h2
 |ptr cs b o c hb hP' hc h=>
  obtain⟨h1,h2⟩:=hP b hb hP';exact .ptr cs b o c (Xw hb hz) h1 (λj hj=>by rw[zhf h2];exact hc j hj) (λj s hs=>(h j s hs).mono hz hS)
 |agg cs vs hl h ih=>exact .agg cs vs hl ih
 |tup cs vs hl h ih=>exact .tup cs vs hl ih
 |fn f cs vs hl h ih=>exact .fn f cs vs hl ih
 |ifc t s v h ih=>exact .ifc t s v ih
def kO.refl(w:World):kO w w:=⟨rfl,λ_=>rfl⟩
def kO.trans{w w' w'':World}(h:kO w w')(k:kO w' w''):kO w w'':=⟨k.1.trans h.1,λa=>(k.2 a).trans (h.2 a)⟩
def kO.cells(w:World)(c:Array Value)(t:TypeId):kO w (w.alloc (.cells c t)):=⟨rfl,λa=>RowKit.frozen?_alloc_cells w c t a⟩
def kO.setRow(w:World)(g:Nat)(cs:Array Value):kO w (w.setRow g cs):=⟨rfl,λa=>by
 show World.frozen? { w with heap:=w.heap.modify g _ } a=_;unfold World.frozen?;simp only[Jm]
 by_cases h:g=a.block
 ·simp only[h,if_true]
  cases w.heap[a.block]? with
  |none=>rfl
  |some o=>cases o <;> rfl
 simp only[h,if_false]⟩
def Stp.refl{W:LI}{ρ:zh}{w:World}:Stp W W ρ ρ w w:=⟨rfl,rfl,.refl _,Xk _,λ_ _ _=>rfl,λ_ h=>.inl h,λ_ _ h=>h⟩
def Stp.trans{W W' W'':LI}{ρ ρ' ρ'':zh}{w w' w'':World}(h:Stp W W' ρ ρ' w w')(k:Stp W' W'' ρ' ρ'' w' w''):Stp W W'' ρ ρ'' w w'':=
 ⟨k.os.trans h.os,k.tape.trans h.tape,h.output.trans k.output,XB h.size k.size,
  λb hb hn=>(k.block b (Xw hb h.size) (λhw=>(h.own b hw).elim hn (λh2=>by omega))).trans (h.block b hb hn),
  λb hb=>(k.own b hb).elim (h.own b) (λh2=>.inr (XB h.size h2)),λk' v hv=>k.rho _ _ (h.rho _ _ hv)⟩
def G.stp{Keep W W':LI}{ρ ρ':zh}{w w':World}(h:Stp W W' ρ ρ' w w'){s:SV}{v:Value}(hg:G (λb=>Keep b∨W b) W ρ w s v):G (λb=>Keep b∨W' b) W' ρ' w' s v:=
 hg.mono h.size (λb hb hn=>⟨λhw=>hw.elim (λhk=>hn (.inl hk)) (λhw=>(h.own b hw).elim (λh1=>hn (.inr h1)) (λh2=>by omega)),h.block b hb (λhw=>hn (.inr hw))⟩)
  (λb hb hn=>⟨λhw=>(h.own b hw).elim hn (λh2=>by omega),h.block b hb hn⟩) h.rho
def D.stp{Keep W W':LI}{ρ ρ':zh}{w w':World}(h:Stp W W' ρ ρ' w w'){s:SV}{v:Value}(hg:D (λb=>Keep b∨W b) w s v):D (λb=>Keep b∨W' b) w' s v:=
 hg.mono h.size (λb hb hn=>⟨λhw=>hw.elim (λhk=>hn (.inl hk)) (λhw=>(h.own b hw).elim (λh1=>hn (.inr h1)) (λh2=>by omega)),h.block b hb (λhw=>hn (.inr hw))⟩)
def qJ(P:Program)(o:Oper)(a:Act)(w:World)(R:Value->World->Prop):Prop:=
 o.wp P a w (λa' w'=>∃v,a'=a.put o.dst v/\R v w') (λ_ _ _=>False)
def qJ.value{P:Program}{o:Oper}{a:Act}{w w':World}{R:Value->World->Prop}{v:Value}(h:(execOp a.eval o).run P w=.ok (.value v) w')(hr:R v w'):qJ P o a w R:=by
 unfold qJ Oper.wp;rw[h];exact⟨v,rfl,hr⟩
def qJ.skip{P:Program}{o:Oper}{a:Act}{w w':World}{R:Value->World->Prop}(h:(execOp a.eval o).run P w=.ok .skip w')(hr:R undef w'):qJ P o a w R:=by
 unfold qJ Oper.wp;rw[h];exact⟨undef,rfl,hr⟩
def qJ.call{P:Program}{o:Oper}{a:Act}{w w':World}{R:Value->World->Prop}{f:FuncId}{args:Array Value}(h:(execOp a.eval o).run P w=.ok (.enter f args) w')(hc:Calls P f args w' λe w''=>∃v,e=.returned v/\R v w''):qJ P o a w R:=by
 unfold qJ Oper.wp;rw[h];refine hc.mono ?_
 rintro e w'' ⟨v,rfl,hr⟩
 exact⟨v,rfl,hr⟩
def qJ.wp{P:Program}{o:Oper}{a:Act}{w:World}{R:Value->World->Prop}{K:LG}{Q:LF}(h:qJ P o a w R)(hk:∀v w',R v w'->K (a.put o.dst v) w'):o.wp P a w K Q:=by
 unfold qJ Oper.wp at*;generalize (execOp a.eval o).run P w=r at*
 cases r with
 |ok n w'=>
  cases n <;> simp only[Oper.upon]at h ⊢
  case value v=>obtain⟨u,e,hr⟩:=h;rw[e];exact hk u w' hr
  case skip=>obtain⟨u,e,hr⟩:=h;rw[e];exact hk u w' hr
  case defer d=>obtain⟨u,e,hr⟩:=h;rw[e];exact hk u w' hr
  case enter f args=>
   refine Calls.mono h λe w'' he=>?_
   cases e with
   |returned v=>obtain⟨u,e,hr⟩:=he;show K (a.put o.dst v) w'';rw[e];exact hk u w'' hr
   |panicked c=>exact he.elim
   |outgrown=>obtain⟨_,_,hf⟩:=he;exact hf.elim
  case row row args=>
   exact Rows.mono h (λv w' ⟨u,e,hr⟩=>by show K (a.put o.dst v) w';rw[e];exact hk u w' hr)
 |halt x w'=>cases x <;> simp only[Oper.upon]at h
def k8(Keep:LI)(M:LT)(ρ:zh)(w:World)(κ:Nat)(s:SV)(md:MD)(v:Value)(w':World):Prop:=
 ∃ρ',Stp (Own M ρ) (Own (zc6 M κ md) ρ') ρ ρ' w w'/\zL Keep (zc6 M κ md) ρ' w'/\
  G (λb=>Keep b∨Own (zc6 M κ md) ρ' b) (Own (zc6 M κ md) ρ') ρ' w' s v/\∀k,(k<κ∨zbH κ md<=k)->ρ' k=ρ k
def zwS:MD->Bool
 |.push _=>true
 |.repl _ _=>true
 |_=>false
def yR(P:Program)(op:Op)(svs:LR)(lm:LJ)(κ:Nat)(s:SV)(md:MD):Prop:=
 ∀(o:Oper),o.op=op->∀(Keep:LI) (M:LT) (ρ:zh) (a:Act) (w:World),
  (∀k m,lm k=some m->zU M k=some m)->zL Keep M ρ w->(∀k,κ<=k->k<zbH κ md->ρ k=none)->(zwS md=true->∀m,(κ,m)∉M)->
  Gs (λb=>Keep b∨Own M ρ b) (Own M ρ) ρ w svs ((qe op).map a.eval)->qJ P o a w (k8 Keep M ρ w κ s md)
def zA{M:LT}{k:Nat}{m:Mem}(h:zU M k=some m):(k,m)∈M:=by
 induction M with
 |nil=>simp[zU]at h
 |cons x r ih=>
  obtain⟨k',m'⟩:=x;simp only[zU]at h
  split at h
  ·rename_i hb;have:=Xj hb
   cases h;subst this;exact .head _
  exact .tail _ (ih h)
def k8.same{Keep:LI}{M:LT}{ρ:zh}{w:World}{κ:Nat}{s:SV}{v:Value}(hm:zL Keep M ρ w)(hg:G (λb=>Keep b∨Own M ρ b) (Own M ρ) ρ w s v):k8 Keep M ρ w κ s .none v w:=
 ⟨ρ,.refl,hm,hg,λ_ _=>rfl⟩
section inv
variable{S Pm:LI}{ρ:zh}{w:World}
section
variable{u:Value}
def D.val_inv{v:Value}(h:D S w (.val v) u):u=v:=by cases h;rfl
def G.val_inv{v u:Value}(h:G S Pm ρ w (.val v) u):u=v:=by cases h with|d _ _ h=>exact h.val_inv
def G.pr_inv{p:Prop}{i:Decidable p}(h:G S Pm ρ w (.pr p i) u):u=.bool (@decide p i):=by
 cases h with|d _ _ h=>cases h;rfl
variable{off:Nat}
def G.loc_inv{k:Nat}(h:G S Pm ρ w (.loc k off) u):∃b,ρ k=some (.pointer (some ⟨b,0,none⟩))/\u=.pointer (some ⟨b,off,none⟩):=by
 cases h with
 |d _ _ h=>cases h
 |loc _ _ b h=>exact⟨b,h,rfl⟩
def G.own_inv{k:Nat}(h:G S Pm ρ w (.own k) u):ρ k=some u/\u.oneCell'=true:=by
 cases h with
 |d _ _ h=>cases h
 |own _ _ h h1=>exact⟨h,h1⟩
variable{sz:Nat}
def G.eloc_inv{k:Nat}{i:Int}(h:G S Pm ρ w (.eloc k sz i off) u):
  ∃b len cap,ρ k=some (.slice (some ⟨b,0,none⟩) len cap)/\u=.pointer (some ⟨b,i.toNat*sz+off,none⟩):=by
 cases h with
 |d _ _ h=>cases h
 |eloc _ _ _ _ b len cap h=>exact⟨b,len,cap,h,rfl⟩
def G.win_inv{k:Nat}{lo n:Int}(h:G S Pm ρ w (.win k sz lo n) u):
  ∃b len cap cap',ρ k=some (.slice (some ⟨b,0,none⟩) len cap)/\u=.slice (some ⟨b,lo.toNat*sz,none⟩) n.toNat cap'/\lo.toNat+n.toNat<=len/\n.toNat<=cap':=by
 cases h with
 |d _ _ h=>cases h
 |win _ _ _ _ b len cap cap' h h1 h2=>exact⟨b,len,cap,cap',h,rfl,h1,h2⟩
variable{cs:LR}
def G.ptr_inv(h:G S Pm ρ w (.ptr cs) u):∃b o,∃c:Nat->Value,u=.pointer (some ⟨b,o,none⟩)/\b<w.heap.size/\¬Pm b/\
  (∀j,j<cs.length->w.cell? ⟨b,o+j,none⟩=some (c j)/\(c j).oneCell'=true)/\∀(j:Nat) (s:SV),cs[j]?=some s->D S w s (c j):=by
 cases h with
 |d _ _ h=>cases h
 |ptr _ b o c hb hP hc h=>exact⟨b,o,c,rfl,hb,hP,hc,h⟩
def G.dptr_inv(h:G S Pm ρ w (.dptr cs) u):∃b o,∃c:Nat->Value,u=.pointer (some ⟨b,o,none⟩)/\b<w.heap.size/\¬S b/\
  (∀j,j<cs.length->w.cell? ⟨b,o+j,none⟩=some (c j)/\(c j).oneCell'=true)/\∀(j:Nat) (s:SV),cs[j]?=some s->D S w s (c j):=by
 cases h with
 |d _ _ h=>cases h with|dptr _ b o c hb hS hc h=>exact⟨b,o,c,rfl,hb,hS,hc,h⟩
variable{f:FuncId}
def G.dfn_inv(h:G S Pm ρ w (.dfn f cs) u):∃vs:LA,u=.func (.func f) #[] vs.toArray/\Gs S Pm ρ w cs vs:=by
 cases h with
 |d _ _ h=>cases h with|dfn _ _ vs hl h=>exact⟨vs,rfl,hl,λj s v h1 h2=>.d _ _ (h j s v h1 h2)⟩
def G.bm_inv(h:G S Pm ρ w (.bm f cs) u):∃vs:LA,u=.func (.func f) vs.toArray #[]/\Gs S Pm ρ w cs vs:=by
 cases h with
 |d _ _ h=>cases h with|bm _ _ vs hl h=>exact⟨vs,rfl,hl,λj s v h1 h2=>.d _ _ (h j s v h1 h2)⟩
def G.op_inv{v:Value}(h:G S Pm ρ w (.op v) u):u=v/\ifB v=true:=by
 cases h with
 |d _ _ h=>cases h with|op _ h=>exact⟨rfl,h⟩
def G.ifc_inv{t:TypeId}{s:SV}(h:G S Pm ρ w (.ifc t s) u):∃v,u=.iface t v/\G S Pm ρ w s v:=by
 cases h with
 |d _ _ h=>cases h with|ifc _ _ v h=>exact⟨v,rfl,.d _ _ h⟩
 |ifc _ _ v h=>exact⟨v,rfl,h⟩
def G.agg_inv(h:G S Pm ρ w (.agg cs) u):∃vs:LA,u=.agg vs.toArray/\Gs S Pm ρ w cs vs:=by
 cases h with
 |d _ _ h=>cases h with|agg _ vs hl h=>exact⟨vs,rfl,hl,λj s v hs hv=>.d _ _ (h j s v hs hv)⟩
 |agg _ vs hl h=>exact⟨vs,rfl,hl,h⟩
def G.tup_inv(h:G S Pm ρ w (.tup cs) u):∃vs:LA,u=.tuple vs.toArray/\Gs S Pm ρ w cs vs:=by
 cases h with
 |d _ _ h=>cases h
 |tup _ vs hl h=>exact⟨vs,rfl,hl,h⟩
def G.fn_inv(h:G S Pm ρ w (.fn f cs) u):∃vs:LA,u=.func (.func f) #[] vs.toArray/\Gs S Pm ρ w cs vs:=by
 cases h with
 |d _ _ h=>cases h
 |fn _ _ vs hl h=>exact⟨vs,rfl,hl,h⟩
variable{α:Type}{xs:List α}
def G.sl_inv{enc:α->LR}(h:G S Pm ρ w (.sl enc xs) u):D S w (.sl enc xs) u:=by
 cases h with|d _ _ h=>exact h
def D.sl_inv{enc:α->LR}(h:D S w (.sl enc xs) u):
  (xs=[]/\∃a,u=.slice a 0 0)∨∃sz b o cap,∃c:Nat->Nat->Value,u=.slice (some ⟨b,o,none⟩) xs.length cap/\b<w.heap.size/\¬S b/\xs.length<=9223372036854775807/\xs.length<=cap/\
   (∀x∈xs,(enc x).length=sz)/\(∀i j,i<xs.length->j<sz->w.cell? ⟨b,o+i*sz+j,none⟩=some (c i j)/\(c i j).oneCell'=true)/\
   ∀(i j:Nat) (x:α) (s:SV),xs[i]?=some x->(enc x)[j]?=some s->D S w s (c i j):=by
 cases h with
 |nil _ a=>exact .inl ⟨rfl,a,rfl⟩
 |sl _ _ sz b o cap c hb hS hlen hcap hsz hc h=>exact .inr ⟨sz,b,o,cap,c,rfl,hb,hS,hlen,hcap,hsz,hc,h⟩
def G.nils_inv(h:G S Pm ρ w .nils u):∃a,u=.slice a 0 0:=by
 cases h with|d _ _ h=>cases h with|nils a=>exact⟨a,rfl⟩
def G.full_inv{enc:α->LR}(h:G S Pm ρ w (.full enc xs) u):∃a,u=.slice a xs.length xs.length/\D S w (.sl enc xs) u:=by
 cases h with|d _ _ h=>cases h with|full _ _ a h=>exact⟨a,rfl,h⟩
def G.anyb_inv(h:G S Pm ρ w .anyb u):∃b,u=.bool b:=by
 cases h with|d _ _ h=>cases h with|anyb b=>exact⟨b,rfl⟩
def Gs.nil:Gs S Pm ρ w [] []:=⟨rfl,λ_ _ _ h=>by simp at h⟩
variable{vs:LA}
def Gs.cons{s:SV}{v:Value}(h:G S Pm ρ w s v)(hs:Gs S Pm ρ w cs vs):Gs S Pm ρ w (s::cs) (v::vs):=
 ⟨by simp[hs.1],λj s' v' h1 h2=>by
  cases j with
  |zero=>simp at h1 h2;subst h1;subst h2;exact h
  |succ j=>simp at h1 h2;exact hs.2 j s' v' h1 h2⟩
def Gs.head{s:SV}{v:Value}(h:Gs S Pm ρ w (s::cs) (v::vs)):G S Pm ρ w s v:=h.2 0 s v rfl rfl
def Gs.tail{s:SV}{v:Value}(h:Gs S Pm ρ w (s::cs) (v::vs)):Gs S Pm ρ w cs vs:=
 ⟨by simpa using h.1,λj s' v' h1 h2=>h.2 (j+1) s' v' (by simpa using h1) (by simpa using h2)⟩
def Gs.cons_inv{s:SV}(h:Gs S Pm ρ w (s::cs) vs):∃v vs',vs=v::vs'/\G S Pm ρ w s v/\Gs S Pm ρ w cs vs':=by
 cases vs with
 |nil=>simp[Gs]at h
 |cons v vs=>exact⟨v,vs,rfl,h.head,h.tail⟩
def Gs.nil_inv(h:Gs S Pm ρ w [] vs):vs=[]:=by simpa[Gs] using h.1
def Gs.append{ds:LR}{us:LA}(h:Gs S Pm ρ w cs vs)(k:Gs S Pm ρ w ds us):Gs S Pm ρ w (cs++ds) (vs++us):=by
 induction cs generalizing vs with
 |nil=>rw[h.nil_inv];exact k
 |cons s cs ih=>obtain⟨v,vs',rfl,h1,h2⟩:=h.cons_inv;exact .cons h1 (ih h2)
def Gs.drop{cs:LR}{vs:LA}(n:Nat)(h:Gs S Pm ρ w cs vs):Gs S Pm ρ w (cs.drop n) (vs.drop n):=
 ⟨by simp[h.1],λj s v h1 h2=>h.2 (n+j) s v (by simpa using h1) (by simpa using h2)⟩
def Gs.take{cs:LR}{vs:LA}(n:Nat)(h:Gs S Pm ρ w cs vs):Gs S Pm ρ w (cs.take n) (vs.take n):=
 ⟨by simp[h.1],λj s v h1 h2=>by
  rw[XI]at h1 h2
  split at h1
  ·rename_i hj;rw[Xe hj]at h2;exact h.2 j s v h1 h2
  cases h1⟩
def Gs.vals(l:LA):Gs S Pm ρ w (vals l) l:=
 ⟨by simp[Go.Gs.vals],λj s v h1 h2=>by
  simp[Go.Gs.vals,h2]at h1;subst h1;exact .d _ _ (.val v)⟩
def Gs.mono'{S' Pm':LI}{ρ':zh}{w':World}(h:Gs S Pm ρ w cs vs)(hg:∀s v,G S Pm ρ w s v->G S' Pm' ρ' w' s v):Gs S' Pm' ρ' w' cs vs:=⟨h.1,λj s v h1 h2=>hg s v (h.2 j s v h1 h2)⟩
end
end inv
def qL{s:SV}{K:SV->Prop}(h:zaD s K):K s:=by
 cases s with
 |val v=>cases v with
  |bool b=>cases b <;> exact h
  |_=>exact h
 |_=>exact h
def zj{b:Bool}{K:Prop}(h:zQ b K):b=true/\K:=by cases b <;> first|exact h.elim|exact⟨rfl,h⟩
def kj{a b:Bool}(h:uv a b=true):a=true/\b=true:=by cases a <;> simp_all[uv]
def zD{Γ:LS}{t:TypeId}{K:TI->Prop}(h:kX Γ t K):∃i,ti Γ t=some i/\K i:=by
 unfold kX at h;split at h
 ·exact⟨_,‹_›,h⟩
 exact h.elim
def zfs(P:Program)(t:TypeId):TK->Prop
 |.int k=>P.underlying t=some (.int k)
 |.bool=>P.underlying t=some .bool
 |.str=>P.underlying t=some .string
 |.ptr e=>P.underlying t=some (.pointer e)
 |.slice e=>P.underlying t=some (.slice e)
 |.struct fs=>∃F,P.underlying t=some (.struct F)/\F.toList.map (λf=>(f.offset,f.type))=fs/\∃pl,F.toList.mapM (λf=>(P.info? f.type).map λi=>(f.offset,i.size))=some pl
 |.arr n e=>P.underlying t=some (.array n e)
 |.map k e=>P.underlying t=some (.map k e)
 |.iface=>∃ms,P.underlying t=some (.interface ms)
 |.other=>∃a b c,P.underlying t=some (.func a b c)
structure ziF (P:Program) (t:TypeId) (i:TI):Prop where
 inf:∃f,P.info? t=some f/\f.size=i.sz/\f.bytes=i.bytes/\∃z,f.zero=some z/\z.cells.toList=i.zero/\(i.kind.agg=false->z.cells=#[z])/\i.zero.length=i.sz/\
  ∀v∈i.zero,v.oneCell'=true
 kind:zfs P t i.kind
 zagg:i.kind.agg=true->∃f,P.info? t=some f/\f.zero=some (.agg i.zero.toArray)
 cmp:i.cmp=true->P.stoodInHeld t=false/\P.eqGuardType P.depth t=false/\∀f∈(P.fieldsOf t).toList,f.name≠ "_"
def TOK(P:Program)(Γ:LS):Prop:=∀t i,ti Γ t=some i->ziF P t i
section types
variable{P:Program}{t:TypeId}{i:TI}
def ziF.size(h:ziF P t i)(w:World):(sizeOf t).run P w=.ok i.sz w:=by
 obtain⟨f,h1,h2,_⟩:=h.inf;simp[sizeOf,typeInfo,h1,h2]
def ziF.agg(h:ziF P t i)(w:World):(isAgg t).run P w=.ok i.kind.agg w:=by
 have hk:=h.kind
 cases hi:i.kind <;> rw[hi]at hk <;> simp only[zfs]at hk
 case struct fs=>obtain⟨F,hF,_⟩:=hk;simp[isAgg,run_underlying hF,TK.agg]
 case other=>obtain⟨a,b,c,hd⟩:=hk;simp[isAgg,run_underlying hd,TK.agg]
 case iface=>obtain⟨ms,hd⟩:=hk;simp[isAgg,run_underlying hd,TK.agg]
 all_goals simp[isAgg,run_underlying hk,TK.agg]
def ziF.und(h:ziF P t i):∃d,P.underlying t=some d:=by
 have hk:=h.kind
 cases hi:i.kind <;> rw[hi]at hk <;> simp only[zfs]at hk
 case struct fs=>exact⟨_,hk.choose_spec.1⟩
 case other=>obtain⟨a,b,c,hd⟩:=hk;exact⟨_,hd⟩
 case iface=>obtain⟨ms,hd⟩:=hk;exact⟨_,hd⟩
 all_goals exact⟨_,hk⟩
end types
section
variable{Keep:LI}{ρ:zh}{ρ':zh}{w':World}{m:Mem}
def jH.keep{W W':LI}{w:World}{k:Nat}(hs:Stp W W' ρ ρ' w w')(hk:ρ' k=ρ k)(hb:∀v b,ρ k=some v->qb v=some b->w'.heap[b]?=w.heap[b]?)(h:jH (λb=>Keep b∨W b) W ρ w k m):jH (λb=>Keep b∨W' b) W' ρ' w' k m:=by
 cases m with
 |box T cs=>
  obtain⟨b,vs,h1,h2,h3,h4,h5⟩:=h;exact⟨b,vs,hk.trans h1,(hb _ b h1 rfl).trans h2,h3,h4,λj s v hs' hv=>(h5 j s v hs' hv).stp hs⟩
 |arr T enc sz xs=>
  obtain⟨v,cells,h1,h2,h3,h4,h5,h6⟩:=h;refine⟨v,cells,hk.trans h1,⟨h2.1,?_⟩,h3,h4,h5,λi j x s hx hj=>?_⟩
  ·rcases h2.2 with h|⟨g,cap,cur,rfl,h7,h8,h9⟩
   ·exact .inl h
   exact .inr ⟨g,cap,cur,rfl,h7,(hb _ g h1 rfl).trans h8,h9⟩
  obtain⟨u,hu,hd⟩:=h6 i j x s hx hj;exact⟨u,hu,hd.stp hs⟩
 |garr T sz xs=>
  obtain⟨v,cells,h1,h2,h3,h4,h5,h6⟩:=h;refine⟨v,cells,hk.trans h1,⟨h2.1,?_⟩,h3,h4,h5,λi j x s hx hj=>?_⟩
  ·rcases h2.2 with h|⟨g,cap,cur,rfl,h7,h8,h9⟩
   ·exact .inl h
   exact .inr ⟨g,cap,cur,rfl,h7,(hb _ g h1 rfl).trans h8,h9⟩
  obtain⟨u,hu,hd⟩:=h6 i j x s hx hj;exact⟨u,hu,hd.stp hs⟩
 |map es=>
  obtain⟨r,ents,clock,h1,h2,h3,h4⟩:=h;refine⟨r,ents,clock,hk.trans h1,(hb _ r h1 rfl).trans h2,h3,λi n s hi=>?_⟩;obtain⟨e,g1,g2,g3⟩:=h4 i n s hi;exact⟨e,g1,g2,g3.stp hs⟩
variable{M:LT}{M':LT}
def zL.next{w:World}(κ:Nat)(hm:zL Keep M ρ w)(hs:Stp (Own M ρ) (Own M' ρ') ρ ρ' w w')(hkeys:M'.Pairwise λa b=>a.1≠b.1)(hold:∀k m,(k,m)∈M'->k≠κ->(k,m)∈M/\ρ' k=ρ k/\∀v b,ρ k=some v->qb v=some b->w'.heap[b]?=w.heap[b]?)(hnew:∀m,(κ,m)∈M'->jH (λb=>Keep b∨Own M' ρ' b) (Own M' ρ') ρ' w' κ m)(hap:∀m v b,(κ,m)∈M'->ρ' κ=some v->qb v=some b->
   (∀k m v',(k,m)∈M'->k≠κ->ρ k=some v'->qb v'≠some b)/\b<w'.heap.size/\¬Keep b):zL Keep M' ρ' w' where
 rel k m hkm:=by
  by_cases hk:k=κ
  ·subst hk;exact hnew m hkm
  obtain⟨h1,h2,h3⟩:=hold k m hkm hk;exact(hm.rel k m h1).keep hs h2 h3
 keys:=hkeys
 apart k m k' m' v v' b h1 h2 hne hv hv' hb hb':=by
  by_cases hk:k=κ
  ·subst hk;have hk':k'≠k:=Ne.symm hne;obtain⟨_,h3,_⟩:=hold k' m' h2 hk';exact(hap m v b h1 hv hb).1 k' m' v' h2 hk' (h3 ▸ hv') hb'
  by_cases hk':k'=κ
  ·subst hk';obtain⟨_,h3,_⟩:=hold k m h1 hk;exact(hap m' v' b h2 hv' hb').1 k m v h1 hk (h3 ▸ hv) hb
  obtain⟨h3,h4,_⟩:=hold k m h1 hk;obtain⟨h5,h6,_⟩:=hold k' m' h2 hk';exact hm.apart k m k' m' v v' b h3 h5 hne (h4 ▸ hv) (h6 ▸ hv') hb hb'
 old b hb:=by
  obtain⟨k,m,v,h1,h2,h3⟩:=hb
  by_cases hk:k=κ
  ·subst hk;exact(hap m v b h1 h2 h3).2
  obtain⟨h4,h5,_⟩:=hold k m h1 hk;have:=hm.old b ⟨k,m,v,h4,h5 ▸ h2,h3⟩;exact⟨Xw this.1 hs.size,this.2⟩
 kp b hb:=Xw (hm.kp b hb) hs.size
 gl:=hm.glS hs
def qB{k:Nat}(x:Nat×Mem)(h:x∈qg M k):x∈M:=by
 induction M with
 |nil=>exact h
 |cons y r ih=>
  obtain⟨k',m'⟩:=y;simp only[qg]at h
  split at h
  ·exact .tail _ h
  cases h with
  |head=>exact .head _
  |tail _ h=>exact .tail _ (ih h)
def v9{k:Nat}(hp:M.Pairwise λa b=>a.1≠b.1)(x:Nat×Mem)(h:x∈qg M k):x.1≠k:=by
 induction M with
 |nil=>cases h
 |cons y r ih=>
  obtain⟨k',m'⟩:=y;rw[X9]at hp;simp only[qg]at h
  split at h
  ·rename_i hb;have:=Xj hb;subst this;exact λe=>hp.1 x h e.symm
  rename_i hb
  cases h with
  |head=>exact KF hb
  |tail _ h=>exact ih hp.2 h
def jg{M:LT}{k:Nat}(hp:M.Pairwise λa b=>a.1≠b.1):(qg M k).Pairwise λa b=>a.1≠b.1:=by
 induction M with
 |nil=>exact hp
 |cons y r ih=>
  obtain⟨k',m'⟩:=y;rw[X9]at hp;simp only[qg]
  split
  ·exact hp.2
  rw[X9];exact⟨λx hx=>hp.1 x (qB x hx),ih hp.2⟩
def jK{k:Nat}(hp:M.Pairwise λa b=>a.1≠b.1)(x:Nat×Mem)(h:x∈qK M k m):x.1≠k/\x∈M∨x=(k,m):=by
 induction M with
 |nil=>cases h
 |cons y r ih=>
  obtain⟨k',m'⟩:=y;rw[X9]at hp;simp only[qK]at h
  split at h
  ·rename_i hb;have:=Xj hb;subst this
   cases h with
   |head=>exact .inr rfl
   |tail _ h=>exact .inl ⟨λe=>hp.1 x h e.symm,.tail _ h⟩
  rename_i hb
  cases h with
  |head=>exact .inl ⟨KF hb,.head _⟩
  |tail _ h=>exact(ih hp.2 h).imp (λh=>⟨h.1,.tail _ h.2⟩) id
def zaP{k:Nat}:(qK M k m).map (·.1)=M.map (·.1):=by
 induction M with
 |nil=>rfl
 |cons y r ih=>
  obtain⟨k',m'⟩:=y;simp only[qK]
  split
  ·rename_i hb;have:=Xj hb;subst this;rfl
  simp[ih]
def yL(h:M'.map (·.1)=M.map (·.1))(hp:M.Pairwise λa b=>a.1≠b.1):M'.Pairwise λa b=>a.1≠b.1:=by
 have h1:(M.map (·.1)).Pairwise λa b=>a≠b:=JS.2 hp
 rw[←h]at h1;exact JS.1 h1
variable{b:Nat}
def zaa(h:M'.map (·.1)=M.map (·.1))(ho:Own M ρ b):Own M' ρ b:=by
 obtain⟨k,m,v,h1,h2,h3⟩:=ho;have:k∈M'.map (·.1):=by rw[h];exact XO.2 ⟨_,h1,rfl⟩
 obtain⟨⟨k',m'⟩,hx,rfl⟩:=XO.1 this;exact⟨_,m',v,hx,h2,h3⟩
def zhg{k:Nat}(hp:M.Pairwise λa b=>a.1≠b.1)(h:∀m,(k,m)∉M):((k,m)::M).Pairwise λa b=>a.1≠b.1:=
 X9.2 ⟨λx hx e=>by obtain⟨k',m'⟩:=x;have e:k=k':=e;subst e;exact h m' hx,hp⟩
def upd(ρ:zh)(κ:Nat)(v:Value):zh:=λk=>if k=κ then some v else ρ k
variable{κ:Nat}
def kD{v:Value}:upd ρ κ v κ=some v:=by simp[upd]
def zft{k:Nat}{v:Value}(h:k≠κ):upd ρ κ v k=ρ k:=by simp[upd,h]
def zL.write{w:World}(hm:zL Keep M ρ w){k:Nat}(m':Mem)(hk:(k,m)∈M){v:Value}(hv:ρ k=some v)(hb:qb v=some b)(cs:Array Value)(hrel:Stp (Own M ρ) (Own (qK M k m') ρ) ρ ρ w (w.setRow b cs)->jH (λb=>Keep b∨Own (qK M k m') ρ b) (Own (qK M k m') ρ) ρ (w.setRow b cs) k m'):
  Stp (Own M ρ) (Own (qK M k m') ρ) ρ ρ w (w.setRow b cs)/\zL Keep (qK M k m') ρ (w.setRow b cs):=by
 have hkeys:(qK M k m').map (·.1)=M.map (·.1):=zaP
 have hs:Stp (Own M ρ) (Own (qK M k m') ρ) ρ ρ w (w.setRow b cs):=
  ⟨rfl,rfl,.setRow _ _ _,sI,λb' _ hn=>setRow_other w b b' cs (λe=>hn ⟨k,m,v,hk,hv,e ▸ hb⟩),λb' hb'=>.inl (zaa hkeys.symm hb'),λ_ _ h=>h⟩
 refine⟨hs,zL.next k hm hs (yL hkeys hm.keys) ?_ ?_ ?_⟩
 ·intro k' m1 h1 hne
  obtain⟨_,h2⟩|h2:=jK hm.keys _ h1
  ·refine⟨h2,rfl,λv' b' hv' hb'=>setRow_other w b b' cs (λe=>?_)⟩;subst e;exact hm.apart k' m1 k m v' v b' h2 hk hne hv' hv hb' hb
  cases h2;exact absurd rfl hne
 ·intro m1 h1
  obtain⟨h2,_⟩|h2:=jK hm.keys _ h1
  ·exact absurd rfl h2
  cases h2;exact hrel hs
 intro m1 v' b' _ hv' hb';rw[hv]at hv';cases hv'
 rw[hb]at hb';cases hb'
 refine⟨λk' m2 v2 h2 hne hv2 hb2=>?_,by simpa using (hm.old b ⟨k,m,v,hk,hv,hb⟩).1,(hm.old b ⟨k,m,v,hk,hv,hb⟩).2⟩
 obtain⟨_,h3⟩|h3:=jK hm.keys _ h2
 ·exact hm.apart k' m2 k m v2 v b h3 hk hne hv2 hv hb2 hb
 cases h3;exact absurd rfl hne
def zL.grow{Keep:LI}{M M1:LT}{ρ:zh}{w:World}(hm:zL Keep M ρ w)(hsub:∀x∈M1,x∈M)(hpw:M1.Pairwise λa b=>a.1≠b.1){κ:Nat}(hκ:ρ κ=none)(hκM:∀m,(κ,m)∉M)(v:Value)(m:Mem)(w':World)(hos:w'.os=w.os)(htape:w'.tape=w.tape)(hout:kO w w')(hsize:w.heap.size<=w'.heap.size)(hblock:∀b,b<w.heap.size->¬Own M ρ b->w'.heap[b]?=w.heap[b]?)(hkeep:∀k m v b,(k,m)∈M1->ρ k=some v->qb v=some b->w'.heap[b]?=w.heap[b]?)(hv:∀b,qb v=some b->(Own M ρ b∨w.heap.size<=b)/\b<w'.heap.size/\∀k m v',(k,m)∈M1->ρ k=some v'->qb v'≠some b)(hrel:Stp (Own M ρ) (Own ((κ,m)::M1) (upd ρ κ v)) ρ (upd ρ κ v) w w'->
   jH (λb=>Keep b∨Own ((κ,m)::M1) (upd ρ κ v) b) (Own ((κ,m)::M1) (upd ρ κ v)) (upd ρ κ v) w' κ m):
  Stp (Own M ρ) (Own ((κ,m)::M1) (upd ρ κ v)) ρ (upd ρ κ v) w w'/\zL Keep ((κ,m)::M1) (upd ρ κ v) w':=by
 have hne:∀k m,(k,m)∈M1->k≠κ:=λk m h e=>by subst e;exact hκM m (hsub _ h)
 have hs:Stp (Own M ρ) (Own ((κ,m)::M1) (upd ρ κ v)) ρ (upd ρ κ v) w w':=by
  refine⟨hos,htape,hout,hsize,hblock,?_,?_⟩
  ·rintro b ⟨k,m',v',hk,hv',hb⟩
   cases hk with
   |head=>rw[kD]at hv';cases hv';exact(hv b hb).1
   |tail _ hk=>rw[zft (hne _ _ hk)]at hv';exact .inl ⟨k,m',v',hsub _ hk,hv',hb⟩
  intro k v' h;rw[zft (λe=>by subst e;rw[hκ]at h;cases h)];exact h
 refine⟨hs,zL.next κ hm hs (zhg hpw λm h=>hκM m (hsub _ h)) ?_ ?_ ?_⟩
 ·intro k m' h hk
  cases h with
  |head=>exact absurd rfl hk
  |tail _ h=>exact⟨hsub _ h,zft hk,λv' b h1 h2=>hkeep k m' v' b h h1 h2⟩
 ·intro m' h
  cases h with
  |head=>exact hrel hs
  |tail _ h=>exact absurd rfl (hne _ _ h)
 intro m' v' b _ h1 h2;rw[kD]at h1;cases h1
 obtain⟨h3,h4,h5⟩:=hv b h2;refine⟨λk m1 v1 h6 h7 h8=>?_,h4,λhk=>?_⟩
 ·cases h6 with
  |head=>exact absurd rfl h7
  |tail _ h6=>exact h5 k m1 v1 h6 h8
 rcases h3 with h3|h3
 ·exact(hm.old b h3).2 hk
 have:=hm.kp b hk;omega
def zL.let_go{Keep:LI}{M M1:LT}{ρ:zh}{w:World}(hm:zL Keep M ρ w)(hsub:∀x∈M1,x∈M)(hpw:M1.Pairwise λa b=>a.1≠b.1):
  Stp (Own M ρ) (Own M1 ρ) ρ ρ w w/\zL Keep M1 ρ w:=by
 have hs:Stp (Own M ρ) (Own M1 ρ) ρ ρ w w:=
  ⟨rfl,rfl,.refl _,Xk _,λ_ _ _=>rfl,λb ⟨k,m,v,h1,h2,h3⟩=>.inl ⟨k,m,v,hsub _ h1,h2,h3⟩,λ_ _ h=>h⟩
 exact⟨hs,λk m h=>(hm.rel k m (hsub _ h)).keep hs rfl (λ_ _ _ _=>rfl),hpw,
  λk m k' m' v v' b h1 h2=>hm.apart k m k' m' v v' b (hsub _ h1) (hsub _ h2),λb ⟨k,m,v,h1,h2,h3⟩=>hm.old b ⟨k,m,v,hsub _ h1,h2,h3⟩,hm.kp,hm.glS hs⟩
variable{k':IntKind}
def zf0{k:IntKind}(h:zrB k k'=true):k=k':=by cases k <;> cases k' <;> first|rfl|(simp[zrB]at h)
def InK(k:IntKind)(e:Int):Prop:=
 match k with
 |.i64=> -9223372036854775808<=e/\e<=9223372036854775807
 |.i32=> -2147483648<=e/\e<=2147483647
 |.i16=> -32768<=e/\e<=32767
 |.i8=> -128<=e/\e<=127
 |.u64=>0<=e/\e<=18446744073709551615
 |.u32=>0<=e/\e<=4294967295
 |.u16=>0<=e/\e<=65535
 |.u8=>0<=e/\e<=255
variable{e:Int}
def zo6{k:IntKind}(h:InK k e):k.wrap e=e:=by
 cases k <;> simp only[InK]at h <;> simp[IntKind.wrap,IntKind.bits,IntKind.signed] <;> (try split) <;> omega
variable{K:SV->Prop}
def u5{k:IntKind}(h:zlC k e K):K (.val (.int k (k.wrap e))):=by
 cases k <;> simp only[zlC]at h <;> cases h with
 |fit h1 h2=>rw[zo6 (by exact h1)];exact h2
 |wrap h=>exact h
def zar(s:SV)(v:Value):Prop:=(∃u,s=.val u/\v=u)∨∃p i,s=.pr p i/\v=.bool (@decide p i)
def zar.g{s:SV}{v:Value}(h:zar s v){S Pm:LI}{w:World}:G S Pm ρ w s v:=by
 obtain⟨u,rfl,rfl⟩|⟨p,i,rfl,rfl⟩:=h
 ·exact .d _ _ (.val _)
 exact .d _ _ (.pr p i)
def zar.val(v:Value):zar (.val v) v:=.inl ⟨v,rfl,rfl⟩
def zar.pr{p:Prop}{i:Decidable p}{b:Bool}(h:b=@decide p i):zar (.pr p i) (.bool b):=.inr ⟨p,i,rfl,by rw[h]⟩
def zAk{k:IntKind}(h0:0<=e)(h1:e<=kmax k):InK k e:=by cases k <;> simp only[kmax,InK] at*<;> omega
def zrN{op:BinOp}{k:IntKind}{m n:Int}(hs:zs7 op=false)(h:intV op k m n K):
  ∃s,K s/\∃v,zar s v/\∀(P:Program) (t:TypeId) (w:World),(binOp op t (.int k m) (.int k n)).run P w=.ok v w:=by
 cases op <;> simp only[intV]at h <;> try (exact h.elim)
 case add=>exact⟨_,u5 h,_,.val _,λP t w=>by simp[binOp,Op.intArith]⟩
 case sub=>exact⟨_,u5 h,_,.val _,λP t w=>by simp[binOp,Op.intArith]⟩
 case mul=>exact⟨_,u5 h,_,.val _,λP t w=>by simp[binOp,Op.intArith]⟩
 case quo=>
  cases h with
  |pos h1 h2=>
   refine⟨_,h2,_,.val _,λP t w=>?_⟩;have h3:n≠0:=oM;have h4:m.tdiv n=m/n:=Int.tdiv_eq_ediv_of_nonneg h1.1;have h5:0<=m/n:=Int.ediv_nonneg h1.1 oM;have h6:m/n<=m:=Int.ediv_le_self n h1.1;simp[binOp,Op.intDiv,h3,h4,zo6 (zAk h5 (Int.le_trans h6 h1.2.2))]
  |any h1 h2=>exact⟨_,u5 h2,_,.val _,λP t w=>by simp[binOp,Op.intDiv,h1]⟩
 case rem=>
  cases h with
  |pos h1 h2=>
   refine⟨_,h2,_,.val _,λP t w=>?_⟩;have h3:n≠0:=oM;have h4:m.tmod n=m%n:=Int.tmod_eq_emod_of_nonneg h1.1;simp[binOp,Op.intDiv,h3,h4]
  |any h1 h2=>exact⟨_,h2,_,.val _,λP t w=>by simp[binOp,Op.intDiv,h1]⟩
 case eql=>exact⟨_,h,.bool (m==n),.pr (by rw[Qv];simp),λP t w=>by simp[binOp,Op.intCmp]⟩
 case neq=>exact⟨_,h,.bool (m != n),.pr (by rw[Qv];simp),λP t w=>by simp[binOp,Op.intCmp]⟩
 case lss=>exact⟨_,h,.bool (decide (m<n)),.pr rfl,λP t w=>by simp[binOp,Op.intCmp]⟩
 case leq=>exact⟨_,h,.bool (decide (m<=n)),.pr rfl,λP t w=>by simp[binOp,Op.intCmp]⟩
 case gtr=>exact⟨_,h,.bool (decide (m > n)),.pr rfl,λP t w=>by simp[binOp,Op.intCmp]⟩
 case geq=>exact⟨_,h,.bool (decide (m≥n)),.pr rfl,λP t w=>by simp[binOp,Op.intCmp]⟩
 case and=>
  obtain⟨r,hr,h⟩:=h;refine⟨_,h,.int k r,.val _,λP t w=>?_⟩;rw[hr];simp[binOp,Op.intBits,vh]
 case or=>
  obtain⟨r,hr,h⟩:=h;refine⟨_,h,.int k r,.val _,λP t w=>?_⟩;rw[hr];simp[binOp,Op.intBits,vh]
 case xor=>
  obtain⟨r,hr,h⟩:=h;refine⟨_,h,.int k r,.val _,λP t w=>?_⟩;rw[hr];simp[binOp,Op.intBits,vh]
 case andNot=>
  obtain⟨r,hr,h⟩:=h;refine⟨_,h,.int k r,.val _,λP t w=>?_⟩;rw[hr];simp[binOp,Op.intBits,vh]
def zwT(m:Int)(c:Nat):m.fdiv (2^c)=m/2^c:=Int.fdiv_eq_ediv_of_nonneg m (Int.pow_nonneg oM)
def znJ{op:BinOp}{y:Operand}{k:IntKind}{m n:Int}(h:zrC op y k m n K):
  ∃s,K s/\∃v,zar s v/\∀(P:Program) (t:TypeId) (w:World),(binOp op t (.int k m) (.int k' n)).run P w=.ok v w:=by
 unfold zrC at h
 split at h
 ·split at h
  ·rename_i c;have hc:min c k.bits=c:=by have:=h.ob;omega
   refine⟨_,u5 h.go,_,.val _,λP t w=>?_⟩;simp[binOp,Op.shift,hc];intro hn;omega
  exact h.elim
 ·obtain⟨h0,h1⟩:=h.ob;have hc:min n.toNat k.bits=n.toNat:=oM;refine⟨_,u5 h.go,_,.val _,λP t w=>?_⟩;simp[binOp,Op.shift,hc,show¬n<0 by omega]
 ·split at h
  ·rename_i c;have hc:min c k.bits=c:=by have:=h.ob;omega
   refine⟨_,h.go,_,.val _,λP t w=>?_⟩;simp[binOp,Op.shift,hc,zwT];intro hn;omega
  exact h.elim
 ·obtain⟨h0,h1⟩:=h.ob;have hc:min n.toNat k.bits=n.toNat:=oM;refine⟨_,h.go,_,.val _,λP t w=>?_⟩;simp[binOp,Op.shift,hc,show¬n<0 by omega,zwT]
 exact h.elim
def eqB:LA->LA->Bool
 |.int _ m::r,.int _ n::r'=>(m==n)&&eqB r r'
 |[],[]=>true
 |_,_=>false
inductive y8:LA->LA->Prop
 |nil:y8 [] []
 |cons (k:IntKind) (m n:Int) {r r':LA} (h:y8 r r'):y8 (.int k m::r) (.int k n::r')
def zf1{cs ds:LR}:∀{K:(p:Prop)->Decidable p->Prop},zfW cs ds K->∃p i,K p i/\
  ∀{S Pm:LI} {ρ:zh} {w:World} {vs us:LA},Gs S Pm ρ w cs vs->Gs S Pm ρ w ds us->y8 vs us/\eqB vs us=@decide p i:=by
 induction cs generalizing ds with
 |nil=>
  intro K h
  cases ds with
  |nil=>exact⟨True,_,h,λh1 h2=>by rw[h1.nil_inv,h2.nil_inv];exact⟨.nil,rfl⟩⟩
  |cons d ds=>exact h.elim
 |cons c cs ih=>
  intro K h
  cases ds with
  |nil=>exact h.elim
  |cons d ds=>
   simp only[zfW]at h;have h:=qL (qL h)
   split at h
   ·rename_i k m k' n;obtain⟨hk,h'⟩:=zj h;obtain⟨p,i,hK,hp⟩:=ih h';have hk:=zf0 hk;refine⟨_,_,hK,λh1 h2=>?_⟩;obtain⟨v,vs,rfl,h3,h4⟩:=h1.cons_inv;obtain⟨u,us,rfl,h5,h6⟩:=h2.cons_inv;subst hk;rw[h3.val_inv,h5.val_inv];obtain⟨h7,h8⟩:=hp h4 h6;refine⟨.cons _ _ _ h7,?_⟩;simp only[eqB,h8];rw[Qv];simp
   exact h.elim
def y8.length{vs us:LA}(h:y8 vs us):vs.length=us.length:=by induction h <;> simp_all
def y8.drop{vs us:LA}(n:Nat)(h:y8 vs us):y8 (vs.drop n) (us.drop n):=by
 induction n generalizing vs us with
 |zero=>exact h
 |succ n ih=>cases h with
  |nil=>exact .nil
  |cons k m n h=>exact ih h
def y8.take{vs us:LA}(n:Nat)(h:y8 vs us):y8 (vs.take n) (us.take n):=by
 induction n generalizing vs us with
 |zero=>exact .nil
 |succ n ih=>cases h with
  |nil=>exact .nil
  |cons k m n h=>exact .cons _ _ _ (ih h)
def zl0{vs us:LA}(n:Nat)(h:y8 vs us):eqB vs us=(eqB (vs.take n) (us.take n)&&eqB (vs.drop n) (us.drop n)):=by
 induction n generalizing vs us with
 |zero=>simp[eqB]
 |succ n ih=>cases h with
  |nil=>rfl
  |cons k m n h=>simp[eqB,ih h,Bool.and_assoc]
def zdp(agg:Bool)(vs:LA):Value:=if agg then .agg vs.toArray else vs.headD undef
def zbT{P:Program}{t:TypeId}{i:TI}(hT:ziF P t i)(vs:LA)(off:Nat)(h:off+i.sz<=vs.length)(hz:i.kind.agg=false->i.sz=1)(w:World):
  (part t vs.toArray off).run P w=.ok (zdp i.kind.agg ((vs.drop off).take i.sz)) w:=by
 unfold part;rw[Sem.run_bind,hT.agg w,Result.andThen_ok]
 cases hk:i.kind.agg with
 |true=>simp[hT.size,zdp]
 |false=>
  have h1:=hz hk;have hlt:off<vs.length:=oM;have h2:(List.take 1 (List.drop off vs))=[vs[off]]:=by rw[KS hlt];rfl
  simp[zdp,h1,hlt,h2]
def zo7{P:Program}{Γ:LS}(hT:TOK P Γ)(n:Nat)(ih:∀t i,ti Γ t=some i->zfX Γ n t=true->(i.kind.agg=false->i.sz=1)/\∀(d:Nat) (vs us:LA) (w:World),vs.length=i.sz->y8 vs us->
   (Op.equalIn (n+d) t (zdp i.kind.agg vs) (zdp i.kind.agg us)).run P w=.ok (eqB vs us) w)(d sz:Nat)(vs us:LA)(hl:vs.length=sz)(hp:y8 vs us)(w:World):
  ∀(F:List Field) (at_:Nat),zji Γ (zfX Γ n) (F.map λf=>(f.offset,f.type)) at_ sz=true->(∀f∈F,f.name≠ "_")->
   at_<=sz/\(Op.eqFields (n+d) vs.toArray us.toArray F).run P w=.ok (eqB (vs.drop at_) (us.drop at_)) w
 |[],at_,h,_=>by
  simp only[List.map_nil,zji]at h;have h:=Xj h;subst h;have hlu:=hp.length;simp[Op.eqFields,Jf (Nat.le_of_eq hl),Jf (Nat.le_of_eq (hlu ▸ hl)),eqB]
 |f::F,at_,h,hn=>by
  simp only[QO,zji]at h
  split at h
  ·rename_i j hj;obtain⟨h1,h⟩:=kj h;obtain⟨h2,h3⟩:=kj h;have h1:=Xj h1;obtain⟨hz,he⟩:=ih _ _ hj h2;obtain⟨h4,h5⟩:=zo7 hT n ih d sz vs us hl hp w F (at_+j.sz) h3 (λf hf=>hn f (.tail _ hf));have hlu:=hp.length;have p1:=zbT (hT _ _ hj) vs f.offset oM hz w;have p2:=zbT (hT _ _ hj) us f.offset oM hz w;have he':=he d ((vs.drop f.offset).take j.sz) ((us.drop f.offset).take j.sz) w (by simp;omega) ((hp.drop _).take _);refine⟨oM,?_⟩;have hs:=zl0 j.sz (hp.drop f.offset)
   simp only[Op.eqFields,hn f (.head _),ne_eq,not_false_eq_true,if_true,Sem.run_bind,p1,p2,Result.andThen_ok,he'];rw[←h1,hs]
   cases hb:eqB ((vs.drop f.offset).take j.sz) ((us.drop f.offset).take j.sz) with
   |true=>simp[h5,h1,JJ]
   |false=>simp
  cases h
def zdq{P:Program}{Γ:LS}(hT:TOK P Γ):∀(n:Nat) (t:TypeId) (i:TI),ti Γ t=some i->zfX Γ n t=true->
  (i.kind.agg=false->i.sz=1)/\∀(d:Nat) (vs us:LA) (w:World),vs.length=i.sz->y8 vs us->
   (Op.equalIn (n+d) t (zdp i.kind.agg vs) (zdp i.kind.agg us)).run P w=.ok (eqB vs us) w
 |0,t,i,hi,h=>by simp[zfX]at h
 |n+1,t,i,hi,h=>by
  unfold zfX at h;rw[hi]at h;simp only at h;have hK:=(hT t i hi).kind
  split at h
  ·rename_i k hk;rw[hk]at hK;have hz:=Xj h;refine⟨λ_=>hz,λd vs us w hl hp=>?_⟩;rw[hz]at hl
   cases hp with
   |nil=>simp at hl
   |cons k' m m' h=>
    cases h with
    |nil=>
     rw[show n+1+d=(n+d)+1 by omega];simp only[hk,TK.agg,zdp,Ky,if_false,List.headD_cons,run_equalIn_int w _ t k' k m _ hK,eqB,Bool.and_true]
    |cons=>simp at hl
  ·rename_i fs hk;obtain⟨hc,hg⟩:=kj h;rw[hk]at hK;obtain⟨F,hF,hmap,_⟩:=hK;obtain⟨h1,h2,h3⟩:=(hT t i hi).cmp hc;have hfo:P.fieldsOf t=F:=by simp[Program.fieldsOf,hF]
   refine⟨λh=>(by rw[hk]at h;cases h),λd vs us w hl hp=>?_⟩;rw[show n+1+d=(n+d)+1 by omega];rw[←hmap]at hg;have:=(zo7 hT n (zdq hT n) d i.sz vs us hl hp w F.toList 0 hg (by rw[←hfo];exact h3)).2;simp only[hk,TK.agg,zdp,if_true];rw[run_equalIn_struct w (n+d) t _ _ (by rw[hfo];exact hF) h1,hfo]
   simpa using this
  ·rename_i len e hk;obtain⟨hc,g1⟩:=kj h;obtain⟨hlen,g2⟩:=kj g1;obtain⟨hisz,g3⟩:=kj g2;have hlen:=Xj hlen;have hisz:=Xj hisz;subst hlen;clear h g1 g2
   cases hj:ti Γ e with
   |some j=>
    rw[hj]at g3;obtain⟨hjz,hje⟩:=kj g3;have hjz:=Xj hjz;rw[hk]at hK;have hK:P.underlying t=some (.array 2 e):=hK;obtain⟨hz,he⟩:=zdq hT n e j hj hje;refine⟨λh=>(by rw[hk]at h;cases h),λd vs us w hl hp=>?_⟩;rw[show n+1+d=(n+d)+1 by omega];simp only[hk,TK.agg,zdp,if_true];obtain⟨f,hf,hfs,_⟩:=(hT e j hj).inf;rw[run_equalIn_array w (n+d) _ _ hK hf];have hco:P.cellsOf e=1:=by unfold Program.cellsOf;rw[hf];simp[hfs,hjz]
    have hlu:=hp.length;have p1:=zbT (hT e j hj) vs 0 oM hz w;have p2:=zbT (hT e j hj) us 0 oM hz w;have p3:=zbT (hT e j hj) vs 1 oM hz w;have p4:=zbT (hT e j hj) us 1 oM hz w;have e1:=he d ((vs.drop 0).take j.sz) ((us.drop 0).take j.sz) w (by simp;omega) ((hp.drop 0).take _);have e2:=he d ((vs.drop 1).take j.sz) ((us.drop 1).take j.sz) w (by simp;omega) ((hp.drop 1).take _);have hs:=zl0 1 hp;have t1:(vs.drop 1).take j.sz=vs.drop 1:=Xi (by simp;omega);have t2:(us.drop 1).take j.sz=us.drop 1:=Xi (by simp;omega)
    rw[t1,t2]at e2;rw[hjz]at e1;rw[t1]at p3;rw[t2]at p4;rw[hjz]at p1 p2;rw[hs,hco];have hr2:List.range 2=[0,1]:=rfl;rw[hr2];simp only[Op.eqItems,Sem.run_bind,Jk,Yt,p1,p2,p3,p4,Result.andThen_ok,e1,e2];simp only[KY]
    cases hb:eqB (vs.take 1) (us.take 1) with
    |true=>
     rw[hb] at*
     cases hb2:eqB (vs.drop 1) (us.drop 1) with
     |true=>rw[hb2,JV,JV]at e2;simp[p3,p4,e2]
     |false=>rw[hb2,JV,JV]at e2;simp[p3,p4,e2]
    |false=>simp
   |none=>rw[hj]at g3;cases g3
  cases h
def zee{s:SV}{K:(p:Prop)->Decidable p->Prop}(h:zuO s K):∃p i,K p i/\∀{S Pm:LI} {ρ:zh} {w:World} {v:Value},G S Pm ρ w s v->v=.bool (@decide p i):=by
 unfold zuO at h
 split at h
 ·exact⟨_,_,h,λhg=>hg.pr_inv⟩
 ·exact⟨_,_,h,λhg=>by rw[hg.val_inv];rfl⟩
 ·exact⟨_,_,h,λhg=>by rw[hg.val_inv];rfl⟩
 exact h.elim
end
end Go.Gs
