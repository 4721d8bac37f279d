/- What is uw stays uw; one operation carried out. -/
import Derived.Test.YtjfbljononkmcaaMA
import Derived.Test.YtjfbljononkmcaaMAB
import Derived.Laws.Rows
import Derived.Laws.Tables
import Derived.RowKit3
import Derived.Laws.StructEq
import Derived.Laws.MakeOwn
import Derived.Laws.Slices
set_option maxRecDepth 100000
set_option maxHeartbeats 8000000
set_option linter.all false
namespace Go.Gs
theorem vd{w w':World}{b o:Nat}(h:w'.heap[b]? =w.heap[b]?):w'.cell? ⟨b,o,none⟩=w.cell? ⟨b,o,none⟩:=by
 simp only [World.cell?,h]
theorem D.mono {S S':Nat->Prop} {w w':World} (hz:w.heap.size<=w'.heap.size)
  (hS:∀b,b < w.heap.size->¬S b->¬S' b/\w'.heap[b]? =w.heap[b]?) {s:SV} {v:Value} (h:D S w s v):D S' w' s v:=by
 induction h with
 | val v=>exact .val v
 | pr p i=>exact .pr p i
 | agg cs vs hl h ih=>exact .agg cs vs hl ih
 | nil enc a=>exact .nil enc a
 | nils a=>exact .nils a
 | anyb b=>exact .anyb b
 | junk v=>exact .junk v
 | full enc xs a h ih=>exact .full enc xs a ih
 | sl enc xs sz b o cap c hb hS' hlen hcap hsz hc h ih=>
  obtain ⟨h1,h2⟩:=hS b hb hS';exact .sl enc xs sz b o cap c (Nat.lt_of_lt_of_le hb hz) h1 hlen hcap hsz (fun i j hi hj=>by rw [vd h2];exact hc i j hi hj) ih
 | dptr cs b o c hb hS' hc h ih=>
  obtain ⟨h1,h2⟩:=hS b hb hS';exact .dptr cs b o c (Nat.lt_of_lt_of_le hb hz) h1 (fun j hj=>by rw [vd h2];exact hc j hj) ih
 | dfn f cs vs hl h ih=>exact .dfn f cs vs hl ih
 | bm f cs vs hl h ih=>exact .bm f cs vs hl ih
 | op v h=>exact .op v h
 | ifc t s v h ih=>exact .ifc t s v ih
theorem G.mono {S S' Pm Pm':Nat->Prop} {ρ ρ':zd} {w w':World} (hz:w.heap.size<=w'.heap.size)
  (hS:∀b,b < w.heap.size->¬S b->¬S' b/\w'.heap[b]? =w.heap[b]?)
  (hP:∀b,b < w.heap.size->¬Pm b->¬Pm' b/\w'.heap[b]? =w.heap[b]?)
  (hρ:∀k v,ρ k=some v->ρ' k=some v) {s:SV} {v:Value} (h:G S Pm ρ w s v):G S' Pm' ρ' w' s v:=by
 induction h with
 | d s v h=>exact .d s v (h.mono hz hS)
 | loc k off b h=>exact .loc k off b (hρ _ _ h)
 | own k v h h1=>exact .own k v (hρ _ _ h) h1
 | eloc k sz i off b len cap h=>exact .eloc k sz i off b len cap (hρ _ _ h)
 | win k sz lo n b len cap cap' h h1 h2=>exact .win k sz lo n b len cap cap' (hρ _ _ h) h1 h2
 | ptr cs b o c hb hP' hc h=>
  obtain ⟨h1,h2⟩:=hP b hb hP';exact .ptr cs b o c (Nat.lt_of_lt_of_le hb hz) h1 (fun j hj=>by rw [vd h2];exact hc j hj) (fun j s hs=>(h j s hs).mono hz hS)
 | agg cs vs hl h ih=>exact .agg cs vs hl ih
 | tup cs vs hl h ih=>exact .tup cs vs hl ih
 | fn f cs vs hl h ih=>exact .fn f cs vs hl ih
 | ifc t s v h ih=>exact .ifc t s v ih
theorem ziu.refl(w:World):ziu w w:=⟨rfl,fun _=>rfl⟩
theorem ziu.trans{w w' w'':World}(h:ziu w w')(k:ziu w' w''):ziu w w'':=⟨k.1.trans h.1,fun a=>(k.2 a).trans (h.2 a)⟩
theorem ziu.cells(w:World)(c:Array Value)(t:TypeId):ziu w (w.alloc (.cells c t)):=⟨rfl,fun a=>RowKit.frozen?_alloc_cells w c t a⟩
theorem ziu.setRow(w:World)(g:Nat)(cs:Array Value):ziu w (w.setRow g cs):=⟨rfl,fun a=>by
 show World.frozen? { w with heap:=w.heap.modify g _ } a=_;unfold World.frozen?;simp only [Array.getElem?_modify]
 by_cases h:g=a.block
 ·simp only [h,if_true]
  cases w.heap[a.block]? with
  | none=>rfl
  | some o=>cases o <;> rfl
 ·simp only [h,if_false]⟩
theorem Stp.refl{W:Nat->Prop}{ρ:zd}{w:World}:Stp W W ρ ρ w w:=⟨rfl,rfl,.refl _,Nat.le_refl _,fun _ _ _=>rfl,fun _ h=>.inl h,fun _ _ h=>h⟩
theorem Stp.trans{W W' W'':Nat->Prop}{ρ ρ' ρ'':zd}{w w' w'':World}(h:Stp W W' ρ ρ' w w')(k:Stp W' W'' ρ' ρ'' w' w''):Stp W W'' ρ ρ'' w w'':=
 ⟨k.os.trans h.os,k.tape.trans h.tape,h.output.trans k.output,Nat.le_trans h.size k.size,
  fun b hb hn=>(k.block b (Nat.lt_of_lt_of_le hb h.size) (fun hw=>(h.own b hw).elim hn (fun h2=>by omega))).trans (h.block b hb hn),
  fun b hb=>(k.own b hb).elim (h.own b) (fun h2=>.inr (Nat.le_trans h.size h2)),fun k' v hv=>k.rho _ _ (h.rho _ _ hv)⟩
theorem G.stp {Keep W W':Nat->Prop} {ρ ρ':zd} {w w':World} (h:Stp W W' ρ ρ' w w') {s:SV} {v:Value}
  (hg:G (fun b=>Keep b∨W b) W ρ w s v):G (fun b=>Keep b∨W' b) W' ρ' w' s v:=
 hg.mono h.size (fun b hb hn=>⟨fun hw=>hw.elim (fun hk=>hn (.inl hk)) (fun hw=>(h.own b hw).elim (fun h1=>hn (.inr h1)) (fun h2=>by omega)),h.block b hb (fun hw=>hn (.inr hw))⟩)
  (fun b hb hn=>⟨fun hw=>(h.own b hw).elim hn (fun h2=>by omega),h.block b hb hn⟩) h.rho
theorem D.stp {Keep W W':Nat->Prop} {ρ ρ':zd} {w w':World} (h:Stp W W' ρ ρ' w w') {s:SV} {v:Value}
  (hg:D (fun b=>Keep b∨W b) w s v):D (fun b=>Keep b∨W' b) w' s v:=
 hg.mono h.size (fun b hb hn=>⟨fun hw=>hw.elim (fun hk=>hn (.inl hk)) (fun hw=>(h.own b hw).elim (fun h1=>hn (.inr h1)) (fun h2=>by omega)),h.block b hb (fun hw=>hn (.inr hw))⟩)
def zO(P:Program)(o:Oper)(a:Act)(w:World)(R:Value->World->Prop):Prop:=
 o.wp P a w (fun a' w'=>∃v,a'=a.put o.dst v/\R v w') (fun _ _ _=>False)
theorem zO.value {P:Program} {o:Oper} {a:Act} {w w':World} {R:Value->World->Prop} {v:Value}
  (h:(execOp a.eval o).run P w=.ok (.value v) w') (hr:R v w'):zO P o a w R:=by
 unfold zO Oper.wp;rw [h];exact ⟨v,rfl,hr⟩
theorem zO.skip {P:Program} {o:Oper} {a:Act} {w w':World} {R:Value->World->Prop}
  (h:(execOp a.eval o).run P w=.ok .skip w') (hr:R undef w'):zO P o a w R:=by
 unfold zO Oper.wp;rw [h];exact ⟨undef,rfl,hr⟩
theorem zO.call {P:Program} {o:Oper} {a:Act} {w w':World} {R:Value->World->Prop} {f:FuncId} {args:Array Value}
  (h:(execOp a.eval o).run P w=.ok (.enter f args) w') (hc:Calls P f args w' fun e w''=>∃v,e=.returned v/\R v w''):zO P o a w R:=by
 unfold zO Oper.wp;rw [h];refine hc.mono ?_
 rintro e w'' ⟨v,rfl,hr⟩
 exact ⟨v,rfl,hr⟩
theorem zO.wp {P:Program} {o:Oper} {a:Act} {w:World} {R:Value->World->Prop} {K:Act->World->Prop} {Q:Exit->Act->World->Prop}
  (h:zO P o a w R) (hk:∀v w',R v w'->K (a.put o.dst v) w'):o.wp P a w K Q:=by
 unfold zO Oper.wp at*;generalize (execOp a.eval o).run P w=r at*
 cases r with
 | ok n w'=>
  cases n <;> simp only [Oper.upon] at h ⊢
  case value v=>obtain ⟨u,e,hr⟩:=h;rw [e];exact hk u w' hr
  case skip=>obtain ⟨u,e,hr⟩:=h;rw [e];exact hk u w' hr
  case defer d=>obtain ⟨u,e,hr⟩:=h;rw [e];exact hk u w' hr
  case enter f args=>
   refine Calls.mono h ?_;intro e w'' he
   cases e with
   | returned v=>obtain ⟨u,e,hr⟩:=he;show K (a.put o.dst v) w'';rw [e];exact hk u w'' hr
   | panicked c=>exact he.elim
   | outgrown=>obtain ⟨_,_,hf⟩:=he;exact hf.elim
  case row row args=>
   exact Rows.mono h (fun v w' ⟨u,e,hr⟩=>by show K (a.put o.dst v) w';rw [e];exact hk u w' hr)
 | halt x w'=>cases x <;> simp only [Oper.upon] at h
def zE(Keep:Nat->Prop)(M:List (Nat×Mem))(ρ:zd)(w:World)(κ:Nat)(s:SV)(md:MD)(v:Value)(w':World):Prop:=
 ∃ρ',Stp (Own M ρ) (Own (jO M κ md) ρ') ρ ρ' w w'/\zj Keep (jO M κ md) ρ' w'/\
  G (fun b=>Keep b∨Own (jO M κ md) ρ' b) (Own (jO M κ md) ρ') ρ' w' s v/\∀k,(k < κ∨qV κ md<=k)->ρ' k=ρ k
def zfY:MD->Bool
 | .push _=>true
 | .repl _ _=>true
 | _=>false
def kE(P:Program)(op:Op)(svs:List SV)(lm:Nat->Option Mem)(κ:Nat)(s:SV)(md:MD):Prop:=
 ∀(o:Oper),o.op=op->∀(Keep:Nat->Prop) (M:List (Nat×Mem)) (ρ:zd) (a:Act) (w:World),
  (∀k m,lm k=some m->zl M k=some m)->zj Keep M ρ w->(∀k,κ<=k->k < qV κ md->ρ k=none)->(zfY md=true->∀m,(κ,m)∉M)->
  Gs (fun b=>Keep b∨Own M ρ b) (Own M ρ) ρ w svs ((zG op).map a.eval)->zO P o a w (zE Keep M ρ w κ s md)
theorem zg{M:List (Nat×Mem)}{k:Nat}{m:Mem}(h:zl M k=some m):(k,m)∈M:=by
 induction M with
 | nil=>simp [zl] at h
 | cons x r ih=>
  obtain ⟨k',m'⟩:=x;simp only [zl] at h
  split at h
  ·rename_i hb;have:=Nat.eq_of_beq_eq_true hb
   cases h;subst this;exact .head _
  ·exact .tail _ (ih h)
theorem zE.same {Keep:Nat->Prop} {M:List (Nat×Mem)} {ρ:zd} {w:World} {κ:Nat} {s:SV} {v:Value} (hm:zj Keep M ρ w)
  (hg:G (fun b=>Keep b∨Own M ρ b) (Own M ρ) ρ w s v):zE Keep M ρ w κ s .none v w:=
 ⟨ρ,.refl,hm,hg,fun _ _=>rfl⟩
section inv
variable {S Pm:Nat->Prop} {ρ:zd} {w:World}
theorem D.val_inv{v u:Value}(h:D S w (.val v) u):u=v:=by cases h;rfl
theorem G.val_inv{v u:Value}(h:G S Pm ρ w (.val v) u):u=v:=by cases h with | d _ _ h=>exact h.val_inv
theorem G.pr_inv{p:Prop}{i:Decidable p}{u:Value}(h:G S Pm ρ w (.pr p i) u):u=.bool (@decide p i):=by
 cases h with | d _ _ h=>cases h;rfl
theorem G.loc_inv{k off:Nat}{u:Value}(h:G S Pm ρ w (.loc k off) u):∃b,ρ k=some (.pointer (some ⟨b,0,none⟩))/\u=.pointer (some ⟨b,off,none⟩):=by
 cases h with
 | d _ _ h=>cases h
 | loc _ _ b h=>exact ⟨b,h,rfl⟩
theorem G.own_inv{k:Nat}{u:Value}(h:G S Pm ρ w (.own k) u):ρ k=some u/\u.oneCell'=true:=by
 cases h with
 | d _ _ h=>cases h
 | own _ _ h h1=>exact ⟨h,h1⟩
theorem G.eloc_inv{k sz off:Nat}{i:Int}{u:Value}(h:G S Pm ρ w (.eloc k sz i off) u):
  ∃b len cap,ρ k=some (.slice (some ⟨b,0,none⟩) len cap)/\u=.pointer (some ⟨b,i.toNat*sz+off,none⟩):=by
 cases h with
 | d _ _ h=>cases h
 | eloc _ _ _ _ b len cap h=>exact ⟨b,len,cap,h,rfl⟩
theorem G.win_inv{k sz:Nat}{lo n:Int}{u:Value}(h:G S Pm ρ w (.win k sz lo n) u):
  ∃b len cap cap',ρ k=some (.slice (some ⟨b,0,none⟩) len cap)/\u=.slice (some ⟨b,lo.toNat*sz,none⟩) n.toNat cap'/\lo.toNat+n.toNat<=len/\n.toNat<=cap':=by
 cases h with
 | d _ _ h=>cases h
 | win _ _ _ _ b len cap cap' h h1 h2=>exact ⟨b,len,cap,cap',h,rfl,h1,h2⟩
theorem G.ptr_inv{cs:List SV}{u:Value}(h:G S Pm ρ w (.ptr cs) u):∃b o,∃c:Nat->Value,u=.pointer (some ⟨b,o,none⟩)/\b < w.heap.size/\¬Pm b/\
  (∀j,j < cs.length->w.cell? ⟨b,o+j,none⟩=some (c j)/\(c j).oneCell'=true)/\∀(j:Nat) (s:SV),cs[j]? =some s->D S w s (c j):=by
 cases h with
 | d _ _ h=>cases h
 | ptr _ b o c hb hP hc h=>exact ⟨b,o,c,rfl,hb,hP,hc,h⟩
theorem G.dptr_inv{cs:List SV}{u:Value}(h:G S Pm ρ w (.dptr cs) u):∃b o,∃c:Nat->Value,u=.pointer (some ⟨b,o,none⟩)/\b < w.heap.size/\¬S b/\
  (∀j,j < cs.length->w.cell? ⟨b,o+j,none⟩=some (c j)/\(c j).oneCell'=true)/\∀(j:Nat) (s:SV),cs[j]? =some s->D S w s (c j):=by
 cases h with
 | d _ _ h=>cases h with | dptr _ b o c hb hS hc h=>exact ⟨b,o,c,rfl,hb,hS,hc,h⟩
theorem G.dfn_inv{f:FuncId}{cs:List SV}{u:Value}(h:G S Pm ρ w (.dfn f cs) u):∃vs:List Value,u=.func (.func f) #[] vs.toArray/\Gs S Pm ρ w cs vs:=by
 cases h with
 | d _ _ h=>cases h with | dfn _ _ vs hl h=>exact ⟨vs,rfl,hl,fun j s v h1 h2=>.d _ _ (h j s v h1 h2)⟩
theorem G.bm_inv{f:FuncId}{cs:List SV}{u:Value}(h:G S Pm ρ w (.bm f cs) u):∃vs:List Value,u=.func (.func f) vs.toArray #[]/\Gs S Pm ρ w cs vs:=by
 cases h with
 | d _ _ h=>cases h with | bm _ _ vs hl h=>exact ⟨vs,rfl,hl,fun j s v h1 h2=>.d _ _ (h j s v h1 h2)⟩
theorem G.op_inv{v u:Value}(h:G S Pm ρ w (.op v) u):u=v/\ifB v=true:=by
 cases h with
 | d _ _ h=>cases h with | op _ h=>exact ⟨rfl,h⟩
theorem G.ifc_inv{t:TypeId}{s:SV}{u:Value}(h:G S Pm ρ w (.ifc t s) u):∃v,u=.iface t v/\G S Pm ρ w s v:=by
 cases h with
 | d _ _ h=>cases h with | ifc _ _ v h=>exact ⟨v,rfl,.d _ _ h⟩
 | ifc _ _ v h=>exact ⟨v,rfl,h⟩
theorem G.agg_inv{cs:List SV}{u:Value}(h:G S Pm ρ w (.agg cs) u):∃vs:List Value,u=.agg vs.toArray/\Gs S Pm ρ w cs vs:=by
 cases h with
 | d _ _ h=>cases h with | agg _ vs hl h=>exact ⟨vs,rfl,hl,fun j s v hs hv=>.d _ _ (h j s v hs hv)⟩
 | agg _ vs hl h=>exact ⟨vs,rfl,hl,h⟩
theorem G.tup_inv{cs:List SV}{u:Value}(h:G S Pm ρ w (.tup cs) u):∃vs:List Value,u=.tuple vs.toArray/\Gs S Pm ρ w cs vs:=by
 cases h with
 | d _ _ h=>cases h
 | tup _ vs hl h=>exact ⟨vs,rfl,hl,h⟩
theorem G.fn_inv{f:FuncId}{cs:List SV}{u:Value}(h:G S Pm ρ w (.fn f cs) u):∃vs:List Value,u=.func (.func f) #[] vs.toArray/\Gs S Pm ρ w cs vs:=by
 cases h with
 | d _ _ h=>cases h
 | fn _ _ vs hl h=>exact ⟨vs,rfl,hl,h⟩
theorem G.sl_inv{α:Type}{enc:α->List SV}{xs:List α}{u:Value}(h:G S Pm ρ w (.sl enc xs) u):D S w (.sl enc xs) u:=by
 cases h with | d _ _ h=>exact h
theorem D.sl_inv{α:Type}{enc:α->List SV}{xs:List α}{u:Value}(h:D S w (.sl enc xs) u):
  (xs=[]/\∃a,u=.slice a 0 0)∨∃sz b o cap,∃c:Nat->Nat->Value,u=.slice (some ⟨b,o,none⟩) xs.length cap/\b < w.heap.size/\¬S b/\xs.length<=9223372036854775807/\xs.length<=cap/\
   (∀x∈xs,(enc x).length=sz)/\(∀i j,i < xs.length->j < sz->w.cell? ⟨b,o+i*sz+j,none⟩=some (c i j)/\(c i j).oneCell'=true)/\
   ∀(i j:Nat) (x:α) (s:SV),xs[i]? =some x->(enc x)[j]? =some s->D S w s (c i j):=by
 cases h with
 | nil _ a=>exact .inl ⟨rfl,a,rfl⟩
 | sl _ _ sz b o cap c hb hS hlen hcap hsz hc h=>exact .inr ⟨sz,b,o,cap,c,rfl,hb,hS,hlen,hcap,hsz,hc,h⟩
theorem G.nils_inv{u:Value}(h:G S Pm ρ w .nils u):∃a,u=.slice a 0 0:=by
 cases h with | d _ _ h=>cases h with | nils a=>exact ⟨a,rfl⟩
theorem G.full_inv{α:Type}{enc:α->List SV}{xs:List α}{u:Value}(h:G S Pm ρ w (.full enc xs) u):∃a,u=.slice a xs.length xs.length/\D S w (.sl enc xs) u:=by
 cases h with | d _ _ h=>cases h with | full _ _ a h=>exact ⟨a,rfl,h⟩
theorem G.anyb_inv{u:Value}(h:G S Pm ρ w .anyb u):∃b,u=.bool b:=by
 cases h with | d _ _ h=>cases h with | anyb b=>exact ⟨b,rfl⟩
theorem Gs.nil:Gs S Pm ρ w [] []:=⟨rfl,fun _ _ _ h=>by simp at h⟩
theorem Gs.cons{s:SV}{v:Value}{cs:List SV}{vs:List Value}(h:G S Pm ρ w s v)(hs:Gs S Pm ρ w cs vs):Gs S Pm ρ w (s::cs) (v::vs):=
 ⟨by simp [hs.1],fun j s' v' h1 h2=>by
  cases j with
  | zero=>simp at h1 h2;subst h1;subst h2;exact h
  | succ j=>simp at h1 h2;exact hs.2 j s' v' h1 h2⟩
theorem Gs.head{s:SV}{v:Value}{cs:List SV}{vs:List Value}(h:Gs S Pm ρ w (s::cs) (v::vs)):G S Pm ρ w s v:=h.2 0 s v rfl rfl
theorem Gs.tail{s:SV}{v:Value}{cs:List SV}{vs:List Value}(h:Gs S Pm ρ w (s::cs) (v::vs)):Gs S Pm ρ w cs vs:=
 ⟨by simpa using h.1,fun j s' v' h1 h2=>h.2 (j+1) s' v' (by simpa using h1) (by simpa using h2)⟩
theorem Gs.cons_inv{s:SV}{cs:List SV}{vs:List Value}(h:Gs S Pm ρ w (s::cs) vs):∃v vs',vs=v::vs'/\G S Pm ρ w s v/\Gs S Pm ρ w cs vs':=by
 cases vs with
 | nil=>simp [Gs] at h
 | cons v vs=>exact ⟨v,vs,rfl,h.head,h.tail⟩
theorem Gs.nil_inv{vs:List Value}(h:Gs S Pm ρ w [] vs):vs=[]:=by simpa [Gs] using h.1
theorem Gs.append{cs ds:List SV}{vs us:List Value}(h:Gs S Pm ρ w cs vs)(k:Gs S Pm ρ w ds us):Gs S Pm ρ w (cs++ds) (vs++us):=by
 induction cs generalizing vs with
 | nil=>rw [h.nil_inv];exact k
 | cons s cs ih=>obtain ⟨v,vs',rfl,h1,h2⟩:=h.cons_inv;exact .cons h1 (ih h2)
theorem Gs.drop{cs:List SV}{vs:List Value}(n:Nat)(h:Gs S Pm ρ w cs vs):Gs S Pm ρ w (cs.drop n) (vs.drop n):=
 ⟨by simp [h.1],fun j s v h1 h2=>h.2 (n+j) s v (by simpa using h1) (by simpa using h2)⟩
theorem Gs.take{cs:List SV}{vs:List Value}(n:Nat)(h:Gs S Pm ρ w cs vs):Gs S Pm ρ w (cs.take n) (vs.take n):=
 ⟨by simp [h.1],fun j s v h1 h2=>by
  rw [List.getElem?_take] at h1 h2
  split at h1
  ·rename_i hj;rw [if_pos hj] at h2;exact h.2 j s v h1 h2
  ·cases h1⟩
theorem Gs.vals(l:List Value):Gs S Pm ρ w (vals l) l:=
 ⟨by simp [Go.Gs.vals],fun j s v h1 h2=>by
  simp [Go.Gs.vals,h2] at h1;subst h1;exact .d _ _ (.val v)⟩
theorem Gs.mono' {S' Pm':Nat->Prop} {ρ':zd} {w':World} {cs:List SV} {vs:List Value} (h:Gs S Pm ρ w cs vs)
  (hg:∀s v,G S Pm ρ w s v->G S' Pm' ρ' w' s v):Gs S' Pm' ρ' w' cs vs:=⟨h.1,fun j s v h1 h2=>hg s v (h.2 j s v h1 h2)⟩
end inv
theorem zS{s:SV}{K:SV->Prop}(h:qO s K):K s:=by
 cases s with
 | val v=>cases v with
  | bool b=>cases b <;> exact h
  | _=>exact h
 | _=>exact h
theorem zb{b:Bool}{K:Prop}(h:zi b K):b=true/\K:=by cases b <;> first | exact h.elim | exact ⟨rfl,h⟩
theorem zu{a b:Bool}(h:qo a b=true):a=true/\b=true:=by cases a <;> simp_all [qo]
theorem zc{Γ:List (TypeId×TI)}{t:TypeId}{K:TI->Prop}(h:zt Γ t K):∃i,ti Γ t=some i/\K i:=by
 unfold zt at h;split at h
 ·exact ⟨_,‹_›,h⟩
 ·exact h.elim
def ug(P:Program)(t:TypeId):TK->Prop
 | .int k=>P.underlying t=some (.int k)
 | .bool=>P.underlying t=some .bool
 | .str=>P.underlying t=some .string
 | .ptr e=>P.underlying t=some (.pointer e)
 | .slice e=>P.underlying t=some (.slice e)
 | .struct fs=>∃F,P.underlying t=some (.struct F)/\F.toList.map (fun f=>(f.offset,f.type))=fs/\∃pl,F.toList.mapM (fun f=>(P.info? f.type).map fun i=>(f.offset,i.size))=some pl
 | .arr n e=>P.underlying t=some (.array n e)
 | .map k e=>P.underlying t=some (.map k e)
 | .iface=>∃ms,P.underlying t=some (.interface ms)
 | .other=>∃d,P.underlying t=some d/\∀w:World,(isAgg t).run P w=.ok false w
structure vI (P:Program) (t:TypeId) (i:TI):Prop where
 inf:∃f,P.info? t=some f/\f.size=i.sz/\f.bytes=i.bytes/\∃z,f.zero=some z/\z.cells.toList=i.zero/\(i.kind.agg=false->z.cells=#[z])/\i.zero.length=i.sz/\
  ∀v∈i.zero,v.oneCell'=true
 kind:ug P t i.kind
 zagg:i.kind.agg=true->∃f,P.info? t=some f/\f.zero=some (.agg i.zero.toArray)
 cmp:i.cmp=true->P.stoodInHeld t=false/\P.eqGuardType P.depth t=false/\∀f∈(P.fieldsOf t).toList,f.name≠ "_"
def TOK(P:Program)(Γ:List (TypeId×TI)):Prop:=∀t i,ti Γ t=some i->vI P t i
section types
variable {P:Program} {t:TypeId} {i:TI}
theorem vI.size(h:vI P t i)(w:World):(sizeOf t).run P w=.ok i.sz w:=by
 obtain ⟨f,h1,h2,_⟩:=h.inf;simp [sizeOf,typeInfo,h1,h2]
theorem vI.agg(h:vI P t i)(w:World):(isAgg t).run P w=.ok i.kind.agg w:=by
 have hk:=h.kind
 cases hi:i.kind <;> rw [hi] at hk <;> simp only [ug] at hk
 case struct fs=>obtain ⟨F,hF,_⟩:=hk;simp [isAgg,run_underlying hF,TK.agg]
 case other=>obtain ⟨d,hd,ha⟩:=hk;exact ha w
 case iface=>obtain ⟨ms,hd⟩:=hk;simp [isAgg,run_underlying hd,TK.agg]
 all_goals simp [isAgg,run_underlying hk,TK.agg]
theorem vI.und(h:vI P t i):∃d,P.underlying t=some d:=by
 have hk:=h.kind
 cases hi:i.kind <;> rw [hi] at hk <;> simp only [ug] at hk
 case struct fs=>exact ⟨_,hk.choose_spec.1⟩
 case other=>obtain ⟨d,hd,_⟩:=hk;exact ⟨d,hd⟩
 case iface=>obtain ⟨ms,hd⟩:=hk;exact ⟨_,hd⟩
 all_goals exact ⟨_,hk⟩
end types
theorem kL.keep {Keep W W':Nat->Prop} {ρ ρ':zd} {w w':World} {k:Nat} {m:Mem} (hs:Stp W W' ρ ρ' w w') (hk:ρ' k=ρ k)
  (hb:∀v b,ρ k=some v->zM v=some b->w'.heap[b]? =w.heap[b]?)
  (h:kL (fun b=>Keep b∨W b) W ρ w k m):kL (fun b=>Keep b∨W' b) W' ρ' w' k m:=by
 cases m with
 | box T cs=>
  obtain ⟨b,vs,h1,h2,h3,h4,h5⟩:=h;exact ⟨b,vs,hk.trans h1,(hb _ b h1 rfl).trans h2,h3,h4,fun j s v hs' hv=>(h5 j s v hs' hv).stp hs⟩
 | arr T enc sz xs=>
  obtain ⟨v,cells,h1,h2,h3,h4,h5,h6⟩:=h;refine ⟨v,cells,hk.trans h1,⟨h2.1,?_⟩,h3,h4,h5,fun i j x s hx hj=>?_⟩
  ·rcases h2.2 with h | ⟨g,cap,cur,rfl,h7,h8,h9⟩
   ·exact .inl h
   ·exact .inr ⟨g,cap,cur,rfl,h7,(hb _ g h1 rfl).trans h8,h9⟩
  ·obtain ⟨u,hu,hd⟩:=h6 i j x s hx hj;exact ⟨u,hu,hd.stp hs⟩
 | garr T sz xs=>
  obtain ⟨v,cells,h1,h2,h3,h4,h5,h6⟩:=h;refine ⟨v,cells,hk.trans h1,⟨h2.1,?_⟩,h3,h4,h5,fun i j x s hx hj=>?_⟩
  ·rcases h2.2 with h | ⟨g,cap,cur,rfl,h7,h8,h9⟩
   ·exact .inl h
   ·exact .inr ⟨g,cap,cur,rfl,h7,(hb _ g h1 rfl).trans h8,h9⟩
  ·obtain ⟨u,hu,hd⟩:=h6 i j x s hx hj;exact ⟨u,hu,hd.stp hs⟩
 | map es=>
  obtain ⟨r,ents,clock,h1,h2,h3,h4⟩:=h;refine ⟨r,ents,clock,hk.trans h1,(hb _ r h1 rfl).trans h2,h3,fun i n s hi=>?_⟩;obtain ⟨e,g1,g2,g3⟩:=h4 i n s hi;exact ⟨e,g1,g2,g3.stp hs⟩
theorem zj.next {Keep:Nat->Prop} {M M':List (Nat×Mem)} {ρ ρ':zd} {w w':World} (κ:Nat) (hm:zj Keep M ρ w)
  (hs:Stp (Own M ρ) (Own M' ρ') ρ ρ' w w') (hkeys:M'.Pairwise fun a b=>a.1≠b.1)
  (hold:∀k m,(k,m)∈M'->k≠κ->(k,m)∈M/\ρ' k=ρ k/\∀v b,ρ k=some v->zM v=some b->w'.heap[b]? =w.heap[b]?)
  (hnew:∀m,(κ,m)∈M'->kL (fun b=>Keep b∨Own M' ρ' b) (Own M' ρ') ρ' w' κ m)
  (hap:∀m v b,(κ,m)∈M'->ρ' κ=some v->zM v=some b->
   (∀k m v',(k,m)∈M'->k≠κ->ρ k=some v'->zM v'≠some b)/\b < w'.heap.size/\¬Keep b):zj Keep M' ρ' w' where
 rel k m hkm:=by
  by_cases hk:k=κ
  ·subst hk;exact hnew m hkm
  ·obtain ⟨h1,h2,h3⟩:=hold k m hkm hk;exact (hm.rel k m h1).keep hs h2 h3
 keys:=hkeys
 apart k m k' m' v v' b h1 h2 hne hv hv' hb hb':=by
  by_cases hk:k=κ
  ·subst hk;have hk':k'≠k:=Ne.symm hne;obtain ⟨_,h3,_⟩:=hold k' m' h2 hk';exact (hap m v b h1 hv hb).1 k' m' v' h2 hk' (h3 ▸ hv') hb'
  ·by_cases hk':k'=κ
   ·subst hk';obtain ⟨_,h3,_⟩:=hold k m h1 hk;exact (hap m' v' b h2 hv' hb').1 k m v h1 hk (h3 ▸ hv) hb
   ·obtain ⟨h3,h4,_⟩:=hold k m h1 hk;obtain ⟨h5,h6,_⟩:=hold k' m' h2 hk';exact hm.apart k m k' m' v v' b h3 h5 hne (h4 ▸ hv) (h6 ▸ hv') hb hb'
 old b hb:=by
  obtain ⟨k,m,v,h1,h2,h3⟩:=hb
  by_cases hk:k=κ
  ·subst hk;exact (hap m v b h1 h2 h3).2
  ·obtain ⟨h4,h5,_⟩:=hold k m h1 hk;have:=hm.old b ⟨k,m,v,h4,h5 ▸ h2,h3⟩;exact ⟨Nat.lt_of_lt_of_le this.1 hs.size,this.2⟩
 kp b hb:=Nat.lt_of_lt_of_le (hm.kp b hb) hs.size
 gl:=hm.glS hs
theorem zp{M:List (Nat×Mem)}{k:Nat}(x:Nat×Mem)(h:x∈zL M k):x∈M:=by
 induction M with
 | nil=>exact h
 | cons y r ih=>
  obtain ⟨k',m'⟩:=y;simp only [zL] at h
  split at h
  ·exact .tail _ h
  ·cases h with
   | head=>exact .head _
   | tail _ h=>exact .tail _ (ih h)
theorem kF{M:List (Nat×Mem)}{k:Nat}(hp:M.Pairwise fun a b=>a.1≠b.1)(x:Nat×Mem)(h:x∈zL M k):x.1≠k:=by
 induction M with
 | nil=>cases h
 | cons y r ih=>
  obtain ⟨k',m'⟩:=y;rw [List.pairwise_cons] at hp;simp only [zL] at h
  split at h
  ·rename_i hb;have:=Nat.eq_of_beq_eq_true hb;subst this;exact fun e=>hp.1 x h e.symm
  ·rename_i hb
   cases h with
   | head=>exact Nat.ne_of_beq_eq_false hb
   | tail _ h=>exact ih hp.2 h
theorem zN{M:List (Nat×Mem)}{k:Nat}(hp:M.Pairwise fun a b=>a.1≠b.1):(zL M k).Pairwise fun a b=>a.1≠b.1:=by
 induction M with
 | nil=>exact hp
 | cons y r ih=>
  obtain ⟨k',m'⟩:=y;rw [List.pairwise_cons] at hp;simp only [zL]
  split
  ·exact hp.2
  ·rw [List.pairwise_cons];exact ⟨fun x hx=>hp.1 x (zp x hx),ih hp.2⟩
theorem z4{M:List (Nat×Mem)}{k:Nat}{m:Mem}(hp:M.Pairwise fun a b=>a.1≠b.1)(x:Nat×Mem)(h:x∈zJ M k m):x.1≠k/\x∈M∨x=(k,m):=by
 induction M with
 | nil=>cases h
 | cons y r ih=>
  obtain ⟨k',m'⟩:=y;rw [List.pairwise_cons] at hp;simp only [zJ] at h
  split at h
  ·rename_i hb;have:=Nat.eq_of_beq_eq_true hb;subst this
   cases h with
   | head=>exact .inr rfl
   | tail _ h=>exact .inl ⟨fun e=>hp.1 x h e.symm,.tail _ h⟩
  ·rename_i hb
   cases h with
   | head=>exact .inl ⟨Nat.ne_of_beq_eq_false hb,.head _⟩
   | tail _ h=>exact (ih hp.2 h).imp (fun h=>⟨h.1,.tail _ h.2⟩) id
theorem qx{M:List (Nat×Mem)}{k:Nat}{m:Mem}:(zJ M k m).map (·.1)=M.map (·.1):=by
 induction M with
 | nil=>rfl
 | cons y r ih=>
  obtain ⟨k',m'⟩:=y;simp only [zJ]
  split
  ·rename_i hb;have:=Nat.eq_of_beq_eq_true hb;subst this;rfl
  ·simp [ih]
theorem kv{M M':List (Nat×Mem)}(h:M'.map (·.1)=M.map (·.1))(hp:M.Pairwise fun a b=>a.1≠b.1):M'.Pairwise fun a b=>a.1≠b.1:=by
 have h1:(M.map (·.1)).Pairwise fun a b=>a≠b:=List.pairwise_map.2 hp
 rw [← h] at h1;exact List.pairwise_map.1 h1
theorem k8{M M':List (Nat×Mem)}(h:M'.map (·.1)=M.map (·.1)){ρ:zd}{b:Nat}(ho:Own M ρ b):Own M' ρ b:=by
 obtain ⟨k,m,v,h1,h2,h3⟩:=ho;have:k∈M'.map (·.1):=by rw [h];exact List.mem_map.2 ⟨_,h1,rfl⟩
 obtain ⟨⟨k',m'⟩,hx,rfl⟩:=List.mem_map.1 this;exact ⟨_,m',v,hx,h2,h3⟩
theorem ve{M:List (Nat×Mem)}{k:Nat}{m:Mem}(hp:M.Pairwise fun a b=>a.1≠b.1)(h:∀m,(k,m)∉M):((k,m)::M).Pairwise fun a b=>a.1≠b.1:=
 List.pairwise_cons.2 ⟨fun x hx e=>by obtain ⟨k',m'⟩:=x;have e:k=k':=e;subst e;exact h m' hx,hp⟩
def upd(ρ:zd)(κ:Nat)(v:Value):zd:=fun k=>if k=κ then some v else ρ k
theorem zn{ρ:zd}{κ:Nat}{v:Value}:upd ρ κ v κ=some v:=by simp [upd]
theorem jZ{ρ:zd}{κ k:Nat}{v:Value}(h:k≠κ):upd ρ κ v k=ρ k:=by simp [upd,h]
theorem zj.write {Keep:Nat->Prop} {M:List (Nat×Mem)} {ρ:zd} {w:World} (hm:zj Keep M ρ w) {k:Nat} {m:Mem} (m':Mem) (hk:(k,m)∈M) {v:Value} {b:Nat}
  (hv:ρ k=some v) (hb:zM v=some b) (cs:Array Value)
  (hrel:Stp (Own M ρ) (Own (zJ M k m') ρ) ρ ρ w (w.setRow b cs)->kL (fun b=>Keep b∨Own (zJ M k m') ρ b) (Own (zJ M k m') ρ) ρ (w.setRow b cs) k m'):
  Stp (Own M ρ) (Own (zJ M k m') ρ) ρ ρ w (w.setRow b cs)/\zj Keep (zJ M k m') ρ (w.setRow b cs):=by
 have hkeys:(zJ M k m').map (·.1)=M.map (·.1):=qx
 have hs:Stp (Own M ρ) (Own (zJ M k m') ρ) ρ ρ w (w.setRow b cs):=
  ⟨rfl,rfl,.setRow _ _ _,by simp,fun b' _ hn=>setRow_other w b b' cs (fun e=>hn ⟨k,m,v,hk,hv,e ▸ hb⟩),fun b' hb'=>.inl (k8 hkeys.symm hb'),fun _ _ h=>h⟩
 refine ⟨hs,zj.next k hm hs (kv hkeys hm.keys) ?_ ?_ ?_⟩
 ·intro k' m1 h1 hne
  rcases z4 hm.keys _ h1 with ⟨_,h2⟩ | h2
  ·refine ⟨h2,rfl,fun v' b' hv' hb'=>setRow_other w b b' cs (fun e=>?_)⟩;subst e;exact hm.apart k' m1 k m v' v b' h2 hk hne hv' hv hb' hb
  ·cases h2;exact absurd rfl hne
 ·intro m1 h1
  rcases z4 hm.keys _ h1 with ⟨h2,_⟩ | h2
  ·exact absurd rfl h2
  ·cases h2;exact hrel hs
 ·intro m1 v' b' _ hv' hb';rw [hv] at hv';cases hv'
  rw [hb] at hb';cases hb'
  refine ⟨fun k' m2 v2 h2 hne hv2 hb2=>?_,by simpa using (hm.old b ⟨k,m,v,hk,hv,hb⟩).1,(hm.old b ⟨k,m,v,hk,hv,hb⟩).2⟩
  rcases z4 hm.keys _ h2 with ⟨_,h3⟩ | h3
  ·exact hm.apart k' m2 k m v2 v b h3 hk hne hv2 hv hb2 hb
  ·cases h3;exact absurd rfl hne
theorem zj.grow {Keep:Nat->Prop} {M M1:List (Nat×Mem)} {ρ:zd} {w:World} (hm:zj Keep M ρ w) (hsub:∀x∈M1,x∈M) (hpw:M1.Pairwise fun a b=>a.1≠b.1)
  {κ:Nat} (hκ:ρ κ=none) (hκM:∀m,(κ,m)∉M) (v:Value) (m:Mem) (w':World) (hos:w'.os=w.os) (htape:w'.tape=w.tape) (hout:ziu w w')
  (hsize:w.heap.size<=w'.heap.size) (hblock:∀b,b < w.heap.size->¬Own M ρ b->w'.heap[b]? =w.heap[b]?)
  (hkeep:∀k m v b,(k,m)∈M1->ρ k=some v->zM v=some b->w'.heap[b]? =w.heap[b]?)
  (hv:∀b,zM v=some b->(Own M ρ b∨w.heap.size<=b)/\b < w'.heap.size/\∀k m v',(k,m)∈M1->ρ k=some v'->zM v'≠some b)
  (hrel:Stp (Own M ρ) (Own ((κ,m)::M1) (upd ρ κ v)) ρ (upd ρ κ v) w w'->
   kL (fun b=>Keep b∨Own ((κ,m)::M1) (upd ρ κ v) b) (Own ((κ,m)::M1) (upd ρ κ v)) (upd ρ κ v) w' κ m):
  Stp (Own M ρ) (Own ((κ,m)::M1) (upd ρ κ v)) ρ (upd ρ κ v) w w'/\zj Keep ((κ,m)::M1) (upd ρ κ v) w':=by
 have hne:∀k m,(k,m)∈M1->k≠κ:=fun k m h e=>by subst e;exact hκM m (hsub _ h)
 have hs:Stp (Own M ρ) (Own ((κ,m)::M1) (upd ρ κ v)) ρ (upd ρ κ v) w w':=by
  refine ⟨hos,htape,hout,hsize,hblock,?_,?_⟩
  ·rintro b ⟨k,m',v',hk,hv',hb⟩
   cases hk with
   | head=>rw [zn] at hv';cases hv';exact (hv b hb).1
   | tail _ hk=>rw [jZ (hne _ _ hk)] at hv';exact .inl ⟨k,m',v',hsub _ hk,hv',hb⟩
  ·intro k v' h;rw [jZ (fun e=>by subst e;rw [hκ] at h;cases h)];exact h
 refine ⟨hs,zj.next κ hm hs (ve hpw fun m h=>hκM m (hsub _ h)) ?_ ?_ ?_⟩
 ·intro k m' h hk
  cases h with
  | head=>exact absurd rfl hk
  | tail _ h=>exact ⟨hsub _ h,jZ hk,fun v' b h1 h2=>hkeep k m' v' b h h1 h2⟩
 ·intro m' h
  cases h with
  | head=>exact hrel hs
  | tail _ h=>exact absurd rfl (hne _ _ h)
 ·intro m' v' b _ h1 h2;rw [zn] at h1;cases h1
  obtain ⟨h3,h4,h5⟩:=hv b h2;refine ⟨fun k m1 v1 h6 h7 h8=>?_,h4,fun hk=>?_⟩
  ·cases h6 with
   | head=>exact absurd rfl h7
   | tail _ h6=>exact h5 k m1 v1 h6 h8
  ·rcases h3 with h3 | h3
   ·exact (hm.old b h3).2 hk
   ·have:=hm.kp b hk;omega
theorem zj.let_go{Keep:Nat->Prop}{M M1:List (Nat×Mem)}{ρ:zd}{w:World}(hm:zj Keep M ρ w)(hsub:∀x∈M1,x∈M)(hpw:M1.Pairwise fun a b=>a.1≠b.1):
  Stp (Own M ρ) (Own M1 ρ) ρ ρ w w/\zj Keep M1 ρ w:=by
 have hs:Stp (Own M ρ) (Own M1 ρ) ρ ρ w w:=
  ⟨rfl,rfl,.refl _,Nat.le_refl _,fun _ _ _=>rfl,fun b ⟨k,m,v,h1,h2,h3⟩=>.inl ⟨k,m,v,hsub _ h1,h2,h3⟩,fun _ _ h=>h⟩
 exact ⟨hs,fun k m h=>(hm.rel k m (hsub _ h)).keep hs rfl (fun _ _ _ _=>rfl),hpw,
  fun k m k' m' v v' b h1 h2=>hm.apart k m k' m' v v' b (hsub _ h1) (hsub _ h2),fun b ⟨k,m,v,h1,h2,h3⟩=>hm.old b ⟨k,m,v,hsub _ h1,h2,h3⟩,hm.kp,hm.glS hs⟩
end Go.Gs
