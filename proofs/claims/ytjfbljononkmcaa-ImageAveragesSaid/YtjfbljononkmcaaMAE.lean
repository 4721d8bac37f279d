/- The operations on memory: what is left to be shown is enough. -/
import Derived.Test.YtjfbljononkmcaaMA
import Derived.Test.YtjfbljononkmcaaMAD
set_option maxRecDepth 100000
set_option maxHeartbeats 8000000
set_option linter.all false
namespace Go.Gs
theorem uy{w:World}{b:Nat}{vs:List Value}{T:TypeId}(h:w.heap[b]? =some (.cells vs.toArray T (0,0)))(j:Nat):w.cell? ⟨b,j,none⟩=vs[j]? :=by
 rw [cell_of_row w b j _ T _ h];simp
theorem yN {w:World} {T:TypeId} {sz:Nat} {v:Value} {n:Nat} {cells:List Value} {b len cap:Nat} (hv:v=.slice (some ⟨b,0,none⟩) len cap)
  (h:w.ownsRow 0 T sz v n cells):len=n/\∃cur:Array Value,w.heap[b]? =some (.cells cur T (0,0))/\n<=cap/\cap<=maxLen/\cur.size=cap*sz/\cur.toList.take (n*sz)=cells:=by
 rcases h.2 with ⟨h1,_⟩ | ⟨g,cap',cur,h1,_,h2,h3,h4,h5,h6⟩
 ·rw [h1] at hv;cases hv
 ·rw [h1] at hv;cases hv;exact ⟨rfl,cur,h2,h3,h4,h5,h6⟩
theorem jB {w:World} {b:Nat} {cur:Array Value} {T:TypeId} {n:Nat} {cells:List Value} (h:w.heap[b]? =some (.cells cur T (0,0))) (ht:cur.toList.take n=cells)
  {j:Nat} {u:Value} (hu:cells[j]? =some u):w.cell? ⟨b,j,none⟩=some u:=by
 rw [cell_of_row w b j _ T _ h];rw [← ht,List.getElem?_take] at hu
 split at hu
 ·simpa using hu
 ·cases hu
theorem zak {S:Nat->Prop} {w:World} {α:Type} {enc:α->List SV} {sz:Nat} {xs:List α} {cells:List Value} (hsz:∀x∈xs,(enc x).length=sz)
  (hg:∀(i j:Nat) x (s:SV),xs[i]? =some x->(enc x)[j]? =some s->∃u,cells[i*sz+j]? =some u/\D S w s u) {i:Nat} {x:α} (hx:xs[i]? =some x)
  {Pm:Nat->Prop} {ρ:zd}:Gs S Pm ρ w (enc x) ((cells.drop (i*sz)).take sz):=by
 have hlen:=hsz x (List.mem_of_getElem? hx);refine ⟨?_,fun j s v h1 h2=>?_⟩
 ·have h:(cells.drop (i*sz)).take sz=(List.range sz).map fun j=>(cells[i*sz+j]?).getD undef:=by
   apply List.ext_getElem?;intro j
   by_cases hj:j < sz
   ·obtain ⟨u,hu,_⟩:=hg i j x ((enc x)[j]'oM) hx (by simp [hlen,hj]);simp [hj,hu]
   ·simp [List.getElem?_take,hj]
  rw [h];simp [hlen]
 ·rw [List.getElem?_take] at h2
  split at h2
  ·obtain ⟨u,hu,hd⟩:=hg i j x s hx h1;simp only [List.getElem?_drop] at h2;rw [hu] at h2;cases h2
   exact .d _ _ hd
  ·cases h2
theorem yB {S Pm:Nat->Prop} {ρ:zd} {w:World} {sz:Nat} {xs:List (List SV)} {cells:List Value} (hsz:∀x∈xs,x.length=sz)
  (hg:∀(i j:Nat) x (s:SV),xs[i]? =some x->x[j]? =some s->∃u,cells[i*sz+j]? =some u/\G S Pm ρ w s u) {i:Nat} {x:List SV} (hx:xs[i]? =some x):Gs S Pm ρ w x ((cells.drop (i*sz)).take sz):=by
 have hlen:=hsz x (List.mem_of_getElem? hx);refine ⟨?_,fun j s v h1 h2=>?_⟩
 ·have h:(cells.drop (i*sz)).take sz=(List.range sz).map fun j=>(cells[i*sz+j]?).getD undef:=by
   apply List.ext_getElem?;intro j
   by_cases hj:j < sz
   ·obtain ⟨u,hu,_⟩:=hg i j x (x[j]'oM) hx (by simp [hlen,hj]);simp [hj,hu]
   ·simp [List.getElem?_take,hj]
  rw [h];simp [hlen]
 ·rw [List.getElem?_take] at h2
  split at h2
  ·obtain ⟨u,hu,hd⟩:=hg i j x s hx h1;simp only [List.getElem?_drop] at h2;rw [hu] at h2;cases h2
   exact hd
  ·cases h2
theorem zdU{P:Program}{Γ:List (TypeId×TI)}(hT:TOK P Γ){t:TypeId}{x:Operand}{s:SV}{lm:Nat->Option Mem}{κ:Nat}{K:SV->MD->Prop}(h:zfO Γ t s lm K):
  ∃r,K r .none/\kE P (.load t x) [s] lm κ r .none:=by
 unfold zfO at h;replace h:=zc h;obtain ⟨i,hi,h⟩:=h;have hTi:=hT t i hi
 have run:∀{o:Oper} (_:o.op=.load t x) {a:Act} {w:World} {b off:Nat} {v:Value},a.eval x=.pointer (some ⟨b,off,none⟩)->(loadVar t ⟨b,off,none⟩).run P w=.ok v w->
   (execOp a.eval o).run P w=.ok (.value v) w:=by
  intro o ho a w b off v h1 h2;simp [execOp,ho,h1,Instr.loadAt,Instr.sureAddr,h2]
 split at h
 ·rename_i k off
  split at h
  ·rename_i T cs hlk;replace h:=zb h;obtain ⟨hle,h⟩:=h;have hle:=Nat.le_of_ble_eq_true hle;obtain ⟨r,hK,hr⟩:=k9 h;refine ⟨r,hK,.read fun o ho Keep M ρ a w hlm hm hgs=>?_⟩;obtain ⟨b,vs,hρ,hheap,hlen,_,hcells⟩:=hm.rel k _ (hlm k _ hlk);obtain ⟨b',hρ',hx⟩:=(Gs.head hgs).loc_inv;rw [hρ] at hρ';cases hρ'
   have hg:Gs (fun b=>Keep b∨Own M ρ b) (Own M ρ) ρ w (cs.drop off) (vs.drop off):=Gs.drop off ⟨hlen,hcells⟩;obtain ⟨v,h1,h2⟩:=jA hTi (b:=b) (o:=off) hg (fun j v hv=>by rw [uy hheap];simpa using hv) (by simp;omega) hr;exact ⟨v,run ho hx h1,h2⟩
  ·exact h.elim
 ·rename_i cs;replace h:=zb h;obtain ⟨hle,h⟩:=h;have hle:=Nat.le_of_ble_eq_true hle;obtain ⟨r,hK,hr⟩:=k9 h;refine ⟨r,hK,.pure fun o ho S Pm ρ a w hgs=>?_⟩;obtain ⟨b,off,c,hx,_,_,hc,hd⟩:=(Gs.head hgs).ptr_inv
  have hg:Gs S Pm ρ w cs ((List.range cs.length).map c):=⟨by simp,fun j s v h1 h2=>by
   have hj:j < cs.length:=(List.getElem?_eq_some_iff.1 h1).1;simp [hj] at h2;subst h2
   exact .d _ _ (hd j s h1)⟩
  obtain ⟨v,h1,h2⟩:=jA hTi (b:=b) (o:=off) hg (fun j v hv=>by
   have hj:j < cs.length:=by have:=(List.getElem?_eq_some_iff.1 hv).1;simpa using this
   simp [hj] at hv;subst hv
   exact (hc j hj).1) hle hr
  exact ⟨v,run ho hx h1,h2⟩
 ·rename_i cs;replace h:=zb h;obtain ⟨hle,h⟩:=h;have hle:=Nat.le_of_ble_eq_true hle;obtain ⟨r,hK,hr⟩:=k9 h;refine ⟨r,hK,.pure fun o ho S Pm ρ a w hgs=>?_⟩;obtain ⟨b,off,c,hx,_,_,hc,hd⟩:=(Gs.head hgs).dptr_inv
  have hg:Gs S Pm ρ w cs ((List.range cs.length).map c):=⟨by simp,fun j s v h1 h2=>by
   have hj:j < cs.length:=(List.getElem?_eq_some_iff.1 h1).1;simp [hj] at h2;subst h2
   exact .d _ _ (hd j s h1)⟩
  obtain ⟨v,h1,h2⟩:=jA hTi (b:=b) (o:=off) hg (fun j v hv=>by
   have hj:j < cs.length:=by have:=(List.getElem?_eq_some_iff.1 hv).1;simpa using this
   simp [hj] at hv;subst hv
   exact (hc j hj).1) hle hr
  exact ⟨v,run ho hx h1,h2⟩
 ·rename_i k sz n off
  split at h
  ·rename_i T α enc sz' xs hlk;replace h:=zb h;obtain ⟨hsz,h⟩:=h;replace h:=zb h;obtain ⟨hle,h⟩:=h;have hsz:=Nat.eq_of_beq_eq_true hsz;subst hsz;have hle:=Nat.le_of_ble_eq_true hle;obtain ⟨h0,h1⟩:=h.ob;have hlt:n.toNat < xs.length:=oM;have hx:=List.getElem?_eq_getElem hlt;obtain ⟨r,hK,hr⟩:=k9 (h.go _ hx);refine ⟨r,hK,.read fun o ho Keep M ρ a w hlm hm hgs=>?_⟩;obtain ⟨v,cells,hρ,hown,_,_,hesz,hcells⟩:=hm.rel k _ (hlm k _ hlk);obtain ⟨b,len,cap,hρ',hxv⟩:=(Gs.head hgs).eloc_inv;rw [hρ] at hρ';cases hρ'
   obtain ⟨_,cur,hheap,_,_,_,htake⟩:=yN rfl hown;have hg:=Gs.drop off (zak hesz hcells hx (Pm:=Own M ρ) (ρ:=ρ));have hl:=hesz _ (List.mem_of_getElem? hx)
   obtain ⟨v,h1,h2⟩:=jA hTi (b:=b) (o:=n.toNat*sz+off) hg (fun j u hu=>by
    simp only [List.getElem?_drop,List.getElem?_take] at hu
    split at hu
    ·refine jB hheap htake ?_;rw [← hu];congr 1;omega
    ·cases hu) (by simp;omega) hr
   exact ⟨v,run ho hxv h1,h2⟩
  ·rename_i T sz' xs hlk;replace h:=zb h;obtain ⟨hsz,h⟩:=h;replace h:=zb h;obtain ⟨hle,h⟩:=h;have hsz:=Nat.eq_of_beq_eq_true hsz;subst hsz;have hle:=Nat.le_of_ble_eq_true hle;obtain ⟨h0,h1⟩:=h.ob;have hlt:n.toNat < xs.length:=oM;have hx:=List.getElem?_eq_getElem hlt;obtain ⟨r,hK,hr⟩:=k9 (h.go _ hx);refine ⟨r,hK,.read fun o ho Keep M ρ a w hlm hm hgs=>?_⟩;obtain ⟨v,cells,hρ,hown,_,_,hesz,hcells⟩:=hm.rel k _ (hlm k _ hlk);obtain ⟨b,len,cap,hρ',hxv⟩:=(Gs.head hgs).eloc_inv;rw [hρ] at hρ';cases hρ'
   obtain ⟨_,cur,hheap,_,_,_,htake⟩:=yN rfl hown;have hg:=Gs.drop off (yB hesz hcells hx);have hl:=hesz _ (List.mem_of_getElem? hx)
   obtain ⟨v,h1,h2⟩:=jA hTi (b:=b) (o:=n.toNat*sz+off) hg (fun j u hu=>by
    simp only [List.getElem?_drop,List.getElem?_take] at hu
    split at hu
    ·refine jB hheap htake ?_;rw [← hu];congr 1;omega
    ·cases hu) (by simp;omega) hr
   exact ⟨v,run ho hxv h1,h2⟩
  ·exact h.elim
 ·exact h.elim
theorem Gs.stp {Keep W W':Nat->Prop} {ρ ρ':zd} {w w':World} (h:Stp W W' ρ ρ' w w') {cs:List SV} {vs:List Value}
  (hg:Gs (fun b=>Keep b∨W b) W ρ w cs vs):Gs (fun b=>Keep b∨W' b) W' ρ' w' cs vs:=hg.mono' fun _ _ h'=>h'.stp h
theorem j4 {Keep:Nat->Prop} {M:List (Nat×Mem)} {ρ:zd} {w:World} (hm:zj Keep M ρ w) {κ:Nat} (hκ:ρ κ=none) (hκM:∀m,(κ,m)∉M) (m:Mem) (o:Obj) (v:Value) (ho:ziu w (w.alloc o))
  (hv:zM v=some w.heap.size)
  (hrel:Stp (Own M ρ) (Own ((κ,m)::M) (upd ρ κ v)) ρ (upd ρ κ v) w (w.alloc o)->
   kL (fun b=>Keep b∨Own ((κ,m)::M) (upd ρ κ v) b) (Own ((κ,m)::M) (upd ρ κ v)) (upd ρ κ v) (w.alloc o) κ m):
  Stp (Own M ρ) (Own ((κ,m)::M) (upd ρ κ v)) ρ (upd ρ κ v) w (w.alloc o)/\zj Keep ((κ,m)::M) (upd ρ κ v) (w.alloc o):=
 hm.grow (fun _ h=>h) hm.keys hκ hκM v m (w.alloc o) rfl rfl ho (by simp) (fun b hb _=>heap_alloc_old w o b hb)
  (fun k m v b h1 h2 h3=>heap_alloc_old w o b (hm.old b ⟨k,m,v,h1,h2,h3⟩).1)
  (fun b hb=>by
   rw [hv] at hb;cases hb
   exact ⟨.inr (Nat.le_refl _),by simp,fun k m v' h1 h2 h3=>by have:=(hm.old _ ⟨k,m,v',h1,h2,h3⟩).1;omega⟩) hrel
theorem zE.push {Keep:Nat->Prop} {M:List (Nat×Mem)} {ρ:zd} {w w':World} {κ:Nat} {s:SV} {m:Mem} {v u:Value}
  (h:Stp (Own M ρ) (Own ((κ,m)::M) (upd ρ κ u)) ρ (upd ρ κ u) w w'/\zj Keep ((κ,m)::M) (upd ρ κ u) w')
  (hg:G (fun b=>Keep b∨Own ((κ,m)::M) (upd ρ κ u) b) (Own ((κ,m)::M) (upd ρ κ u)) (upd ρ κ u) w' s v):zE Keep M ρ w κ s (.push m) v w':=
 ⟨upd ρ κ u,h.1,h.2,hg,fun k hk=>jZ (by
  rcases hk with hk | hk
  ·omega
  ·simp only [qV] at hk;omega)⟩
theorem zbp {Keep:Nat->Prop} {M:List (Nat×Mem)} {ρ:zd} {w:World} (hm:zj Keep M ρ w) {κ:Nat} (hκ:ρ κ=none) (hκM:∀m,(κ,m)∉M) (T:TypeId) {cs:List SV} {vs:List Value}
  (hg:Gs (fun b=>Keep b∨Own M ρ b) (Own M ρ) ρ w cs vs) (h1:∀v∈vs,v.oneCell'=true):
  zE Keep M ρ w κ (.loc κ 0) (.push (.box T cs)) (.pointer (some ⟨w.heap.size,0,none⟩)) (w.alloc (.cells vs.toArray T)):=
 zE.push (u:=.pointer (some ⟨w.heap.size,0,none⟩)) (j4 hm hκ hκM _ _ _ (.cells _ _ _) rfl fun hs=>
  ⟨w.heap.size,vs,zn,heap_alloc_new w _,hg.1,h1,(hg.stp hs).2⟩) (.loc _ _ _ zn)
theorem zcM {P:Program} {Γ:List (TypeId×TI)} (hT:TOK P Γ) {e:TypeId} {svs:List SV} {lm:Nat->Option Mem} {κ:Nat} {K:SV->MD->Prop}
  (h:zt Γ e fun i=>K (.loc κ 0) (.push (.box e (vals i.zero)))):∃r md,K r md/\kE P (.alloc e) svs lm κ r md:=by
 replace h:=zc h;obtain ⟨i,hi,h⟩:=h;obtain ⟨f,h1,h2,h3,z,h4,h5,h6,h7,h8⟩:=(hT e i hi).inf;refine ⟨_,_,h,fun o ho Keep M ρ a w _ hm hκ hκM _=>?_⟩;replace hκ:=hκ _ (Nat.le_refl _) (Nat.lt_succ_self _);replace hκM:=hκM rfl;refine zO.value (v:=.pointer (some ⟨w.heap.size,0,none⟩)) (w':=w.alloc (.cells i.zero.toArray e)) ?_ (zbp hm hκ hκM e (Gs.vals _) h8);have hz:z.cells=i.zero.toArray:=by rw [← h5]
 simp [execOp,ho,Instr.alloc,zeroValue,typeInfo,h1,h4,newVar,newRow,hz]
theorem zff {P:Program} {e:TypeId} {x:Operand} {s:SV} {lm:Nat->Option Mem} {κ:Nat} {K:SV->MD->Prop}
  (h:zi (z0 (zA s)) (K (.loc κ 0) (.push (.box e (zA s))))):∃r md,K r md/\kE P (.box e x) [s] lm κ r md:=by
 replace h:=zb h;obtain ⟨hc,h⟩:=h;refine ⟨_,_,h,fun o ho Keep M ρ a w _ hm hκ hκM hgs=>?_⟩;replace hκ:=hκ _ (Nat.le_refl _) (Nat.lt_succ_self _);replace hκM:=hκM rfl;obtain ⟨h1,h2⟩:=qy hc (Gs.head hgs);refine zO.value (v:=.pointer (some ⟨w.heap.size,0,none⟩)) (w':=w.alloc (.cells (a.eval x).cells e)) ?_ (by simpa using zbp hm hκ hκM e h1 h2);simp [execOp,ho,Instr.box,newVar,newRow]
theorem qP {P:Program} {t:TypeId} {i:TI} (hT:vI P t i) {w:World} {b off:Nat} {T:TypeId} {cur:Array Value} (hheap:w.heap[b]? =some (.cells cur T (0,0))) {v:Value}
  (hsz:v.cells.size=i.sz) (hle:off+i.sz<=cur.size) (h1:∀u∈v.cells.toList,u.oneCell'=true):
  (storeVar t ⟨b,off,none⟩ v).run P w=.ok () (w.setRow b (cur.toList.take off++v.cells.toList++cur.toList.drop (off+i.sz)).toArray):=by
 have:=run_storeCells_at P b off T v.cells.toList 0 cur w hheap (by simp [hsz];omega) h1;simp only [Nat.add_zero,Array.length_toList,hsz] at this;simp [storeVar,hT.size,hsz,this]
theorem zE.set {Keep:Nat->Prop} {M:List (Nat×Mem)} {ρ:zd} {w w':World} {κ k:Nat} {s:SV} {m:Mem} {v:Value}
  (h:Stp (Own M ρ) (Own (zJ M k m) ρ) ρ ρ w w'/\zj Keep (zJ M k m) ρ w')
  (hg:G (fun b=>Keep b∨Own (zJ M k m) ρ b) (Own (zJ M k m) ρ) ρ w' s v):zE Keep M ρ w κ s (.set k m) v w':=
 ⟨ρ,h.1,h.2,hg,fun _ _=>rfl⟩
theorem kH{cs:List SV}(h:kz.flats cs=true):∀(j:Nat) (s:SV),cs[j]? =some s->kz s=true:=by
 induction cs with
 | nil=>intro j s h1;simp at h1
 | cons c cs ih=>
  intro j s h1;simp only [kz.flats] at h
  split at h
  ·rename_i hc
   cases j with
   | zero=>simp at h1;subst h1;exact hc
   | succ j=>exact ih h j s (by simpa using h1)
  ·cases h
theorem qh{S Pm:Nat->Prop}{ρ:zd}{w:World}{s:SV}(hs:kz s=true){v:Value}(hg:G S Pm ρ w s v):D S w s v:=by
 induction hg with
 | d _ _ h=>exact h
 | agg cs vs hl h ih=>
  have hf:kz.flats cs=true:=hs;exact .agg cs vs hl fun j s v h1 h2=>ih j s v h1 h2 (kH hf j s h1)
 | ifc t s v h ih=>
  have hf:kz s=true:=hs;exact .ifc t s v (ih hf)
 | _=>simp [kz] at hs
theorem zha{cs:List SV}(h:kz.flats cs=true){S Pm:Nat->Prop}{ρ:zd}{w:World}{vs:List Value}(hg:Gs S Pm ρ w cs vs):
  ∀(j:Nat) (s:SV) (v:Value),cs[j]? =some s->vs[j]? =some v->D S w s v:=fun j s v h1 h2=>qh (kH h j s h1) (hg.2 j s v h1 h2)
theorem jk(cur new:List Value)(o N:Nat)(h:o+new.length<=N)(hN:N<=cur.length):
  (cur.take o++new++cur.drop (o+new.length)).take N=(cur.take N).take o++new++(cur.take N).drop (o+new.length):=by
 have e1:(cur.take o++new).length=o+new.length:=by simp;omega
 rw [List.take_append,List.take_of_length_le oM,e1,List.take_take,Nat.min_eq_left oM,List.drop_take]
theorem zcN{P:Program}{Γ:List (TypeId×TI)}(hT:TOK P Γ){t:TypeId}{x y:Operand}{s v:SV}{lm:Nat->Option Mem}{κ:Nat}{K:SV->MD->Prop}(h:zdK Γ t s v lm K):
  ∃r md,K r md/\kE P (.store t x y) [s,v] lm κ r md:=by
 unfold zdK at h;replace h:=zc h;obtain ⟨i,hi,h⟩:=h;have hTi:=hT t i hi;replace h:=zb h;obtain ⟨hcell,h⟩:=h;replace h:=zb h;obtain ⟨hlen,h⟩:=h;have hlen:=Nat.eq_of_beq_eq_true hlen
 split at h
 ·rename_i k off
  split at h
  ·rename_i T cs hlk;replace h:=zb h;obtain ⟨hle,h⟩:=h;have hle:=Nat.le_of_ble_eq_true hle;refine ⟨_,_,h,fun o ho Keep M ρ a w hlm hm _ _ hgs=>?_⟩;have hmem:=zg (hlm k _ hlk);obtain ⟨b,vs,hρ,hheap,hl,h1,hcells⟩:=hm.rel k _ hmem;obtain ⟨b',hρ',hx⟩:=(Gs.head hgs).loc_inv;rw [hρ] at hρ';cases hρ'
   obtain ⟨hg,hone⟩:=qy hcell (Gs.head (Gs.tail hgs));have hcl:(a.eval y).cells.toList.length=i.sz:=by rw [hg.1,hlen]
   have hrun:=qP hTi hheap (v:=a.eval y) (off:=off) (by simpa using hcl) (by simp;omega) hone;refine zO.skip (w':=_) (by simp [execOp,ho,hx,Instr.storeAt,Instr.sureAddr,hrun];rfl) ?_;have hsp:=yA off (⟨hl,hcells⟩:Gs (fun b=>Keep b∨Own M ρ b) (Own M ρ) ρ w cs vs) hg;rw [hcl] at hsp;refine zE.set (hm.write _ hmem hρ rfl _ fun hs=>?_) (.d _ _ (.val _));refine ⟨b,_,hρ,by simpa using setRow_heap w b _ _ T _ hheap,(hsp.stp hs).1,fun u hu=>?_,(hsp.stp hs).2⟩;simp only [List.mem_append] at hu
   rcases hu with (hu | hu) | hu
   ·exact h1 u (List.mem_of_mem_take hu)
   ·exact hone u hu
   ·exact h1 u (List.mem_of_mem_drop hu)
  ·exact h.elim
 ·rename_i k sz n off
  split at h
  ·rename_i T α enc sz' xs hlk;replace h:=zb h;obtain ⟨hsz,h⟩:=h;replace h:=zb h;obtain ⟨hle,h⟩:=h;have hsz:=Nat.eq_of_beq_eq_true hsz;subst hsz;have hle:=Nat.le_of_ble_eq_true hle
   split at h
   rotate_left
   ·obtain ⟨h0,h1⟩:=h.ob;have hlt0:n.toNat < xs.length:=oM;have hx0:=List.getElem?_eq_getElem hlt0;replace h:=h.go _ hx0;obtain ⟨zs,hzs⟩:∃zs,zs=xs.map enc:=⟨_,rfl⟩;have hzl:zs.length=xs.length:=by rw [hzs,List.length_map]
    have hlt:n.toNat < zs.length:=oM;have hx:=List.getElem?_eq_getElem hlt;have hxe:zs[n.toNat]=enc xs[n.toNat]:=by subst hzs;simp
    rw [← hzs,← hxe] at h;obtain ⟨x',hx'⟩:∃x',x'=ky (zs[n.toNat]) off (zA v):=⟨_,rfl⟩;rw [← hx'] at h;refine ⟨_,_,h,fun o ho Keep M ρ a w hlm hm _ _ hgs=>?_⟩;have hmem:=zg (hlm k _ hlk);obtain ⟨v0,cells,hρ,hown,hnl,hone0,hesz0,hcells0⟩:=hm.rel k _ hmem;rw [← hzl] at hown hnl
    have hesz:∀x∈zs,x.length=sz:=fun x hx=>by
     rw [hzs] at hx;obtain ⟨y,hy,rfl⟩:=List.mem_map.1 hx;exact hesz0 y hy
    have hcells:∀(i j:Nat) (x:List SV) (s:SV),zs[i]? =some x->x[j]? =some s->∃u,cells[i*sz+j]? =some u/\G (fun b=>Keep b∨Own M ρ b) (Own M ρ) ρ w s u:=fun i j x s hx hs=>by
     rw [hzs,List.getElem?_map] at hx
     cases hy:xs[i]? with
     | none=>simp [hy] at hx
     | some y=>
      simp [hy] at hx;subst hx;obtain ⟨u,hu,hd⟩:=hcells0 i j y s hy hs;exact ⟨u,hu,.d _ _ hd⟩
    obtain ⟨b,len,cap,hρ',hxv⟩:=(Gs.head hgs).eloc_inv;rw [hρ] at hρ';cases hρ'
    obtain ⟨hlen',cur,hheap,hnc,hcm,hcs,htake⟩:=yN rfl hown;obtain ⟨hg,hone⟩:=qy hcell (Gs.head (Gs.tail hgs));have hcl:(a.eval y).cells.toList.length=i.sz:=by rw [hg.1,hlen]
    have hl:=hesz _ (List.mem_of_getElem? hx)
    have hmul:n.toNat*sz+sz<=zs.length*sz:=by
     have:=Nat.mul_le_mul_right sz (Nat.succ_le_of_lt hlt);rw [Nat.succ_mul] at this;exact this
    have hcurlen:zs.length*sz<=cur.toList.length:=by simp [hcs];exact Nat.mul_le_mul_right _ hnc
    have hrun:=qP hTi hheap (v:=a.eval y) (off:=n.toNat*sz+off) (by simpa using hcl) (by simp at hcurlen;omega) hone;refine zO.skip (w':=_) (by simp [execOp,ho,hxv,Instr.storeAt,Instr.sureAddr,hrun];rfl) ?_;have hsp:=yA off (yB hesz hcells hx) hg;have hd:=hg.2;have hcellslen:cells.length=zs.length*sz:=hown.1;refine zE.set (hm.write _ hmem hρ rfl _ fun hs=>?_) (.d _ _ (.val _))
    refine ⟨_,cells.take (n.toNat*sz+off)++(a.eval y).cells.toList++cells.drop (n.toNat*sz+off+i.sz),hρ,⟨?_,.inr ⟨b,cap,_,by simp [hlen'],Nat.zero_le _,setRow_heap w b _ _ T _ hheap,by simpa using hnc,hcm,?_,?_⟩⟩,by simpa using hnl,?_,?_,?_⟩
    ·simp only [List.length_append,List.length_take,List.length_drop,hcellslen,hcl,List.length_set];omega
    ·simp only [List.size_toArray,List.length_append,List.length_take,List.length_drop,hcl,Array.length_toList,hcs];simp at hcurlen;omega
    ·rw [← htake,← hcl];simp only [List.length_set];rw [← List.append_assoc];exact jk cur.toList (a.eval y).cells.toList (n.toNat*sz+off) (zs.length*sz) (by rw [hcl];omega) hcurlen
    ·intro u hu;simp only [List.mem_append] at hu
     rcases hu with (hu | hu) | hu
     ·exact hone0 u (List.mem_of_mem_take hu)
     ·exact hone u hu
     ·exact hone0 u (List.mem_of_mem_drop hu)
    ·intro z hz
     rcases List.mem_or_eq_of_mem_set hz with hz | rfl
     ·exact hesz z hz
     ·rw [hx'];unfold ky;simp only [List.length_append,List.length_take,List.length_drop,hl,hlen];omega
    ·intro i' j x s hxi hs';have hln:(cells.take (n.toNat*sz+off)).length=n.toNat*sz+off:=by simp [hcellslen];omega
     by_cases hi':n.toNat=i'
     ·subst hi';simp only [List.getElem?_set,hlt,if_true,Option.some.injEq] at hxi;subst hxi
      have hj:j < sz:=by
       have:=(List.getElem?_eq_some_iff.1 hs').1;rw [hx'] at this;unfold ky at this;simp only [List.length_append,List.length_take,List.length_drop,hl,hlen] at this;omega
      rw [hx'] at hs';unfold ky at hs';simp only [List.getElem?_append,List.length_append,List.length_take,hl,hlen,List.getElem?_take,List.getElem?_drop] at hs';simp only [List.getElem?_append,List.length_append,hln,hcl,List.getElem?_take,List.getElem?_drop];have em:min off sz=off:=oM;simp only [em] at hs'
      by_cases hj1:j < off
      ·simp only [show j < off+i.sz by omega,hj1,if_true] at hs';simp only [show n.toNat*sz+j < n.toNat*sz+off+i.sz by omega,show n.toNat*sz+j < n.toNat*sz+off by omega,if_true];obtain ⟨u,hu,hd'⟩:=hcells _ j _ s hx hs';exact ⟨u,hu,hd'.stp hs⟩
      ·by_cases hj2:j < off+i.sz
       ·simp only [hj2,hj1,if_true,if_false] at hs';simp only [show n.toNat*sz+j < n.toNat*sz+off+i.sz by omega,show ¬(n.toNat*sz+j < n.toNat*sz+off) by omega,if_true,if_false];have hlt':j - off < (a.eval y).cells.toList.length:=oM;refine ⟨(a.eval y).cells.toList[j - off],?_,(hd (j - off) s _ hs' (List.getElem?_eq_getElem hlt')).stp hs⟩;rw [show n.toNat*sz+j - (n.toNat*sz+off)=j - off by omega];exact List.getElem?_eq_getElem hlt'
       ·simp only [hj2,if_false] at hs';simp only [show ¬(n.toNat*sz+j < n.toNat*sz+off+i.sz) by omega,if_false];rw [show off+i.sz+(j - (off+i.sz))=j by omega] at hs';obtain ⟨u,hu,hd'⟩:=hcells _ j _ s hx hs';refine ⟨u,?_,hd'.stp hs⟩;rw [show n.toNat*sz+off+i.sz+(n.toNat*sz+j - (n.toNat*sz+off+i.sz))=n.toNat*sz+j by omega];exact hu
     ·simp only [List.getElem?_set,hi',if_false] at hxi;obtain ⟨u,hu,hd'⟩:=hcells i' j x s hxi hs';refine ⟨u,?_,hd'.stp hs⟩
      have hj:j < sz:=by
       have:=(List.getElem?_eq_some_iff.1 hs').1;rw [hesz x (List.mem_of_getElem? hxi)] at this;exact this
      simp only [List.getElem?_append,List.length_append,hln,hcl,List.getElem?_take,List.getElem?_drop]
      rcases Nat.lt_or_ge i' n.toNat with hlt2 | hge
      ·have h5:i'*sz+sz<=n.toNat*sz:=by
        have:=Nat.mul_le_mul_right sz (Nat.succ_le_of_lt hlt2);rw [Nat.succ_mul] at this;exact this
       simp only [show i'*sz+j < n.toNat*sz+off+i.sz by omega,show i'*sz+j < n.toNat*sz+off by omega,if_true];exact hu
      ·have h5:n.toNat*sz+sz<=i'*sz:=by
        have:=Nat.mul_le_mul_right sz (Nat.succ_le_of_lt (Nat.lt_of_le_of_ne hge hi'));rw [Nat.succ_mul] at this;exact this
       simp only [show ¬(i'*sz+j < n.toNat*sz+off+i.sz) by omega,if_false];rw [show n.toNat*sz+off+i.sz+(i'*sz+j - (n.toNat*sz+off+i.sz))=i'*sz+j by omega];exact hu
   rename_i hflat;obtain ⟨h0,h1⟩:=h.ob;have hlt:n.toNat < xs.length:=oM;have hx:=List.getElem?_eq_getElem hlt;obtain ⟨x',hx',h⟩:=h.go _ hx;refine ⟨_,_,h,fun o ho Keep M ρ a w hlm hm _ _ hgs=>?_⟩;have hmem:=zg (hlm k _ hlk);obtain ⟨v0,cells,hρ,hown,hnl,hone0,hesz,hcells⟩:=hm.rel k _ hmem;obtain ⟨b,len,cap,hρ',hxv⟩:=(Gs.head hgs).eloc_inv;rw [hρ] at hρ';cases hρ'
   obtain ⟨hlen',cur,hheap,hnc,hcm,hcs,htake⟩:=yN rfl hown;obtain ⟨hg,hone⟩:=qy hcell (Gs.head (Gs.tail hgs));have hcl:(a.eval y).cells.toList.length=i.sz:=by rw [hg.1,hlen]
   have hl:=hesz _ (List.mem_of_getElem? hx)
   have hmul:n.toNat*sz+sz<=xs.length*sz:=by
    have:=Nat.mul_le_mul_right sz (Nat.succ_le_of_lt hlt);rw [Nat.succ_mul] at this;exact this
   have hcurlen:xs.length*sz<=cur.toList.length:=by simp [hcs];exact Nat.mul_le_mul_right _ hnc
   have hrun:=qP hTi hheap (v:=a.eval y) (off:=n.toNat*sz+off) (by simpa using hcl) (by simp at hcurlen;omega) hone;refine zO.skip (w':=_) (by simp [execOp,ho,hxv,Instr.storeAt,Instr.sureAddr,hrun];rfl) ?_;have hsp:=yA off (zak hesz hcells hx (Pm:=Own M ρ) (ρ:=ρ)) hg;have hd:=zha hflat hg;have hcellslen:cells.length=xs.length*sz:=hown.1;refine zE.set (hm.write _ hmem hρ rfl _ fun hs=>?_) (.d _ _ (.val _))
   refine ⟨_,cells.take (n.toNat*sz+off)++(a.eval y).cells.toList++cells.drop (n.toNat*sz+off+i.sz),hρ,⟨?_,.inr ⟨b,cap,_,by simp [hlen'],Nat.zero_le _,setRow_heap w b _ _ T _ hheap,by simpa using hnc,hcm,?_,?_⟩⟩,by simpa using hnl,?_,?_,?_⟩
   ·simp only [List.length_append,List.length_take,List.length_drop,hcellslen,hcl,List.length_set];omega
   ·simp only [List.size_toArray,List.length_append,List.length_take,List.length_drop,hcl,Array.length_toList,hcs];simp at hcurlen;omega
   ·rw [← htake,← hcl];simp only [List.length_set];rw [← List.append_assoc];exact jk cur.toList (a.eval y).cells.toList (n.toNat*sz+off) (xs.length*sz) (by rw [hcl];omega) hcurlen
   ·intro u hu;simp only [List.mem_append] at hu
    rcases hu with (hu | hu) | hu
    ·exact hone0 u (List.mem_of_mem_take hu)
    ·exact hone u hu
    ·exact hone0 u (List.mem_of_mem_drop hu)
   ·intro z hz
    rcases List.mem_or_eq_of_mem_set hz with hz | rfl
    ·exact hesz z hz
    ·rw [hx'];unfold ky;simp only [List.length_append,List.length_take,List.length_drop,hl,hlen];omega
   ·intro i' j x s hxi hs';have hln:(cells.take (n.toNat*sz+off)).length=n.toNat*sz+off:=by simp [hcellslen];omega
    by_cases hi':n.toNat=i'
    ·subst hi';simp only [List.getElem?_set,hlt,if_true,Option.some.injEq] at hxi;subst hxi
     have hj:j < sz:=by
      have:=(List.getElem?_eq_some_iff.1 hs').1;rw [hx'] at this;unfold ky at this;simp only [List.length_append,List.length_take,List.length_drop,hl,hlen] at this;omega
     rw [hx'] at hs';unfold ky at hs';simp only [List.getElem?_append,List.length_append,List.length_take,hl,hlen,List.getElem?_take,List.getElem?_drop] at hs';simp only [List.getElem?_append,List.length_append,hln,hcl,List.getElem?_take,List.getElem?_drop];have em:min off sz=off:=oM;simp only [em] at hs'
     by_cases hj1:j < off
     ·simp only [show j < off+i.sz by omega,hj1,if_true] at hs';simp only [show n.toNat*sz+j < n.toNat*sz+off+i.sz by omega,show n.toNat*sz+j < n.toNat*sz+off by omega,if_true];obtain ⟨u,hu,hd'⟩:=hcells _ j _ s hx hs';exact ⟨u,hu,hd'.stp hs⟩
     ·by_cases hj2:j < off+i.sz
      ·simp only [hj2,hj1,if_true,if_false] at hs';simp only [show n.toNat*sz+j < n.toNat*sz+off+i.sz by omega,show ¬(n.toNat*sz+j < n.toNat*sz+off) by omega,if_true,if_false];have hlt':j - off < (a.eval y).cells.toList.length:=oM;refine ⟨(a.eval y).cells.toList[j - off],?_,(hd (j - off) s _ hs' (List.getElem?_eq_getElem hlt')).stp hs⟩;rw [show n.toNat*sz+j - (n.toNat*sz+off)=j - off by omega];exact List.getElem?_eq_getElem hlt'
      ·simp only [hj2,if_false] at hs';simp only [show ¬(n.toNat*sz+j < n.toNat*sz+off+i.sz) by omega,if_false];rw [show off+i.sz+(j - (off+i.sz))=j by omega] at hs';obtain ⟨u,hu,hd'⟩:=hcells _ j _ s hx hs';refine ⟨u,?_,hd'.stp hs⟩;rw [show n.toNat*sz+off+i.sz+(n.toNat*sz+j - (n.toNat*sz+off+i.sz))=n.toNat*sz+j by omega];exact hu
    ·simp only [List.getElem?_set,hi',if_false] at hxi;obtain ⟨u,hu,hd'⟩:=hcells i' j x s hxi hs';refine ⟨u,?_,hd'.stp hs⟩
     have hj:j < sz:=by
      have:=(List.getElem?_eq_some_iff.1 hs').1;rw [hesz x (List.mem_of_getElem? hxi)] at this;exact this
     simp only [List.getElem?_append,List.length_append,hln,hcl,List.getElem?_take,List.getElem?_drop]
     rcases Nat.lt_or_ge i' n.toNat with hlt2 | hge
     ·have h5:i'*sz+sz<=n.toNat*sz:=by
       have:=Nat.mul_le_mul_right sz (Nat.succ_le_of_lt hlt2);rw [Nat.succ_mul] at this;exact this
      simp only [show i'*sz+j < n.toNat*sz+off+i.sz by omega,show i'*sz+j < n.toNat*sz+off by omega,if_true];exact hu
     ·have h5:n.toNat*sz+sz<=i'*sz:=by
       have:=Nat.mul_le_mul_right sz (Nat.succ_le_of_lt (Nat.lt_of_le_of_ne hge hi'));rw [Nat.succ_mul] at this;exact this
      simp only [show ¬(i'*sz+j < n.toNat*sz+off+i.sz) by omega,if_false];rw [show n.toNat*sz+off+i.sz+(i'*sz+j - (n.toNat*sz+off+i.sz))=i'*sz+j by omega];exact hu
  ·rename_i T sz' xs hlk;replace h:=zb h;obtain ⟨hsz,h⟩:=h;replace h:=zb h;obtain ⟨hle,h⟩:=h;have hsz:=Nat.eq_of_beq_eq_true hsz;subst hsz;have hle:=Nat.le_of_ble_eq_true hle;obtain ⟨h0,h1⟩:=h.ob;have hlt:n.toNat < xs.length:=oM;have hx:=List.getElem?_eq_getElem hlt;replace h:=h.go _ hx;obtain ⟨x',hx'⟩:∃x',x'=ky (xs[n.toNat]) off (zA v):=⟨_,rfl⟩;rw [← hx'] at h;refine ⟨_,_,h,fun o ho Keep M ρ a w hlm hm _ _ hgs=>?_⟩;have hmem:=zg (hlm k _ hlk);obtain ⟨v0,cells,hρ,hown,hnl,hone0,hesz,hcells⟩:=hm.rel k _ hmem
   obtain ⟨b,len,cap,hρ',hxv⟩:=(Gs.head hgs).eloc_inv;rw [hρ] at hρ';cases hρ'
   obtain ⟨hlen',cur,hheap,hnc,hcm,hcs,htake⟩:=yN rfl hown;obtain ⟨hg,hone⟩:=qy hcell (Gs.head (Gs.tail hgs));have hcl:(a.eval y).cells.toList.length=i.sz:=by rw [hg.1,hlen]
   have hl:=hesz _ (List.mem_of_getElem? hx)
   have hmul:n.toNat*sz+sz<=xs.length*sz:=by
    have:=Nat.mul_le_mul_right sz (Nat.succ_le_of_lt hlt);rw [Nat.succ_mul] at this;exact this
   have hcurlen:xs.length*sz<=cur.toList.length:=by simp [hcs];exact Nat.mul_le_mul_right _ hnc
   have hrun:=qP hTi hheap (v:=a.eval y) (off:=n.toNat*sz+off) (by simpa using hcl) (by simp at hcurlen;omega) hone;refine zO.skip (w':=_) (by simp [execOp,ho,hxv,Instr.storeAt,Instr.sureAddr,hrun];rfl) ?_;have hsp:=yA off (yB hesz hcells hx) hg;have hd:=hg.2;have hcellslen:cells.length=xs.length*sz:=hown.1;refine zE.set (hm.write _ hmem hρ rfl _ fun hs=>?_) (.d _ _ (.val _))
   refine ⟨_,cells.take (n.toNat*sz+off)++(a.eval y).cells.toList++cells.drop (n.toNat*sz+off+i.sz),hρ,⟨?_,.inr ⟨b,cap,_,by simp [hlen'],Nat.zero_le _,setRow_heap w b _ _ T _ hheap,by simpa using hnc,hcm,?_,?_⟩⟩,by simpa using hnl,?_,?_,?_⟩
   ·simp only [List.length_append,List.length_take,List.length_drop,hcellslen,hcl,List.length_set];omega
   ·simp only [List.size_toArray,List.length_append,List.length_take,List.length_drop,hcl,Array.length_toList,hcs];simp at hcurlen;omega
   ·rw [← htake,← hcl];simp only [List.length_set];rw [← List.append_assoc];exact jk cur.toList (a.eval y).cells.toList (n.toNat*sz+off) (xs.length*sz) (by rw [hcl];omega) hcurlen
   ·intro u hu;simp only [List.mem_append] at hu
    rcases hu with (hu | hu) | hu
    ·exact hone0 u (List.mem_of_mem_take hu)
    ·exact hone u hu
    ·exact hone0 u (List.mem_of_mem_drop hu)
   ·intro z hz
    rcases List.mem_or_eq_of_mem_set hz with hz | rfl
    ·exact hesz z hz
    ·rw [hx'];unfold ky;simp only [List.length_append,List.length_take,List.length_drop,hl,hlen];omega
   ·intro i' j x s hxi hs';have hln:(cells.take (n.toNat*sz+off)).length=n.toNat*sz+off:=by simp [hcellslen];omega
    by_cases hi':n.toNat=i'
    ·subst hi';simp only [List.getElem?_set,hlt,if_true,Option.some.injEq] at hxi;subst hxi
     have hj:j < sz:=by
      have:=(List.getElem?_eq_some_iff.1 hs').1;rw [hx'] at this;unfold ky at this;simp only [List.length_append,List.length_take,List.length_drop,hl,hlen] at this;omega
     rw [hx'] at hs';unfold ky at hs';simp only [List.getElem?_append,List.length_append,List.length_take,hl,hlen,List.getElem?_take,List.getElem?_drop] at hs';simp only [List.getElem?_append,List.length_append,hln,hcl,List.getElem?_take,List.getElem?_drop];have em:min off sz=off:=oM;simp only [em] at hs'
     by_cases hj1:j < off
     ·simp only [show j < off+i.sz by omega,hj1,if_true] at hs';simp only [show n.toNat*sz+j < n.toNat*sz+off+i.sz by omega,show n.toNat*sz+j < n.toNat*sz+off by omega,if_true];obtain ⟨u,hu,hd'⟩:=hcells _ j _ s hx hs';exact ⟨u,hu,hd'.stp hs⟩
     ·by_cases hj2:j < off+i.sz
      ·simp only [hj2,hj1,if_true,if_false] at hs';simp only [show n.toNat*sz+j < n.toNat*sz+off+i.sz by omega,show ¬(n.toNat*sz+j < n.toNat*sz+off) by omega,if_true,if_false];have hlt':j - off < (a.eval y).cells.toList.length:=oM;refine ⟨(a.eval y).cells.toList[j - off],?_,(hd (j - off) s _ hs' (List.getElem?_eq_getElem hlt')).stp hs⟩;rw [show n.toNat*sz+j - (n.toNat*sz+off)=j - off by omega];exact List.getElem?_eq_getElem hlt'
      ·simp only [hj2,if_false] at hs';simp only [show ¬(n.toNat*sz+j < n.toNat*sz+off+i.sz) by omega,if_false];rw [show off+i.sz+(j - (off+i.sz))=j by omega] at hs';obtain ⟨u,hu,hd'⟩:=hcells _ j _ s hx hs';refine ⟨u,?_,hd'.stp hs⟩;rw [show n.toNat*sz+off+i.sz+(n.toNat*sz+j - (n.toNat*sz+off+i.sz))=n.toNat*sz+j by omega];exact hu
    ·simp only [List.getElem?_set,hi',if_false] at hxi;obtain ⟨u,hu,hd'⟩:=hcells i' j x s hxi hs';refine ⟨u,?_,hd'.stp hs⟩
     have hj:j < sz:=by
      have:=(List.getElem?_eq_some_iff.1 hs').1;rw [hesz x (List.mem_of_getElem? hxi)] at this;exact this
     simp only [List.getElem?_append,List.length_append,hln,hcl,List.getElem?_take,List.getElem?_drop]
     rcases Nat.lt_or_ge i' n.toNat with hlt2 | hge
     ·have h5:i'*sz+sz<=n.toNat*sz:=by
       have:=Nat.mul_le_mul_right sz (Nat.succ_le_of_lt hlt2);rw [Nat.succ_mul] at this;exact this
      simp only [show i'*sz+j < n.toNat*sz+off+i.sz by omega,show i'*sz+j < n.toNat*sz+off by omega,if_true];exact hu
     ·have h5:n.toNat*sz+sz<=i'*sz:=by
       have:=Nat.mul_le_mul_right sz (Nat.succ_le_of_lt (Nat.lt_of_le_of_ne hge hi'));rw [Nat.succ_mul] at this;exact this
      simp only [show ¬(i'*sz+j < n.toNat*sz+off+i.sz) by omega,if_false];rw [show n.toNat*sz+off+i.sz+(i'*sz+j - (n.toNat*sz+off+i.sz))=i'*sz+j by omega];exact hu
  ·exact h.elim
 ·exact h.elim
end Go.Gs
