/- The operations on memory: what is left to be shown is enough. -/
import Derived.Test.YtjgadnaphffpkaaGreatDoorMA
import Derived.Test.YtjgadnaphffpkaaGreatDoorMAC
set_option maxRecDepth 100000
set_option maxHeartbeats 8000000
set_option linter.all false
namespace Go.Gs
variable{w:World}{b:Nat}{vs:List Value}
theorem zfC{T:TypeId}(h:w.heap[b]? =some (.cells vs.toArray T (0,0)))(j:Nat):w.cell? ⟨b,j,none⟩=vs[j]? :=by
 rw[cell_of_row w b j _ T _ h];simp
variable{sz:Nat}
theorem zd0{T:TypeId}{v:Value} {n:Nat} {cells:List Value}{len cap:Nat}(hv:v=.slice (some ⟨b,0,none⟩) len cap)
  (h:w.ownsRow 0 T sz v n cells):len=n/\∃cur:Array Value,w.heap[b]? =some (.cells cur T (0,0))/\n<=cap/\cap<=maxLen/\cur.size=cap*sz/\cur.toList.take (n*sz)=cells:=by
 rcases h.2 with⟨h1,_⟩ | ⟨g,cap',cur,h1,_,h2,h3,h4,h5,h6⟩
 ·rw[h1]at hv;cases hv
 ·rw[h1]at hv;cases hv;exact⟨rfl,cur,h2,h3,h4,h5,h6⟩
variable{cur:Array Value}
theorem zbL{T:TypeId} {n:Nat} {cells:List Value} (h:w.heap[b]? =some (.cells cur T (0,0))) (ht:cur.toList.take n=cells)
  {j:Nat} {u:Value} (hu:cells[j]? =some u):w.cell? ⟨b,j,none⟩=some u:=by
 rw[cell_of_row w b j _ T _ h];rw[← ht,Xv]at hu
 split at hu
 ·simpa using hu
 ·cases hu
variable{S:Nat->Prop}{i:Nat}{Pm:Nat->Prop}{ρ:zj}
theorem ziS{α:Type} {enc:α->List SV}{xs:List α} {cells:List Value} (hsz:∀x∈xs,(enc x).length=sz)
  (hg:∀(i j:Nat) x (s:SV),xs[i]? =some x->(enc x)[j]? =some s->∃u,cells[i*sz+j]? =some u/\D S w s u){x:α} (hx:xs[i]? =some x)
:Gs S Pm ρ w (enc x) ((cells.drop (i*sz)).take sz):=by
 have hlen:=hsz x (Xd hx);refine⟨?_,λj s v h1 h2=>?_⟩
 ·have h:(cells.drop (i*sz)).take sz=(List.range sz).map λj=>(cells[i*sz+j]?).getD undef:=by
   apply Kc;intro j
   by_cases hj:j < sz
   ·obtain⟨u,hu,_⟩:=hg i j x ((enc x)[j]'oM) hx (by simp[hlen,hj]);simp[hj,hu]
   ·simp[Xv,hj]
  rw[h];simp[hlen]
 ·rw[Xv]at h2
  split at h2
  ·obtain⟨u,hu,hd⟩:=hg i j x s hx h1;simp only[XU]at h2;rw[hu]at h2;cases h2
   exact .d _ _ hd
  ·cases h2
theorem zdg{xs:List (List SV)} {cells:List Value} (hsz:∀x∈xs,x.length=sz)
  (hg:∀(i j:Nat) x (s:SV),xs[i]? =some x->x[j]? =some s->∃u,cells[i*sz+j]? =some u/\G S Pm ρ w s u){x:List SV} (hx:xs[i]? =some x):Gs S Pm ρ w x ((cells.drop (i*sz)).take sz):=by
 have hlen:=hsz x (Xd hx);refine⟨?_,λj s v h1 h2=>?_⟩
 ·have h:(cells.drop (i*sz)).take sz=(List.range sz).map λj=>(cells[i*sz+j]?).getD undef:=by
   apply Kc;intro j
   by_cases hj:j < sz
   ·obtain⟨u,hu,_⟩:=hg i j x (x[j]'oM) hx (by simp[hlen,hj]);simp[hj,hu]
   ·simp[Xv,hj]
  rw[h];simp[hlen]
 ·rw[Xv]at h2
  split at h2
  ·obtain⟨u,hu,hd⟩:=hg i j x s hx h1;simp only[XU]at h2;rw[hu]at h2;cases h2
   exact hd
  ·cases h2
variable{P:Program}{Γ:List (TypeId×TI)}{x:Operand}{lm:Nat->Option Mem}{κ:Nat}{K:SV->MD->Prop}
theorem zqF(hT:TOK P Γ){t:TypeId}{s:SV}(h:zu6 Γ t s lm K):
  ∃r,K r .none/\yG P (.load t x) [s] lm κ r .none:=by
 unfold zu6 at h;replace h:=zt h;obtain⟨i,hi,h⟩:=h;have hTi:=hT t i hi
 have run:∀{o:Oper} (_:o.op=.load t x) {a:Act} {w:World} {b off:Nat} {v:Value},a.eval x=.pointer (some ⟨b,off,none⟩)->(loadVar t ⟨b,off,none⟩).run P w=.ok v w->
   (execOp a.eval o).run P w=.ok (.value v) w:=by
  intro o ho a w b off v h1 h2;simp[execOp,ho,h1,Instr.loadAt,Instr.sureAddr,h2]
 split at h
 ·rename_i k off
  split at h
  ·rename_i T cs hlk;replace h:=zh h;obtain⟨hle,h⟩:=h;have hle:=Xw hle;obtain⟨r,hK,hr⟩:=uI h;refine⟨r,hK,.read λo ho Keep M ρ a w hlm hm hgs=>?_⟩;obtain⟨b,vs,hρ,hheap,hlen,_,hcells⟩:=hm.rel k _ (hlm k _ hlk);obtain⟨b',hρ',hx⟩:=(Gs.head hgs).loc_inv;rw[hρ]at hρ';cases hρ'
   have hg:Gs (λb=>Keep b∨Own M ρ b) (Own M ρ) ρ w (cs.drop off) (vs.drop off):=Gs.drop off ⟨hlen,hcells⟩;obtain⟨v,h1,h2⟩:=zbK hTi (b:=b) (o:=off) hg (λj v hv=>by rw[zfC hheap];simpa using hv) (by simp;omega) hr;exact⟨v,run ho hx h1,h2⟩
  ·exact h.elim
 ·rename_i cs;replace h:=zh h;obtain⟨hle,h⟩:=h;have hle:=Xw hle;obtain⟨r,hK,hr⟩:=uI h;refine⟨r,hK,.pure λo ho S Pm ρ a w hgs=>?_⟩;obtain⟨b,off,c,hx,_,_,hc,hd⟩:=(Gs.head hgs).ptr_inv
  have hg:Gs S Pm ρ w cs ((List.range cs.length).map c):=⟨by simp,λj s v h1 h2=>by
   have hj:j < cs.length:=(Xc.1 h1).1;simp[hj]at h2;subst h2
   exact .d _ _ (hd j s h1)⟩
  obtain⟨v,h1,h2⟩:=zbK hTi (b:=b) (o:=off) hg (λj v hv=>by
   have hj:j < cs.length:=by have:=(Xc.1 hv).1;simpa using this
   simp[hj]at hv;subst hv
   exact(hc j hj).1) hle hr
  exact⟨v,run ho hx h1,h2⟩
 ·rename_i cs;replace h:=zh h;obtain⟨hle,h⟩:=h;have hle:=Xw hle;obtain⟨r,hK,hr⟩:=uI h;refine⟨r,hK,.pure λo ho S Pm ρ a w hgs=>?_⟩;obtain⟨b,off,c,hx,_,_,hc,hd⟩:=(Gs.head hgs).dptr_inv
  have hg:Gs S Pm ρ w cs ((List.range cs.length).map c):=⟨by simp,λj s v h1 h2=>by
   have hj:j < cs.length:=(Xc.1 h1).1;simp[hj]at h2;subst h2
   exact .d _ _ (hd j s h1)⟩
  obtain⟨v,h1,h2⟩:=zbK hTi (b:=b) (o:=off) hg (λj v hv=>by
   have hj:j < cs.length:=by have:=(Xc.1 hv).1;simpa using this
   simp[hj]at hv;subst hv
   exact(hc j hj).1) hle hr
  exact⟨v,run ho hx h1,h2⟩
 ·rename_i k sz n off
  split at h
  ·rename_i T α enc sz' xs hlk;replace h:=zh h;obtain⟨hsz,h⟩:=h;replace h:=zh h;obtain⟨hle,h⟩:=h;have hsz:=Xf hsz;subst hsz;have hle:=Xw hle;obtain⟨h0,h1⟩:=h.ob;have hlt:n.toNat < xs.length:=oM;have hx:=Xb hlt;obtain⟨r,hK,hr⟩:=uI (h.go _ hx);refine⟨r,hK,.read λo ho Keep M ρ a w hlm hm hgs=>?_⟩;obtain⟨v,cells,hρ,hown,_,_,hesz,hcells⟩:=hm.rel k _ (hlm k _ hlk);obtain⟨b,len,cap,hρ',hxv⟩:=(Gs.head hgs).eloc_inv;rw[hρ]at hρ';cases hρ'
   obtain⟨_,cur,hheap,_,_,_,htake⟩:=zd0 rfl hown;have hg:=Gs.drop off (ziS hesz hcells hx (Pm:=Own M ρ) (ρ:=ρ));have hl:=hesz _ (Xd hx)
   obtain⟨v,h1,h2⟩:=zbK hTi (b:=b) (o:=n.toNat*sz+off) hg (λj u hu=>by
    simp only[XU,Xv]at hu
    split at hu
    ·refine zbL hheap htake ?_;rw[← hu];congr 1;omega
    ·cases hu) (by simp;omega) hr
   exact⟨v,run ho hxv h1,h2⟩
  ·rename_i T sz' xs hlk;replace h:=zh h;obtain⟨hsz,h⟩:=h;replace h:=zh h;obtain⟨hle,h⟩:=h;have hsz:=Xf hsz;subst hsz;have hle:=Xw hle;obtain⟨h0,h1⟩:=h.ob;have hlt:n.toNat < xs.length:=oM;have hx:=Xb hlt;obtain⟨r,hK,hr⟩:=uI (h.go _ hx);refine⟨r,hK,.read λo ho Keep M ρ a w hlm hm hgs=>?_⟩;obtain⟨v,cells,hρ,hown,_,_,hesz,hcells⟩:=hm.rel k _ (hlm k _ hlk);obtain⟨b,len,cap,hρ',hxv⟩:=(Gs.head hgs).eloc_inv;rw[hρ]at hρ';cases hρ'
   obtain⟨_,cur,hheap,_,_,_,htake⟩:=zd0 rfl hown;have hg:=Gs.drop off (zdg hesz hcells hx);have hl:=hesz _ (Xd hx)
   obtain⟨v,h1,h2⟩:=zbK hTi (b:=b) (o:=n.toNat*sz+off) hg (λj u hu=>by
    simp only[XU,Xv]at hu
    split at hu
    ·refine zbL hheap htake ?_;rw[← hu];congr 1;omega
    ·cases hu) (by simp;omega) hr
   exact⟨v,run ho hxv h1,h2⟩
  ·exact h.elim
 ·exact h.elim
theorem Gs.stp {Keep W W':Nat->Prop} {ρ ρ':zj} {w w':World} (h:Stp W W' ρ ρ' w w') {cs:List SV} {vs:List Value}
  (hg:Gs (λb=>Keep b∨W b) W ρ w cs vs):Gs (λb=>Keep b∨W' b) W' ρ' w' cs vs:=hg.mono' λ_ _ h'=>h'.stp h
variable{Keep:Nat->Prop}{M:List (Nat×Mem)}
theorem zcl(hm:zN Keep M ρ w)(hκ:ρ κ=none) (hκM:∀m,(κ,m)∉M) (m:Mem) (o:Obj) (v:Value) (ho:qb w (w.alloc o))
  (hv:qu v=some w.heap.size)
  (hrel:Stp (Own M ρ) (Own ((κ,m)::M) (upd ρ κ v)) ρ (upd ρ κ v) w (w.alloc o)->
   jW (λb=>Keep b∨Own ((κ,m)::M) (upd ρ κ v) b) (Own ((κ,m)::M) (upd ρ κ v)) (upd ρ κ v) (w.alloc o) κ m):
  Stp (Own M ρ) (Own ((κ,m)::M) (upd ρ κ v)) ρ (upd ρ κ v) w (w.alloc o)/\zN Keep ((κ,m)::M) (upd ρ κ v) (w.alloc o):=
 hm.grow (λ_ h=>h) hm.keys hκ hκM v m (w.alloc o) rfl rfl ho (by simp) (λb hb _=>heap_alloc_old w o b hb)
  (λk m v b h1 h2 h3=>heap_alloc_old w o b (hm.old b ⟨k,m,v,h1,h2,h3⟩).1)
  (λb hb=>by
   rw[hv]at hb;cases hb
   exact⟨.inr (Xh _),by simp,λk m v' h1 h2 h3=>by have:=(hm.old _ ⟨k,m,v',h1,h2,h3⟩).1;omega⟩) hrel
theorem k7.push {Keep:Nat->Prop} {M:List (Nat×Mem)} {ρ:zj} {w w':World} {κ:Nat} {s:SV} {m:Mem} {v u:Value}
  (h:Stp (Own M ρ) (Own ((κ,m)::M) (upd ρ κ u)) ρ (upd ρ κ u) w w'/\zN Keep ((κ,m)::M) (upd ρ κ u) w')
  (hg:G (λb=>Keep b∨Own ((κ,m)::M) (upd ρ κ u) b) (Own ((κ,m)::M) (upd ρ κ u)) (upd ρ κ u) w' s v):k7 Keep M ρ w κ s (.push m) v w':=
 ⟨upd ρ κ u,h.1,h.2,hg,λk hk=>zcj (by
  rcases hk with hk | hk
  ·omega
  ·simp only[zaL]at hk;omega)⟩
variable{cs:List SV}
theorem zlf(hm:zN Keep M ρ w)(hκ:ρ κ=none) (hκM:∀m,(κ,m)∉M) (T:TypeId)
  (hg:Gs (λb=>Keep b∨Own M ρ b) (Own M ρ) ρ w cs vs) (h1:∀v∈vs,v.oneCell'=true):
  k7 Keep M ρ w κ (.loc κ 0) (.push (.box T cs)) (.pointer (some ⟨w.heap.size,0,none⟩)) (w.alloc (.cells vs.toArray T)):=
 k7.push (u:=.pointer (some ⟨w.heap.size,0,none⟩)) (zcl hm hκ hκM _ _ _ (.cells _ _ _) rfl λhs=>
  ⟨w.heap.size,vs,ky,heap_alloc_new w _,hg.1,h1,(hg.stp hs).2⟩) (.loc _ _ _ ky)
variable{e:TypeId}
theorem zn8(hT:TOK P Γ){svs:List SV}
  (h:kE Γ e λi=>K (.loc κ 0) (.push (.box e (vals i.zero)))):∃r md,K r md/\yG P (.alloc e) svs lm κ r md:=by
 replace h:=zt h;obtain⟨i,hi,h⟩:=h;obtain⟨f,h1,h2,h3,z,h4,h5,h6,h7,h8⟩:=(hT e i hi).inf;refine⟨_,_,h,λo ho Keep M ρ a w _ hm hκ hκM _=>?_⟩;replace hκ:=hκ _ (Xh _) (XV _);replace hκM:=hκM rfl;refine qE.value (v:=.pointer (some ⟨w.heap.size,0,none⟩)) (w':=w.alloc (.cells i.zero.toArray e)) ?_ (zlf hm hκ hκM e (Gs.vals _) h8);have hz:z.cells=i.zero.toArray:=by rw[← h5]
 simp[execOp,ho,Instr.alloc,zeroValue,typeInfo,h1,h4,newVar,newRow,hz]
theorem ztq{s:SV}
  (h:zR (ya (kR s)) (K (.loc κ 0) (.push (.box e (kR s))))):∃r md,K r md/\yG P (.box e x) [s] lm κ r md:=by
 replace h:=zh h;obtain⟨hc,h⟩:=h;refine⟨_,_,h,λo ho Keep M ρ a w _ hm hκ hκM hgs=>?_⟩;replace hκ:=hκ _ (Xh _) (XV _);replace hκM:=hκM rfl;obtain⟨h1,h2⟩:=vG hc (Gs.head hgs);refine qE.value (v:=.pointer (some ⟨w.heap.size,0,none⟩)) (w':=w.alloc (.cells (a.eval x).cells e)) ?_ (by simpa using zlf hm hκ hκM e h1 h2);simp[execOp,ho,Instr.box,newVar,newRow]
variable{off:Nat}
theorem vk{t:TypeId} {i:TI} (hT:zh6 P t i){T:TypeId}(hheap:w.heap[b]? =some (.cells cur T (0,0))) {v:Value}
  (hsz:v.cells.size=i.sz) (hle:off+i.sz<=cur.size) (h1:∀u∈v.cells.toList,u.oneCell'=true):
  (storeVar t ⟨b,off,none⟩ v).run P w=.ok () (w.setRow b (cur.toList.take off++v.cells.toList++cur.toList.drop (off+i.sz)).toArray):=by
 have:=run_storeCells_at P b off T v.cells.toList 0 cur w hheap (by simp[hsz];omega) h1;simp only[XN,KO,hsz]at this;simp[storeVar,hT.size,hsz,this]
theorem k7.set {Keep:Nat->Prop} {M:List (Nat×Mem)} {ρ:zj} {w w':World} {κ k:Nat} {s:SV} {m:Mem} {v:Value}
  (h:Stp (Own M ρ) (Own (qL M k m) ρ) ρ ρ w w'/\zN Keep (qL M k m) ρ w')
  (hg:G (λb=>Keep b∨Own (qL M k m) ρ b) (Own (qL M k m) ρ) ρ w' s v):k7 Keep M ρ w κ s (.set k m) v w':=
 ⟨ρ,h.1,h.2,hg,λ_ _=>rfl⟩
theorem yQ(h:ym.flats cs=true):∀(j:Nat) (s:SV),cs[j]? =some s->ym s=true:=by
 induction cs with
 | nil=>intro j s h1;simp at h1
 | cons c cs ih=>
  intro j s h1;simp only[ym.flats]at h
  split at h
  ·rename_i hc
   cases j with
   | zero=>simp at h1;subst h1;exact hc
   | succ j=>exact ih h j s (by simpa using h1)
  ·cases h
theorem uB{s:SV}(hs:ym s=true){v:Value}(hg:G S Pm ρ w s v):D S w s v:=by
 induction hg with
 | d _ _ h=>exact h
 | agg cs vs hl h ih=>
  have hf:ym.flats cs=true:=hs;exact .agg cs vs hl λj s v h1 h2=>ih j s v h1 h2 (yQ hf j s h1)
 | ifc t s v h ih=>
  have hf:ym s=true:=hs;exact .ifc t s v (ih hf)
 | _=>simp[ym]at hs
theorem zyl(h:ym.flats cs=true)(hg:Gs S Pm ρ w cs vs):
  ∀(j:Nat) (s:SV) (v:Value),cs[j]? =some s->vs[j]? =some v->D S w s v:=λj s v h1 h2=>uB (yQ h j s h1) (hg.2 j s v h1 h2)
theorem zbk(cur new:List Value)(o N:Nat)(h:o+new.length<=N)(hN:N<=cur.length):
  (cur.take o++new++cur.drop (o+new.length)).take N=(cur.take N).take o++new++(cur.take N).drop (o+new.length):=by
 have e1:(cur.take o++new).length=o+new.length:=by simp;omega
 rw[List.take_append,Xg oM,e1,Yf,KU oM,List.drop_take]
theorem zn9(hT:TOK P Γ){t:TypeId}{y:Operand}{s v:SV}(h:zqv Γ t s v lm K):
  ∃r md,K r md/\yG P (.store t x y) [s,v] lm κ r md:=by
 unfold zqv at h;replace h:=zt h;obtain⟨i,hi,h⟩:=h;have hTi:=hT t i hi;replace h:=zh h;obtain⟨hcell,h⟩:=h;replace h:=zh h;obtain⟨hlen,h⟩:=h;have hlen:=Xf hlen
 split at h
 ·rename_i k off
  split at h
  ·rename_i T cs hlk;replace h:=zh h;obtain⟨hle,h⟩:=h;have hle:=Xw hle;refine⟨_,_,h,λo ho Keep M ρ a w hlm hm _ _ hgs=>?_⟩;have hmem:=zA (hlm k _ hlk);obtain⟨b,vs,hρ,hheap,hl,h1,hcells⟩:=hm.rel k _ hmem;obtain⟨b',hρ',hx⟩:=(Gs.head hgs).loc_inv;rw[hρ]at hρ';cases hρ'
   obtain⟨hg,hone⟩:=vG hcell (Gs.head (Gs.tail hgs));have hcl:(a.eval y).cells.toList.length=i.sz:=by rw[hg.1,hlen]
   have hrun:=vk hTi hheap (v:=a.eval y) (off:=off) (by simpa using hcl) (by simp;omega) hone;refine qE.skip (w':=_) (by simp[execOp,ho,hx,Instr.storeAt,Instr.sureAddr,hrun];rfl) ?_;have hsp:=zdf off (⟨hl,hcells⟩:Gs (λb=>Keep b∨Own M ρ b) (Own M ρ) ρ w cs vs) hg;rw[hcl]at hsp;refine k7.set (hm.write _ hmem hρ rfl _ λhs=>?_) (.d _ _ (.val _));refine⟨b,_,hρ,by simpa using setRow_heap w b _ _ T _ hheap,(hsp.stp hs).1,λu hu=>?_,(hsp.stp hs).2⟩;simp only[Xo]at hu
   rcases hu with(hu | hu) | hu
   ·exact h1 u (XC hu)
   ·exact hone u hu
   ·exact h1 u (Ko hu)
  ·exact h.elim
 ·rename_i k sz n off
  split at h
  ·rename_i T α enc sz' xs hlk;replace h:=zh h;obtain⟨hsz,h⟩:=h;replace h:=zh h;obtain⟨hle,h⟩:=h;have hsz:=Xf hsz;subst hsz;have hle:=Xw hle
   split at h
   rotate_left
   ·obtain⟨h0,h1⟩:=h.ob;have hlt0:n.toNat < xs.length:=oM;have hx0:=Xb hlt0;replace h:=h.go _ hx0;obtain⟨zs,hzs⟩:∃zs,zs=xs.map enc:=⟨_,rfl⟩;have hzl:zs.length=xs.length:=by rw[hzs,XF]
    have hlt:n.toNat < zs.length:=oM;have hx:=Xb hlt;have hxe:zs[n.toNat]=enc xs[n.toNat]:=by subst hzs;simp
    rw[← hzs,← hxe]at h;obtain⟨x',hx'⟩:∃x',x'=yn (zs[n.toNat]) off (kR v):=⟨_,rfl⟩;rw[← hx']at h;refine⟨_,_,h,λo ho Keep M ρ a w hlm hm _ _ hgs=>?_⟩;have hmem:=zA (hlm k _ hlk);obtain⟨v0,cells,hρ,hown,hnl,hone0,hesz0,hcells0⟩:=hm.rel k _ hmem;rw[← hzl]at hown hnl
    have hesz:∀x∈zs,x.length=sz:=λx hx=>by
     rw[hzs]at hx;obtain⟨y,hy,rfl⟩:=XY.1 hx;exact hesz0 y hy
    have hcells:∀(i j:Nat) (x:List SV) (s:SV),zs[i]? =some x->x[j]? =some s->∃u,cells[i*sz+j]? =some u/\G (λb=>Keep b∨Own M ρ b) (Own M ρ) ρ w s u:=λi j x s hx hs=>by
     rw[hzs,XA]at hx
     cases hy:xs[i]? with
     | none=>simp[hy]at hx
     | some y=>
      simp[hy]at hx;subst hx;obtain⟨u,hu,hd⟩:=hcells0 i j y s hy hs;exact⟨u,hu,.d _ _ hd⟩
    obtain⟨b,len,cap,hρ',hxv⟩:=(Gs.head hgs).eloc_inv;rw[hρ]at hρ';cases hρ'
    obtain⟨hlen',cur,hheap,hnc,hcm,hcs,htake⟩:=zd0 rfl hown;obtain⟨hg,hone⟩:=vG hcell (Gs.head (Gs.tail hgs));have hcl:(a.eval y).cells.toList.length=i.sz:=by rw[hg.1,hlen]
    have hl:=hesz _ (Xd hx)
    have hmul:n.toNat*sz+sz<=zs.length*sz:=by
     have:=Xp sz (XS hlt);rw[XT]at this;exact this
    have hcurlen:zs.length*sz<=cur.toList.length:=by simp[hcs];exact Xp _ hnc
    have hrun:=vk hTi hheap (v:=a.eval y) (off:=n.toNat*sz+off) (by simpa using hcl) (by simp at hcurlen;omega) hone;refine qE.skip (w':=_) (by simp[execOp,ho,hxv,Instr.storeAt,Instr.sureAddr,hrun];rfl) ?_;have hsp:=zdf off (zdg hesz hcells hx) hg;have hd:=hg.2;have hcellslen:cells.length=zs.length*sz:=hown.1;refine k7.set (hm.write _ hmem hρ rfl _ λhs=>?_) (.d _ _ (.val _))
    refine⟨_,cells.take (n.toNat*sz+off)++(a.eval y).cells.toList++cells.drop (n.toNat*sz+off+i.sz),hρ,⟨?_,.inr ⟨b,cap,_,by simp[hlen'],Xe _,setRow_heap w b _ _ T _ hheap,by simpa using hnc,hcm,?_,?_⟩⟩,by simpa using hnl,?_,?_,?_⟩
    ·simp only[Xi,Xk,XO,hcellslen,hcl,X1];omega
    ·simp only[Ky,Xi,Xk,XO,hcl,KO,hcs];simp at hcurlen;omega
    ·rw[← htake,← hcl];simp only[X1];rw[← XL];exact zbk cur.toList (a.eval y).cells.toList (n.toNat*sz+off) (zs.length*sz) (by rw[hcl];omega) hcurlen
    ·intro u hu;simp only[Xo]at hu
     rcases hu with(hu | hu) | hu
     ·exact hone0 u (XC hu)
     ·exact hone u hu
     ·exact hone0 u (Ko hu)
    ·intro z hz
     rcases QL hz with hz | rfl
     ·exact hesz z hz
     ·rw[hx'];unfold yn;simp only[Xi,Xk,XO,hl,hlen];omega
    ·intro i' j x s hxi hs';have hln:(cells.take (n.toNat*sz+off)).length=n.toNat*sz+off:=by simp[hcellslen];omega
     by_cases hi':n.toNat=i'
     ·subst hi';simp only[Kq,hlt,if_true,Qn]at hxi;subst hxi
      have hj:j < sz:=by
       have:=(Xc.1 hs').1;rw[hx']at this;unfold yn at this;simp only[Xi,Xk,XO,hl,hlen]at this;omega
      rw[hx']at hs';unfold yn at hs';simp only[XP,Xi,Xk,hl,hlen,Xv,XU]at hs';simp only[XP,Xi,hln,hcl,Xv,XU];have em:min off sz=off:=oM;simp only[em]at hs'
      by_cases hj1:j < off
      ·simp only[show j < off+i.sz by omega,hj1,if_true]at hs';simp only[show n.toNat*sz+j < n.toNat*sz+off+i.sz by omega,show n.toNat*sz+j < n.toNat*sz+off by omega,if_true];obtain⟨u,hu,hd'⟩:=hcells _ j _ s hx hs';exact⟨u,hu,hd'.stp hs⟩
      ·by_cases hj2:j < off+i.sz
       ·simp only[hj2,hj1,if_true,if_false]at hs';simp only[show n.toNat*sz+j < n.toNat*sz+off+i.sz by omega,show ¬(n.toNat*sz+j < n.toNat*sz+off) by omega,if_true,if_false];have hlt':j - off < (a.eval y).cells.toList.length:=oM;refine⟨(a.eval y).cells.toList[j - off],?_,(hd (j - off) s _ hs' (Xb hlt')).stp hs⟩;rw[show n.toNat*sz+j - (n.toNat*sz+off)=j - off by omega];exact Xb hlt'
       ·simp only[hj2,if_false]at hs';simp only[show ¬(n.toNat*sz+j < n.toNat*sz+off+i.sz) by omega,if_false];rw[show off+i.sz+(j - (off+i.sz))=j by omega]at hs';obtain⟨u,hu,hd'⟩:=hcells _ j _ s hx hs';refine⟨u,?_,hd'.stp hs⟩;rw[show n.toNat*sz+off+i.sz+(n.toNat*sz+j - (n.toNat*sz+off+i.sz))=n.toNat*sz+j by omega];exact hu
     ·simp only[Kq,hi',if_false]at hxi;obtain⟨u,hu,hd'⟩:=hcells i' j x s hxi hs';refine⟨u,?_,hd'.stp hs⟩
      have hj:j < sz:=by
       have:=(Xc.1 hs').1;rw[hesz x (Xd hxi)]at this;exact this
      simp only[XP,Xi,hln,hcl,Xv,XU]
      rcases Qa i' n.toNat with hlt2 | hge
      ·have h5:i'*sz+sz<=n.toNat*sz:=by
        have:=Xp sz (XS hlt2);rw[XT]at this;exact this
       simp only[show i'*sz+j < n.toNat*sz+off+i.sz by omega,show i'*sz+j < n.toNat*sz+off by omega,if_true];exact hu
      ·have h5:n.toNat*sz+sz<=i'*sz:=by
        have:=Xp sz (XS (JC hge hi'));rw[XT]at this;exact this
       simp only[show ¬(i'*sz+j < n.toNat*sz+off+i.sz) by omega,if_false];rw[show n.toNat*sz+off+i.sz+(i'*sz+j - (n.toNat*sz+off+i.sz))=i'*sz+j by omega];exact hu
   rename_i hflat;obtain⟨h0,h1⟩:=h.ob;have hlt:n.toNat < xs.length:=oM;have hx:=Xb hlt;obtain⟨x',hx',h⟩:=h.go _ hx;refine⟨_,_,h,λo ho Keep M ρ a w hlm hm _ _ hgs=>?_⟩;have hmem:=zA (hlm k _ hlk);obtain⟨v0,cells,hρ,hown,hnl,hone0,hesz,hcells⟩:=hm.rel k _ hmem;obtain⟨b,len,cap,hρ',hxv⟩:=(Gs.head hgs).eloc_inv;rw[hρ]at hρ';cases hρ'
   obtain⟨hlen',cur,hheap,hnc,hcm,hcs,htake⟩:=zd0 rfl hown;obtain⟨hg,hone⟩:=vG hcell (Gs.head (Gs.tail hgs));have hcl:(a.eval y).cells.toList.length=i.sz:=by rw[hg.1,hlen]
   have hl:=hesz _ (Xd hx)
   have hmul:n.toNat*sz+sz<=xs.length*sz:=by
    have:=Xp sz (XS hlt);rw[XT]at this;exact this
   have hcurlen:xs.length*sz<=cur.toList.length:=by simp[hcs];exact Xp _ hnc
   have hrun:=vk hTi hheap (v:=a.eval y) (off:=n.toNat*sz+off) (by simpa using hcl) (by simp at hcurlen;omega) hone;refine qE.skip (w':=_) (by simp[execOp,ho,hxv,Instr.storeAt,Instr.sureAddr,hrun];rfl) ?_;have hsp:=zdf off (ziS hesz hcells hx (Pm:=Own M ρ) (ρ:=ρ)) hg;have hd:=zyl hflat hg;have hcellslen:cells.length=xs.length*sz:=hown.1;refine k7.set (hm.write _ hmem hρ rfl _ λhs=>?_) (.d _ _ (.val _))
   refine⟨_,cells.take (n.toNat*sz+off)++(a.eval y).cells.toList++cells.drop (n.toNat*sz+off+i.sz),hρ,⟨?_,.inr ⟨b,cap,_,by simp[hlen'],Xe _,setRow_heap w b _ _ T _ hheap,by simpa using hnc,hcm,?_,?_⟩⟩,by simpa using hnl,?_,?_,?_⟩
   ·simp only[Xi,Xk,XO,hcellslen,hcl,X1];omega
   ·simp only[Ky,Xi,Xk,XO,hcl,KO,hcs];simp at hcurlen;omega
   ·rw[← htake,← hcl];simp only[X1];rw[← XL];exact zbk cur.toList (a.eval y).cells.toList (n.toNat*sz+off) (xs.length*sz) (by rw[hcl];omega) hcurlen
   ·intro u hu;simp only[Xo]at hu
    rcases hu with(hu | hu) | hu
    ·exact hone0 u (XC hu)
    ·exact hone u hu
    ·exact hone0 u (Ko hu)
   ·intro z hz
    rcases QL hz with hz | rfl
    ·exact hesz z hz
    ·rw[hx'];unfold yn;simp only[Xi,Xk,XO,hl,hlen];omega
   ·intro i' j x s hxi hs';have hln:(cells.take (n.toNat*sz+off)).length=n.toNat*sz+off:=by simp[hcellslen];omega
    by_cases hi':n.toNat=i'
    ·subst hi';simp only[Kq,hlt,if_true,Qn]at hxi;subst hxi
     have hj:j < sz:=by
      have:=(Xc.1 hs').1;rw[hx']at this;unfold yn at this;simp only[Xi,Xk,XO,hl,hlen]at this;omega
     rw[hx']at hs';unfold yn at hs';simp only[XP,Xi,Xk,hl,hlen,Xv,XU]at hs';simp only[XP,Xi,hln,hcl,Xv,XU];have em:min off sz=off:=oM;simp only[em]at hs'
     by_cases hj1:j < off
     ·simp only[show j < off+i.sz by omega,hj1,if_true]at hs';simp only[show n.toNat*sz+j < n.toNat*sz+off+i.sz by omega,show n.toNat*sz+j < n.toNat*sz+off by omega,if_true];obtain⟨u,hu,hd'⟩:=hcells _ j _ s hx hs';exact⟨u,hu,hd'.stp hs⟩
     ·by_cases hj2:j < off+i.sz
      ·simp only[hj2,hj1,if_true,if_false]at hs';simp only[show n.toNat*sz+j < n.toNat*sz+off+i.sz by omega,show ¬(n.toNat*sz+j < n.toNat*sz+off) by omega,if_true,if_false];have hlt':j - off < (a.eval y).cells.toList.length:=oM;refine⟨(a.eval y).cells.toList[j - off],?_,(hd (j - off) s _ hs' (Xb hlt')).stp hs⟩;rw[show n.toNat*sz+j - (n.toNat*sz+off)=j - off by omega];exact Xb hlt'
      ·simp only[hj2,if_false]at hs';simp only[show ¬(n.toNat*sz+j < n.toNat*sz+off+i.sz) by omega,if_false];rw[show off+i.sz+(j - (off+i.sz))=j by omega]at hs';obtain⟨u,hu,hd'⟩:=hcells _ j _ s hx hs';refine⟨u,?_,hd'.stp hs⟩;rw[show n.toNat*sz+off+i.sz+(n.toNat*sz+j - (n.toNat*sz+off+i.sz))=n.toNat*sz+j by omega];exact hu
    ·simp only[Kq,hi',if_false]at hxi;obtain⟨u,hu,hd'⟩:=hcells i' j x s hxi hs';refine⟨u,?_,hd'.stp hs⟩
     have hj:j < sz:=by
      have:=(Xc.1 hs').1;rw[hesz x (Xd hxi)]at this;exact this
     simp only[XP,Xi,hln,hcl,Xv,XU]
     rcases Qa i' n.toNat with hlt2 | hge
     ·have h5:i'*sz+sz<=n.toNat*sz:=by
       have:=Xp sz (XS hlt2);rw[XT]at this;exact this
      simp only[show i'*sz+j < n.toNat*sz+off+i.sz by omega,show i'*sz+j < n.toNat*sz+off by omega,if_true];exact hu
     ·have h5:n.toNat*sz+sz<=i'*sz:=by
       have:=Xp sz (XS (JC hge hi'));rw[XT]at this;exact this
      simp only[show ¬(i'*sz+j < n.toNat*sz+off+i.sz) by omega,if_false];rw[show n.toNat*sz+off+i.sz+(i'*sz+j - (n.toNat*sz+off+i.sz))=i'*sz+j by omega];exact hu
  ·rename_i T sz' xs hlk;replace h:=zh h;obtain⟨hsz,h⟩:=h;replace h:=zh h;obtain⟨hle,h⟩:=h;have hsz:=Xf hsz;subst hsz;have hle:=Xw hle;obtain⟨h0,h1⟩:=h.ob;have hlt:n.toNat < xs.length:=oM;have hx:=Xb hlt;replace h:=h.go _ hx;obtain⟨x',hx'⟩:∃x',x'=yn (xs[n.toNat]) off (kR v):=⟨_,rfl⟩;rw[← hx']at h;refine⟨_,_,h,λo ho Keep M ρ a w hlm hm _ _ hgs=>?_⟩;have hmem:=zA (hlm k _ hlk);obtain⟨v0,cells,hρ,hown,hnl,hone0,hesz,hcells⟩:=hm.rel k _ hmem
   obtain⟨b,len,cap,hρ',hxv⟩:=(Gs.head hgs).eloc_inv;rw[hρ]at hρ';cases hρ'
   obtain⟨hlen',cur,hheap,hnc,hcm,hcs,htake⟩:=zd0 rfl hown;obtain⟨hg,hone⟩:=vG hcell (Gs.head (Gs.tail hgs));have hcl:(a.eval y).cells.toList.length=i.sz:=by rw[hg.1,hlen]
   have hl:=hesz _ (Xd hx)
   have hmul:n.toNat*sz+sz<=xs.length*sz:=by
    have:=Xp sz (XS hlt);rw[XT]at this;exact this
   have hcurlen:xs.length*sz<=cur.toList.length:=by simp[hcs];exact Xp _ hnc
   have hrun:=vk hTi hheap (v:=a.eval y) (off:=n.toNat*sz+off) (by simpa using hcl) (by simp at hcurlen;omega) hone;refine qE.skip (w':=_) (by simp[execOp,ho,hxv,Instr.storeAt,Instr.sureAddr,hrun];rfl) ?_;have hsp:=zdf off (zdg hesz hcells hx) hg;have hd:=hg.2;have hcellslen:cells.length=xs.length*sz:=hown.1;refine k7.set (hm.write _ hmem hρ rfl _ λhs=>?_) (.d _ _ (.val _))
   refine⟨_,cells.take (n.toNat*sz+off)++(a.eval y).cells.toList++cells.drop (n.toNat*sz+off+i.sz),hρ,⟨?_,.inr ⟨b,cap,_,by simp[hlen'],Xe _,setRow_heap w b _ _ T _ hheap,by simpa using hnc,hcm,?_,?_⟩⟩,by simpa using hnl,?_,?_,?_⟩
   ·simp only[Xi,Xk,XO,hcellslen,hcl,X1];omega
   ·simp only[Ky,Xi,Xk,XO,hcl,KO,hcs];simp at hcurlen;omega
   ·rw[← htake,← hcl];simp only[X1];rw[← XL];exact zbk cur.toList (a.eval y).cells.toList (n.toNat*sz+off) (xs.length*sz) (by rw[hcl];omega) hcurlen
   ·intro u hu;simp only[Xo]at hu
    rcases hu with(hu | hu) | hu
    ·exact hone0 u (XC hu)
    ·exact hone u hu
    ·exact hone0 u (Ko hu)
   ·intro z hz
    rcases QL hz with hz | rfl
    ·exact hesz z hz
    ·rw[hx'];unfold yn;simp only[Xi,Xk,XO,hl,hlen];omega
   ·intro i' j x s hxi hs';have hln:(cells.take (n.toNat*sz+off)).length=n.toNat*sz+off:=by simp[hcellslen];omega
    by_cases hi':n.toNat=i'
    ·subst hi';simp only[Kq,hlt,if_true,Qn]at hxi;subst hxi
     have hj:j < sz:=by
      have:=(Xc.1 hs').1;rw[hx']at this;unfold yn at this;simp only[Xi,Xk,XO,hl,hlen]at this;omega
     rw[hx']at hs';unfold yn at hs';simp only[XP,Xi,Xk,hl,hlen,Xv,XU]at hs';simp only[XP,Xi,hln,hcl,Xv,XU];have em:min off sz=off:=oM;simp only[em]at hs'
     by_cases hj1:j < off
     ·simp only[show j < off+i.sz by omega,hj1,if_true]at hs';simp only[show n.toNat*sz+j < n.toNat*sz+off+i.sz by omega,show n.toNat*sz+j < n.toNat*sz+off by omega,if_true];obtain⟨u,hu,hd'⟩:=hcells _ j _ s hx hs';exact⟨u,hu,hd'.stp hs⟩
     ·by_cases hj2:j < off+i.sz
      ·simp only[hj2,hj1,if_true,if_false]at hs';simp only[show n.toNat*sz+j < n.toNat*sz+off+i.sz by omega,show ¬(n.toNat*sz+j < n.toNat*sz+off) by omega,if_true,if_false];have hlt':j - off < (a.eval y).cells.toList.length:=oM;refine⟨(a.eval y).cells.toList[j - off],?_,(hd (j - off) s _ hs' (Xb hlt')).stp hs⟩;rw[show n.toNat*sz+j - (n.toNat*sz+off)=j - off by omega];exact Xb hlt'
      ·simp only[hj2,if_false]at hs';simp only[show ¬(n.toNat*sz+j < n.toNat*sz+off+i.sz) by omega,if_false];rw[show off+i.sz+(j - (off+i.sz))=j by omega]at hs';obtain⟨u,hu,hd'⟩:=hcells _ j _ s hx hs';refine⟨u,?_,hd'.stp hs⟩;rw[show n.toNat*sz+off+i.sz+(n.toNat*sz+j - (n.toNat*sz+off+i.sz))=n.toNat*sz+j by omega];exact hu
    ·simp only[Kq,hi',if_false]at hxi;obtain⟨u,hu,hd'⟩:=hcells i' j x s hxi hs';refine⟨u,?_,hd'.stp hs⟩
     have hj:j < sz:=by
      have:=(Xc.1 hs').1;rw[hesz x (Xd hxi)]at this;exact this
     simp only[XP,Xi,hln,hcl,Xv,XU]
     rcases Qa i' n.toNat with hlt2 | hge
     ·have h5:i'*sz+sz<=n.toNat*sz:=by
       have:=Xp sz (XS hlt2);rw[XT]at this;exact this
      simp only[show i'*sz+j < n.toNat*sz+off+i.sz by omega,show i'*sz+j < n.toNat*sz+off by omega,if_true];exact hu
     ·have h5:n.toNat*sz+sz<=i'*sz:=by
       have:=Xp sz (XS (JC hge hi'));rw[XT]at this;exact this
      simp only[show ¬(i'*sz+j < n.toNat*sz+off+i.sz) by omega,if_false];rw[show n.toNat*sz+off+i.sz+(i'*sz+j - (n.toNat*sz+off+i.sz))=i'*sz+j by omega];exact hu
  ·exact h.elim
 ·exact h.elim
theorem zrR{l:List (Nat×TypeId)}{n:Nat}:znZ l n=l[n]? :=by
 induction l generalizing n with
 | nil=>rfl
 | cons x r ih=>cases n with
  | zero=>rfl
  | succ n=>simp[znZ,ih]
variable{f:Nat}
theorem zoa{t:TypeId}{fs:List (Nat×TypeId)}(h:ze2 P t (.struct fs)){ft:TypeId}(hn:znZ fs f=some (off,ft)):
  ∃(F:Array Field) (fl:Field),P.underlying t=some (.struct F)/\F[f]? =some fl/\fl.offset=off/\fl.type=ft:=by
 obtain⟨F,hF,hm,_⟩:=h;rw[zrR,← hm,XA]at hn
 cases hq:F.toList[f]? with
 | none=>simp[hq]at hn
 | some fl=>
  simp only[hq,K2,Qn,K5]at hn;exact⟨F,fl,hF,by simpa using hq,hn.1,hn.2⟩
theorem zh7(hT:TOK P Γ) {t:TypeId}{s:SV}
  (h:zeX Γ t f s K):∃r,K r .none/\yG P (.fieldAddr t x f) [s] lm κ r .none:=by
 unfold zeX at h;replace h:=zt h;obtain⟨i,hi,h⟩:=h;have hk:=(hT t i hi).kind
 split at h
 ·rename_i fs hfs;rw[hfs]at hk
  split at h
  ·rename_i off ft hn;replace h:=zt h;obtain⟨j,hj,h⟩:=h;replace h:=zh h;obtain⟨hz,h⟩:=h;obtain⟨F,fl,hF,hfl,hoff,hft⟩:=zoa hk hn;have hsz:∀w,(sizeOf fl.type).run P w=.ok j.sz w:=λw=>by rw[hft];exact(hT ft j hj).size w
   have hz:¬j.sz=0:=by
    have:=Xw hz;omega
   have run:∀{o:Oper} (_:o.op=.fieldAddr t x f) {a:Act} {w:World} {b o':Nat},a.eval x=.pointer (some ⟨b,o',none⟩)->
     (execOp a.eval o).run P w=.ok (.value (.pointer (some ⟨b,o'+off,none⟩))) w:=by
    intro o ho a w b o' hx;simp[execOp,ho,hx,Instr.fieldAt,Instr.sureAddr,run_underlying hF,hfl,fieldPlace,hsz,hz,yd,hoff]
   split at h
   ·exact⟨_,h,.pure λo ho S Pm ρ a w hgs=>by
     obtain⟨b,hρ,hx⟩:=(Gs.head hgs).loc_inv
     exact⟨_,run ho hx,.loc _ _ b hρ⟩⟩
   ·refine⟨_,h,.pure λo ho S Pm ρ a w hgs=>?_⟩;obtain⟨b,o',c,hx,hb,hP,hc,hd⟩:=(Gs.head hgs).ptr_inv;refine⟨_,run ho hx,.ptr _ b (o'+off) (λj=>c (off+j)) hb hP (λj hj=>?_) (λj s hs=>hd _ s (by simpa using hs))⟩;have:=hc (off+j) (by simp at hj;omega)
    rwa [← KJ]at this
   ·refine⟨_,h,.pure λo ho S Pm ρ a w hgs=>?_⟩;obtain⟨b,o',c,hx,hb,hP,hc,hd⟩:=(Gs.head hgs).dptr_inv;refine⟨_,run ho hx,.d _ _ (.dptr _ b (o'+off) (λj=>c (off+j)) hb hP (λj hj=>?_) (λj s hs=>hd _ s (by simpa using hs)))⟩;have:=hc (off+j) (by simp at hj;omega)
    rwa [← KJ]at this
   ·exact⟨_,h,.pure λo ho S Pm ρ a w hgs=>by
     obtain⟨b,len,cap,hρ,hx⟩:=(Gs.head hgs).eloc_inv;refine⟨_,run ho hx,?_⟩;rw[KJ]
     exact .eloc _ _ _ _ b len cap hρ⟩
   ·exact h.elim
  ·exact h.elim
 ·exact h.elim
theorem zob{t:TypeId} {i:TI} (hT:zh6 P t i)(hg:Gs S Pm ρ w cs vs)
  {s:SV} (hs:(i.kind.agg=true/\s=.agg ((cs.drop off).take i.sz))∨(i.kind.agg=false/\∃r,cs.drop off=s::r)):
  ∃v,(part t vs.toArray off).run P w=.ok v w/\G S Pm ρ w s v:=by
 unfold part;rw[Sem.run_bind,hT.agg w,Result.andThen_ok]
 rcases hs with⟨h1,rfl⟩ | ⟨h1,r,hr⟩
 ·have h2:=(hg.drop off).take i.sz;exact⟨.agg ((vs.drop off).take i.sz).toArray,by simp[h1,hT.size],.agg _ _ h2.1 h2.2⟩
 ·have h2:=hg.drop off;rw[hr]at h2;obtain⟨v,vs',hv,h3,_⟩:=h2.cons_inv
  have h4:vs[off]? =some v:=by
   have:(vs.drop off)[0]? =some v:=by rw[hv];rfl
   simpa using this
  exact⟨v,by simp[h1,h4],h3⟩
theorem zoc(hT:TOK P Γ) {t:TypeId}{s:SV}
  (h:kE Γ t λi=>(match i.kind,s with
  |.struct fs,.agg cs=>(match znZ fs f with
   | some (off,ft)=>kE Γ ft λj=>zR (Nat.ble (off+j.sz) cs.length) (mkV j.kind.agg j.sz (cs.drop off) λs=>K s .none)
   | none=>False)
  | _,_=>False)):∃r,K r .none/\yG P (.field t x f) [s] lm κ r .none:=by
 replace h:=zt h;obtain⟨i,hi,h⟩:=h;have hk:=(hT t i hi).kind
 split at h
 ·rename_i fs cs hfs;rw[hfs]at hk
  split at h
  ·rename_i off ft hn;replace h:=zt h;obtain⟨j,hj,h⟩:=h;replace h:=(zh h).2;replace h:=uI h;obtain⟨r,hK,h⟩:=h;obtain⟨F,fl,hF,hfl,hoff,hft⟩:=zoa hk hn;refine⟨r,hK,.pure λo ho S Pm ρ a w hgs=>?_⟩;obtain⟨vs,hx,hvs⟩:=(Gs.head hgs).agg_inv;obtain⟨v,h1,h2⟩:=zob (hT ft j hj) hvs h;exact⟨v,by simp[execOp,ho,hx,Instr.field,run_underlying hF,hfl,asAgg,hoff,hft,h1],h2⟩
  ·exact h.elim
 ·exact h.elim
theorem zod(hT:TOK P Γ) {t:TypeId}{y:Operand}{s n:SV}
  (h:zqx Γ t s n K):∃r,K r .none/\yG P (.index t x y) [s,n] lm κ r .none:=by
 unfold zqx at h;replace h:=zt h;obtain⟨i,hi,h⟩:=h;have hk:=(hT t i hi).kind
 split at h
 ·rename_i len e cs k n hkind;rw[hkind]at hk;replace h:=zt h;obtain⟨j,hj,h⟩:=h
  split at h
  ·rename_i m;replace h:=zh h;obtain⟨hlt,h⟩:=h;replace h:=(zh h).2;replace h:=uI h;obtain⟨r,hK,h⟩:=h;have hlt:m < len:=Xw hlt;refine⟨r,hK,.pure λo ho S Pm ρ a w hgs=>?_⟩;obtain⟨vs,hx,hvs⟩:=(Gs.head hgs).agg_inv;have hy:=(Gs.head (Gs.tail hgs)).val_inv;obtain⟨v,h1,h2⟩:=zob (hT e j hj) hvs h;exact⟨v,by simp[execOp,ho,hx,hy,Instr.index,asIntOf,run_underlying hk,hlt,(hT e j hj).size,h1],h2⟩
  ·exact h.elim
 ·rename_i s k n hkind;rw[hkind]at hk;obtain⟨⟨h0,h1⟩,h⟩:=h;have hb:s[n.toNat]? =some (s[n.toNat]'oM):=getElem?_pos s n.toNat oM;refine⟨_,h _ hb,.pure λo ho S Pm ρ a w hgs=>?_⟩;have hx:=hgs.head.val_inv;have hy:=hgs.tail.head.val_inv;have hk:P.underlying t=some .string:=hk;refine⟨_,?_,.d _ _ (.val _)⟩;simp only[execOp,ho,hx,hy,Instr.index,asIntOf,Sem.run_bind,Sem.run_pure,Result.andThen_ok,run_underlying hk,h0,if_true,hb]
 ·exact h.elim
theorem zh8(hT:TOK P Γ) {t:TypeId}{y:Operand}{s n:SV}
  (h:zeY Γ t s n lm K):∃r,K r .none/\yG P (.indexAddr t x y) [s,n] lm κ r .none:=by
 unfold zeY at h;replace h:=zt h;obtain⟨i,hi,h⟩:=h;have hk:=(hT t i hi).kind
 split at h
 ·rename_i k n
  split at h
  ·rename_i e hkind;rw[hkind]at hk;replace h:=zt h;obtain⟨j,hj,h⟩:=h;have hsz:=(hT e j hj).size
   have run:∀{o:Oper} (_:o.op=.indexAddr t x y) {a:Act} {w:World} {b off len cap:Nat},a.eval x=.slice (some ⟨b,off,none⟩) len cap->a.eval y=.int k n->0<=n->n < len->
     (execOp a.eval o).run P w=.ok (.value (.pointer (some ⟨b,off+n.toNat*j.sz,none⟩))) w:=by
    intro o ho a w b off len cap hx hy h0 h1;simp[execOp,ho,hx,hy,Instr.indexAt,asIntOf,run_underlying hk,h0,h1,hsz,yd]
   split at h
   ·rename_i α enc xs;obtain⟨h0,h1⟩:=h.ob;have hlt:n.toNat < xs.length:=oM;have hx:=Xb hlt;have h:=h.go _ hx;replace h:=zh h;obtain⟨hl,h⟩:=h;have hl:=Xf hl;refine⟨_,h,.read λo ho Keep M ρ a w _ _ hgs=>?_⟩;have hy:=(Gs.head (Gs.tail hgs)).val_inv
    rcases(Gs.head hgs).sl_inv.sl_inv with⟨rfl,_⟩ | ⟨sz,b,off,cap,c,hxv,hb,hS,_,_,hesz,hc,hd⟩
    ·simp at hlt
    ·have hs:sz=j.sz:=by rw[← hl];exact(hesz _ (Xd hx)).symm
     subst hs;refine⟨_,run ho hxv hy h0 h1,?_⟩;refine .ptr _ b _ (λj=>c n.toNat j) hb ?_ (λq hq=>?_) (λq s hs=>hd _ q _ s hx hs)
     ·exact λho=>hS (.inr ho)
     ·have:=hc n.toNat q hlt oM;exact this
   ·rename_i k'
    split at h
    ·rename_i T α enc sz xs hlk;replace h:=zh h;obtain⟨hs,h⟩:=h;have hs:=Xf hs;subst hs;obtain⟨h0,h1⟩:=h.ob;refine⟨_,h.go,.read λo ho Keep M ρ a w hlm hm hgs=>?_⟩;have hy:=(Gs.head (Gs.tail hgs)).val_inv;obtain⟨hρ',_⟩:=(Gs.head hgs).own_inv;obtain⟨v,cells,hρ,hown,_⟩:=hm.rel k' _ (hlm k' _ hlk);have hxv:a.eval x=v:=by rw[hρ]at hρ';exact(Xj hρ').symm
     rcases hown.2 with⟨_,h3⟩ | ⟨g,cap,cur,rfl,_⟩
     ·omega
     ·refine⟨_,run ho hxv hy h0 h1,?_⟩;rw[show 0+n.toNat*j.sz=n.toNat*j.sz+0 by omega];exact .eloc _ _ _ _ g _ _ hρ
    ·rename_i T sz xs hlk;replace h:=zh h;obtain⟨hs,h⟩:=h;have hs:=Xf hs;subst hs;obtain⟨h0,h1⟩:=h.ob;refine⟨_,h.go,.read λo ho Keep M ρ a w hlm hm hgs=>?_⟩;have hy:=(Gs.head (Gs.tail hgs)).val_inv;obtain⟨hρ',_⟩:=(Gs.head hgs).own_inv;obtain⟨v,cells,hρ,hown,_⟩:=hm.rel k' _ (hlm k' _ hlk);have hxv:a.eval x=v:=by rw[hρ]at hρ';exact(Xj hρ').symm
     rcases hown.2 with⟨_,h3⟩ | ⟨g,cap,cur,rfl,_⟩
     ·omega
     ·refine⟨_,run ho hxv hy h0 h1,?_⟩;rw[show 0+n.toNat*j.sz=n.toNat*j.sz+0 by omega];exact .eloc _ _ _ _ g _ _ hρ
    ·exact h.elim
   ·rename_i k' sz lo l;replace h:=zh h;obtain⟨hs,h⟩:=h;have hs:=Xf hs;subst hs;obtain⟨h0,h1,h2⟩:=h.ob;refine⟨_,h.go,.read λo ho Keep M ρ a w hlm hm hgs=>?_⟩;have hy:=(Gs.head (Gs.tail hgs)).val_inv;obtain⟨b,len,cap,cap',hρ,hx,_,_⟩:=(Gs.head hgs).win_inv;refine⟨_,run ho hx hy h1 oM,?_⟩
    have e:lo.toNat*j.sz+n.toNat*j.sz=(lo+n).toNat*j.sz+0:=by
     rw[← XW,XN];congr 1;omega
    rw[e];exact .eloc _ _ _ _ b _ _ hρ
   ·exact h.elim
  ·rename_i len e hkind;rw[hkind]at hk;replace h:=zt h;obtain⟨j,hj,h⟩:=h;have hsz:=(hT e j hj).size
   split at h
   ·rename_i m;replace h:=zh h;obtain⟨hlt,h⟩:=h;have hlt:m < len:=Xw hlt
    have run:∀{o:Oper} (_:o.op=.indexAddr t x y) {a:Act} {w:World} {b off:Nat},a.eval x=.pointer (some ⟨b,off,none⟩)->a.eval y=.int k (Int.ofNat m)->
      (execOp a.eval o).run P w=.ok (.value (.pointer (some ⟨b,off+m*j.sz,none⟩))) w:=by
     intro o ho a w b off hx hy;simp[execOp,ho,hx,hy,Instr.indexAt,Instr.sureAddr,asIntOf,run_underlying hk,hlt,hsz,yd]
    split at h
    ·exact⟨_,h,.pure λo ho S Pm ρ a w hgs=>by
      obtain⟨b,hρ,hx⟩:=(Gs.head hgs).loc_inv
      exact⟨_,run ho hx (Gs.head (Gs.tail hgs)).val_inv,.loc _ _ b hρ⟩⟩
    ·refine⟨_,h,.pure λo ho S Pm ρ a w hgs=>?_⟩;obtain⟨b,o',c,hx,hb,hP,hc,hd⟩:=(Gs.head hgs).ptr_inv;refine⟨_,run ho hx (Gs.head (Gs.tail hgs)).val_inv,.ptr _ b _ (λq=>c (m*j.sz+q)) hb hP (λq hq=>?_) (λq s hs=>hd _ s (by simpa using hs))⟩;have:=hc (m*j.sz+q) (by simp at hq;omega)
     rwa [← KJ]at this
    ·refine⟨_,h,.pure λo ho S Pm ρ a w hgs=>?_⟩;obtain⟨b,o',c,hx,hb,hP,hc,hd⟩:=(Gs.head hgs).dptr_inv;refine⟨_,run ho hx (Gs.head (Gs.tail hgs)).val_inv,.d _ _ (.dptr _ b _ (λq=>c (m*j.sz+q)) hb hP (λq hq=>?_) (λq s hs=>hd _ s (by simpa using hs)))⟩;have:=hc (m*j.sz+q) (by simp at hq;omega)
     rwa [← KJ]at this
    ·exact⟨_,h,.pure λo ho S Pm ρ a w hgs=>by
      obtain⟨b,len,cap,hρ,hx⟩:=(Gs.head hgs).eloc_inv;refine⟨_,run ho hx (Gs.head (Gs.tail hgs)).val_inv,?_⟩;rw[KJ]
      exact .eloc _ _ _ _ b len cap hρ⟩
    ·exact h.elim
   ·exact h.elim
  ·exact h.elim
 ·exact h.elim
end Go.Gs
