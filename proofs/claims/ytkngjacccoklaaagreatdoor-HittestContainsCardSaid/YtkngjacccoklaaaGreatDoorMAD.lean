/- The operations on memory: what is left to be shown is enough. -/
import Derived.Test.YtkngjacccoklaaaGreatDoorMA
import Derived.Test.YtkngjacccoklaaaGreatDoorMAC
set_option maxRecDepth 100000
set_option maxHeartbeats 8000000
set_option linter.all false
namespace Go.Gs
variable{b:Nat}{vs:List Value}
def zf2{w:World}{T:TypeId}(h:w.heap[b]?=some (.cells vs.toArray T (0,0)))(j:Nat):w.cell? ⟨b,j,none⟩=vs[j]? :=by
 rw[cell_of_row w b j _ T _ h];simp
variable{sz:Nat}{cap:Nat}
def zeh{w:World}{T:TypeId}{v:Value}{n:Nat}{cells:List Value}{len:Nat}(hv:v=.slice (some ⟨b,0,none⟩) len cap)(h:w.ownsRow 0 T sz v n cells):len=n/\∃cur:Array Value,w.heap[b]?=some (.cells cur T (0,0))/\n<=cap/\cap<=maxLen/\cur.size=cap*sz/\cur.toList.take (n*sz)=cells:=by
 obtain⟨h1,_⟩|⟨g,cap',cur,h1,_,h2,h3,h4,h5,h6⟩:=h.2
 ·rw[h1]at hv;cases hv
 rw[h1]at hv;cases hv;exact⟨rfl,cur,h2,h3,h4,h5,h6⟩
variable{cur:Array Value}
def zbY{w:World}{T:TypeId}{n:Nat}{cells:List Value}(h:w.heap[b]?=some (.cells cur T (0,0)))(ht:cur.toList.take n=cells){j:Nat}{u:Value}(hu:cells[j]?=some u):w.cell? ⟨b,j,none⟩=some u:=by
 rw[cell_of_row w b j _ T _ h];rw[←ht,XI]at hu
 split at hu
 ·simpa using hu
 cases hu
variable{S:Nat->Prop}{Pm:Nat->Prop}{ρ:zi}{i:Nat}
def zh9{w:World}{α:Type _}{enc:α->List SV}{xs:List α}{cells:List Value}(hsz:∀x∈xs,(enc x).length=sz)(hg:∀(i j:Nat) x (s:SV),xs[i]?=some x->(enc x)[j]?=some s->∃u,cells[i*sz+j]?=some u/\G S Pm ρ w s u){x:α}(hx:xs[i]?=some x):Gs S Pm ρ w (enc x) ((cells.drop (i*sz)).take sz):=by
 have hlen:=hsz x (Xf hx);refine⟨?_,λj s v h1 h2=>?_⟩
 ·have h:(cells.drop (i*sz)).take sz=(List.range sz).map λj=>(cells[i*sz+j]?).getD undef:=by
   apply Kq;intro j
   by_cases hj:j<sz
   ·obtain⟨u,hu,_⟩:=hg i j x ((enc x)[j]'oM) hx (by simp[hlen,hj]);simp[hj,hu]
   simp[XI,hj]
  rw[h];simp[hlen]
 rw[XI]at h2
 split at h2
 ·obtain⟨u,hu,hd⟩:=hg i j x s hx h1;simp only[KA]at h2;rw[hu]at h2;cases h2
  exact hd
 cases h2
variable{α:Type}{xs:List α}
def zrN{w:World}{enc:α->List SV}{cells:List Value}(hsz:∀x∈xs,(enc x).length=sz)(hg:∀(i j:Nat) x (s:SV),xs[i]?=some x->(enc x)[j]?=some s->∃u,cells[i*sz+j]?=some u/\D S w s u){x:α}(hx:xs[i]?=some x)
:Gs S Pm ρ w (enc x) ((cells.drop (i*sz)).take sz):=
 zh9 hsz (λi j x s a b=>(hg i j x s a b).imp λ_ h=>⟨h.1,.d _ _ h.2⟩) hx
variable{P:Program}{Γ:List (TypeId×TI)}{x:Operand}{lm:Nat->Option Mem}{κ:Nat}{K:SV->MD->Prop}
def zrO(hT:TOK P Γ){t:TypeId}{s:SV}(h:zwy Γ t s lm K):
  ∃r,K r .none/\yx P (.load t x) [s] lm κ r .none:=by
 unfold zwy at h;replace h:=zB h;obtain⟨i,hi,h⟩:=h;have hTi:=hT t i hi
 have run:∀{o:Oper} (_:o.op=.load t x) {a:Act} {w:World} {b off:Nat} {v:Value},a.eval x=.pointer (some ⟨b,off,none⟩)->(loadVar t ⟨b,off,none⟩).run P w=.ok v w->
   (execOp a.eval o).run P w=.ok (.value v) w:=by
  intro o ho a w b off v h1 h2;simp[execOp,ho,h1,Instr.loadAt,Instr.sureAddr,h2]
 split at h
 ·rename_i k off
  split at h
  ·rename_i T cs hlk;replace h:=zh h;obtain⟨hle,h⟩:=h;have hle:=Xz hle;obtain⟨r,hK,hr⟩:=uF h;refine⟨r,hK,.read λo ho Keep M ρ a w hlm hm hgs=>?_⟩;obtain⟨b,vs,hρ,hheap,hlen,_,hcells⟩:=hm.rel k _ (hlm k _ hlk);obtain⟨b',hρ',hx⟩:=(Gs.head hgs).loc_inv;rw[hρ]at hρ';cases hρ'
   have hg:Gs (λb=>Keep b∨Own M ρ b) (Own M ρ) ρ w (cs.drop off) (vs.drop off):=Gs.drop off ⟨hlen,hcells⟩;obtain⟨v,h1,h2⟩:=zbX hTi (b:=b) (o:=off) hg (λj v hv=>by rw[zf2 hheap];simpa using hv) (by simp;omega) hr;exact⟨v,run ho hx h1,h2⟩
  exact h.elim
 ·rename_i cs;replace h:=zh h;obtain⟨hle,h⟩:=h;have hle:=Xz hle;obtain⟨r,hK,hr⟩:=uF h;refine⟨r,hK,.pure λo ho S Pm ρ a w hgs=>?_⟩;obtain⟨b,off,c,hx,_,_,hc,hd⟩:=(Gs.head hgs).ptr_inv
  have hg:Gs S Pm ρ w cs ((List.range cs.length).map c):=⟨by simp,λj s v h1 h2=>by
   have hj:j<cs.length:=(Xd.1 h1).1;simp[hj]at h2;subst h2
   exact .d _ _ (hd j s h1)⟩
  obtain⟨v,h1,h2⟩:=zbX hTi (b:=b) (o:=off) hg (λj v hv=>by
   have hj:j<cs.length:=by have:=(Xd.1 hv).1;simpa using this
   simp[hj]at hv;subst hv
   exact(hc j hj).1) hle hr
  exact⟨v,run ho hx h1,h2⟩
 ·rename_i cs;replace h:=zh h;obtain⟨hle,h⟩:=h;have hle:=Xz hle;obtain⟨r,hK,hr⟩:=uF h;refine⟨r,hK,.pure λo ho S Pm ρ a w hgs=>?_⟩;obtain⟨b,off,c,hx,_,_,hc,hd⟩:=(Gs.head hgs).dptr_inv
  have hg:Gs S Pm ρ w cs ((List.range cs.length).map c):=⟨by simp,λj s v h1 h2=>by
   have hj:j<cs.length:=(Xd.1 h1).1;simp[hj]at h2;subst h2
   exact .d _ _ (hd j s h1)⟩
  obtain⟨v,h1,h2⟩:=zbX hTi (b:=b) (o:=off) hg (λj v hv=>by
   have hj:j<cs.length:=by have:=(Xd.1 hv).1;simpa using this
   simp[hj]at hv;subst hv
   exact(hc j hj).1) hle hr
  exact⟨v,run ho hx h1,h2⟩
 ·rename_i k sz n off
  split at h
  ·rename_i T α enc sz' xs hlk;replace h:=zh h;obtain⟨hsz,h⟩:=h;replace h:=zh h;obtain⟨hle,h⟩:=h;have hsz:=Xj hsz;subst hsz;have hle:=Xz hle;obtain⟨h0,h1⟩:=h.ob;have hlt:n.toNat<xs.length:=oM;have hx:=Xb hlt;obtain⟨r,hK,hr⟩:=uF (h.go _ hx);refine⟨r,hK,.read λo ho Keep M ρ a w hlm hm hgs=>?_⟩;obtain⟨v,cells,hρ,hown,_,_,hesz,hcells⟩:=hm.rel k _ (hlm k _ hlk);obtain⟨b,len,cap,hρ',hxv⟩:=(Gs.head hgs).eloc_inv;rw[hρ]at hρ';cases hρ'
   obtain⟨_,cur,hheap,_,_,_,htake⟩:=zeh rfl hown;have hg:=Gs.drop off (zrN hesz hcells hx (Pm:=Own M ρ) (ρ:=ρ));have hl:=hesz _ (Xf hx)
   obtain⟨v,h1,h2⟩:=zbX hTi (b:=b) (o:=n.toNat*sz+off) hg (λj u hu=>by
    simp only[KA,XI]at hu
    split at hu
    ·refine zbY hheap htake ?_;rw[←hu];congr 1;omega
    cases hu) (by simp;omega) hr
   exact⟨v,run ho hxv h1,h2⟩
  ·rename_i T sz' xs hlk;replace h:=zh h;obtain⟨hsz,h⟩:=h;replace h:=zh h;obtain⟨hle,h⟩:=h;have hsz:=Xj hsz;subst hsz;have hle:=Xz hle;obtain⟨h0,h1⟩:=h.ob;have hlt:n.toNat<xs.length:=oM;have hx:=Xb hlt;obtain⟨r,hK,hr⟩:=uF (h.go _ hx);refine⟨r,hK,.read λo ho Keep M ρ a w hlm hm hgs=>?_⟩;obtain⟨v,cells,hρ,hown,_,_,hesz,hcells⟩:=hm.rel k _ (hlm k _ hlk);obtain⟨b,len,cap,hρ',hxv⟩:=(Gs.head hgs).eloc_inv;rw[hρ]at hρ';cases hρ'
   obtain⟨_,cur,hheap,_,_,_,htake⟩:=zeh rfl hown;have hg:=Gs.drop off (zh9 hesz hcells hx);have hl:=hesz _ (Xf hx)
   obtain⟨v,h1,h2⟩:=zbX hTi (b:=b) (o:=n.toNat*sz+off) hg (λj u hu=>by
    simp only[KA,XI]at hu
    split at hu
    ·refine zbY hheap htake ?_;rw[←hu];congr 1;omega
    cases hu) (by simp;omega) hr
   exact⟨v,run ho hxv h1,h2⟩
  exact h.elim
 exact h.elim
def Gs.stp{Keep W W':Nat->Prop}{ρ ρ':zi}{w w':World}(h:Stp W W' ρ ρ' w w'){cs:List SV}{vs:List Value}(hg:Gs (λb=>Keep b∨W b) W ρ w cs vs):Gs (λb=>Keep b∨W' b) W' ρ' w' cs vs:=hg.mono' λ_ _ h'=>h'.stp h
variable{Keep:Nat->Prop}{M:List (Nat×Mem)}
def zcz{w:World}(hm:zK Keep M ρ w)(hκ:ρ κ=none)(hκM:∀m,(κ,m)∉M)(m:Mem)(o:Obj)(v:Value)(ho:kQ w (w.alloc o))(hv:qc v=some w.heap.size)(hrel:Stp (Own M ρ) (Own ((κ,m)::M) (upd ρ κ v)) ρ (upd ρ κ v) w (w.alloc o)->
   jG (λb=>Keep b∨Own ((κ,m)::M) (upd ρ κ v) b) (Own ((κ,m)::M) (upd ρ κ v)) (upd ρ κ v) (w.alloc o) κ m):
  Stp (Own M ρ) (Own ((κ,m)::M) (upd ρ κ v)) ρ (upd ρ κ v) w (w.alloc o)/\zK Keep ((κ,m)::M) (upd ρ κ v) (w.alloc o):=
 hm.grow (λ_ h=>h) hm.keys hκ hκM v m (w.alloc o) rfl rfl ho (by simp) (λb hb _=>heap_alloc_old w o b hb)
  (λk m v b h1 h2 h3=>heap_alloc_old w o b (hm.old b ⟨k,m,v,h1,h2,h3⟩).1)
  (λb hb=>by
   rw[hv]at hb;cases hb
   exact⟨.inr (Xk _),by simp,λk m v' h1 h2 h3=>by have:=(hm.old _ ⟨k,m,v',h1,h2,h3⟩).1;omega⟩) hrel
def kR.push{Keep:Nat->Prop}{M:List (Nat×Mem)}{ρ:zi}{w w':World}{κ:Nat}{s:SV}{m:Mem}{v u:Value}(h:Stp (Own M ρ) (Own ((κ,m)::M) (upd ρ κ u)) ρ (upd ρ κ u) w w'/\zK Keep ((κ,m)::M) (upd ρ κ u) w')(hg:G (λb=>Keep b∨Own ((κ,m)::M) (upd ρ κ u) b) (Own ((κ,m)::M) (upd ρ κ u)) (upd ρ κ u) w' s v):kR Keep M ρ w κ s (.push m) v w':=
 ⟨upd ρ κ u,h.1,h.2,hg,λk hk=>zfs (by
  rcases hk with hk|hk
  ·omega
  simp only[zbI]at hk;omega)⟩
variable{cs:List SV}
def zlY{w:World}(hm:zK Keep M ρ w)(hκ:ρ κ=none)(hκM:∀m,(κ,m)∉M)(T:TypeId)(hg:Gs (λb=>Keep b∨Own M ρ b) (Own M ρ) ρ w cs vs)(h1:∀v∈vs,v.oneCell'=true):
  kR Keep M ρ w κ (.loc κ 0) (.push (.box T cs)) (.pointer (some ⟨w.heap.size,0,none⟩)) (w.alloc (.cells vs.toArray T)):=
 kR.push (u:=.pointer (some ⟨w.heap.size,0,none⟩)) (zcz hm hκ hκM _ _ _ (.cells _ _ _) rfl λhs=>
  ⟨w.heap.size,vs,kD,heap_alloc_new w _,hg.1,h1,(hg.stp hs).2⟩) (.loc _ _ _ kD)
variable{e:TypeId}{svs:List SV}
def zpc(hT:TOK P Γ)(h:kM Γ e λi=>K (.loc κ 0) (.push (.box e (vals i.zero)))):∃r md,K r md/\yx P (.alloc e) svs lm κ r md:=by
 replace h:=zB h;obtain⟨i,hi,h⟩:=h;obtain⟨f,h1,h2,h3,z,h4,h5,h6,h7,h8⟩:=(hT e i hi).inf;refine⟨_,_,h,λo ho Keep M ρ a w _ hm hκ hκM _=>?_⟩;replace hκ:=hκ _ (Xk _) (XX _);replace hκM:=hκM rfl;refine qw.value (v:=.pointer (some ⟨w.heap.size,0,none⟩)) (w':=w.alloc (.cells i.zero.toArray e)) ?_ (zlY hm hκ hκM e (Gs.vals _) h8);have hz:z.cells=i.zero.toArray:=by rw[←h5]
 simp[execOp,ho,Instr.alloc,zeroValue,typeInfo,h1,h4,newVar,newRow,hz]
def zuJ{s:SV}(h:zN (jX (kO s)) (K (.loc κ 0) (.push (.box e (kO s))))):∃r md,K r md/\yx P (.box e x) [s] lm κ r md:=by
 replace h:=zh h;obtain⟨hc,h⟩:=h;refine⟨_,_,h,λo ho Keep M ρ a w _ hm hκ hκM hgs=>?_⟩;replace hκ:=hκ _ (Xk _) (XX _);replace hκM:=hκM rfl;obtain⟨h1,h2⟩:=vJ hc (Gs.head hgs);refine qw.value (v:=.pointer (some ⟨w.heap.size,0,none⟩)) (w':=w.alloc (.cells (a.eval x).cells e)) ?_ (by simpa using zlY hm hκ hκM e h1 h2);simp[execOp,ho,Instr.box,newVar,newRow]
variable{off:Nat}
def vm{t:TypeId}{i:TI}(hT:ziD P t i){w:World}{T:TypeId}(hheap:w.heap[b]?=some (.cells cur T (0,0))){v:Value}(hsz:v.cells.size=i.sz)(hle:off+i.sz<=cur.size)(h1:∀u∈v.cells.toList,u.oneCell'=true):
  (storeVar t ⟨b,off,none⟩ v).run P w=.ok () (w.setRow b (cur.toList.take off++v.cells.toList++cur.toList.drop (off+i.sz)).toArray):=by
 have:=run_storeCells_at P b off T v.cells.toList 0 cur w hheap (by simp[hsz];omega) h1;simp only[XQ,Qi,hsz]at this;simp[storeVar,hT.size,hsz,this]
def kR.set{Keep:Nat->Prop}{M:List (Nat×Mem)}{ρ:zi}{w w':World}{κ k:Nat}{s:SV}{m:Mem}{v:Value}(h:Stp (Own M ρ) (Own (qH M k m) ρ) ρ ρ w w'/\zK Keep (qH M k m) ρ w')(hg:G (λb=>Keep b∨Own (qH M k m) ρ b) (Own (qH M k m) ρ) ρ w' s v):kR Keep M ρ w κ s (.set k m) v w':=
 ⟨ρ,h.1,h.2,hg,λ_ _=>rfl⟩
def yM(h:j9.flats cs=true):∀(j:Nat) (s:SV),cs[j]?=some s->j9 s=true:=by
 induction cs with
 |nil=>intro j s h1;simp at h1
 |cons c cs ih=>
  intro j s h1;simp only[j9.flats]at h
  split at h
  ·rename_i hc
   cases j with
   |zero=>simp at h1;subst h1;exact hc
   |succ j=>exact ih h j s (by simpa using h1)
  cases h
def y8{w:World}{s:SV}(hs:j9 s=true){v:Value}(hg:G S Pm ρ w s v):D S w s v:=by
 induction hg with
 |d _ _ h=>exact h
 |agg cs vs hl h ih=>
  have hf:j9.flats cs=true:=hs;exact .agg cs vs hl λj s v h1 h2=>ih j s v h1 h2 (yM hf j s h1)
 |ifc t s v h ih=>
  have hf:j9 s=true:=hs;exact .ifc t s v (ih hf)
 |_=>simp[j9]at hs
def zAi(h:j9.flats cs=true){w:World}(hg:Gs S Pm ρ w cs vs):
  ∀(j:Nat) (s:SV) (v:Value),cs[j]?=some s->vs[j]?=some v->D S w s v:=λj s v h1 h2=>y8 (yM h j s h1) (hg.2 j s v h1 h2)
def zia(cur new:List Value)(o N:Nat)(h:o+new.length<=N)(hN:N<=cur.length):
  (cur.take o++new++cur.drop (o+new.length)).take N=(cur.take N).take o++new++(cur.take N).drop (o+new.length):=by
 have e1:(cur.take o++new).length=o+new.length:=by simp;omega
 rw[List.take_append,Xi oM,e1,Ys,K4 oM,List.drop_take]
def zhi{R R':SV->Value->Prop}{α:Type _}{enc:α->List SV}{sz off n:Nat}{xs:List α}{x x':α}{cells new:List Value}{cs:List SV}(hRR:∀s u,R s u->R' s u)(hx:xs[n]?=some x)(hesz:∀y∈xs,(enc y).length=sz)(hle:off+new.length<=sz)(hcs:cs.length=new.length)(he:enc x'=vj (enc x) off cs)(hlen:cells.length=xs.length*sz)(hcells:∀(i j:Nat) y (s:SV),xs[i]?=some y->(enc y)[j]?=some s->∃u,cells[i*sz+j]?=some u/\R s u)(hd:∀(j:Nat) (s:SV) (u:Value),cs[j]?=some s->new[j]?=some u->R s u):
  (∀z∈xs.set n x',(enc z).length=sz)/\∀(i j:Nat) y (s:SV),(xs.set n x')[i]?=some y->(enc y)[j]?=some s->
   ∃u,(cells.take (n*sz+off)++new++cells.drop (n*sz+off+new.length))[i*sz+j]?=some u/\R' s u:=by
 have hl:=hesz _ (Xf hx);have hlt:=(Xd.1 hx).1
 have hmul:n*sz+sz<=xs.length*sz:=by
  have:=Xu sz (X4 hlt);rw[X2]at this;exact this
 have hel:(enc x').length=sz:=by rw[he];unfold vj;simp only[Xq,Xo,Kw,hl,hcs];omega
 refine⟨λz hz=>(List.mem_or_eq_of_mem_set hz).elim (hesz z) λe=>e ▸ hel,λi' j y s hxi hs'=>?_⟩;have hln:(cells.take (n*sz+off)).length=n*sz+off:=by simp[hlen];omega
 simp only[KP,Xq,hln,XI,KA]
 by_cases hi':n=i'
 ·subst hi';simp only[Kz,hlt,if_true,Jo]at hxi;subst hxi;have hj:=(Xd.1 hs').1;rw[hel]at hj;rw[he]at hs';unfold vj at hs';simp only[KP,Xq,Xo,hl,hcs,XI,KA,show min off sz=off by omega]at hs'
  by_cases hj1:j<off
  ·simp only[show j<off+new.length by omega,hj1,if_true]at hs';simp only[show n*sz+j<n*sz+off+new.length by omega,show n*sz+j<n*sz+off by omega,if_true];exact(hcells _ j _ s hx hs').imp λu h=>⟨h.1,hRR _ _ h.2⟩
  by_cases hj2:j<off+new.length
  ·simp only[hj2,hj1,if_true,if_false]at hs';simp only[show n*sz+j<n*sz+off+new.length by omega,show¬(n*sz+j<n*sz+off) by omega,if_true,if_false,show n*sz+j-(n*sz+off)=j-off by omega];have hlt':j-off<new.length:=oM;exact⟨new[j-off],Xb hlt',hRR _ _ (hd (j-off) s _ hs' (Xb hlt'))⟩
  simp only[hj2,if_false,show off+new.length+(j-(off+new.length))=j by omega]at hs';simp only[show¬(n*sz+j<n*sz+off+new.length) by omega,if_false,show n*sz+off+new.length+(n*sz+j-(n*sz+off+new.length))=n*sz+j by omega];exact(hcells _ j _ s hx hs').imp λu h=>⟨h.1,hRR _ _ h.2⟩
 simp only[Kz,hi',if_false]at hxi;obtain⟨u,hu,hd'⟩:=hcells i' j y s hxi hs';refine⟨u,?_,hRR _ _ hd'⟩;have hj:=(Xd.1 hs').1;rw[hesz y (Xf hxi)]at hj
 rcases Qe i' n with hlt2|hge
 ·have h5:=Xu sz (X4 hlt2);rw[X2]at h5;simp only[show i'*sz+j<n*sz+off+new.length by omega,show i'*sz+j<n*sz+off by omega,if_true];exact hu
 have h5:=Xu sz (X4 (Nat.lt_of_le_of_ne hge hi'));rw[X2]at h5;simp only[show¬(i'*sz+j<n*sz+off+new.length) by omega,if_false,show n*sz+off+new.length+(i'*sz+j-(n*sz+off+new.length))=i'*sz+j by omega];exact hu
variable{new:List Value}
def znG{w':World}{T:TypeId}{N N' o:Nat}{cells:List Value}{v:Value}(hv:v=.slice (some ⟨b,0,none⟩) N cap)(e:N'=N)(hw:w'.heap[b]?=some (.cells (cur.toList.take o++new++cur.toList.drop (o+new.length)).toArray T (0,0)))(hnc:N<=cap)(hcm:cap<=maxLen)(hcs:cur.size=cap*sz)(ht:cur.toList.take (N*sz)=cells)(h:o+new.length<=N*sz):w'.ownsRow 0 T sz v N' (cells.take o++new++cells.drop (o+new.length)):=by
 have hcur:N*sz<=cur.toList.length:=by simp[hcs];exact Xu _ hnc
 have hcl:cells.length=N*sz:=by rw[←ht,Xo];omega
 subst e;refine⟨?_,.inr ⟨b,cap,_,hv,Xh _,hw,hnc,hcm,?_,?_⟩⟩
 ·simp only[Xq,Xo,Kw,hcl];omega
 ·simp only[KK,Xq,Xo,Kw,Qi,hcs];simp at hcur;omega
 rw[←ht];exact zia cur.toList new o (N'*sz) h hcur
def ziS{cells:List Value}(o e:Nat)(h:∀u∈cells,u.oneCell'=true)(k:∀u∈new,u.oneCell'=true):∀u∈cells.take o++new++cells.drop e,u.oneCell'=true:=λu hu=>by
 simp only[Xs]at hu
 rcases hu with(hu|hu)|hu
 ·exact h u (XL hu)
 ·exact k u hu
 exact h u (KQ hu)
def zpd(hT:TOK P Γ){t:TypeId}{y:Operand}{s v:SV}(h:zrD Γ t s v lm K):
  ∃r md,K r md/\yx P (.store t x y) [s,v] lm κ r md:=by
 unfold zrD at h;replace h:=zB h;obtain⟨i,hi,h⟩:=h;have hTi:=hT t i hi;replace h:=zh h;obtain⟨hcell,h⟩:=h;replace h:=zh h;obtain⟨hlen,h⟩:=h;have hlen:=Xj hlen
 split at h
 ·rename_i k off
  split at h
  ·rename_i T cs hlk;replace h:=zh h;obtain⟨hle,h⟩:=h;have hle:=Xz hle;refine⟨_,_,h,λo ho Keep M ρ a w hlm hm _ _ hgs=>?_⟩;have hmem:=zw (hlm k _ hlk);obtain⟨b,vs,hρ,hheap,hl,h1,hcells⟩:=hm.rel k _ hmem;obtain⟨b',hρ',hx⟩:=(Gs.head hgs).loc_inv;rw[hρ]at hρ';cases hρ'
   obtain⟨hg,hone⟩:=vJ hcell (Gs.head (Gs.tail hgs));have hcl:(a.eval y).cells.toList.length=i.sz:=by rw[hg.1,hlen]
   have hrun:=vm hTi hheap (v:=a.eval y) (off:=off) (by simpa using hcl) (by simp;omega) hone;refine qw.skip (w':=_) (by simp[execOp,ho,hx,Instr.storeAt,Instr.sureAddr,hrun];rfl) ?_;have hsp:=zpb off (⟨hl,hcells⟩:Gs (λb=>Keep b∨Own M ρ b) (Own M ρ) ρ w cs vs) hg;rw[hcl]at hsp;refine kR.set (hm.write _ hmem hρ rfl _ λhs=>?_) (.d _ _ (.val _));exact⟨b,_,hρ,by simpa using setRow_heap w b _ _ T _ hheap,(hsp.stp hs).1,ziS _ _ h1 hone,(hsp.stp hs).2⟩
  exact h.elim
 ·rename_i k sz n off
  split at h
  ·rename_i T α enc sz' xs hlk;replace h:=zh h;obtain⟨hsz,h⟩:=h;replace h:=zh h;obtain⟨hle,h⟩:=h;have hsz:=Xj hsz;subst hsz;have hle:=Xz hle
   split at h
   rotate_left
   ·obtain⟨h0,h1⟩:=h.ob;have hlt0:n.toNat<xs.length:=oM;have hx0:=Xb hlt0;replace h:=h.go _ hx0;obtain⟨zs,hzs⟩:∃zs,zs=xs.map enc:=⟨_,rfl⟩;have hzl:zs.length=xs.length:=by rw[hzs,Xx]
    have hlt:n.toNat<zs.length:=oM;have hx:=Xb hlt;have hxe:zs[n.toNat]=enc xs[n.toNat]:=by subst hzs;simp
    rw[←hzs,←hxe]at h;obtain⟨x',hx'⟩:∃x',x'=vj (zs[n.toNat]) off (kO v):=⟨_,rfl⟩;rw[←hx']at h;refine⟨_,_,h,λo ho Keep M ρ a w hlm hm _ _ hgs=>?_⟩;have hmem:=zw (hlm k _ hlk);obtain⟨v0,cells,hρ,hown,hnl,hone0,hesz0,hcells0⟩:=hm.rel k _ hmem;rw[←hzl]at hown hnl
    have hesz:∀x∈zs,x.length=sz:=λx hx=>by
     rw[hzs]at hx;obtain⟨y,hy,rfl⟩:=XP.1 hx;exact hesz0 y hy
    have hcells:∀(i j:Nat) (x:List SV) (s:SV),zs[i]?=some x->x[j]?=some s->∃u,cells[i*sz+j]?=some u/\G (λb=>Keep b∨Own M ρ b) (Own M ρ) ρ w s u:=λi j x s hx hs=>by
     rw[hzs,XD]at hx
     cases hy:xs[i]? with
     |none=>simp[hy]at hx
     |some y=>
      simp[hy]at hx;subst hx;obtain⟨u,hu,hd⟩:=hcells0 i j y s hy hs;exact⟨u,hu,.d _ _ hd⟩
    obtain⟨b,len,cap,hρ',hxv⟩:=(Gs.head hgs).eloc_inv;rw[hρ]at hρ';cases hρ'
    obtain⟨hlen',cur,hheap,hnc,hcm,hcs,htake⟩:=zeh rfl hown;obtain⟨hg,hone⟩:=vJ hcell (Gs.head (Gs.tail hgs));have hcl:(a.eval y).cells.toList.length=i.sz:=by rw[hg.1,hlen]
    have hl:=hesz _ (Xf hx)
    have hmul:n.toNat*sz+sz<=zs.length*sz:=by
     have:=Xu sz (X4 hlt);rw[X2]at this;exact this
    have hcurlen:zs.length*sz<=cur.toList.length:=by simp[hcs];exact Xu _ hnc
    have hrun:=vm hTi hheap (v:=a.eval y) (off:=n.toNat*sz+off) (by simpa using hcl) (by simp at hcurlen;omega) hone;refine qw.skip (w':=_) (by simp[execOp,ho,hxv,Instr.storeAt,Instr.sureAddr,hrun];rfl) ?_;have hd:=hg.2;refine kR.set (hm.write _ hmem hρ rfl _ λhs=>?_) (.d _ _ (.val _));have hp:=zhi (n:=n.toNat) (off:=off) (x':=x') (λs u q=>q.stp hs) hx hesz (by rw[hcl];exact hle) (by rw[hcl];exact hlen) hx' hown.1 hcells hd
    exact⟨_,_,hρ,znG (by rw[←hlen']) (by rw[XV]) (by rw[hcl];simpa using setRow_heap w b _ _ T _ hheap) hnc hcm hcs htake (by rw[hcl];omega),by simpa using hnl,ziS _ _ hone0 hone,hp.1,hp.2⟩
   rename_i hflat;obtain⟨h0,h1⟩:=h.ob;have hlt:n.toNat<xs.length:=oM;have hx:=Xb hlt;obtain⟨x',hx',h⟩:=h.go _ hx;refine⟨_,_,h,λo ho Keep M ρ a w hlm hm _ _ hgs=>?_⟩;have hmem:=zw (hlm k _ hlk);obtain⟨v0,cells,hρ,hown,hnl,hone0,hesz,hcells⟩:=hm.rel k _ hmem;obtain⟨b,len,cap,hρ',hxv⟩:=(Gs.head hgs).eloc_inv;rw[hρ]at hρ';cases hρ'
   obtain⟨hlen',cur,hheap,hnc,hcm,hcs,htake⟩:=zeh rfl hown;obtain⟨hg,hone⟩:=vJ hcell (Gs.head (Gs.tail hgs));have hcl:(a.eval y).cells.toList.length=i.sz:=by rw[hg.1,hlen]
   have hl:=hesz _ (Xf hx)
   have hmul:n.toNat*sz+sz<=xs.length*sz:=by
    have:=Xu sz (X4 hlt);rw[X2]at this;exact this
   have hcurlen:xs.length*sz<=cur.toList.length:=by simp[hcs];exact Xu _ hnc
   have hrun:=vm hTi hheap (v:=a.eval y) (off:=n.toNat*sz+off) (by simpa using hcl) (by simp at hcurlen;omega) hone;refine qw.skip (w':=_) (by simp[execOp,ho,hxv,Instr.storeAt,Instr.sureAddr,hrun];rfl) ?_;have hd:=zAi hflat hg;refine kR.set (hm.write _ hmem hρ rfl _ λhs=>?_) (.d _ _ (.val _));have hp:=zhi (n:=n.toNat) (off:=off) (x':=x') (λs u q=>q.stp hs) hx hesz (by rw[hcl];exact hle) (by rw[hcl];exact hlen) hx' hown.1 hcells hd
   exact⟨_,_,hρ,znG (by rw[←hlen']) (by rw[XV]) (by rw[hcl];simpa using setRow_heap w b _ _ T _ hheap) hnc hcm hcs htake (by rw[hcl];omega),by simpa using hnl,ziS _ _ hone0 hone,hp.1,hp.2⟩
  ·rename_i T sz' xs hlk;replace h:=zh h;obtain⟨hsz,h⟩:=h;replace h:=zh h;obtain⟨hle,h⟩:=h;have hsz:=Xj hsz;subst hsz;have hle:=Xz hle;obtain⟨h0,h1⟩:=h.ob;have hlt:n.toNat<xs.length:=oM;have hx:=Xb hlt;replace h:=h.go _ hx;obtain⟨x',hx'⟩:∃x',x'=vj (xs[n.toNat]) off (kO v):=⟨_,rfl⟩;rw[←hx']at h;refine⟨_,_,h,λo ho Keep M ρ a w hlm hm _ _ hgs=>?_⟩;have hmem:=zw (hlm k _ hlk);obtain⟨v0,cells,hρ,hown,hnl,hone0,hesz,hcells⟩:=hm.rel k _ hmem
   obtain⟨b,len,cap,hρ',hxv⟩:=(Gs.head hgs).eloc_inv;rw[hρ]at hρ';cases hρ'
   obtain⟨hlen',cur,hheap,hnc,hcm,hcs,htake⟩:=zeh rfl hown;obtain⟨hg,hone⟩:=vJ hcell (Gs.head (Gs.tail hgs));have hcl:(a.eval y).cells.toList.length=i.sz:=by rw[hg.1,hlen]
   have hl:=hesz _ (Xf hx)
   have hmul:n.toNat*sz+sz<=xs.length*sz:=by
    have:=Xu sz (X4 hlt);rw[X2]at this;exact this
   have hcurlen:xs.length*sz<=cur.toList.length:=by simp[hcs];exact Xu _ hnc
   have hrun:=vm hTi hheap (v:=a.eval y) (off:=n.toNat*sz+off) (by simpa using hcl) (by simp at hcurlen;omega) hone;refine qw.skip (w':=_) (by simp[execOp,ho,hxv,Instr.storeAt,Instr.sureAddr,hrun];rfl) ?_;have hd:=hg.2;refine kR.set (hm.write _ hmem hρ rfl _ λhs=>?_) (.d _ _ (.val _));have hp:=zhi (n:=n.toNat) (off:=off) (x':=x') (λs u q=>q.stp hs) hx hesz (by rw[hcl];exact hle) (by rw[hcl];exact hlen) hx' hown.1 hcells hd
   exact⟨_,_,hρ,znG (by rw[←hlen']) (by rw[XV]) (by rw[hcl];simpa using setRow_heap w b _ _ T _ hheap) hnc hcm hcs htake (by rw[hcl];omega),by simpa using hnl,ziS _ _ hone0 hone,hp.1,hp.2⟩
  exact h.elim
 exact h.elim
def ztc{l:List (Nat×TypeId)}{n:Nat}:zo2 l n=l[n]? :=by
 induction l generalizing n with
 |nil=>rfl
 |cons x r ih=>cases n with
  |zero=>rfl
  |succ n=>simp[zo2,ih]
variable{f:Nat}
def zpe{t:TypeId}{fs:List (Nat×TypeId)}(h:zdq P t (.struct fs)){ft:TypeId}(hn:zo2 fs f=some (off,ft)):
  ∃(F:Array Field) (fl:Field),P.underlying t=some (.struct F)/\F[f]?=some fl/\fl.offset=off/\fl.type=ft:=by
 obtain⟨F,hF,hm,_⟩:=h;rw[ztc,←hm,XD]at hn
 cases hq:F.toList[f]? with
 |none=>simp[hq]at hn
 |some fl=>
  simp only[hq,Qb,Jo,KD]at hn;exact⟨F,fl,hF,by simpa using hq,hn.1,hn.2⟩
def ziE(hT:TOK P Γ){t:TypeId}{s:SV}(h:zfn Γ t f s K):∃r,K r .none/\yx P (.fieldAddr t x f) [s] lm κ r .none:=by
 unfold zfn at h;replace h:=zB h;obtain⟨i,hi,h⟩:=h;have hk:=(hT t i hi).kind
 split at h
 ·rename_i fs hfs;rw[hfs]at hk
  split at h
  ·rename_i off ft hn;replace h:=zB h;obtain⟨j,hj,h⟩:=h;replace h:=zh h;obtain⟨hz,h⟩:=h;obtain⟨F,fl,hF,hfl,hoff,hft⟩:=zpe hk hn;have hsz:∀w,(sizeOf fl.type).run P w=.ok j.sz w:=λw=>by rw[hft];exact(hT ft j hj).size w
   have hz:¬j.sz=0:=by
    have:=Xz hz;omega
   have run:∀{o:Oper} (_:o.op=.fieldAddr t x f) {a:Act} {w:World} {b o':Nat},a.eval x=.pointer (some ⟨b,o',none⟩)->
     (execOp a.eval o).run P w=.ok (.value (.pointer (some ⟨b,o'+off,none⟩))) w:=by
    intro o ho a w b o' hx;simp[execOp,ho,hx,Instr.fieldAt,Instr.sureAddr,run_underlying hF,hfl,fieldPlace,hsz,hz,ya,hoff]
   split at h
   ·exact⟨_,h,.pure λo ho S Pm ρ a w hgs=>by
     obtain⟨b,hρ,hx⟩:=(Gs.head hgs).loc_inv
     exact⟨_,run ho hx,.loc _ _ b hρ⟩⟩
   ·refine⟨_,h,.pure λo ho S Pm ρ a w hgs=>?_⟩;obtain⟨b,o',c,hx,hb,hP,hc,hd⟩:=(Gs.head hgs).ptr_inv;refine⟨_,run ho hx,.ptr _ b (o'+off) (λj=>c (off+j)) hb hP (λj hj=>?_) (λj s hs=>hd _ s (by simpa using hs))⟩;have:=hc (off+j) (by simp at hj;omega)
    rwa [←KB]at this
   ·refine⟨_,h,.pure λo ho S Pm ρ a w hgs=>?_⟩;obtain⟨b,o',c,hx,hb,hP,hc,hd⟩:=(Gs.head hgs).dptr_inv;refine⟨_,run ho hx,.d _ _ (.dptr _ b (o'+off) (λj=>c (off+j)) hb hP (λj hj=>?_) (λj s hs=>hd _ s (by simpa using hs)))⟩;have:=hc (off+j) (by simp at hj;omega)
    rwa [←KB]at this
   ·exact⟨_,h,.pure λo ho S Pm ρ a w hgs=>by
     obtain⟨b,len,cap,hρ,hx⟩:=(Gs.head hgs).eloc_inv;refine⟨_,run ho hx,?_⟩;rw[KB]
     exact .eloc _ _ _ _ b len cap hρ⟩
   exact h.elim
  exact h.elim
 exact h.elim
def zpf{t:TypeId}{i:TI}(hT:ziD P t i){w:World}(hg:Gs S Pm ρ w cs vs){s:SV}(hs:(i.kind.agg=true/\s=.agg ((cs.drop off).take i.sz))∨(i.kind.agg=false/\∃r,cs.drop off=s::r)):
  ∃v,(part t vs.toArray off).run P w=.ok v w/\G S Pm ρ w s v:=by
 unfold part;rw[Sem.run_bind,hT.agg w,Result.andThen_ok]
 obtain⟨h1,rfl⟩|⟨h1,r,hr⟩:=hs
 ·have h2:=(hg.drop off).take i.sz;exact⟨.agg ((vs.drop off).take i.sz).toArray,by simp[h1,hT.size],.agg _ _ h2.1 h2.2⟩
 have h2:=hg.drop off;rw[hr]at h2;obtain⟨v,vs',hv,h3,_⟩:=h2.cons_inv
 have h4:vs[off]?=some v:=by
  have:(vs.drop off)[0]?=some v:=by rw[hv];rfl
  simpa using this
 exact⟨v,by simp[h1,h4],h3⟩
def zpg(hT:TOK P Γ){t:TypeId}{s:SV}(h:kM Γ t λi=>(match i.kind,s with
  |.struct fs,.agg cs=>(match zo2 fs f with
   |some (off,ft)=>kM Γ ft λj=>zN (Nat.ble (off+j.sz) cs.length) (mkV j.kind.agg j.sz (cs.drop off) λs=>K s .none)
   |none=>False)
  |_,_=>False)):∃r,K r .none/\yx P (.field t x f) [s] lm κ r .none:=by
 replace h:=zB h;obtain⟨i,hi,h⟩:=h;have hk:=(hT t i hi).kind
 split at h
 ·rename_i fs cs hfs;rw[hfs]at hk
  split at h
  ·rename_i off ft hn;replace h:=zB h;obtain⟨j,hj,h⟩:=h;replace h:=(zh h).2;replace h:=uF h;obtain⟨r,hK,h⟩:=h;obtain⟨F,fl,hF,hfl,hoff,hft⟩:=zpe hk hn;refine⟨r,hK,.pure λo ho S Pm ρ a w hgs=>?_⟩;obtain⟨vs,hx,hvs⟩:=(Gs.head hgs).agg_inv;obtain⟨v,h1,h2⟩:=zpf (hT ft j hj) hvs h;exact⟨v,by simp[execOp,ho,hx,Instr.field,run_underlying hF,hfl,asAgg,hoff,hft,h1],h2⟩
  exact h.elim
 exact h.elim
def zph(hT:TOK P Γ){t:TypeId}{y:Operand}{s n:SV}(h:zrF Γ t s n K):∃r,K r .none/\yx P (.index t x y) [s,n] lm κ r .none:=by
 unfold zrF at h;replace h:=zB h;obtain⟨i,hi,h⟩:=h;have hk:=(hT t i hi).kind
 split at h
 ·rename_i len e cs k n hkind;rw[hkind]at hk;replace h:=zB h;obtain⟨j,hj,h⟩:=h
  split at h
  ·rename_i m;replace h:=zh h;obtain⟨hlt,h⟩:=h;replace h:=(zh h).2;replace h:=uF h;obtain⟨r,hK,h⟩:=h;have hlt:m<len:=Xz hlt;refine⟨r,hK,.pure λo ho S Pm ρ a w hgs=>?_⟩;obtain⟨vs,hx,hvs⟩:=(Gs.head hgs).agg_inv;have hy:=(Gs.head (Gs.tail hgs)).val_inv;obtain⟨v,h1,h2⟩:=zpf (hT e j hj) hvs h;exact⟨v,by simp[execOp,ho,hx,hy,Instr.index,asIntOf,run_underlying hk,hlt,(hT e j hj).size,h1],h2⟩
  exact h.elim
 ·rename_i s k n hkind;rw[hkind]at hk;obtain⟨⟨h0,h1⟩,h⟩:=h;have hb:s[n.toNat]?=some (s[n.toNat]'oM):=getElem?_pos s n.toNat oM;refine⟨_,h _ hb,.pure λo ho S Pm ρ a w hgs=>?_⟩;have hx:=hgs.head.val_inv;have hy:=hgs.tail.head.val_inv;have hk:P.underlying t=some .string:=hk;refine⟨_,?_,.d _ _ (.val _)⟩;simp only[execOp,ho,hx,hy,Instr.index,asIntOf,Sem.run_bind,Sem.run_pure,Result.andThen_ok,run_underlying hk,h0,if_true,hb]
 exact h.elim
def ziF(hT:TOK P Γ){t:TypeId}{y:Operand}{s n:SV}(h:zfo Γ t s n lm K):∃r,K r .none/\yx P (.indexAddr t x y) [s,n] lm κ r .none:=by
 unfold zfo at h;replace h:=zB h;obtain⟨i,hi,h⟩:=h;have hk:=(hT t i hi).kind
 split at h
 ·rename_i k n
  split at h
  ·rename_i e hkind;rw[hkind]at hk;replace h:=zB h;obtain⟨j,hj,h⟩:=h;have hsz:=(hT e j hj).size
   have run:∀{o:Oper} (_:o.op=.indexAddr t x y) {a:Act} {w:World} {b off len cap:Nat},a.eval x=.slice (some ⟨b,off,none⟩) len cap->a.eval y=.int k n->0<=n->n<len->
     (execOp a.eval o).run P w=.ok (.value (.pointer (some ⟨b,off+n.toNat*j.sz,none⟩))) w:=by
    intro o ho a w b off len cap hx hy h0 h1;simp[execOp,ho,hx,hy,Instr.indexAt,asIntOf,run_underlying hk,h0,h1,hsz,ya]
   split at h
   ·rename_i α enc xs;obtain⟨h0,h1⟩:=h.ob;have hlt:n.toNat<xs.length:=oM;have hx:=Xb hlt;have h:=h.go _ hx;replace h:=zh h;obtain⟨hl,h⟩:=h;have hl:=Xj hl;refine⟨_,h,.read λo ho Keep M ρ a w _ _ hgs=>?_⟩;have hy:=(Gs.head (Gs.tail hgs)).val_inv
    rcases(Gs.head hgs).sl_inv.sl_inv with⟨rfl,_⟩|⟨sz,b,off,cap,c,hxv,hb,hS,_,_,hesz,hc,hd⟩
    ·simp at hlt
    have hs:sz=j.sz:=by rw[←hl];exact(hesz _ (Xf hx)).symm
    subst hs;refine⟨_,run ho hxv hy h0 h1,?_⟩;refine .ptr _ b _ (λj=>c n.toNat j) hb ?_ (λq hq=>?_) (λq s hs=>hd _ q _ s hx hs)
    ·exact λho=>hS (.inr ho)
    have:=hc n.toNat q hlt oM;exact this
   ·rename_i k'
    split at h
    ·rename_i T α enc sz xs hlk;replace h:=zh h;obtain⟨hs,h⟩:=h;have hs:=Xj hs;subst hs;obtain⟨h0,h1⟩:=h.ob;refine⟨_,h.go,.read λo ho Keep M ρ a w hlm hm hgs=>?_⟩;have hy:=(Gs.head (Gs.tail hgs)).val_inv;obtain⟨hρ',_⟩:=(Gs.head hgs).own_inv;obtain⟨v,cells,hρ,hown,_⟩:=hm.rel k' _ (hlm k' _ hlk);have hxv:a.eval x=v:=by rw[hρ]at hρ';exact(Xm hρ').symm
     obtain⟨_,h3⟩|⟨g,cap,cur,rfl,_⟩:=hown.2
     ·omega
     refine⟨_,run ho hxv hy h0 h1,?_⟩;rw[show 0+n.toNat*j.sz=n.toNat*j.sz+0 by omega];exact .eloc _ _ _ _ g _ _ hρ
    ·rename_i T sz xs hlk;replace h:=zh h;obtain⟨hs,h⟩:=h;have hs:=Xj hs;subst hs;obtain⟨h0,h1⟩:=h.ob;refine⟨_,h.go,.read λo ho Keep M ρ a w hlm hm hgs=>?_⟩;have hy:=(Gs.head (Gs.tail hgs)).val_inv;obtain⟨hρ',_⟩:=(Gs.head hgs).own_inv;obtain⟨v,cells,hρ,hown,_⟩:=hm.rel k' _ (hlm k' _ hlk);have hxv:a.eval x=v:=by rw[hρ]at hρ';exact(Xm hρ').symm
     obtain⟨_,h3⟩|⟨g,cap,cur,rfl,_⟩:=hown.2
     ·omega
     refine⟨_,run ho hxv hy h0 h1,?_⟩;rw[show 0+n.toNat*j.sz=n.toNat*j.sz+0 by omega];exact .eloc _ _ _ _ g _ _ hρ
    exact h.elim
   ·rename_i k' sz lo l;replace h:=zh h;obtain⟨hs,h⟩:=h;have hs:=Xj hs;subst hs;obtain⟨h0,h1,h2⟩:=h.ob;refine⟨_,h.go,.read λo ho Keep M ρ a w hlm hm hgs=>?_⟩;have hy:=(Gs.head (Gs.tail hgs)).val_inv;obtain⟨b,len,cap,cap',hρ,hx,_,_⟩:=(Gs.head hgs).win_inv;refine⟨_,run ho hx hy h1 oM,?_⟩
    have e:lo.toNat*j.sz+n.toNat*j.sz=(lo+n).toNat*j.sz+0:=by
     rw[←X0,XQ];congr 1;omega
    rw[e];exact .eloc _ _ _ _ b _ _ hρ
   exact h.elim
  ·rename_i len e hkind;rw[hkind]at hk;replace h:=zB h;obtain⟨j,hj,h⟩:=h;have hsz:=(hT e j hj).size
   split at h
   ·rename_i m;replace h:=zh h;obtain⟨hlt,h⟩:=h;have hlt:m<len:=Xz hlt
    have run:∀{o:Oper} (_:o.op=.indexAddr t x y) {a:Act} {w:World} {b off:Nat},a.eval x=.pointer (some ⟨b,off,none⟩)->a.eval y=.int k (Int.ofNat m)->
      (execOp a.eval o).run P w=.ok (.value (.pointer (some ⟨b,off+m*j.sz,none⟩))) w:=by
     intro o ho a w b off hx hy;simp[execOp,ho,hx,hy,Instr.indexAt,Instr.sureAddr,asIntOf,run_underlying hk,hlt,hsz,ya]
    split at h
    ·exact⟨_,h,.pure λo ho S Pm ρ a w hgs=>by
      obtain⟨b,hρ,hx⟩:=(Gs.head hgs).loc_inv
      exact⟨_,run ho hx (Gs.head (Gs.tail hgs)).val_inv,.loc _ _ b hρ⟩⟩
    ·refine⟨_,h,.pure λo ho S Pm ρ a w hgs=>?_⟩;obtain⟨b,o',c,hx,hb,hP,hc,hd⟩:=(Gs.head hgs).ptr_inv;refine⟨_,run ho hx (Gs.head (Gs.tail hgs)).val_inv,.ptr _ b _ (λq=>c (m*j.sz+q)) hb hP (λq hq=>?_) (λq s hs=>hd _ s (by simpa using hs))⟩;have:=hc (m*j.sz+q) (by simp at hq;omega)
     rwa [←KB]at this
    ·refine⟨_,h,.pure λo ho S Pm ρ a w hgs=>?_⟩;obtain⟨b,o',c,hx,hb,hP,hc,hd⟩:=(Gs.head hgs).dptr_inv;refine⟨_,run ho hx (Gs.head (Gs.tail hgs)).val_inv,.d _ _ (.dptr _ b _ (λq=>c (m*j.sz+q)) hb hP (λq hq=>?_) (λq s hs=>hd _ s (by simpa using hs)))⟩;have:=hc (m*j.sz+q) (by simp at hq;omega)
     rwa [←KB]at this
    ·exact⟨_,h,.pure λo ho S Pm ρ a w hgs=>by
      obtain⟨b,len,cap,hρ,hx⟩:=(Gs.head hgs).eloc_inv;refine⟨_,run ho hx (Gs.head (Gs.tail hgs)).val_inv,?_⟩;rw[KB]
      exact .eloc _ _ _ _ b len cap hρ⟩
    exact h.elim
   exact h.elim
  exact h.elim
 exact h.elim
def kF{o:Option Operand}{l:List SV}{d:Int}{K:Int->List SV->Prop}(h:jx o l d K):
  ∃n r,K n r/\∀{S Pm:Nat->Prop} {ρ:zi} {w:World} (ev:Operand->Value) (rest:List Value),Gs S Pm ρ w l ((uD o).map ev++rest)->
   Gs S Pm ρ w r rest/\((o=none/\n=d)∨∃x k,o=some x/\ev x=.int k n):=by
 unfold jx at h
 split at h
 ·exact⟨_,_,h,λev rest hg=>⟨by simpa[uD] using hg,.inl ⟨rfl,rfl⟩⟩⟩
 rename_i x
 split at h
 ·rename_i k n r;refine⟨_,_,h,λev rest hg=>?_⟩;have hg:Gs _ _ _ _ _ (ev x::rest):=hg;exact⟨hg.tail,.inr ⟨x,k,rfl,hg.head.val_inv⟩⟩
 exact h.elim
def y9{P:Program}{w:World}{len cap:Nat}{lo hi mx:Option Operand}{ev:Operand->Value}{l h m:Int}(hok:zwz hi mx=true)(hlo:(lo=none/\l=0)∨∃x k,lo=some x/\ev x=.int k l)(hhi:(hi=none/\h=len)∨∃x k,hi=some x/\ev x=.int k h)(hmx:(mx=none/\m=len)∨∃x k,mx=some x/\ev x=.int k m)(h0:0<=l)(h1:l<=h)(h2:h<=m)(h3:m<=len)(h4:len<=cap):
  ∃q:Nat,(Instr.sliceBounds true len cap (lo.map ev) (hi.map ev) (mx.map ev)).run P w=.ok (l.toNat,h.toNat,q) w/\h.toNat<=q/\q<=cap/\(zbN mx=true->q=cap)/\(zbN mx=false->q=m.toNat):=by
 have e1:(h.toNat:Int)=h:=Qj oM;have e2:(m.toNat:Int)=m:=Qj oM
 obtain⟨rfl,rfl⟩|⟨xm,km,rfl,em⟩:=hmx
 ·obtain⟨rfl,rfl⟩|⟨xh,kh,rfl,eh⟩:=hhi
  ·obtain⟨rfl,rfl⟩|⟨xl,kl,rfl,el⟩:=hlo
   ·exact⟨cap,by simp[Instr.sliceBounds],by simp;omega,Xk _,λ_=>rfl,λh=>by cases h⟩
   refine⟨cap,?_,by simp;omega,Xk _,λ_=>rfl,λh=>by cases h⟩;simp[Instr.sliceBounds,el,run_sliceBound w kl l len _ h0 oM]
  obtain⟨rfl,rfl⟩|⟨xl,kl,rfl,el⟩:=hlo
  ·refine⟨cap,?_,oM,Xk _,λ_=>rfl,λh=>by cases h⟩;simp[Instr.sliceBounds,eh,run_sliceBound w kh h cap _ oM oM]
  refine⟨cap,?_,oM,Xk _,λ_=>rfl,λh=>by cases h⟩;simp[Instr.sliceBounds,el,eh,run_sliceBound w kh h cap _ oM oM,run_sliceBound w kl l h.toNat _ h0 oM]
 obtain⟨rfl,rfl⟩|⟨xh,kh,rfl,eh⟩:=hhi
 ·simp[zwz]at hok
 obtain⟨rfl,rfl⟩|⟨xl,kl,rfl,el⟩:=hlo
 ·refine⟨m.toNat,?_,oM,oM,λh=>(by cases h),λ_=>rfl⟩;simp[Instr.sliceBounds,eh,em,run_sliceBound w km m cap _ oM oM,run_sliceBound w kh h m.toNat _ oM oM]
 refine⟨m.toNat,?_,oM,oM,λh=>(by cases h),λ_=>rfl⟩;simp[Instr.sliceBounds,el,eh,em,run_sliceBound w km m cap _ oM oM,run_sliceBound w kh h m.toNat _ oM oM,run_sliceBound w kl l h.toNat _ h0 oM]
def zCk{w:World}{enc:α->List SV}{a:Option Addr}{len:Nat}(hd:D S w (.sl enc xs) (.slice a len cap))(hsz:∀x∈xs,(enc x).length=sz){l h:Nat}(hlh:l<=h)(hh:h<=xs.length){q:Nat}(hq:h<=q)(hqc:q<=cap):
  D S w (.sl enc ((xs.drop l).take (h-l))) (sliced a l h q sz):=by
 have hlen:((xs.drop l).take (h-l)).length=h-l:=by simp;omega
 have hmem:∀x∈(xs.drop l).take (h-l),x∈xs:=λx hx=>KQ (XL hx)
 obtain⟨rfl,a,hv⟩|⟨sz',b,o,cap',c,hv,hb,hS,hl48,hcap,hesz,hc,he⟩:=hd.sl_inv
 ·cases hv
  have:h=0:=by simpa using hh
  subst this;have:l=0:=oM;subst this;have:q=0:=oM;subst this;exact .nil enc _
 cases hv
 have hix:∀i x,((xs.drop l).take (h-l))[i]?=some x->xs[l+i]?=some x/\i<h-l:=by
  intro i x hx;rw[XI]at hx
  split at hx
  ·exact⟨by simpa using hx,by assumption⟩
  cases hx
 have hs:0<h-l->sz'=sz:=λhp=>by
  have h1:=Xb (show l<xs.length by omega);have h2:=Xf h1;rw[←hesz _ h2,←hsz _ h2]
 unfold sliced
 by_cases hql:q=l
 ·rw[Xe hql];have h0:h-l=0:=oM
  have:=D.sl (S:=S) (w:=w) enc ((xs.drop l).take (h-l)) sz' b o (q-l) c hb hS oM oM (λx hx=>hesz x (hmem x hx)) (λi j hi=>by omega) (λi j x s hx=>by
   have:=(hix i x hx).2;omega)
  rwa [hlen]at this
 rw[Xc hql];simp only[Qb,ya]
 have:=D.sl (S:=S) (w:=w) enc ((xs.drop l).take (h-l)) sz' b (o+l*sz) (q-l) (λi j=>c (l+i) j) hb hS oM oM (λx hx=>hesz x (hmem x hx)) (λi j hi hj=>by
  have h5:=hc (l+i) j oM hj;rw[X0,hs oM]at h5;rw[hs oM,show o+l*sz+i*sz+j=o+(l*sz+i*sz)+j by omega]
  exact h5) (λi j x s hx hs'=>he (l+i) j x s (hix i x hx).1 hs')
 rwa [hlen]at this
def zjs{w:World}(hm:zK Keep M ρ w){k:Nat}{T:TypeId}{enc:α->List SV}(hk:(k,Mem.arr T enc sz xs)∈M)(hS:∀b,S b->Keep b∨Own M ρ b)(hSk:∀v b,ρ k=some v->qc v=some b->¬S b){v:Value}(hv:ρ k=some v):D S w (.sl enc xs) v:=by
 obtain⟨v',cells,hρ,hown,hlen,hone,hesz,hcells⟩:=hm.rel k _ hk;rw[hv]at hρ;cases hρ
 obtain⟨rfl,h0⟩|⟨g,cap,cur,rfl,_,hheap,hnc,hcm,hcs,htake⟩:=hown.2
 ·have:xs=[]:=Xp h0;subst this;exact .nil enc _
 have hcl:=hown.1
 have hc:∀i j,i<xs.length->j<sz->∃u,cells[i*sz+j]?=some u:=λi j hi hj=>by
  have h1:i*sz+sz<=xs.length*sz:=by
   have:=Xu sz (X4 hi);rw[X2]at this;exact this
  exact⟨_,Xb (show i*sz+j<cells.length by omega)⟩
 refine .sl enc xs sz g 0 cap (λi j=>(cells[i*sz+j]?).getD undef) (hm.old g ⟨k,_,_,hk,hv,rfl⟩).1 (hSk _ g hv rfl) oM hnc hesz ?_ ?_
 ·intro i j hi hj;obtain⟨u,hu⟩:=hc i j hi hj;rw[hu];refine⟨?_,hone u (Xf hu)⟩;have:=zbY hheap htake hu
  simpa[Ka] using this
 intro i j x s hx hs;obtain⟨u,hu,hd⟩:=hcells i j x s hx hs;rw[hu];exact hd.mono (Xk _) λb _ hb=>⟨λh=>hb (hS b h),rfl⟩
variable{lo:Option Operand}{hi:Option Operand}
def zjt{o:Oper}{a:Act}{w:World}(hm:zK Keep M ρ w){k:Nat}{m m':Mem}(hmem:(k,m)∈M){v:Value}(hv:ρ k=some v){T:TypeId}{n:Nat}{cells:List Value}(hown:w.ownsRow 0 T sz v n cells)(hκ:ρ κ=none)(hκM:∀m,(κ,m)∉M){h:Int}(hlo:(lo=none/\(0:Int)=0)∨∃x k,lo=some x/\a.eval x=.int k 0)(hhi:(hi=none/\h=n)∨∃x k,hi=some x/\a.eval x=.int k h)(h1:0<=h)(h2:h<=n)(run:∀(ad:Option Addr) (cap q:Nat),v=.slice ad n cap->(Instr.sliceBounds true n cap (lo.map a.eval) (hi.map a.eval) ((none:Option Operand).map a.eval)).run P w=.ok ((0:Int).toNat,h.toNat,q) w->
   (execOp a.eval o).run P w=.ok (.value (sliced ad (0:Int).toNat h.toNat q sz)) w)(hrel:∀v',w.ownsRow 0 T sz v' h.toNat (cells.take (h.toNat*sz))->upd ρ κ v' κ=some v'->Stp (Own M ρ) (Own ((κ,m')::qg M k) (upd ρ κ v')) ρ (upd ρ κ v') w w->
   jG (λb=>Keep b∨Own ((κ,m')::qg M k) (upd ρ κ v') b) (Own ((κ,m')::qg M k) (upd ρ κ v')) (upd ρ κ v') w κ m'):
  qw P o a w (kR Keep M ρ w κ (.own κ) (.repl k m')):=by
 have fin:∀v':Value,(execOp a.eval o).run P w=.ok (.value v') w->w.ownsRow 0 T sz v' h.toNat (cells.take (h.toNat*sz))->qc v'=qc v->v'.oneCell'=true->
   qw P o a w (kR Keep M ρ w κ (.own κ) (.repl k m')):=λv' hr ho hb h1'=>by
  refine qw.value hr ?_
  have hgrow:=hm.grow (M1:=qg M k) (λx hx=>qC x hx) (jg hm.keys) hκ hκM v' m' w rfl rfl (.refl _) (Xk _) (λ_ _ _=>rfl) (λ_ _ _ _ _ _ _=>rfl)
   (λb hb'=>by
    rw[hb]at hb';have ho:Own M ρ b:=⟨k,_,v,hmem,hv,hb'⟩
    exact⟨.inl ho,(hm.old b ho).1,λk' m v1 g1 g2 g3=>hm.apart k' m k _ v1 v b (qC _ g1) hmem (v9 hm.keys _ g1) g2 hv g3 hb'⟩)
   (λhs=>hrel v' ho kD hs)
  exact⟨upd ρ κ v',hgrow.1,hgrow.2,.own _ _ kD h1',λk' hk'=>zfs (by
   rcases hk' with hk'|hk'
   ·omega
   simp only[zbI]at hk';omega)⟩
 have hcl:=hown.1;have hmul:h.toNat*sz<=n*sz:=Xu _ oM
 obtain⟨rfl,h0⟩|⟨g,cap,cur,rfl,g0,hheap,hnc,hcm,hcs,htake⟩:=hown.2
 ·subst h0;have hh0:h=0:=oM;subst hh0;obtain⟨q,hb,hq,hqc,hq1,_⟩:=y9 (P:=P) (w:=w) (len:=0) (cap:=0) (mx:=none) (m:=0) (ev:=a.eval) (by cases hi <;> rfl) hlo hhi (.inl ⟨rfl,rfl⟩) oM oM oM oM (Xk _);have hq0:q=0:=oM;subst hq0;have hc0:cells=[]:=Xp (by simpa using hcl);subst hc0;exact fin _ (run none 0 0 rfl hb) (by simpa[sliced] using World.ownsRow_nil w 0 T sz) rfl rfl
 obtain⟨q,hb,hq,hqc,hq1,_⟩:=y9 (P:=P) (w:=w) (len:=n) (cap:=cap) (mx:=none) (m:=n) (ev:=a.eval) (by cases hi <;> rfl) hlo hhi (.inl ⟨rfl,rfl⟩) oM oM oM oM hnc;have hq0:q=cap:=hq1 rfl;subst hq0
 have e:sliced (some ⟨g,0,none⟩) (0:Int).toNat h.toNat q sz=.slice (some ⟨g,0,none⟩) h.toNat q:=by
  unfold sliced;simp only[Int.toNat_zero,QZ,YC,Qb,ya,XQ,ite_self]
 refine fin _ (run _ q q rfl hb) ?_ (by rw[e];rfl) (by rw[e];rfl);rw[e];refine⟨by rw[Xo,hcl];omega,.inr ⟨g,q,cur,rfl,g0,hheap,oM,hcm,hcs,?_⟩⟩;rw[←htake,Ys,K4 hmul]
def zpi(hT:TOK P Γ){t:TypeId}{mx:Option Operand}(h:zrE Γ t lo hi mx svs lm κ K):∃r md,K r md/\yx P (.slice t x lo hi mx) svs lm κ r md:=by
 unfold zrE at h;replace h:=zh h;obtain⟨hok,h⟩:=h
 split at h
 ·rename_i s rest;replace h:=zB h;obtain⟨i,hi',h⟩:=h;have hk:=(hT t i hi').kind
  split at h
  ·rename_i e hkind;rw[hkind]at hk;have helem:P.elem t=e:=by have hk:P.underlying t=some (.slice e):=hk;simp[Program.elem,hk]
   have hk':P.underlying t=some (.slice (P.elem t)):=by rw[helem];exact hk
   replace h:=zB h;obtain⟨j,hj,h⟩:=h;have hsz:=(hT e j hj).size
   have run:∀{o:Oper} (_:o.op=.slice t x lo hi mx) {a:Act} {w:World} {ad:Option Addr} {len cap l h q:Nat},a.eval x=.slice ad len cap->
     (Instr.sliceBounds true len cap (lo.map a.eval) (hi.map a.eval) (mx.map a.eval)).run P w=.ok (l,h,q) w->(execOp a.eval o).run P w=.ok (.value (sliced ad l h q j.sz)) w:=by
    intro o ho a w ad len cap l h q hx hb;simp[execOp,ho,hx,run_sliceAt_slice (h:=hk'),run_slice_any (ht:=hk'),hb,helem,hsz]
   split at h
   ·rename_i α enc xs
    split at h
    ·rename_i hz;obtain⟨hz1,hz2⟩:=kj hz;obtain⟨l,r1,h,hl⟩:=kF h;obtain⟨hh,r2,h,hh'⟩:=kF h;obtain⟨m,r3,h,hm'⟩:=kF h;obtain⟨rfl,rfl,rfl⟩:=h.ob;refine⟨_,_,h.go,.pure λo ho S Pm ρ a w hgs=>?_⟩;have hgs:Gs S Pm ρ w (SV.sl enc xs::rest) (a.eval x::((uD lo++(uD hi++uD mx)).map a.eval)):=hgs;simp only[XB]at hgs;obtain⟨g1,e1⟩:=hl a.eval _ hgs.tail;obtain⟨g2,e2⟩:=hh' a.eval _ g1;obtain⟨g3,e3⟩:=hm' a.eval [] (by simpa using g2);have hd:=hgs.head.sl_inv
     have key:∃ad cap,a.eval x=.slice ad xs.length cap/\xs.length<=cap:=by
      obtain⟨rfl,a0,hv⟩|⟨_,b,o',cap,_,hv,_,_,_,hc,_⟩:=hd.sl_inv
      ·exact⟨a0,0,hv,by simp⟩
      exact⟨_,cap,hv,hc⟩
     obtain⟨ad,cap,hx,hcap⟩:=key;have n1:hi≠none:=λe=>by rw[e]at hz1;cases hz1
     have n2:mx≠none:=λe=>by rw[e]at hz2;cases hz2
     have n3:zbN mx=false:=by cases mx with|none=>exact absurd rfl n2|some _=>rfl
     obtain⟨q,hb,hq,hqc,_,hq2⟩:=y9 (P:=P) (w:=w) (len:=xs.length) (cap:=cap) (l:=0) (h:=0) (m:=0) hok e1 (e2.imp (λe=>absurd e.1 n1) id) (e3.imp (λe=>absurd e.1 n2) id) oM oM oM oM hcap;have hq0:q=0:=hq2 n3;subst hq0;exact⟨_,run ho hx hb,.d _ _ (.nils _)⟩
    obtain⟨l,r1,h,hl⟩:=kF h;obtain⟨hh,r2,h,hh'⟩:=kF h;obtain⟨m,r3,h,hm'⟩:=kF h
    have main:∀{K':Prop},(0<=l/\l<=hh/\hh<=m/\m<=xs.length)->(∀x∈xs,(enc x).length=j.sz)->∀(o:Oper),o.op=.slice t x lo hi mx->∀(S Pm:Nat->Prop) (ρ:zi) (a:Act) (w:World),Gs S Pm ρ w (SV.sl enc xs::rest) ((k9 (.slice t x lo hi mx)).map a.eval)->
      ∃v,(execOp a.eval o).run P w=.ok (.value v) w/\D S w (.sl enc ((xs.drop l.toNat).take (hh-l).toNat)) v/\(zbN mx=false->hh=m->∃ad,v=.slice ad ((xs.drop l.toNat).take (hh-l).toNat).length ((xs.drop l.toNat).take (hh-l).toNat).length):=?main
    split at h
    ·obtain⟨hbd,hes⟩:=h.ob;refine⟨_,_,h.go,.pure λo ho S Pm ρ a w hgs=>?_⟩;obtain⟨v,r1,r2,_⟩:=main (K':=True) hbd hes o ho S Pm ρ a w hgs;exact⟨v,r1,.d _ _ r2⟩
    ·rename_i hnm
     rcases h with h|h
     ·obtain⟨hbd,hes⟩:=h.ob;refine⟨_,_,h.go,.pure λo ho S Pm ρ a w hgs=>?_⟩;obtain⟨v,r1,r2,_⟩:=main (K':=True) hbd hes o ho S Pm ρ a w hgs;exact⟨v,r1,.d _ _ r2⟩
     obtain⟨⟨h0,h1,h2,h3⟩,hes⟩:=h.ob;refine⟨_,_,h.go,.pure λo ho S Pm ρ a w hgs=>?_⟩;obtain⟨v,r1,r2,r3⟩:=main (K':=True) ⟨h0,h1,oM,h3⟩ hes o ho S Pm ρ a w hgs;obtain⟨ad,rfl⟩:=r3 hnm h2;exact⟨_,r1,.d _ _ (.full _ _ ad r2)⟩
    intro K' ⟨h0,h1,h2,h3⟩ hes o ho S Pm ρ a w hgs;have hgs:Gs S Pm ρ w (SV.sl enc xs::rest) (a.eval x::((uD lo++(uD hi++uD mx)).map a.eval)):=hgs;simp only[XB]at hgs;obtain⟨g1,e1⟩:=hl a.eval _ hgs.tail;obtain⟨g2,e2⟩:=hh' a.eval _ g1;obtain⟨g3,e3⟩:=hm' a.eval [] (by simpa using g2);have hd:=hgs.head.sl_inv
    have key:∃ad cap,a.eval x=.slice ad xs.length cap/\xs.length<=cap:=by
     obtain⟨rfl,a0,hv⟩|⟨_,b,o',cap,_,hv,_,_,_,hc,_⟩:=hd.sl_inv
     ·exact⟨a0,0,hv,by simp⟩
     exact⟨_,cap,hv,hc⟩
    obtain⟨ad,cap,hx,hcap⟩:=key;obtain⟨q,hb,hq,hqc,_,hq2⟩:=y9 (P:=P) (w:=w) (len:=xs.length) (cap:=cap) hok e1 e2 e3 h0 h1 h2 h3 hcap;refine⟨_,run ho hx hb,?_,λhnm heq=>?_⟩
    ·rw[hx]at hd;have:=zCk hd hes (l:=l.toNat) (h:=hh.toNat) oM oM hq hqc
     rwa [show hh.toNat-l.toNat=(hh-l).toNat by omega]at this
    have hq3:q=hh.toNat:=by rw[hq2 hnm,heq]
    have hln:((xs.drop l.toNat).take (hh-l).toNat).length=hh.toNat-l.toNat:=by simp;omega
    unfold sliced;rw[hln,hq3]
    split
    ·rename_i he;have:hh.toNat-l.toNat=0:=oM;rw[this];exact⟨_,rfl⟩
    exact⟨_,rfl⟩
   ·obtain⟨l,r1,h,hl⟩:=kF h;obtain⟨hh,r2,h,hh'⟩:=kF h;obtain⟨m,r3,h,hm'⟩:=kF h;obtain⟨rfl,rfl,rfl⟩:=h.ob;refine⟨_,_,h.go,.pure λo ho S Pm ρ a w hgs=>?_⟩;have hgs:Gs S Pm ρ w (SV.val (.slice none 0 0)::rest) (a.eval x::((uD lo++(uD hi++uD mx)).map a.eval)):=hgs;simp only[XB]at hgs;obtain⟨g1,e1⟩:=hl a.eval _ hgs.tail;obtain⟨g2,e2⟩:=hh' a.eval _ g1;obtain⟨g3,e3⟩:=hm' a.eval [] (by simpa using g2)
    obtain⟨q,hb,hq,hqc,_⟩:=y9 (P:=P) (w:=w) (len:=0) (cap:=0) (l:=0) (h:=0) (m:=0) hok e1 e2 e3 oM oM oM oM (Xk _);have hq0:q=0:=oM;subst hq0;exact⟨_,run ho hgs.head.val_inv hb,.d _ _ (.val _)⟩
   ·rename_i k
    split at h
    ·rename_i T α enc sz xs hlk;replace h:=zh h;obtain⟨hs,h⟩:=h;have hs:=Xj hs;subst hs;obtain⟨l,r1,h,hl⟩:=kF h;obtain⟨hh,r2,h,hh'⟩:=kF h;obtain⟨m,r3,h,hm'⟩:=kF h
     rcases h with hsee|hkeep|hwin
     rotate_left
     ·obtain⟨hnone,hkp⟩:=zh hkeep;have hmx:mx=none:=by cases mx with|none=>rfl|some _=>cases hnone
      subst hmx;obtain⟨ho1,hgo⟩:=hkp;obtain⟨rfl,h1,h2⟩:=ho1;refine⟨_,_,hgo,λo ho Keep M ρ a w hlm hm hκ hκM hgs=>?_⟩;replace hκ:=hκ _ (Xk _) (XX _);replace hκM:=hκM rfl;have hmem:=zw (hlm k _ hlk);have hgs:Gs (λb=>Keep b∨Own M ρ b) (Own M ρ) ρ w (SV.own k::rest) (a.eval x::((uD lo++(uD hi++uD none)).map a.eval)):=hgs;simp only[XB]at hgs;obtain⟨g1,e1⟩:=hl a.eval _ hgs.tail;obtain⟨g2,e2⟩:=hh' a.eval _ g1;obtain⟨hv,_⟩:=hgs.head.own_inv
      obtain⟨v',cells,hρ,hown,hlen,hone,hesz,hcells⟩:=hm.rel k _ hmem;rw[hv]at hρ;cases hρ
      refine zjt hm hmem hv hown hκ hκM e1 e2 h1 h2 (λad cap q hx hb=>run ho hx hb) (λv' hown' hρ' hs=>⟨v',cells.take (hh.toNat*j.sz),hρ',?_,by simp;omega,λu hu=>hone u (XL hu),λx hx=>hesz x (XL hx),λi' j' x s hx hs'=>?_⟩)
      ·simpa[K4 (show hh.toNat<=xs.length by omega)] using hown'
      rw[XI]at hx
      split at hx
      ·rename_i hi';obtain⟨u,hu,hd⟩:=hcells i' j' x s hx hs';refine⟨u,?_,hd.stp hs⟩
       have hj':j'<j.sz:=by
        have:=(Xd.1 hs').1;rw[hesz x (Xf hx)]at this;exact this
       have:=Xu j.sz (X4 hi');rw[X2]at this;rw[XI,Xe oM];exact hu
      cases hx
     ·obtain⟨h0,h1,h2,h3⟩:=hwin.ob;refine⟨_,_,hwin.go,λo ho Keep M ρ a w hlm hm _ _ hgs=>?_⟩;have hmem:=zw (hlm k _ hlk);have hgs:Gs (λb=>Keep b∨Own M ρ b) (Own M ρ) ρ w (SV.own k::rest) (a.eval x::((uD lo++(uD hi++uD mx)).map a.eval)):=hgs;simp only[XB]at hgs;obtain⟨g1,e1⟩:=hl a.eval _ hgs.tail;obtain⟨g2,e2⟩:=hh' a.eval _ g1;obtain⟨g3,e3⟩:=hm' a.eval [] (by simpa using g2);obtain⟨hv,_⟩:=hgs.head.own_inv;obtain⟨v',cells,hρ,hown,hlen,hone,hesz,hcells⟩:=hm.rel k _ hmem;rw[hv]at hρ;cases hρ
      obtain⟨_,h00⟩|⟨g,cap,cur,hx,_,hheap,hnc,_⟩:=hown.2
      ·omega
      obtain⟨q,hb,hq,hqc,_⟩:=y9 (P:=P) (w:=w) (len:=xs.length) (cap:=cap) hok e1 e2 e3 h0 oM h2 h3 hnc;refine qw.value (run ho hx hb) (kR.same hm ?_);unfold sliced;rw[Xc oM];simp only[Qb,ya,Ka];have hn:(hh-l).toNat=hh.toNat-l.toNat:=oM;rw[←hn];exact .win k j.sz l (hh-l) g xs.length cap (q-l.toNat) (hx ▸ hv) oM oM
     obtain⟨h0,h1,h2,h3⟩:=hsee.ob;refine⟨_,_,hsee.go,λo ho Keep M ρ a w hlm hm _ _ hgs=>?_⟩;have hmem:=zw (hlm k _ hlk);have hgs:Gs (λb=>Keep b∨Own M ρ b) (Own M ρ) ρ w (SV.own k::rest) (a.eval x::((uD lo++(uD hi++uD mx)).map a.eval)):=hgs;simp only[XB]at hgs;obtain⟨g1,e1⟩:=hl a.eval _ hgs.tail;obtain⟨g2,e2⟩:=hh' a.eval _ g1;obtain⟨g3,e3⟩:=hm' a.eval [] (by simpa using g2);obtain⟨hv,_⟩:=hgs.head.own_inv;obtain⟨hs,hmo⟩:=hm.let_go (M1:=qg M k) (λx hx=>qC x hx) (jg hm.keys)
     have hd:D (λb=>Keep b∨Own (qg M k) ρ b) w (.sl enc xs) (a.eval x):=zjs hm hmem
      (λb hb=>hb.imp id λ⟨k',m',v',h1,h2,h3⟩=>⟨k',m',v',qC _ h1,h2,h3⟩)
      (λv b hv' hb hSb=>by
       rcases hSb with hSb|⟨k',m',v',h4,h5,h6⟩
       ·exact(hm.old b ⟨k,_,v,hmem,hv',hb⟩).2 hSb
       exact hm.apart k _ k' m' v v' b hmem (qC _ h4) (Ne.symm (v9 hm.keys _ h4)) hv' h5 hb h6) hv
     obtain⟨v',cells,hρ,hown,hlen,hone,hesz,hcells⟩:=hm.rel k _ hmem
     have key:∃ad cap,a.eval x=.slice ad xs.length cap/\xs.length<=cap:=by
      obtain⟨rfl,a0,hv⟩|⟨_,b,o',cap,_,hv,_,_,_,hc,_⟩:=hd.sl_inv
      ·exact⟨a0,0,hv,by simp⟩
      exact⟨_,cap,hv,hc⟩
     obtain⟨ad,cap,hx,hcap⟩:=key;obtain⟨q,hb,hq,hqc,_⟩:=y9 (P:=P) (w:=w) (len:=xs.length) (cap:=cap) hok e1 e2 e3 h0 h1 h2 h3 hcap;refine qw.value (run ho hx hb) ⟨ρ,hs,hmo,.d _ _ ?_,λ_ _=>rfl⟩;rw[hx]at hd;have:=zCk hd hesz (l:=l.toNat) (h:=hh.toNat) oM oM hq hqc
     rwa [show hh.toNat-l.toNat=(hh-l).toNat by omega]at this
    ·rename_i T sz xs hlk;replace h:=zh h;obtain⟨hs,h⟩:=h;have hs:=Xj hs;subst hs;obtain⟨hnone,hkp⟩:=zh h;have hmx:mx=none:=by cases mx with|none=>rfl|some _=>cases hnone
     subst hmx;obtain⟨l,r1,hk1,hl⟩:=kF hkp;obtain⟨hh,r2,hk2,hh'⟩:=kF hk1;obtain⟨ho1,hgo⟩:=hk2;obtain⟨rfl,h1,h2⟩:=ho1;refine⟨_,_,hgo,λo ho Keep M ρ a w hlm hm hκ hκM hgs=>?_⟩;replace hκ:=hκ _ (Xk _) (XX _);replace hκM:=hκM rfl;have hmem:=zw (hlm k _ hlk);have hgs:Gs (λb=>Keep b∨Own M ρ b) (Own M ρ) ρ w (SV.own k::rest) (a.eval x::((uD lo++(uD hi++uD none)).map a.eval)):=hgs;simp only[XB]at hgs;obtain⟨g1,e1⟩:=hl a.eval _ hgs.tail;obtain⟨g2,e2⟩:=hh' a.eval _ g1
     obtain⟨hv,_⟩:=hgs.head.own_inv;obtain⟨v',cells,hρ,hown,hlen,hone,hesz,hcells⟩:=hm.rel k _ hmem;rw[hv]at hρ;cases hρ
     refine zjt hm hmem hv hown hκ hκM e1 e2 h1 h2 (λad cap q hx hb=>run ho hx hb) (λv' hown' hρ' hs=>⟨v',cells.take (hh.toNat*j.sz),hρ',?_,by simp;omega,λu hu=>hone u (XL hu),λx hx=>hesz x (XL hx),λi' j' x s hx hs'=>?_⟩)
     ·simpa[K4 (show hh.toNat<=xs.length by omega)] using hown'
     rw[XI]at hx
     split at hx
     ·rename_i hi';obtain⟨u,hu,hd⟩:=hcells i' j' x s hx hs';refine⟨u,?_,hd.stp hs⟩
      have hj':j'<j.sz:=by
       have:=(Xd.1 hs').1;rw[hesz x (Xf hx)]at this;exact this
      have:=Xu j.sz (X4 hi');rw[X2]at this;rw[XI,Xe oM];exact hu
     cases hx
    exact h.elim
   ·rename_i k sz at0 n;replace h:=zh h;obtain⟨hs,h⟩:=h;have hs:=Xj hs;subst hs;obtain⟨l,r1,h,hl⟩:=kF h;obtain⟨hh,r2,h,hh'⟩:=kF h;obtain⟨m,r3,h,hm'⟩:=kF h;obtain⟨h0,h1,h2,h3,h4⟩:=h.ob;refine⟨_,_,h.go,λo ho Keep M ρ a w hlm hm _ _ hgs=>?_⟩;have hgs:Gs (λb=>Keep b∨Own M ρ b) (Own M ρ) ρ w (SV.win k j.sz at0 n::rest) (a.eval x::((uD lo++(uD hi++uD mx)).map a.eval)):=hgs;simp only[XB]at hgs;obtain⟨g1,e1⟩:=hl a.eval _ hgs.tail;obtain⟨g2,e2⟩:=hh' a.eval _ g1
    obtain⟨g3,e3⟩:=hm' a.eval [] (by simpa using g2);obtain⟨b,len,cap,cap',hρ,hx,h5,h6⟩:=hgs.head.win_inv;have hn:n=(n.toNat:Int):=oM;obtain⟨q,hb,hq,hqc,_⟩:=y9 (P:=P) (w:=w) (len:=n.toNat) (cap:=cap') hok e1 (e2.imp (λe=>⟨e.1,e.2.trans hn⟩) id) (e3.imp (λe=>⟨e.1,e.2.trans hn⟩) id) h1 oM h3 oM h6;refine qw.value (run ho hx hb) (kR.same hm ?_);unfold sliced;rw[Xc oM];simp only[Qb,ya];have e7:at0.toNat*j.sz+l.toNat*j.sz=(at0+l).toNat*j.sz:=by rw[←X0];congr 1;omega
    have e8:hh.toNat-l.toNat=(hh-l).toNat:=oM;rw[e7,e8];exact .win k j.sz (at0+l) (hh-l) b len cap (q-l.toNat) hρ oM oM
   exact h.elim
  exact h.elim
 exact h.elim
end Go.Gs
