/- The builtins len, min, max and append. -/
import Derived.Test.YtjgadnaphffpkaaGreatDoorNA
import Derived.Test.YtjgadnaphffpkaaGreatDoorNAC
import Derived.Lib.AppendZeros
import Derived.Laws.CopyRow
set_option maxRecDepth 100000
set_option maxHeartbeats 8000000
set_option linter.all false
namespace Go.Gs
section
def Live(lm:Nat->Option Mem)(svs:List SV):Prop:=∃(Keep:Nat->Prop) (M:List (Nat×Mem)) (ρ:zk) (w:World) (vs:List Value),
 (∀k m,lm k=some m->zX M k=some m)/\zO Keep M ρ w/\Gs (λb=>Keep b∨Own M ρ b) (Own M ρ) ρ w svs vs
theorem kr{P:Program}{o:Oper}{c:Call}{b:Builtin}(ho:o.op=.call c)(hb:c.callee=.builtin b){a:Act}{w:World}{vs:List Value}(hv:c.args.toList.map a.eval=vs):
  ∃cs,(execOp a.eval o).run P w=(builtin b c.argTypes o.type cs vs.toArray).run P w:=by
 have h:c.args.map a.eval=vs.toArray:=by apply QA;simp[hv]
 have h2:∃cs,(do let d ← resolve a.eval c o.type;invoke d.target d.args:Sem Next)=builtin b c.argTypes o.type cs (c.args.map a.eval):=by
  unfold resolve;rw[hb];exact⟨_,rfl⟩
 obtain⟨cs,h2⟩:=h2;refine⟨cs,?_⟩;simp only[execOp,ho];rw[h2,h]
variable{c:Call}{b:Builtin}{S:Nat->Prop}{Pm:Nat->Prop}{ρ:zk}{w:World}{svs:List SV}
theorem je(hb:c.callee=.builtin b){a:Act}(h:Gs S Pm ρ w svs ((qf (.call c)).map a.eval)):
  Gs S Pm ρ w svs (c.args.toList.map a.eval):=by simpa[qf,hb,zcr] using h
variable{tys:Array TypeId}
theorem zg7{t:TypeId}(h:tys.toList=[t]):tys=#[t]:=by apply QA;simpa using h
theorem zef{t u:TypeId}(h:tys.toList=[t,u]):tys=#[t,u]:=by apply QA;simpa using h
variable{P:Program}{e:TypeId}{ty:TypeId}
theorem zeg{t:TypeId}(ht:P.underlying t=some (.slice e))(w:World)(a:Option Addr)(n c:Nat):(Builtin.len_ #[t] ty #[.slice a n c]).run P w=.ok (.int .i64 n) w:=by
 simp[Builtin.len_,run_underlying ht,goInt]
theorem zsE{t:TypeId}(ht:P.underlying t=some (.slice e))(w:World)(a:Option Addr)(n c:Nat):(Builtin.cap_ #[t] ty #[.slice a n c]).run P w=.ok (.int .i64 c) w:=by
 simp[Builtin.cap_,run_underlying ht,goInt]
variable{α:Type}{xs:List α}
theorem zwk{enc:α->List SV}{v:Value}(h:G S Pm ρ w (.sl enc xs) v):
  xs.length<=9223372036854775807/\∃a cap,v=.slice a xs.length cap/\xs.length<=cap:=by
 rcases h.sl_inv.sl_inv with⟨rfl,a,rfl⟩ | ⟨_,b,o,cap,_,rfl,_,_,h1,h2,_⟩
 ·exact⟨by simp,a,0,rfl,by simp⟩
 ·exact⟨h1,_,cap,rfl,h2⟩
variable{Keep:Nat->Prop}{M:List (Nat×Mem)}{sz:Nat}
theorem zsF(hm:zO Keep M ρ w) {k:Nat} {T:TypeId}{enc:α->List SV}
  (hk:(k,Mem.arr T enc sz xs)∈M) {v:Value} (hv:ρ k=some v):xs.length<=281474976710656/\∃a cap,v=.slice a xs.length cap/\xs.length<=cap:=by
 obtain⟨v',cells,hρ,hown,hlen,_⟩:=hm.rel k _ hk;rw[hv]at hρ;cases hρ
 rcases hown.2 with⟨rfl,h0⟩ | ⟨g,cap,cur,rfl,_,_,hnc,_⟩
 ·have h0:xs.length=0:=h0;exact⟨hlen,none,0,by rw[h0],oM⟩
 ·exact⟨hlen,_,cap,rfl,hnc⟩
theorem zoP(hm:zO Keep M ρ w) {k:Nat} {T:TypeId}{xs:List (List SV)}
  (hk:(k,Mem.garr T sz xs)∈M) {v:Value} (hv:ρ k=some v):xs.length<=281474976710656/\∃a cap,v=.slice a xs.length cap/\xs.length<=cap:=by
 obtain⟨v',cells,hρ,hown,hlen,_⟩:=hm.rel k _ hk;rw[hv]at hρ;cases hρ
 rcases hown.2 with⟨rfl,h0⟩ | ⟨g,cap,cur,rfl,_,_,hnc,_⟩
 ·have h0:xs.length=0:=h0;exact⟨hlen,none,0,by rw[h0],oM⟩
 ·exact⟨hlen,_,cap,rfl,hnc⟩
theorem zg8:∀{s:List SV} {K:IntKind->List Int->Prop},zug s K->∃(k:IntKind) (x:Int) (r:List Int),K k (x::r)/\
  ∀{S Pm:Nat->Prop} {ρ:zk} {w:World} {vs:List Value},Gs S Pm ρ w s vs->∃us:List Value,vs=.int k x::us/\us.length=r.length/\∀(j:Nat) (y:Int),r[j]? =some y->∃k',us[j]? =some (.int k' y)
 | [],K,h=>by simp[zug]at h
 | s::r,K,h=>by
  unfold zug at h
  split at h
  ·rename_i k m r' heq
   cases heq
   split at h
   ·refine⟨k,m,[],h,λhg=>?_⟩;obtain⟨v,vs',rfl,h1,h2⟩:=hg.cons_inv;exact⟨[],by rw[h1.val_inv,h2.nil_inv],rfl,λj y hy=>by simp at hy⟩
   ·obtain⟨k2,x2,r2,hK,hg2⟩:=zg8 h;refine⟨k,m,x2::r2,hK,λhg=>?_⟩;obtain⟨v,vs',rfl,h1,h2⟩:=hg.cons_inv;obtain⟨us,rfl,hl,hy⟩:=hg2 h2;refine⟨.int k2 x2::us,by rw[h1.val_inv],by simp[hl],λj y hj=>?_⟩
    cases j with
    | zero=>simp at hj;subst hj;exact⟨k2,rfl⟩
    | succ j=>simpa using hy j y (by simpa using hj)
  ·exact h.elim
theorem zoQ{P:Program}{w:World}{k:IntKind}:∀(r:List Int) (us:List Value) (x:Int),us.length=r.length->(∀(j:Nat) (y:Int),r[j]? =some y->∃k',us[j]? =some (.int k' y))->
  (us.foldlM Builtin.min2 (.int k x)).run P w=.ok (.int k (zbJ x r)) w
 | [],us,x,hl,_=>by
  have:us=[]:=Xn hl;subst this;simp[zbJ]
 | y::r,us,x,hl,hy=>by
  cases us with
  | nil=>simp at hl
  | cons u us=>
   obtain⟨k',hu⟩:=hy 0 y rfl;simp at hu;subst hu;have hmin:(if y < x then y else x)=min x y:=oM;simp only[List.foldlM_cons,Builtin.min2,Sem.run_bind,Sem.run_pure,Result.andThen_ok,hmin,zbJ];exact zoQ r us (min x y) (by simpa using hl) (λj z hz=>by simpa using hy (j+1) z (by simpa using hz))
theorem zoR{P:Program}{w:World}{k:IntKind}:∀(r:List Int) (us:List Value) (x:Int),us.length=r.length->(∀(j:Nat) (y:Int),r[j]? =some y->∃k',us[j]? =some (.int k' y))->
  (us.foldlM Builtin.max2 (.int k x)).run P w=.ok (.int k (zc7 x r)) w
 | [],us,x,hl,_=>by
  have:us=[]:=Xn hl;subst this;simp[zc7]
 | y::r,us,x,hl,hy=>by
  cases us with
  | nil=>simp at hl
  | cons u us=>
   obtain⟨k',hu⟩:=hy 0 y rfl;simp at hu;subst hu;have hmax:(if y > x then y else x)=max x y:=oM;simp only[List.foldlM_cons,Builtin.max2,Sem.run_bind,Sem.run_pure,Result.andThen_ok,hmax,zc7];exact zoR r us (max x y) (by simpa using hl) (λj z hz=>by simpa using hy (j+1) z (by simpa using hz))
def Src(S:Nat->Prop)(w:World)(enc:α->List SV)(sz:Nat)(ys:List α)(v:Value)(news:List Value):Prop:=
 news.length=ys.length*sz/\(∀u∈news,u.oneCell'=true)/\
 (∀(i j:Nat) y (s:SV),ys[i]? =some y->(enc y)[j]? =some s->∃u,news[i*sz+j]? =some u/\D S w s u)/\
 ((v=.slice none 0 0/\ys=[])∨∃a c,v=.slice (some a) ys.length c/\∀(j:Nat) (u:Value),news[j]? =some u->w.cell? (a.add j)=some u)
variable{ys:List α}
theorem zoS{enc:α->List SV}{v:Value}(hd:D S w (.sl enc ys) v)(h0:0 < sz)(hsz:∀x∈ys,(enc x).length=sz):
  ∃news,Src S w enc sz ys v news:=by
 rcases hd.sl_inv with⟨rfl,a,rfl⟩ | ⟨sz',b,o,cap,c,rfl,hb,hS,hlen,hcap,hesz,hc,he⟩
 ·cases a with
  | none=>exact⟨[],by simp,by simp,λi j y s h=>by simp at h,.inl ⟨rfl,rfl⟩⟩
  | some a=>exact⟨[],by simp,by simp,λi j y s h=>by simp at h,.inr ⟨a,0,rfl,λj u hu=>by simp at hu⟩⟩
 ·have hs:ys≠[]->sz'=sz:=λhne=>by
   obtain⟨x,hx⟩:=QV ys hne;rw[← hesz x hx,← hsz x hx]
  have hq:∀q,q < ys.length*sz->q / sz < ys.length/\q % sz < sz/\sz'=sz/\q / sz*sz+q % sz=q:=λq hq=>by
   have h1:q / sz < ys.length:=(XR h0).2 hq;refine⟨h1,Kn _ h0,hs (λe=>by rw[e]at h1;simp at h1),?_⟩;rw[Ks];exact X3 q sz
  refine⟨(List.range (ys.length*sz)).map λq=>c (q / sz) (q % sz),by simp,?_,?_,.inr ⟨_,cap,rfl,?_⟩⟩
  ·intro u hu;obtain⟨q,hq',rfl⟩:=XO.1 hu;obtain⟨h1,h2,h3,_⟩:=hq q (Kj.1 hq');exact(hc _ _ h1 (h3 ▸ h2)).2
  ·intro i j y s hy hs';have hi:i < ys.length:=(Xc.1 hy).1
   have hj:j < sz:=by
    have:=(Xc.1 hs').1;rw[hsz y (Xd hy)]at this;exact this
   have hlt:i*sz+j < ys.length*sz:=by
    have:=Xp sz (XT hi);rw[XU]at this;omega
   have e1:(i*sz+j) / sz=i:=by rw[Ks,Qk h0];simp[Kg hj]
   have e2:(i*sz+j) % sz=j:=by rw[Ks,Ql];exact Xu hj
   refine⟨c i j,by simp[hlt,e1,e2],he i j y s hy hs'⟩
  ·intro q u hu;have hq':q < ys.length*sz:=by have:=(Xc.1 hu).1;simpa using this
   obtain⟨h1,h2,h3,h4⟩:=hq q hq';simp[hq']at hu;subst hu;subst h3;rw[yh];have:=(hc _ _ h1 h2).1;rw[KN,h4]at this;exact this
variable{lm:Nat->Option Mem}
theorem ud{s:SV}{enc:α->List SV}(h:zcq lm s enc ys)
  (hlm:∀k m,lm k=some m->zX M k=some m) (hm:zO Keep M ρ w) {v:Value} (hg:G (λb=>Keep b∨Own M ρ b) (Own M ρ) ρ w s v)(h0:0 < sz)
  (hsz:∀x∈ys,(enc x).length=sz):∃news,Src (λb=>Keep b∨Own M ρ b) w enc sz ys v news:=by
 unfold zcq at h
 split at h
 ·subst h;rw[hg.val_inv];exact⟨[],by simp,by simp,λi j y s h=>by simp at h,.inl ⟨rfl,rfl⟩⟩
 ·rename_i k;simp only[zhT]at h
  split at h
  ·rename_i T β enc' sz' xs hlk
   cases h
   obtain⟨hv,_⟩:=hg.own_inv;obtain⟨v',cells,hρ,hown,hlen,hone,hesz,hcells⟩:=hm.rel k _ (zA (hlm k _ hlk));rw[hv]at hρ;cases hρ
   rcases hown.2 with⟨rfl,he⟩ | ⟨g,cap,cur,rfl,_,hheap,hnc,hcm,hcs,htake⟩
   ·have:ys=[]:=Xn he;subst this;exact⟨[],by simp,by simp,λi j y s h=>by simp at h,.inl ⟨rfl,rfl⟩⟩
   ·by_cases hne:ys=[]
    ·subst hne;exact⟨[],by simp,by simp,λi j y s h=>by simp at h,.inr ⟨_,cap,rfl,λj u hu=>by simp at hu⟩⟩
    ·obtain⟨x,hx⟩:=QV ys hne;have:sz'=sz:=by rw[← hesz x hx,← hsz x hx]
     subst this;exact⟨cells,hown.1,hone,hcells,.inr ⟨_,cap,rfl,λj u hu=>by rw[yh,X6];exact zbT hheap htake hu⟩⟩
  ·cases h
 ·subst h;exact zoS hg.sl_inv h0 hsz
theorem zaY {P:Program} {t ty e:TypeId} {f:TypeInfo} {z:Value} (ht:P.underlying t=some (.slice e)) (hi:P.info? e=some f) (hz:f.zero=some z) (hzs:z.cells.size=f.size)
  {w:World} {v:Value} {n:Nat} {cells:List Value} (hown:w.ownsRow 0 e f.size v n cells) {S:Nat->Prop} {α:Type} {enc:α->List SV} {ys:List α} {vx:Value} {news:List Value}
  (hs:Src S w enc f.size ys vx news) (h63:n+ys.length<=maxLen) (hbytes:(n+ys.length)*f.bytes<=140737488355328):
  ∃v' w',(Builtin.append_ #[t,t] ty #[v,vx]).run P w=.ok v' w'/\w'.ownsRow 0 e f.size v' (n+ys.length) (cells++news)/\w'.os=w.os/\w'.tape=w.tape/\qc w w'/\w.heap.size<=w'.heap.size/\
   (∀b,b < w.heap.size->qz v≠some b->w'.heap[b]? =w.heap[b]?)/\(qz v'=qz v∨(qz v'=some w.heap.size/\w.heap.size < w'.heap.size))/\v'.oneCell'=true:=by
 obtain⟨hl,hone,_,hv⟩:=hs;have h63':(n+ys.length:Int)<=9223372036854775807:=by unfold maxLen at h63;omega
 have made:∀(old:Nat),old < n+ys.length->(w.drew.alloc (.cells (cells.toArray++news.toArray++Builtin.zeroCells z.cells (grownCap w (n+ys.length) old e - (n+ys.length))) e)).ownsRow 0 e f.size
    (.slice (some ⟨w.heap.size,0,none⟩) (n+ys.length) (grownCap w (n+ys.length) old e)) (n+ys.length) (cells++news):=by
  intro old _;have hge:=grownCap_ge w (n+ys.length) old e;have hcl:=hown.1;refine⟨by rw[Xj,hcl,hl,XY],.inr ⟨w.heap.size,_,_,rfl,Xe _,heap_alloc_new w.drew _,hge,grownCap_le_maxLen w _ old e h63,?_,?_⟩⟩
  ·simp only[Je,Kz,size_zeroCells,hzs,hcl,hl,← XY];congr 1;omega
  ·simp only[QZ];rw[KE (by simp[hcl,hl,XY])];exact Xf (by simp[hcl,hl,XY])
 rcases hv with⟨rfl,rfl⟩ | ⟨a,c,rfl,hcells⟩
 ·have hn:news=[]:=Xn (by simpa using hl);subst hn
  rcases hown.2 with⟨rfl,h0⟩ | ⟨g,cap,cur,rfl,_,hheap,hnc,hcm,hcs,htake⟩
  ·refine⟨.slice none 0 0,w,?_,?_,rfl,rfl,.refl _,Xh _,λ_ _ _=>rfl,.inl rfl,rfl⟩
   ·simp[Builtin.append_,run_underlying ht,sizeOf,typeInfo,hi,Builtin.lenOf,Builtin.firstCells]
   ·subst h0;have hc0:cells=[]:=Xn (by simpa using hown.1);subst hc0;exact World.ownsRow_nil w 0 e f.size
  ·refine⟨.slice (some ⟨g,0,none⟩) n cap,w,?_,?_,rfl,rfl,.refl _,Xh _,λ_ _ _=>rfl,.inl rfl,rfl⟩
   ·simp[Builtin.append_,run_underlying ht,sizeOf,typeInfo,hi,Builtin.lenOf,Builtin.firstCells,hnc,storeCells]
   ·simpa using hown
 ·rcases hown.2 with⟨rfl,rfl⟩ | ⟨g,cap,cur,rfl,_,hheap,hnc,hcm,hcs,htake⟩
  ·have hc0:cells=[]:=Xn (by simpa using hown.1);subst hc0
   by_cases hy:ys.length=0
   ·have hn:news=[]:=Xn (by simpa[hy] using hl);subst hn;refine⟨.slice none 0 0,w,?_,?_,rfl,rfl,.refl _,Xh _,λ_ _ _=>rfl,.inl rfl,rfl⟩
    ·simp[Builtin.append_,run_underlying ht,sizeOf,typeInfo,hi,Builtin.lenOf,Builtin.firstCells,hy,loadCells,loadCellsFrom]
    ·rw[hy];exact World.ownsRow_nil w 0 e f.size
   ·have hr:=run_append_nil (P:=P) w t ty e f z ht hi hz a ys.length c news hl hcells oM (by simpa using h63') (by have hb:=hbytes;simp only[X6]at hb;omega);have hgr:=made 0 oM;simp only[X6,K5,Array.empty_append]at hgr ⊢;exact⟨_,_,hr,hgr,rfl,rfl,.cells w.drew _ _,by simp,λb hb _=>heap_alloc_old w.drew _ b hb,.inr ⟨rfl,by simp⟩,rfl⟩
  ·have hcl:=hown.1
   by_cases hroom:n+ys.length<=cap
   ·have hfit:n*f.size+news.length<=cur.size:=by rw[hl,hcs,← XY];exact Xp _ hroom
    have hr:=run_append_room (P:=P) w t ty e f ht hi g n cap cur hheap a ys.length c news hl hcells hone hroom hfit
    refine⟨_,_,hr,⟨by rw[Xj,hcl,hl,XY],.inr ⟨g,cap,_,rfl,Xe _,setRow_heap w g cur _ e _ hheap,hroom,hcm,?_,?_⟩⟩,rfl,rfl,.setRow _ _ _,by simp,
     λb _ hne=>setRow_other w g b _ (λe=>hne (by simp[qz,e])),.inl rfl,rfl⟩
    ·simp only[Kz,Xj,Xk,XQ,KR];omega
    ·rw[htake,XY,← hl,← hcl];rw[KE (by simp)];exact Xf (by simp)
   ·have holds:∀(j:Nat) (u:Value),cells[j]? =some u->w.cell? ((⟨g,0,none⟩:Addr).add j)=some u:=λj u hu=>by rw[yh,X6];exact zbT hheap htake hu
    have hr:=run_append_grow (P:=P) w t ty e f z ht hi hz ⟨g,0,none⟩ n cap cells hcl holds a ys.length c news hl hcells oM (by push_cast;exact h63') (growslice_fits oM hbytes);exact⟨_,_,hr,made cap oM,rfl,rfl,.cells w.drew _ _,by simp,λb hb _=>heap_alloc_old w.drew _ b hb,.inr ⟨rfl,by simp⟩,rfl⟩
theorem zoT {P:Program} {t ty e:TypeId} {f:TypeInfo} {z:Value} (ht:P.underlying t=some (.slice e)) (hi:P.info? e=some f) (hz:f.zero=some z) (hzs:z.cells.size=f.size)
  {w:World} (ad:Option Addr) {S:Nat->Prop} {α:Type} {enc:α->List SV} {ys:List α} {vx:Value} {news:List Value}
  (hs:Src S w enc f.size ys vx news) (hne:ys≠[]) (h63:ys.length<=maxLen) (hbytes:ys.length*f.bytes<=140737488355328):
  ∃v' w',(Builtin.append_ #[t,t] ty #[.slice ad 0 0,vx]).run P w=.ok v' w'/\w'.ownsRow 0 e f.size v' ys.length news/\w'.os=w.os/\w'.tape=w.tape/\qc w w'/\w.heap.size<=w'.heap.size/\
   (∀b,b < w.heap.size->w'.heap[b]? =w.heap[b]?)/\(qz v'=some w.heap.size/\w.heap.size < w'.heap.size)/\v'.oneCell'=true:=by
 obtain⟨hl,hone,_,hv⟩:=hs;have h63':(ys.length:Int)<=9223372036854775807:=by unfold maxLen at h63;omega
 have hpos:0 < ys.length:=JD.2 hne
 have made:(w.drew.alloc (.cells (news.toArray++Builtin.zeroCells z.cells (grownCap w ys.length 0 e - ys.length)) e)).ownsRow 0 e f.size
    (.slice (some ⟨w.heap.size,0,none⟩) ys.length (grownCap w ys.length 0 e)) ys.length news:=by
  have hge:=grownCap_ge w ys.length 0 e;refine⟨hl,.inr ⟨w.heap.size,_,_,rfl,Xe _,heap_alloc_new w.drew _,hge,grownCap_le_maxLen w _ 0 e h63,?_,?_⟩⟩
  ·simp only[Je,Kz,size_zeroCells,hzs,hl,← XY];congr 1;omega
  ·simp only[QZ];rw[KE (by simp[hl])];exact Xf (by simp[hl])
 rcases hv with⟨_,rfl⟩ | ⟨a,c,rfl,hcells⟩
 ·exact absurd rfl hne
 ·cases ad with
  | none=>
   have hr:=run_append_nil (P:=P) w t ty e f z ht hi hz a ys.length c news hl hcells oM h63' oM;exact⟨_,_,hr,made,rfl,rfl,.cells w.drew _ _,by simp,λb hb=>heap_alloc_old w.drew _ b hb,⟨rfl,by simp⟩,rfl⟩
  | some g=>
   have hr:=run_append_grow (P:=P) w t ty e f z ht hi hz g 0 0 [] (by simp) (λj u hu=>by simp at hu) a ys.length c news hl hcells oM (by simpa using h63') (growslice_fits oM (by simpa using hbytes));simp only[X6,Array.empty_append]at hr;exact⟨_,_,hr,made,rfl,rfl,.cells w.drew _ _,by simp,λb hb=>heap_alloc_old w.drew _ b hb,⟨rfl,by simp⟩,rfl⟩
theorem zoU {P:Program} {t ty e:TypeId} {f:TypeInfo} {z:Value} (ht:P.underlying t=some (.slice e)) (hi:P.info? e=some f) (hz:f.zero=some z) (hzs:z.cells.size=f.size)
  {w:World} (ad:Option Addr) {S:Nat->Prop} {α:Type} {enc:α->List SV} {xs ys:List α} {vx:Value} {olds news:List Value}
  (ho:Src S w enc f.size xs (.slice ad xs.length xs.length) olds) (hs:Src S w enc f.size ys vx news) (hne:ys≠[]) (h63:xs.length+ys.length<=maxLen) (hbytes:(xs.length+ys.length)*f.bytes<=140737488355328):
  ∃v' w',(Builtin.append_ #[t,t] ty #[.slice ad xs.length xs.length,vx]).run P w=.ok v' w'/\w'.ownsRow 0 e f.size v' (xs.length+ys.length) (olds++news)/\w'.os=w.os/\w'.tape=w.tape/\qc w w'/\w.heap.size<=w'.heap.size/\
   (∀b,b < w.heap.size->w'.heap[b]? =w.heap[b]?)/\(qz v'=some w.heap.size/\w.heap.size < w'.heap.size)/\v'.oneCell'=true:=by
 obtain⟨hl,hone,_,hv⟩:=hs;obtain⟨hol,_,_,hov⟩:=ho;have h63':(xs.length+ys.length:Int)<=9223372036854775807:=by unfold maxLen at h63;omega
 have hpos:0 < ys.length:=JD.2 hne
 have made:∀old:Nat,(w.drew.alloc (.cells (olds.toArray++news.toArray++Builtin.zeroCells z.cells (grownCap w (xs.length+ys.length) old e - (xs.length+ys.length))) e)).ownsRow 0 e f.size
    (.slice (some ⟨w.heap.size,0,none⟩) (xs.length+ys.length) (grownCap w (xs.length+ys.length) old e)) (xs.length+ys.length) (olds++news):=by
  intro old;have hge:=grownCap_ge w (xs.length+ys.length) old e;refine⟨by rw[Xj,hol,hl,XY],.inr ⟨w.heap.size,_,_,rfl,Xe _,heap_alloc_new w.drew _,hge,grownCap_le_maxLen w _ old e h63,?_,?_⟩⟩
  ·simp only[Je,Kz,size_zeroCells,hzs,hol,hl,← XY];congr 1;omega
  ·simp only[QZ];rw[KE (by simp[hol,hl,XY])];exact Xf (by simp[hol,hl,XY])
 rcases hv with⟨_,rfl⟩ | ⟨a,c,rfl,hcells⟩
 ·exact absurd rfl hne
 ·cases ad with
  | none=>
   have hx0:xs=[]:=by
    rcases hov with⟨_,h⟩ | ⟨_,_,h,_⟩
    ·exact h
    ·cases h
   subst hx0;have ho0:olds=[]:=Xn (by simpa using hol);subst ho0;have hr:=run_append_nil (P:=P) w t ty e f z ht hi hz a ys.length c news hl hcells oM (by simpa using h63') (by simp only[Xs,X6]at hbytes;omega);have:=made 0;simp only[Xs,X6,K5]at this;refine⟨_,_,hr,?_,rfl,rfl,.cells w.drew _ _,by simp,λb hb=>heap_alloc_old w.drew _ b hb,⟨rfl,by simp⟩,rfl⟩
   simpa using this
  | some g=>
   have hcell:∀(j:Nat) (u:Value),olds[j]? =some u->w.cell? (g.add j)=some u:=by
    rcases hov with⟨h,_⟩ | ⟨a',c',h,hc⟩
    ·cases h
    ·cases h;exact hc
   have hr:=run_append_grow (P:=P) w t ty e f z ht hi hz g xs.length xs.length olds (by simp[hol]) hcell a ys.length c news hl hcells oM (by simpa using h63') (growslice_fits oM (by simpa using hbytes));exact⟨_,_,hr,made _,rfl,rfl,.cells w.drew _ _,by simp,λb hb=>heap_alloc_old w.drew _ b hb,⟨rfl,by simp⟩,rfl⟩
theorem zwl {P:Program} {t t' ty e:TypeId} {f:TypeInfo} (ht:P.underlying t=some (.slice e)) (hi:P.info? e=some f) {w:World} {g o n cap':Nat} {T:TypeId} {cur:Array Value}
  (hg:w.heap[g]? =some (.cells cur T (0,0))) {S:Nat->Prop} {α:Type} {enc:α->List SV} {ys:List α} {vx:Value} {news:List Value} (hs:Src S w enc f.size ys vx news) (hfit:o+min ys.length n*f.size<=cur.size):
  (Builtin.copy_ #[t,t'] ty #[.slice (some ⟨g,o,none⟩) n cap',vx]).run P w=.ok (.int .i64 (min ys.length n:Nat))
   (w.setRow g (cur.toList.take o++news.take (min ys.length n*f.size)++cur.toList.drop (o+min ys.length n*f.size)).toArray):=by
 obtain⟨hl,hone,_,hv⟩:=hs
 rcases hv with⟨rfl,rfl⟩ | ⟨a,c,rfl,hcells⟩
 ·have hn:news=[]:=Xn (by simpa using hl);subst hn;have hsr:=setRow_self w g cur T (0,0) hg;simp[Builtin.copy_,run_underlying ht,Builtin.lenOf,Builtin.firstCells,sizeOf,typeInfo,hi,storeCells,goInt,hsr]
 ·have hcl:(news.take (min ys.length n*f.size)).length=min ys.length n*f.size:=by
   rw[Xk,hl];exact KW (Xp _ (Nat.min_le_left _ _))
  have hld:=run_loadCells_list (P:=P) w a (news.take (min ys.length n*f.size)) (λj u hu=>hcells j u (by
   rw[Xv]at hu
   split at hu
   ·exact hu
   ·cases hu))
  rw[hcl]at hld;have hst:=run_storeCells_at P g o T (news.take (min ys.length n*f.size)) 0 cur w hg (by rw[hcl];simpa using hfit) (λu hu=>hone u (XE hu));simp only[hcl,XP]at hst;have e1:Nat.min ys.length n=min ys.length n:=rfl;simp[Builtin.copy_,run_underlying ht,Builtin.lenOf,Builtin.firstCells,sizeOf,typeInfo,hi,e1,hld,hst,goInt]
theorem zlH:∀{M:List (Nat×Mem)} {k:Nat} {m:Mem},zX M k=some m->qM M k m=M
 | [],_,_,h=>by simp[zX]at h
 | (k',m')::r,k,m,h=>by
  simp only[zX]at h;simp only[qM]
  split at h
  ·cases h;rfl
  ·rw[zlH h]
theorem zsG {P:Program}
  {Keep:Nat->Prop} {M:List (Nat×Mem)} {ρ:zk} {w:World} (hm:zO Keep M ρ w) {k:Nat} {T:TypeId} {α:Type} {enc:α->List SV} {sz:Nat} {xs:List α} (hmem:(k,Mem.arr T enc sz xs)∈M)
  {b len cap lo n κ:Nat} (hρ:ρ k=some (.slice (some ⟨b,0,none⟩) len cap)) (hln:lo+n<=xs.length) {ys:List α} {news:List Value}
  (hs:news.length=ys.length*sz/\(∀u∈news,u.oneCell'=true)/\(∀(i j:Nat) y (s:SV),ys[i]? =some y->(enc y)[j]? =some s->∃u,news[i*sz+j]? =some u/\D (λb=>Keep b∨Own M ρ b) w s u)) (hysz:∀y∈ys,(enc y).length=sz) {o:Oper} {a:Act} {r:Value}
  (hr:∀T cur,w.heap[b]? =some (.cells cur T (0,0))->lo*sz+min ys.length n*sz<=cur.size->(execOp a.eval o).run P w=.ok (.value r)
   (w.setRow b (cur.toList.take (lo*sz)++news.take (min ys.length n*sz)++cur.toList.drop (lo*sz+min ys.length n*sz)).toArray)):
  qH P o a w (k8 Keep M ρ w κ (.val r) (.set k (.arr T enc sz (xs.take lo++(ys.take n++xs.drop (lo+min ys.length n)))))):=by
 obtain⟨v0,cells,hρ',hown,hnl,hone0,hesz,hcells⟩:=hm.rel k _ hmem;rw[hρ]at hρ';cases hρ'
 obtain⟨hlen',cur,hheap,hnc,hcm,hcs,htake⟩:=zec rfl hown;have hcellslen:cells.length=xs.length*sz:=hown.1;have hml:min ys.length n<=n:=Nat.min_le_right _ _;have hmy:min ys.length n<=ys.length:=Nat.min_le_left _ _
 have htk:ys.take n=ys.take (min ys.length n):=by
  rcases Nat.le_total ys.length n with h | h
  ·rw[KW h,Xf h,Xf (Xh _)]
  ·rw[Nat.min_eq_right h]
 rw[htk];have hcurlen:xs.length*sz<=cur.toList.length:=by simp[hcs];exact Xp _ hnc
 generalize hmm:min ys.length n=m at*;have hfit:(lo+m)*sz<=xs.length*sz:=Xp _ oM;have hadd:(lo+m)*sz=lo*sz+m*sz:=XY _ _ _;have hrun:=hr _ _ hheap (by simp at hcurlen;omega)
 have hnews:(news.take (m*sz)).length=m*sz:=by
  rw[Xk,hs.1];exact KW (Xp _ hmy)
 refine qH.value hrun<|k8.set (hm.write _ hmem hρ rfl _ λhst=>?_) (.d _ _ (.val _));have hxl:(xs.take lo++(ys.take m++xs.drop (lo+m))).length=xs.length:=by simp only[Xj,Xk,XQ];omega
 refine⟨_,cells.take (lo*sz)++news.take (m*sz)++cells.drop (lo*sz+m*sz),hρ,⟨?_,.inr ⟨b,cap,_,by rw[hxl,hlen'],Xe _,setRow_heap w b _ _ T _ hheap,by rw[hxl];exact hnc,hcm,?_,?_⟩⟩,by rw[hxl];exact hnl,?_,?_,?_⟩
 ·rw[hxl];simp only[Xj,Xk,XQ,hcellslen,hs.1];have:=Xp sz hmy;omega
 ·simp only[Kz,Xj,hnews,Xk,XQ,KR,hcs];simp[hcs]at hcurlen;omega
 ·rw[hxl,← htake];have:=zbu cur.toList (news.take (m*sz)) (lo*sz) (xs.length*sz) (by rw[hnews];omega) hcurlen;rw[hnews]at this;exact this
 ·intro u hu;simp only[Xo]at hu
  rcases hu with(hu | hu) | hu
  ·exact hone0 u (XE hu)
  ·exact hs.2.1 u (XE hu)
  ·exact hone0 u (Kq hu)
 ·intro z hz;simp only[Xo]at hz
  rcases hz with hz | hz | hz
  ·exact hesz z (XE hz)
  ·exact hysz z (XE hz)
  ·exact hesz z (Kq hz)
 ·intro i j x s hxi hs';have hln1:(cells.take (lo*sz)).length=lo*sz:=by rw[Xk,hcellslen];omega
  have hlx:(xs.take lo).length=lo:=by rw[Xk];omega
  have hly:(ys.take m).length=m:=by rw[Xk];omega
  have hjs:j < sz:=by
   have hx:x∈xs.take lo++(ys.take m++xs.drop (lo+m)):=Xd hxi;have:=(Xc.1 hs').1;simp only[Xo]at hx
   rcases hx with hz | hz | hz
   ·rwa [hesz x (XE hz)]at this
   ·rwa [hysz x (XE hz)]at this
   ·rwa [hesz x (Kq hz)]at this
  by_cases hi1:i < lo
  ·rw[XF oM,Xv,if_pos hi1]at hxi;obtain⟨u,hu,hd⟩:=hcells i j x s hxi hs';refine⟨u,?_,hd.stp hst⟩
   have h5:i*sz+sz<=lo*sz:=by
    have:=Xp sz (XT hi1);rw[XU]at this;exact this
   rw[XK,XF oM,Xv,if_pos oM];exact hu
  ·rw[XA oM,hlx]at hxi;have h6:lo*sz<=i*sz:=Xp _ oM
   by_cases hi2:i - lo < m
   ·rw[XF oM,Xv,if_pos hi2]at hxi;obtain⟨u,hu,hd⟩:=hs.2.2 (i - lo) j x s hxi hs';refine⟨u,?_,hd.stp hst⟩
    have h5:(i - lo)*sz+sz<=m*sz:=by
     have:=Xp sz (XT hi2);rw[XU]at this;exact this
    have h7:(i - lo)*sz=i*sz - lo*sz:=Nat.sub_mul _ _ _;rw[XK,XA oM,hln1,XF oM,Xv,if_pos oM,← hu];congr 1;omega
   ·rw[XA oM,hly,XV]at hxi;rw[show lo+m+(i - lo - m)=i by omega]at hxi;obtain⟨u,hu,hd⟩:=hcells i j x s hxi hs';refine⟨u,?_,hd.stp hst⟩;have h7:(lo+m)*sz<=i*sz:=Xp _ oM;rw[XK,XA oM,hln1,XA oM,hnews,XV,← hu];congr 1;omega
theorem zoV {P:Program} {t t' e:TypeId} {f:TypeInfo} (hk:P.underlying t=some (.slice e)) (hi:P.info? e=some f)
  {Keep:Nat->Prop} {M:List (Nat×Mem)} {ρ:zk} {w:World} (hm:zO Keep M ρ w) {k:Nat} {T:TypeId} {α:Type} {enc:α->List SV} {sz:Nat} {xs:List α} (hmem:(k,Mem.arr T enc sz xs)∈M) (h2:f.size=sz)
  {b len cap cap' lo n κ:Nat} (hρ:ρ k=some (.slice (some ⟨b,0,none⟩) len cap)) (hln:lo+n<=xs.length) {ys:List α} {vx:Value} {news:List Value}
  (hs:Src (λb=>Keep b∨Own M ρ b) w enc sz ys vx news) (hysz:∀y∈ys,(enc y).length=sz) {o:Oper} {a:Act}
  (hr:∀v w',(Builtin.copy_ #[t,t'] o.type #[.slice (some ⟨b,lo*sz,none⟩) n cap',vx]).run P w=.ok v w'->(execOp a.eval o).run P w=.ok (.value v) w'):
  qH P o a w (k8 Keep M ρ w κ (.val (.int .i64 (min ys.length n:Nat))) (.set k (.arr T enc sz (xs.take lo++(ys.take n++xs.drop (lo+min ys.length n)))))):=by
 refine zsG hm hmem hρ hln ⟨hs.1,hs.2.1,hs.2.2.1⟩ hysz λT cur hheap hfit=>?_
 have hrun:=zwl (P:=P) (t:=t) (t':=t') (ty:=o.type) (o:=lo*sz) (n:=n) (cap':=cap') hk hi hheap (h2 ▸ hs) (by rw[h2];exact hfit);rw[h2]at hrun;exact hr _ _ hrun
theorem zuk {P:Program} {t e:TypeId} {f:TypeInfo} {z:Value} {zs:List Value} (hk:P.underlying t=some (.slice e)) (hz:f.zero=some z) (hi:P.info? e=some f) (h5:z.cells.toList=zs) (h7:zs.length=f.size) (h8:∀u∈zs,u.oneCell'=true)
  {Keep:Nat->Prop} {M:List (Nat×Mem)} {ρ:zk} {w:World} (hm:zO Keep M ρ w) {k:Nat} {T:TypeId} {α:Type} {enc:α->List SV} {sz:Nat} {xs:List α} (hmem:(k,Mem.arr T enc sz xs)∈M) (h2:f.size=sz)
  {b len cap cap' lo n κ:Nat} (hn:0 < n) (hρ:ρ k=some (.slice (some ⟨b,0,none⟩) len cap)) (hln:lo+n<=xs.length) {x0:α} (hx0:enc x0=vals zs) {o:Oper} {a:Act}
  (hr:∀v w',(Builtin.clear_ #[t] o.type #[.slice (some ⟨b,lo*sz,none⟩) n cap']).run P w=.ok v w'->(execOp a.eval o).run P w=.ok (.value v) w'):
  qH P o a w (k8 Keep M ρ w κ (.val (.tuple #[])) (.set k (.arr T enc sz (xs.take lo++(List.replicate n x0++xs.drop (lo+n)))))):=by
 have hzl:z.cells=zs.toArray:=by rw[← h5]
 have hlen:(madeCells z.cells (n*f.size)).toList.length=n*sz:=by simp[madeCells,h2]
 have hmg:∀q,(madeCells z.cells (n*f.size)).toList[q]? =if q < n*sz then zs[q % sz]? else none:=λq=>by
  have:=zfQ zs n q;rw[h7,h2]at this;rw[hzl,h2];exact this
 have henc:(enc x0).length=sz:=by rw[hx0];simp[vals,h7,h2]
 have hone:∀u∈(madeCells z.cells (n*f.size)).toList,u.oneCell'=true:=λu hu=>by
  obtain⟨q,hq,rfl⟩:=Jv.1 hu;have:=hmg q;rw[Xb hq]at this
  split at this
  ·exact h8 _ (Xd this.symm)
  ·cases this
 have key:=zsG (P:=P) hm hmem hρ hln (ys:=List.replicate n x0) (news:=(madeCells z.cells (n*f.size)).toList) (κ:=κ) (o:=o) (a:=a) (r:=.tuple #[])
  ⟨by rw[hlen,Kh],hone,λi j y s hy hs=>by
   have hxm:=KJ (Xd hy);subst hxm;have hq:i < n:=by simpa using (Xc.1 hy).1
   have hpj:j < sz:=by
    have:=(Xc.1 hs).1;rw[henc]at this;exact this
   have h1:i*sz+sz<=n*sz:=by
    have:=Xp sz (show i+1<=n by omega);rw[XU]at this;exact this
   have hmod:(i*sz+j) % sz=j:=by rw[Ks,Ql];exact Xu hpj
   rw[hmg,if_pos oM,hmod];rw[hx0]at hs;simp only[vals,XC]at hs
   cases hu:zs[j]? with
   | none=>simp[hu]at hs
   | some u=>
    simp[hu]at hs;subst hs
    exact⟨u,rfl,.val u⟩⟩ (λy hy=>by rw[KJ hy];exact henc) (λT' cur hheap hfit=>by
   refine hr _ _ ?_;rw[Kh,Nat.min_self]at hfit ⊢;have hst:=run_storeCells_at P b (lo*sz) T' (madeCells z.cells (n*f.size)).toList 0 cur w hheap (by rw[hlen];simpa using hfit) hone;simp only[hlen,XP]at hst;have ht:(madeCells z.cells (n*f.size)).toList.take (n*sz)=(madeCells z.cells (n*f.size)).toList:=Xf (by rw[hlen];exact Xh _);rw[ht]
   have hzc:(Builtin.zeroCells z.cells n).toList=(madeCells z.cells (n*f.size)).toList:=by
    have e:z.cells.size=f.size:=by rw[hzl];simpa using h7
    simp[Builtin.zeroCells,madeCells,e]
   obtain⟨m,rfl⟩:∃m,n=m+1:=⟨n - 1,oM⟩
   simp[Builtin.clear_,run_underlying hk,zeroValue,typeInfo,hi,hz,hzc,hst])
 rw[Kh,Nat.min_self,Xf (l:=List.replicate n x0) (by rw[Kh];exact Xh _)]at key;exact key
theorem zoW(hm:zO Keep M ρ w){k:Nat}{T:TypeId}{ys:List (List SV)}(hmem:(k,Mem.garr T sz ys)∈M){v:Value}(hρ:ρ k=some v):
  ∃(qs:List Nat) (news:List Value),qs.length=ys.length/\Src (λb=>Keep b∨Own M ρ b) w (λn:Nat=>List.replicate n SV.junk) sz qs v news/\(∀y∈ys,y.length=sz)/\
   ∀(i j:Nat) x (s:SV),ys[i]? =some x->x[j]? =some s->∃u,news[i*sz+j]? =some u/\G (λb=>Keep b∨Own M ρ b) (Own M ρ) ρ w s u:=by
 obtain⟨v',cells,hρ',hown,hlen,hone,hesz,hcells⟩:=hm.rel k _ hmem;rw[hρ]at hρ';cases hρ'
 refine⟨ys.map List.length,cells,by simp,⟨by rw[Xz];exact hown.1,hone,λi j n s hn hs=>?_,?_⟩,hesz,hcells⟩
 ·rw[XC]at hn
  cases hy:ys[i]? with
  | none=>simp[hy]at hn
  | some y=>
   simp[hy]at hn;subst hn
   have hj:j < y.length:=by
    have:=(Xc.1 hs).1
    simpa using this
   obtain⟨u,hu,_⟩:=hcells i j y _ hy (Xb hj);have:s=.junk:=KJ (Xd hs);subst this;exact⟨u,hu,.junk _⟩
 ·rw[Xz]
  rcases hown.2 with⟨rfl,he⟩ | ⟨g,cap,cur,rfl,_,hheap,hnc,hcm,hcs,htake⟩
  ·exact .inl ⟨rfl,by rw[Xn he];rfl⟩
  ·exact .inr ⟨_,cap,rfl,λj u hu=>by rw[yh,X6];exact zbT hheap htake hu⟩
variable{Γ:List (TypeId×TI)}{κ:Nat}{K:SV->MD->Prop}
theorem zlg(hT:TOK P Γ)(hb:c.callee=.builtin .append) {s:SV} {k':Nat} {e':TypeId} {sz':Nat} {ys:List (List SV)}
  (hlk':lm k'=some (.garr e' sz' ys)) (h:zi3 Γ c.argTypes.toList s e' sz' ys lm κ K):∃r md,K r md/\yK P (.call c) [s,.own k'] lm κ r md:=by
 unfold zi3 at h
 split at h
 ·rename_i t t' htys;have htys:=zef htys;replace h:=zi h;obtain⟨hteq,h⟩:=h;have hteq:=Xg hteq;subst hteq;replace h:=zt h;obtain⟨i,hi,h⟩:=h;have hk:=(hT t i hi).kind
  split at h
  ·rename_i e hkind;rw[hkind]at hk;have hk:P.underlying t=some (.slice e):=hk;replace h:=zt h;obtain⟨j,hj,h⟩:=h;obtain⟨f,h1,h2,h3,z,h4,h5,h6,h7,h8⟩:=(hT e j hj).inf;have hzs:z.cells.size=f.size:=by rw[h2,← h7,← h5];simp
   replace h:=zi h;obtain⟨hee,h⟩:=h;replace h:=zi h;obtain⟨hss,h⟩:=h;have hee:=Xg hee;have hss:=Xg hss;subst hee;subst hss
   split at h
   ·obtain⟨e1,e2,e3⟩:=h.ob;refine⟨_,_,h.go,λo ho Keep M ρ a w hlm hm hκ hκM hgs=>?_⟩;replace hκ:=hκ _ (Xh _) (XX _);replace hκM:=hκM rfl;have hgs:=je hb hgs;obtain⟨v,vs',hvs,g,gr⟩:=hgs.cons_inv;obtain⟨vx,vs'',hvs',gx,gn⟩:=gr.cons_inv;subst hvs';have hn:=gn.nil_inv;subst hn;obtain⟨hx,_⟩:=gx.own_inv;obtain⟨qs,news,hql,hsrc,hesz',hcells'⟩:=zoW hm (zA (hlm k' _ hlk')) hx;rw[← hql]at e1 e2;obtain⟨cs,hr⟩:=kr (P:=P) (w:=w) ho hb hvs;rw[g.val_inv]at hr
    have hb':(0+qs.length)*f.bytes<=140737488355328:=by rw[h3,X6];omega
    obtain⟨v',w',hrun,hown,q1,q2,q3,q4,q5,q6,q7⟩:=zaY (ty:=o.type) hk h1 h4 hzs (World.ownsRow_nil w 0 e f.size) (h2 ▸ hsrc) (by unfold maxLen;omega) hb';refine qH.value (v:=v') (w':=w') (by rw[hr,htys];simp only[builtin,Sem.run_bind,hrun,Result.andThen_ok,Sem.run_pure])<|k8.push (u:=v') (hm.grow (λ_ h=>h) hm.keys hκ hκM v' _ w' q1 q2 q3 q4 (λb hb _=>q5 b hb (by simp[qz])) (λk m v b g1 g2 g3=>q5 b (hm.old b ⟨k,m,v,g1,g2,g3⟩).1 (by simp[qz])) ?_ ?_) (.own _ _ kB q7)
    ·intro b hb
     rcases q6 with q6 | ⟨q6,q8⟩
     ·rw[hb]at q6;simp[qz]at q6
     ·rw[hb]at q6;cases q6
      exact⟨.inr (Xh _),q8,λk m v1 g1 g2 g3=>by have:=(hm.old _ ⟨k,m,v1,g1,g2,g3⟩).1;omega⟩
    ·intro hs;refine⟨v',news,kB,by rw[← h2];rw[hql]at hown;simpa using hown,oM,hsrc.2.1,hesz',λp q y s' hy hs'=>?_⟩;obtain⟨u,hu,hd⟩:=hcells' p q y s' hy hs';exact⟨u,hu,hd.stp hs⟩
   ·rename_i k
    split at h
    ·rename_i e'' sz xs hlk;replace h:=zi h;obtain⟨hee,h⟩:=h;replace h:=zi h;obtain⟨hss,h⟩:=h;have hee:=Xg hee;have hss:=Xg hss;subst hee;obtain⟨e1,e2,e3⟩:=h.ob;refine⟨_,_,h.go,λo ho Keep M ρ a w hlm hm hκ hκM hgs=>?_⟩;replace hκ:=hκ _ (Xh _) (XX _);replace hκM:=hκM rfl;have hmem:=zA (hlm k _ hlk);have hgs:=je hb hgs;obtain⟨v,vs',hvs,g,gr⟩:=hgs.cons_inv;obtain⟨vx,vs'',hvs',gx,gn⟩:=gr.cons_inv;subst hvs';have hn:=gn.nil_inv;subst hn
     obtain⟨hx,_⟩:=gx.own_inv;obtain⟨qs,news,hql,hsrc,hesz',hcells'⟩:=zoW hm (zA (hlm k' _ hlk')) hx;rw[← hql]at e1 e2;obtain⟨cs,hr⟩:=kr (P:=P) (w:=w) ho hb hvs;obtain⟨hv,_⟩:=g.own_inv;obtain⟨v0,cells,hρ,hown,hnl,hone0,hesz,hcells⟩:=hm.rel k _ hmem;rw[hv]at hρ;cases hρ
     have hb':(xs.length+qs.length)*f.bytes<=140737488355328:=by rw[h3];exact JF.1 (by rw[XZ,QD];exact e1)
     have hsf:sz=f.size:=by rw[hss,h2]
     subst hsf;obtain⟨v',w',hrun,hown',q1,q2,q3,q4,q5,q6,q7⟩:=zaY (ty:=o.type) hk h1 h4 hzs hown (h2 ▸ hsrc) (by unfold maxLen;omega) hb';refine qH.value (v:=v') (w':=w') (by rw[hr,htys];simp only[builtin,Sem.run_bind,hrun,Result.andThen_ok,Sem.run_pure]) ?_
     have hgrow:=hm.grow (M1:=qn M k) (λx hx=>kD x hx) (qE hm.keys) hκ hκM v' (.garr e f.size (xs++ys)) w' q1 q2 q3 q4
      (λb hb hn=>q5 b hb (λhvb=>hn ⟨k,_,v,hmem,hv,hvb⟩))
      (λk' m v1 b g1 g2 g3=>q5 b (hm.old b ⟨k',m,v1,kD _ g1,g2,g3⟩).1 (λhvb=>hm.apart k' m k _ v1 v b (kD _ g1) hmem (yL hm.keys _ g1) g2 hv g3 hvb))
      (λb hb=>by
       rcases q6 with q6 | ⟨q6,q8⟩
       ·rw[hb]at q6;have ho:Own M ρ b:=⟨k,_,v,hmem,hv,q6.symm⟩;exact⟨.inl ho,Xr (hm.old b ho).1 q4,λk' m v1 g1 g2 g3=>hm.apart k' m k _ v1 v b (kD _ g1) hmem (yL hm.keys _ g1) g2 hv g3 q6.symm⟩
       ·rw[hb]at q6;cases q6
        exact⟨.inr (Xh _),q8,λk' m v1 g1 g2 g3=>by have:=(hm.old _ ⟨k',m,v1,kD _ g1,g2,g3⟩).1;omega⟩)
      (λhs=>by
       refine⟨v',cells++news,kB,by rw[hql]at hown';simpa using hown',by simp;omega,λu hu=>?_,λx hx=>?_,λp q x s' hx hs'=>?_⟩
       ·rcases Xo.1 hu with hu | hu
        ·exact hone0 u hu
        ·exact hsrc.2.1 u hu
       ·rcases Xo.1 hx with hx | hx
        ·exact hesz x hx
        ·rw[hesz' x hx,h2]
       ·have hl:=hown.1;rw[XM]at hx
        split at hx
        ·obtain⟨u,hu,hd⟩:=hcells p q x s' hx hs';refine⟨u,?_,hd.stp hs⟩;have:p*f.size+q < cells.length:=(Xc.1 hu).1;rw[XF this];exact hu
        ·rename_i hge;obtain⟨u,hu,hd⟩:=hcells' (p - xs.length) q x s' hx hs';refine⟨u,?_,hd.stp hs⟩;have hge:xs.length<=p:=oM;have hmul:p*f.size=xs.length*f.size+(p - xs.length)*f.size:=by rw[← XY];congr 1;omega
         rw[XA (by rw[hl,hmul];omega),hl,hmul,show xs.length*f.size+(p - xs.length)*f.size+q - xs.length*f.size=(p - xs.length)*f.size+q by omega,h2]
         exact hu)
     exact⟨upd ρ κ v',hgrow.1,hgrow.2,.own _ _ kB q7,λk' hk'=>zct (by
      rcases hk' with hk' | hk'
      ·omega
      ·simp only[zaU]at hk';omega)⟩
    ·exact h.elim
   ·exact h.elim
  ·exact h.elim
 ·exact h.elim
theorem zfR(hT:TOK P Γ)(hb:c.callee=.builtin .append) {s x:SV}
  (h:ziB Γ c.argTypes.toList s x lm κ K):∃r md,K r md/\yK P (.call c) [s,x] lm κ r md:=by
 unfold ziB at h
 split at h
 ·rename_i t t' htys;have htys:=zef htys;replace h:=zi h;obtain⟨hteq,h⟩:=h;have hteq:=Xg hteq;subst hteq;replace h:=zt h;obtain⟨i,hi,h⟩:=h;have hk:=(hT t i hi).kind
  split at h
  ·rename_i e hkind;rw[hkind]at hk;have hk:P.underlying t=some (.slice e):=hk;replace h:=zt h;obtain⟨j,hj,h⟩:=h;obtain⟨f,h1,h2,h3,z,h4,h5,h6,h7,h8⟩:=(hT e j hj).inf;have hzs:z.cells.size=f.size:=by rw[h2,← h7,← h5];simp
   split at h
   ·obtain⟨α,enc,ys,hra,h⟩:=h;obtain⟨e1,e2,e3,e4⟩:=h.ob;refine⟨_,_,h.go,λo ho Keep M ρ a w hlm hm hκ hκM hgs=>?_⟩;replace hκ:=hκ _ (Xh _) (XX _);replace hκM:=hκM rfl;have hgs:=je hb hgs;obtain⟨v,vs',hvs,g,gr⟩:=hgs.cons_inv;obtain⟨vx,vs'',hvs',gx,gn⟩:=gr.cons_inv;subst hvs';have hn:=gn.nil_inv;subst hn;obtain⟨news,hsrc⟩:=ud hra hlm hm gx e3 e4;obtain⟨cs,hr⟩:=kr (P:=P) (w:=w) ho hb hvs;rw[g.val_inv]at hr;have hb':(0+ys.length)*f.bytes<=140737488355328:=by rw[h3,X6];omega
    obtain⟨v',w',hrun,hown,q1,q2,q3,q4,q5,q6,q7⟩:=zaY (ty:=o.type) hk h1 h4 hzs (World.ownsRow_nil w 0 e f.size) (h2 ▸ hsrc) (by unfold maxLen;omega) hb';refine qH.value (v:=v') (w':=w') (by rw[hr,htys];simp only[builtin,Sem.run_bind,hrun,Result.andThen_ok,Sem.run_pure])<|k8.push (u:=v') (hm.grow (λ_ h=>h) hm.keys hκ hκM v' _ w' q1 q2 q3 q4 (λb hb _=>q5 b hb (by simp[qz])) (λk m v b g1 g2 g3=>q5 b (hm.old b ⟨k,m,v,g1,g2,g3⟩).1 (by simp[qz])) ?_ ?_) (.own _ _ kB q7)
    ·intro b hb
     rcases q6 with q6 | ⟨q6,q8⟩
     ·rw[hb]at q6;simp[qz]at q6
     ·rw[hb]at q6;cases q6
      exact⟨.inr (Xh _),q8,λk m v1 g1 g2 g3=>by have:=(hm.old _ ⟨k,m,v1,g1,g2,g3⟩).1;omega⟩
    ·intro hs;refine⟨v',news,kB,by rw[← h2];simpa using hown,e2,hsrc.2.1,e4,λp q y s' hy hs'=>?_⟩;obtain⟨u,hu,hd⟩:=hsrc.2.2.1 p q y s' hy hs';exact⟨u,hu,hd.stp hs⟩
   ·rename_i k
    split at h
    ·rename_i e' α enc sz xs hlk;replace h:=zi h;obtain⟨hee,h⟩:=h;replace h:=zi h;obtain⟨hss,h⟩:=h;have hee:=Xg hee;have hss:=Xg hss;subst hee;obtain⟨ys,hra,h⟩:=h;obtain⟨e1,e2,e3,e4⟩:=h.ob;refine⟨_,_,h.go,λo ho Keep M ρ a w hlm hm hκ hκM hgs=>?_⟩;replace hκ:=hκ _ (Xh _) (XX _);replace hκM:=hκM rfl;have hmem:=zA (hlm k _ hlk);have hgs:=je hb hgs;obtain⟨v,vs',hvs,g,gr⟩:=hgs.cons_inv;obtain⟨vx,vs'',hvs',gx,gn⟩:=gr.cons_inv;subst hvs';have hn:=gn.nil_inv
     subst hn;obtain⟨news,hsrc⟩:=ud hra hlm hm gx e3 e4;obtain⟨cs,hr⟩:=kr (P:=P) (w:=w) ho hb hvs;obtain⟨hv,_⟩:=g.own_inv;obtain⟨v0,cells,hρ,hown,hnl,hone0,hesz,hcells⟩:=hm.rel k _ hmem;rw[hv]at hρ;cases hρ
     have hb':(xs.length+ys.length)*f.bytes<=140737488355328:=by rw[h3];exact JF.1 (by rw[XZ,QD];exact e1)
     have hsf:sz=f.size:=by rw[hss,h2]
     subst hsf;obtain⟨v',w',hrun,hown',q1,q2,q3,q4,q5,q6,q7⟩:=zaY (ty:=o.type) hk h1 h4 hzs hown (h2 ▸ hsrc) (by unfold maxLen;omega) hb';refine qH.value (v:=v') (w':=w') (by rw[hr,htys];simp only[builtin,Sem.run_bind,hrun,Result.andThen_ok,Sem.run_pure]) ?_
     have hgrow:=hm.grow (M1:=qn M k) (λx hx=>kD x hx) (qE hm.keys) hκ hκM v' (.arr e enc f.size (xs++ys)) w' q1 q2 q3 q4
      (λb hb hn=>q5 b hb (λhvb=>hn ⟨k,_,v,hmem,hv,hvb⟩))
      (λk' m v1 b g1 g2 g3=>q5 b (hm.old b ⟨k',m,v1,kD _ g1,g2,g3⟩).1 (λhvb=>hm.apart k' m k _ v1 v b (kD _ g1) hmem (yL hm.keys _ g1) g2 hv g3 hvb))
      (λb hb=>by
       rcases q6 with q6 | ⟨q6,q8⟩
       ·rw[hb]at q6;have ho:Own M ρ b:=⟨k,_,v,hmem,hv,q6.symm⟩;exact⟨.inl ho,Xr (hm.old b ho).1 q4,λk' m v1 g1 g2 g3=>hm.apart k' m k _ v1 v b (kD _ g1) hmem (yL hm.keys _ g1) g2 hv g3 q6.symm⟩
       ·rw[hb]at q6;cases q6
        exact⟨.inr (Xh _),q8,λk' m v1 g1 g2 g3=>by have:=(hm.old _ ⟨k',m,v1,kD _ g1,g2,g3⟩).1;omega⟩)
      (λhs=>by
       refine⟨v',cells++news,kB,by simpa using hown',by simp;omega,λu hu=>?_,λx hx=>?_,λp q x s' hx hs'=>?_⟩
       ·rcases Xo.1 hu with hu | hu
        ·exact hone0 u hu
        ·exact hsrc.2.1 u hu
       ·rcases Xo.1 hx with hx | hx
        ·exact hesz x hx
        ·rw[e4 x hx,h2]
       ·have hl:=hown.1;rw[XM]at hx
        split at hx
        ·obtain⟨u,hu,hd⟩:=hcells p q x s' hx hs';refine⟨u,?_,hd.stp hs⟩;have:p*f.size+q < cells.length:=(Xc.1 hu).1;rw[XF this];exact hu
        ·rename_i hge;obtain⟨u,hu,hd⟩:=hsrc.2.2.1 (p - xs.length) q x s' hx hs';refine⟨u,?_,hd.stp hs⟩;have hge:xs.length<=p:=oM;have hmul:p*f.size=xs.length*f.size+(p - xs.length)*f.size:=by rw[← XY];congr 1;omega
         rw[XA (by rw[hl,hmul];omega),hl,hmul,show xs.length*f.size+(p - xs.length)*f.size+q - xs.length*f.size=(p - xs.length)*f.size+q by omega,h2]
         exact hu)
     exact⟨upd ρ κ v',hgrow.1,hgrow.2,.own _ _ kB q7,λk' hk'=>zct (by
      rcases hk' with hk' | hk'
      ·omega
      ·simp only[zaU]at hk';omega)⟩
    ·rename_i e' sz xs hlk;replace h:=zi h;obtain⟨hee,h⟩:=h;replace h:=zi h;obtain⟨hss,h⟩:=h;have hee:=Xg hee;have hss:=Xg hss;subst hee;obtain⟨α,enc,ys,hra,h⟩:=h;obtain⟨e1,e2,e3,e4⟩:=h.ob;refine⟨_,_,h.go,λo ho Keep M ρ a w hlm hm hκ hκM hgs=>?_⟩;replace hκ:=hκ _ (Xh _) (XX _);replace hκM:=hκM rfl;have hmem:=zA (hlm k _ hlk);have hgs:=je hb hgs;obtain⟨v,vs',hvs,g,gr⟩:=hgs.cons_inv;obtain⟨vx,vs'',hvs',gx,gn⟩:=gr.cons_inv;subst hvs';have hn:=gn.nil_inv
     subst hn;obtain⟨news,hsrc⟩:=ud hra hlm hm gx e3 e4;obtain⟨cs,hr⟩:=kr (P:=P) (w:=w) ho hb hvs;obtain⟨hv,_⟩:=g.own_inv;obtain⟨v0,cells,hρ,hown,hnl,hone0,hesz,hcells⟩:=hm.rel k _ hmem;rw[hv]at hρ;cases hρ
     have hb':(xs.length+ys.length)*f.bytes<=140737488355328:=by rw[h3];exact JF.1 (by rw[XZ,QD];exact e1)
     have hsf:sz=f.size:=by rw[hss,h2]
     subst hsf;obtain⟨v',w',hrun,hown',q1,q2,q3,q4,q5,q6,q7⟩:=zaY (ty:=o.type) hk h1 h4 hzs hown (h2 ▸ hsrc) (by unfold maxLen;omega) hb';refine qH.value (v:=v') (w':=w') (by rw[hr,htys];simp only[builtin,Sem.run_bind,hrun,Result.andThen_ok,Sem.run_pure]) ?_
     have hgrow:=hm.grow (M1:=qn M k) (λx hx=>kD x hx) (qE hm.keys) hκ hκM v' (.garr e f.size (xs++ys.map enc)) w' q1 q2 q3 q4
      (λb hb hn=>q5 b hb (λhvb=>hn ⟨k,_,v,hmem,hv,hvb⟩))
      (λk' m v1 b g1 g2 g3=>q5 b (hm.old b ⟨k',m,v1,kD _ g1,g2,g3⟩).1 (λhvb=>hm.apart k' m k _ v1 v b (kD _ g1) hmem (yL hm.keys _ g1) g2 hv g3 hvb))
      (λb hb=>by
       rcases q6 with q6 | ⟨q6,q8⟩
       ·rw[hb]at q6;have ho:Own M ρ b:=⟨k,_,v,hmem,hv,q6.symm⟩;exact⟨.inl ho,Xr (hm.old b ho).1 q4,λk' m v1 g1 g2 g3=>hm.apart k' m k _ v1 v b (kD _ g1) hmem (yL hm.keys _ g1) g2 hv g3 q6.symm⟩
       ·rw[hb]at q6;cases q6
        exact⟨.inr (Xh _),q8,λk' m v1 g1 g2 g3=>by have:=(hm.old _ ⟨k',m,v1,kD _ g1,g2,g3⟩).1;omega⟩)
      (λhs=>by
       refine⟨v',cells++news,kB,by simpa using hown',by simp;omega,λu hu=>?_,λx hx=>?_,λp q x s' hx hs'=>?_⟩
       ·rcases Xo.1 hu with hu | hu
        ·exact hone0 u hu
        ·exact hsrc.2.1 u hu
       ·rcases Xo.1 hx with hx | hx
        ·exact hesz x hx
        ·obtain⟨y,hy,rfl⟩:=XO.1 hx;rw[e4 y hy,h2]
       ·have hl:=hown.1;rw[XM]at hx
        split at hx
        ·obtain⟨u,hu,hd⟩:=hcells p q x s' hx hs';refine⟨u,?_,hd.stp hs⟩;have:p*f.size+q < cells.length:=(Xc.1 hu).1;rw[XF this];exact hu
        ·rename_i hge;rw[XC]at hx
         cases hy:ys[p - xs.length]? with
         | none=>simp[hy]at hx
         | some y=>
         simp[hy]at hx;subst hx;obtain⟨u,hu,hd⟩:=hsrc.2.2.1 (p - xs.length) q y s' hy hs';refine⟨u,?_,.d _ _ (hd.stp hs)⟩;have hge:xs.length<=p:=oM;have hmul:p*f.size=xs.length*f.size+(p - xs.length)*f.size:=by rw[← XY];congr 1;omega
         rw[XA (by rw[hl,hmul];omega),hl,hmul,show xs.length*f.size+(p - xs.length)*f.size+q - xs.length*f.size=(p - xs.length)*f.size+q by omega,h2]
         exact hu)
     exact⟨upd ρ κ v',hgrow.1,hgrow.2,.own _ _ kB q7,λk' hk'=>zct (by
      rcases hk' with hk' | hk'
      ·omega
      ·simp only[zaU]at hk';omega)⟩
    ·exact h.elim
   ·rename_i α enc xs;obtain⟨ys,hra,h⟩:=h;obtain⟨⟨e0,e1,e2,e3,e5,e4⟩,h⟩:=h;refine⟨_,_,h,λo ho Keep M ρ a w hlm hm hκ hκM hgs=>?_⟩;replace hκ:=hκ _ (Xh _) (XX _);replace hκM:=hκM rfl;have hgs:=je hb hgs;obtain⟨v,vs',hvs,g,gr⟩:=hgs.cons_inv;obtain⟨vx,vs'',hvs',gx,gn⟩:=gr.cons_inv;subst hvs';have hn:=gn.nil_inv;subst hn;obtain⟨news,hsrc⟩:=ud hra hlm hm gx e3 e4;obtain⟨cs,hr⟩:=kr (P:=P) (w:=w) ho hb hvs;obtain⟨ad,hv,hd⟩:=g.full_inv;obtain⟨olds,hold⟩:=zoS hd e3 e5;rw[hv]at hr hold
    have hb':(xs.length+ys.length)*f.bytes<=140737488355328:=by rw[h3];exact JF.1 (by rw[XZ,QD];exact e1)
    obtain⟨v',w',hrun,hown,q1,q2,q3,q4,q5,q6,q7⟩:=zoU (ty:=o.type) hk h1 h4 hzs ad (h2 ▸ hold) (h2 ▸ hsrc) e0 (by unfold maxLen;omega) hb';refine qH.value (v:=v') (w':=w') (by rw[hr,htys];simp only[builtin,Sem.run_bind,hrun,Result.andThen_ok,Sem.run_pure])<|k8.push (u:=v') (hm.grow (λ_ h=>h) hm.keys hκ hκM v' _ w' q1 q2 q3 q4 (λb hb _=>q5 b hb) (λk m v b g1 g2 g3=>q5 b (hm.old b ⟨k,m,v,g1,g2,g3⟩).1) ?_ ?_) (.own _ _ kB q7)
    ·intro b hb;obtain⟨q6,q8⟩:=q6;rw[hb]at q6;cases q6
     exact⟨.inr (Xh _),q8,λk m v1 g1 g2 g3=>by have:=(hm.old _ ⟨k,m,v1,g1,g2,g3⟩).1;omega⟩
    ·intro hs;refine⟨v',olds++news,kB,by rw[← h2];simpa using hown,by simp;omega,λu hu=>?_,λx hx=>?_,λp q y s' hy hs'=>?_⟩
     ·rcases Xo.1 hu with hu | hu
      ·exact hold.2.1 u hu
      ·exact hsrc.2.1 u hu
     ·rcases Xo.1 hx with hx | hx
      ·exact e5 x hx
      ·exact e4 x hx
     ·have hl:=hold.1;rw[XM]at hy
      split at hy
      ·obtain⟨u,hu,hd⟩:=hold.2.2.1 p q y s' hy hs';refine⟨u,?_,hd.stp hs⟩;have:p*j.sz+q < olds.length:=(Xc.1 hu).1;rw[XF this];exact hu
      ·rename_i hge;obtain⟨u,hu,hd⟩:=hsrc.2.2.1 (p - xs.length) q y s' hy hs';refine⟨u,?_,hd.stp hs⟩;have hge:xs.length<=p:=oM;have hmul:p*j.sz=xs.length*j.sz+(p - xs.length)*j.sz:=by rw[← XY];congr 1;omega
       rw[XA (by rw[hl,hmul];omega),hl,hmul,show xs.length*j.sz+(p - xs.length)*j.sz+q - xs.length*j.sz=(p - xs.length)*j.sz+q by omega];exact hu
   ·rcases h with h | h | h
    ·obtain⟨α,enc,ys,hra,h⟩:=h;obtain⟨⟨e0,e1,e2,e3,e4⟩,h⟩:=h;refine⟨_,_,h,λo ho Keep M ρ a w hlm hm hκ hκM hgs=>?_⟩;replace hκ:=hκ _ (Xh _) (XX _);replace hκM:=hκM rfl;have hgs:=je hb hgs;obtain⟨v,vs',hvs,g,gr⟩:=hgs.cons_inv;obtain⟨vx,vs'',hvs',gx,gn⟩:=gr.cons_inv;subst hvs';have hn:=gn.nil_inv;subst hn;obtain⟨news,hsrc⟩:=ud hra hlm hm gx e3 e4;obtain⟨cs,hr⟩:=kr (P:=P) (w:=w) ho hb hvs;obtain⟨ad,hv⟩:=g.nils_inv;rw[hv]at hr
     have hb':ys.length*f.bytes<=140737488355328:=by rw[h3];omega
     obtain⟨v',w',hrun,hown,q1,q2,q3,q4,q5,q6,q7⟩:=zoT (ty:=o.type) hk h1 h4 hzs ad (h2 ▸ hsrc) e0 (by unfold maxLen;omega) hb';refine qH.value (v:=v') (w':=w') (by rw[hr,htys];simp only[builtin,Sem.run_bind,hrun,Result.andThen_ok,Sem.run_pure])<|k8.push (u:=v') (hm.grow (λ_ h=>h) hm.keys hκ hκM v' _ w' q1 q2 q3 q4 (λb hb _=>q5 b hb) (λk m v b g1 g2 g3=>q5 b (hm.old b ⟨k,m,v,g1,g2,g3⟩).1) ?_ ?_) (.own _ _ kB q7)
     ·intro b hb;obtain⟨q6,q8⟩:=q6;rw[hb]at q6;cases q6
      exact⟨.inr (Xh _),q8,λk m v1 g1 g2 g3=>by have:=(hm.old _ ⟨k,m,v1,g1,g2,g3⟩).1;omega⟩
     ·intro hs;refine⟨v',news,kB,by rw[← h2];exact hown,e2,hsrc.2.1,e4,λp q y s' hy hs'=>?_⟩;obtain⟨u,hu,hd⟩:=hsrc.2.2.1 p q y s' hy hs';exact⟨u,hu,hd.stp hs⟩
    ·obtain⟨α,enc,hra,e3,h⟩:=h;refine⟨_,_,h,λo ho Keep M ρ a w hlm hm _ _ hgs=>?_⟩;have hgs:=je hb hgs;obtain⟨v,vs',hvs,g,gr⟩:=hgs.cons_inv;obtain⟨vx,vs'',hvs',gx,gn⟩:=gr.cons_inv;subst hvs';have hn:=gn.nil_inv;subst hn;obtain⟨news,hl,_,_,hx⟩:=ud hra hlm hm gx e3 (λx hx=>by cases hx);obtain⟨cs,hr⟩:=kr (P:=P) (w:=w) ho hb hvs;obtain⟨ad,hv⟩:=g.nils_inv;rw[hv]at hr
     have hrun:(Builtin.append_ #[t,t] o.type #[.slice ad 0 0,vx]).run P w=.ok (.slice ad 0 0) w:=by
      rcases hx with⟨rfl,_⟩ | ⟨a',c',rfl,_⟩
      ·cases ad <;> simp[Builtin.append_,run_underlying hk,sizeOf,typeInfo,h1,Builtin.lenOf,Builtin.firstCells,storeCells]
      ·cases ad <;> simp[Builtin.append_,run_underlying hk,sizeOf,typeInfo,h1,Builtin.lenOf,Builtin.firstCells,storeCells,loadCells,loadCellsFrom]
     exact qH.value (v:=.slice ad 0 0) (w':=w) (by rw[hr,htys];simp only[builtin,Sem.run_bind,hrun,Result.andThen_ok,Sem.run_pure]) (k8.same hm (.d _ _ (.nils ad)))
    ·exact h.elim
   ·exact h.elim
  ·exact h.elim
 ·exact h.elim
theorem zlh(hT:TOK P Γ)(hb:c.callee=.builtin b)
  (hlive:Live lm svs) (h:zi4 Γ b c.argTypes.toList svs lm κ K):∃r md,K r md/\yK P (.call c) svs lm κ r md:=by
 obtain⟨Keep0,M0,ρ0,w0,vs0,hlm0,hm0,hg0⟩:=hlive;unfold zi4 at h
 split at h
 ·rename_i s
  split at h
  ·rename_i t htys;have htys:=zg7 htys;replace h:=zt h;obtain⟨i,hi,h⟩:=h;have hk:=(hT t i hi).kind
   split at h
   ·rename_i e hkind;rw[hkind]at hk;have hk:P.underlying t=some (.slice e):=hk;unfold zA4 at h
    split at h
    ·rename_i α enc xs;obtain⟨v0,vs0',rfl,g0,_⟩:=hg0.cons_inv;refine⟨_,_,h (zwk g0).1,.pure λo ho S Pm ρ a w hgs=>?_⟩;have hgs:=je hb hgs;obtain⟨v,vs',hvs,g,gr⟩:=hgs.cons_inv;obtain⟨_,ad,cap,hv,_⟩:=zwk g;obtain⟨cs,hr⟩:=kr (P:=P) (w:=w) ho hb hvs;refine⟨_,?_,(j9.val _).g⟩;rw[hr,gr.nil_inv,hv,htys];simp only[builtin,Sem.run_bind,zeg hk w ad _ cap,Result.andThen_ok,Sem.run_pure]
    ·rename_i k
     split at h
     ·rename_i T α enc sz xs hlk;obtain⟨v0,vs0',rfl,g0,_⟩:=hg0.cons_inv;refine⟨_,_,h (zsF hm0 (zA (hlm0 k _ hlk)) g0.own_inv.1).1,.read λo ho Keep M ρ a w hlm hm hgs=>?_⟩;have hgs:=je hb hgs;obtain⟨v,vs',hvs,g,gr⟩:=hgs.cons_inv;obtain⟨_,ad,cap,hv,_⟩:=zsF hm (hlm k _ hlk) g.own_inv.1;obtain⟨cs,hr⟩:=kr (P:=P) (w:=w) ho hb hvs;refine⟨_,?_,(j9.val _).g⟩;rw[hr,gr.nil_inv,hv,htys];simp only[builtin,Sem.run_bind,zeg hk w ad _ cap,Result.andThen_ok,Sem.run_pure]
     ·rename_i T sz xs hlk;obtain⟨v0,vs0',rfl,g0,_⟩:=hg0.cons_inv;refine⟨_,_,h (zoP hm0 (zA (hlm0 k _ hlk)) g0.own_inv.1).1,.read λo ho Keep M ρ a w hlm hm hgs=>?_⟩;have hgs:=je hb hgs;obtain⟨v,vs',hvs,g,gr⟩:=hgs.cons_inv;obtain⟨_,ad,cap,hv,_⟩:=zoP hm (hlm k _ hlk) g.own_inv.1;obtain⟨cs,hr⟩:=kr (P:=P) (w:=w) ho hb hvs;refine⟨_,?_,(j9.val _).g⟩;rw[hr,gr.nil_inv,hv,htys];simp only[builtin,Sem.run_bind,zeg hk w ad _ cap,Result.andThen_ok,Sem.run_pure]
     ·exact h.elim
    ·refine⟨_,_,h,.pure λo ho S Pm ρ a w hgs=>?_⟩;have hgs:=je hb hgs;obtain⟨v,vs',hvs,g,gr⟩:=hgs.cons_inv;obtain⟨cs,hr⟩:=kr (P:=P) (w:=w) ho hb hvs;refine⟨_,?_,(j9.val _).g⟩;rw[hr,gr.nil_inv,g.val_inv,htys];simp only[builtin,Sem.run_bind,zeg hk w none 0 0,Result.andThen_ok,Sem.run_pure];rfl
    ·refine⟨_,_,h,.pure λo ho S Pm ρ a w hgs=>?_⟩;have hgs:=je hb hgs;obtain⟨v,vs',hvs,g,gr⟩:=hgs.cons_inv;obtain⟨cs,hr⟩:=kr (P:=P) (w:=w) ho hb hvs;obtain⟨ad,hv⟩:=g.nils_inv;refine⟨_,?_,(j9.val _).g⟩;rw[hr,gr.nil_inv,hv,htys];simp only[builtin,Sem.run_bind,zeg hk w ad 0 0,Result.andThen_ok,Sem.run_pure];rfl
    ·rename_i k sz lo n;obtain⟨h0,h⟩:=h;refine⟨_,_,h,.pure λo ho S Pm ρ a w hgs=>?_⟩;have hgs:=je hb hgs;obtain⟨v,vs',hvs,g,gr⟩:=hgs.cons_inv;obtain⟨cs,hr⟩:=kr (P:=P) (w:=w) ho hb hvs;obtain⟨b,len,cap,cap',_,hv,_⟩:=g.win_inv;refine⟨_,?_,(j9.val _).g⟩;rw[hr,gr.nil_inv,hv,htys];simp only[builtin,Sem.run_bind,zeg hk w (some ⟨b,lo.toNat*sz,none⟩) n.toNat cap',Result.andThen_ok,Sem.run_pure];rw[Qs h0]
    ·exact h.elim
   ·exact h.elim
  ·exact h.elim
 ·rename_i s
  split at h
  ·rename_i t htys;have htys:=zg7 htys;replace h:=zt h;obtain⟨i,hi,h⟩:=h;have hk:=(hT t i hi).kind
   split at h
   ·rename_i e hkind;rw[hkind]at hk;have hk:P.underlying t=some (.slice e):=hk
    split at h
    ·refine⟨_,_,h,.pure λo ho S Pm ρ a w hgs=>?_⟩;have hgs:=je hb hgs;obtain⟨v,vs',hvs,g,gr⟩:=hgs.cons_inv;obtain⟨cs,hr⟩:=kr (P:=P) (w:=w) ho hb hvs;refine⟨_,?_,(j9.val _).g⟩;rw[hr,gr.nil_inv,g.val_inv,htys];simp only[builtin,Sem.run_bind,zsE hk w none 0 0,Result.andThen_ok,Sem.run_pure];rfl
    ·refine⟨_,_,h,.pure λo ho S Pm ρ a w hgs=>?_⟩;have hgs:=je hb hgs;obtain⟨v,vs',hvs,g,gr⟩:=hgs.cons_inv;obtain⟨cs,hr⟩:=kr (P:=P) (w:=w) ho hb hvs;obtain⟨ad,hv⟩:=g.nils_inv;refine⟨_,?_,(j9.val _).g⟩;rw[hr,gr.nil_inv,hv,htys];simp only[builtin,Sem.run_bind,zsE hk w ad 0 0,Result.andThen_ok,Sem.run_pure];rfl
    ·exact h.elim
   ·exact h.elim
  ·exact h.elim
 ·rename_i s _;obtain⟨k,x,r,hK,he⟩:=zg8 h;refine⟨_,_,hK,.pure λo ho S Pm ρ a w hgs=>?_⟩;have hgs:=je hb hgs;obtain⟨us,hvs,hl,hy⟩:=he hgs;obtain⟨cs,hr⟩:=kr (P:=P) (w:=w) ho hb hvs;refine⟨_,?_,(j9.val _).g⟩;rw[hr];simp only[builtin,Builtin.min_,Sem.run_bind,zoQ r us x hl hy,Result.andThen_ok,Sem.run_pure]
 ·rename_i s _;obtain⟨k,x,r,hK,he⟩:=zg8 h;refine⟨_,_,hK,.pure λo ho S Pm ρ a w hgs=>?_⟩;have hgs:=je hb hgs;obtain⟨us,hvs,hl,hy⟩:=he hgs;obtain⟨cs,hr⟩:=kr (P:=P) (w:=w) ho hb hvs;refine⟨_,?_,(j9.val _).g⟩;rw[hr];simp only[builtin,Builtin.max_,Sem.run_bind,zoR r us x hl hy,Result.andThen_ok,Sem.run_pure]
 ·rename_i s x
  split at h
  ·rename_i kx n;unfold zsx at h
   split at h
   ·rename_i t t' htys;have htys:=zef htys;replace h:=zt h;obtain⟨i,hi,h⟩:=h;replace h:=zt h;obtain⟨i',hi',h⟩:=h;have hk:=(hT t i hi).kind;have hk':=(hT t' i' hi').kind
    split at h
    ·rename_i e kn hkind hkind';rw[hkind]at hk;rw[hkind']at hk';have hk:P.underlying t=some (.slice e):=hk;have hk':P.underlying t'=some (.int kn):=hk';replace h:=zt h;obtain⟨j,hj,h⟩:=h;obtain⟨f,h1,h2,h3,z,h4,h5,h6,h7,h8⟩:=(hT e j hj).inf;have hzl:z.cells=j.zero.toArray:=by rw[← h5]
     have hzs:z.cells.size=f.size:=by rw[h2,← h7,← h5];simp
     obtain⟨α,enc,x0,hz,h⟩:=h;obtain⟨e0,e1,e2,e3⟩:=h.ob;refine⟨_,_,h.go,λo ho Keep M ρ a w hlm hm hκ hκM hgs=>?_⟩;replace hκ:=hκ _ (Xh _) (XX _);replace hκM:=hκM rfl;have hgs:=je hb hgs;obtain⟨v,vs',hvs,g,gr⟩:=hgs.cons_inv;obtain⟨vx,vs'',hvs',gx,gn⟩:=gr.cons_inv;subst hvs';have hn:=gn.nil_inv;subst hn;obtain⟨cs,hr⟩:=kr (P:=P) (w:=w) ho hb hvs;rw[g.val_inv,gx.val_inv]at hr;obtain⟨N,hN⟩:∃N:Nat,n=N:=⟨n.toNat,oM⟩;subst hN
     have hbytes:N*f.bytes<=140737488355328:=by rw[h3];exact JF.1 (by rw[XZ];exact e2)
     have hrun:=Lib.run_append_nil_zeros (P:=P) w t t' o.type e f z kx kn hk hk' h1 h4 N oM oM oM oM;refine qH.value (by rw[hr,htys];simp only[builtin,Sem.run_bind,hrun,Result.andThen_ok,Sem.run_pure];rfl) ?_;have hge:=grownCap_ge w N 0 e
     have hmg:∀q,(Builtin.zeroCells z.cells N).toList[q]? =if q < N*j.sz then j.zero[q % j.sz]? else none:=λq=>by
      have:=zfQ j.zero N q;rw[h7]at this;rw[← this,hzl];unfold madeCells Builtin.zeroCells;simp[h7]
     refine k8.push (u:=.slice (some ⟨w.heap.size,0,none⟩) N (grownCap w N 0 e)) (hm.grow (λ_ h=>h) hm.keys hκ hκM _ _ _ rfl rfl (.cells w.drew _ _) (by simp) (λb hb _=>heap_alloc_old w.drew _ b hb)
      (λk m v b g1 g2 g3=>heap_alloc_old w.drew _ b (hm.old b ⟨k,m,v,g1,g2,g3⟩).1) ?_ ?_) (.own _ _ kB rfl)
     ·intro b hb;have hb:b=w.heap.size:=by simp[qz]at hb;exact hb.symm
      subst hb;exact⟨.inr (Xh _),by simp,λk m v1 g1 g2 g3=>by have:=(hm.old _ ⟨k,m,v1,g1,g2,g3⟩).1;omega⟩
     ·intro hs
      refine⟨_,(Builtin.zeroCells z.cells N).toList,kB,⟨by rw[KR,size_zeroCells,hzs,h2,Kh,XW],.inr ⟨w.heap.size,grownCap w N 0 e,_,by rw[Kh,XW],Xe _,heap_alloc_new w.drew _,by simpa using hge,grownCap_le_maxLen w _ 0 e (by unfold maxLen;omega),?_,?_⟩⟩,by simp;omega,
       λu hu=>?_,λx hx=>by rw[KJ hx,hz];simp[vals,h7],λp q x s hx hs'=>?_⟩
      ·simp only[Je,size_zeroCells,hzs,h2,← XY];congr 1;omega
      ·simp only[QZ,Kh,XW];rw[KE (by simp[size_zeroCells,hzs,h2])];exact Xf (by simp[size_zeroCells,hzs,h2])
      ·obtain⟨q,hq,rfl⟩:=Jv.1 hu;have:=hmg q;rw[Xb hq]at this
       split at this
       ·exact h8 _ (Xd this.symm)
       ·cases this
      ·have hxm:=KJ (Xd hx);subst hxm;have hp:p < N:=by simpa using (Xc.1 hx).1
       have hqj:q < j.sz:=by
        have:=(Xc.1 hs').1;rw[hz]at this;simpa[vals,h7] using this
       have h9:p*j.sz+j.sz<=N*j.sz:=by
        have:=Xp j.sz (show p+1<=N by omega);rw[XU]at this;exact this
       have hmod:(p*j.sz+q) % j.sz=q:=by rw[Ks,Ql];exact Xu hqj
       rw[hmg,if_pos oM,hmod];rw[hz]at hs';simp only[vals,XC]at hs'
       cases hu:j.zero[q]? with
       | none=>simp[hu]at hs'
       | some u=>
        simp[hu]at hs';subst hs';exact⟨u,rfl,.val u⟩
    ·exact h.elim
   ·exact h.elim
  ·rename_i k'
   split at h
   ·rename_i hlk';exact zlg hT hb hlk' h
   ·exact zfR hT hb h
  ·exact zfR hT hb h
 ·rename_i d x
  split at h
  ·rename_i t t' htys;have htys:=zef htys;replace h:=zt h;obtain⟨i,hi,h⟩:=h;have hk:=(hT t i hi).kind
   split at h
   ·rename_i e hkind;rw[hkind]at hk;have hk:P.underlying t=some (.slice e):=hk;replace h:=zt h;obtain⟨j,hj,h⟩:=h;obtain⟨f,h1,h2,h3,z,h4,h5,h6,h7,h8⟩:=(hT e j hj).inf
    split at h
    ·rename_i k
     split at h
     ·rename_i T α enc sz xs hlk;replace h:=zi h;obtain⟨hss,h⟩:=h;have hss:=Xg hss;unfold zfM at h;obtain⟨ys,hra,h⟩:=h;obtain⟨e1,e2,e3,e4,e5⟩:=h.ob;refine⟨_,_,h.go,λo ho Keep M ρ a w hlm hm _ _ hgs=>?_⟩;have hmem:=zA (hlm k _ hlk);have hgs:=je hb hgs;obtain⟨v,vs',hvs,g,gr⟩:=hgs.cons_inv;obtain⟨vx,vs'',hvs',gx,gn⟩:=gr.cons_inv;subst hvs';have hn:=gn.nil_inv;subst hn;obtain⟨news,hsrc⟩:=ud hra hlm hm gx e1 e5;obtain⟨cs,hr⟩:=kr (P:=P) (w:=w) ho hb hvs;obtain⟨hv,_⟩:=g.own_inv
      obtain⟨v0,cells,hρ,hown,hnl,_⟩:=hm.rel k _ hmem;rw[hv]at hρ;cases hρ
      rcases hown.2 with⟨rfl,hx0⟩ | ⟨g',cap,cur,rfl,_⟩
      ·have hx0:xs=[]:=Xn hx0;subst hx0
       have hrun:(Builtin.copy_ #[t,t'] o.type #[.slice none 0 0,vx]).run P w=.ok (.int .i64 0) w:=by
        rcases hsrc.2.2.2 with⟨rfl,_⟩ | ⟨a',c',rfl,_⟩
        ·simp[Builtin.copy_,run_underlying hk,sizeOf,typeInfo,h1,Builtin.lenOf,Builtin.firstCells,goInt]
        ·simp[Builtin.copy_,run_underlying hk,sizeOf,typeInfo,h1,Builtin.lenOf,Builtin.firstCells,goInt,loadCells,loadCellsFrom]
       refine qH.value (v:=.int .i64 0) (w':=w) (by rw[hr,htys];simp only[builtin,Sem.run_bind,hrun,Result.andThen_ok,Sem.run_pure]) ?_;have hsame:=zlH (hlm k _ hlk);have e0:(Mem.arr T enc sz (List.take (Int.toNat 0) ([]:List α)++(List.take (Int.toNat (([]:List α).length:Int)) ys++List.drop (Int.toNat 0+min ys.length (Int.toNat (([]:List α).length:Int))) [])))=Mem.arr T enc sz []:=by simp
       rw[e0];refine⟨ρ,?_,?_,?_,λ_ _=>rfl⟩
       ·show Stp (Own M ρ) (Own (qM M k _) ρ) ρ ρ w w;rw[hsame];exact .refl
       ·show zO Keep (qM M k _) ρ w;rw[hsame];exact hm
       ·exact .d _ _ (by simpa using D.val (S:=λb=>Keep b∨Own (zck M κ (.set k (.arr T enc sz []))) ρ b) (w:=w) (.int .i64 0))
      ·exact zoV (t':=t') (cap':=cap) hk h1 hm hmem (h2.trans hss.symm) hv (lo:=0) (n:=xs.length) oM hsrc e5 (λv w' hx=>by
        rw[QS]at hx
        rw[hr,htys];simp only[builtin,Sem.run_bind,hx,Result.andThen_ok,Sem.run_pure])
     ·exact h.elim
    ·rename_i k sz' lo n
     split at h
     ·rename_i T α enc sz xs hlk;replace h:=zi h;obtain⟨hss,h⟩:=h;have hss:=Xg hss;replace h:=zi h;obtain⟨hss',h⟩:=h;have hss':=Xg hss';subst hss';unfold zfM at h;obtain⟨ys,hra,h⟩:=h;obtain⟨e1,e2,e3,e4,e5⟩:=h.ob;refine⟨_,_,h.go,λo ho Keep M ρ a w hlm hm _ _ hgs=>?_⟩;have hmem:=zA (hlm k _ hlk);have hgs:=je hb hgs;obtain⟨v,vs',hvs,g,gr⟩:=hgs.cons_inv;obtain⟨vx,vs'',hvs',gx,gn⟩:=gr.cons_inv;subst hvs';have hn:=gn.nil_inv;subst hn;obtain⟨news,hsrc⟩:=ud hra hlm hm gx e1 e5
      obtain⟨cs,hr⟩:=kr (P:=P) (w:=w) ho hb hvs;obtain⟨b,len,cap,cap',hρ,rfl,_,_⟩:=g.win_inv
      exact zoV (t':=t') (cap':=cap') hk h1 hm hmem (h2.trans hss.symm) hρ oM hsrc e5 (λv w' hx=>by
       rw[hr,htys];simp only[builtin,Sem.run_bind,hx,Result.andThen_ok,Sem.run_pure])
     ·exact h.elim
    ·exact h.elim
   ·exact h.elim
  ·exact h.elim
 ·rename_i d
  split at h
  ·rename_i t htys;have htys:=zg7 htys;replace h:=zt h;obtain⟨i,hi,h⟩:=h;have hk:=(hT t i hi).kind
   split at h
   ·rename_i e hkind;rw[hkind]at hk;have hk:P.underlying t=some (.slice e):=hk;replace h:=zt h;obtain⟨j,hj,h⟩:=h;obtain⟨f,h1,h2,h3,z,h4,h5,h6,h7,h8⟩:=(hT e j hj).inf
    split at h
    ·rename_i k sz' lo n
     split at h
     ·rename_i T α enc sz xs hlk;replace h:=zi h;obtain⟨hss,h⟩:=h;have hss:=Xg hss;replace h:=zi h;obtain⟨hss',h⟩:=h;have hss':=Xg hss';subst hss';obtain⟨x0,hx0,h⟩:=h;obtain⟨e1,e2,e3⟩:=h.ob;refine⟨_,_,h.go,λo ho Keep M ρ a w hlm hm _ _ hgs=>?_⟩;have hmem:=zA (hlm k _ hlk);have hgs:=je hb hgs;obtain⟨v,vs',hvs,g,gr⟩:=hgs.cons_inv;have hn:=gr.nil_inv;subst hn;obtain⟨cs,hr⟩:=kr (P:=P) (w:=w) ho hb hvs;obtain⟨b,len,cap,cap',hρ,rfl,_,_⟩:=g.win_inv
      exact zuk (cap':=cap') hk h4 h1 h5 (by rw[h7,h2]) h8 hm hmem (h2.trans hss.symm) oM hρ oM hx0 (λv w' hx=>by
       rw[hr,htys];simp only[builtin,Sem.run_bind,hx,Result.andThen_ok,Sem.run_pure])
     ·exact h.elim
    ·exact h.elim
   ·exact h.elim
  ·exact h.elim
 ·exact h.elim
end
section ziZ
variable {lm:Nat->Option Mem} {Keep:Nat->Prop} {M:List (Nat×Mem)} {ρ:zk} {w:World} {S':Nat->Prop}
section
theorem D.less{S:Nat->Prop}(h:∀b,S' b->S b){s:SV}{v:Value}(hd:D S w s v):D S' w s v:=hd.mono (Xh _) λb _ hb=>⟨λh'=>hb (h b h'),rfl⟩
theorem win_d {α:Type} {enc:α->List SV} {sz:Nat} {xs:List α} {b len cap cap' lo n:Nat} (hb:b < w.heap.size) (hS:¬S' b) (hesz:∀x∈xs,(enc x).length=sz)
  (hd:D S' w (.sl enc xs) (.slice (some ⟨b,0,none⟩) len cap)) (h1:lo+n<=len) (h2:n<=cap') (hlen:len=xs.length):
  D S' w (.sl enc ((xs.drop lo).take n)) (.slice (some ⟨b,lo*sz,none⟩) n cap'):=by
 have hl:((xs.drop lo).take n).length=n:=by simp;omega
 have hmem:∀x∈(xs.drop lo).take n,x∈xs:=λx hx=>Kq (XE hx)
 rcases hd.sl_inv with⟨rfl,_⟩ | ⟨sz',b',o,cp,c,e,_,_,h48,_,hsz',hc,he⟩
 ·have hn:n=0:=by simp at hlen;omega
  subst hn;have:=D.sl (S:=S') (w:=w) enc (([]:List α).drop lo |>.take 0) sz b (lo*sz) cap' (λ_ _=>undef) hb hS (by simp) (by simp) (by simp) (λi j hi=>by simp at hi) (λi j x s hx=>by simp at hx)
  simpa using this
 ·cases e
  have hix:∀i x,((xs.drop lo).take n)[i]? =some x->xs[lo+i]? =some x:=by
   intro i x hx;rw[Xv]at hx
   split at hx
   ·simpa using hx
   ·cases hx
  have hs:0 < n->sz'=sz:=λhp=>by
   have h1:=Xb (show lo < xs.length by omega);have h2:=Xd h1;rw[← hesz _ h2,← hsz' _ h2]
  have:=D.sl (S:=S') (w:=w) enc ((xs.drop lo).take n) sz b (lo*sz) cap' (λi j=>c (lo+i) j) hb hS oM oM (λx hx=>hesz x (hmem x hx)) (λi j hi hj=>by
   have hsz:=hs oM;have h5:=hc (lo+i) j oM oM;rw[XY,hsz,X6]at h5
   exact h5) (λi j x s hx hs'=>he (lo+i) j x s (hix i x hx) hs')
  rwa [hl]at this
theorem zsH (hlm:∀k m,lm k=some m->(k,m)∈M) (hm:zO Keep M ρ w) (hsub:∀b,S' b->Keep b∨Own M ρ b) {s:SV} {v:Value}
  (hg:G (λb=>Keep b∨Own M ρ b) (Own M ρ) ρ w s v) (hc:ym s=true∨∀b,Own M ρ b->¬S' b):D S' w (zsv lm s) v:=by
 unfold zsv
 split
 ·rename_i k;have he:∀b,Own M ρ b->¬S' b:=hc.resolve_left (by simp[ym])
  split
  ·rename_i T α enc sz xs hlk;exact zjb hm (hlm k _ hlk) hsub (λv b h1 h2=>he b ⟨k,_,v,hlm k _ hlk,h1,h2⟩) hg.own_inv.1
  ·exact .junk v
 ·rename_i f;obtain⟨vs,rfl,hvs⟩:=hg.fn_inv;rw[hvs.nil_inv];exact .val _
 ·split
  ·rename_i hf;exact(uH hf hg).less hsub
  ·exact .junk v
theorem zjd(cs:List SV)(j:Nat):(zcl lm cs)[j]? =(cs[j]?).map (zsv lm):=by
 induction cs generalizing j with
 | nil=>simp[zcl]
 | cons c cs ih=>cases j with
  | zero=>simp[zcl]
  | succ j=>simp[zcl,ih]
theorem zje(cs:List SV):(zcl lm cs).length=cs.length:=by
 induction cs with
 | nil=>rfl
 | cons c cs ih=>simp[zcl,ih]
variable{Pm':Nat->Prop}{ρ':zk}
theorem zne (hlm:∀k m,lm k=some m->(k,m)∈M) (hm:zO Keep M ρ w) (hsub:∀b,S' b->Keep b∨Own M ρ b) {s:SV} {v:Value}
  (hg:G (λb=>Keep b∨Own M ρ b) (Own M ρ) ρ w s v) (hc:zcm lm s=true∨∀b,Own M ρ b->¬S' b)(hP:∀b,¬Own M ρ b->¬Pm' b)
  (hP2:∀k off b,s=.loc k off->ρ k=some (.pointer (some ⟨b,0,none⟩))->¬Pm' b):G S' Pm' ρ' w (zhT lm s) v:=by
 unfold zhT
 split
 ·rename_i k off
  split
  ·rename_i T cs hlk;obtain⟨b,vs,hρ,hheap,hlen,hone,hcells⟩:=hm.rel k _ (hlm k _ hlk);obtain⟨b',hρ',rfl⟩:=hg.loc_inv;rw[hρ]at hρ';cases hρ'
   refine .ptr _ b off (λj=>(vs[off+j]?).getD undef) (hm.old b ⟨k,_,_,hlm k _ hlk,hρ,rfl⟩).1 (hP2 k off b rfl hρ) (λj hj=>?_) (λj s hs=>?_)
   ·have hlt:off+j < vs.length:=by simp[zje]at hj;omega
    rw[Xb hlt];exact⟨by rw[zfP hheap,Xb hlt];rfl,hone _ (KO hlt)⟩
   ·simp only[XV,zjd]at hs
    cases hcs:cs[off+j]? with
    | none=>simp[hcs]at hs
    | some c=>
     simp[hcs]at hs;subst hs;have hlt:off+j < vs.length:=by rw[hlen];exact(Xc.1 hcs).1
     rw[Xb hlt];refine zsH hlm hm hsub (hcells _ c _ hcs (Xb hlt)) (hc.imp (λh=>?_) id);simp only[zcm,hlk]at h;exact yT h _ c hcs
  ·exact .d _ _ (.junk v)
 ·rename_i k;have he:∀b,Own M ρ b->¬S' b:=hc.resolve_left (by simp[zcm,ym])
  split
  ·rename_i T α enc sz xs hlk;exact .d _ _ (zjb hm (hlm k _ hlk) hsub (λv b h1 h2=>he b ⟨k,_,v,hlm k _ hlk,h1,h2⟩) hg.own_inv.1)
  ·exact .d _ _ (.junk v)
 ·rename_i k sz lo n;have he:∀b,Own M ρ b->¬S' b:=hc.resolve_left (by simp[zcm,ym])
  split
  ·rename_i T α enc sz' xs hlk
   split
   ·rename_i hb;have:=Xg hb;subst this;obtain⟨b,len,cap,cap',hρ,rfl,h1,h2⟩:=hg.win_inv;have hd:=zjb hm (hlm k _ hlk) hsub (λv b h1 h2=>he b ⟨k,_,v,hlm k _ hlk,h1,h2⟩) hρ;have ho:Own M ρ b:=⟨k,_,_,hlm k _ hlk,hρ,rfl⟩;obtain⟨v',cells,hρ',hown,hlen,hone,hesz,hcells⟩:=hm.rel k _ (hlm k _ hlk);rw[hρ]at hρ';cases hρ'
    refine .d _ _ (win_d (hm.old b ho).1 (he b ho) hesz hd h1 h2 ?_)
    rcases hown.2 with⟨e,_⟩ | ⟨g,cap,cur,e,_⟩ <;> cases e
    rfl
   ·exact .d _ _ (.junk _)
  ·exact .d _ _ (.junk _)
 ·rename_i cs;obtain⟨vs,rfl,hvs⟩:=hg.agg_inv;refine .agg _ vs (by rw[zje];exact hvs.1) λj s v h1 h2=>?_
  rw[zjd]at h1
  cases hcs:cs[j]? with
  | none=>simp[hcs]at h1
  | some c=>
   simp[hcs]at h1;subst h1;exact .d _ _ (zsH hlm hm hsub (hvs.2 j c v hcs h2) (hc.imp (λh=>yT h j c hcs) id))
 ·rename_i cs;obtain⟨b,o,c,rfl,hb,hnp,h1,h2⟩:=hg.ptr_inv;exact .ptr cs b o c hb (hP b hnp) h1 λj s hs=>(h2 j s hs).less hsub
 ·rename_i f;obtain⟨vs,rfl,hvs⟩:=hg.fn_inv;rw[hvs.nil_inv];exact .fn f [] [] rfl λj s v h=>by simp at h
 ·split
  ·rename_i hf;exact .d _ _ ((uH hf hg).less hsub)
  ·exact .d _ _ (.junk v)
theorem zjf(hlm:∀k m,lm k=some m->(k,m)∈M)(hm:zO Keep M ρ w)(hsub:∀b,S' b->Keep b∨Own M ρ b){Pm':Nat->Prop}(hP:∀b,¬Own M ρ b->¬Pm' b){ρ':zk}:∀{cs:List SV} {vs:List Value},
  (∀k off b,.loc k off∈cs->ρ k=some (.pointer (some ⟨b,0,none⟩))->¬Pm' b)->Gs (λb=>Keep b∨Own M ρ b) (Own M ρ) ρ w cs vs->(zcn lm cs=true∨∀b,Own M ρ b->¬S' b)->Gs S' Pm' ρ' w (zmX lm cs) vs
 | [],vs,_,hg,_=>by rw[hg.nil_inv];exact .nil
 | c::cs,vs,hP2,hg,hc=>by
  obtain⟨v,vs',rfl,h1,h2⟩:=hg.cons_inv
  have key:(zcm lm c=true∨∀b,Own M ρ b->¬S' b)/\(zcn lm cs=true∨∀b,Own M ρ b->¬S' b):=by
   rcases hc with hc | hc
   ·simp only[zcn]at hc
    split at hc
    ·exact⟨.inl ‹_›,.inl hc⟩
    ·cases hc
   ·exact⟨.inr hc,.inr hc⟩
  exact .cons (zne hlm hm hsub h1 key.1 hP λk off b e=>hP2 k off b (e ▸ .head _)) (zjf hlm hm hsub hP (λk off b hk=>hP2 k off b (.tail _ hk)) h2 key.2)
theorem zjg (hlm:∀k m,lm k=some m->(k,m)∈M) (hm:zO Keep M ρ w) (hsub:∀b,S' b->Keep b∨Own M ρ b) {s:SV} {v:Value}
  (hg:G (λb=>Keep b∨Own M ρ b) (Own M ρ) ρ w s v) (hc:uB lm [s]=true∨∀b,Own M ρ b->¬S' b)(hP:∀b,¬Own M ρ b->¬Pm' b)
  (hP2:∀k off b,(s=.loc k off∨∃f cs,s=.fn f cs/\.loc k off∈cs)->ρ k=some (.pointer (some ⟨b,0,none⟩))->¬Pm' b):G S' Pm' ρ' w (ziZ lm s) v:=by
 unfold ziZ
 split
 ·rename_i f cs;obtain⟨vs,rfl,hvs⟩:=hg.fn_inv
  have h:=zjf (S':=S') (Pm':=Pm') (ρ':=ρ') hlm hm hsub hP (λk off b hk=>hP2 k off b (.inr ⟨_,_,rfl,hk⟩)) hvs (hc.imp (λh=>by
   simp only[uB]at h
   split at h
   ·assumption
   ·cases h) id)
  exact .fn f _ vs h.1 h.2
 ·rename_i hnf;refine zne hlm hm hsub hg (hc.imp (λh=>?_) id) hP (λk off b e=>hP2 k off b (.inl e));unfold uB at h
  split at h
  ·rename_i heq;cases heq
  ·rename_i heq;cases heq;exact absurd rfl (hnf _ _)
  ·rename_i heq
   cases heq
   split at h
   ·assumption
   ·cases h
theorem zjh{s:SV}{r:List SV}(h:uB lm (s::r)=true):uB lm [s]=true/\uB lm r=true:=by
 cases s <;> simp only[uB]at h ⊢ <;> (split at h <;> simp_all)
theorem zfS(hlm:∀k m,lm k=some m->(k,m)∈M)(hm:zO Keep M ρ w)(hsub:∀b,S' b->Keep b∨Own M ρ b){Pm':Nat->Prop}(hP:∀b,¬Pm' b){ρ':zk}:∀{cs:List SV} {vs:List Value},
  Gs (λb=>Keep b∨Own M ρ b) (Own M ρ) ρ w cs vs->(uB lm cs=true∨∀b,Own M ρ b->¬S' b)->Gs S' Pm' ρ' w (zc0 lm cs) vs
 | [],vs,hg,_=>by rw[hg.nil_inv];exact .nil
 | c::cs,vs,hg,hc=>by
  obtain⟨v,vs',rfl,h1,h2⟩:=hg.cons_inv
  have key:(uB lm [c]=true∨∀b,Own M ρ b->¬S' b)/\(uB lm cs=true∨∀b,Own M ρ b->¬S' b):=by
   rcases hc with hc | hc
   ·exact⟨.inl (zjh hc).1,.inl (zjh hc).2⟩
   ·exact⟨.inr hc,.inr hc⟩
  exact .cons (zjg hlm hm hsub h1 key.1 (λb _=>hP b) (λ_ _ b _ _=>hP b)) (zfS hlm hm hsub hP h2 key.2)
end
end ziZ
section
theorem u0{cs:List SV}(h:uF.scalars cs=true):∀(j:Nat) (s:SV),cs[j]? =some s->uF s=true:=by
 induction cs with
 | nil=>intro j s h1;simp at h1
 | cons c cs ih=>
  intro j s h1;simp only[uF.scalars]at h
  split at h
  ·rename_i hc
   cases j with
   | zero=>simp at h1;subst h1;exact hc
   | succ j=>exact ih h j s (by simpa using h1)
  ·cases h
theorem vP{S S' Pm:Nat->Prop}{ρ:zk}{w w':World}{s:SV}(hs:uF s=true){v:Value}(hg:G S Pm ρ w s v):D S' w' s v:=by
 have key:∀{s:SV} {v:Value},D S w s v->uF s=true->D S' w' s v:=by
  intro s v hd
  induction hd with
  | val v=>exact λ_=>.val v
  | pr p i=>exact λ_=>.pr p i
  | nils a=>exact λ_=>.nils a
  | anyb b=>exact λ_=>.anyb b
  | agg cs vs hl h ih=>exact λhs=>.agg cs vs hl λj s v h1 h2=>ih j s v h1 h2 (u0 hs j s h1)
  | ifc t s v h ih=>exact λhs=>.ifc t s v (ih hs)
  | _=>intro hs;simp[uF]at hs
 induction hg with
 | d _ _ h=>exact key h hs
 | agg cs vs hl h ih=>exact .agg cs vs hl λj s v h1 h2=>ih j s v h1 h2 (u0 hs j s h1)
 | ifc t s v h ih=>exact .ifc t s _ (ih hs)
 | _=>simp[uF]at hs
variable{S:Nat->Prop}{S':Nat->Prop}{Pm:Nat->Prop}{Pm':Nat->Prop}{ρ:zk}{ρ':zk}{w:World}{r:SV}
theorem ziD(hsub:∀b,S' b->S b)(hr:ziY r=true){v:Value}(hg:G S Pm ρ w r v):G S' Pm' ρ' w r v:=by
 unfold ziY at hr
 split at hr
 ·obtain⟨vs,rfl,hvs⟩:=hg.tup_inv;exact .tup _ vs hvs.1 λj s v h1 h2=>.d _ _ ((uH (yT hr j s h1) (hvs.2 j s v h1 h2)).less hsub)
 ·exact .d _ _ ((uH hr hg).less hsub)
theorem zul{w':World}(hr:zix r=true){v:Value}(hg:G S Pm ρ w r v):G S' Pm' ρ' w' r v:=by
 unfold zix at hr
 split at hr
 ·obtain⟨vs,rfl,hvs⟩:=hg.tup_inv;exact .tup _ vs hvs.1 λj s v h1 h2=>.d _ _ (vP (u0 hr j s h1) (hvs.2 j s v h1 h2))
 ·exact .d _ _ (vP hr hg)
theorem zfT {P:Program} {o:Oper} {c:Call} {fx:Operand} (ho:o.op=.call c) (hc:c.callee=.value fx) {a:Act} {w:World} {f:FuncId} {fs caps vs:List Value}
  (hf:a.eval fx=.func (.func f) fs.toArray caps.toArray) (hv:c.args.toList.map a.eval=vs) (hcall:zbP P f):(execOp a.eval o).run P w=.ok (.enter f (fs++(vs++caps)).toArray) w:=by
 obtain⟨fn,h1,h2,h3⟩:=hcall;have h:c.args.map a.eval=vs.toArray:=by apply QA;simp[hv]
 simp only[execOp,ho,resolve,hc,hf,h,Deferred.ofValue,invoke,callFunc,Sem.run_bind,Sem.run_pure,Result.andThen_ok,run_program,h1,h2,h3,KA,if_false];simp
theorem z0{b:Nat}:¬Own [] ρ b:=λ⟨_,_,_,h,_⟩=>by cases h
theorem jj(h:∀b,S b->b < w.heap.size)(hg:∀g v,GL g v->w.cell? ⟨g,0,none⟩=some v):zO S [] ρ w:=
 ⟨λ_ _ h=>(by cases h),List.Pairwise.nil,λ_ _ _ _ _ _ _ h=>(by cases h),λ_ h=>absurd h z0,h,λg v k=>⟨z0,hg g v k⟩⟩
end
end Go.Gs
