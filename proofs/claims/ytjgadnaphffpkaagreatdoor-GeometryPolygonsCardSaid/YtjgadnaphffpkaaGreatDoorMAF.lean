/- The builtins len, min, max and append. -/
import Derived.Test.YtjgadnaphffpkaaGreatDoorMA
import Derived.Test.YtjgadnaphffpkaaGreatDoorMAE
import Derived.Lib.AppendZeros
import Derived.Laws.CopyRow
set_option maxRecDepth 100000
set_option maxHeartbeats 8000000
set_option linter.all false
namespace Go.Gs
def Live(lm:Nat->Option Mem)(svs:List SV):Prop:=∃(Keep:Nat->Prop) (M:List (Nat×Mem)) (ρ:zj) (w:World) (vs:List Value),
 (∀k m,lm k=some m->zY M k=some m)/\zN Keep M ρ w/\Gs (λb=>Keep b∨Own M ρ b) (Own M ρ) ρ w svs vs
theorem kq{P:Program}{o:Oper}{c:Call}{b:Builtin}(ho:o.op=.call c)(hb:c.callee=.builtin b){a:Act}{w:World}{vs:List Value}(hv:c.args.toList.map a.eval=vs):
  ∃cs,(execOp a.eval o).run P w=(builtin b c.argTypes o.type cs vs.toArray).run P w:=by
 have h:c.args.map a.eval=vs.toArray:=by apply Qv;simp[hv]
 have h2:∃cs,(do let d ← resolve a.eval c o.type;invoke d.target d.args:Sem Next)=builtin b c.argTypes o.type cs (c.args.map a.eval):=by
  unfold resolve;rw[hb];exact⟨_,rfl⟩
 obtain⟨cs,h2⟩:=h2;refine⟨cs,?_⟩;simp only[execOp,ho];rw[h2,h]
variable{c:Call}{b:Builtin}{S:Nat->Prop}{Pm:Nat->Prop}{ρ:zj}{w:World}{svs:List SV}
theorem qY(hb:c.callee=.builtin b){a:Act}(h:Gs S Pm ρ w svs ((qe (.call c)).map a.eval)):
  Gs S Pm ρ w svs (c.args.toList.map a.eval):=by simpa[qe,hb,zch] using h
variable{tys:Array TypeId}
theorem zgV{t:TypeId}(h:tys.toList=[t]):tys=#[t]:=by apply Qv;simpa using h
theorem zd3{t u:TypeId}(h:tys.toList=[t,u]):tys=#[t,u]:=by apply Qv;simpa using h
variable{P:Program}{e:TypeId}{ty:TypeId}
theorem zd4{t:TypeId}(ht:P.underlying t=some (.slice e))(w:World)(a:Option Addr)(n c:Nat):(Builtin.len_ #[t] ty #[.slice a n c]).run P w=.ok (.int .i64 n) w:=by
 simp[Builtin.len_,run_underlying ht,goInt]
theorem zrT{t:TypeId}(ht:P.underlying t=some (.slice e))(w:World)(a:Option Addr)(n c:Nat):(Builtin.cap_ #[t] ty #[.slice a n c]).run P w=.ok (.int .i64 c) w:=by
 simp[Builtin.cap_,run_underlying ht,goInt]
variable{α:Type}{xs:List α}
theorem zvm{enc:α->List SV}{v:Value}(h:G S Pm ρ w (.sl enc xs) v):
  xs.length<=9223372036854775807/\∃a cap,v=.slice a xs.length cap/\xs.length<=cap:=by
 rcases h.sl_inv.sl_inv with⟨rfl,a,rfl⟩ | ⟨_,b,o,cap,_,rfl,_,_,h1,h2,_⟩
 ·exact⟨by simp,a,0,rfl,by simp⟩
 ·exact⟨h1,_,cap,rfl,h2⟩
variable{Keep:Nat->Prop}{M:List (Nat×Mem)}{sz:Nat}
theorem zrU(hm:zN Keep M ρ w) {k:Nat} {T:TypeId}{enc:α->List SV}
  (hk:(k,Mem.arr T enc sz xs)∈M) {v:Value} (hv:ρ k=some v):xs.length<=281474976710656/\∃a cap,v=.slice a xs.length cap/\xs.length<=cap:=by
 obtain⟨v',cells,hρ,hown,hlen,_⟩:=hm.rel k _ hk;rw[hv]at hρ;cases hρ
 rcases hown.2 with⟨rfl,h0⟩ | ⟨g,cap,cur,rfl,_,_,hnc,_⟩
 ·have h0:xs.length=0:=h0;exact⟨hlen,none,0,by rw[h0],oM⟩
 ·exact⟨hlen,_,cap,rfl,hnc⟩
theorem zoh(hm:zN Keep M ρ w) {k:Nat} {T:TypeId}{xs:List (List SV)}
  (hk:(k,Mem.garr T sz xs)∈M) {v:Value} (hv:ρ k=some v):xs.length<=281474976710656/\∃a cap,v=.slice a xs.length cap/\xs.length<=cap:=by
 obtain⟨v',cells,hρ,hown,hlen,_⟩:=hm.rel k _ hk;rw[hv]at hρ;cases hρ
 rcases hown.2 with⟨rfl,h0⟩ | ⟨g,cap,cur,rfl,_,_,hnc,_⟩
 ·have h0:xs.length=0:=h0;exact⟨hlen,none,0,by rw[h0],oM⟩
 ·exact⟨hlen,_,cap,rfl,hnc⟩
theorem zgW:∀{s:List SV} {K:IntKind->List Int->Prop},ztn s K->∃(k:IntKind) (x:Int) (r:List Int),K k (x::r)/\
  ∀{S Pm:Nat->Prop} {ρ:zj} {w:World} {vs:List Value},Gs S Pm ρ w s vs->∃us:List Value,vs=.int k x::us/\us.length=r.length/\∀(j:Nat) (y:Int),r[j]? =some y->∃k',us[j]? =some (.int k' y)
 | [],K,h=>by simp[ztn]at h
 | s::r,K,h=>by
  unfold ztn at h
  split at h
  ·rename_i k m r' heq
   cases heq
   split at h
   ·refine⟨k,m,[],h,λhg=>?_⟩;obtain⟨v,vs',rfl,h1,h2⟩:=hg.cons_inv;exact⟨[],by rw[h1.val_inv,h2.nil_inv],rfl,λj y hy=>by simp at hy⟩
   ·obtain⟨k2,x2,r2,hK,hg2⟩:=zgW h;refine⟨k,m,x2::r2,hK,λhg=>?_⟩;obtain⟨v,vs',rfl,h1,h2⟩:=hg.cons_inv;obtain⟨us,rfl,hl,hy⟩:=hg2 h2;refine⟨.int k2 x2::us,by rw[h1.val_inv],by simp[hl],λj y hj=>?_⟩
    cases j with
    | zero=>simp at hj;subst hj;exact⟨k2,rfl⟩
    | succ j=>simpa using hy j y (by simpa using hj)
  ·exact h.elim
theorem zoi{P:Program}{w:World}{k:IntKind}:∀(r:List Int) (us:List Value) (x:Int),us.length=r.length->(∀(j:Nat) (y:Int),r[j]? =some y->∃k',us[j]? =some (.int k' y))->
  (us.foldlM Builtin.min2 (.int k x)).run P w=.ok (.int k (zbA x r)) w
 | [],us,x,hl,_=>by
  have:us=[]:=Xn hl;subst this;simp[zbA]
 | y::r,us,x,hl,hy=>by
  cases us with
  | nil=>simp at hl
  | cons u us=>
   obtain⟨k',hu⟩:=hy 0 y rfl;simp at hu;subst hu;have hmin:(if y < x then y else x)=min x y:=oM;simp only[List.foldlM_cons,Builtin.min2,Sem.run_bind,Sem.run_pure,Result.andThen_ok,hmin,zbA];exact zoi r us (min x y) (by simpa using hl) (λj z hz=>by simpa using hy (j+1) z (by simpa using hz))
theorem zoj{P:Program}{w:World}{k:IntKind}:∀(r:List Int) (us:List Value) (x:Int),us.length=r.length->(∀(j:Nat) (y:Int),r[j]? =some y->∃k',us[j]? =some (.int k' y))->
  (us.foldlM Builtin.max2 (.int k x)).run P w=.ok (.int k (zcX x r)) w
 | [],us,x,hl,_=>by
  have:us=[]:=Xn hl;subst this;simp[zcX]
 | y::r,us,x,hl,hy=>by
  cases us with
  | nil=>simp at hl
  | cons u us=>
   obtain⟨k',hu⟩:=hy 0 y rfl;simp at hu;subst hu;have hmax:(if y > x then y else x)=max x y:=oM;simp only[List.foldlM_cons,Builtin.max2,Sem.run_bind,Sem.run_pure,Result.andThen_ok,hmax,zcX];exact zoj r us (max x y) (by simpa using hl) (λj z hz=>by simpa using hy (j+1) z (by simpa using hz))
def Src(S:Nat->Prop)(w:World)(enc:α->List SV)(sz:Nat)(ys:List α)(v:Value)(news:List Value):Prop:=
 news.length=ys.length*sz/\(∀u∈news,u.oneCell'=true)/\
 (∀(i j:Nat) y (s:SV),ys[i]? =some y->(enc y)[j]? =some s->∃u,news[i*sz+j]? =some u/\D S w s u)/\
 ((v=.slice none 0 0/\ys=[])∨∃a c,v=.slice (some a) ys.length c/\∀(j:Nat) (u:Value),news[j]? =some u->w.cell? (a.add j)=some u)
variable{ys:List α}
theorem zok{enc:α->List SV}{v:Value}(hd:D S w (.sl enc ys) v)(h0:0 < sz)(hsz:∀x∈ys,(enc x).length=sz):
  ∃news,Src S w enc sz ys v news:=by
 rcases hd.sl_inv with⟨rfl,a,rfl⟩ | ⟨sz',b,o,cap,c,rfl,hb,hS,hlen,hcap,hesz,hc,he⟩
 ·cases a with
  | none=>exact⟨[],by simp,by simp,λi j y s h=>by simp at h,.inl ⟨rfl,rfl⟩⟩
  | some a=>exact⟨[],by simp,by simp,λi j y s h=>by simp at h,.inr ⟨a,0,rfl,λj u hu=>by simp at hu⟩⟩
 ·have hs:ys≠[]->sz'=sz:=λhne=>by
   obtain⟨x,hx⟩:=JF ys hne;rw[← hesz x hx,← hsz x hx]
  have hq:∀q,q < ys.length*sz->q / sz < ys.length/\q % sz < sz/\sz'=sz/\q / sz*sz+q % sz=q:=λq hq=>by
   have h1:q / sz < ys.length:=(XQ h0).2 hq;refine⟨h1,Kl _ h0,hs (λe=>by rw[e]at h1;simp at h1),?_⟩;rw[Ks];exact X3 q sz
  refine⟨(List.range (ys.length*sz)).map λq=>c (q / sz) (q % sz),by simp,?_,?_,.inr ⟨_,cap,rfl,?_⟩⟩
  ·intro u hu;obtain⟨q,hq',rfl⟩:=XY.1 hu;obtain⟨h1,h2,h3,_⟩:=hq q (Kh.1 hq');exact(hc _ _ h1 (h3 ▸ h2)).2
  ·intro i j y s hy hs';have hi:i < ys.length:=(Xc.1 hy).1
   have hj:j < sz:=by
    have:=(Xc.1 hs').1;rw[hsz y (Xd hy)]at this;exact this
   have hlt:i*sz+j < ys.length*sz:=by
    have:=Xp sz (XS hi);rw[XT]at this;omega
   have e1:(i*sz+j) / sz=i:=by rw[Ks,Qj h0];simp[Kd hj]
   have e2:(i*sz+j) % sz=j:=by rw[Ks,Qk];exact Xu hj
   refine⟨c i j,by simp[hlt,e1,e2],he i j y s hy hs'⟩
  ·intro q u hu;have hq':q < ys.length*sz:=by have:=(Xc.1 hu).1;simpa using this
   obtain⟨h1,h2,h3,h4⟩:=hq q hq';simp[hq']at hu;subst hu;subst h3;rw[yd];have:=(hc _ _ h1 h2).1;rw[KJ,h4]at this;exact this
variable{lm:Nat->Option Mem}
theorem ua{s:SV}{enc:α->List SV}(h:zcg lm s enc ys)
  (hlm:∀k m,lm k=some m->zY M k=some m) (hm:zN Keep M ρ w) {v:Value} (hg:G (λb=>Keep b∨Own M ρ b) (Own M ρ) ρ w s v)(h0:0 < sz)
  (hsz:∀x∈ys,(enc x).length=sz):∃news,Src (λb=>Keep b∨Own M ρ b) w enc sz ys v news:=by
 unfold zcg at h
 split at h
 ·subst h;rw[hg.val_inv];exact⟨[],by simp,by simp,λi j y s h=>by simp at h,.inl ⟨rfl,rfl⟩⟩
 ·rename_i k;simp only[zhF]at h
  split at h
  ·rename_i T β enc' sz' xs hlk
   cases h
   obtain⟨hv,_⟩:=hg.own_inv;obtain⟨v',cells,hρ,hown,hlen,hone,hesz,hcells⟩:=hm.rel k _ (zA (hlm k _ hlk));rw[hv]at hρ;cases hρ
   rcases hown.2 with⟨rfl,he⟩ | ⟨g,cap,cur,rfl,_,hheap,hnc,hcm,hcs,htake⟩
   ·have:ys=[]:=Xn he;subst this;exact⟨[],by simp,by simp,λi j y s h=>by simp at h,.inl ⟨rfl,rfl⟩⟩
   ·by_cases hne:ys=[]
    ·subst hne;exact⟨[],by simp,by simp,λi j y s h=>by simp at h,.inr ⟨_,cap,rfl,λj u hu=>by simp at hu⟩⟩
    ·obtain⟨x,hx⟩:=JF ys hne;have:sz'=sz:=by rw[← hesz x hx,← hsz x hx]
     subst this;exact⟨cells,hown.1,hone,hcells,.inr ⟨_,cap,rfl,λj u hu=>by rw[yd,X6];exact zbL hheap htake hu⟩⟩
  ·cases h
 ·subst h;exact zok hg.sl_inv h0 hsz
theorem zaP {P:Program} {t ty e:TypeId} {f:TypeInfo} {z:Value} (ht:P.underlying t=some (.slice e)) (hi:P.info? e=some f) (hz:f.zero=some z) (hzs:z.cells.size=f.size)
  {w:World} {v:Value} {n:Nat} {cells:List Value} (hown:w.ownsRow 0 e f.size v n cells) {S:Nat->Prop} {α:Type} {enc:α->List SV} {ys:List α} {vx:Value} {news:List Value}
  (hs:Src S w enc f.size ys vx news) (h63:n+ys.length<=maxLen) (hbytes:(n+ys.length)*f.bytes<=140737488355328):
  ∃v' w',(Builtin.append_ #[t,t] ty #[v,vx]).run P w=.ok v' w'/\w'.ownsRow 0 e f.size v' (n+ys.length) (cells++news)/\w'.os=w.os/\w'.tape=w.tape/\qb w w'/\w.heap.size<=w'.heap.size/\
   (∀b,b < w.heap.size->qu v≠some b->w'.heap[b]? =w.heap[b]?)/\(qu v'=qu v∨(qu v'=some w.heap.size/\w.heap.size < w'.heap.size))/\v'.oneCell'=true:=by
 obtain⟨hl,hone,_,hv⟩:=hs;have h63':(n+ys.length:Int)<=9223372036854775807:=by unfold maxLen at h63;omega
 have made:∀(old:Nat),old < n+ys.length->(w.drew.alloc (.cells (cells.toArray++news.toArray++Builtin.zeroCells z.cells (grownCap w (n+ys.length) old e - (n+ys.length))) e)).ownsRow 0 e f.size
    (.slice (some ⟨w.heap.size,0,none⟩) (n+ys.length) (grownCap w (n+ys.length) old e)) (n+ys.length) (cells++news):=by
  intro old _;have hge:=grownCap_ge w (n+ys.length) old e;have hcl:=hown.1;refine⟨by rw[Xi,hcl,hl,XW],.inr ⟨w.heap.size,_,_,rfl,Xe _,heap_alloc_new w.drew _,hge,grownCap_le_maxLen w _ old e h63,?_,?_⟩⟩
  ·simp only[QZ,Ky,size_zeroCells,hzs,hcl,hl,← XW];congr 1;omega
  ·simp only[QN];rw[KB (by simp[hcl,hl,XW])];exact Xg (by simp[hcl,hl,XW])
 rcases hv with⟨rfl,rfl⟩ | ⟨a,c,rfl,hcells⟩
 ·have hn:news=[]:=Xn (by simpa using hl);subst hn
  rcases hown.2 with⟨rfl,h0⟩ | ⟨g,cap,cur,rfl,_,hheap,hnc,hcm,hcs,htake⟩
  ·refine⟨.slice none 0 0,w,?_,?_,rfl,rfl,.refl _,Xh _,λ_ _ _=>rfl,.inl rfl,rfl⟩
   ·simp[Builtin.append_,run_underlying ht,sizeOf,typeInfo,hi,Builtin.lenOf,Builtin.firstCells]
   ·subst h0;have hc0:cells=[]:=Xn (by simpa using hown.1);subst hc0;exact World.ownsRow_nil w 0 e f.size
  ·refine⟨.slice (some ⟨g,0,none⟩) n cap,w,?_,?_,rfl,rfl,.refl _,Xh _,λ_ _ _=>rfl,.inl rfl,rfl⟩
   ·simp[Builtin.append_,run_underlying ht,sizeOf,typeInfo,hi,Builtin.lenOf,Builtin.firstCells,hnc,storeCells]
   ·simpa using hown
 ·rcases hown.2 with⟨rfl,rfl⟩ | ⟨g,cap,cur,rfl,_,hheap,hnc,hcm,hcs,htake⟩
  ·have hc0:cells=[]:=Xn (by simpa using hown.1);subst hc0
   by_cases hy:ys.length=0
   ·have hn:news=[]:=Xn (by simpa[hy] using hl);subst hn;refine⟨.slice none 0 0,w,?_,?_,rfl,rfl,.refl _,Xh _,λ_ _ _=>rfl,.inl rfl,rfl⟩
    ·simp[Builtin.append_,run_underlying ht,sizeOf,typeInfo,hi,Builtin.lenOf,Builtin.firstCells,hy,loadCells,loadCellsFrom]
    ·rw[hy];exact World.ownsRow_nil w 0 e f.size
   ·have hr:=run_append_nil (P:=P) w t ty e f z ht hi hz a ys.length c news hl hcells oM (by simpa using h63') (by have hb:=hbytes;simp only[X6]at hb;omega);have hgr:=made 0 oM;simp only[X6,Qi,Array.empty_append]at hgr ⊢;exact⟨_,_,hr,hgr,rfl,rfl,.cells w.drew _ _,by simp,λb hb _=>heap_alloc_old w.drew _ b hb,.inr ⟨rfl,by simp⟩,rfl⟩
  ·have hcl:=hown.1
   by_cases hroom:n+ys.length<=cap
   ·have hfit:n*f.size+news.length<=cur.size:=by rw[hl,hcs,← XW];exact Xp _ hroom
    have hr:=run_append_room (P:=P) w t ty e f ht hi g n cap cur hheap a ys.length c news hl hcells hone hroom hfit
    refine⟨_,_,hr,⟨by rw[Xi,hcl,hl,XW],.inr ⟨g,cap,_,rfl,Xe _,setRow_heap w g cur _ e _ hheap,hroom,hcm,?_,?_⟩⟩,rfl,rfl,.setRow _ _ _,by simp,
     λb _ hne=>setRow_other w g b _ (λe=>hne (by simp[qu,e])),.inl rfl,rfl⟩
    ·simp only[Ky,Xi,Xk,XO,KO];omega
    ·rw[htake,XW,← hl,← hcl];rw[KB (by simp)];exact Xg (by simp)
   ·have holds:∀(j:Nat) (u:Value),cells[j]? =some u->w.cell? ((⟨g,0,none⟩:Addr).add j)=some u:=λj u hu=>by rw[yd,X6];exact zbL hheap htake hu
    have hr:=run_append_grow (P:=P) w t ty e f z ht hi hz ⟨g,0,none⟩ n cap cells hcl holds a ys.length c news hl hcells oM (by push_cast;exact h63') (growslice_fits oM hbytes);exact⟨_,_,hr,made cap oM,rfl,rfl,.cells w.drew _ _,by simp,λb hb _=>heap_alloc_old w.drew _ b hb,.inr ⟨rfl,by simp⟩,rfl⟩
theorem zol {P:Program} {t ty e:TypeId} {f:TypeInfo} {z:Value} (ht:P.underlying t=some (.slice e)) (hi:P.info? e=some f) (hz:f.zero=some z) (hzs:z.cells.size=f.size)
  {w:World} (ad:Option Addr) {S:Nat->Prop} {α:Type} {enc:α->List SV} {ys:List α} {vx:Value} {news:List Value}
  (hs:Src S w enc f.size ys vx news) (hne:ys≠[]) (h63:ys.length<=maxLen) (hbytes:ys.length*f.bytes<=140737488355328):
  ∃v' w',(Builtin.append_ #[t,t] ty #[.slice ad 0 0,vx]).run P w=.ok v' w'/\w'.ownsRow 0 e f.size v' ys.length news/\w'.os=w.os/\w'.tape=w.tape/\qb w w'/\w.heap.size<=w'.heap.size/\
   (∀b,b < w.heap.size->w'.heap[b]? =w.heap[b]?)/\(qu v'=some w.heap.size/\w.heap.size < w'.heap.size)/\v'.oneCell'=true:=by
 obtain⟨hl,hone,_,hv⟩:=hs;have h63':(ys.length:Int)<=9223372036854775807:=by unfold maxLen at h63;omega
 have hpos:0 < ys.length:=Jr.2 hne
 have made:(w.drew.alloc (.cells (news.toArray++Builtin.zeroCells z.cells (grownCap w ys.length 0 e - ys.length)) e)).ownsRow 0 e f.size
    (.slice (some ⟨w.heap.size,0,none⟩) ys.length (grownCap w ys.length 0 e)) ys.length news:=by
  have hge:=grownCap_ge w ys.length 0 e;refine⟨hl,.inr ⟨w.heap.size,_,_,rfl,Xe _,heap_alloc_new w.drew _,hge,grownCap_le_maxLen w _ 0 e h63,?_,?_⟩⟩
  ·simp only[QZ,Ky,size_zeroCells,hzs,hl,← XW];congr 1;omega
  ·simp only[QN];rw[KB (by simp[hl])];exact Xg (by simp[hl])
 rcases hv with⟨_,rfl⟩ | ⟨a,c,rfl,hcells⟩
 ·exact absurd rfl hne
 ·cases ad with
  | none=>
   have hr:=run_append_nil (P:=P) w t ty e f z ht hi hz a ys.length c news hl hcells oM h63' oM;exact⟨_,_,hr,made,rfl,rfl,.cells w.drew _ _,by simp,λb hb=>heap_alloc_old w.drew _ b hb,⟨rfl,by simp⟩,rfl⟩
  | some g=>
   have hr:=run_append_grow (P:=P) w t ty e f z ht hi hz g 0 0 [] (by simp) (λj u hu=>by simp at hu) a ys.length c news hl hcells oM (by simpa using h63') (growslice_fits oM (by simpa using hbytes));simp only[X6,Array.empty_append]at hr;exact⟨_,_,hr,made,rfl,rfl,.cells w.drew _ _,by simp,λb hb=>heap_alloc_old w.drew _ b hb,⟨rfl,by simp⟩,rfl⟩
theorem zom {P:Program} {t ty e:TypeId} {f:TypeInfo} {z:Value} (ht:P.underlying t=some (.slice e)) (hi:P.info? e=some f) (hz:f.zero=some z) (hzs:z.cells.size=f.size)
  {w:World} (ad:Option Addr) {S:Nat->Prop} {α:Type} {enc:α->List SV} {xs ys:List α} {vx:Value} {olds news:List Value}
  (ho:Src S w enc f.size xs (.slice ad xs.length xs.length) olds) (hs:Src S w enc f.size ys vx news) (hne:ys≠[]) (h63:xs.length+ys.length<=maxLen) (hbytes:(xs.length+ys.length)*f.bytes<=140737488355328):
  ∃v' w',(Builtin.append_ #[t,t] ty #[.slice ad xs.length xs.length,vx]).run P w=.ok v' w'/\w'.ownsRow 0 e f.size v' (xs.length+ys.length) (olds++news)/\w'.os=w.os/\w'.tape=w.tape/\qb w w'/\w.heap.size<=w'.heap.size/\
   (∀b,b < w.heap.size->w'.heap[b]? =w.heap[b]?)/\(qu v'=some w.heap.size/\w.heap.size < w'.heap.size)/\v'.oneCell'=true:=by
 obtain⟨hl,hone,_,hv⟩:=hs;obtain⟨hol,_,_,hov⟩:=ho;have h63':(xs.length+ys.length:Int)<=9223372036854775807:=by unfold maxLen at h63;omega
 have hpos:0 < ys.length:=Jr.2 hne
 have made:∀old:Nat,(w.drew.alloc (.cells (olds.toArray++news.toArray++Builtin.zeroCells z.cells (grownCap w (xs.length+ys.length) old e - (xs.length+ys.length))) e)).ownsRow 0 e f.size
    (.slice (some ⟨w.heap.size,0,none⟩) (xs.length+ys.length) (grownCap w (xs.length+ys.length) old e)) (xs.length+ys.length) (olds++news):=by
  intro old;have hge:=grownCap_ge w (xs.length+ys.length) old e;refine⟨by rw[Xi,hol,hl,XW],.inr ⟨w.heap.size,_,_,rfl,Xe _,heap_alloc_new w.drew _,hge,grownCap_le_maxLen w _ old e h63,?_,?_⟩⟩
  ·simp only[QZ,Ky,size_zeroCells,hzs,hol,hl,← XW];congr 1;omega
  ·simp only[QN];rw[KB (by simp[hol,hl,XW])];exact Xg (by simp[hol,hl,XW])
 rcases hv with⟨_,rfl⟩ | ⟨a,c,rfl,hcells⟩
 ·exact absurd rfl hne
 ·cases ad with
  | none=>
   have hx0:xs=[]:=by
    rcases hov with⟨_,h⟩ | ⟨_,_,h,_⟩
    ·exact h
    ·cases h
   subst hx0;have ho0:olds=[]:=Xn (by simpa using hol);subst ho0;have hr:=run_append_nil (P:=P) w t ty e f z ht hi hz a ys.length c news hl hcells oM (by simpa using h63') (by simp only[Xs,X6]at hbytes;omega);have:=made 0;simp only[Xs,X6,Qi]at this;refine⟨_,_,hr,?_,rfl,rfl,.cells w.drew _ _,by simp,λb hb=>heap_alloc_old w.drew _ b hb,⟨rfl,by simp⟩,rfl⟩
   simpa using this
  | some g=>
   have hcell:∀(j:Nat) (u:Value),olds[j]? =some u->w.cell? (g.add j)=some u:=by
    rcases hov with⟨h,_⟩ | ⟨a',c',h,hc⟩
    ·cases h
    ·cases h;exact hc
   have hr:=run_append_grow (P:=P) w t ty e f z ht hi hz g xs.length xs.length olds (by simp[hol]) hcell a ys.length c news hl hcells oM (by simpa using h63') (growslice_fits oM (by simpa using hbytes));exact⟨_,_,hr,made _,rfl,rfl,.cells w.drew _ _,by simp,λb hb=>heap_alloc_old w.drew _ b hb,⟨rfl,by simp⟩,rfl⟩
theorem zvn {P:Program} {t t' ty e:TypeId} {f:TypeInfo} (ht:P.underlying t=some (.slice e)) (hi:P.info? e=some f) {w:World} {g o n cap':Nat} {T:TypeId} {cur:Array Value}
  (hg:w.heap[g]? =some (.cells cur T (0,0))) {S:Nat->Prop} {α:Type} {enc:α->List SV} {ys:List α} {vx:Value} {news:List Value} (hs:Src S w enc f.size ys vx news) (hfit:o+min ys.length n*f.size<=cur.size):
  (Builtin.copy_ #[t,t'] ty #[.slice (some ⟨g,o,none⟩) n cap',vx]).run P w=.ok (.int .i64 (min ys.length n:Nat))
   (w.setRow g (cur.toList.take o++news.take (min ys.length n*f.size)++cur.toList.drop (o+min ys.length n*f.size)).toArray):=by
 obtain⟨hl,hone,_,hv⟩:=hs
 rcases hv with⟨rfl,rfl⟩ | ⟨a,c,rfl,hcells⟩
 ·have hn:news=[]:=Xn (by simpa using hl);subst hn;have hsr:=setRow_self w g cur T (0,0) hg;simp[Builtin.copy_,run_underlying ht,Builtin.lenOf,Builtin.firstCells,sizeOf,typeInfo,hi,storeCells,goInt,hsr]
 ·have hcl:(news.take (min ys.length n*f.size)).length=min ys.length n*f.size:=by
   rw[Xk,hl];exact KU (Xp _ (Nat.min_le_left _ _))
  have hld:=run_loadCells_list (P:=P) w a (news.take (min ys.length n*f.size)) (λj u hu=>hcells j u (by
   rw[Xv]at hu
   split at hu
   ·exact hu
   ·cases hu))
  rw[hcl]at hld;have hst:=run_storeCells_at P g o T (news.take (min ys.length n*f.size)) 0 cur w hg (by rw[hcl];simpa using hfit) (λu hu=>hone u (XC hu));simp only[hcl,XN]at hst;have e1:Nat.min ys.length n=min ys.length n:=rfl;simp[Builtin.copy_,run_underlying ht,Builtin.lenOf,Builtin.firstCells,sizeOf,typeInfo,hi,e1,hld,hst,goInt]
theorem zli:∀{M:List (Nat×Mem)} {k:Nat} {m:Mem},zY M k=some m->qL M k m=M
 | [],_,_,h=>by simp[zY]at h
 | (k',m')::r,k,m,h=>by
  simp only[zY]at h;simp only[qL]
  split at h
  ·cases h;rfl
  ·rw[zli h]
theorem zrV {P:Program}
  {Keep:Nat->Prop} {M:List (Nat×Mem)} {ρ:zj} {w:World} (hm:zN Keep M ρ w) {k:Nat} {T:TypeId} {α:Type} {enc:α->List SV} {sz:Nat} {xs:List α} (hmem:(k,Mem.arr T enc sz xs)∈M)
  {b len cap lo n κ:Nat} (hρ:ρ k=some (.slice (some ⟨b,0,none⟩) len cap)) (hln:lo+n<=xs.length) {ys:List α} {news:List Value}
  (hs:news.length=ys.length*sz/\(∀u∈news,u.oneCell'=true)/\(∀(i j:Nat) y (s:SV),ys[i]? =some y->(enc y)[j]? =some s->∃u,news[i*sz+j]? =some u/\D (λb=>Keep b∨Own M ρ b) w s u)) (hysz:∀y∈ys,(enc y).length=sz) {o:Oper} {a:Act} {r:Value}
  (hr:∀T cur,w.heap[b]? =some (.cells cur T (0,0))->lo*sz+min ys.length n*sz<=cur.size->(execOp a.eval o).run P w=.ok (.value r)
   (w.setRow b (cur.toList.take (lo*sz)++news.take (min ys.length n*sz)++cur.toList.drop (lo*sz+min ys.length n*sz)).toArray)):
  qE P o a w (k7 Keep M ρ w κ (.val r) (.set k (.arr T enc sz (xs.take lo++(ys.take n++xs.drop (lo+min ys.length n)))))):=by
 obtain⟨v0,cells,hρ',hown,hnl,hone0,hesz,hcells⟩:=hm.rel k _ hmem;rw[hρ]at hρ';cases hρ'
 obtain⟨hlen',cur,hheap,hnc,hcm,hcs,htake⟩:=zd0 rfl hown;have hcellslen:cells.length=xs.length*sz:=hown.1;have hml:min ys.length n<=n:=Nat.min_le_right _ _;have hmy:min ys.length n<=ys.length:=Nat.min_le_left _ _
 have htk:ys.take n=ys.take (min ys.length n):=by
  rcases Nat.le_total ys.length n with h | h
  ·rw[KU h,Xg h,Xg (Xh _)]
  ·rw[Nat.min_eq_right h]
 rw[htk];have hcurlen:xs.length*sz<=cur.toList.length:=by simp[hcs];exact Xp _ hnc
 generalize hmm:min ys.length n=m at*;have hfit:(lo+m)*sz<=xs.length*sz:=Xp _ oM;have hadd:(lo+m)*sz=lo*sz+m*sz:=XW _ _ _;have hrun:=hr _ _ hheap (by simp at hcurlen;omega)
 have hnews:(news.take (m*sz)).length=m*sz:=by
  rw[Xk,hs.1];exact KU (Xp _ hmy)
 refine qE.value hrun<|k7.set (hm.write _ hmem hρ rfl _ λhst=>?_) (.d _ _ (.val _));have hxl:(xs.take lo++(ys.take m++xs.drop (lo+m))).length=xs.length:=by simp only[Xi,Xk,XO];omega
 refine⟨_,cells.take (lo*sz)++news.take (m*sz)++cells.drop (lo*sz+m*sz),hρ,⟨?_,.inr ⟨b,cap,_,by rw[hxl,hlen'],Xe _,setRow_heap w b _ _ T _ hheap,by rw[hxl];exact hnc,hcm,?_,?_⟩⟩,by rw[hxl];exact hnl,?_,?_,?_⟩
 ·rw[hxl];simp only[Xi,Xk,XO,hcellslen,hs.1];have:=Xp sz hmy;omega
 ·simp only[Ky,Xi,hnews,Xk,XO,KO,hcs];simp[hcs]at hcurlen;omega
 ·rw[hxl,← htake];have:=zbk cur.toList (news.take (m*sz)) (lo*sz) (xs.length*sz) (by rw[hnews];omega) hcurlen;rw[hnews]at this;exact this
 ·intro u hu;simp only[Xo]at hu
  rcases hu with(hu | hu) | hu
  ·exact hone0 u (XC hu)
  ·exact hs.2.1 u (XC hu)
  ·exact hone0 u (Ko hu)
 ·intro z hz;simp only[Xo]at hz
  rcases hz with hz | hz | hz
  ·exact hesz z (XC hz)
  ·exact hysz z (XC hz)
  ·exact hesz z (Ko hz)
 ·intro i j x s hxi hs';have hln1:(cells.take (lo*sz)).length=lo*sz:=by rw[Xk,hcellslen];omega
  have hlx:(xs.take lo).length=lo:=by rw[Xk];omega
  have hly:(ys.take m).length=m:=by rw[Xk];omega
  have hjs:j < sz:=by
   have hx:x∈xs.take lo++(ys.take m++xs.drop (lo+m)):=Xd hxi;have:=(Xc.1 hs').1;simp only[Xo]at hx
   rcases hx with hz | hz | hz
   ·rwa [hesz x (XC hz)]at this
   ·rwa [hysz x (XC hz)]at this
   ·rwa [hesz x (Ko hz)]at this
  by_cases hi1:i < lo
  ·rw[XD oM,Xv,if_pos hi1]at hxi;obtain⟨u,hu,hd⟩:=hcells i j x s hxi hs';refine⟨u,?_,hd.stp hst⟩
   have h5:i*sz+sz<=lo*sz:=by
    have:=Xp sz (XS hi1);rw[XT]at this;exact this
   rw[XL,XD oM,Xv,if_pos oM];exact hu
  ·rw[Xy oM,hlx]at hxi;have h6:lo*sz<=i*sz:=Xp _ oM
   by_cases hi2:i - lo < m
   ·rw[XD oM,Xv,if_pos hi2]at hxi;obtain⟨u,hu,hd⟩:=hs.2.2 (i - lo) j x s hxi hs';refine⟨u,?_,hd.stp hst⟩
    have h5:(i - lo)*sz+sz<=m*sz:=by
     have:=Xp sz (XS hi2);rw[XT]at this;exact this
    have h7:(i - lo)*sz=i*sz - lo*sz:=Nat.sub_mul _ _ _;rw[XL,Xy oM,hln1,XD oM,Xv,if_pos oM,← hu];congr 1;omega
   ·rw[Xy oM,hly,XU]at hxi;rw[show lo+m+(i - lo - m)=i by omega]at hxi;obtain⟨u,hu,hd⟩:=hcells i j x s hxi hs';refine⟨u,?_,hd.stp hst⟩;have h7:(lo+m)*sz<=i*sz:=Xp _ oM;rw[XL,Xy oM,hln1,Xy oM,hnews,XU,← hu];congr 1;omega
theorem zon {P:Program} {t t' e:TypeId} {f:TypeInfo} (hk:P.underlying t=some (.slice e)) (hi:P.info? e=some f)
  {Keep:Nat->Prop} {M:List (Nat×Mem)} {ρ:zj} {w:World} (hm:zN Keep M ρ w) {k:Nat} {T:TypeId} {α:Type} {enc:α->List SV} {sz:Nat} {xs:List α} (hmem:(k,Mem.arr T enc sz xs)∈M) (h2:f.size=sz)
  {b len cap cap' lo n κ:Nat} (hρ:ρ k=some (.slice (some ⟨b,0,none⟩) len cap)) (hln:lo+n<=xs.length) {ys:List α} {vx:Value} {news:List Value}
  (hs:Src (λb=>Keep b∨Own M ρ b) w enc sz ys vx news) (hysz:∀y∈ys,(enc y).length=sz) {o:Oper} {a:Act}
  (hr:∀v w',(Builtin.copy_ #[t,t'] o.type #[.slice (some ⟨b,lo*sz,none⟩) n cap',vx]).run P w=.ok v w'->(execOp a.eval o).run P w=.ok (.value v) w'):
  qE P o a w (k7 Keep M ρ w κ (.val (.int .i64 (min ys.length n:Nat))) (.set k (.arr T enc sz (xs.take lo++(ys.take n++xs.drop (lo+min ys.length n)))))):=by
 refine zrV hm hmem hρ hln ⟨hs.1,hs.2.1,hs.2.2.1⟩ hysz λT cur hheap hfit=>?_
 have hrun:=zvn (P:=P) (t:=t) (t':=t') (ty:=o.type) (o:=lo*sz) (n:=n) (cap':=cap') hk hi hheap (h2 ▸ hs) (by rw[h2];exact hfit);rw[h2]at hrun;exact hr _ _ hrun
theorem ztr {P:Program} {t e:TypeId} {f:TypeInfo} {z:Value} {zs:List Value} (hk:P.underlying t=some (.slice e)) (hz:f.zero=some z) (hi:P.info? e=some f) (h5:z.cells.toList=zs) (h7:zs.length=f.size) (h8:∀u∈zs,u.oneCell'=true)
  {Keep:Nat->Prop} {M:List (Nat×Mem)} {ρ:zj} {w:World} (hm:zN Keep M ρ w) {k:Nat} {T:TypeId} {α:Type} {enc:α->List SV} {sz:Nat} {xs:List α} (hmem:(k,Mem.arr T enc sz xs)∈M) (h2:f.size=sz)
  {b len cap cap' lo n κ:Nat} (hn:0 < n) (hρ:ρ k=some (.slice (some ⟨b,0,none⟩) len cap)) (hln:lo+n<=xs.length) {x0:α} (hx0:enc x0=vals zs) {o:Oper} {a:Act}
  (hr:∀v w',(Builtin.clear_ #[t] o.type #[.slice (some ⟨b,lo*sz,none⟩) n cap']).run P w=.ok v w'->(execOp a.eval o).run P w=.ok (.value v) w'):
  qE P o a w (k7 Keep M ρ w κ (.val (.tuple #[])) (.set k (.arr T enc sz (xs.take lo++(List.replicate n x0++xs.drop (lo+n)))))):=by
 have hzl:z.cells=zs.toArray:=by rw[← h5]
 have hlen:(madeCells z.cells (n*f.size)).toList.length=n*sz:=by simp[madeCells,h2]
 have hmg:∀q,(madeCells z.cells (n*f.size)).toList[q]? =if q < n*sz then zs[q % sz]? else none:=λq=>by
  have:=zfD zs n q;rw[h7,h2]at this;rw[hzl,h2];exact this
 have henc:(enc x0).length=sz:=by rw[hx0];simp[vals,h7,h2]
 have hone:∀u∈(madeCells z.cells (n*f.size)).toList,u.oneCell'=true:=λu hu=>by
  obtain⟨q,hq,rfl⟩:=Jl.1 hu;have:=hmg q;rw[Xb hq]at this
  split at this
  ·exact h8 _ (Xd this.symm)
  ·cases this
 have key:=zrV (P:=P) hm hmem hρ hln (ys:=List.replicate n x0) (news:=(madeCells z.cells (n*f.size)).toList) (κ:=κ) (o:=o) (a:=a) (r:=.tuple #[])
  ⟨by rw[hlen,Ke],hone,λi j y s hy hs=>by
   have hxm:=KF (Xd hy);subst hxm;have hq:i < n:=by simpa using (Xc.1 hy).1
   have hpj:j < sz:=by
    have:=(Xc.1 hs).1;rw[henc]at this;exact this
   have h1:i*sz+sz<=n*sz:=by
    have:=Xp sz (show i+1<=n by omega);rw[XT]at this;exact this
   have hmod:(i*sz+j) % sz=j:=by rw[Ks,Qk];exact Xu hpj
   rw[hmg,if_pos oM,hmod];rw[hx0]at hs;simp only[vals,XA]at hs
   cases hu:zs[j]? with
   | none=>simp[hu]at hs
   | some u=>
    simp[hu]at hs;subst hs
    exact⟨u,rfl,.val u⟩⟩ (λy hy=>by rw[KF hy];exact henc) (λT' cur hheap hfit=>by
   refine hr _ _ ?_;rw[Ke,Nat.min_self]at hfit ⊢;have hst:=run_storeCells_at P b (lo*sz) T' (madeCells z.cells (n*f.size)).toList 0 cur w hheap (by rw[hlen];simpa using hfit) hone;simp only[hlen,XN]at hst;have ht:(madeCells z.cells (n*f.size)).toList.take (n*sz)=(madeCells z.cells (n*f.size)).toList:=Xg (by rw[hlen];exact Xh _);rw[ht]
   have hzc:(Builtin.zeroCells z.cells n).toList=(madeCells z.cells (n*f.size)).toList:=by
    have e:z.cells.size=f.size:=by rw[hzl];simpa using h7
    simp[Builtin.zeroCells,madeCells,e]
   obtain⟨m,rfl⟩:∃m,n=m+1:=⟨n - 1,oM⟩
   simp[Builtin.clear_,run_underlying hk,zeroValue,typeInfo,hi,hz,hzc,hst])
 rw[Ke,Nat.min_self,Xg (l:=List.replicate n x0) (by rw[Ke];exact Xh _)]at key;exact key
theorem zoo(hm:zN Keep M ρ w){k:Nat}{T:TypeId}{ys:List (List SV)}(hmem:(k,Mem.garr T sz ys)∈M){v:Value}(hρ:ρ k=some v):
  ∃(qs:List Nat) (news:List Value),qs.length=ys.length/\Src (λb=>Keep b∨Own M ρ b) w (λn:Nat=>List.replicate n SV.junk) sz qs v news/\(∀y∈ys,y.length=sz)/\
   ∀(i j:Nat) x (s:SV),ys[i]? =some x->x[j]? =some s->∃u,news[i*sz+j]? =some u/\G (λb=>Keep b∨Own M ρ b) (Own M ρ) ρ w s u:=by
 obtain⟨v',cells,hρ',hown,hlen,hone,hesz,hcells⟩:=hm.rel k _ hmem;rw[hρ]at hρ';cases hρ'
 refine⟨ys.map List.length,cells,by simp,⟨by rw[XF];exact hown.1,hone,λi j n s hn hs=>?_,?_⟩,hesz,hcells⟩
 ·rw[XA]at hn
  cases hy:ys[i]? with
  | none=>simp[hy]at hn
  | some y=>
   simp[hy]at hn;subst hn
   have hj:j < y.length:=by
    have:=(Xc.1 hs).1
    simpa using this
   obtain⟨u,hu,_⟩:=hcells i j y _ hy (Xb hj);have:s=.junk:=KF (Xd hs);subst this;exact⟨u,hu,.junk _⟩
 ·rw[XF]
  rcases hown.2 with⟨rfl,he⟩ | ⟨g,cap,cur,rfl,_,hheap,hnc,hcm,hcs,htake⟩
  ·exact .inl ⟨rfl,by rw[Xn he];rfl⟩
  ·exact .inr ⟨_,cap,rfl,λj u hu=>by rw[yd,X6];exact zbL hheap htake hu⟩
variable{Γ:List (TypeId×TI)}{κ:Nat}{K:SV->MD->Prop}
theorem zkR(hT:TOK P Γ)(hb:c.callee=.builtin .append) {s:SV} {k':Nat} {e':TypeId} {sz':Nat} {ys:List (List SV)}
  (hlk':lm k'=some (.garr e' sz' ys)) (h:ziL Γ c.argTypes.toList s e' sz' ys lm κ K):∃r md,K r md/\yG P (.call c) [s,.own k'] lm κ r md:=by
 unfold ziL at h
 split at h
 ·rename_i t t' htys;have htys:=zd3 htys;replace h:=zh h;obtain⟨hteq,h⟩:=h;have hteq:=Xf hteq;subst hteq;replace h:=zt h;obtain⟨i,hi,h⟩:=h;have hk:=(hT t i hi).kind
  split at h
  ·rename_i e hkind;rw[hkind]at hk;have hk:P.underlying t=some (.slice e):=hk;replace h:=zt h;obtain⟨j,hj,h⟩:=h;obtain⟨f,h1,h2,h3,z,h4,h5,h6,h7,h8⟩:=(hT e j hj).inf;have hzs:z.cells.size=f.size:=by rw[h2,← h7,← h5];simp
   replace h:=zh h;obtain⟨hee,h⟩:=h;replace h:=zh h;obtain⟨hss,h⟩:=h;have hee:=Xf hee;have hss:=Xf hss;subst hee;subst hss
   split at h
   ·obtain⟨e1,e2,e3⟩:=h.ob;refine⟨_,_,h.go,λo ho Keep M ρ a w hlm hm hκ hκM hgs=>?_⟩;replace hκ:=hκ _ (Xh _) (XV _);replace hκM:=hκM rfl;have hgs:=qY hb hgs;obtain⟨v,vs',hvs,g,gr⟩:=hgs.cons_inv;obtain⟨vx,vs'',hvs',gx,gn⟩:=gr.cons_inv;subst hvs';have hn:=gn.nil_inv;subst hn;obtain⟨hx,_⟩:=gx.own_inv;obtain⟨qs,news,hql,hsrc,hesz',hcells'⟩:=zoo hm (zA (hlm k' _ hlk')) hx;rw[← hql]at e1 e2;obtain⟨cs,hr⟩:=kq (P:=P) (w:=w) ho hb hvs;rw[g.val_inv]at hr
    have hb':(0+qs.length)*f.bytes<=140737488355328:=by rw[h3,X6];omega
    obtain⟨v',w',hrun,hown,q1,q2,q3,q4,q5,q6,q7⟩:=zaP (ty:=o.type) hk h1 h4 hzs (World.ownsRow_nil w 0 e f.size) (h2 ▸ hsrc) (by unfold maxLen;omega) hb';refine qE.value (v:=v') (w':=w') (by rw[hr,htys];simp only[builtin,Sem.run_bind,hrun,Result.andThen_ok,Sem.run_pure])<|k7.push (u:=v') (hm.grow (λ_ h=>h) hm.keys hκ hκM v' _ w' q1 q2 q3 q4 (λb hb _=>q5 b hb (by simp[qu])) (λk m v b g1 g2 g3=>q5 b (hm.old b ⟨k,m,v,g1,g2,g3⟩).1 (by simp[qu])) ?_ ?_) (.own _ _ ky q7)
    ·intro b hb
     rcases q6 with q6 | ⟨q6,q8⟩
     ·rw[hb]at q6;simp[qu]at q6
     ·rw[hb]at q6;cases q6
      exact⟨.inr (Xh _),q8,λk m v1 g1 g2 g3=>by have:=(hm.old _ ⟨k,m,v1,g1,g2,g3⟩).1;omega⟩
    ·intro hs;refine⟨v',news,ky,by rw[← h2];rw[hql]at hown;simpa using hown,oM,hsrc.2.1,hesz',λp q y s' hy hs'=>?_⟩;obtain⟨u,hu,hd⟩:=hcells' p q y s' hy hs';exact⟨u,hu,hd.stp hs⟩
   ·rename_i k
    split at h
    ·rename_i e'' sz xs hlk;replace h:=zh h;obtain⟨hee,h⟩:=h;replace h:=zh h;obtain⟨hss,h⟩:=h;have hee:=Xf hee;have hss:=Xf hss;subst hee;obtain⟨e1,e2,e3⟩:=h.ob;refine⟨_,_,h.go,λo ho Keep M ρ a w hlm hm hκ hκM hgs=>?_⟩;replace hκ:=hκ _ (Xh _) (XV _);replace hκM:=hκM rfl;have hmem:=zA (hlm k _ hlk);have hgs:=qY hb hgs;obtain⟨v,vs',hvs,g,gr⟩:=hgs.cons_inv;obtain⟨vx,vs'',hvs',gx,gn⟩:=gr.cons_inv;subst hvs';have hn:=gn.nil_inv;subst hn
     obtain⟨hx,_⟩:=gx.own_inv;obtain⟨qs,news,hql,hsrc,hesz',hcells'⟩:=zoo hm (zA (hlm k' _ hlk')) hx;rw[← hql]at e1 e2;obtain⟨cs,hr⟩:=kq (P:=P) (w:=w) ho hb hvs;obtain⟨hv,_⟩:=g.own_inv;obtain⟨v0,cells,hρ,hown,hnl,hone0,hesz,hcells⟩:=hm.rel k _ hmem;rw[hv]at hρ;cases hρ
     have hb':(xs.length+qs.length)*f.bytes<=140737488355328:=by rw[h3];exact Ju.1 (by rw[X0,Qy];exact e1)
     have hsf:sz=f.size:=by rw[hss,h2]
     subst hsf;obtain⟨v',w',hrun,hown',q1,q2,q3,q4,q5,q6,q7⟩:=zaP (ty:=o.type) hk h1 h4 hzs hown (h2 ▸ hsrc) (by unfold maxLen;omega) hb';refine qE.value (v:=v') (w':=w') (by rw[hr,htys];simp only[builtin,Sem.run_bind,hrun,Result.andThen_ok,Sem.run_pure]) ?_
     have hgrow:=hm.grow (M1:=qq M k) (λx hx=>kA x hx) (qz hm.keys) hκ hκM v' (.garr e f.size (xs++ys)) w' q1 q2 q3 q4
      (λb hb hn=>q5 b hb (λhvb=>hn ⟨k,_,v,hmem,hv,hvb⟩))
      (λk' m v1 b g1 g2 g3=>q5 b (hm.old b ⟨k',m,v1,kA _ g1,g2,g3⟩).1 (λhvb=>hm.apart k' m k _ v1 v b (kA _ g1) hmem (yH hm.keys _ g1) g2 hv g3 hvb))
      (λb hb=>by
       rcases q6 with q6 | ⟨q6,q8⟩
       ·rw[hb]at q6;have ho:Own M ρ b:=⟨k,_,v,hmem,hv,q6.symm⟩;exact⟨.inl ho,Xq (hm.old b ho).1 q4,λk' m v1 g1 g2 g3=>hm.apart k' m k _ v1 v b (kA _ g1) hmem (yH hm.keys _ g1) g2 hv g3 q6.symm⟩
       ·rw[hb]at q6;cases q6
        exact⟨.inr (Xh _),q8,λk' m v1 g1 g2 g3=>by have:=(hm.old _ ⟨k',m,v1,kA _ g1,g2,g3⟩).1;omega⟩)
      (λhs=>by
       refine⟨v',cells++news,ky,by rw[hql]at hown';simpa using hown',by simp;omega,λu hu=>?_,λx hx=>?_,λp q x s' hx hs'=>?_⟩
       ·rcases Xo.1 hu with hu | hu
        ·exact hone0 u hu
        ·exact hsrc.2.1 u hu
       ·rcases Xo.1 hx with hx | hx
        ·exact hesz x hx
        ·rw[hesz' x hx,h2]
       ·have hl:=hown.1;rw[XP]at hx
        split at hx
        ·obtain⟨u,hu,hd⟩:=hcells p q x s' hx hs';refine⟨u,?_,hd.stp hs⟩;have:p*f.size+q < cells.length:=(Xc.1 hu).1;rw[XD this];exact hu
        ·rename_i hge;obtain⟨u,hu,hd⟩:=hcells' (p - xs.length) q x s' hx hs';refine⟨u,?_,hd.stp hs⟩;have hge:xs.length<=p:=oM;have hmul:p*f.size=xs.length*f.size+(p - xs.length)*f.size:=by rw[← XW];congr 1;omega
         rw[Xy (by rw[hl,hmul];omega),hl,hmul,show xs.length*f.size+(p - xs.length)*f.size+q - xs.length*f.size=(p - xs.length)*f.size+q by omega,h2]
         exact hu)
     exact⟨upd ρ κ v',hgrow.1,hgrow.2,.own _ _ ky q7,λk' hk'=>zcj (by
      rcases hk' with hk' | hk'
      ·omega
      ·simp only[zaL]at hk';omega)⟩
    ·exact h.elim
   ·exact h.elim
  ·exact h.elim
 ·exact h.elim
theorem zfE(hT:TOK P Γ)(hb:c.callee=.builtin .append) {s x:SV}
  (h:zik Γ c.argTypes.toList s x lm κ K):∃r md,K r md/\yG P (.call c) [s,x] lm κ r md:=by
 unfold zik at h
 split at h
 ·rename_i t t' htys;have htys:=zd3 htys;replace h:=zh h;obtain⟨hteq,h⟩:=h;have hteq:=Xf hteq;subst hteq;replace h:=zt h;obtain⟨i,hi,h⟩:=h;have hk:=(hT t i hi).kind
  split at h
  ·rename_i e hkind;rw[hkind]at hk;have hk:P.underlying t=some (.slice e):=hk;replace h:=zt h;obtain⟨j,hj,h⟩:=h;obtain⟨f,h1,h2,h3,z,h4,h5,h6,h7,h8⟩:=(hT e j hj).inf;have hzs:z.cells.size=f.size:=by rw[h2,← h7,← h5];simp
   split at h
   ·obtain⟨α,enc,ys,hra,h⟩:=h;obtain⟨e1,e2,e3,e4⟩:=h.ob;refine⟨_,_,h.go,λo ho Keep M ρ a w hlm hm hκ hκM hgs=>?_⟩;replace hκ:=hκ _ (Xh _) (XV _);replace hκM:=hκM rfl;have hgs:=qY hb hgs;obtain⟨v,vs',hvs,g,gr⟩:=hgs.cons_inv;obtain⟨vx,vs'',hvs',gx,gn⟩:=gr.cons_inv;subst hvs';have hn:=gn.nil_inv;subst hn;obtain⟨news,hsrc⟩:=ua hra hlm hm gx e3 e4;obtain⟨cs,hr⟩:=kq (P:=P) (w:=w) ho hb hvs;rw[g.val_inv]at hr;have hb':(0+ys.length)*f.bytes<=140737488355328:=by rw[h3,X6];omega
    obtain⟨v',w',hrun,hown,q1,q2,q3,q4,q5,q6,q7⟩:=zaP (ty:=o.type) hk h1 h4 hzs (World.ownsRow_nil w 0 e f.size) (h2 ▸ hsrc) (by unfold maxLen;omega) hb';refine qE.value (v:=v') (w':=w') (by rw[hr,htys];simp only[builtin,Sem.run_bind,hrun,Result.andThen_ok,Sem.run_pure])<|k7.push (u:=v') (hm.grow (λ_ h=>h) hm.keys hκ hκM v' _ w' q1 q2 q3 q4 (λb hb _=>q5 b hb (by simp[qu])) (λk m v b g1 g2 g3=>q5 b (hm.old b ⟨k,m,v,g1,g2,g3⟩).1 (by simp[qu])) ?_ ?_) (.own _ _ ky q7)
    ·intro b hb
     rcases q6 with q6 | ⟨q6,q8⟩
     ·rw[hb]at q6;simp[qu]at q6
     ·rw[hb]at q6;cases q6
      exact⟨.inr (Xh _),q8,λk m v1 g1 g2 g3=>by have:=(hm.old _ ⟨k,m,v1,g1,g2,g3⟩).1;omega⟩
    ·intro hs;refine⟨v',news,ky,by rw[← h2];simpa using hown,e2,hsrc.2.1,e4,λp q y s' hy hs'=>?_⟩;obtain⟨u,hu,hd⟩:=hsrc.2.2.1 p q y s' hy hs';exact⟨u,hu,hd.stp hs⟩
   ·rename_i k
    split at h
    ·rename_i e' α enc sz xs hlk;replace h:=zh h;obtain⟨hee,h⟩:=h;replace h:=zh h;obtain⟨hss,h⟩:=h;have hee:=Xf hee;have hss:=Xf hss;subst hee;obtain⟨ys,hra,h⟩:=h;obtain⟨e1,e2,e3,e4⟩:=h.ob;refine⟨_,_,h.go,λo ho Keep M ρ a w hlm hm hκ hκM hgs=>?_⟩;replace hκ:=hκ _ (Xh _) (XV _);replace hκM:=hκM rfl;have hmem:=zA (hlm k _ hlk);have hgs:=qY hb hgs;obtain⟨v,vs',hvs,g,gr⟩:=hgs.cons_inv;obtain⟨vx,vs'',hvs',gx,gn⟩:=gr.cons_inv;subst hvs';have hn:=gn.nil_inv
     subst hn;obtain⟨news,hsrc⟩:=ua hra hlm hm gx e3 e4;obtain⟨cs,hr⟩:=kq (P:=P) (w:=w) ho hb hvs;obtain⟨hv,_⟩:=g.own_inv;obtain⟨v0,cells,hρ,hown,hnl,hone0,hesz,hcells⟩:=hm.rel k _ hmem;rw[hv]at hρ;cases hρ
     have hb':(xs.length+ys.length)*f.bytes<=140737488355328:=by rw[h3];exact Ju.1 (by rw[X0,Qy];exact e1)
     have hsf:sz=f.size:=by rw[hss,h2]
     subst hsf;obtain⟨v',w',hrun,hown',q1,q2,q3,q4,q5,q6,q7⟩:=zaP (ty:=o.type) hk h1 h4 hzs hown (h2 ▸ hsrc) (by unfold maxLen;omega) hb';refine qE.value (v:=v') (w':=w') (by rw[hr,htys];simp only[builtin,Sem.run_bind,hrun,Result.andThen_ok,Sem.run_pure]) ?_
     have hgrow:=hm.grow (M1:=qq M k) (λx hx=>kA x hx) (qz hm.keys) hκ hκM v' (.arr e enc f.size (xs++ys)) w' q1 q2 q3 q4
      (λb hb hn=>q5 b hb (λhvb=>hn ⟨k,_,v,hmem,hv,hvb⟩))
      (λk' m v1 b g1 g2 g3=>q5 b (hm.old b ⟨k',m,v1,kA _ g1,g2,g3⟩).1 (λhvb=>hm.apart k' m k _ v1 v b (kA _ g1) hmem (yH hm.keys _ g1) g2 hv g3 hvb))
      (λb hb=>by
       rcases q6 with q6 | ⟨q6,q8⟩
       ·rw[hb]at q6;have ho:Own M ρ b:=⟨k,_,v,hmem,hv,q6.symm⟩;exact⟨.inl ho,Xq (hm.old b ho).1 q4,λk' m v1 g1 g2 g3=>hm.apart k' m k _ v1 v b (kA _ g1) hmem (yH hm.keys _ g1) g2 hv g3 q6.symm⟩
       ·rw[hb]at q6;cases q6
        exact⟨.inr (Xh _),q8,λk' m v1 g1 g2 g3=>by have:=(hm.old _ ⟨k',m,v1,kA _ g1,g2,g3⟩).1;omega⟩)
      (λhs=>by
       refine⟨v',cells++news,ky,by simpa using hown',by simp;omega,λu hu=>?_,λx hx=>?_,λp q x s' hx hs'=>?_⟩
       ·rcases Xo.1 hu with hu | hu
        ·exact hone0 u hu
        ·exact hsrc.2.1 u hu
       ·rcases Xo.1 hx with hx | hx
        ·exact hesz x hx
        ·rw[e4 x hx,h2]
       ·have hl:=hown.1;rw[XP]at hx
        split at hx
        ·obtain⟨u,hu,hd⟩:=hcells p q x s' hx hs';refine⟨u,?_,hd.stp hs⟩;have:p*f.size+q < cells.length:=(Xc.1 hu).1;rw[XD this];exact hu
        ·rename_i hge;obtain⟨u,hu,hd⟩:=hsrc.2.2.1 (p - xs.length) q x s' hx hs';refine⟨u,?_,hd.stp hs⟩;have hge:xs.length<=p:=oM;have hmul:p*f.size=xs.length*f.size+(p - xs.length)*f.size:=by rw[← XW];congr 1;omega
         rw[Xy (by rw[hl,hmul];omega),hl,hmul,show xs.length*f.size+(p - xs.length)*f.size+q - xs.length*f.size=(p - xs.length)*f.size+q by omega,h2]
         exact hu)
     exact⟨upd ρ κ v',hgrow.1,hgrow.2,.own _ _ ky q7,λk' hk'=>zcj (by
      rcases hk' with hk' | hk'
      ·omega
      ·simp only[zaL]at hk';omega)⟩
    ·rename_i e' sz xs hlk;replace h:=zh h;obtain⟨hee,h⟩:=h;replace h:=zh h;obtain⟨hss,h⟩:=h;have hee:=Xf hee;have hss:=Xf hss;subst hee;obtain⟨α,enc,ys,hra,h⟩:=h;obtain⟨e1,e2,e3,e4⟩:=h.ob;refine⟨_,_,h.go,λo ho Keep M ρ a w hlm hm hκ hκM hgs=>?_⟩;replace hκ:=hκ _ (Xh _) (XV _);replace hκM:=hκM rfl;have hmem:=zA (hlm k _ hlk);have hgs:=qY hb hgs;obtain⟨v,vs',hvs,g,gr⟩:=hgs.cons_inv;obtain⟨vx,vs'',hvs',gx,gn⟩:=gr.cons_inv;subst hvs';have hn:=gn.nil_inv
     subst hn;obtain⟨news,hsrc⟩:=ua hra hlm hm gx e3 e4;obtain⟨cs,hr⟩:=kq (P:=P) (w:=w) ho hb hvs;obtain⟨hv,_⟩:=g.own_inv;obtain⟨v0,cells,hρ,hown,hnl,hone0,hesz,hcells⟩:=hm.rel k _ hmem;rw[hv]at hρ;cases hρ
     have hb':(xs.length+ys.length)*f.bytes<=140737488355328:=by rw[h3];exact Ju.1 (by rw[X0,Qy];exact e1)
     have hsf:sz=f.size:=by rw[hss,h2]
     subst hsf;obtain⟨v',w',hrun,hown',q1,q2,q3,q4,q5,q6,q7⟩:=zaP (ty:=o.type) hk h1 h4 hzs hown (h2 ▸ hsrc) (by unfold maxLen;omega) hb';refine qE.value (v:=v') (w':=w') (by rw[hr,htys];simp only[builtin,Sem.run_bind,hrun,Result.andThen_ok,Sem.run_pure]) ?_
     have hgrow:=hm.grow (M1:=qq M k) (λx hx=>kA x hx) (qz hm.keys) hκ hκM v' (.garr e f.size (xs++ys.map enc)) w' q1 q2 q3 q4
      (λb hb hn=>q5 b hb (λhvb=>hn ⟨k,_,v,hmem,hv,hvb⟩))
      (λk' m v1 b g1 g2 g3=>q5 b (hm.old b ⟨k',m,v1,kA _ g1,g2,g3⟩).1 (λhvb=>hm.apart k' m k _ v1 v b (kA _ g1) hmem (yH hm.keys _ g1) g2 hv g3 hvb))
      (λb hb=>by
       rcases q6 with q6 | ⟨q6,q8⟩
       ·rw[hb]at q6;have ho:Own M ρ b:=⟨k,_,v,hmem,hv,q6.symm⟩;exact⟨.inl ho,Xq (hm.old b ho).1 q4,λk' m v1 g1 g2 g3=>hm.apart k' m k _ v1 v b (kA _ g1) hmem (yH hm.keys _ g1) g2 hv g3 q6.symm⟩
       ·rw[hb]at q6;cases q6
        exact⟨.inr (Xh _),q8,λk' m v1 g1 g2 g3=>by have:=(hm.old _ ⟨k',m,v1,kA _ g1,g2,g3⟩).1;omega⟩)
      (λhs=>by
       refine⟨v',cells++news,ky,by simpa using hown',by simp;omega,λu hu=>?_,λx hx=>?_,λp q x s' hx hs'=>?_⟩
       ·rcases Xo.1 hu with hu | hu
        ·exact hone0 u hu
        ·exact hsrc.2.1 u hu
       ·rcases Xo.1 hx with hx | hx
        ·exact hesz x hx
        ·obtain⟨y,hy,rfl⟩:=XY.1 hx;rw[e4 y hy,h2]
       ·have hl:=hown.1;rw[XP]at hx
        split at hx
        ·obtain⟨u,hu,hd⟩:=hcells p q x s' hx hs';refine⟨u,?_,hd.stp hs⟩;have:p*f.size+q < cells.length:=(Xc.1 hu).1;rw[XD this];exact hu
        ·rename_i hge;rw[XA]at hx
         cases hy:ys[p - xs.length]? with
         | none=>simp[hy]at hx
         | some y=>
         simp[hy]at hx;subst hx;obtain⟨u,hu,hd⟩:=hsrc.2.2.1 (p - xs.length) q y s' hy hs';refine⟨u,?_,.d _ _ (hd.stp hs)⟩;have hge:xs.length<=p:=oM;have hmul:p*f.size=xs.length*f.size+(p - xs.length)*f.size:=by rw[← XW];congr 1;omega
         rw[Xy (by rw[hl,hmul];omega),hl,hmul,show xs.length*f.size+(p - xs.length)*f.size+q - xs.length*f.size=(p - xs.length)*f.size+q by omega,h2]
         exact hu)
     exact⟨upd ρ κ v',hgrow.1,hgrow.2,.own _ _ ky q7,λk' hk'=>zcj (by
      rcases hk' with hk' | hk'
      ·omega
      ·simp only[zaL]at hk';omega)⟩
    ·exact h.elim
   ·rename_i α enc xs;obtain⟨ys,hra,h⟩:=h;obtain⟨⟨e0,e1,e2,e3,e5,e4⟩,h⟩:=h;refine⟨_,_,h,λo ho Keep M ρ a w hlm hm hκ hκM hgs=>?_⟩;replace hκ:=hκ _ (Xh _) (XV _);replace hκM:=hκM rfl;have hgs:=qY hb hgs;obtain⟨v,vs',hvs,g,gr⟩:=hgs.cons_inv;obtain⟨vx,vs'',hvs',gx,gn⟩:=gr.cons_inv;subst hvs';have hn:=gn.nil_inv;subst hn;obtain⟨news,hsrc⟩:=ua hra hlm hm gx e3 e4;obtain⟨cs,hr⟩:=kq (P:=P) (w:=w) ho hb hvs;obtain⟨ad,hv,hd⟩:=g.full_inv;obtain⟨olds,hold⟩:=zok hd e3 e5;rw[hv]at hr hold
    have hb':(xs.length+ys.length)*f.bytes<=140737488355328:=by rw[h3];exact Ju.1 (by rw[X0,Qy];exact e1)
    obtain⟨v',w',hrun,hown,q1,q2,q3,q4,q5,q6,q7⟩:=zom (ty:=o.type) hk h1 h4 hzs ad (h2 ▸ hold) (h2 ▸ hsrc) e0 (by unfold maxLen;omega) hb';refine qE.value (v:=v') (w':=w') (by rw[hr,htys];simp only[builtin,Sem.run_bind,hrun,Result.andThen_ok,Sem.run_pure])<|k7.push (u:=v') (hm.grow (λ_ h=>h) hm.keys hκ hκM v' _ w' q1 q2 q3 q4 (λb hb _=>q5 b hb) (λk m v b g1 g2 g3=>q5 b (hm.old b ⟨k,m,v,g1,g2,g3⟩).1) ?_ ?_) (.own _ _ ky q7)
    ·intro b hb;obtain⟨q6,q8⟩:=q6;rw[hb]at q6;cases q6
     exact⟨.inr (Xh _),q8,λk m v1 g1 g2 g3=>by have:=(hm.old _ ⟨k,m,v1,g1,g2,g3⟩).1;omega⟩
    ·intro hs;refine⟨v',olds++news,ky,by rw[← h2];simpa using hown,by simp;omega,λu hu=>?_,λx hx=>?_,λp q y s' hy hs'=>?_⟩
     ·rcases Xo.1 hu with hu | hu
      ·exact hold.2.1 u hu
      ·exact hsrc.2.1 u hu
     ·rcases Xo.1 hx with hx | hx
      ·exact e5 x hx
      ·exact e4 x hx
     ·have hl:=hold.1;rw[XP]at hy
      split at hy
      ·obtain⟨u,hu,hd⟩:=hold.2.2.1 p q y s' hy hs';refine⟨u,?_,hd.stp hs⟩;have:p*j.sz+q < olds.length:=(Xc.1 hu).1;rw[XD this];exact hu
      ·rename_i hge;obtain⟨u,hu,hd⟩:=hsrc.2.2.1 (p - xs.length) q y s' hy hs';refine⟨u,?_,hd.stp hs⟩;have hge:xs.length<=p:=oM;have hmul:p*j.sz=xs.length*j.sz+(p - xs.length)*j.sz:=by rw[← XW];congr 1;omega
       rw[Xy (by rw[hl,hmul];omega),hl,hmul,show xs.length*j.sz+(p - xs.length)*j.sz+q - xs.length*j.sz=(p - xs.length)*j.sz+q by omega];exact hu
   ·rcases h with h | h | h
    ·obtain⟨α,enc,ys,hra,h⟩:=h;obtain⟨⟨e0,e1,e2,e3,e4⟩,h⟩:=h;refine⟨_,_,h,λo ho Keep M ρ a w hlm hm hκ hκM hgs=>?_⟩;replace hκ:=hκ _ (Xh _) (XV _);replace hκM:=hκM rfl;have hgs:=qY hb hgs;obtain⟨v,vs',hvs,g,gr⟩:=hgs.cons_inv;obtain⟨vx,vs'',hvs',gx,gn⟩:=gr.cons_inv;subst hvs';have hn:=gn.nil_inv;subst hn;obtain⟨news,hsrc⟩:=ua hra hlm hm gx e3 e4;obtain⟨cs,hr⟩:=kq (P:=P) (w:=w) ho hb hvs;obtain⟨ad,hv⟩:=g.nils_inv;rw[hv]at hr
     have hb':ys.length*f.bytes<=140737488355328:=by rw[h3];omega
     obtain⟨v',w',hrun,hown,q1,q2,q3,q4,q5,q6,q7⟩:=zol (ty:=o.type) hk h1 h4 hzs ad (h2 ▸ hsrc) e0 (by unfold maxLen;omega) hb';refine qE.value (v:=v') (w':=w') (by rw[hr,htys];simp only[builtin,Sem.run_bind,hrun,Result.andThen_ok,Sem.run_pure])<|k7.push (u:=v') (hm.grow (λ_ h=>h) hm.keys hκ hκM v' _ w' q1 q2 q3 q4 (λb hb _=>q5 b hb) (λk m v b g1 g2 g3=>q5 b (hm.old b ⟨k,m,v,g1,g2,g3⟩).1) ?_ ?_) (.own _ _ ky q7)
     ·intro b hb;obtain⟨q6,q8⟩:=q6;rw[hb]at q6;cases q6
      exact⟨.inr (Xh _),q8,λk m v1 g1 g2 g3=>by have:=(hm.old _ ⟨k,m,v1,g1,g2,g3⟩).1;omega⟩
     ·intro hs;refine⟨v',news,ky,by rw[← h2];exact hown,e2,hsrc.2.1,e4,λp q y s' hy hs'=>?_⟩;obtain⟨u,hu,hd⟩:=hsrc.2.2.1 p q y s' hy hs';exact⟨u,hu,hd.stp hs⟩
    ·obtain⟨α,enc,hra,e3,h⟩:=h;refine⟨_,_,h,λo ho Keep M ρ a w hlm hm _ _ hgs=>?_⟩;have hgs:=qY hb hgs;obtain⟨v,vs',hvs,g,gr⟩:=hgs.cons_inv;obtain⟨vx,vs'',hvs',gx,gn⟩:=gr.cons_inv;subst hvs';have hn:=gn.nil_inv;subst hn;obtain⟨news,hl,_,_,hx⟩:=ua hra hlm hm gx e3 (λx hx=>by cases hx);obtain⟨cs,hr⟩:=kq (P:=P) (w:=w) ho hb hvs;obtain⟨ad,hv⟩:=g.nils_inv;rw[hv]at hr
     have hrun:(Builtin.append_ #[t,t] o.type #[.slice ad 0 0,vx]).run P w=.ok (.slice ad 0 0) w:=by
      rcases hx with⟨rfl,_⟩ | ⟨a',c',rfl,_⟩
      ·cases ad <;> simp[Builtin.append_,run_underlying hk,sizeOf,typeInfo,h1,Builtin.lenOf,Builtin.firstCells,storeCells]
      ·cases ad <;> simp[Builtin.append_,run_underlying hk,sizeOf,typeInfo,h1,Builtin.lenOf,Builtin.firstCells,storeCells,loadCells,loadCellsFrom]
     exact qE.value (v:=.slice ad 0 0) (w':=w) (by rw[hr,htys];simp only[builtin,Sem.run_bind,hrun,Result.andThen_ok,Sem.run_pure]) (k7.same hm (.d _ _ (.nils ad)))
    ·exact h.elim
   ·exact h.elim
  ·exact h.elim
 ·exact h.elim
theorem zkS(hT:TOK P Γ)(hb:c.callee=.builtin b)
  (hlive:Live lm svs) (h:ziM Γ b c.argTypes.toList svs lm κ K):∃r md,K r md/\yG P (.call c) svs lm κ r md:=by
 obtain⟨Keep0,M0,ρ0,w0,vs0,hlm0,hm0,hg0⟩:=hlive;unfold ziM at h
 split at h
 ·rename_i s
  split at h
  ·rename_i t htys;have htys:=zgV htys;replace h:=zt h;obtain⟨i,hi,h⟩:=h;have hk:=(hT t i hi).kind
   split at h
   ·rename_i e hkind;rw[hkind]at hk;have hk:P.underlying t=some (.slice e):=hk;unfold zzX at h
    split at h
    ·rename_i α enc xs;obtain⟨v0,vs0',rfl,g0,_⟩:=hg0.cons_inv;refine⟨_,_,h (zvm g0).1,.pure λo ho S Pm ρ a w hgs=>?_⟩;have hgs:=qY hb hgs;obtain⟨v,vs',hvs,g,gr⟩:=hgs.cons_inv;obtain⟨_,ad,cap,hv,_⟩:=zvm g;obtain⟨cs,hr⟩:=kq (P:=P) (w:=w) ho hb hvs;refine⟨_,?_,(jX.val _).g⟩;rw[hr,gr.nil_inv,hv,htys];simp only[builtin,Sem.run_bind,zd4 hk w ad _ cap,Result.andThen_ok,Sem.run_pure]
    ·rename_i k
     split at h
     ·rename_i T α enc sz xs hlk;obtain⟨v0,vs0',rfl,g0,_⟩:=hg0.cons_inv;refine⟨_,_,h (zrU hm0 (zA (hlm0 k _ hlk)) g0.own_inv.1).1,.read λo ho Keep M ρ a w hlm hm hgs=>?_⟩;have hgs:=qY hb hgs;obtain⟨v,vs',hvs,g,gr⟩:=hgs.cons_inv;obtain⟨_,ad,cap,hv,_⟩:=zrU hm (hlm k _ hlk) g.own_inv.1;obtain⟨cs,hr⟩:=kq (P:=P) (w:=w) ho hb hvs;refine⟨_,?_,(jX.val _).g⟩;rw[hr,gr.nil_inv,hv,htys];simp only[builtin,Sem.run_bind,zd4 hk w ad _ cap,Result.andThen_ok,Sem.run_pure]
     ·rename_i T sz xs hlk;obtain⟨v0,vs0',rfl,g0,_⟩:=hg0.cons_inv;refine⟨_,_,h (zoh hm0 (zA (hlm0 k _ hlk)) g0.own_inv.1).1,.read λo ho Keep M ρ a w hlm hm hgs=>?_⟩;have hgs:=qY hb hgs;obtain⟨v,vs',hvs,g,gr⟩:=hgs.cons_inv;obtain⟨_,ad,cap,hv,_⟩:=zoh hm (hlm k _ hlk) g.own_inv.1;obtain⟨cs,hr⟩:=kq (P:=P) (w:=w) ho hb hvs;refine⟨_,?_,(jX.val _).g⟩;rw[hr,gr.nil_inv,hv,htys];simp only[builtin,Sem.run_bind,zd4 hk w ad _ cap,Result.andThen_ok,Sem.run_pure]
     ·exact h.elim
    ·refine⟨_,_,h,.pure λo ho S Pm ρ a w hgs=>?_⟩;have hgs:=qY hb hgs;obtain⟨v,vs',hvs,g,gr⟩:=hgs.cons_inv;obtain⟨cs,hr⟩:=kq (P:=P) (w:=w) ho hb hvs;refine⟨_,?_,(jX.val _).g⟩;rw[hr,gr.nil_inv,g.val_inv,htys];simp only[builtin,Sem.run_bind,zd4 hk w none 0 0,Result.andThen_ok,Sem.run_pure];rfl
    ·refine⟨_,_,h,.pure λo ho S Pm ρ a w hgs=>?_⟩;have hgs:=qY hb hgs;obtain⟨v,vs',hvs,g,gr⟩:=hgs.cons_inv;obtain⟨cs,hr⟩:=kq (P:=P) (w:=w) ho hb hvs;obtain⟨ad,hv⟩:=g.nils_inv;refine⟨_,?_,(jX.val _).g⟩;rw[hr,gr.nil_inv,hv,htys];simp only[builtin,Sem.run_bind,zd4 hk w ad 0 0,Result.andThen_ok,Sem.run_pure];rfl
    ·rename_i k sz lo n;obtain⟨h0,h⟩:=h;refine⟨_,_,h,.pure λo ho S Pm ρ a w hgs=>?_⟩;have hgs:=qY hb hgs;obtain⟨v,vs',hvs,g,gr⟩:=hgs.cons_inv;obtain⟨cs,hr⟩:=kq (P:=P) (w:=w) ho hb hvs;obtain⟨b,len,cap,cap',_,hv,_⟩:=g.win_inv;refine⟨_,?_,(jX.val _).g⟩;rw[hr,gr.nil_inv,hv,htys];simp only[builtin,Sem.run_bind,zd4 hk w (some ⟨b,lo.toNat*sz,none⟩) n.toNat cap',Result.andThen_ok,Sem.run_pure];rw[QO h0]
    ·exact h.elim
   ·exact h.elim
  ·exact h.elim
 ·rename_i s
  split at h
  ·rename_i t htys;have htys:=zgV htys;replace h:=zt h;obtain⟨i,hi,h⟩:=h;have hk:=(hT t i hi).kind
   split at h
   ·rename_i e hkind;rw[hkind]at hk;have hk:P.underlying t=some (.slice e):=hk
    split at h
    ·refine⟨_,_,h,.pure λo ho S Pm ρ a w hgs=>?_⟩;have hgs:=qY hb hgs;obtain⟨v,vs',hvs,g,gr⟩:=hgs.cons_inv;obtain⟨cs,hr⟩:=kq (P:=P) (w:=w) ho hb hvs;refine⟨_,?_,(jX.val _).g⟩;rw[hr,gr.nil_inv,g.val_inv,htys];simp only[builtin,Sem.run_bind,zrT hk w none 0 0,Result.andThen_ok,Sem.run_pure];rfl
    ·refine⟨_,_,h,.pure λo ho S Pm ρ a w hgs=>?_⟩;have hgs:=qY hb hgs;obtain⟨v,vs',hvs,g,gr⟩:=hgs.cons_inv;obtain⟨cs,hr⟩:=kq (P:=P) (w:=w) ho hb hvs;obtain⟨ad,hv⟩:=g.nils_inv;refine⟨_,?_,(jX.val _).g⟩;rw[hr,gr.nil_inv,hv,htys];simp only[builtin,Sem.run_bind,zrT hk w ad 0 0,Result.andThen_ok,Sem.run_pure];rfl
    ·exact h.elim
   ·exact h.elim
  ·exact h.elim
 ·rename_i s _;obtain⟨k,x,r,hK,he⟩:=zgW h;refine⟨_,_,hK,.pure λo ho S Pm ρ a w hgs=>?_⟩;have hgs:=qY hb hgs;obtain⟨us,hvs,hl,hy⟩:=he hgs;obtain⟨cs,hr⟩:=kq (P:=P) (w:=w) ho hb hvs;refine⟨_,?_,(jX.val _).g⟩;rw[hr];simp only[builtin,Builtin.min_,Sem.run_bind,zoi r us x hl hy,Result.andThen_ok,Sem.run_pure]
 ·rename_i s _;obtain⟨k,x,r,hK,he⟩:=zgW h;refine⟨_,_,hK,.pure λo ho S Pm ρ a w hgs=>?_⟩;have hgs:=qY hb hgs;obtain⟨us,hvs,hl,hy⟩:=he hgs;obtain⟨cs,hr⟩:=kq (P:=P) (w:=w) ho hb hvs;refine⟨_,?_,(jX.val _).g⟩;rw[hr];simp only[builtin,Builtin.max_,Sem.run_bind,zoj r us x hl hy,Result.andThen_ok,Sem.run_pure]
 ·rename_i s x
  split at h
  ·rename_i kx n;unfold zrM at h
   split at h
   ·rename_i t t' htys;have htys:=zd3 htys;replace h:=zt h;obtain⟨i,hi,h⟩:=h;replace h:=zt h;obtain⟨i',hi',h⟩:=h;have hk:=(hT t i hi).kind;have hk':=(hT t' i' hi').kind
    split at h
    ·rename_i e kn hkind hkind';rw[hkind]at hk;rw[hkind']at hk';have hk:P.underlying t=some (.slice e):=hk;have hk':P.underlying t'=some (.int kn):=hk';replace h:=zt h;obtain⟨j,hj,h⟩:=h;obtain⟨f,h1,h2,h3,z,h4,h5,h6,h7,h8⟩:=(hT e j hj).inf;have hzl:z.cells=j.zero.toArray:=by rw[← h5]
     have hzs:z.cells.size=f.size:=by rw[h2,← h7,← h5];simp
     obtain⟨α,enc,x0,hz,h⟩:=h;obtain⟨e0,e1,e2,e3⟩:=h.ob;refine⟨_,_,h.go,λo ho Keep M ρ a w hlm hm hκ hκM hgs=>?_⟩;replace hκ:=hκ _ (Xh _) (XV _);replace hκM:=hκM rfl;have hgs:=qY hb hgs;obtain⟨v,vs',hvs,g,gr⟩:=hgs.cons_inv;obtain⟨vx,vs'',hvs',gx,gn⟩:=gr.cons_inv;subst hvs';have hn:=gn.nil_inv;subst hn;obtain⟨cs,hr⟩:=kq (P:=P) (w:=w) ho hb hvs;rw[g.val_inv,gx.val_inv]at hr;obtain⟨N,hN⟩:∃N:Nat,n=N:=⟨n.toNat,oM⟩;subst hN
     have hbytes:N*f.bytes<=140737488355328:=by rw[h3];exact Ju.1 (by rw[X0];exact e2)
     have hrun:=Lib.run_append_nil_zeros (P:=P) w t t' o.type e f z kx kn hk hk' h1 h4 N oM oM oM oM;refine qE.value (by rw[hr,htys];simp only[builtin,Sem.run_bind,hrun,Result.andThen_ok,Sem.run_pure];rfl) ?_;have hge:=grownCap_ge w N 0 e
     have hmg:∀q,(Builtin.zeroCells z.cells N).toList[q]? =if q < N*j.sz then j.zero[q % j.sz]? else none:=λq=>by
      have:=zfD j.zero N q;rw[h7]at this;rw[← this,hzl];unfold madeCells Builtin.zeroCells;simp[h7]
     refine k7.push (u:=.slice (some ⟨w.heap.size,0,none⟩) N (grownCap w N 0 e)) (hm.grow (λ_ h=>h) hm.keys hκ hκM _ _ _ rfl rfl (.cells w.drew _ _) (by simp) (λb hb _=>heap_alloc_old w.drew _ b hb)
      (λk m v b g1 g2 g3=>heap_alloc_old w.drew _ b (hm.old b ⟨k,m,v,g1,g2,g3⟩).1) ?_ ?_) (.own _ _ ky rfl)
     ·intro b hb;have hb:b=w.heap.size:=by simp[qu]at hb;exact hb.symm
      subst hb;exact⟨.inr (Xh _),by simp,λk m v1 g1 g2 g3=>by have:=(hm.old _ ⟨k,m,v1,g1,g2,g3⟩).1;omega⟩
     ·intro hs
      refine⟨_,(Builtin.zeroCells z.cells N).toList,ky,⟨by rw[KO,size_zeroCells,hzs,h2,Ke,XX],.inr ⟨w.heap.size,grownCap w N 0 e,_,by rw[Ke,XX],Xe _,heap_alloc_new w.drew _,by simpa using hge,grownCap_le_maxLen w _ 0 e (by unfold maxLen;omega),?_,?_⟩⟩,by simp;omega,
       λu hu=>?_,λx hx=>by rw[KF hx,hz];simp[vals,h7],λp q x s hx hs'=>?_⟩
      ·simp only[QZ,size_zeroCells,hzs,h2,← XW];congr 1;omega
      ·simp only[QN,Ke,XX];rw[KB (by simp[size_zeroCells,hzs,h2])];exact Xg (by simp[size_zeroCells,hzs,h2])
      ·obtain⟨q,hq,rfl⟩:=Jl.1 hu;have:=hmg q;rw[Xb hq]at this
       split at this
       ·exact h8 _ (Xd this.symm)
       ·cases this
      ·have hxm:=KF (Xd hx);subst hxm;have hp:p < N:=by simpa using (Xc.1 hx).1
       have hqj:q < j.sz:=by
        have:=(Xc.1 hs').1;rw[hz]at this;simpa[vals,h7] using this
       have h9:p*j.sz+j.sz<=N*j.sz:=by
        have:=Xp j.sz (show p+1<=N by omega);rw[XT]at this;exact this
       have hmod:(p*j.sz+q) % j.sz=q:=by rw[Ks,Qk];exact Xu hqj
       rw[hmg,if_pos oM,hmod];rw[hz]at hs';simp only[vals,XA]at hs'
       cases hu:j.zero[q]? with
       | none=>simp[hu]at hs'
       | some u=>
        simp[hu]at hs';subst hs';exact⟨u,rfl,.val u⟩
    ·exact h.elim
   ·exact h.elim
  ·rename_i k'
   split at h
   ·rename_i hlk';exact zkR hT hb hlk' h
   ·exact zfE hT hb h
  ·exact zfE hT hb h
 ·rename_i d x
  split at h
  ·rename_i t t' htys;have htys:=zd3 htys;replace h:=zt h;obtain⟨i,hi,h⟩:=h;have hk:=(hT t i hi).kind
   split at h
   ·rename_i e hkind;rw[hkind]at hk;have hk:P.underlying t=some (.slice e):=hk;replace h:=zt h;obtain⟨j,hj,h⟩:=h;obtain⟨f,h1,h2,h3,z,h4,h5,h6,h7,h8⟩:=(hT e j hj).inf
    split at h
    ·rename_i k
     split at h
     ·rename_i T α enc sz xs hlk;replace h:=zh h;obtain⟨hss,h⟩:=h;have hss:=Xf hss;unfold zfy at h;obtain⟨ys,hra,h⟩:=h;obtain⟨e1,e2,e3,e4,e5⟩:=h.ob;refine⟨_,_,h.go,λo ho Keep M ρ a w hlm hm _ _ hgs=>?_⟩;have hmem:=zA (hlm k _ hlk);have hgs:=qY hb hgs;obtain⟨v,vs',hvs,g,gr⟩:=hgs.cons_inv;obtain⟨vx,vs'',hvs',gx,gn⟩:=gr.cons_inv;subst hvs';have hn:=gn.nil_inv;subst hn;obtain⟨news,hsrc⟩:=ua hra hlm hm gx e1 e5;obtain⟨cs,hr⟩:=kq (P:=P) (w:=w) ho hb hvs;obtain⟨hv,_⟩:=g.own_inv
      obtain⟨v0,cells,hρ,hown,hnl,_⟩:=hm.rel k _ hmem;rw[hv]at hρ;cases hρ
      rcases hown.2 with⟨rfl,hx0⟩ | ⟨g',cap,cur,rfl,_⟩
      ·have hx0:xs=[]:=Xn hx0;subst hx0
       have hrun:(Builtin.copy_ #[t,t'] o.type #[.slice none 0 0,vx]).run P w=.ok (.int .i64 0) w:=by
        rcases hsrc.2.2.2 with⟨rfl,_⟩ | ⟨a',c',rfl,_⟩
        ·simp[Builtin.copy_,run_underlying hk,sizeOf,typeInfo,h1,Builtin.lenOf,Builtin.firstCells,goInt]
        ·simp[Builtin.copy_,run_underlying hk,sizeOf,typeInfo,h1,Builtin.lenOf,Builtin.firstCells,goInt,loadCells,loadCellsFrom]
       refine qE.value (v:=.int .i64 0) (w':=w) (by rw[hr,htys];simp only[builtin,Sem.run_bind,hrun,Result.andThen_ok,Sem.run_pure]) ?_;have hsame:=zli (hlm k _ hlk);have e0:(Mem.arr T enc sz (List.take (Int.toNat 0) ([]:List α)++(List.take (Int.toNat (([]:List α).length:Int)) ys++List.drop (Int.toNat 0+min ys.length (Int.toNat (([]:List α).length:Int))) [])))=Mem.arr T enc sz []:=by simp
       rw[e0];refine⟨ρ,?_,?_,?_,λ_ _=>rfl⟩
       ·show Stp (Own M ρ) (Own (qL M k _) ρ) ρ ρ w w;rw[hsame];exact .refl
       ·show zN Keep (qL M k _) ρ w;rw[hsame];exact hm
       ·exact .d _ _ (by simpa using D.val (S:=λb=>Keep b∨Own (zca M κ (.set k (.arr T enc sz []))) ρ b) (w:=w) (.int .i64 0))
      ·exact zon (t':=t') (cap':=cap) hk h1 hm hmem (h2.trans hss.symm) hv (lo:=0) (n:=xs.length) oM hsrc e5 (λv w' hx=>by
        rw[QI]at hx
        rw[hr,htys];simp only[builtin,Sem.run_bind,hx,Result.andThen_ok,Sem.run_pure])
     ·exact h.elim
    ·rename_i k sz' lo n
     split at h
     ·rename_i T α enc sz xs hlk;replace h:=zh h;obtain⟨hss,h⟩:=h;have hss:=Xf hss;replace h:=zh h;obtain⟨hss',h⟩:=h;have hss':=Xf hss';subst hss';unfold zfy at h;obtain⟨ys,hra,h⟩:=h;obtain⟨e1,e2,e3,e4,e5⟩:=h.ob;refine⟨_,_,h.go,λo ho Keep M ρ a w hlm hm _ _ hgs=>?_⟩;have hmem:=zA (hlm k _ hlk);have hgs:=qY hb hgs;obtain⟨v,vs',hvs,g,gr⟩:=hgs.cons_inv;obtain⟨vx,vs'',hvs',gx,gn⟩:=gr.cons_inv;subst hvs';have hn:=gn.nil_inv;subst hn;obtain⟨news,hsrc⟩:=ua hra hlm hm gx e1 e5
      obtain⟨cs,hr⟩:=kq (P:=P) (w:=w) ho hb hvs;obtain⟨b,len,cap,cap',hρ,rfl,_,_⟩:=g.win_inv
      exact zon (t':=t') (cap':=cap') hk h1 hm hmem (h2.trans hss.symm) hρ oM hsrc e5 (λv w' hx=>by
       rw[hr,htys];simp only[builtin,Sem.run_bind,hx,Result.andThen_ok,Sem.run_pure])
     ·exact h.elim
    ·exact h.elim
   ·exact h.elim
  ·exact h.elim
 ·rename_i d
  split at h
  ·rename_i t htys;have htys:=zgV htys;replace h:=zt h;obtain⟨i,hi,h⟩:=h;have hk:=(hT t i hi).kind
   split at h
   ·rename_i e hkind;rw[hkind]at hk;have hk:P.underlying t=some (.slice e):=hk;replace h:=zt h;obtain⟨j,hj,h⟩:=h;obtain⟨f,h1,h2,h3,z,h4,h5,h6,h7,h8⟩:=(hT e j hj).inf
    split at h
    ·rename_i k sz' lo n
     split at h
     ·rename_i T α enc sz xs hlk;replace h:=zh h;obtain⟨hss,h⟩:=h;have hss:=Xf hss;replace h:=zh h;obtain⟨hss',h⟩:=h;have hss':=Xf hss';subst hss';obtain⟨x0,hx0,h⟩:=h;obtain⟨e1,e2,e3⟩:=h.ob;refine⟨_,_,h.go,λo ho Keep M ρ a w hlm hm _ _ hgs=>?_⟩;have hmem:=zA (hlm k _ hlk);have hgs:=qY hb hgs;obtain⟨v,vs',hvs,g,gr⟩:=hgs.cons_inv;have hn:=gr.nil_inv;subst hn;obtain⟨cs,hr⟩:=kq (P:=P) (w:=w) ho hb hvs;obtain⟨b,len,cap,cap',hρ,rfl,_,_⟩:=g.win_inv
      exact ztr (cap':=cap') hk h4 h1 h5 (by rw[h7,h2]) h8 hm hmem (h2.trans hss.symm) oM hρ oM hx0 (λv w' hx=>by
       rw[hr,htys];simp only[builtin,Sem.run_bind,hx,Result.andThen_ok,Sem.run_pure])
     ·exact h.elim
    ·exact h.elim
   ·exact h.elim
  ·exact h.elim
 ·exact h.elim
end Go.Gs
