/- The builtins len, min, max and append. -/
import Derived.Test.YtlckjbeknkkllaaGreatDoorMAC
import Derived.Lib.AppendZeros
import Derived.MapKept
import Derived.ChangeMaps4
set_option maxRecDepth 100000
set_option maxHeartbeats 8000000
set_option linter.all false
namespace Go.Gs
section
def Live(lm:LH)(svs:LQ):Prop:=∃(Keep:LG) (M:LT) (ρ:ze) (w:World) (vs:LZ),
 (∀k m,lm k=some m->zH M k=some m)/\zB Keep M ρ w/\Gs (λb=>Keep b∨Own M ρ b) (Own M ρ) ρ w svs vs
def qK{P:Program}{o:Oper}{c:Call}{b:Builtin}(ho:o.op=.call c)(hb:c.callee=.builtin b){a:Act}{w:World}{vs:LZ}(hv:c.args.toList.map a.eval=vs):
  ∃cs,(execOp a.eval o).run P w=(builtin b c.argTypes o.type cs vs.toArray).run P w:=by
 have h:c.args.map a.eval=vs.toArray:=by apply QT;simp[hv]
 have h2:∃cs,(do let d ←resolve a.eval c o.type;invoke d.target d.args:Sem Next)=builtin b c.argTypes o.type cs (c.args.map a.eval):=by
  unfold resolve;rw[hb];exact⟨_,rfl⟩
 obtain⟨cs,h2⟩:=h2;refine⟨cs,?_⟩;simp only[execOp,ho];rw[h2,h]
variable{c:Call}{b:Builtin}{S:LG}{Pm:LG}{ρ:ze}{svs:LQ}
def uI(hb:c.callee=.builtin b){a:Act}{w:World}(h:Gs S Pm ρ w svs ((kL (.call c)).map a.eval)):
  Gs S Pm ρ w svs (c.args.toList.map a.eval):=by simpa[kL,hb,zdC] using h
variable{tys:Array TypeId}
def zgD{t:TypeId}(h:tys.toList=[t]):tys=#[t]:=by apply QT;simpa using h
def zgE{t u:TypeId}(h:tys.toList=[t,u]):tys=#[t,u]:=by apply QT;simpa using h
variable{P:Program}{e:TypeId}{ty:TypeId}
def zAJ{t:TypeId}(ht:P.underlying t=some (.slice e))(w:World)(a:Option Addr)(n c:Nat):(Builtin.len_ #[t] ty #[.slice a n c]).run P w=.ok (.int .i64 n) w:=by
 simp[Builtin.len_,run_underlying ht,goInt]
def zAK{t:TypeId}(ht:P.underlying t=some (.slice e))(w:World)(a:Option Addr)(n c:Nat):(Builtin.cap_ #[t] ty #[.slice a n c]).run P w=.ok (.int .i64 c) w:=by
 simp[Builtin.cap_,run_underlying ht,goInt]
variable{α:Type}{xs:List α}
def zwY{w:World}{enc:α->LQ}{v:Value}(h:G S Pm ρ w (.sl enc xs) v):
  xs.length<=9223372036854775807/\∃a cap,v=.slice a xs.length cap/\xs.length<=cap:=by
 obtain⟨rfl,a,rfl⟩|⟨_,b,o,cap,_,rfl,_,_,h1,h2,_⟩:=h.sl_inv.sl_inv
 ·exact⟨sI,a,0,rfl,sI⟩
 exact⟨h1,_,cap,rfl,h2⟩
variable{Keep:LG}{M:LT}{sz:Nat}
def zsU{w:World}(hm:zB Keep M ρ w){k:Nat}{T:TypeId}{enc:α->LQ}(hk:(k,Mem.arr T enc sz xs)∈M){v:Value}(hv:ρ k=some v):xs.length<=281474976710656/\∃a cap,v=.slice a xs.length cap/\xs.length<=cap:=by
 obtain⟨v',cells,hρ,hown,hlen,_⟩:=hm.rel k _ hk;rw[hv]at hρ;cases hρ
 obtain⟨rfl,h0⟩|⟨g,cap,cur,rfl,_,_,hnc,_⟩:=hown.2
 ·have h0:xs.length=0:=h0;exact⟨hlen,none,0,by rw[h0],oM⟩
 exact⟨hlen,_,cap,rfl,hnc⟩
def zox{w:World}(hm:zB Keep M ρ w){k:Nat}{T:TypeId}{xs:LM}(hk:(k,Mem.garr T sz xs)∈M){v:Value}(hv:ρ k=some v):xs.length<=281474976710656/\∃a cap,v=.slice a xs.length cap/\xs.length<=cap:=by
 obtain⟨v',cells,hρ,hown,hlen,_⟩:=hm.rel k _ hk;rw[hv]at hρ;cases hρ
 obtain⟨rfl,h0⟩|⟨g,cap,cur,rfl,_,_,hnc,_⟩:=hown.2
 ·have h0:xs.length=0:=h0;exact⟨hlen,none,0,by rw[h0],oM⟩
 exact⟨hlen,_,cap,rfl,hnc⟩
def zgF:∀{s:LQ} {K:IntKind->LU->Prop},zkP s K->∃(k:IntKind) (x:Int) (r:LU),K k (x::r)/\
  ∀{S Pm:LG} {ρ:ze} {w:World} {vs:LZ},Gs S Pm ρ w s vs->∃us:LZ,vs=.int k x::us/\us.length=r.length/\∀(j:Nat) (y:Int),r[j]?=some y->∃k',us[j]?=some (.int k' y)
 |[],K,h=>by simp[zkP]at h
 |s::r,K,h=>by
  unfold zkP at h
  split at h
  ·rename_i k m r' heq
   cases heq
   split at h
   ·refine⟨k,m,[],h,λhg=>?_⟩;obtain⟨v,vs',rfl,h1,h2⟩:=hg.cons_inv;exact⟨[],by rw[h1.val_inv,h2.nil_inv],rfl,λj y hy=>by simp at hy⟩
   obtain⟨k2,x2,r2,hK,hg2⟩:=zgF h;refine⟨k,m,x2::r2,hK,λhg=>?_⟩;obtain⟨v,vs',rfl,h1,h2⟩:=hg.cons_inv;obtain⟨us,rfl,hl,hy⟩:=hg2 h2;refine⟨.int k2 x2::us,by rw[h1.val_inv],by simp[hl],λj y hj=>?_⟩
   cases j with
   |zero=>simp at hj;subst hj;exact⟨k2,rfl⟩
   |succ j=>simpa using hy j y (by simpa using hj)
  exact h.elim
def zoy{P:Program}{w:World}{k:IntKind}:∀(r:LU) (us:LZ) (x:Int),us.length=r.length->(∀(j:Nat) (y:Int),r[j]?=some y->∃k',us[j]?=some (.int k' y))->
  (us.foldlM Builtin.min2 (.int k x)).run P w=.ok (.int k (zcE x r)) w
 |[],us,x,hl,_=>by
  have:us=[]:=Xo hl;subst this;simp[zcE]
 |y::r,us,x,hl,hy=>by
  cases us with
  |nil=>simp at hl
  |cons u us=>
   obtain⟨k',hu⟩:=hy 0 y rfl;simp at hu;subst hu;have hmin:(if y<x then y else x)=min x y:=oM;simp only[List.foldlM_cons,Builtin.min2,Sem.run_bind,Sem.run_pure,Result.andThen_ok,hmin,zcE];exact zoy r us (min x y) (by simpa using hl) (λj z hz=>by simpa using hy (j+1) z (by simpa using hz))
def zoz{P:Program}{w:World}{k:IntKind}:∀(r:LU) (us:LZ) (x:Int),us.length=r.length->(∀(j:Nat) (y:Int),r[j]?=some y->∃k',us[j]?=some (.int k' y))->
  (us.foldlM Builtin.max2 (.int k x)).run P w=.ok (.int k (zfk x r)) w
 |[],us,x,hl,_=>by
  have:us=[]:=Xo hl;subst this;simp[zfk]
 |y::r,us,x,hl,hy=>by
  cases us with
  |nil=>simp at hl
  |cons u us=>
   obtain⟨k',hu⟩:=hy 0 y rfl;simp at hu;subst hu;have hmax:(if y > x then y else x)=max x y:=oM;simp only[List.foldlM_cons,Builtin.max2,Sem.run_bind,Sem.run_pure,Result.andThen_ok,hmax,zfk];exact zoz r us (max x y) (by simpa using hl) (λj z hz=>by simpa using hy (j+1) z (by simpa using hz))
def Src(S:LG)(w:World)(enc:α->LQ)(sz:Nat)(ys:List α)(v:Value)(news:LZ):Prop:=
 news.length=ys.length*sz/\(∀u∈news,u.oneCell'=true)/\
 (∀(i j:Nat) y (s:SV),ys[i]?=some y->(enc y)[j]?=some s->∃u,news[i*sz+j]?=some u/\D S w s u)/\
 ((v=.slice none 0 0/\ys=[])∨∃a c,v=.slice (some a) ys.length c/\∀(j:Nat) (u:Value),news[j]?=some u->w.cell? (a.add j)=some u)
variable{ys:List α}
def zoA{w:World}{enc:α->LQ}{v:Value}(hd:D S w (.sl enc ys) v)(h0:0<sz)(hsz:∀x∈ys,(enc x).length=sz):
  ∃news,Src S w enc sz ys v news:=by
 obtain⟨rfl,a,rfl⟩|⟨sz',b,o,cap,c,rfl,hb,hS,hlen,hcap,hesz,hc,he⟩:=hd.sl_inv
 ·cases a with
  |none=>exact⟨[],sI,sI,λi j y s h=>by simp at h,.inl ⟨rfl,rfl⟩⟩
  |some a=>exact⟨[],sI,sI,λi j y s h=>by simp at h,.inr ⟨a,0,rfl,λj u hu=>by simp at hu⟩⟩
 have hs:ys≠[]->sz'=sz:=λhne=>by
  obtain⟨x,hx⟩:=Q4 ys hne;rw[←hesz x hx,←hsz x hx]
 have hq:∀q,q<ys.length*sz->q/sz<ys.length/\q%sz<sz/\sz'=sz/\q/sz*sz+q%sz=q:=λq hq=>by
  have h1:q/sz<ys.length:=(XZ h0).2 hq;refine⟨h1,Kr _ h0,hs (λe=>by rw[e]at h1;simp at h1),?_⟩;rw[Ky];exact Ka q sz
 refine⟨(List.range (ys.length*sz)).map λq=>c (q/sz) (q%sz),sI,?_,?_,.inr ⟨_,cap,rfl,?_⟩⟩
 ·intro u hu;obtain⟨q,hq',rfl⟩:=XL.1 hu;obtain⟨h1,h2,h3,_⟩:=hq q (XT.1 hq');exact(hc _ _ h1 (h3 ▸ h2)).2
 ·intro i j y s hy hs';have hi:i<ys.length:=(Xd.1 hy).1
  have hj:j<sz:=by
   have:=(Xd.1 hs').1;rw[hsz y (Xf hy)]at this;exact this
  have hlt:i*sz+j<ys.length*sz:=by
   have:=Xs sz (X3 hi);rw[X4]at this;omega
  have e1:(i*sz+j)/sz=i:=by rw[Ky,QD h0];simp[KK hj]
  have e2:(i*sz+j)%sz=j:=by rw[Ky,QE];exact Xw hj
  refine⟨c i j,by simp[hlt,e1,e2],he i j y s hy hs'⟩
 intro q u hu;have hq':q<ys.length*sz:=by have:=(Xd.1 hu).1;simpa using this
 obtain⟨h1,h2,h3,h4⟩:=hq q hq';simp[hq']at hu;subst hu;subst h3;rw[jx];have:=(hc _ _ h1 h2).1;rw[KE,h4]at this;exact this
variable{lm:LH}
def u3{s:SV}{enc:α->LQ}(h:zcF lm s enc ys){w:World}(hlm:∀k m,lm k=some m->zH M k=some m)(hm:zB Keep M ρ w){v:Value}(hg:G (λb=>Keep b∨Own M ρ b) (Own M ρ) ρ w s v)(h0:0<sz)(hsz:∀x∈ys,(enc x).length=sz):∃news,Src (λb=>Keep b∨Own M ρ b) w enc sz ys v news:=by
 unfold zcF at h
 split at h
 ·subst h;rw[hg.val_inv];exact⟨[],sI,sI,λi j y s h=>by simp at h,.inl ⟨rfl,rfl⟩⟩
 ·rename_i k;simp only[zhm]at h
  split at h
  ·rename_i T β enc' sz' xs hlk
   cases h
   obtain⟨hv,_⟩:=hg.own_inv;obtain⟨v',cells,hρ,hown,hlen,hone,hesz,hcells⟩:=hm.rel k _ (zn (hlm k _ hlk));rw[hv]at hρ;cases hρ
   obtain⟨rfl,he⟩|⟨g,cap,cur,rfl,_,hheap,hnc,hcm,hcs,htake⟩:=hown.2
   ·have:ys=[]:=Xo he;subst this;exact⟨[],sI,sI,λi j y s h=>by simp at h,.inl ⟨rfl,rfl⟩⟩
   by_cases hne:ys=[]
   ·subst hne;exact⟨[],sI,sI,λi j y s h=>by simp at h,.inr ⟨_,cap,rfl,λj u hu=>by simp at hu⟩⟩
   obtain⟨x,hx⟩:=Q4 ys hne;have:sz'=sz:=by rw[←hesz x hx,←hsz x hx]
   subst this;exact⟨cells,hown.1,hone,hcells,.inr ⟨_,cap,rfl,λj u hu=>by rw[jx,X9];exact zam hheap htake hu⟩⟩
  cases h
 subst h;exact zoA hg.sl_inv h0 hsz
def zan{P:Program}{t ty e:TypeId}{f:TypeInfo}{z:Value}(ht:P.underlying t=some (.slice e))(hi:P.info? e=some f)(hz:f.zero=some z)(hzs:z.cells.size=f.size){w:World}{v:Value}{n:Nat}{cells:LZ}(hown:w.ownsRow 0 e f.size v n cells){S:LG}{α:Type}{enc:α->LQ}{ys:List α}{vx:Value}{news:LZ}(hs:Src S w enc f.size ys vx news)(h63:n+ys.length<=maxLen)(hbytes:(n+ys.length)*f.bytes<=140737488355328):
  ∃v' w',(Builtin.append_ #[t,t] ty #[v,vx]).run P w=.ok v' w'/\w'.ownsRow 0 e f.size v' (n+ys.length) (cells++news)/\w'.os=w.os/\w'.tape=w.tape/\kr w w'/\w.heap.size<=w'.heap.size/\
   (∀b,b<w.heap.size->kI v≠some b->w'.heap[b]?=w.heap[b]?)/\(kI v'=kI v∨(kI v'=some w.heap.size/\w.heap.size<w'.heap.size))/\v'.oneCell'=true:=by
 obtain⟨hl,hone,_,hv⟩:=hs;have h63':(n+ys.length:Int)<=9223372036854775807:=by unfold maxLen at h63;omega
 have made:∀(old:Nat),old<n+ys.length->(w.drew.alloc (.cells (cells.toArray++news.toArray++Builtin.zeroCells z.cells (grownCap w (n+ys.length) old e-(n+ys.length))) e)).ownsRow 0 e f.size
    (.slice (some ⟨w.heap.size,0,none⟩) (n+ys.length) (grownCap w (n+ys.length) old e)) (n+ys.length) (cells++news):=by
  intro old _;have hge:=grownCap_ge w (n+ys.length) old e;have hcl:=hown.1;refine⟨by rw[Xp,hcl,hl,X6],.inr ⟨w.heap.size,_,_,rfl,Xg _,heap_alloc_new w.drew _,hge,grownCap_le_maxLen w _ old e h63,?_,?_⟩⟩
  ·simp only[Jl,KU,size_zeroCells,hzs,hcl,hl,←X6];congr 1;omega
  simp only[Q6];rw[Kz (by simp[hcl,hl,X6])];exact Xk (by simp[hcl,hl,X6])
 obtain⟨rfl,rfl⟩|⟨a,c,rfl,hcells⟩:=hv
 ·have hn:news=[]:=Xo (by simpa using hl);subst hn
  obtain⟨rfl,h0⟩|⟨g,cap,cur,rfl,_,hheap,hnc,hcm,hcs,htake⟩:=hown.2
  ·refine⟨.slice none 0 0,w,?_,?_,rfl,rfl,.refl _,Xi _,λ_ _ _=>rfl,.inl rfl,rfl⟩
   ·simp[Builtin.append_,run_underlying ht,sizeOf,typeInfo,hi,Builtin.lenOf,Builtin.firstCells]
   subst h0;have hc0:cells=[]:=Xo (by simpa using hown.1);subst hc0;exact World.ownsRow_nil w 0 e f.size
  refine⟨.slice (some ⟨g,0,none⟩) n cap,w,?_,?_,rfl,rfl,.refl _,Xi _,λ_ _ _=>rfl,.inl rfl,rfl⟩
  ·simp[Builtin.append_,run_underlying ht,sizeOf,typeInfo,hi,Builtin.lenOf,Builtin.firstCells,hnc,storeCells]
  simpa using hown
 obtain⟨rfl,rfl⟩|⟨g,cap,cur,rfl,_,hheap,hnc,hcm,hcs,htake⟩:=hown.2
 ·have hc0:cells=[]:=Xo (by simpa using hown.1);subst hc0
  by_cases hy:ys.length=0
  ·have hn:news=[]:=Xo (by simpa[hy] using hl);subst hn;refine⟨.slice none 0 0,w,?_,?_,rfl,rfl,.refl _,Xi _,λ_ _ _=>rfl,.inl rfl,rfl⟩
   ·simp[Builtin.append_,run_underlying ht,sizeOf,typeInfo,hi,Builtin.lenOf,Builtin.firstCells,hy,loadCells,loadCellsFrom]
   rw[hy];exact World.ownsRow_nil w 0 e f.size
  have hr:=run_append_nil (P:=P) w t ty e f z ht hi hz a ys.length c news hl hcells oM (by simpa using h63') (by have hb:=hbytes;simp only[X9]at hb;omega);have hgr:=made 0 oM;simp only[X9,QC,Array.empty_append]at hgr ⊢;exact⟨_,_,hr,hgr,rfl,rfl,.cells w.drew _ _,sI,λb hb _=>heap_alloc_old w.drew _ b hb,.inr ⟨rfl,sI⟩,rfl⟩
 have hcl:=hown.1
 by_cases hroom:n+ys.length<=cap
 ·have hfit:n*f.size+news.length<=cur.size:=by rw[hl,hcs,←X6];exact Xs _ hroom
  have hr:=run_append_room (P:=P) w t ty e f ht hi g n cap cur hheap a ys.length c news hl hcells hone hroom hfit
  refine⟨_,_,hr,⟨by rw[Xp,hcl,hl,X6],.inr ⟨g,cap,_,rfl,Xg _,setRow_heap w g cur _ e _ hheap,hroom,hcm,?_,?_⟩⟩,rfl,rfl,.setRow _ _ _,sI,
   λb _ hne=>setRow_other w g b _ (λe=>hne (by simp[kI,e])),.inl rfl,rfl⟩
  ·simp only[KU,Xp,Xv,KJ,Qv];omega
  rw[htake,X6,←hl,←hcl];rw[Kz sI];exact Xk sI
 have holds:∀(j:Nat) (u:Value),cells[j]?=some u->w.cell? ((⟨g,0,none⟩:Addr).add j)=some u:=λj u hu=>by rw[jx,X9];exact zam hheap htake hu
 have hr:=run_append_grow (P:=P) w t ty e f z ht hi hz ⟨g,0,none⟩ n cap cells hcl holds a ys.length c news hl hcells oM (by push_cast;exact h63') (growslice_fits oM hbytes);exact⟨_,_,hr,made cap oM,rfl,rfl,.cells w.drew _ _,sI,λb hb _=>heap_alloc_old w.drew _ b hb,.inr ⟨rfl,sI⟩,rfl⟩
def zoB{P:Program}{t ty e:TypeId}{f:TypeInfo}{z:Value}(ht:P.underlying t=some (.slice e))(hi:P.info? e=some f)(hz:f.zero=some z)(hzs:z.cells.size=f.size){w:World}(ad:Option Addr){S:LG}{α:Type}{enc:α->LQ}{ys:List α}{vx:Value}{news:LZ}(hs:Src S w enc f.size ys vx news)(hne:ys≠[])(h63:ys.length<=maxLen)(hbytes:ys.length*f.bytes<=140737488355328):
  ∃v' w',(Builtin.append_ #[t,t] ty #[.slice ad 0 0,vx]).run P w=.ok v' w'/\w'.ownsRow 0 e f.size v' ys.length news/\w'.os=w.os/\w'.tape=w.tape/\kr w w'/\w.heap.size<=w'.heap.size/\
   (∀b,b<w.heap.size->w'.heap[b]?=w.heap[b]?)/\(kI v'=some w.heap.size/\w.heap.size<w'.heap.size)/\v'.oneCell'=true:=by
 obtain⟨hl,hone,_,hv⟩:=hs;have h63':(ys.length:Int)<=9223372036854775807:=by unfold maxLen at h63;omega
 have hpos:0<ys.length:=JN.2 hne
 have made:(w.drew.alloc (.cells (news.toArray++Builtin.zeroCells z.cells (grownCap w ys.length 0 e-ys.length)) e)).ownsRow 0 e f.size
    (.slice (some ⟨w.heap.size,0,none⟩) ys.length (grownCap w ys.length 0 e)) ys.length news:=by
  have hge:=grownCap_ge w ys.length 0 e;refine⟨hl,.inr ⟨w.heap.size,_,_,rfl,Xg _,heap_alloc_new w.drew _,hge,grownCap_le_maxLen w _ 0 e h63,?_,?_⟩⟩
  ·simp only[Jl,KU,size_zeroCells,hzs,hl,←X6];congr 1;omega
  simp only[Q6];rw[Kz (by simp[hl])];exact Xk (by simp[hl])
 obtain⟨_,rfl⟩|⟨a,c,rfl,hcells⟩:=hv
 ·exact absurd rfl hne
 cases ad with
 |none=>
  have hr:=run_append_nil (P:=P) w t ty e f z ht hi hz a ys.length c news hl hcells oM h63' oM;exact⟨_,_,hr,made,rfl,rfl,.cells w.drew _ _,sI,λb hb=>heap_alloc_old w.drew _ b hb,⟨rfl,sI⟩,rfl⟩
 |some g=>
  have hr:=run_append_grow (P:=P) w t ty e f z ht hi hz g 0 0 [] sI (λj u hu=>by simp at hu) a ys.length c news hl hcells oM (by simpa using h63') (growslice_fits oM (by simpa using hbytes));simp only[X9,Array.empty_append]at hr;exact⟨_,_,hr,made,rfl,rfl,.cells w.drew _ _,sI,λb hb=>heap_alloc_old w.drew _ b hb,⟨rfl,sI⟩,rfl⟩
def zoC{P:Program}{t ty e:TypeId}{f:TypeInfo}{z:Value}(ht:P.underlying t=some (.slice e))(hi:P.info? e=some f)(hz:f.zero=some z)(hzs:z.cells.size=f.size){w:World}(ad:Option Addr){S:LG}{α:Type}{enc:α->LQ}{xs ys:List α}{vx:Value}{olds news:LZ}(ho:Src S w enc f.size xs (.slice ad xs.length xs.length) olds)(hs:Src S w enc f.size ys vx news)(hne:ys≠[])(h63:xs.length+ys.length<=maxLen)(hbytes:(xs.length+ys.length)*f.bytes<=140737488355328):
  ∃v' w',(Builtin.append_ #[t,t] ty #[.slice ad xs.length xs.length,vx]).run P w=.ok v' w'/\w'.ownsRow 0 e f.size v' (xs.length+ys.length) (olds++news)/\w'.os=w.os/\w'.tape=w.tape/\kr w w'/\w.heap.size<=w'.heap.size/\
   (∀b,b<w.heap.size->w'.heap[b]?=w.heap[b]?)/\(kI v'=some w.heap.size/\w.heap.size<w'.heap.size)/\v'.oneCell'=true:=by
 obtain⟨hl,hone,_,hv⟩:=hs;obtain⟨hol,_,_,hov⟩:=ho;have h63':(xs.length+ys.length:Int)<=9223372036854775807:=by unfold maxLen at h63;omega
 have hpos:0<ys.length:=JN.2 hne
 have made:∀old:Nat,(w.drew.alloc (.cells (olds.toArray++news.toArray++Builtin.zeroCells z.cells (grownCap w (xs.length+ys.length) old e-(xs.length+ys.length))) e)).ownsRow 0 e f.size
    (.slice (some ⟨w.heap.size,0,none⟩) (xs.length+ys.length) (grownCap w (xs.length+ys.length) old e)) (xs.length+ys.length) (olds++news):=by
  intro old;have hge:=grownCap_ge w (xs.length+ys.length) old e;refine⟨by rw[Xp,hol,hl,X6],.inr ⟨w.heap.size,_,_,rfl,Xg _,heap_alloc_new w.drew _,hge,grownCap_le_maxLen w _ old e h63,?_,?_⟩⟩
  ·simp only[Jl,KU,size_zeroCells,hzs,hol,hl,←X6];congr 1;omega
  simp only[Q6];rw[Kz (by simp[hol,hl,X6])];exact Xk (by simp[hol,hl,X6])
 obtain⟨_,rfl⟩|⟨a,c,rfl,hcells⟩:=hv
 ·exact absurd rfl hne
 cases ad with
 |none=>
  have hx0:xs=[]:=by
   obtain⟨_,h⟩|⟨_,_,h,_⟩:=hov
   ·exact h
   cases h
  subst hx0;have ho0:olds=[]:=Xo (by simpa using hol);subst ho0;have hr:=run_append_nil (P:=P) w t ty e f z ht hi hz a ys.length c news hl hcells oM (by simpa using h63') (by simp only[Xt,X9]at hbytes;omega);have:=made 0;simp only[Xt,X9,QC]at this;refine⟨_,_,hr,?_,rfl,rfl,.cells w.drew _ _,sI,λb hb=>heap_alloc_old w.drew _ b hb,⟨rfl,sI⟩,rfl⟩
  simpa using this
 |some g=>
  have hcell:∀(j:Nat) (u:Value),olds[j]?=some u->w.cell? (g.add j)=some u:=by
   obtain⟨h,_⟩|⟨a',c',h,hc⟩:=hov
   ·cases h
   cases h;exact hc
  have hr:=run_append_grow (P:=P) w t ty e f z ht hi hz g xs.length xs.length olds (by simp[hol]) hcell a ys.length c news hl hcells oM (by simpa using h63') (growslice_fits oM (by simpa using hbytes));exact⟨_,_,hr,made _,rfl,rfl,.cells w.drew _ _,sI,λb hb=>heap_alloc_old w.drew _ b hb,⟨rfl,sI⟩,rfl⟩
def zuI:∀{M:LT} {k:Nat} {m:Mem},zH M k=some m->kO M k m=M
 |[],_,_,h=>by simp[zH]at h
 |(k',m')::r,k,m,h=>by
  simp only[zH]at h;simp only[kO]
  split at h
  ·cases h;rfl
  rw[zuI h]
def zAL{P:Program}{Keep:LG}{M:LT}{ρ:ze}{w:World}(hm:zB Keep M ρ w){k:Nat}{T:TypeId}{α:Type}{enc:α->LQ}{sz:Nat}{xs:List α}(hmem:(k,Mem.arr T enc sz xs)∈M){b len cap lo n κ:Nat}(hρ:ρ k=some (.slice (some ⟨b,0,none⟩) len cap))(hln:lo+n<=xs.length){ys:List α}{news:LZ}(hs:news.length=ys.length*sz/\(∀u∈news,u.oneCell'=true)/\(∀(i j:Nat) y (s:SV),ys[i]?=some y->(enc y)[j]?=some s->∃u,news[i*sz+j]?=some u/\D (λb=>Keep b∨Own M ρ b) w s u))(hysz:∀y∈ys,(enc y).length=sz){o:Oper}{a:Act}{r:Value}(hr:∀T cur,w.heap[b]?=some (.cells cur T (0,0))->lo*sz+min ys.length n*sz<=cur.size->(execOp a.eval o).run P w=.ok (.value r)
   (w.setRow b (cur.toList.take (lo*sz)++news.take (min ys.length n*sz)++cur.toList.drop (lo*sz+min ys.length n*sz)).toArray)):
  qk P o a w (kG Keep M ρ w κ (.val r) (.set k (.arr T enc sz (xs.take lo++(ys.take n++xs.drop (lo+min ys.length n)))))):=by
 obtain⟨v0,cells,hρ',hown,hnl,hone0,hesz,hcells⟩:=hm.rel k _ hmem;rw[hρ]at hρ';cases hρ'
 obtain⟨hlen',cur,hheap,hnc,hcm,hcs,htake⟩:=zdF rfl hown;have hcellslen:cells.length=xs.length*sz:=hown.1;have hml:min ys.length n<=n:=Nat.min_le_right _ _;have hmy:min ys.length n<=ys.length:=Nat.min_le_left _ _
 have htk:ys.take n=ys.take (min ys.length n):=by
  rcases Nat.le_total ys.length n with h|h
  ·rw[Qj h,Xk h,Xk (Xi _)]
  rw[Nat.min_eq_right h]
 rw[htk];have hcurlen:xs.length*sz<=cur.toList.length:=by simp[hcs];exact Xs _ hnc
 generalize hmm:min ys.length n=m at*;have hfit:(lo+m)*sz<=xs.length*sz:=Xs _ oM;have hadd:(lo+m)*sz=lo*sz+m*sz:=X6 _ _ _;have hrun:=hr _ _ hheap (by simp at hcurlen;omega)
 have hnews:(news.take (m*sz)).length=m*sz:=by
  rw[Xv,hs.1];exact Qj (Xs _ hmy)
 refine qk.value hrun<|kG.set (hm.write _ hmem hρ rfl _ λhst=>?_) (.d _ _ (.val _));have hxl:(xs.take lo++(ys.take m++xs.drop (lo+m))).length=xs.length:=by simp only[Xp,Xv,KJ];omega
 refine⟨_,cells.take (lo*sz)++news.take (m*sz)++cells.drop (lo*sz+m*sz),hρ,⟨?_,.inr ⟨b,cap,_,by rw[hxl,hlen'],Xg _,setRow_heap w b _ _ T _ hheap,by rw[hxl];exact hnc,hcm,?_,?_⟩⟩,by rw[hxl];exact hnl,?_,?_,?_⟩
 ·rw[hxl];simp only[Xp,Xv,KJ,hcellslen,hs.1];have:=Xs sz hmy;omega
 ·simp only[KU,Xp,hnews,Xv,KJ,Qv,hcs];simp[hcs]at hcurlen;omega
 ·rw[hxl,←htake];have:=zho cur.toList (news.take (m*sz)) (lo*sz) (xs.length*sz) (by rw[hnews];omega) hcurlen;rw[hnews]at this;exact this
 ·intro u hu;simp only[Xr]at hu
  rcases hu with(hu|hu)|hu
  ·exact hone0 u (XQ hu)
  ·exact hs.2.1 u (XQ hu)
  exact hone0 u (KZ hu)
 ·intro z hz;simp only[Xr]at hz
  rcases hz with hz|hz|hz
  ·exact hesz z (XQ hz)
  ·exact hysz z (XQ hz)
  exact hesz z (KZ hz)
 intro i j x s hxi hs';have hln1:(cells.take (lo*sz)).length=lo*sz:=by rw[Xv,hcellslen];omega
 have hlx:(xs.take lo).length=lo:=by rw[Xv];omega
 have hly:(ys.take m).length=m:=by rw[Xv];omega
 have hjs:j<sz:=by
  have hx:x∈xs.take lo++(ys.take m++xs.drop (lo+m)):=Xf hxi;have:=(Xd.1 hs').1;simp only[Xr]at hx
  rcases hx with hz|hz|hz
  ·rwa [hesz x (XQ hz)]at this
  ·rwa [hysz x (XQ hz)]at this
  rwa [hesz x (KZ hz)]at this
 by_cases hi1:i<lo
 ·rw[XH oM,XK,Xe hi1]at hxi;obtain⟨u,hu,hd⟩:=hcells i j x s hxi hs';refine⟨u,?_,hd.stp hst⟩
  have h5:i*sz+sz<=lo*sz:=by
   have:=Xs sz (X3 hi1);rw[X4]at this;exact this
  rw[XS,XH oM,XK,Xe oM];exact hu
 rw[XB oM,hlx]at hxi;have h6:lo*sz<=i*sz:=Xs _ oM
 by_cases hi2:i-lo<m
 ·rw[XH oM,XK,Xe hi2]at hxi;obtain⟨u,hu,hd⟩:=hs.2.2 (i-lo) j x s hxi hs';refine⟨u,?_,hd.stp hst⟩
  have h5:(i-lo)*sz+sz<=m*sz:=by
   have:=Xs sz (X3 hi2);rw[X4]at this;exact this
  have h7:(i-lo)*sz=i*sz-lo*sz:=Nat.sub_mul _ _ _;rw[XS,XB oM,hln1,XH oM,XK,Xe oM,←hu];congr 1;omega
 rw[XB oM,hly,KD]at hxi;rw[show lo+m+(i-lo-m)=i by omega]at hxi;obtain⟨u,hu,hd⟩:=hcells i j x s hxi hs';refine⟨u,?_,hd.stp hst⟩;have h7:(lo+m)*sz<=i*sz:=Xs _ oM;rw[XS,XB oM,hln1,XB oM,hnews,KD,←hu];congr 1;omega
def zuJ{P:Program}{t e:TypeId}{f:TypeInfo}{z:Value}{zs:LZ}(hk:P.underlying t=some (.slice e))(hz:f.zero=some z)(hi:P.info? e=some f)(h5:z.cells.toList=zs)(h7:zs.length=f.size)(h8:∀u∈zs,u.oneCell'=true){Keep:LG}{M:LT}{ρ:ze}{w:World}(hm:zB Keep M ρ w){k:Nat}{T:TypeId}{α:Type}{enc:α->LQ}{sz:Nat}{xs:List α}(hmem:(k,Mem.arr T enc sz xs)∈M)(h2:f.size=sz){b len cap cap' lo n κ:Nat}(hn:0<n)(hρ:ρ k=some (.slice (some ⟨b,0,none⟩) len cap))(hln:lo+n<=xs.length){x0:α}(hx0:enc x0=vals zs){o:Oper}{a:Act}(hr:∀v w',(Builtin.clear_ #[t] o.type #[.slice (some ⟨b,lo*sz,none⟩) n cap']).run P w=.ok v w'->(execOp a.eval o).run P w=.ok (.value v) w'):
  qk P o a w (kG Keep M ρ w κ (.val (.tuple #[])) (.set k (.arr T enc sz (xs.take lo++(List.replicate n x0++xs.drop (lo+n)))))):=by
 have hzl:z.cells=zs.toArray:=by rw[←h5]
 have hlen:(madeCells z.cells (n*f.size)).toList.length=n*sz:=by simp[madeCells,h2]
 have hmg:∀q,(madeCells z.cells (n*f.size)).toList[q]?=if q<n*sz then zs[q%sz]? else none:=λq=>by
  have:=zfn zs n q;rw[h7,h2]at this;rw[hzl,h2];exact this
 have henc:(enc x0).length=sz:=by rw[hx0];simp[vals,h7,h2]
 have hone:∀u∈(madeCells z.cells (n*f.size)).toList,u.oneCell'=true:=λu hu=>by
  obtain⟨q,hq,rfl⟩:=JH.1 hu;have:=hmg q;rw[Xa hq]at this
  split at this
  ·exact h8 _ (Xf this.symm)
  cases this
 have key:=zAL (P:=P) hm hmem hρ hln (ys:=List.replicate n x0) (news:=(madeCells z.cells (n*f.size)).toList) (κ:=κ) (o:=o) (a:=a) (r:=.tuple #[])
  ⟨by rw[hlen,Kj],hone,λi j y s hy hs=>by
   have hxm:=KQ (Xf hy);subst hxm;have hq:i<n:=by simpa using (Xd.1 hy).1
   have hpj:j<sz:=by
    have:=(Xd.1 hs).1;rw[henc]at this;exact this
   have h1:i*sz+sz<=n*sz:=by
    have:=Xs sz (show i+1<=n by omega);rw[X4]at this;exact this
   have hmod:(i*sz+j)%sz=j:=by rw[Ky,QE];exact Xw hpj
   rw[hmg,Xe oM,hmod];rw[hx0]at hs;simp only[vals,XA]at hs
   cases hu:zs[j]? with
   |none=>simp[hu]at hs
   |some u=>
    simp[hu]at hs;subst hs
    exact⟨u,rfl,.val u⟩⟩ (λy hy=>by rw[KQ hy];exact henc) (λT' cur hheap hfit=>by
   refine hr _ _ ?_;rw[Kj,Nat.min_self]at hfit ⊢;have hst:=run_storeCells_at P b (lo*sz) T' (madeCells z.cells (n*f.size)).toList 0 cur w hheap (by rw[hlen];simpa using hfit) hone;simp only[hlen,XU]at hst;have ht:(madeCells z.cells (n*f.size)).toList.take (n*sz)=(madeCells z.cells (n*f.size)).toList:=Xk (by rw[hlen];exact Xi _);rw[ht]
   have hzc:(Builtin.zeroCells z.cells n).toList=(madeCells z.cells (n*f.size)).toList:=by
    have e:z.cells.size=f.size:=by rw[hzl];simpa using h7
    simp[Builtin.zeroCells,madeCells,e]
   obtain⟨m,rfl⟩:∃m,n=m+1:=⟨n-1,oM⟩
   simp[Builtin.clear_,run_underlying hk,zeroValue,typeInfo,hi,hz,hzc,hst])
 rw[Kj,Nat.min_self,Xk (l:=List.replicate n x0) (by rw[Kj];exact Xi _)]at key;exact key
def zoD{w:World}(hm:zB Keep M ρ w){k:Nat}{T:TypeId}{ys:LM}(hmem:(k,Mem.garr T sz ys)∈M){v:Value}(hρ:ρ k=some v):
  ∃(qs:LB) (news:LZ),qs.length=ys.length/\Src (λb=>Keep b∨Own M ρ b) w (λn:Nat=>List.replicate n SV.junk) sz qs v news/\(∀y∈ys,y.length=sz)/\
   ∀(i j:Nat) x (s:SV),ys[i]?=some x->x[j]?=some s->∃u,news[i*sz+j]?=some u/\G (λb=>Keep b∨Own M ρ b) (Own M ρ) ρ w s u:=by
 obtain⟨v',cells,hρ',hown,hlen,hone,hesz,hcells⟩:=hm.rel k _ hmem;rw[hρ]at hρ';cases hρ'
 refine⟨ys.map List.length,cells,sI,⟨by rw[Xz];exact hown.1,hone,λi j n s hn hs=>?_,?_⟩,hesz,hcells⟩
 ·rw[XA]at hn
  cases hy:ys[i]? with
  |none=>simp[hy]at hn
  |some y=>
   simp[hy]at hn;subst hn
   have hj:j<y.length:=by
    have:=(Xd.1 hs).1
    simpa using this
   obtain⟨u,hu,_⟩:=hcells i j y _ hy (Xa hj);have:s=.junk:=KQ (Xf hs);subst this;exact⟨u,hu,.junk _⟩
 rw[Xz]
 obtain⟨rfl,he⟩|⟨g,cap,cur,rfl,_,hheap,hnc,hcm,hcs,htake⟩:=hown.2
 ·exact .inl ⟨rfl,by rw[Xo he];rfl⟩
 exact .inr ⟨_,cap,rfl,λj u hu=>by rw[jx,X9];exact zam hheap htake hu⟩
variable{κ:Nat}
def zB.regrow{w:World}(hm:zB Keep M ρ w){k:Nat}{m0:Mem}{v:Value}(hmem:(k,m0)∈M)(hv:ρ k=some v)(hκ:ρ κ=none)(hκM:∀m,(κ,m)∉M){v':Value}{m:Mem}{w':World}(q1:w'.os=w.os)(q2:w'.tape=w.tape)(q3:kr w w')(q4:w.heap.size<=w'.heap.size)(q5:∀b,b<w.heap.size->kI v≠some b->w'.heap[b]?=w.heap[b]?)(q6:kI v'=kI v∨(kI v'=some w.heap.size/\w.heap.size<w'.heap.size))(q7:v'.oneCell'=true)(h:Stp (Own M ρ) (Own ((κ,m)::z5 M k) (upd ρ κ v')) ρ (upd ρ κ v') w w'->
   je (λb=>Keep b∨Own ((κ,m)::z5 M k) (upd ρ κ v') b) (Own ((κ,m)::z5 M k) (upd ρ κ v')) (upd ρ κ v') w' κ m):kG Keep M ρ w κ (.own κ) (.repl k m) v' w':=by
 have hgrow:=hm.grow (M1:=z5 M k) (λx hx=>kF x hx) (k7 hm.keys) hκ hκM v' m w' q1 q2 q3 q4
  (λb hb hn=>q5 b hb (λhvb=>hn ⟨k,_,v,hmem,hv,hvb⟩))
  (λk' m v1 b g1 g2 g3=>q5 b (hm.old b ⟨k',m,v1,kF _ g1,g2,g3⟩).1 (λhvb=>hm.apart k' m k _ v1 v b (kF _ g1) hmem (yP hm.keys _ g1) g2 hv g3 hvb))
  (λb hb=>by
   rcases q6 with q6|⟨q6,q8⟩
   ·rw[hb]at q6;have ho:Own M ρ b:=⟨k,_,v,hmem,hv,q6.symm⟩;exact⟨.inl ho,Xy (hm.old b ho).1 q4,λk' m v1 g1 g2 g3=>hm.apart k' m k _ v1 v b (kF _ g1) hmem (yP hm.keys _ g1) g2 hv g3 q6.symm⟩
   rw[hb]at q6;cases q6
   exact⟨.inr (Xi _),q8,λk' m v1 g1 g2 g3=>by have:=(hm.old _ ⟨k',m,v1,kF _ g1,g2,g3⟩).1;omega⟩) h
 exact⟨upd ρ κ v',hgrow.1,hgrow.2,.own _ _ z7 q7,λk' hk'=>zeO (by
  rcases hk' with hk'|hk'
  ·omega
  simp only[za8]at hk';omega)⟩
def zgG{R R':SV->Value->Prop}{α:Type _}{enc:α->LQ}{xs more:List α}{cells news:LZ}(hRR:∀s u,R s u->R' s u)(hl:cells.length=xs.length*sz)(hcells:∀(i j:Nat) y (s:SV),xs[i]?=some y->(enc y)[j]?=some s->∃u,cells[i*sz+j]?=some u/\R s u)(hnew:∀(i j:Nat) y (s:SV),more[i]?=some y->(enc y)[j]?=some s->∃u,news[i*sz+j]?=some u/\R s u)(p q:Nat)(y:α)(s:SV)(hx:(xs++more)[p]?=some y)(hs:(enc y)[q]?=some s):∃u,(cells++news)[p*sz+q]?=some u/\R' s u:=by
 rw[Kt]at hx
 split at hx
 ·obtain⟨u,hu,hd⟩:=hcells p q y s hx hs;exact⟨u,by rw[XH (Xd.1 hu).1];exact hu,hRR _ _ hd⟩
 obtain⟨u,hu,hd⟩:=hnew (p-xs.length) q y s hx hs;have hmul:p*sz=xs.length*sz+(p-xs.length)*sz:=by rw[←X6];congr 1;omega
 exact⟨u,by rw[XB (by rw[hl,hmul];omega),hl,hmul,show xs.length*sz+(p-xs.length)*sz+q-xs.length*sz=(p-xs.length)*sz+q by omega];exact hu,hRR _ _ hd⟩
variable{Γ:LS}{K:SV->MD->Prop}
def zkQ(hT:TOK P Γ)(hb:c.callee=.builtin .append){s:SV}{k':Nat}{e':TypeId}{sz':Nat}{ys:LM}(hlk':lm k'=some (.garr e' sz' ys))(h:ziz Γ c.argTypes.toList s e' sz' ys lm κ K):∃r md,K r md/\ya P (.call c) [s,.own k'] lm κ r md:=by
 unfold ziz at h
 split at h
 ·rename_i t t' htys;have htys:=zgE htys;replace h:=zf h;obtain⟨hteq,h⟩:=h;have hteq:=Xh hteq;subst hteq;replace h:=zo h;obtain⟨i,hi,h⟩:=h;have hk:=(hT t i hi).kind
  split at h
  ·rename_i e hkind;rw[hkind]at hk;have hk:P.underlying t=some (.slice e):=hk;replace h:=zo h;obtain⟨j,hj,h⟩:=h;obtain⟨f,h1,h2,h3,z,h4,h5,h6,h7,h8⟩:=(hT e j hj).inf;have hzs:z.cells.size=f.size:=by rw[h2,←h7,←h5];simp
   replace h:=zf h;obtain⟨hee,h⟩:=h;replace h:=zf h;obtain⟨hss,h⟩:=h;have hee:=Xh hee;have hss:=Xh hss;subst hee;subst hss
   split at h
   ·obtain⟨e1,e2,e3⟩:=h.ob;refine⟨_,_,h.go,λo ho Keep M ρ a w hlm hm hκ hκM hgs=>?_⟩;replace hκ:=hκ _ (Xi _) (X2 _);replace hκM:=hκM rfl;have hgs:=uI hb hgs;obtain⟨v,vs',hvs,g,gr⟩:=hgs.cons_inv;obtain⟨vx,vs'',hvs',gx,gn⟩:=gr.cons_inv;subst hvs';have hn:=gn.nil_inv;subst hn;obtain⟨hx,_⟩:=gx.own_inv;obtain⟨qs,news,hql,hsrc,hesz',hcells'⟩:=zoD hm (zn (hlm k' _ hlk')) hx;rw[←hql]at e1 e2;obtain⟨cs,hr⟩:=qK (P:=P) (w:=w) ho hb hvs;rw[g.val_inv]at hr
    have hb':(0+qs.length)*f.bytes<=140737488355328:=by rw[h3,X9];omega
    obtain⟨v',w',hrun,hown,q1,q2,q3,q4,q5,q6,q7⟩:=zan (ty:=o.type) hk h1 h4 hzs (World.ownsRow_nil w 0 e f.size) (h2 ▸ hsrc) (by unfold maxLen;omega) hb';refine qk.value (v:=v') (w':=w') (by rw[hr,htys];simp only[builtin,Sem.run_bind,hrun,Result.andThen_ok,Sem.run_pure])<|kG.push (u:=v') (hm.grow (λ_ h=>h) hm.keys hκ hκM v' _ w' q1 q2 q3 q4 (λb hb _=>q5 b hb (by simp[kI])) (λk m v b g1 g2 g3=>q5 b (hm.old b ⟨k,m,v,g1,g2,g3⟩).1 (by simp[kI])) ?_ ?_) (.own _ _ z7 q7)
    ·intro b hb
     rcases q6 with q6|⟨q6,q8⟩
     ·rw[hb]at q6;simp[kI]at q6
     rw[hb]at q6;cases q6
     exact⟨.inr (Xi _),q8,λk m v1 g1 g2 g3=>by have:=(hm.old _ ⟨k,m,v1,g1,g2,g3⟩).1;omega⟩
    intro hs;refine⟨v',news,z7,by rw[←h2];rw[hql]at hown;simpa using hown,oM,hsrc.2.1,hesz',λp q y s' hy hs'=>?_⟩;obtain⟨u,hu,hd⟩:=hcells' p q y s' hy hs';exact⟨u,hu,hd.stp hs⟩
   ·rename_i k
    split at h
    ·rename_i e'' sz xs hlk;replace h:=zf h;obtain⟨hee,h⟩:=h;replace h:=zf h;obtain⟨hss,h⟩:=h;have hee:=Xh hee;have hss:=Xh hss;subst hee;obtain⟨e1,e2,e3⟩:=h.ob;refine⟨_,_,h.go,λo ho Keep M ρ a w hlm hm hκ hκM hgs=>?_⟩;replace hκ:=hκ _ (Xi _) (X2 _);replace hκM:=hκM rfl;have hmem:=zn (hlm k _ hlk);have hgs:=uI hb hgs;obtain⟨v,vs',hvs,g,gr⟩:=hgs.cons_inv;obtain⟨vx,vs'',hvs',gx,gn⟩:=gr.cons_inv;subst hvs';have hn:=gn.nil_inv;subst hn
     obtain⟨hx,_⟩:=gx.own_inv;obtain⟨qs,news,hql,hsrc,hesz',hcells'⟩:=zoD hm (zn (hlm k' _ hlk')) hx;rw[←hql]at e1 e2;obtain⟨cs,hr⟩:=qK (P:=P) (w:=w) ho hb hvs;obtain⟨hv,_⟩:=g.own_inv;obtain⟨v0,cells,hρ,hown,hnl,hone0,hesz,hcells⟩:=hm.rel k _ hmem;rw[hv]at hρ;cases hρ
     have hb':(xs.length+qs.length)*f.bytes<=140737488355328:=by rw[h3];exact JT.1 (by rw[Kb,QN];exact e1)
     have hsf:sz=f.size:=by rw[hss,h2]
     subst hsf;obtain⟨v',w',hrun,hown',q1,q2,q3,q4,q5,q6,q7⟩:=zan (ty:=o.type) hk h1 h4 hzs hown (h2 ▸ hsrc) (by unfold maxLen;omega) hb';refine qk.value (v:=v') (w':=w') (by rw[hr,htys];simp only[builtin,Sem.run_bind,hrun,Result.andThen_ok,Sem.run_pure])<|hm.regrow hmem hv hκ hκM q1 q2 q3 q4 q5 q6 q7 λhs=>?_
     refine⟨v',cells++news,z7,by rw[hql]at hown';simpa using hown',by simp;omega,λu hu=>?_,λx hx=>?_,λp q x s' hx hs'=>?_⟩
     ·rcases Xr.1 hu with hu|hu
      ·exact hone0 u hu
      exact hsrc.2.1 u hu
     ·rcases Xr.1 hx with hx|hx
      ·exact hesz x hx
      rw[hesz' x hx,h2]
     exact zgG (λs u q=>q.stp hs) hown.1 hcells (h2.symm ▸ hcells') p q x s' hx hs'
    exact h.elim
   exact h.elim
  exact h.elim
 exact h.elim
def zfo(hT:TOK P Γ)(hb:c.callee=.builtin .append){s x:SV}(h:zh7 Γ c.argTypes.toList s x lm κ K):∃r md,K r md/\ya P (.call c) [s,x] lm κ r md:=by
 unfold zh7 at h
 split at h
 ·rename_i t t' htys;have htys:=zgE htys;replace h:=zf h;obtain⟨hteq,h⟩:=h;have hteq:=Xh hteq;subst hteq;replace h:=zo h;obtain⟨i,hi,h⟩:=h;have hk:=(hT t i hi).kind
  split at h
  ·rename_i e hkind;rw[hkind]at hk;have hk:P.underlying t=some (.slice e):=hk;replace h:=zo h;obtain⟨j,hj,h⟩:=h;obtain⟨f,h1,h2,h3,z,h4,h5,h6,h7,h8⟩:=(hT e j hj).inf;have hzs:z.cells.size=f.size:=by rw[h2,←h7,←h5];simp
   split at h
   ·obtain⟨α,enc,ys,hra,h⟩:=h;obtain⟨e1,e2,e3,e4⟩:=h.ob;refine⟨_,_,h.go,λo ho Keep M ρ a w hlm hm hκ hκM hgs=>?_⟩;replace hκ:=hκ _ (Xi _) (X2 _);replace hκM:=hκM rfl;have hgs:=uI hb hgs;obtain⟨v,vs',hvs,g,gr⟩:=hgs.cons_inv;obtain⟨vx,vs'',hvs',gx,gn⟩:=gr.cons_inv;subst hvs';have hn:=gn.nil_inv;subst hn;obtain⟨news,hsrc⟩:=u3 hra hlm hm gx e3 e4;obtain⟨cs,hr⟩:=qK (P:=P) (w:=w) ho hb hvs;rw[g.val_inv]at hr;have hb':(0+ys.length)*f.bytes<=140737488355328:=by rw[h3,X9];omega
    obtain⟨v',w',hrun,hown,q1,q2,q3,q4,q5,q6,q7⟩:=zan (ty:=o.type) hk h1 h4 hzs (World.ownsRow_nil w 0 e f.size) (h2 ▸ hsrc) (by unfold maxLen;omega) hb';refine qk.value (v:=v') (w':=w') (by rw[hr,htys];simp only[builtin,Sem.run_bind,hrun,Result.andThen_ok,Sem.run_pure])<|kG.push (u:=v') (hm.grow (λ_ h=>h) hm.keys hκ hκM v' _ w' q1 q2 q3 q4 (λb hb _=>q5 b hb (by simp[kI])) (λk m v b g1 g2 g3=>q5 b (hm.old b ⟨k,m,v,g1,g2,g3⟩).1 (by simp[kI])) ?_ ?_) (.own _ _ z7 q7)
    ·intro b hb
     rcases q6 with q6|⟨q6,q8⟩
     ·rw[hb]at q6;simp[kI]at q6
     rw[hb]at q6;cases q6
     exact⟨.inr (Xi _),q8,λk m v1 g1 g2 g3=>by have:=(hm.old _ ⟨k,m,v1,g1,g2,g3⟩).1;omega⟩
    intro hs;refine⟨v',news,z7,by rw[←h2];simpa using hown,e2,hsrc.2.1,e4,λp q y s' hy hs'=>?_⟩;obtain⟨u,hu,hd⟩:=hsrc.2.2.1 p q y s' hy hs';exact⟨u,hu,hd.stp hs⟩
   ·rename_i k
    split at h
    ·rename_i e' α enc sz xs hlk;replace h:=zf h;obtain⟨hee,h⟩:=h;replace h:=zf h;obtain⟨hss,h⟩:=h;have hee:=Xh hee;have hss:=Xh hss;subst hee;obtain⟨ys,hra,h⟩:=h;obtain⟨e1,e2,e3,e4⟩:=h.ob;refine⟨_,_,h.go,λo ho Keep M ρ a w hlm hm hκ hκM hgs=>?_⟩;replace hκ:=hκ _ (Xi _) (X2 _);replace hκM:=hκM rfl;have hmem:=zn (hlm k _ hlk);have hgs:=uI hb hgs;obtain⟨v,vs',hvs,g,gr⟩:=hgs.cons_inv;obtain⟨vx,vs'',hvs',gx,gn⟩:=gr.cons_inv;subst hvs';have hn:=gn.nil_inv
     subst hn;obtain⟨news,hsrc⟩:=u3 hra hlm hm gx e3 e4;obtain⟨cs,hr⟩:=qK (P:=P) (w:=w) ho hb hvs;obtain⟨hv,_⟩:=g.own_inv;obtain⟨v0,cells,hρ,hown,hnl,hone0,hesz,hcells⟩:=hm.rel k _ hmem;rw[hv]at hρ;cases hρ
     have hb':(xs.length+ys.length)*f.bytes<=140737488355328:=by rw[h3];exact JT.1 (by rw[Kb,QN];exact e1)
     have hsf:sz=f.size:=by rw[hss,h2]
     subst hsf;obtain⟨v',w',hrun,hown',q1,q2,q3,q4,q5,q6,q7⟩:=zan (ty:=o.type) hk h1 h4 hzs hown (h2 ▸ hsrc) (by unfold maxLen;omega) hb';refine qk.value (v:=v') (w':=w') (by rw[hr,htys];simp only[builtin,Sem.run_bind,hrun,Result.andThen_ok,Sem.run_pure])<|hm.regrow hmem hv hκ hκM q1 q2 q3 q4 q5 q6 q7 λhs=>?_
     refine⟨v',cells++news,z7,by simpa using hown',by simp;omega,λu hu=>?_,λx hx=>?_,λp q x s' hx hs'=>?_⟩
     ·rcases Xr.1 hu with hu|hu
      ·exact hone0 u hu
      exact hsrc.2.1 u hu
     ·rcases Xr.1 hx with hx|hx
      ·exact hesz x hx
      rw[e4 x hx,h2]
     exact zgG (λs u q=>q.stp hs) hown.1 hcells (h2 ▸ hsrc.2.2.1) p q x s' hx hs'
    ·rename_i e' sz xs hlk;replace h:=zf h;obtain⟨hee,h⟩:=h;replace h:=zf h;obtain⟨hss,h⟩:=h;have hee:=Xh hee;have hss:=Xh hss;subst hee;obtain⟨α,enc,ys,hra,h⟩:=h;obtain⟨e1,e2,e3,e4⟩:=h.ob;refine⟨_,_,h.go,λo ho Keep M ρ a w hlm hm hκ hκM hgs=>?_⟩;replace hκ:=hκ _ (Xi _) (X2 _);replace hκM:=hκM rfl;have hmem:=zn (hlm k _ hlk);have hgs:=uI hb hgs;obtain⟨v,vs',hvs,g,gr⟩:=hgs.cons_inv;obtain⟨vx,vs'',hvs',gx,gn⟩:=gr.cons_inv;subst hvs';have hn:=gn.nil_inv
     subst hn;obtain⟨news,hsrc⟩:=u3 hra hlm hm gx e3 e4;obtain⟨cs,hr⟩:=qK (P:=P) (w:=w) ho hb hvs;obtain⟨hv,_⟩:=g.own_inv;obtain⟨v0,cells,hρ,hown,hnl,hone0,hesz,hcells⟩:=hm.rel k _ hmem;rw[hv]at hρ;cases hρ
     have hb':(xs.length+ys.length)*f.bytes<=140737488355328:=by rw[h3];exact JT.1 (by rw[Kb,QN];exact e1)
     have hsf:sz=f.size:=by rw[hss,h2]
     subst hsf;obtain⟨v',w',hrun,hown',q1,q2,q3,q4,q5,q6,q7⟩:=zan (ty:=o.type) hk h1 h4 hzs hown (h2 ▸ hsrc) (by unfold maxLen;omega) hb';refine qk.value (v:=v') (w':=w') (by rw[hr,htys];simp only[builtin,Sem.run_bind,hrun,Result.andThen_ok,Sem.run_pure])<|hm.regrow hmem hv hκ hκM q1 q2 q3 q4 q5 q6 q7 λhs=>?_
     refine⟨v',cells++news,z7,by simpa using hown',by simp;omega,λu hu=>?_,λx hx=>?_,λp q x s' hx hs'=>?_⟩
     ·rcases Xr.1 hu with hu|hu
      ·exact hone0 u hu
      exact hsrc.2.1 u hu
     ·rcases Xr.1 hx with hx|hx
      ·exact hesz x hx
      obtain⟨y,hy,rfl⟩:=XL.1 hx;rw[e4 y hy,h2]
     refine zgG (λs u q=>q.stp hs) hown.1 hcells (λi j y s hy hs=>?_) p q x s' hx hs';rw[XA]at hy
     cases hz:ys[i]? with
     |none=>simp[hz]at hy
     |some z=>
      simp[hz]at hy;subst hy;rw[h2];exact(hsrc.2.2.1 i j z s hz hs).imp λu q=>⟨q.1,.d _ _ q.2⟩
    exact h.elim
   ·rename_i α enc xs;obtain⟨ys,hra,h⟩:=h;obtain⟨⟨e0,e1,e2,e3,e5,e4⟩,h⟩:=h;refine⟨_,_,h,λo ho Keep M ρ a w hlm hm hκ hκM hgs=>?_⟩;replace hκ:=hκ _ (Xi _) (X2 _);replace hκM:=hκM rfl;have hgs:=uI hb hgs;obtain⟨v,vs',hvs,g,gr⟩:=hgs.cons_inv;obtain⟨vx,vs'',hvs',gx,gn⟩:=gr.cons_inv;subst hvs';have hn:=gn.nil_inv;subst hn;obtain⟨news,hsrc⟩:=u3 hra hlm hm gx e3 e4;obtain⟨cs,hr⟩:=qK (P:=P) (w:=w) ho hb hvs;obtain⟨ad,hv,hd⟩:=g.full_inv;obtain⟨olds,hold⟩:=zoA hd e3 e5;rw[hv]at hr hold
    have hb':(xs.length+ys.length)*f.bytes<=140737488355328:=by rw[h3];exact JT.1 (by rw[Kb,QN];exact e1)
    obtain⟨v',w',hrun,hown,q1,q2,q3,q4,q5,q6,q7⟩:=zoC (ty:=o.type) hk h1 h4 hzs ad (h2 ▸ hold) (h2 ▸ hsrc) e0 (by unfold maxLen;omega) hb';refine qk.value (v:=v') (w':=w') (by rw[hr,htys];simp only[builtin,Sem.run_bind,hrun,Result.andThen_ok,Sem.run_pure])<|kG.push (u:=v') (hm.grow (λ_ h=>h) hm.keys hκ hκM v' _ w' q1 q2 q3 q4 (λb hb _=>q5 b hb) (λk m v b g1 g2 g3=>q5 b (hm.old b ⟨k,m,v,g1,g2,g3⟩).1) ?_ ?_) (.own _ _ z7 q7)
    ·intro b hb;obtain⟨q6,q8⟩:=q6;rw[hb]at q6;cases q6
     exact⟨.inr (Xi _),q8,λk m v1 g1 g2 g3=>by have:=(hm.old _ ⟨k,m,v1,g1,g2,g3⟩).1;omega⟩
    intro hs;refine⟨v',olds++news,z7,by rw[←h2];simpa using hown,by simp;omega,λu hu=>?_,λx hx=>?_,λp q y s' hy hs'=>?_⟩
    ·rcases Xr.1 hu with hu|hu
     ·exact hold.2.1 u hu
     exact hsrc.2.1 u hu
    ·rcases Xr.1 hx with hx|hx
     ·exact e5 x hx
     exact e4 x hx
    have hl:=hold.1;rw[Kt]at hy
    split at hy
    ·obtain⟨u,hu,hd⟩:=hold.2.2.1 p q y s' hy hs';refine⟨u,?_,hd.stp hs⟩;have:p*j.sz+q<olds.length:=(Xd.1 hu).1;rw[XH this];exact hu
    rename_i hge;obtain⟨u,hu,hd⟩:=hsrc.2.2.1 (p-xs.length) q y s' hy hs';refine⟨u,?_,hd.stp hs⟩;have hge:xs.length<=p:=oM;have hmul:p*j.sz=xs.length*j.sz+(p-xs.length)*j.sz:=by rw[←X6];congr 1;omega
    rw[XB (by rw[hl,hmul];omega),hl,hmul,show xs.length*j.sz+(p-xs.length)*j.sz+q-xs.length*j.sz=(p-xs.length)*j.sz+q by omega];exact hu
   ·rcases h with h|h|h
    ·obtain⟨α,enc,ys,hra,h⟩:=h;obtain⟨⟨e0,e1,e2,e3,e4⟩,h⟩:=h;refine⟨_,_,h,λo ho Keep M ρ a w hlm hm hκ hκM hgs=>?_⟩;replace hκ:=hκ _ (Xi _) (X2 _);replace hκM:=hκM rfl;have hgs:=uI hb hgs;obtain⟨v,vs',hvs,g,gr⟩:=hgs.cons_inv;obtain⟨vx,vs'',hvs',gx,gn⟩:=gr.cons_inv;subst hvs';have hn:=gn.nil_inv;subst hn;obtain⟨news,hsrc⟩:=u3 hra hlm hm gx e3 e4;obtain⟨cs,hr⟩:=qK (P:=P) (w:=w) ho hb hvs;obtain⟨ad,hv⟩:=g.nils_inv;rw[hv]at hr
     have hb':ys.length*f.bytes<=140737488355328:=by rw[h3];omega
     obtain⟨v',w',hrun,hown,q1,q2,q3,q4,q5,q6,q7⟩:=zoB (ty:=o.type) hk h1 h4 hzs ad (h2 ▸ hsrc) e0 (by unfold maxLen;omega) hb';refine qk.value (v:=v') (w':=w') (by rw[hr,htys];simp only[builtin,Sem.run_bind,hrun,Result.andThen_ok,Sem.run_pure])<|kG.push (u:=v') (hm.grow (λ_ h=>h) hm.keys hκ hκM v' _ w' q1 q2 q3 q4 (λb hb _=>q5 b hb) (λk m v b g1 g2 g3=>q5 b (hm.old b ⟨k,m,v,g1,g2,g3⟩).1) ?_ ?_) (.own _ _ z7 q7)
     ·intro b hb;obtain⟨q6,q8⟩:=q6;rw[hb]at q6;cases q6
      exact⟨.inr (Xi _),q8,λk m v1 g1 g2 g3=>by have:=(hm.old _ ⟨k,m,v1,g1,g2,g3⟩).1;omega⟩
     intro hs;refine⟨v',news,z7,by rw[←h2];exact hown,e2,hsrc.2.1,e4,λp q y s' hy hs'=>?_⟩;obtain⟨u,hu,hd⟩:=hsrc.2.2.1 p q y s' hy hs';exact⟨u,hu,hd.stp hs⟩
    ·obtain⟨α,enc,hra,e3,h⟩:=h;refine⟨_,_,h,λo ho Keep M ρ a w hlm hm _ _ hgs=>?_⟩;have hgs:=uI hb hgs;obtain⟨v,vs',hvs,g,gr⟩:=hgs.cons_inv;obtain⟨vx,vs'',hvs',gx,gn⟩:=gr.cons_inv;subst hvs';have hn:=gn.nil_inv;subst hn;obtain⟨news,hl,_,_,hx⟩:=u3 hra hlm hm gx e3 (λx hx=>by cases hx);obtain⟨cs,hr⟩:=qK (P:=P) (w:=w) ho hb hvs;obtain⟨ad,hv⟩:=g.nils_inv;rw[hv]at hr
     have hrun:(Builtin.append_ #[t,t] o.type #[.slice ad 0 0,vx]).run P w=.ok (.slice ad 0 0) w:=by
      obtain⟨rfl,_⟩|⟨a',c',rfl,_⟩:=hx
      ·cases ad <;> simp[Builtin.append_,run_underlying hk,sizeOf,typeInfo,h1,Builtin.lenOf,Builtin.firstCells,storeCells]
      cases ad <;> simp[Builtin.append_,run_underlying hk,sizeOf,typeInfo,h1,Builtin.lenOf,Builtin.firstCells,storeCells,loadCells,loadCellsFrom]
     exact qk.value (v:=.slice ad 0 0) (w':=w) (by rw[hr,htys];simp only[builtin,Sem.run_bind,hrun,Result.andThen_ok,Sem.run_pure]) (kG.same hm (.d _ _ (.nils ad)))
    exact h.elim
   exact h.elim
  exact h.elim
 exact h.elim
def zek(hb:c.callee=.builtin b){u:Value}(hs:∀{Keep:LG} {M:LT} {ρ:ze} {w:World} {vs:LZ},(∀k m,lm k=some m->(k,m)∈M)->zB Keep M ρ w->Gs (λb=>Keep b∨Own M ρ b) (Own M ρ) ρ w svs vs->
   ∀ty cs,(builtin b c.argTypes ty cs vs.toArray).run P w=.ok (.value u) w):ya P (.call c) svs lm κ (.val u) .none:=.read λo ho Keep M ρ a w hlm hm hgs=>by
 obtain⟨cs,hr⟩:=qK (P:=P) (w:=w) ho hb rfl;exact⟨_,hr.trans (hs hlm hm (uI hb hgs) _ _),(vL.val _).g⟩
variable{vs:LZ}{m:Nat}
def zgH{t:TypeId}(htys:tys=#[t])(hk:P.underlying t=some (.slice e)){w:World}{s:SV}(g:Gs S Pm ρ w [s] vs)(hv:∀{v},G S Pm ρ w s v->∃ad cap,v=.slice ad m cap)(ty:TypeId)(cs):(builtin .len tys ty cs vs.toArray).run P w=.ok (.value (.int .i64 m)) w:=by
 obtain⟨v,vs',rfl,g,gr⟩:=g.cons_inv;obtain⟨ad,cap,rfl⟩:=hv g;rw[gr.nil_inv,htys];simp only[builtin,Sem.run_bind,zAJ hk w ad m cap,Result.andThen_ok,Sem.run_pure]
def zwZ{t:TypeId}(htys:tys=#[t])(hk:P.underlying t=some (.slice e)){w:World}{s:SV}(g:Gs S Pm ρ w [s] vs)(hv:∀{v},G S Pm ρ w s v->∃ad n,v=.slice ad n m)(ty:TypeId)(cs):(builtin .cap tys ty cs vs.toArray).run P w=.ok (.value (.int .i64 m)) w:=by
 obtain⟨v,vs',rfl,g,gr⟩:=g.cons_inv;obtain⟨ad,n,rfl⟩:=hv g;rw[gr.nil_inv,htys];simp only[builtin,Sem.run_bind,zAK hk w ad n m,Result.andThen_ok,Sem.run_pure]
def zkR(hT:TOK P Γ)(hb:c.callee=.builtin b)(hlive:Live lm svs)(h:ziA Γ b c.argTypes.toList svs lm κ K):∃r md,K r md/\ya P (.call c) svs lm κ r md:=by
 obtain⟨Keep0,M0,ρ0,w0,vs0,hlm0,hm0,hg0⟩:=hlive;unfold ziA at h
 split at h
 ·rename_i s
  split at h
  ·rename_i t htys;have htys:=zgD htys;replace h:=zo h;obtain⟨i,hi,h⟩:=h;have hk:=(hT t i hi).kind
   split at h
   ·rename_i e hkind;rw[hkind]at hk;have hk:P.underlying t=some (.slice e):=hk;unfold zC5 at h
    split at h
    ·rename_i α enc xs;obtain⟨v0,vs0',rfl,g0,_⟩:=hg0.cons_inv;exact⟨_,_,h (zwY g0).1,zek hb λ_ _ g=>zgH htys hk g λg=>have⟨_,ad,cap,hv,_⟩:=zwY g;⟨ad,cap,hv⟩⟩
    ·rename_i k
     split at h
     ·rename_i T α enc sz xs hlk;obtain⟨v0,vs0',rfl,g0,_⟩:=hg0.cons_inv;exact⟨_,_,h (zsU hm0 (zn (hlm0 k _ hlk)) g0.own_inv.1).1,zek hb λhlm hm g=>zgH htys hk g λg=>have⟨_,ad,cap,hv,_⟩:=zsU hm (hlm k _ hlk) g.own_inv.1;⟨ad,cap,hv⟩⟩
     ·rename_i T sz xs hlk;obtain⟨v0,vs0',rfl,g0,_⟩:=hg0.cons_inv;exact⟨_,_,h (zox hm0 (zn (hlm0 k _ hlk)) g0.own_inv.1).1,zek hb λhlm hm g=>zgH htys hk g λg=>have⟨_,ad,cap,hv,_⟩:=zox hm (hlm k _ hlk) g.own_inv.1;⟨ad,cap,hv⟩⟩
     exact h.elim
    ·exact⟨_,_,h,zek hb λ_ _ g=>zgH htys hk g λg=>⟨_,_,g.val_inv⟩⟩
    ·exact⟨_,_,h,zek hb λ_ _ g=>zgH htys hk g λg=>have⟨ad,hv⟩:=g.nils_inv;⟨ad,_,hv⟩⟩
    ·rename_i k sz lo n;obtain⟨h0,h⟩:=h;obtain⟨n,rfl⟩:∃m:Nat,n=m:=⟨n.toNat,(QH h0).symm⟩;exact⟨_,_,h,zek hb λ_ _ g=>zgH htys hk g λg=>have⟨b,len,cap,cap',_,hv,_⟩:=g.win_inv;⟨_,_,hv⟩⟩
    exact h.elim
   exact h.elim
  exact h.elim
 ·rename_i s
  split at h
  ·rename_i t htys;have htys:=zgD htys;replace h:=zo h;obtain⟨i,hi,h⟩:=h;have hk:=(hT t i hi).kind
   split at h
   ·rename_i e hkind;rw[hkind]at hk;have hk:P.underlying t=some (.slice e):=hk
    split at h
    ·exact⟨_,_,h,zek hb λ_ _ g=>zwZ htys hk g λg=>⟨_,_,g.val_inv⟩⟩
    ·exact⟨_,_,h,zek hb λ_ _ g=>zwZ htys hk g λg=>have⟨ad,hv⟩:=g.nils_inv;⟨ad,_,hv⟩⟩
    exact h.elim
   exact h.elim
  exact h.elim
 ·rename_i s _;obtain⟨k,x,r,hK,he⟩:=zgF h;refine⟨_,_,hK,zek hb λ_ _ g ty cs=>?_⟩;obtain⟨us,rfl,hl,hy⟩:=he g;simp only[builtin,Builtin.min_,Sem.run_bind,zoy r us x hl hy,Result.andThen_ok,Sem.run_pure]
 ·rename_i s _;obtain⟨k,x,r,hK,he⟩:=zgF h;refine⟨_,_,hK,zek hb λ_ _ g ty cs=>?_⟩;obtain⟨us,rfl,hl,hy⟩:=he g;simp only[builtin,Builtin.max_,Sem.run_bind,zoz r us x hl hy,Result.andThen_ok,Sem.run_pure]
 ·rename_i s x
  split at h
  ·rename_i kx n;unfold zsM at h
   split at h
   ·rename_i t t' htys;have htys:=zgE htys;replace h:=zo h;obtain⟨i,hi,h⟩:=h;replace h:=zo h;obtain⟨i',hi',h⟩:=h;have hk:=(hT t i hi).kind;have hk':=(hT t' i' hi').kind
    split at h
    ·rename_i e kn hkind hkind';rw[hkind]at hk;rw[hkind']at hk';have hk:P.underlying t=some (.slice e):=hk;have hk':P.underlying t'=some (.int kn):=hk';replace h:=zo h;obtain⟨j,hj,h⟩:=h;obtain⟨f,h1,h2,h3,z,h4,h5,h6,h7,h8⟩:=(hT e j hj).inf;have hzl:z.cells=j.zero.toArray:=by rw[←h5]
     have hzs:z.cells.size=f.size:=by rw[h2,←h7,←h5];simp
     obtain⟨α,enc,x0,hz,h⟩:=h;obtain⟨e0,e1,e2,e3⟩:=h.ob;refine⟨_,_,h.go,λo ho Keep M ρ a w hlm hm hκ hκM hgs=>?_⟩;replace hκ:=hκ _ (Xi _) (X2 _);replace hκM:=hκM rfl;have hgs:=uI hb hgs;obtain⟨v,vs',hvs,g,gr⟩:=hgs.cons_inv;obtain⟨vx,vs'',hvs',gx,gn⟩:=gr.cons_inv;subst hvs';have hn:=gn.nil_inv;subst hn;obtain⟨cs,hr⟩:=qK (P:=P) (w:=w) ho hb hvs;rw[g.val_inv,gx.val_inv]at hr;obtain⟨N,hN⟩:∃N:Nat,n=N:=⟨n.toNat,oM⟩;subst hN
     have hbytes:N*f.bytes<=140737488355328:=by rw[h3];exact JT.1 (by rw[Kb];exact e2)
     have hrun:=Lib.run_append_nil_zeros (P:=P) w t t' o.type e f z kx kn hk hk' h1 h4 N oM oM oM oM;refine qk.value (by rw[hr,htys];simp only[builtin,Sem.run_bind,hrun,Result.andThen_ok,Sem.run_pure];rfl) ?_;have hge:=grownCap_ge w N 0 e
     have hmg:∀q,(Builtin.zeroCells z.cells N).toList[q]?=if q<N*j.sz then j.zero[q%j.sz]? else none:=λq=>by
      have:=zfn j.zero N q;rw[h7]at this;rw[←this,hzl];unfold madeCells Builtin.zeroCells;simp[h7]
     refine kG.push (u:=.slice (some ⟨w.heap.size,0,none⟩) N (grownCap w N 0 e)) (hm.grow (λ_ h=>h) hm.keys hκ hκM _ _ _ rfl rfl (.cells w.drew _ _) sI (λb hb _=>heap_alloc_old w.drew _ b hb)
      (λk m v b g1 g2 g3=>heap_alloc_old w.drew _ b (hm.old b ⟨k,m,v,g1,g2,g3⟩).1) ?_ ?_) (.own _ _ z7 rfl)
     ·intro b hb;have hb:b=w.heap.size:=by simp[kI]at hb;exact hb.symm
      subst hb;exact⟨.inr (Xi _),sI,λk m v1 g1 g2 g3=>by have:=(hm.old _ ⟨k,m,v1,g1,g2,g3⟩).1;omega⟩
     intro hs
     refine⟨_,(Builtin.zeroCells z.cells N).toList,z7,⟨by rw[Qv,size_zeroCells,hzs,h2,Kj,XX],.inr ⟨w.heap.size,grownCap w N 0 e,_,by rw[Kj,XX],Xg _,heap_alloc_new w.drew _,by simpa using hge,grownCap_le_maxLen w _ 0 e (by unfold maxLen;omega),?_,?_⟩⟩,by simp;omega,
      λu hu=>?_,λx hx=>by rw[KQ hx,hz];simp[vals,h7],λp q x s hx hs'=>?_⟩
     ·simp only[Jl,size_zeroCells,hzs,h2,←X6];congr 1;omega
     ·simp only[Q6,Kj,XX];rw[Kz (by simp[size_zeroCells,hzs,h2])];exact Xk (by simp[size_zeroCells,hzs,h2])
     ·obtain⟨q,hq,rfl⟩:=JH.1 hu;have:=hmg q;rw[Xa hq]at this
      split at this
      ·exact h8 _ (Xf this.symm)
      cases this
     have hxm:=KQ (Xf hx);subst hxm;have hp:p<N:=by simpa using (Xd.1 hx).1
     have hqj:q<j.sz:=by
      have:=(Xd.1 hs').1;rw[hz]at this;simpa[vals,h7] using this
     have h9:p*j.sz+j.sz<=N*j.sz:=by
      have:=Xs j.sz (show p+1<=N by omega);rw[X4]at this;exact this
     have hmod:(p*j.sz+q)%j.sz=q:=by rw[Ky,QE];exact Xw hqj
     rw[hmg,Xe oM,hmod];rw[hz]at hs';simp only[vals,XA]at hs'
     cases hu:j.zero[q]? with
     |none=>simp[hu]at hs'
     |some u=>
      simp[hu]at hs';subst hs';exact⟨u,rfl,.val u⟩
    exact h.elim
   exact h.elim
  ·rename_i k'
   split at h
   ·rename_i hlk';exact zkQ hT hb hlk' h
   exact zfo hT hb h
  exact zfo hT hb h
 ·rename_i d
  split at h
  ·rename_i t htys;have htys:=zgD htys;replace h:=zo h;obtain⟨i,hi,h⟩:=h;have hk:=(hT t i hi).kind
   split at h
   ·rename_i e hkind;rw[hkind]at hk;have hk:P.underlying t=some (.slice e):=hk;replace h:=zo h;obtain⟨j,hj,h⟩:=h;obtain⟨f,h1,h2,h3,z,h4,h5,h6,h7,h8⟩:=(hT e j hj).inf
    split at h
    ·rename_i k sz' lo n
     split at h
     ·rename_i T α enc sz xs hlk;replace h:=zf h;obtain⟨hss,h⟩:=h;have hss:=Xh hss;replace h:=zf h;obtain⟨hss',h⟩:=h;have hss':=Xh hss';subst hss';obtain⟨x0,hx0,h⟩:=h;obtain⟨e1,e2,e3⟩:=h.ob;refine⟨_,_,h.go,λo ho Keep M ρ a w hlm hm _ _ hgs=>?_⟩;have hmem:=zn (hlm k _ hlk);have hgs:=uI hb hgs;obtain⟨v,vs',hvs,g,gr⟩:=hgs.cons_inv;have hn:=gr.nil_inv;subst hn;obtain⟨cs,hr⟩:=qK (P:=P) (w:=w) ho hb hvs;obtain⟨b,len,cap,cap',hρ,rfl,_,_⟩:=g.win_inv
      exact zuJ (cap':=cap') hk h4 h1 h5 (by rw[h7,h2]) h8 hm hmem (h2.trans hss.symm) oM hρ oM hx0 (λv w' hx=>by
       rw[hr,htys];simp only[builtin,Sem.run_bind,hx,Result.andThen_ok,Sem.run_pure])
     exact h.elim
    exact h.elim
   exact h.elim
  exact h.elim
 exact h.elim
end
section ziu
variable{lm:LH}{Keep:LG}{M:LT}{ρ:ze}{w:World}{S':LG}
section
def D.less{S:LG}(h:∀b,S' b->S b){s:SV}{v:Value}(hd:D S w s v):D S' w s v:=hd.mono (Xi _) λb _ hb=>⟨λh'=>hb (h b h'),rfl⟩
def win_d{α:Type}{enc:α->LQ}{sz:Nat}{xs:List α}{b len cap cap' lo n:Nat}(hb:b<w.heap.size)(hS:¬S' b)(hesz:∀x∈xs,(enc x).length=sz)(hd:D S' w (.sl enc xs) (.slice (some ⟨b,0,none⟩) len cap))(h1:lo+n<=len)(h2:n<=cap')(hlen:len=xs.length):
  D S' w (.sl enc ((xs.drop lo).take n)) (.slice (some ⟨b,lo*sz,none⟩) n cap'):=by
 have hl:((xs.drop lo).take n).length=n:=by simp;omega
 have hmem:∀x∈(xs.drop lo).take n,x∈xs:=λx hx=>KZ (XQ hx)
 obtain⟨rfl,_⟩|⟨sz',b',o,cp,c,e,_,_,h48,_,hsz',hc,he⟩:=hd.sl_inv
 ·have hn:n=0:=by simp at hlen;omega
  subst hn;have:=D.sl (S:=S') (w:=w) enc (([]:List α).drop lo |>.take 0) sz b (lo*sz) cap' (λ_ _=>undef) hb hS sI sI sI (λi j hi=>by simp at hi) (λi j x s hx=>by simp at hx)
  simpa using this
 cases e
 have hix:∀i x,((xs.drop lo).take n)[i]?=some x->xs[lo+i]?=some x:=by
  intro i x hx;rw[XK]at hx
  split at hx
  ·simpa using hx
  cases hx
 have hs:0<n->sz'=sz:=λhp=>by
  have h1:=Xa (show lo<xs.length by omega);have h2:=Xf h1;rw[←hesz _ h2,←hsz' _ h2]
 have:=D.sl (S:=S') (w:=w) enc ((xs.drop lo).take n) sz b (lo*sz) cap' (λi j=>c (lo+i) j) hb hS oM oM (λx hx=>hesz x (hmem x hx)) (λi j hi hj=>by
  have hsz:=hs oM;have h5:=hc (lo+i) j oM oM;rw[X6,hsz,X9]at h5
  exact h5) (λi j x s hx hs'=>he (lo+i) j x s (hix i x hx) hs')
 rwa [hl]at this
def zsV(hlm:∀k m,lm k=some m->(k,m)∈M)(hm:zB Keep M ρ w)(hsub:∀b,S' b->Keep b∨Own M ρ b){s:SV}{v:Value}(hg:G (λb=>Keep b∨Own M ρ b) (Own M ρ) ρ w s v)(hc:jw s=true∨∀b,Own M ρ b->¬S' b):D S' w (zsK lm s) v:=by
 unfold zsK
 split
 ·rename_i k;have he:∀b,Own M ρ b->¬S' b:=hc.resolve_left (by simp[jw])
  split
  ·rename_i T α enc sz xs hlk;exact zej hm (hlm k _ hlk) hsub (λv b h1 h2=>he b ⟨k,_,v,hlm k _ hlk,h1,h2⟩) hg.own_inv.1
  exact .junk v
 ·rename_i f;obtain⟨vs,rfl,hvs⟩:=hg.fn_inv;rw[hvs.nil_inv];exact .val _
 split
 ·rename_i hf;exact(y9 hf hg).less hsub
 exact .junk v
def ziH(cs:LQ)(j:Nat):(zbJ lm cs)[j]?=(cs[j]?).map (zsK lm):=by
 induction cs generalizing j with
 |nil=>simp[zbJ]
 |cons c cs ih=>cases j with
  |zero=>simp[zbJ]
  |succ j=>simp[zbJ,ih]
def ziI(cs:LQ):(zbJ lm cs).length=cs.length:=by
 induction cs with
 |nil=>rfl
 |cons c cs ih=>simp[zbJ,ih]
variable{Pm':LG}{ρ':ze}
def zm1(hlm:∀k m,lm k=some m->(k,m)∈M)(hm:zB Keep M ρ w)(hsub:∀b,S' b->Keep b∨Own M ρ b){s:SV}{v:Value}(hg:G (λb=>Keep b∨Own M ρ b) (Own M ρ) ρ w s v)(hc:zbK lm s=true∨∀b,Own M ρ b->¬S' b)(hP:∀b,¬Own M ρ b->¬Pm' b)(hP2:∀k off b,s=.loc k off->ρ k=some (.pointer (some ⟨b,0,none⟩))->¬Pm' b):G S' Pm' ρ' w (zhm lm s) v:=by
 unfold zhm
 split
 ·rename_i k off
  split
  ·rename_i T cs hlk;obtain⟨b,vs,hρ,hheap,hlen,hone,hcells⟩:=hm.rel k _ (hlm k _ hlk);obtain⟨b',hρ',rfl⟩:=hg.loc_inv;rw[hρ]at hρ';cases hρ'
   refine .ptr _ b off (λj=>(vs[off+j]?).getD undef) (hm.old b ⟨k,_,_,hlm k _ hlk,hρ,rfl⟩).1 (hP2 k off b rfl hρ) (λj hj=>?_) (λj s hs=>?_)
   ·have hlt:off+j<vs.length:=by simp[ziI]at hj;omega
    rw[Xa hlt];exact⟨by rw[zbm hheap,Xa hlt];rfl,hone _ (X5 hlt)⟩
   simp only[KD,ziH]at hs
   cases hcs:cs[off+j]? with
   |none=>simp[hcs]at hs
   |some c=>
    simp[hcs]at hs;subst hs;have hlt:off+j<vs.length:=by rw[hlen];exact(Xd.1 hcs).1
    rw[Xa hlt];refine zsV hlm hm hsub (hcells _ c _ hcs (Xa hlt)) (hc.imp (λh=>?_) id);simp only[zbK,hlk]at h;exact jY h _ c hcs
  exact .d _ _ (.junk v)
 ·rename_i k;have he:∀b,Own M ρ b->¬S' b:=hc.resolve_left (by simp[zbK,jw])
  split
  ·rename_i T α enc sz xs hlk;exact .d _ _ (zej hm (hlm k _ hlk) hsub (λv b h1 h2=>he b ⟨k,_,v,hlm k _ hlk,h1,h2⟩) hg.own_inv.1)
  exact .d _ _ (.junk v)
 ·rename_i k sz lo n;have he:∀b,Own M ρ b->¬S' b:=hc.resolve_left (by simp[zbK,jw])
  split
  ·rename_i T α enc sz' xs hlk
   split
   ·rename_i hb;have:=Xh hb;subst this;obtain⟨b,len,cap,cap',hρ,rfl,h1,h2⟩:=hg.win_inv;have hd:=zej hm (hlm k _ hlk) hsub (λv b h1 h2=>he b ⟨k,_,v,hlm k _ hlk,h1,h2⟩) hρ;have ho:Own M ρ b:=⟨k,_,_,hlm k _ hlk,hρ,rfl⟩;obtain⟨v',cells,hρ',hown,hlen,hone,hesz,hcells⟩:=hm.rel k _ (hlm k _ hlk);rw[hρ]at hρ';cases hρ'
    refine .d _ _ (win_d (hm.old b ho).1 (he b ho) hesz hd h1 h2 ?_)
    obtain⟨e,_⟩|⟨g,cap,cur,e,_⟩:=hown.2 <;> cases e
    rfl
   exact .d _ _ (.junk _)
  exact .d _ _ (.junk _)
 ·rename_i cs;obtain⟨vs,rfl,hvs⟩:=hg.agg_inv;refine .agg _ vs (by rw[ziI];exact hvs.1) λj s v h1 h2=>?_
  rw[ziH]at h1
  cases hcs:cs[j]? with
  |none=>simp[hcs]at h1
  |some c=>
   simp[hcs]at h1;subst h1;exact .d _ _ (zsV hlm hm hsub (hvs.2 j c v hcs h2) (hc.imp (λh=>jY h j c hcs) id))
 ·rename_i cs;obtain⟨b,o,c,rfl,hb,hnp,h1,h2⟩:=hg.ptr_inv;exact .ptr cs b o c hb (hP b hnp) h1 λj s hs=>(h2 j s hs).less hsub
 ·rename_i f;obtain⟨vs,rfl,hvs⟩:=hg.fn_inv;rw[hvs.nil_inv];exact .fn f [] [] rfl λj s v h=>by simp at h
 split
 ·rename_i hf;exact .d _ _ ((y9 hf hg).less hsub)
 exact .d _ _ (.junk v)
def ziJ(hlm:∀k m,lm k=some m->(k,m)∈M)(hm:zB Keep M ρ w)(hsub:∀b,S' b->Keep b∨Own M ρ b){Pm':LG}(hP:∀b,¬Own M ρ b->¬Pm' b){ρ':ze}:∀{cs:LQ} {vs:LZ},
  (∀k off b,.loc k off∈cs->ρ k=some (.pointer (some ⟨b,0,none⟩))->¬Pm' b)->Gs (λb=>Keep b∨Own M ρ b) (Own M ρ) ρ w cs vs->(zbL lm cs=true∨∀b,Own M ρ b->¬S' b)->Gs S' Pm' ρ' w (zmQ lm cs) vs
 |[],vs,_,hg,_=>by rw[hg.nil_inv];exact .nil
 |c::cs,vs,hP2,hg,hc=>by
  obtain⟨v,vs',rfl,h1,h2⟩:=hg.cons_inv
  have key:(zbK lm c=true∨∀b,Own M ρ b->¬S' b)/\(zbL lm cs=true∨∀b,Own M ρ b->¬S' b):=by
   rcases hc with hc|hc
   ·simp only[zbL]at hc
    split at hc
    ·exact⟨.inl ‹_›,.inl hc⟩
    cases hc
   exact⟨.inr hc,.inr hc⟩
  exact .cons (zm1 hlm hm hsub h1 key.1 hP λk off b e=>hP2 k off b (e ▸ .head _)) (ziJ hlm hm hsub hP (λk off b hk=>hP2 k off b (.tail _ hk)) h2 key.2)
def ziK(hlm:∀k m,lm k=some m->(k,m)∈M)(hm:zB Keep M ρ w)(hsub:∀b,S' b->Keep b∨Own M ρ b){s:SV}{v:Value}(hg:G (λb=>Keep b∨Own M ρ b) (Own M ρ) ρ w s v)(hc:yE lm [s]=true∨∀b,Own M ρ b->¬S' b)(hP:∀b,¬Own M ρ b->¬Pm' b)(hP2:∀k off b,(s=.loc k off∨∃f cs,s=.fn f cs/\.loc k off∈cs)->ρ k=some (.pointer (some ⟨b,0,none⟩))->¬Pm' b):G S' Pm' ρ' w (ziu lm s) v:=by
 unfold ziu
 split
 ·rename_i f cs;obtain⟨vs,rfl,hvs⟩:=hg.fn_inv
  have h:=ziJ (S':=S') (Pm':=Pm') (ρ':=ρ') hlm hm hsub hP (λk off b hk=>hP2 k off b (.inr ⟨_,_,rfl,hk⟩)) hvs (hc.imp (λh=>by
   simp only[yE]at h
   split at h
   ·assumption
   cases h) id)
  exact .fn f _ vs h.1 h.2
 rename_i hnf;refine zm1 hlm hm hsub hg (hc.imp (λh=>?_) id) hP (λk off b e=>hP2 k off b (.inl e));unfold yE at h
 split at h
 ·rename_i heq;cases heq
 ·rename_i heq;cases heq;exact absurd rfl (hnf _ _)
 rename_i heq
 cases heq
 split at h
 ·assumption
 cases h
def ziL{s:SV}{r:LQ}(h:yE lm (s::r)=true):yE lm [s]=true/\yE lm r=true:=by
 cases s <;> simp only[yE]at h ⊢ <;> (split at h <;> simp_all)
def zfp(hlm:∀k m,lm k=some m->(k,m)∈M)(hm:zB Keep M ρ w)(hsub:∀b,S' b->Keep b∨Own M ρ b){Pm':LG}(hP:∀b,¬Pm' b){ρ':ze}:∀{cs:LQ} {vs:LZ},
  Gs (λb=>Keep b∨Own M ρ b) (Own M ρ) ρ w cs vs->(yE lm cs=true∨∀b,Own M ρ b->¬S' b)->Gs S' Pm' ρ' w (zcr lm cs) vs
 |[],vs,hg,_=>by rw[hg.nil_inv];exact .nil
 |c::cs,vs,hg,hc=>by
  obtain⟨v,vs',rfl,h1,h2⟩:=hg.cons_inv
  have key:(yE lm [c]=true∨∀b,Own M ρ b->¬S' b)/\(yE lm cs=true∨∀b,Own M ρ b->¬S' b):=by
   rcases hc with hc|hc
   ·exact⟨.inl (ziL hc).1,.inl (ziL hc).2⟩
   exact⟨.inr hc,.inr hc⟩
  exact .cons (ziK hlm hm hsub h1 key.1 (λb _=>hP b) (λ_ _ b _ _=>hP b)) (zfp hlm hm hsub hP h2 key.2)
end
end ziu
section
def ua{cs:LQ}(h:yH.scalars cs=true):∀(j:Nat) (s:SV),cs[j]?=some s->yH s=true:=by
 induction cs with
 |nil=>intro j s h1;simp at h1
 |cons c cs ih=>
  intro j s h1;simp only[yH.scalars]at h
  split at h
  ·rename_i hc
   cases j with
   |zero=>simp at h1;subst h1;exact hc
   |succ j=>exact ih h j s (by simpa using h1)
  cases h
def u4{S S' Pm:LG}{ρ:ze}{w w':World}{s:SV}(hs:yH s=true){v:Value}(hg:G S Pm ρ w s v):D S' w' s v:=by
 have key:∀{s:SV} {v:Value},D S w s v->yH s=true->D S' w' s v:=by
  intro s v hd
  induction hd with
  |val v=>exact λ_=>.val v
  |pr p i=>exact λ_=>.pr p i
  |nils a=>exact λ_=>.nils a
  |anyb b=>exact λ_=>.anyb b
  |agg cs vs hl h ih=>exact λhs=>.agg cs vs hl λj s v h1 h2=>ih j s v h1 h2 (ua hs j s h1)
  |ifc t s v h ih=>exact λhs=>.ifc t s v (ih hs)
  |_=>intro hs;simp[yH]at hs
 induction hg with
 |d _ _ h=>exact key h hs
 |agg cs vs hl h ih=>exact .agg cs vs hl λj s v h1 h2=>ih j s v h1 h2 (ua hs j s h1)
 |ifc t s v h ih=>exact .ifc t s _ (ih hs)
 |_=>simp[yH]at hs
variable{S:LG}{S':LG}{Pm:LG}{Pm':LG}{ρ:ze}{ρ':ze}{r:SV}
def zia{w:World}(hsub:∀b,S' b->S b)(hr:zit r=true){v:Value}(hg:G S Pm ρ w r v):G S' Pm' ρ' w r v:=by
 unfold zit at hr
 split at hr
 ·obtain⟨vs,rfl,hvs⟩:=hg.tup_inv;exact .tup _ vs hvs.1 λj s v h1 h2=>.d _ _ ((y9 (jY hr j s h1) (hvs.2 j s v h1 h2)).less hsub)
 exact .d _ _ ((y9 hr hg).less hsub)
def zuK{w w':World}(hr:zh4 r=true){v:Value}(hg:G S Pm ρ w r v):G S' Pm' ρ' w' r v:=by
 unfold zh4 at hr
 split at hr
 ·obtain⟨vs,rfl,hvs⟩:=hg.tup_inv;exact .tup _ vs hvs.1 λj s v h1 h2=>.d _ _ (u4 (ua hr j s h1) (hvs.2 j s v h1 h2))
 exact .d _ _ (u4 hr hg)
def zfq{P:Program}{o:Oper}{c:Call}{fx:Operand}(ho:o.op=.call c)(hc:c.callee=.value fx){a:Act}{w:World}{f:FuncId}{fs caps vs:LZ}(hf:a.eval fx=.func (.func f) fs.toArray caps.toArray)(hv:c.args.toList.map a.eval=vs)(hcall:zcD P f):(execOp a.eval o).run P w=.ok (.enter f (fs++(vs++caps)).toArray) w:=by
 obtain⟨fn,h1,h2,h3⟩:=hcall;have h:c.args.map a.eval=vs.toArray:=by apply QT;simp[hv]
 simp only[execOp,ho,resolve,hc,hf,h,Deferred.ofValue,invoke,callFunc,Sem.run_bind,Sem.run_pure,Result.andThen_ok,run_program,h1,h2,h3,KC,if_false];simp
def zF{b:Nat}:¬Own [] ρ b:=λ⟨_,_,_,h,_⟩=>by cases h
def kS{w:World}(h:∀b,S b->b<w.heap.size)(hg:∀g v,GL g v->w.cell? ⟨g,0,none⟩=some v):zB S [] ρ w:=
 ⟨λ_ _ h=>(by cases h),List.Pairwise.nil,λ_ _ _ _ _ _ _ h=>(by cases h),λ_ h=>absurd h zF,h,λg v k=>⟨zF,hg g v k⟩⟩
def kr.block(w:World){r:Nat}{ents:Array MapEntry}{clock:Nat}(h:w.heap[r]?=some (.map ents clock))(es':Array MapEntry)(c':Nat):
  kr w { w with heap:=w.heap.setIfInBounds r (.map es' c') }:=⟨rfl,λa=>by
 unfold World.frozen?
 show(match (w.heap.setIfInBounds r (.map es' c'))[a.block]? with
  |some (.cells _ _ (lo,hi))=>decide (lo<=a.off)&&decide (a.off<hi)
  |_=>false)=_
 by_cases e:r=a.block
 ·subst e;have hlt:a.block<w.heap.size:=(X1.1 h).1
  have h2:(w.heap.setIfInBounds a.block (Obj.map es' c'))[a.block]?=some (.map es' c'):=by
   rw[K9];simp[hlt]
  rw[h2,h]
 rw[K9,Xb e]
 cases w.heap[a.block]? with
 |none=>rfl
 |some o=>cases o <;> rfl⟩
def kr.map(w:World):kr w (w.alloc (.map #[] 0)):=⟨rfl,λa=>by
 unfold World.frozen?
 by_cases e:a.block<w.heap.size
 ·rw[heap_alloc_old w _ a.block e]
 have h1:w.heap[a.block]?=none:=K3 oM
 by_cases e2:a.block=w.heap.size
 ·rw[e2,heap_alloc_new];rw[e2]at h1;rw[h1]
 have h2:(w.alloc (.map #[] 0)).heap[a.block]?=none:=K3 (by simp;omega)
 rw[h1,h2]⟩
def zB.writeMap{Keep:LG}{M:LT}{w:World}(hm:zB Keep M ρ w){k:Nat}{m:Mem}(m':Mem)(hk:(k,m)∈M){r:Nat}(hv:ρ k=some (.map (some r))){ents:Array MapEntry}{clock:Nat}(hh:w.heap[r]?=some (.map ents clock))(es':Array MapEntry)(c':Nat)(hrel:Stp (Own M ρ) (Own (kO M k m') ρ) ρ ρ w { w with heap:=w.heap.setIfInBounds r (.map es' c') }->
   je (λb=>Keep b∨Own (kO M k m') ρ b) (Own (kO M k m') ρ) ρ { w with heap:=w.heap.setIfInBounds r (.map es' c') } k m'):
  Stp (Own M ρ) (Own (kO M k m') ρ) ρ ρ w { w with heap:=w.heap.setIfInBounds r (.map es' c') }/\zB Keep (kO M k m') ρ { w with heap:=w.heap.setIfInBounds r (.map es' c') }:=by
 have hkeys:(kO M k m').map (·.1)=M.map (·.1):=u0;have hb:kI (.map (some r))=some r:=rfl
 have hother:∀b',b'≠r->(w.heap.setIfInBounds r (Obj.map es' c'))[b']?=w.heap[b']? :=λb' hne=>by
  rw[K9];simp[YM hne]
 have hs:Stp (Own M ρ) (Own (kO M k m') ρ) ρ ρ w { w with heap:=w.heap.setIfInBounds r (.map es' c') }:=
  ⟨rfl,rfl,.block w hh _ _,sI,λb' _ hn=>hother b' (λe=>hn ⟨k,m,_,hk,hv,e ▸ hb⟩),λb' hb'=>.inl (uF hkeys.symm hb'),λ_ _ h=>h⟩
 refine⟨hs,zB.next k hm hs (jC hkeys hm.keys) ?_ ?_ ?_⟩
 ·intro k' m1 h1 hne
  obtain⟨_,h2⟩|h2:=qJ hm.keys _ h1
  ·refine⟨h2,rfl,λv' b' hv' hb'=>hother b' (λe=>?_)⟩;subst e;exact hm.apart k' m1 k m v' _ b' h2 hk hne hv' hv hb' hb
  cases h2;exact absurd rfl hne
 ·intro m1 h1
  obtain⟨h2,_⟩|h2:=qJ hm.keys _ h1
  ·exact absurd rfl h2
  cases h2;exact hrel hs
 intro m1 v' b' _ hv' hb';rw[hv]at hv';cases hv'
 rw[hb]at hb';cases hb'
 refine⟨λk' m2 v2 h2 hne hv2 hb2=>?_,by simpa using (hm.old r ⟨k,m,_,hk,hv,hb⟩).1,(hm.old r ⟨k,m,_,hk,hv,hb⟩).2⟩
 obtain⟨_,h3⟩|h3:=qJ hm.keys _ h2
 ·exact hm.apart k' m2 k m v2 _ r h3 hk hne hv2 hv hb2 hb
 cases h3;exact absurd rfl hne
def ziM:∀{es:List (Int×SV)} {n:Int} {K1:SV->Prop} {K0:Prop},zwP es n K1 K0->
  (∃(i:Nat) (s:SV),es[i]?=some (n,s)/\(∀(j:Nat) (m:Int) (s':SV),j<i->es[j]?=some (m,s')->n≠m)/\K1 s)∨((∀(j:Nat) (m:Int) (s':SV),es[j]?=some (m,s')->n≠m)/\K0)
 |[],n,K1,K0,h=>.inr ⟨λj m s' h=>by simp at h,h⟩
 |(k,s)::r,n,K1,K0,h=>by
  have h:Br (n=k->K1 s) (¬n=k->zwP r n K1 K0):=h
  by_cases e:n=k
  ·exact .inl ⟨0,s,by rw[e];rfl,λj _ _ hj=>by omega,h.yes e⟩
  rcases ziM (h.no e) with⟨i,s1,h1,h2,h3⟩|⟨h1,h2⟩
  ·refine .inl ⟨i+1,s1,h1,λj m s' hj hs=>?_,h3⟩
   cases j with
   |zero=>simp at hs;rw[←hs.1];exact e
   |succ j=>exact h2 j m s' oM hs
  refine .inr ⟨λj m s' hs=>?_,h2⟩
  cases j with
  |zero=>simp at hs;rw[←hs.1];exact e
  |succ j=>exact h1 j m s' hs
def zlj:∀{es:List (Int×SV)} {n:Int} {s:SV} {K:List (Int×SV)->Prop},zwQ es n s K->
  (∃(i:Nat) (s0:SV),es[i]?=some (n,s0)/\(∀(j:Nat) (m:Int) (s':SV),j<i->es[j]?=some (m,s')->n≠m)/\K (es.set i (n,s)))∨((∀(j:Nat) (m:Int) (s':SV),es[j]?=some (m,s')->n≠m)/\K (es++[(n,s)]))
 |[],n,s,K,h=>.inr ⟨λj m s' h=>by simp at h,h⟩
 |(k,s0)::r,n,s,K,h=>by
  have h:Br (n=k->K ((n,s)::r)) (¬n=k->zwQ r n s λr'=>K ((k,s0)::r')):=h
  by_cases e:n=k
  ·exact .inl ⟨0,s0,by rw[e];rfl,λj _ _ hj=>by omega,h.yes e⟩
  rcases zlj (h.no e) with⟨i,s1,h1,h2,h3⟩|⟨h1,h2⟩
  ·refine .inl ⟨i+1,s1,h1,λj m s' hj hs=>?_,h3⟩
   cases j with
   |zero=>simp at hs;rw[←hs.1];exact e
   |succ j=>exact h2 j m s' oM hs
  refine .inr ⟨λj m s' hs=>?_,h2⟩
  cases j with
  |zero=>simp at hs;rw[←hs.1];exact e
  |succ j=>exact h1 j m s' hs
def zcR{n:Int}:∀{ents:List MapEntry} {i:Nat} {e:MapEntry} (c:Nat),ents[i]?=some e->e.key=.int .i64 n->(∀(j:Nat) e',j<i->ents[j]?=some e'->∃m,e'.key=.int .i64 m/\n≠m)->
  Instr.findNow (.int .i64) (.int .i64 n) ents c=some (some (c+i,e.val))
 |[],i,e,c,h,_,_=>by simp at h
 |x::r,i,e,c,h,hk,ho=>by
  cases i with
  |zero=>
   simp at h;subst h;unfold Instr.findNow;simp[Instr.sameNow,hk]
  |succ i=>
   obtain⟨m,h1,h2⟩:=ho 0 x oM rfl;unfold Instr.findNow;rw[h1];simp only[Instr.sameNow,if_true];rw[show(n==m)=false by simpa using h2];simp only;rw[zcR (c+1) (i:=i) h hk (λj e' hj he=>ho (j+1) e' oM he)];congr 2;congr 1;omega
def zbR{n:Int}:∀{ents:List MapEntry} (c:Nat),(∀(j:Nat) e',ents[j]?=some e'->∃m,e'.key=.int .i64 m/\n≠m)->Instr.findNow (.int .i64) (.int .i64 n) ents c=some none
 |[],c,_=>rfl
 |x::r,c,ho=>by
  obtain⟨m,h1,h2⟩:=ho 0 x rfl;unfold Instr.findNow;rw[h1];simp only[Instr.sameNow,if_true];rw[show(n==m)=false by simpa using h2];exact zbR (c+1) λj e' he=>ho (j+1) e' he
variable{P:Program}
def vZ{w:World}{kt:TypeId}{k:IntKind}(h:P.underlying kt=some (.int k))(b:Bool)(v:Value):(Instr.checkKey b 10000 kt v).run P w=.ok () w:=by
 rw[Instr.checkKey];simp[run_underlying h]
def zm2(n:Int):Instr.sameBits 10000 (.int .i64 n) (.int .i64 n)=true:=by
 unfold Instr.sameBits;simp
variable{Γ:LS}{lm:LH}{κ:Nat}{K:SV->MD->Prop}
def zkS(hT:TOK P Γ){t:TypeId}{x:Option Operand}{svs:LQ}(h:ziB Γ t svs κ K):∃r md,K r md/\ya P (.makeMap t x) svs lm κ r md:=by
 unfold ziB at h;replace h:=zo h;obtain⟨i,hi,h⟩:=h;have hk:=(hT t i hi).kind
 split at h
 ·rename_i kt et hkind;rw[hkind]at hk;have hk:P.underlying t=some (.map kt et):=hk
  have fin:∀(o:Oper) (Keep:LG) (M:LT) (ρ:ze) (a:Act) (w:World),zB Keep M ρ w->ρ κ=none->(∀m,(κ,m)∉M)->
    (execOp a.eval o).run P w=.ok (.value (.map (some w.heap.size))) (w.alloc (.map #[] 0))->qk P o a w (kG Keep M ρ w κ (.own κ) (.push (.map []))):=λo Keep M ρ a w hm hκ hκM hrun=>
   qk.value hrun (kG.push (u:=.map (some w.heap.size)) (zbQ hm hκ hκM _ _ _ (.map w) rfl λhs=>
    ⟨w.heap.size,#[],0,z7,heap_alloc_new w _,rfl,λi n s hi=>by simp at hi⟩) (.own _ _ z7 rfl))
  split at h
  ·refine⟨_,_,h,λo ho Keep M ρ a w _ hm hκ hκM hgs=>fin o Keep M ρ a w hm (hκ _ (Xi _) (X2 _)) (hκM rfl) ?_⟩
   have hx:x=none:=by
    cases x with
    |none=>rfl
    |some y=>have:=hgs.1;simp[kL,yO]at this
   subst hx;simp[execOp,ho,Instr.makeMap]
  ·rename_i kk nn rest;refine⟨_,_,h,λo ho Keep M ρ a w _ hm hκ hκM hgs=>fin o Keep M ρ a w hm (hκ _ (Xi _) (X2 _)) (hκM rfl) ?_⟩
   cases x with
   |none=>have:=hgs.1;simp[kL,yO]at this
   |some y=>
    have hy:a.eval y=.int kk nn:=(Gs.head hgs).val_inv;simp[execOp,ho,Instr.makeMap,hy,run_underlying hk,asInt,asIntOf]
  exact h.elim
 exact h.elim
variable{x:Operand}{m:SV}
def zfr(hT:TOK P Γ){t:TypeId}{y z:Operand}{k s:SV}(h:zbN Γ t m k s lm K):(∃r md,K r md/\ya P (.mapUpdate t x y z) [m,k,s] lm κ r md)/\∃r md,K r md/\ya P (.insert t x y z) [m,k,s] lm κ r md:=by
 constructor
 all_goals
  unfold zbN at h;replace h:=zo h;obtain⟨i,hi,h⟩:=h;have hk:=(hT t i hi).kind
  split at h
  ·rename_i kt et hkind;rw[hkind]at hk;have hk:P.underlying t=some (.map kt et):=hk;replace h:=zo h;obtain⟨j,hj,h⟩:=h;have hkk:=(hT kt j hj).kind
   split at h
   ·rename_i c n hjk;rw[hjk]at hkk;have hkk:P.underlying kt=some (.int .i64):=hkk
    split at h
    ·rename_i es hlk;replace h:=zf h;obtain⟨hf,h⟩:=h
     obtain⟨i,s0,h1,h2,h3⟩|⟨h1,h3⟩:=zlj h
     ·refine⟨_,_,h3,λo ho Keep M ρ a w hlm hm _ _ hgs=>?_⟩;have hmem:=zn (hlm c _ hlk);obtain⟨r,ents,clock,g1,g2,g3,g4⟩:=hm.rel c _ hmem;obtain⟨v0,hρ,hx⟩:∃v0,ρ c=some v0/\a.eval x=v0:=⟨_,(Gs.head hgs).own_inv.1,rfl⟩;rw[g1]at hρ;cases hρ
      have hy:a.eval y=.int .i64 n:=(Gs.head (Gs.tail hgs)).val_inv;have hz:=y9 hf (Gs.head (Gs.tail (Gs.tail hgs)));obtain⟨e,he,hek,hd⟩:=g4 i n s0 h1
      have hhit:=zcR (n:=n) 0 (ents:=ents.toList) (i:=i) (e:=e) (by simpa using he) hek (λj e' hj he'=>by
       have hjl:j<es.length:=by have:=(Xd.1 h1).1;omega
       obtain⟨⟨m,s'⟩,hms⟩:∃p,es[j]?=some p:=⟨_,Xa hjl⟩;obtain⟨e2,q1,q2,_⟩:=g4 j m s' hms;have he':ents[j]?=some e':=by simpa using he'
       rw[q1]at he';cases he'
       exact⟨m,q2,h2 j m s' hj hms⟩)
      rw[X9]at hhit;refine qk.skip (w':={ w with heap:=w.heap.setIfInBounds r (.map (ents.modify i λe=>{ e with key:=.int .i64 n,val:=a.eval z }) clock) }) ?_ ?_
      ·simp[execOp,ho,hx,hy,Instr.mapUpdate,run_underlying hk,run_underlying hkk,MapKept.run_getObj_map g2,vZ hkk,Instr.findKey,hhit,Instr.keyThatStays,he,hek,zm2,MapKept.run_setObj_map _ g2]
      refine kG.set (hm.writeMap _ hmem g1 g2 _ _ λhs=>⟨r,ents.modify i λe=>{ e with key:=.int .i64 n,val:=a.eval z },clock,g1,by rw[K9];simp[(X1.1 g2).1],by simp[g3],λj m s' hjm=>?_⟩) (.d _ _ (.val _));rw[Kw]at hjm
      by_cases eij:i=j
      ·subst eij;rw[Xe rfl]at hjm
       split at hjm
       ·cases hjm
        exact⟨{ e with key:=.int .i64 n,val:=a.eval z },by rw[Js,Xe rfl,he];rfl,rfl,hz.stp hs⟩
       cases hjm
      rw[Xb eij]at hjm;obtain⟨e2,q1,q2,q3⟩:=g4 j m s' hjm;exact⟨e2,by rw[Js,Xb eij,q1],q2,q3.stp hs⟩
     refine⟨_,_,h3,λo ho Keep M ρ a w hlm hm _ _ hgs=>?_⟩;have hmem:=zn (hlm c _ hlk);obtain⟨r,ents,clock,g1,g2,g3,g4⟩:=hm.rel c _ hmem;obtain⟨v0,hρ,hx⟩:∃v0,ρ c=some v0/\a.eval x=v0:=⟨_,(Gs.head hgs).own_inv.1,rfl⟩;rw[g1]at hρ;cases hρ
     have hy:a.eval y=.int .i64 n:=(Gs.head (Gs.tail hgs)).val_inv;have hz:=y9 hf (Gs.head (Gs.tail (Gs.tail hgs)))
     have hmiss:=zbR (n:=n) 0 (ents:=ents.toList) (λj e' he'=>by
      have he':ents[j]?=some e':=by simpa using he'
      have hjl:j<es.length:=by have:=(X1.1 he').1;omega
      obtain⟨⟨m,s'⟩,hms⟩:∃p,es[j]?=some p:=⟨_,Xa hjl⟩;obtain⟨e2,q1,q2,_⟩:=g4 j m s' hms;rw[q1]at he';cases he'
      exact⟨m,q2,h1 j m s' hms⟩)
     refine qk.skip (w':={ w with heap:=w.heap.setIfInBounds r (.map (ents.push { key:=.int .i64 n,val:=a.eval z,born:=clock }) (clock+1)) }) ?_ ?_
     ·simp[execOp,ho,hx,hy,Instr.mapUpdate,run_underlying hk,run_underlying hkk,MapKept.run_getObj_map g2,vZ hkk,Instr.findKey,hmiss,MapKept.run_setObj_map _ g2]
     refine kG.set (hm.writeMap _ hmem g1 g2 _ _ λhs=>⟨r,ents.push { key:=.int .i64 n,val:=a.eval z,born:=clock },clock+1,g1,by rw[K9];simp[(X1.1 g2).1],by simp[g3],λj m s' hjm=>?_⟩) (.d _ _ (.val _))
     by_cases hj:j<es.length
     ·rw[XH hj]at hjm;obtain⟨e2,q1,q2,q3⟩:=g4 j m s' hjm;exact⟨e2,by rw[Array.getElem?_push,Xb oM,q1],q2,q3.stp hs⟩
     rw[XB oM]at hjm
     have hj0:j=es.length:=by
      have:=(Xd.1 hjm).1;simp at this;omega
     subst hj0;simp at hjm;obtain⟨rfl,rfl⟩:=hjm;exact⟨_,by rw[Array.getElem?_push,Xe g3.symm],rfl,hz.stp hs⟩
    exact h.elim
   exact h.elim
  exact h.elim
def zm3(hT:TOK P Γ){t:TypeId}{y:Operand}{ok:Bool}{k:SV}(h:zmT Γ t ok m k lm K):∃r,K r .none/\ya P (.lookup t x y ok) [m,k] lm κ r .none:=by
 unfold zmT at h;replace h:=zo h;obtain⟨i,hi,h⟩:=h;have hk:=(hT t i hi).kind
 split at h
 ·rename_i kt et hkind;rw[hkind]at hk;have hk:P.underlying t=some (.map kt et):=hk;replace h:=zo h;obtain⟨j,hj,h⟩:=h;replace h:=zo h;obtain⟨z,hz,h⟩:=h;have hkk:=(hT kt j hj).kind
  split at h
  ·rename_i c n hjk;rw[hjk]at hkk;have hkk:P.underlying kt=some (.int .i64):=hkk
   split at h
   ·rename_i es hlk
    have lookE:∀{s:SV} {b:Bool},zsN ok s b K->∃r,K r .none/\∀{S Pm:LG} {ρ:ze} {w:World} {v:Value},G S Pm ρ w s v->G S Pm ρ w r (if ok then .tuple #[v,.bool b] else v):=λ{s b} h=>by
     unfold zsN at h
     split at h
     ·exact⟨_,h,λhg=>.tup [s,.val (.bool b)] [_,.bool b] rfl (Gs.cons hg (.cons (.d _ _ (.val _)) .nil)).2⟩
     exact⟨_,qn h,λhg=>hg⟩
    obtain⟨i,s0,h1,h2,h3⟩|⟨h1,h3⟩:=ziM h
    ·obtain⟨res,hK,hres⟩:=lookE h3;refine⟨res,hK,λo ho Keep M ρ a w hlm hm _ _ hgs=>?_⟩;have hmem:=zn (hlm c _ hlk);obtain⟨r,ents,clock,g1,g2,g3,g4⟩:=hm.rel c _ hmem;obtain⟨v0,hρ,hx⟩:∃v0,ρ c=some v0/\a.eval x=v0:=⟨_,(Gs.head hgs).own_inv.1,rfl⟩;rw[g1]at hρ;cases hρ
     have hy:a.eval y=.int .i64 n:=(Gs.head (Gs.tail hgs)).val_inv;obtain⟨e,he,hek,hd⟩:=g4 i n s0 h1
     have hhit:=zcR (n:=n) 0 (ents:=ents.toList) (i:=i) (e:=e) (by simpa using he) hek (λj e' hj he'=>by
      have hjl:j<es.length:=by have:=(Xd.1 h1).1;omega
      obtain⟨⟨m,s'⟩,hms⟩:∃p,es[j]?=some p:=⟨_,Xa hjl⟩;obtain⟨e2,q1,q2,_⟩:=g4 j m s' hms;have he':ents[j]?=some e':=by simpa using he'
      rw[q1]at he';cases he'
      exact⟨m,q2,h2 j m s' hj hms⟩)
     rw[X9]at hhit;refine qk.value (v:=if ok then .tuple #[e.val,.bool true] else e.val) ?_ (kG.same hm (hres (.d _ _ hd)));simp[execOp,ho,hx,hy,Instr.lookup,run_underlying hk,run_underlying hkk,MapKept.run_getObj_map g2,vZ hkk,Instr.findKey,hhit]
    obtain⟨s,h3,hs⟩:=uG h3;obtain⟨res,hK,hres⟩:=lookE h3;refine⟨res,hK,λo ho Keep M ρ a w hlm hm _ _ hgs=>?_⟩;have hmem:=zn (hlm c _ hlk);obtain⟨r,ents,clock,g1,g2,g3,g4⟩:=hm.rel c _ hmem;obtain⟨v0,hρ,hx⟩:∃v0,ρ c=some v0/\a.eval x=v0:=⟨_,(Gs.head hgs).own_inv.1,rfl⟩;rw[g1]at hρ;cases hρ
    have hy:a.eval y=.int .i64 n:=(Gs.head (Gs.tail hgs)).val_inv
    have hmiss:=zbR (n:=n) 0 (ents:=ents.toList) (λj e' he'=>by
     have he':ents[j]?=some e':=by simpa using he'
     have hjl:j<es.length:=by have:=(X1.1 he').1;omega
     obtain⟨⟨m,s'⟩,hms⟩:∃p,es[j]?=some p:=⟨_,Xa hjl⟩;obtain⟨e2,q1,q2,_⟩:=g4 j m s' hms;rw[q1]at he';cases he'
     exact⟨m,q2,h1 j m s' hms⟩)
    obtain⟨f,q1,q2,q3,zv,q4,q5,q6,q7,q8⟩:=(hT et z hz).inf;refine qk.value (v:=if ok then .tuple #[zv,.bool false] else zv) ?_ (kG.same hm (hres ?_))
    ·simp[execOp,ho,hx,hy,Instr.lookup,run_underlying hk,run_underlying hkk,MapKept.run_getObj_map g2,vZ hkk,Instr.findKey,hmiss,zeroValue,typeInfo,q1,q4]
    obtain⟨ha,rfl⟩|⟨ha,l,hl⟩:=hs
    ·obtain⟨f',p1,p2⟩:=(hT et z hz).zagg ha;rw[q1]at p1;cases p1
     rw[q4]at p2;cases p2
     have:((vals z.zero).take z.sz)=vals z.zero:=Xk (by simp[vals,q7]);rw[this];exact .agg _ z.zero (by simp[vals]) (Gs.vals _).2
    have hz1:=q6 ha;have:z.zero=[zv]:=by rw[←q5,hz1]
    rw[this]at hl
    cases hl
    exact .d _ _ (.val _)
   exact h.elim
  exact h.elim
 exact h.elim
def zkT(hT:TOK P Γ){t:TypeId}{s:SV}(h:ziC Γ t s K):∃r,K r .none/\ya P (.makeInterface t x) [s] lm κ r .none:=by
 unfold ziC at h;replace h:=zo h;obtain⟨i,hi,h⟩:=h;have hk:=(hT t i hi).kind
 have key:∀d,P.underlying t=some d->(∀ms,d≠.interface ms)->∀(o:Oper) (a:Act) (w:World),o.op=.makeInterface t x->(execOp a.eval o).run P w=.ok (.value (.iface t (a.eval x))) w:=λd hd hn o a w ho=>by
  cases d <;> first|exact absurd rfl (hn _)|simp[execOp,ho,Instr.makeInterface,run_underlying hd]
 have fin:(∃d,P.underlying t=some d/\∀ms,d≠.interface ms)->K (.ifc t s) .none->∃r,K r .none/\ya P (.makeInterface t x) [s] lm κ r .none:=λ⟨d,hd,hn⟩ h=>
  ⟨_,h,.pure λo ho S Pm ρ a w hgs=>⟨_,key d hd hn o a w ho,.ifc t s _ (Gs.head hgs)⟩⟩
 cases hkk:i.kind <;> rw[hkk]at hk h <;> simp only[zeN]at hk
 case struct fs=>obtain⟨F,hF,_⟩:=hk;exact fin ⟨_,hF,λms e=>by cases e⟩ h
 case iface=>exact h.elim
 case other=>exact h.elim
 all_goals exact fin ⟨_,hk,λms e=>by cases e⟩ h
end
end Go.Gs
