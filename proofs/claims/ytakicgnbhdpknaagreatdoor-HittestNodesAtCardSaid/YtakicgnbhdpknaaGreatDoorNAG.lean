/- The builtins len, min, max and append. -/
import Derived.Test.YtakicgnbhdpknaaGreatDoorNAF
import Derived.Lib.AppendZeros
set_option maxRecDepth 100000
set_option maxHeartbeats 8000000
set_option linter.all false
namespace Go.Gs
def Live(lm:LJ)(svs:LR):Prop:=∃(Keep:LI) (M:LT) (ρ:zh) (w:World) (vs:LA),
 (∀k m,lm k=some m->zU M k=some m)/\zL Keep M ρ w/\Gs (λb=>Keep b∨Own M ρ b) (Own M ρ) ρ w svs vs
def jh{P:Program}{o:Oper}{c:Call}{b:Builtin}(ho:o.op=.call c)(hb:c.callee=.builtin b){a:Act}{w:World}{vs:LA}(hv:c.args.toList.map a.eval=vs):
  ∃cs,(execOp a.eval o).run P w=(builtin b c.argTypes o.type cs vs.toArray).run P w:=by
 have h:c.args.map a.eval=vs.toArray:=by apply QQ;simp[hv]
 have h2:∃cs,(do let d ←resolve a.eval c o.type;invoke d.target d.args:Sem Next)=builtin b c.argTypes o.type cs (c.args.map a.eval):=by
  unfold resolve;rw[hb];exact⟨_,rfl⟩
 obtain⟨cs,h2⟩:=h2;refine⟨cs,?_⟩;simp only[execOp,ho];rw[h2,h]
variable{c:Call}{b:Builtin}{S:LI}{Pm:LI}{ρ:zh}{svs:LR}
def vl(hb:c.callee=.builtin b){a:Act}{w:World}(h:Gs S Pm ρ w svs ((qe (.call c)).map a.eval)):
  Gs S Pm ρ w svs (c.args.toList.map a.eval):=by simpa[qe,hb,zed] using h
variable{tys:Array TypeId}
def zhk{t:TypeId}(h:tys.toList=[t]):tys=#[t]:=by apply QQ;simpa using h
def zhl{t u:TypeId}(h:tys.toList=[t,u]):tys=#[t,u]:=by apply QQ;simpa using h
variable{P:Program}{e:TypeId}{ty:TypeId}
def zAm{t:TypeId}(ht:P.underlying t=some (.slice e))(w:World)(a:Option Addr)(n c:Nat):(Builtin.len_ #[t] ty #[.slice a n c]).run P w=.ok (.int .i64 n) w:=by
 simp[Builtin.len_,run_underlying ht,goInt]
def zAn{t:TypeId}(ht:P.underlying t=some (.slice e))(w:World)(a:Option Addr)(n c:Nat):(Builtin.cap_ #[t] ty #[.slice a n c]).run P w=.ok (.int .i64 c) w:=by
 simp[Builtin.cap_,run_underlying ht,goInt]
variable{α:Type}{xs:List α}
def zwV{w:World}{enc:α->LR}{v:Value}(h:G S Pm ρ w (.sl enc xs) v):
  xs.length<=9223372036854775807/\∃a cap,v=.slice a xs.length cap/\xs.length<=cap:=by
 obtain⟨rfl,a,rfl⟩|⟨_,b,o,cap,_,rfl,_,_,h1,h2,_⟩:=h.sl_inv.sl_inv
 ·exact⟨sI,a,0,rfl,sI⟩
 exact⟨h1,_,cap,rfl,h2⟩
variable{Keep:LI}{M:LT}{sz:Nat}
def ztj{w:World}(hm:zL Keep M ρ w){k:Nat}{T:TypeId}{enc:α->LR}(hk:(k,Mem.arr T enc sz xs)∈M){v:Value}(hv:ρ k=some v):xs.length<=281474976710656/\∃a cap,v=.slice a xs.length cap/\xs.length<=cap:=by
 obtain⟨v',cells,hρ,hown,hlen,_⟩:=hm.rel k _ hk;rw[hv]at hρ;cases hρ
 obtain⟨rfl,h0⟩|⟨g,cap,cur,rfl,_,_,hnc,_⟩:=hown.2
 ·have h0:xs.length=0:=h0;exact⟨hlen,none,0,by rw[h0],oM⟩
 exact⟨hlen,_,cap,rfl,hnc⟩
def zpk{w:World}(hm:zL Keep M ρ w){k:Nat}{T:TypeId}{xs:LN}(hk:(k,Mem.garr T sz xs)∈M){v:Value}(hv:ρ k=some v):xs.length<=281474976710656/\∃a cap,v=.slice a xs.length cap/\xs.length<=cap:=by
 obtain⟨v',cells,hρ,hown,hlen,_⟩:=hm.rel k _ hk;rw[hv]at hρ;cases hρ
 obtain⟨rfl,h0⟩|⟨g,cap,cur,rfl,_,_,hnc,_⟩:=hown.2
 ·have h0:xs.length=0:=h0;exact⟨hlen,none,0,by rw[h0],oM⟩
 exact⟨hlen,_,cap,rfl,hnc⟩
def zhm:∀{s:LR} {K:IntKind->LV->Prop},zrE s K->∃(k:IntKind) (x:Int) (r:LV),K k (x::r)/\
  ∀{S Pm:LI} {ρ:zh} {w:World} {vs:LA},Gs S Pm ρ w s vs->∃us:LA,vs=.int k x::us/\us.length=r.length/\∀(j:Nat) (y:Int),r[j]?=some y->∃k',us[j]?=some (.int k' y)
 |[],K,h=>by simp[zrE]at h
 |s::r,K,h=>by
  unfold zrE at h
  split at h
  ·rename_i k m r' heq
   cases heq
   split at h
   ·refine⟨k,m,[],h,λhg=>?_⟩;obtain⟨v,vs',rfl,h1,h2⟩:=hg.cons_inv;exact⟨[],by rw[h1.val_inv,h2.nil_inv],rfl,λj y hy=>by simp at hy⟩
   obtain⟨k2,x2,r2,hK,hg2⟩:=zhm h;refine⟨k,m,x2::r2,hK,λhg=>?_⟩;obtain⟨v,vs',rfl,h1,h2⟩:=hg.cons_inv;obtain⟨us,rfl,hl,hy⟩:=hg2 h2;refine⟨.int k2 x2::us,by rw[h1.val_inv],by simp[hl],λj y hj=>?_⟩
   cases j with
   |zero=>simp at hj;subst hj;exact⟨k2,rfl⟩
   |succ j=>simpa using hy j y (by simpa using hj)
  exact h.elim
def zpl{P:Program}{w:World}{k:IntKind}:∀(r:LV) (us:LA) (x:Int),us.length=r.length->(∀(j:Nat) (y:Int),r[j]?=some y->∃k',us[j]?=some (.int k' y))->
  (us.foldlM Builtin.min2 (.int k x)).run P w=.ok (.int k (zbL x r)) w
 |[],us,x,hl,_=>by
  have:us=[]:=Xp hl;subst this;simp[zbL]
 |y::r,us,x,hl,hy=>by
  cases us with
  |nil=>simp at hl
  |cons u us=>
   obtain⟨k',hu⟩:=hy 0 y rfl;simp at hu;subst hu;have hmin:(if y<x then y else x)=min x y:=oM;simp only[List.foldlM_cons,Builtin.min2,Sem.run_bind,Sem.run_pure,Result.andThen_ok,hmin,zbL];exact zpl r us (min x y) (by simpa using hl) (λj z hz=>by simpa using hy (j+1) z (by simpa using hz))
def zpm{P:Program}{w:World}{k:IntKind}:∀(r:LV) (us:LA) (x:Int),us.length=r.length->(∀(j:Nat) (y:Int),r[j]?=some y->∃k',us[j]?=some (.int k' y))->
  (us.foldlM Builtin.max2 (.int k x)).run P w=.ok (.int k (zcr x r)) w
 |[],us,x,hl,_=>by
  have:us=[]:=Xp hl;subst this;simp[zcr]
 |y::r,us,x,hl,hy=>by
  cases us with
  |nil=>simp at hl
  |cons u us=>
   obtain⟨k',hu⟩:=hy 0 y rfl;simp at hu;subst hu;have hmax:(if y > x then y else x)=max x y:=oM;simp only[List.foldlM_cons,Builtin.max2,Sem.run_bind,Sem.run_pure,Result.andThen_ok,hmax,zcr];exact zpm r us (max x y) (by simpa using hl) (λj z hz=>by simpa using hy (j+1) z (by simpa using hz))
def Src(S:LI)(w:World)(enc:α->LR)(sz:Nat)(ys:List α)(v:Value)(news:LA):Prop:=
 news.length=ys.length*sz/\(∀u∈news,u.oneCell'=true)/\
 (∀(i j:Nat) y (s:SV),ys[i]?=some y->(enc y)[j]?=some s->∃u,news[i*sz+j]?=some u/\D S w s u)/\
 ((v=.slice none 0 0/\ys=[])∨∃a c,v=.slice (some a) ys.length c/\∀(j:Nat) (u:Value),news[j]?=some u->w.cell? (a.add j)=some u)
variable{ys:List α}
def zpn{w:World}{enc:α->LR}{v:Value}(hd:D S w (.sl enc ys) v)(h0:0<sz)(hsz:∀x∈ys,(enc x).length=sz):
  ∃news,Src S w enc sz ys v news:=by
 obtain⟨rfl,a,rfl⟩|⟨sz',b,o,cap,c,rfl,hb,hS,hlen,hcap,hesz,hc,he⟩:=hd.sl_inv
 ·cases a with
  |none=>exact⟨[],sI,sI,λi j y s h=>by simp at h,.inl ⟨rfl,rfl⟩⟩
  |some a=>exact⟨[],sI,sI,λi j y s h=>by simp at h,.inr ⟨a,0,rfl,λj u hu=>by simp at hu⟩⟩
 have hs:ys≠[]->sz'=sz:=λhne=>by
  obtain⟨x,hx⟩:=Q0 ys hne;rw[←hesz x hx,←hsz x hx]
 have hq:∀q,q<ys.length*sz->q/sz<ys.length/\q%sz<sz/\sz'=sz/\q/sz*sz+q%sz=q:=λq hq=>by
  have h1:q/sz<ys.length:=(XS h0).2 hq;refine⟨h1,Kk _ h0,hs (λe=>by rw[e]at h1;simp at h1),?_⟩;rw[Ks];exact X8 q sz
 refine⟨(List.range (ys.length*sz)).map λq=>c (q/sz) (q%sz),sI,?_,?_,.inr ⟨_,cap,rfl,?_⟩⟩
 ·intro u hu;obtain⟨q,hq',rfl⟩:=XO.1 hu;obtain⟨h1,h2,h3,_⟩:=hq q (Kd.1 hq');exact(hc _ _ h1 (h3 ▸ h2)).2
 ·intro i j y s hy hs';have hi:i<ys.length:=(Xd.1 hy).1
  have hj:j<sz:=by
   have:=(Xd.1 hs').1;rw[hsz y (Xf hy)]at this;exact this
  have hlt:i*sz+j<ys.length*sz:=by
   have:=Xv sz (X6 hi);rw[X4]at this;omega
  have e1:(i*sz+j)/sz=i:=by rw[Ks,Qy h0];simp[Kh hj]
  have e2:(i*sz+j)%sz=j:=by rw[Ks,Qz];exact Xy hj
  refine⟨c i j,by simp[hlt,e1,e2],he i j y s hy hs'⟩
 intro q u hu;have hq':q<ys.length*sz:=by have:=(Xd.1 hu).1;simpa using this
 obtain⟨h1,h2,h3,h4⟩:=hq q hq';simp[hq']at hu;subst hu;subst h3;rw[ya];have:=(hc _ _ h1 h2).1;rw[KB,h4]at this;exact this
variable{lm:LJ}
def vI{s:SV}{enc:α->LR}(h:zde lm s enc ys){w:World}(hlm:∀k m,lm k=some m->zU M k=some m)(hm:zL Keep M ρ w){v:Value}(hg:G (λb=>Keep b∨Own M ρ b) (Own M ρ) ρ w s v)(h0:0<sz)(hsz:∀x∈ys,(enc x).length=sz):∃news,Src (λb=>Keep b∨Own M ρ b) w enc sz ys v news:=by
 unfold zde at h
 split at h
 ·subst h;rw[hg.val_inv];exact⟨[],sI,sI,λi j y s h=>by simp at h,.inl ⟨rfl,rfl⟩⟩
 ·rename_i k;simp only[zia]at h
  split at h
  ·rename_i T β enc' sz' xs hlk
   cases h
   obtain⟨hv,_⟩:=hg.own_inv;obtain⟨v',cells,hρ,hown,hlen,hone,hesz,hcells⟩:=hm.rel k _ (zA (hlm k _ hlk));rw[hv]at hρ;cases hρ
   obtain⟨rfl,he⟩|⟨g,cap,cur,rfl,_,hheap,hnc,hcm,hcs,htake⟩:=hown.2
   ·have:ys=[]:=Xp he;subst this;exact⟨[],sI,sI,λi j y s h=>by simp at h,.inl ⟨rfl,rfl⟩⟩
   by_cases hne:ys=[]
   ·subst hne;exact⟨[],sI,sI,λi j y s h=>by simp at h,.inr ⟨_,cap,rfl,λj u hu=>by simp at hu⟩⟩
   obtain⟨x,hx⟩:=Q0 ys hne;have:sz'=sz:=by rw[←hesz x hx,←hsz x hx]
   subst this;exact⟨cells,hown.1,hone,hcells,.inr ⟨_,cap,rfl,λj u hu=>by rw[ya,Kc];exact zbV hheap htake hu⟩⟩
  cases h
 subst h;exact zpn hg.sl_inv h0 hsz
def za4{P:Program}{t ty e:TypeId}{f:TypeInfo}{z:Value}(ht:P.underlying t=some (.slice e))(hi:P.info? e=some f)(hz:f.zero=some z)(hzs:z.cells.size=f.size){w:World}{v:Value}{n:Nat}{cells:LA}(hown:w.ownsRow 0 e f.size v n cells){S:LI}{α:Type}{enc:α->LR}{ys:List α}{vx:Value}{news:LA}(hs:Src S w enc f.size ys vx news)(h63:n+ys.length<=maxLen)(hbytes:(n+ys.length)*f.bytes<=140737488355328):
  ∃v' w',(Builtin.append_ #[t,t] ty #[v,vx]).run P w=.ok v' w'/\w'.ownsRow 0 e f.size v' (n+ys.length) (cells++news)/\w'.os=w.os/\w'.tape=w.tape/\kO w w'/\w.heap.size<=w'.heap.size/\
   (∀b,b<w.heap.size->qb v≠some b->w'.heap[b]?=w.heap[b]?)/\(qb v'=qb v∨(qb v'=some w.heap.size/\w.heap.size<w'.heap.size))/\v'.oneCell'=true:=by
 obtain⟨hl,hone,_,hv⟩:=hs;have h63':(n+ys.length:Int)<=9223372036854775807:=by unfold maxLen at h63;omega
 have made:∀(old:Nat),old<n+ys.length->(w.drew.alloc (.cells (cells.toArray++news.toArray++Builtin.zeroCells z.cells (grownCap w (n+ys.length) old e-(n+ys.length))) e)).ownsRow 0 e f.size
    (.slice (some ⟨w.heap.size,0,none⟩) (n+ys.length) (grownCap w (n+ys.length) old e)) (n+ys.length) (cells++news):=by
  intro old _;have hge:=grownCap_ge w (n+ys.length) old e;have hcl:=hown.1;refine⟨by rw[Xq,hcl,hl,X2],.inr ⟨w.heap.size,_,_,rfl,Xh _,heap_alloc_new w.drew _,hge,grownCap_le_maxLen w _ old e h63,?_,?_⟩⟩
  ·simp only[Je,KJ,size_zeroCells,hzs,hcl,hl,←X2];congr 1;omega
  simp only[Q2];rw[KD (by simp[hcl,hl,X2])];exact Xi (by simp[hcl,hl,X2])
 obtain⟨rfl,rfl⟩|⟨a,c,rfl,hcells⟩:=hv
 ·have hn:news=[]:=Xp (by simpa using hl);subst hn
  obtain⟨rfl,h0⟩|⟨g,cap,cur,rfl,_,hheap,hnc,hcm,hcs,htake⟩:=hown.2
  ·refine⟨.slice none 0 0,w,?_,?_,rfl,rfl,.refl _,Xk _,λ_ _ _=>rfl,.inl rfl,rfl⟩
   ·simp[Builtin.append_,run_underlying ht,sizeOf,typeInfo,hi,Builtin.lenOf,Builtin.firstCells]
   subst h0;have hc0:cells=[]:=Xp (by simpa using hown.1);subst hc0;exact World.ownsRow_nil w 0 e f.size
  refine⟨.slice (some ⟨g,0,none⟩) n cap,w,?_,?_,rfl,rfl,.refl _,Xk _,λ_ _ _=>rfl,.inl rfl,rfl⟩
  ·simp[Builtin.append_,run_underlying ht,sizeOf,typeInfo,hi,Builtin.lenOf,Builtin.firstCells,hnc,storeCells]
  simpa using hown
 obtain⟨rfl,rfl⟩|⟨g,cap,cur,rfl,_,hheap,hnc,hcm,hcs,htake⟩:=hown.2
 ·have hc0:cells=[]:=Xp (by simpa using hown.1);subst hc0
  by_cases hy:ys.length=0
  ·have hn:news=[]:=Xp (by simpa[hy] using hl);subst hn;refine⟨.slice none 0 0,w,?_,?_,rfl,rfl,.refl _,Xk _,λ_ _ _=>rfl,.inl rfl,rfl⟩
   ·simp[Builtin.append_,run_underlying ht,sizeOf,typeInfo,hi,Builtin.lenOf,Builtin.firstCells,hy,loadCells,loadCellsFrom]
   rw[hy];exact World.ownsRow_nil w 0 e f.size
  have hr:=run_append_nil (P:=P) w t ty e f z ht hi hz a ys.length c news hl hcells oM (by simpa using h63') (by have hb:=hbytes;simp only[Kc]at hb;omega);have hgr:=made 0 oM;simp only[Kc,Qx,Array.empty_append]at hgr ⊢;exact⟨_,_,hr,hgr,rfl,rfl,.cells w.drew _ _,sI,λb hb _=>heap_alloc_old w.drew _ b hb,.inr ⟨rfl,sI⟩,rfl⟩
 have hcl:=hown.1
 by_cases hroom:n+ys.length<=cap
 ·have hfit:n*f.size+news.length<=cur.size:=by rw[hl,hcs,←X2];exact Xv _ hroom
  have hr:=run_append_room (P:=P) w t ty e f ht hi g n cap cur hheap a ys.length c news hl hcells hone hroom hfit
  refine⟨_,_,hr,⟨by rw[Xq,hcl,hl,X2],.inr ⟨g,cap,_,rfl,Xh _,setRow_heap w g cur _ e _ hheap,hroom,hcm,?_,?_⟩⟩,rfl,rfl,.setRow _ _ _,sI,
   λb _ hne=>setRow_other w g b _ (λe=>hne (by simp[qb,e])),.inl rfl,rfl⟩
  ·simp only[KJ,Xq,Xo,Kv,Qi];omega
  rw[htake,X2,←hl,←hcl];rw[KD sI];exact Xi sI
 have holds:∀(j:Nat) (u:Value),cells[j]?=some u->w.cell? ((⟨g,0,none⟩:Addr).add j)=some u:=λj u hu=>by rw[ya,Kc];exact zbV hheap htake hu
 have hr:=run_append_grow (P:=P) w t ty e f z ht hi hz ⟨g,0,none⟩ n cap cells hcl holds a ys.length c news hl hcells oM (by push_cast;exact h63') (growslice_fits oM hbytes);exact⟨_,_,hr,made cap oM,rfl,rfl,.cells w.drew _ _,sI,λb hb _=>heap_alloc_old w.drew _ b hb,.inr ⟨rfl,sI⟩,rfl⟩
def zpo{P:Program}{t ty e:TypeId}{f:TypeInfo}{z:Value}(ht:P.underlying t=some (.slice e))(hi:P.info? e=some f)(hz:f.zero=some z)(hzs:z.cells.size=f.size){w:World}(ad:Option Addr){S:LI}{α:Type}{enc:α->LR}{ys:List α}{vx:Value}{news:LA}(hs:Src S w enc f.size ys vx news)(hne:ys≠[])(h63:ys.length<=maxLen)(hbytes:ys.length*f.bytes<=140737488355328):
  ∃v' w',(Builtin.append_ #[t,t] ty #[.slice ad 0 0,vx]).run P w=.ok v' w'/\w'.ownsRow 0 e f.size v' ys.length news/\w'.os=w.os/\w'.tape=w.tape/\kO w w'/\w.heap.size<=w'.heap.size/\
   (∀b,b<w.heap.size->w'.heap[b]?=w.heap[b]?)/\(qb v'=some w.heap.size/\w.heap.size<w'.heap.size)/\v'.oneCell'=true:=by
 obtain⟨hl,hone,_,hv⟩:=hs;have h63':(ys.length:Int)<=9223372036854775807:=by unfold maxLen at h63;omega
 have hpos:0<ys.length:=JD.2 hne
 have made:(w.drew.alloc (.cells (news.toArray++Builtin.zeroCells z.cells (grownCap w ys.length 0 e-ys.length)) e)).ownsRow 0 e f.size
    (.slice (some ⟨w.heap.size,0,none⟩) ys.length (grownCap w ys.length 0 e)) ys.length news:=by
  have hge:=grownCap_ge w ys.length 0 e;refine⟨hl,.inr ⟨w.heap.size,_,_,rfl,Xh _,heap_alloc_new w.drew _,hge,grownCap_le_maxLen w _ 0 e h63,?_,?_⟩⟩
  ·simp only[Je,KJ,size_zeroCells,hzs,hl,←X2];congr 1;omega
  simp only[Q2];rw[KD (by simp[hl])];exact Xi (by simp[hl])
 obtain⟨_,rfl⟩|⟨a,c,rfl,hcells⟩:=hv
 ·exact absurd rfl hne
 cases ad with
 |none=>
  have hr:=run_append_nil (P:=P) w t ty e f z ht hi hz a ys.length c news hl hcells oM h63' oM;exact⟨_,_,hr,made,rfl,rfl,.cells w.drew _ _,sI,λb hb=>heap_alloc_old w.drew _ b hb,⟨rfl,sI⟩,rfl⟩
 |some g=>
  have hr:=run_append_grow (P:=P) w t ty e f z ht hi hz g 0 0 [] sI (λj u hu=>by simp at hu) a ys.length c news hl hcells oM (by simpa using h63') (growslice_fits oM (by simpa using hbytes));simp only[Kc,Array.empty_append]at hr;exact⟨_,_,hr,made,rfl,rfl,.cells w.drew _ _,sI,λb hb=>heap_alloc_old w.drew _ b hb,⟨rfl,sI⟩,rfl⟩
def zpp{P:Program}{t ty e:TypeId}{f:TypeInfo}{z:Value}(ht:P.underlying t=some (.slice e))(hi:P.info? e=some f)(hz:f.zero=some z)(hzs:z.cells.size=f.size){w:World}(ad:Option Addr){S:LI}{α:Type}{enc:α->LR}{xs ys:List α}{vx:Value}{olds news:LA}(ho:Src S w enc f.size xs (.slice ad xs.length xs.length) olds)(hs:Src S w enc f.size ys vx news)(hne:ys≠[])(h63:xs.length+ys.length<=maxLen)(hbytes:(xs.length+ys.length)*f.bytes<=140737488355328):
  ∃v' w',(Builtin.append_ #[t,t] ty #[.slice ad xs.length xs.length,vx]).run P w=.ok v' w'/\w'.ownsRow 0 e f.size v' (xs.length+ys.length) (olds++news)/\w'.os=w.os/\w'.tape=w.tape/\kO w w'/\w.heap.size<=w'.heap.size/\
   (∀b,b<w.heap.size->w'.heap[b]?=w.heap[b]?)/\(qb v'=some w.heap.size/\w.heap.size<w'.heap.size)/\v'.oneCell'=true:=by
 obtain⟨hl,hone,_,hv⟩:=hs;obtain⟨hol,_,_,hov⟩:=ho;have h63':(xs.length+ys.length:Int)<=9223372036854775807:=by unfold maxLen at h63;omega
 have hpos:0<ys.length:=JD.2 hne
 have made:∀old:Nat,(w.drew.alloc (.cells (olds.toArray++news.toArray++Builtin.zeroCells z.cells (grownCap w (xs.length+ys.length) old e-(xs.length+ys.length))) e)).ownsRow 0 e f.size
    (.slice (some ⟨w.heap.size,0,none⟩) (xs.length+ys.length) (grownCap w (xs.length+ys.length) old e)) (xs.length+ys.length) (olds++news):=by
  intro old;have hge:=grownCap_ge w (xs.length+ys.length) old e;refine⟨by rw[Xq,hol,hl,X2],.inr ⟨w.heap.size,_,_,rfl,Xh _,heap_alloc_new w.drew _,hge,grownCap_le_maxLen w _ old e h63,?_,?_⟩⟩
  ·simp only[Je,KJ,size_zeroCells,hzs,hol,hl,←X2];congr 1;omega
  simp only[Q2];rw[KD (by simp[hol,hl,X2])];exact Xi (by simp[hol,hl,X2])
 obtain⟨_,rfl⟩|⟨a,c,rfl,hcells⟩:=hv
 ·exact absurd rfl hne
 cases ad with
 |none=>
  have hx0:xs=[]:=by
   obtain⟨_,h⟩|⟨_,_,h,_⟩:=hov
   ·exact h
   cases h
  subst hx0;have ho0:olds=[]:=Xp (by simpa using hol);subst ho0;have hr:=run_append_nil (P:=P) w t ty e f z ht hi hz a ys.length c news hl hcells oM (by simpa using h63') (by simp only[Xr,Kc]at hbytes;omega);have:=made 0;simp only[Xr,Kc,Qx]at this;refine⟨_,_,hr,?_,rfl,rfl,.cells w.drew _ _,sI,λb hb=>heap_alloc_old w.drew _ b hb,⟨rfl,sI⟩,rfl⟩
  simpa using this
 |some g=>
  have hcell:∀(j:Nat) (u:Value),olds[j]?=some u->w.cell? (g.add j)=some u:=by
   obtain⟨h,_⟩|⟨a',c',h,hc⟩:=hov
   ·cases h
   cases h;exact hc
  have hr:=run_append_grow (P:=P) w t ty e f z ht hi hz g xs.length xs.length olds (by simp[hol]) hcell a ys.length c news hl hcells oM (by simpa using h63') (growslice_fits oM (by simpa using hbytes));exact⟨_,_,hr,made _,rfl,rfl,.cells w.drew _ _,sI,λb hb=>heap_alloc_old w.drew _ b hb,⟨rfl,sI⟩,rfl⟩
def zuS:∀{M:LT} {k:Nat} {m:Mem},zU M k=some m->qK M k m=M
 |[],_,_,h=>by simp[zU]at h
 |(k',m')::r,k,m,h=>by
  simp only[zU]at h;simp only[qK]
  split at h
  ·cases h;rfl
  rw[zuS h]
def zAo{P:Program}{Keep:LI}{M:LT}{ρ:zh}{w:World}(hm:zL Keep M ρ w){k:Nat}{T:TypeId}{α:Type}{enc:α->LR}{sz:Nat}{xs:List α}(hmem:(k,Mem.arr T enc sz xs)∈M){b len cap lo n κ:Nat}(hρ:ρ k=some (.slice (some ⟨b,0,none⟩) len cap))(hln:lo+n<=xs.length){ys:List α}{news:LA}(hs:news.length=ys.length*sz/\(∀u∈news,u.oneCell'=true)/\(∀(i j:Nat) y (s:SV),ys[i]?=some y->(enc y)[j]?=some s->∃u,news[i*sz+j]?=some u/\D (λb=>Keep b∨Own M ρ b) w s u))(hysz:∀y∈ys,(enc y).length=sz){o:Oper}{a:Act}{r:Value}(hr:∀T cur,w.heap[b]?=some (.cells cur T (0,0))->lo*sz+min ys.length n*sz<=cur.size->(execOp a.eval o).run P w=.ok (.value r)
   (w.setRow b (cur.toList.take (lo*sz)++news.take (min ys.length n*sz)++cur.toList.drop (lo*sz+min ys.length n*sz)).toArray)):
  qJ P o a w (k8 Keep M ρ w κ (.val r) (.set k (.arr T enc sz (xs.take lo++(ys.take n++xs.drop (lo+min ys.length n)))))):=by
 obtain⟨v0,cells,hρ',hown,hnl,hone0,hesz,hcells⟩:=hm.rel k _ hmem;rw[hρ]at hρ';cases hρ'
 obtain⟨hlen',cur,hheap,hnc,hcm,hcs,htake⟩:=zeg rfl hown;have hcellslen:cells.length=xs.length*sz:=hown.1;have hml:min ys.length n<=n:=Nat.min_le_right _ _;have hmy:min ys.length n<=ys.length:=Nat.min_le_left _ _
 have htk:ys.take n=ys.take (min ys.length n):=by
  rcases Nat.le_total ys.length n with h|h
  ·rw[Qa h,Xi h,Xi (Xk _)]
  rw[Nat.min_eq_right h]
 rw[htk];have hcurlen:xs.length*sz<=cur.toList.length:=by simp[hcs];exact Xv _ hnc
 generalize hmm:min ys.length n=m at*;have hfit:(lo+m)*sz<=xs.length*sz:=Xv _ oM;have hadd:(lo+m)*sz=lo*sz+m*sz:=X2 _ _ _;have hrun:=hr _ _ hheap (by simp at hcurlen;omega)
 have hnews:(news.take (m*sz)).length=m*sz:=by
  rw[Xo,hs.1];exact Qa (Xv _ hmy)
 refine qJ.value hrun<|k8.set (hm.write _ hmem hρ rfl _ λhst=>?_) (.d _ _ (.val _));have hxl:(xs.take lo++(ys.take m++xs.drop (lo+m))).length=xs.length:=by simp only[Xq,Xo,Kv];omega
 refine⟨_,cells.take (lo*sz)++news.take (m*sz)++cells.drop (lo*sz+m*sz),hρ,⟨?_,.inr ⟨b,cap,_,by rw[hxl,hlen'],Xh _,setRow_heap w b _ _ T _ hheap,by rw[hxl];exact hnc,hcm,?_,?_⟩⟩,by rw[hxl];exact hnl,?_,?_,?_⟩
 ·rw[hxl];simp only[Xq,Xo,Kv,hcellslen,hs.1];have:=Xv sz hmy;omega
 ·simp only[KJ,Xq,hnews,Xo,Kv,Qi,hcs];simp[hcs]at hcurlen;omega
 ·rw[hxl,←htake];have:=zic cur.toList (news.take (m*sz)) (lo*sz) (xs.length*sz) (by rw[hnews];omega) hcurlen;rw[hnews]at this;exact this
 ·intro u hu;simp only[Xs]at hu
  rcases hu with(hu|hu)|hu
  ·exact hone0 u (XL hu)
  ·exact hs.2.1 u (XL hu)
  exact hone0 u (KP hu)
 ·intro z hz;simp only[Xs]at hz
  rcases hz with hz|hz|hz
  ·exact hesz z (XL hz)
  ·exact hysz z (XL hz)
  exact hesz z (KP hz)
 intro i j x s hxi hs';have hln1:(cells.take (lo*sz)).length=lo*sz:=by rw[Xo,hcellslen];omega
 have hlx:(xs.take lo).length=lo:=by rw[Xo];omega
 have hly:(ys.take m).length=m:=by rw[Xo];omega
 have hjs:j<sz:=by
  have hx:x∈xs.take lo++(ys.take m++xs.drop (lo+m)):=Xf hxi;have:=(Xd.1 hs').1;simp only[Xs]at hx
  rcases hx with hz|hz|hz
  ·rwa [hesz x (XL hz)]at this
  ·rwa [hysz x (XL hz)]at this
  rwa [hesz x (KP hz)]at this
 by_cases hi1:i<lo
 ·rw[XK oM,XI,Xe hi1]at hxi;obtain⟨u,hu,hd⟩:=hcells i j x s hxi hs';refine⟨u,?_,hd.stp hst⟩
  have h5:i*sz+sz<=lo*sz:=by
   have:=Xv sz (X6 hi1);rw[X4]at this;exact this
  rw[XZ,XK oM,XI,Xe oM];exact hu
 rw[XG oM,hlx]at hxi;have h6:lo*sz<=i*sz:=Xv _ oM
 by_cases hi2:i-lo<m
 ·rw[XK oM,XI,Xe hi2]at hxi;obtain⟨u,hu,hd⟩:=hs.2.2 (i-lo) j x s hxi hs';refine⟨u,?_,hd.stp hst⟩
  have h5:(i-lo)*sz+sz<=m*sz:=by
   have:=Xv sz (X6 hi2);rw[X4]at this;exact this
  have h7:(i-lo)*sz=i*sz-lo*sz:=Nat.sub_mul _ _ _;rw[XZ,XG oM,hln1,XK oM,XI,Xe oM,←hu];congr 1;omega
 rw[XG oM,hly,Kz]at hxi;rw[show lo+m+(i-lo-m)=i by omega]at hxi;obtain⟨u,hu,hd⟩:=hcells i j x s hxi hs';refine⟨u,?_,hd.stp hst⟩;have h7:(lo+m)*sz<=i*sz:=Xv _ oM;rw[XZ,XG oM,hln1,XG oM,hnews,Kz,←hu];congr 1;omega
def zuT{P:Program}{t e:TypeId}{f:TypeInfo}{z:Value}{zs:LA}(hk:P.underlying t=some (.slice e))(hz:f.zero=some z)(hi:P.info? e=some f)(h5:z.cells.toList=zs)(h7:zs.length=f.size)(h8:∀u∈zs,u.oneCell'=true){Keep:LI}{M:LT}{ρ:zh}{w:World}(hm:zL Keep M ρ w){k:Nat}{T:TypeId}{α:Type}{enc:α->LR}{sz:Nat}{xs:List α}(hmem:(k,Mem.arr T enc sz xs)∈M)(h2:f.size=sz){b len cap cap' lo n κ:Nat}(hn:0<n)(hρ:ρ k=some (.slice (some ⟨b,0,none⟩) len cap))(hln:lo+n<=xs.length){x0:α}(hx0:enc x0=vals zs){o:Oper}{a:Act}(hr:∀v w',(Builtin.clear_ #[t] o.type #[.slice (some ⟨b,lo*sz,none⟩) n cap']).run P w=.ok v w'->(execOp a.eval o).run P w=.ok (.value v) w'):
  qJ P o a w (k8 Keep M ρ w κ (.val (.tuple #[])) (.set k (.arr T enc sz (xs.take lo++(List.replicate n x0++xs.drop (lo+n)))))):=by
 have hzl:z.cells=zs.toArray:=by rw[←h5]
 have hlen:(madeCells z.cells (n*f.size)).toList.length=n*sz:=by simp[madeCells,h2]
 have hmg:∀q,(madeCells z.cells (n*f.size)).toList[q]?=if q<n*sz then zs[q%sz]? else none:=λq=>by
  have:=zf3 zs n q;rw[h7,h2]at this;rw[hzl,h2];exact this
 have henc:(enc x0).length=sz:=by rw[hx0];simp[vals,h7,h2]
 have hone:∀u∈(madeCells z.cells (n*f.size)).toList,u.oneCell'=true:=λu hu=>by
  obtain⟨q,hq,rfl⟩:=JA.1 hu;have:=hmg q;rw[Xb hq]at this
  split at this
  ·exact h8 _ (Xf this.symm)
  cases this
 have key:=zAo (P:=P) hm hmem hρ hln (ys:=List.replicate n x0) (news:=(madeCells z.cells (n*f.size)).toList) (κ:=κ) (o:=o) (a:=a) (r:=.tuple #[])
  ⟨by rw[hlen,Ki],hone,λi j y s hy hs=>by
   have hxm:=KH (Xf hy);subst hxm;have hq:i<n:=by simpa using (Xd.1 hy).1
   have hpj:j<sz:=by
    have:=(Xd.1 hs).1;rw[henc]at this;exact this
   have h1:i*sz+sz<=n*sz:=by
    have:=Xv sz (show i+1<=n by omega);rw[X4]at this;exact this
   have hmod:(i*sz+j)%sz=j:=by rw[Ks,Qz];exact Xy hpj
   rw[hmg,Xe oM,hmod];rw[hx0]at hs;simp only[vals,XD]at hs
   cases hu:zs[j]? with
   |none=>simp[hu]at hs
   |some u=>
    simp[hu]at hs;subst hs
    exact⟨u,rfl,.val u⟩⟩ (λy hy=>by rw[KH hy];exact henc) (λT' cur hheap hfit=>by
   refine hr _ _ ?_;rw[Ki,Nat.min_self]at hfit ⊢;have hst:=run_storeCells_at P b (lo*sz) T' (madeCells z.cells (n*f.size)).toList 0 cur w hheap (by rw[hlen];simpa using hfit) hone;simp only[hlen,XP]at hst;have ht:(madeCells z.cells (n*f.size)).toList.take (n*sz)=(madeCells z.cells (n*f.size)).toList:=Xi (by rw[hlen];exact Xk _);rw[ht]
   have hzc:(Builtin.zeroCells z.cells n).toList=(madeCells z.cells (n*f.size)).toList:=by
    have e:z.cells.size=f.size:=by rw[hzl];simpa using h7
    simp[Builtin.zeroCells,madeCells,e]
   obtain⟨m,rfl⟩:∃m,n=m+1:=⟨n-1,oM⟩
   simp[Builtin.clear_,run_underlying hk,zeroValue,typeInfo,hi,hz,hzc,hst])
 rw[Ki,Nat.min_self,Xi (l:=List.replicate n x0) (by rw[Ki];exact Xk _)]at key;exact key
def zpq{w:World}(hm:zL Keep M ρ w){k:Nat}{T:TypeId}{ys:LN}(hmem:(k,Mem.garr T sz ys)∈M){v:Value}(hρ:ρ k=some v):
  ∃(qs:LC) (news:LA),qs.length=ys.length/\Src (λb=>Keep b∨Own M ρ b) w (λn:Nat=>List.replicate n SV.junk) sz qs v news/\(∀y∈ys,y.length=sz)/\
   ∀(i j:Nat) x (s:SV),ys[i]?=some x->x[j]?=some s->∃u,news[i*sz+j]?=some u/\G (λb=>Keep b∨Own M ρ b) (Own M ρ) ρ w s u:=by
 obtain⟨v',cells,hρ',hown,hlen,hone,hesz,hcells⟩:=hm.rel k _ hmem;rw[hρ]at hρ';cases hρ'
 refine⟨ys.map List.length,cells,sI,⟨by rw[Xx];exact hown.1,hone,λi j n s hn hs=>?_,?_⟩,hesz,hcells⟩
 ·rw[XD]at hn
  cases hy:ys[i]? with
  |none=>simp[hy]at hn
  |some y=>
   simp[hy]at hn;subst hn
   have hj:j<y.length:=by
    have:=(Xd.1 hs).1
    simpa using this
   obtain⟨u,hu,_⟩:=hcells i j y _ hy (Xb hj);have:s=.junk:=KH (Xf hs);subst this;exact⟨u,hu,.junk _⟩
 rw[Xx]
 obtain⟨rfl,he⟩|⟨g,cap,cur,rfl,_,hheap,hnc,hcm,hcs,htake⟩:=hown.2
 ·exact .inl ⟨rfl,by rw[Xp he];rfl⟩
 exact .inr ⟨_,cap,rfl,λj u hu=>by rw[ya,Kc];exact zbV hheap htake hu⟩
variable{κ:Nat}
def zL.regrow{w:World}(hm:zL Keep M ρ w){k:Nat}{m0:Mem}{v:Value}(hmem:(k,m0)∈M)(hv:ρ k=some v)(hκ:ρ κ=none)(hκM:∀m,(κ,m)∉M){v':Value}{m:Mem}{w':World}(q1:w'.os=w.os)(q2:w'.tape=w.tape)(q3:kO w w')(q4:w.heap.size<=w'.heap.size)(q5:∀b,b<w.heap.size->qb v≠some b->w'.heap[b]?=w.heap[b]?)(q6:qb v'=qb v∨(qb v'=some w.heap.size/\w.heap.size<w'.heap.size))(q7:v'.oneCell'=true)(h:Stp (Own M ρ) (Own ((κ,m)::qg M k) (upd ρ κ v')) ρ (upd ρ κ v') w w'->
   jH (λb=>Keep b∨Own ((κ,m)::qg M k) (upd ρ κ v') b) (Own ((κ,m)::qg M k) (upd ρ κ v')) (upd ρ κ v') w' κ m):k8 Keep M ρ w κ (.own κ) (.repl k m) v' w':=by
 have hgrow:=hm.grow (M1:=qg M k) (λx hx=>qB x hx) (jg hm.keys) hκ hκM v' m w' q1 q2 q3 q4
  (λb hb hn=>q5 b hb (λhvb=>hn ⟨k,_,v,hmem,hv,hvb⟩))
  (λk' m v1 b g1 g2 g3=>q5 b (hm.old b ⟨k',m,v1,qB _ g1,g2,g3⟩).1 (λhvb=>hm.apart k' m k _ v1 v b (qB _ g1) hmem (v9 hm.keys _ g1) g2 hv g3 hvb))
  (λb hb=>by
   rcases q6 with q6|⟨q6,q8⟩
   ·rw[hb]at q6;have ho:Own M ρ b:=⟨k,_,v,hmem,hv,q6.symm⟩;exact⟨.inl ho,Xw (hm.old b ho).1 q4,λk' m v1 g1 g2 g3=>hm.apart k' m k _ v1 v b (qB _ g1) hmem (v9 hm.keys _ g1) g2 hv g3 q6.symm⟩
   rw[hb]at q6;cases q6
   exact⟨.inr (Xk _),q8,λk' m v1 g1 g2 g3=>by have:=(hm.old _ ⟨k',m,v1,qB _ g1,g2,g3⟩).1;omega⟩) h
 exact⟨upd ρ κ v',hgrow.1,hgrow.2,.own _ _ kD q7,λk' hk'=>zft (by
  rcases hk' with hk'|hk'
  ·omega
  simp only[zbH]at hk';omega)⟩
def zhn{R R':SV->Value->Prop}{α:Type _}{enc:α->LR}{xs more:List α}{cells news:LA}(hRR:∀s u,R s u->R' s u)(hl:cells.length=xs.length*sz)(hcells:∀(i j:Nat) y (s:SV),xs[i]?=some y->(enc y)[j]?=some s->∃u,cells[i*sz+j]?=some u/\R s u)(hnew:∀(i j:Nat) y (s:SV),more[i]?=some y->(enc y)[j]?=some s->∃u,news[i*sz+j]?=some u/\R s u)(p q:Nat)(y:α)(s:SV)(hx:(xs++more)[p]?=some y)(hs:(enc y)[q]?=some s):∃u,(cells++news)[p*sz+q]?=some u/\R' s u:=by
 rw[KO]at hx
 split at hx
 ·obtain⟨u,hu,hd⟩:=hcells p q y s hx hs;exact⟨u,by rw[XK (Xd.1 hu).1];exact hu,hRR _ _ hd⟩
 obtain⟨u,hu,hd⟩:=hnew (p-xs.length) q y s hx hs;have hmul:p*sz=xs.length*sz+(p-xs.length)*sz:=by rw[←X2];congr 1;omega
 exact⟨u,by rw[XG (by rw[hl,hmul];omega),hl,hmul,show xs.length*sz+(p-xs.length)*sz+q-xs.length*sz=(p-xs.length)*sz+q by omega];exact hu,hRR _ _ hd⟩
variable{Γ:LS}{K:LD}
def zlE(hT:TOK P Γ)(hb:c.callee=.builtin .append){s:SV}{k':Nat}{e':TypeId}{sz':Nat}{ys:LN}(hlk':lm k'=some (.garr e' sz' ys))(h:zjo Γ c.argTypes.toList s e' sz' ys lm κ K):∃r md,K r md/\yR P (.call c) [s,.own k'] lm κ r md:=by
 unfold zjo at h
 split at h
 ·rename_i t t' htys;have htys:=zhl htys;replace h:=zj h;obtain⟨hteq,h⟩:=h;have hteq:=Xj hteq;subst hteq;replace h:=zD h;obtain⟨i,hi,h⟩:=h;have hk:=(hT t i hi).kind
  split at h
  ·rename_i e hkind;rw[hkind]at hk;have hk:P.underlying t=some (.slice e):=hk;replace h:=zD h;obtain⟨j,hj,h⟩:=h;obtain⟨f,h1,h2,h3,z,h4,h5,h6,h7,h8⟩:=(hT e j hj).inf;have hzs:z.cells.size=f.size:=by rw[h2,←h7,←h5];simp
   replace h:=zj h;obtain⟨hee,h⟩:=h;replace h:=zj h;obtain⟨hss,h⟩:=h;have hee:=Xj hee;have hss:=Xj hss;subst hee;subst hss
   split at h
   ·obtain⟨e1,e2,e3⟩:=h.ob;refine⟨_,_,h.go,λo ho Keep M ρ a w hlm hm hκ hκM hgs=>?_⟩;replace hκ:=hκ _ (Xk _) (XW _);replace hκM:=hκM rfl;have hgs:=vl hb hgs;obtain⟨v,vs',hvs,g,gr⟩:=hgs.cons_inv;obtain⟨vx,vs'',hvs',gx,gn⟩:=gr.cons_inv;subst hvs';have hn:=gn.nil_inv;subst hn;obtain⟨hx,_⟩:=gx.own_inv;obtain⟨qs,news,hql,hsrc,hesz',hcells'⟩:=zpq hm (zA (hlm k' _ hlk')) hx;rw[←hql]at e1 e2;obtain⟨cs,hr⟩:=jh (P:=P) (w:=w) ho hb hvs;rw[g.val_inv]at hr
    have hb':(0+qs.length)*f.bytes<=140737488355328:=by rw[h3,Kc];omega
    obtain⟨v',w',hrun,hown,q1,q2,q3,q4,q5,q6,q7⟩:=za4 (ty:=o.type) hk h1 h4 hzs (World.ownsRow_nil w 0 e f.size) (h2 ▸ hsrc) (by unfold maxLen;omega) hb';refine qJ.value (v:=v') (w':=w') (by rw[hr,htys];simp only[builtin,Sem.run_bind,hrun,Result.andThen_ok,Sem.run_pure])<|k8.push (u:=v') (hm.grow (λ_ h=>h) hm.keys hκ hκM v' _ w' q1 q2 q3 q4 (λb hb _=>q5 b hb (by simp[qb])) (λk m v b g1 g2 g3=>q5 b (hm.old b ⟨k,m,v,g1,g2,g3⟩).1 (by simp[qb])) ?_ ?_) (.own _ _ kD q7)
    ·intro b hb
     rcases q6 with q6|⟨q6,q8⟩
     ·rw[hb]at q6;simp[qb]at q6
     rw[hb]at q6;cases q6
     exact⟨.inr (Xk _),q8,λk m v1 g1 g2 g3=>by have:=(hm.old _ ⟨k,m,v1,g1,g2,g3⟩).1;omega⟩
    intro hs;refine⟨v',news,kD,by rw[←h2];rw[hql]at hown;simpa using hown,oM,hsrc.2.1,hesz',λp q y s' hy hs'=>?_⟩;obtain⟨u,hu,hd⟩:=hcells' p q y s' hy hs';exact⟨u,hu,hd.stp hs⟩
   ·rename_i k
    split at h
    ·rename_i e'' sz xs hlk;replace h:=zj h;obtain⟨hee,h⟩:=h;replace h:=zj h;obtain⟨hss,h⟩:=h;have hee:=Xj hee;have hss:=Xj hss;subst hee;obtain⟨e1,e2,e3⟩:=h.ob;refine⟨_,_,h.go,λo ho Keep M ρ a w hlm hm hκ hκM hgs=>?_⟩;replace hκ:=hκ _ (Xk _) (XW _);replace hκM:=hκM rfl;have hmem:=zA (hlm k _ hlk);have hgs:=vl hb hgs;obtain⟨v,vs',hvs,g,gr⟩:=hgs.cons_inv;obtain⟨vx,vs'',hvs',gx,gn⟩:=gr.cons_inv;subst hvs';have hn:=gn.nil_inv;subst hn
     obtain⟨hx,_⟩:=gx.own_inv;obtain⟨qs,news,hql,hsrc,hesz',hcells'⟩:=zpq hm (zA (hlm k' _ hlk')) hx;rw[←hql]at e1 e2;obtain⟨cs,hr⟩:=jh (P:=P) (w:=w) ho hb hvs;obtain⟨hv,_⟩:=g.own_inv;obtain⟨v0,cells,hρ,hown,hnl,hone0,hesz,hcells⟩:=hm.rel k _ hmem;rw[hv]at hρ;cases hρ
     have hb':(xs.length+qs.length)*f.bytes<=140737488355328:=by rw[h3];exact JF.1 (by rw[X3,QK];exact e1)
     have hsf:sz=f.size:=by rw[hss,h2]
     subst hsf;obtain⟨v',w',hrun,hown',q1,q2,q3,q4,q5,q6,q7⟩:=za4 (ty:=o.type) hk h1 h4 hzs hown (h2 ▸ hsrc) (by unfold maxLen;omega) hb';refine qJ.value (v:=v') (w':=w') (by rw[hr,htys];simp only[builtin,Sem.run_bind,hrun,Result.andThen_ok,Sem.run_pure])<|hm.regrow hmem hv hκ hκM q1 q2 q3 q4 q5 q6 q7 λhs=>?_
     refine⟨v',cells++news,kD,by rw[hql]at hown';simpa using hown',by simp;omega,λu hu=>?_,λx hx=>?_,λp q x s' hx hs'=>?_⟩
     ·rcases Xs.1 hu with hu|hu
      ·exact hone0 u hu
      exact hsrc.2.1 u hu
     ·rcases Xs.1 hx with hx|hx
      ·exact hesz x hx
      rw[hesz' x hx,h2]
     exact zhn (λs u q=>q.stp hs) hown.1 hcells (h2.symm ▸ hcells') p q x s' hx hs'
    exact h.elim
   exact h.elim
  exact h.elim
 exact h.elim
def zf4(hT:TOK P Γ)(hb:c.callee=.builtin .append){s x:SV}(h:ziS Γ c.argTypes.toList s x lm κ K):∃r md,K r md/\yR P (.call c) [s,x] lm κ r md:=by
 unfold ziS at h
 split at h
 ·rename_i t t' htys;have htys:=zhl htys;replace h:=zj h;obtain⟨hteq,h⟩:=h;have hteq:=Xj hteq;subst hteq;replace h:=zD h;obtain⟨i,hi,h⟩:=h;have hk:=(hT t i hi).kind
  split at h
  ·rename_i e hkind;rw[hkind]at hk;have hk:P.underlying t=some (.slice e):=hk;replace h:=zD h;obtain⟨j,hj,h⟩:=h;obtain⟨f,h1,h2,h3,z,h4,h5,h6,h7,h8⟩:=(hT e j hj).inf;have hzs:z.cells.size=f.size:=by rw[h2,←h7,←h5];simp
   split at h
   ·obtain⟨α,enc,ys,hra,h⟩:=h;obtain⟨e1,e2,e3,e4⟩:=h.ob;refine⟨_,_,h.go,λo ho Keep M ρ a w hlm hm hκ hκM hgs=>?_⟩;replace hκ:=hκ _ (Xk _) (XW _);replace hκM:=hκM rfl;have hgs:=vl hb hgs;obtain⟨v,vs',hvs,g,gr⟩:=hgs.cons_inv;obtain⟨vx,vs'',hvs',gx,gn⟩:=gr.cons_inv;subst hvs';have hn:=gn.nil_inv;subst hn;obtain⟨news,hsrc⟩:=vI hra hlm hm gx e3 e4;obtain⟨cs,hr⟩:=jh (P:=P) (w:=w) ho hb hvs;rw[g.val_inv]at hr;have hb':(0+ys.length)*f.bytes<=140737488355328:=by rw[h3,Kc];omega
    obtain⟨v',w',hrun,hown,q1,q2,q3,q4,q5,q6,q7⟩:=za4 (ty:=o.type) hk h1 h4 hzs (World.ownsRow_nil w 0 e f.size) (h2 ▸ hsrc) (by unfold maxLen;omega) hb';refine qJ.value (v:=v') (w':=w') (by rw[hr,htys];simp only[builtin,Sem.run_bind,hrun,Result.andThen_ok,Sem.run_pure])<|k8.push (u:=v') (hm.grow (λ_ h=>h) hm.keys hκ hκM v' _ w' q1 q2 q3 q4 (λb hb _=>q5 b hb (by simp[qb])) (λk m v b g1 g2 g3=>q5 b (hm.old b ⟨k,m,v,g1,g2,g3⟩).1 (by simp[qb])) ?_ ?_) (.own _ _ kD q7)
    ·intro b hb
     rcases q6 with q6|⟨q6,q8⟩
     ·rw[hb]at q6;simp[qb]at q6
     rw[hb]at q6;cases q6
     exact⟨.inr (Xk _),q8,λk m v1 g1 g2 g3=>by have:=(hm.old _ ⟨k,m,v1,g1,g2,g3⟩).1;omega⟩
    intro hs;refine⟨v',news,kD,by rw[←h2];simpa using hown,e2,hsrc.2.1,e4,λp q y s' hy hs'=>?_⟩;obtain⟨u,hu,hd⟩:=hsrc.2.2.1 p q y s' hy hs';exact⟨u,hu,hd.stp hs⟩
   ·rename_i k
    split at h
    ·rename_i e' α enc sz xs hlk;replace h:=zj h;obtain⟨hee,h⟩:=h;replace h:=zj h;obtain⟨hss,h⟩:=h;have hee:=Xj hee;have hss:=Xj hss;subst hee;obtain⟨ys,hra,h⟩:=h;obtain⟨e1,e2,e3,e4⟩:=h.ob;refine⟨_,_,h.go,λo ho Keep M ρ a w hlm hm hκ hκM hgs=>?_⟩;replace hκ:=hκ _ (Xk _) (XW _);replace hκM:=hκM rfl;have hmem:=zA (hlm k _ hlk);have hgs:=vl hb hgs;obtain⟨v,vs',hvs,g,gr⟩:=hgs.cons_inv;obtain⟨vx,vs'',hvs',gx,gn⟩:=gr.cons_inv;subst hvs';have hn:=gn.nil_inv
     subst hn;obtain⟨news,hsrc⟩:=vI hra hlm hm gx e3 e4;obtain⟨cs,hr⟩:=jh (P:=P) (w:=w) ho hb hvs;obtain⟨hv,_⟩:=g.own_inv;obtain⟨v0,cells,hρ,hown,hnl,hone0,hesz,hcells⟩:=hm.rel k _ hmem;rw[hv]at hρ;cases hρ
     have hb':(xs.length+ys.length)*f.bytes<=140737488355328:=by rw[h3];exact JF.1 (by rw[X3,QK];exact e1)
     have hsf:sz=f.size:=by rw[hss,h2]
     subst hsf;obtain⟨v',w',hrun,hown',q1,q2,q3,q4,q5,q6,q7⟩:=za4 (ty:=o.type) hk h1 h4 hzs hown (h2 ▸ hsrc) (by unfold maxLen;omega) hb';refine qJ.value (v:=v') (w':=w') (by rw[hr,htys];simp only[builtin,Sem.run_bind,hrun,Result.andThen_ok,Sem.run_pure])<|hm.regrow hmem hv hκ hκM q1 q2 q3 q4 q5 q6 q7 λhs=>?_
     refine⟨v',cells++news,kD,by simpa using hown',by simp;omega,λu hu=>?_,λx hx=>?_,λp q x s' hx hs'=>?_⟩
     ·rcases Xs.1 hu with hu|hu
      ·exact hone0 u hu
      exact hsrc.2.1 u hu
     ·rcases Xs.1 hx with hx|hx
      ·exact hesz x hx
      rw[e4 x hx,h2]
     exact zhn (λs u q=>q.stp hs) hown.1 hcells (h2 ▸ hsrc.2.2.1) p q x s' hx hs'
    ·rename_i e' sz xs hlk;replace h:=zj h;obtain⟨hee,h⟩:=h;replace h:=zj h;obtain⟨hss,h⟩:=h;have hee:=Xj hee;have hss:=Xj hss;subst hee;obtain⟨α,enc,ys,hra,h⟩:=h;obtain⟨e1,e2,e3,e4⟩:=h.ob;refine⟨_,_,h.go,λo ho Keep M ρ a w hlm hm hκ hκM hgs=>?_⟩;replace hκ:=hκ _ (Xk _) (XW _);replace hκM:=hκM rfl;have hmem:=zA (hlm k _ hlk);have hgs:=vl hb hgs;obtain⟨v,vs',hvs,g,gr⟩:=hgs.cons_inv;obtain⟨vx,vs'',hvs',gx,gn⟩:=gr.cons_inv;subst hvs';have hn:=gn.nil_inv
     subst hn;obtain⟨news,hsrc⟩:=vI hra hlm hm gx e3 e4;obtain⟨cs,hr⟩:=jh (P:=P) (w:=w) ho hb hvs;obtain⟨hv,_⟩:=g.own_inv;obtain⟨v0,cells,hρ,hown,hnl,hone0,hesz,hcells⟩:=hm.rel k _ hmem;rw[hv]at hρ;cases hρ
     have hb':(xs.length+ys.length)*f.bytes<=140737488355328:=by rw[h3];exact JF.1 (by rw[X3,QK];exact e1)
     have hsf:sz=f.size:=by rw[hss,h2]
     subst hsf;obtain⟨v',w',hrun,hown',q1,q2,q3,q4,q5,q6,q7⟩:=za4 (ty:=o.type) hk h1 h4 hzs hown (h2 ▸ hsrc) (by unfold maxLen;omega) hb';refine qJ.value (v:=v') (w':=w') (by rw[hr,htys];simp only[builtin,Sem.run_bind,hrun,Result.andThen_ok,Sem.run_pure])<|hm.regrow hmem hv hκ hκM q1 q2 q3 q4 q5 q6 q7 λhs=>?_
     refine⟨v',cells++news,kD,by simpa using hown',by simp;omega,λu hu=>?_,λx hx=>?_,λp q x s' hx hs'=>?_⟩
     ·rcases Xs.1 hu with hu|hu
      ·exact hone0 u hu
      exact hsrc.2.1 u hu
     ·rcases Xs.1 hx with hx|hx
      ·exact hesz x hx
      obtain⟨y,hy,rfl⟩:=XO.1 hx;rw[e4 y hy,h2]
     refine zhn (λs u q=>q.stp hs) hown.1 hcells (λi j y s hy hs=>?_) p q x s' hx hs';rw[XD]at hy
     cases hz:ys[i]? with
     |none=>simp[hz]at hy
     |some z=>
      simp[hz]at hy;subst hy;rw[h2];exact(hsrc.2.2.1 i j z s hz hs).imp λu q=>⟨q.1,.d _ _ q.2⟩
    exact h.elim
   ·rename_i α enc xs;obtain⟨ys,hra,h⟩:=h;obtain⟨⟨e0,e1,e2,e3,e5,e4⟩,h⟩:=h;refine⟨_,_,h,λo ho Keep M ρ a w hlm hm hκ hκM hgs=>?_⟩;replace hκ:=hκ _ (Xk _) (XW _);replace hκM:=hκM rfl;have hgs:=vl hb hgs;obtain⟨v,vs',hvs,g,gr⟩:=hgs.cons_inv;obtain⟨vx,vs'',hvs',gx,gn⟩:=gr.cons_inv;subst hvs';have hn:=gn.nil_inv;subst hn;obtain⟨news,hsrc⟩:=vI hra hlm hm gx e3 e4;obtain⟨cs,hr⟩:=jh (P:=P) (w:=w) ho hb hvs;obtain⟨ad,hv,hd⟩:=g.full_inv;obtain⟨olds,hold⟩:=zpn hd e3 e5;rw[hv]at hr hold
    have hb':(xs.length+ys.length)*f.bytes<=140737488355328:=by rw[h3];exact JF.1 (by rw[X3,QK];exact e1)
    obtain⟨v',w',hrun,hown,q1,q2,q3,q4,q5,q6,q7⟩:=zpp (ty:=o.type) hk h1 h4 hzs ad (h2 ▸ hold) (h2 ▸ hsrc) e0 (by unfold maxLen;omega) hb';refine qJ.value (v:=v') (w':=w') (by rw[hr,htys];simp only[builtin,Sem.run_bind,hrun,Result.andThen_ok,Sem.run_pure])<|k8.push (u:=v') (hm.grow (λ_ h=>h) hm.keys hκ hκM v' _ w' q1 q2 q3 q4 (λb hb _=>q5 b hb) (λk m v b g1 g2 g3=>q5 b (hm.old b ⟨k,m,v,g1,g2,g3⟩).1) ?_ ?_) (.own _ _ kD q7)
    ·intro b hb;obtain⟨q6,q8⟩:=q6;rw[hb]at q6;cases q6
     exact⟨.inr (Xk _),q8,λk m v1 g1 g2 g3=>by have:=(hm.old _ ⟨k,m,v1,g1,g2,g3⟩).1;omega⟩
    intro hs;refine⟨v',olds++news,kD,by rw[←h2];simpa using hown,by simp;omega,λu hu=>?_,λx hx=>?_,λp q y s' hy hs'=>?_⟩
    ·rcases Xs.1 hu with hu|hu
     ·exact hold.2.1 u hu
     exact hsrc.2.1 u hu
    ·rcases Xs.1 hx with hx|hx
     ·exact e5 x hx
     exact e4 x hx
    have hl:=hold.1;rw[KO]at hy
    split at hy
    ·obtain⟨u,hu,hd⟩:=hold.2.2.1 p q y s' hy hs';refine⟨u,?_,hd.stp hs⟩;have:p*j.sz+q<olds.length:=(Xd.1 hu).1;rw[XK this];exact hu
    rename_i hge;obtain⟨u,hu,hd⟩:=hsrc.2.2.1 (p-xs.length) q y s' hy hs';refine⟨u,?_,hd.stp hs⟩;have hge:xs.length<=p:=oM;have hmul:p*j.sz=xs.length*j.sz+(p-xs.length)*j.sz:=by rw[←X2];congr 1;omega
    rw[XG (by rw[hl,hmul];omega),hl,hmul,show xs.length*j.sz+(p-xs.length)*j.sz+q-xs.length*j.sz=(p-xs.length)*j.sz+q by omega];exact hu
   ·rcases h with h|h|h
    ·obtain⟨α,enc,ys,hra,h⟩:=h;obtain⟨⟨e0,e1,e2,e3,e4⟩,h⟩:=h;refine⟨_,_,h,λo ho Keep M ρ a w hlm hm hκ hκM hgs=>?_⟩;replace hκ:=hκ _ (Xk _) (XW _);replace hκM:=hκM rfl;have hgs:=vl hb hgs;obtain⟨v,vs',hvs,g,gr⟩:=hgs.cons_inv;obtain⟨vx,vs'',hvs',gx,gn⟩:=gr.cons_inv;subst hvs';have hn:=gn.nil_inv;subst hn;obtain⟨news,hsrc⟩:=vI hra hlm hm gx e3 e4;obtain⟨cs,hr⟩:=jh (P:=P) (w:=w) ho hb hvs;obtain⟨ad,hv⟩:=g.nils_inv;rw[hv]at hr
     have hb':ys.length*f.bytes<=140737488355328:=by rw[h3];omega
     obtain⟨v',w',hrun,hown,q1,q2,q3,q4,q5,q6,q7⟩:=zpo (ty:=o.type) hk h1 h4 hzs ad (h2 ▸ hsrc) e0 (by unfold maxLen;omega) hb';refine qJ.value (v:=v') (w':=w') (by rw[hr,htys];simp only[builtin,Sem.run_bind,hrun,Result.andThen_ok,Sem.run_pure])<|k8.push (u:=v') (hm.grow (λ_ h=>h) hm.keys hκ hκM v' _ w' q1 q2 q3 q4 (λb hb _=>q5 b hb) (λk m v b g1 g2 g3=>q5 b (hm.old b ⟨k,m,v,g1,g2,g3⟩).1) ?_ ?_) (.own _ _ kD q7)
     ·intro b hb;obtain⟨q6,q8⟩:=q6;rw[hb]at q6;cases q6
      exact⟨.inr (Xk _),q8,λk m v1 g1 g2 g3=>by have:=(hm.old _ ⟨k,m,v1,g1,g2,g3⟩).1;omega⟩
     intro hs;refine⟨v',news,kD,by rw[←h2];exact hown,e2,hsrc.2.1,e4,λp q y s' hy hs'=>?_⟩;obtain⟨u,hu,hd⟩:=hsrc.2.2.1 p q y s' hy hs';exact⟨u,hu,hd.stp hs⟩
    ·obtain⟨α,enc,hra,e3,h⟩:=h;refine⟨_,_,h,λo ho Keep M ρ a w hlm hm _ _ hgs=>?_⟩;have hgs:=vl hb hgs;obtain⟨v,vs',hvs,g,gr⟩:=hgs.cons_inv;obtain⟨vx,vs'',hvs',gx,gn⟩:=gr.cons_inv;subst hvs';have hn:=gn.nil_inv;subst hn;obtain⟨news,hl,_,_,hx⟩:=vI hra hlm hm gx e3 (λx hx=>by cases hx);obtain⟨cs,hr⟩:=jh (P:=P) (w:=w) ho hb hvs;obtain⟨ad,hv⟩:=g.nils_inv;rw[hv]at hr
     have hrun:(Builtin.append_ #[t,t] o.type #[.slice ad 0 0,vx]).run P w=.ok (.slice ad 0 0) w:=by
      obtain⟨rfl,_⟩|⟨a',c',rfl,_⟩:=hx
      ·cases ad <;> simp[Builtin.append_,run_underlying hk,sizeOf,typeInfo,h1,Builtin.lenOf,Builtin.firstCells,storeCells]
      cases ad <;> simp[Builtin.append_,run_underlying hk,sizeOf,typeInfo,h1,Builtin.lenOf,Builtin.firstCells,storeCells,loadCells,loadCellsFrom]
     exact qJ.value (v:=.slice ad 0 0) (w':=w) (by rw[hr,htys];simp only[builtin,Sem.run_bind,hrun,Result.andThen_ok,Sem.run_pure]) (k8.same hm (.d _ _ (.nils ad)))
    exact h.elim
   exact h.elim
  exact h.elim
 exact h.elim
def zeX(hb:c.callee=.builtin b){u:Value}(hs:∀{Keep:LI} {M:LT} {ρ:zh} {w:World} {vs:LA},(∀k m,lm k=some m->(k,m)∈M)->zL Keep M ρ w->Gs (λb=>Keep b∨Own M ρ b) (Own M ρ) ρ w svs vs->
   ∀ty cs,(builtin b c.argTypes ty cs vs.toArray).run P w=.ok (.value u) w):yR P (.call c) svs lm κ (.val u) .none:=.read λo ho Keep M ρ a w hlm hm hgs=>by
 obtain⟨cs,hr⟩:=jh (P:=P) (w:=w) ho hb rfl;exact⟨_,hr.trans (hs hlm hm (vl hb hgs) _ _),(zar.val _).g⟩
variable{vs:LA}{m:Nat}
def zho{t:TypeId}(htys:tys=#[t])(hk:P.underlying t=some (.slice e)){w:World}{s:SV}(g:Gs S Pm ρ w [s] vs)(hv:∀{v},G S Pm ρ w s v->∃ad cap,v=.slice ad m cap)(ty:TypeId)(cs):(builtin .len tys ty cs vs.toArray).run P w=.ok (.value (.int .i64 m)) w:=by
 obtain⟨v,vs',rfl,g,gr⟩:=g.cons_inv;obtain⟨ad,cap,rfl⟩:=hv g;rw[gr.nil_inv,htys];simp only[builtin,Sem.run_bind,zAm hk w ad m cap,Result.andThen_ok,Sem.run_pure]
def zwW{t:TypeId}(htys:tys=#[t])(hk:P.underlying t=some (.slice e)){w:World}{s:SV}(g:Gs S Pm ρ w [s] vs)(hv:∀{v},G S Pm ρ w s v->∃ad n,v=.slice ad n m)(ty:TypeId)(cs):(builtin .cap tys ty cs vs.toArray).run P w=.ok (.value (.int .i64 m)) w:=by
 obtain⟨v,vs',rfl,g,gr⟩:=g.cons_inv;obtain⟨ad,n,rfl⟩:=hv g;rw[gr.nil_inv,htys];simp only[builtin,Sem.run_bind,zAn hk w ad n m,Result.andThen_ok,Sem.run_pure]
def zlF(hT:TOK P Γ)(hb:c.callee=.builtin b)(hlive:Live lm svs)(h:zjp Γ b c.argTypes.toList svs lm κ K):∃r md,K r md/\yR P (.call c) svs lm κ r md:=by
 obtain⟨Keep0,M0,ρ0,w0,vs0,hlm0,hm0,hg0⟩:=hlive;unfold zjp at h
 split at h
 ·rename_i s
  split at h
  ·rename_i t htys;have htys:=zhk htys;replace h:=zD h;obtain⟨i,hi,h⟩:=h;have hk:=(hT t i hi).kind
   split at h
   ·rename_i e hkind;rw[hkind]at hk;have hk:P.underlying t=some (.slice e):=hk;unfold zCk at h
    split at h
    ·rename_i α enc xs;obtain⟨v0,vs0',rfl,g0,_⟩:=hg0.cons_inv;exact⟨_,_,h (zwV g0).1,zeX hb λ_ _ g=>zho htys hk g λg=>have⟨_,ad,cap,hv,_⟩:=zwV g;⟨ad,cap,hv⟩⟩
    ·rename_i k
     split at h
     ·rename_i T α enc sz xs hlk;obtain⟨v0,vs0',rfl,g0,_⟩:=hg0.cons_inv;exact⟨_,_,h (ztj hm0 (zA (hlm0 k _ hlk)) g0.own_inv.1).1,zeX hb λhlm hm g=>zho htys hk g λg=>have⟨_,ad,cap,hv,_⟩:=ztj hm (hlm k _ hlk) g.own_inv.1;⟨ad,cap,hv⟩⟩
     ·rename_i T sz xs hlk;obtain⟨v0,vs0',rfl,g0,_⟩:=hg0.cons_inv;exact⟨_,_,h (zpk hm0 (zA (hlm0 k _ hlk)) g0.own_inv.1).1,zeX hb λhlm hm g=>zho htys hk g λg=>have⟨_,ad,cap,hv,_⟩:=zpk hm (hlm k _ hlk) g.own_inv.1;⟨ad,cap,hv⟩⟩
     exact h.elim
    ·exact⟨_,_,h,zeX hb λ_ _ g=>zho htys hk g λg=>⟨_,_,g.val_inv⟩⟩
    ·exact⟨_,_,h,zeX hb λ_ _ g=>zho htys hk g λg=>have⟨ad,hv⟩:=g.nils_inv;⟨ad,_,hv⟩⟩
    ·rename_i k sz lo n;obtain⟨h0,h⟩:=h;obtain⟨n,rfl⟩:∃m:Nat,n=m:=⟨n.toNat,(Qj h0).symm⟩;exact⟨_,_,h,zeX hb λ_ _ g=>zho htys hk g λg=>have⟨b,len,cap,cap',_,hv,_⟩:=g.win_inv;⟨_,_,hv⟩⟩
    exact h.elim
   exact h.elim
  exact h.elim
 ·rename_i s
  split at h
  ·rename_i t htys;have htys:=zhk htys;replace h:=zD h;obtain⟨i,hi,h⟩:=h;have hk:=(hT t i hi).kind
   split at h
   ·rename_i e hkind;rw[hkind]at hk;have hk:P.underlying t=some (.slice e):=hk
    split at h
    ·exact⟨_,_,h,zeX hb λ_ _ g=>zwW htys hk g λg=>⟨_,_,g.val_inv⟩⟩
    ·exact⟨_,_,h,zeX hb λ_ _ g=>zwW htys hk g λg=>have⟨ad,hv⟩:=g.nils_inv;⟨ad,_,hv⟩⟩
    exact h.elim
   exact h.elim
  exact h.elim
 ·rename_i s _;obtain⟨k,x,r,hK,he⟩:=zhm h;refine⟨_,_,hK,zeX hb λ_ _ g ty cs=>?_⟩;obtain⟨us,rfl,hl,hy⟩:=he g;simp only[builtin,Builtin.min_,Sem.run_bind,zpl r us x hl hy,Result.andThen_ok,Sem.run_pure]
 ·rename_i s _;obtain⟨k,x,r,hK,he⟩:=zhm h;refine⟨_,_,hK,zeX hb λ_ _ g ty cs=>?_⟩;obtain⟨us,rfl,hl,hy⟩:=he g;simp only[builtin,Builtin.max_,Sem.run_bind,zpm r us x hl hy,Result.andThen_ok,Sem.run_pure]
 ·rename_i s x
  split at h
  ·rename_i kx n;unfold ztb at h
   split at h
   ·rename_i t t' htys;have htys:=zhl htys;replace h:=zD h;obtain⟨i,hi,h⟩:=h;replace h:=zD h;obtain⟨i',hi',h⟩:=h;have hk:=(hT t i hi).kind;have hk':=(hT t' i' hi').kind
    split at h
    ·rename_i e kn hkind hkind';rw[hkind]at hk;rw[hkind']at hk';have hk:P.underlying t=some (.slice e):=hk;have hk':P.underlying t'=some (.int kn):=hk';replace h:=zD h;obtain⟨j,hj,h⟩:=h;obtain⟨f,h1,h2,h3,z,h4,h5,h6,h7,h8⟩:=(hT e j hj).inf;have hzl:z.cells=j.zero.toArray:=by rw[←h5]
     have hzs:z.cells.size=f.size:=by rw[h2,←h7,←h5];simp
     obtain⟨α,enc,x0,hz,h⟩:=h;obtain⟨e0,e1,e2,e3⟩:=h.ob;refine⟨_,_,h.go,λo ho Keep M ρ a w hlm hm hκ hκM hgs=>?_⟩;replace hκ:=hκ _ (Xk _) (XW _);replace hκM:=hκM rfl;have hgs:=vl hb hgs;obtain⟨v,vs',hvs,g,gr⟩:=hgs.cons_inv;obtain⟨vx,vs'',hvs',gx,gn⟩:=gr.cons_inv;subst hvs';have hn:=gn.nil_inv;subst hn;obtain⟨cs,hr⟩:=jh (P:=P) (w:=w) ho hb hvs;rw[g.val_inv,gx.val_inv]at hr;obtain⟨N,hN⟩:∃N:Nat,n=N:=⟨n.toNat,oM⟩;subst hN
     have hbytes:N*f.bytes<=140737488355328:=by rw[h3];exact JF.1 (by rw[X3];exact e2)
     have hrun:=Lib.run_append_nil_zeros (P:=P) w t t' o.type e f z kx kn hk hk' h1 h4 N oM oM oM oM;refine qJ.value (by rw[hr,htys];simp only[builtin,Sem.run_bind,hrun,Result.andThen_ok,Sem.run_pure];rfl) ?_;have hge:=grownCap_ge w N 0 e
     have hmg:∀q,(Builtin.zeroCells z.cells N).toList[q]?=if q<N*j.sz then j.zero[q%j.sz]? else none:=λq=>by
      have:=zf3 j.zero N q;rw[h7]at this;rw[←this,hzl];unfold madeCells Builtin.zeroCells;simp[h7]
     refine k8.push (u:=.slice (some ⟨w.heap.size,0,none⟩) N (grownCap w N 0 e)) (hm.grow (λ_ h=>h) hm.keys hκ hκM _ _ _ rfl rfl (.cells w.drew _ _) sI (λb hb _=>heap_alloc_old w.drew _ b hb)
      (λk m v b g1 g2 g3=>heap_alloc_old w.drew _ b (hm.old b ⟨k,m,v,g1,g2,g3⟩).1) ?_ ?_) (.own _ _ kD rfl)
     ·intro b hb;have hb:b=w.heap.size:=by simp[qb]at hb;exact hb.symm
      subst hb;exact⟨.inr (Xk _),sI,λk m v1 g1 g2 g3=>by have:=(hm.old _ ⟨k,m,v1,g1,g2,g3⟩).1;omega⟩
     intro hs
     refine⟨_,(Builtin.zeroCells z.cells N).toList,kD,⟨by rw[Qi,size_zeroCells,hzs,h2,Ki,XT],.inr ⟨w.heap.size,grownCap w N 0 e,_,by rw[Ki,XT],Xh _,heap_alloc_new w.drew _,by simpa using hge,grownCap_le_maxLen w _ 0 e (by unfold maxLen;omega),?_,?_⟩⟩,by simp;omega,
      λu hu=>?_,λx hx=>by rw[KH hx,hz];simp[vals,h7],λp q x s hx hs'=>?_⟩
     ·simp only[Je,size_zeroCells,hzs,h2,←X2];congr 1;omega
     ·simp only[Q2,Ki,XT];rw[KD (by simp[size_zeroCells,hzs,h2])];exact Xi (by simp[size_zeroCells,hzs,h2])
     ·obtain⟨q,hq,rfl⟩:=JA.1 hu;have:=hmg q;rw[Xb hq]at this
      split at this
      ·exact h8 _ (Xf this.symm)
      cases this
     have hxm:=KH (Xf hx);subst hxm;have hp:p<N:=by simpa using (Xd.1 hx).1
     have hqj:q<j.sz:=by
      have:=(Xd.1 hs').1;rw[hz]at this;simpa[vals,h7] using this
     have h9:p*j.sz+j.sz<=N*j.sz:=by
      have:=Xv j.sz (show p+1<=N by omega);rw[X4]at this;exact this
     have hmod:(p*j.sz+q)%j.sz=q:=by rw[Ks,Qz];exact Xy hqj
     rw[hmg,Xe oM,hmod];rw[hz]at hs';simp only[vals,XD]at hs'
     cases hu:j.zero[q]? with
     |none=>simp[hu]at hs'
     |some u=>
      simp[hu]at hs';subst hs';exact⟨u,rfl,.val u⟩
    exact h.elim
   exact h.elim
  ·rename_i k'
   split at h
   ·rename_i hlk';exact zlE hT hb hlk' h
   exact zf4 hT hb h
  exact zf4 hT hb h
 ·rename_i d
  split at h
  ·rename_i t htys;have htys:=zhk htys;replace h:=zD h;obtain⟨i,hi,h⟩:=h;have hk:=(hT t i hi).kind
   split at h
   ·rename_i e hkind;rw[hkind]at hk;have hk:P.underlying t=some (.slice e):=hk;replace h:=zD h;obtain⟨j,hj,h⟩:=h;obtain⟨f,h1,h2,h3,z,h4,h5,h6,h7,h8⟩:=(hT e j hj).inf
    split at h
    ·rename_i k sz' lo n
     split at h
     ·rename_i T α enc sz xs hlk;replace h:=zj h;obtain⟨hss,h⟩:=h;have hss:=Xj hss;replace h:=zj h;obtain⟨hss',h⟩:=h;have hss':=Xj hss';subst hss';obtain⟨x0,hx0,h⟩:=h;obtain⟨e1,e2,e3⟩:=h.ob;refine⟨_,_,h.go,λo ho Keep M ρ a w hlm hm _ _ hgs=>?_⟩;have hmem:=zA (hlm k _ hlk);have hgs:=vl hb hgs;obtain⟨v,vs',hvs,g,gr⟩:=hgs.cons_inv;have hn:=gr.nil_inv;subst hn;obtain⟨cs,hr⟩:=jh (P:=P) (w:=w) ho hb hvs;obtain⟨b,len,cap,cap',hρ,rfl,_,_⟩:=g.win_inv
      exact zuT (cap':=cap') hk h4 h1 h5 (by rw[h7,h2]) h8 hm hmem (h2.trans hss.symm) oM hρ oM hx0 (λv w' hx=>by
       rw[hr,htys];simp only[builtin,Sem.run_bind,hx,Result.andThen_ok,Sem.run_pure])
     exact h.elim
    exact h.elim
   exact h.elim
  exact h.elim
 exact h.elim
end Go.Gs
