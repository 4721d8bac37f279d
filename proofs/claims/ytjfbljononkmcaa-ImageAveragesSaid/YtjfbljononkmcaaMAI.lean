/- The builtins len, min, max and append. -/
import Derived.Test.YtjfbljononkmcaaMA
import Derived.Test.YtjfbljononkmcaaMAH
import Derived.Lib.AppendZeros
import Derived.Laws.CopyRow
set_option maxRecDepth 100000
set_option maxHeartbeats 8000000
set_option linter.all false
namespace Go.Gs
def Live(lm:Nat->Option Mem)(svs:List SV):Prop:=∃(Keep:Nat->Prop) (M:List (Nat×Mem)) (ρ:zd) (w:World) (vs:List Value),
 (∀k m,lm k=some m->zl M k=some m)/\zj Keep M ρ w/\Gs (fun b=>Keep b∨Own M ρ b) (Own M ρ) ρ w svs vs
theorem zm{P:Program}{o:Oper}{c:Call}{b:Builtin}(ho:o.op=.call c)(hb:c.callee=.builtin b){a:Act}{w:World}{vs:List Value}(hv:c.args.toList.map a.eval=vs):
  ∃cs,(execOp a.eval o).run P w=(builtin b c.argTypes o.type cs vs.toArray).run P w:=by
 have h:c.args.map a.eval=vs.toArray:=by apply Array.ext';simp [hv]
 have h2:∃cs,(do let d ← resolve a.eval c o.type;invoke d.target d.args:Sem Next)=builtin b c.argTypes o.type cs (c.args.map a.eval):=by
  unfold resolve;rw [hb];exact ⟨_,rfl⟩
 obtain ⟨cs,h2⟩:=h2;refine ⟨cs,?_⟩;simp only [execOp,ho];rw [h2,h]
theorem zY{c:Call}{b:Builtin}(hb:c.callee=.builtin b){a:Act}{S Pm:Nat->Prop}{ρ:zd}{w:World}{svs:List SV}(h:Gs S Pm ρ w svs ((zG (.call c)).map a.eval)):
  Gs S Pm ρ w svs (c.args.toList.map a.eval):=by simpa [zG,hb,jU] using h
theorem vh{tys:Array TypeId}{t:TypeId}(h:tys.toList=[t]):tys=#[t]:=by apply Array.ext';simpa using h
theorem yQ{tys:Array TypeId}{t u:TypeId}(h:tys.toList=[t,u]):tys=#[t,u]:=by apply Array.ext';simpa using h
theorem yR{P:Program}{t e ty:TypeId}(ht:P.underlying t=some (.slice e))(w:World)(a:Option Addr)(n c:Nat):(Builtin.len_ #[t] ty #[.slice a n c]).run P w=.ok (.int .i64 n) w:=by
 simp [Builtin.len_,run_underlying ht,goInt]
theorem zex{P:Program}{t e ty:TypeId}(ht:P.underlying t=some (.slice e))(w:World)(a:Option Addr)(n c:Nat):(Builtin.cap_ #[t] ty #[.slice a n c]).run P w=.ok (.int .i64 c) w:=by
 simp [Builtin.cap_,run_underlying ht,goInt]
theorem zf1{S Pm:Nat->Prop}{ρ:zd}{w:World}{α:Type}{enc:α->List SV}{xs:List α}{v:Value}(h:G S Pm ρ w (.sl enc xs) v):
  xs.length<=9223372036854775807/\∃a cap,v=.slice a xs.length cap/\xs.length<=cap:=by
 rcases h.sl_inv.sl_inv with ⟨rfl,a,rfl⟩ | ⟨_,b,o,cap,_,rfl,_,_,h1,h2,_⟩
 ·exact ⟨by simp,a,0,rfl,by simp⟩
 ·exact ⟨h1,_,cap,rfl,h2⟩
theorem zey {Keep:Nat->Prop} {M:List (Nat×Mem)} {ρ:zd} {w:World} (hm:zj Keep M ρ w) {k:Nat} {T:TypeId} {α:Type} {enc:α->List SV} {sz:Nat} {xs:List α}
  (hk:(k,Mem.arr T enc sz xs)∈M) {v:Value} (hv:ρ k=some v):xs.length<=281474976710656/\∃a cap,v=.slice a xs.length cap/\xs.length<=cap:=by
 obtain ⟨v',cells,hρ,hown,hlen,_⟩:=hm.rel k _ hk;rw [hv] at hρ;cases hρ
 rcases hown.2 with ⟨rfl,h0⟩ | ⟨g,cap,cur,rfl,_,_,hnc,_⟩
 ·have h0:xs.length=0:=h0;exact ⟨hlen,none,0,by rw [h0],oM⟩
 ·exact ⟨hlen,_,cap,rfl,hnc⟩
theorem zcV {Keep:Nat->Prop} {M:List (Nat×Mem)} {ρ:zd} {w:World} (hm:zj Keep M ρ w) {k:Nat} {T:TypeId} {sz:Nat} {xs:List (List SV)}
  (hk:(k,Mem.garr T sz xs)∈M) {v:Value} (hv:ρ k=some v):xs.length<=281474976710656/\∃a cap,v=.slice a xs.length cap/\xs.length<=cap:=by
 obtain ⟨v',cells,hρ,hown,hlen,_⟩:=hm.rel k _ hk;rw [hv] at hρ;cases hρ
 rcases hown.2 with ⟨rfl,h0⟩ | ⟨g,cap,cur,rfl,_,_,hnc,_⟩
 ·have h0:xs.length=0:=h0;exact ⟨hlen,none,0,by rw [h0],oM⟩
 ·exact ⟨hlen,_,cap,rfl,hnc⟩
theorem vi:∀{s:List SV} {K:IntKind->List Int->Prop},zfc s K->∃(k:IntKind) (x:Int) (r:List Int),K k (x::r)/\
  ∀{S Pm:Nat->Prop} {ρ:zd} {w:World} {vs:List Value},Gs S Pm ρ w s vs->∃us:List Value,vs=.int k x::us/\us.length=r.length/\∀(j:Nat) (y:Int),r[j]? =some y->∃k',us[j]? =some (.int k' y)
 | [],K,h=>by simp [zfc] at h
 | s::r,K,h=>by
  unfold zfc at h
  split at h
  ·rename_i k m r' heq
   cases heq
   split at h
   ·refine ⟨k,m,[],h,fun hg=>?_⟩;obtain ⟨v,vs',rfl,h1,h2⟩:=hg.cons_inv;exact ⟨[],by rw [h1.val_inv,h2.nil_inv],rfl,fun j y hy=>by simp at hy⟩
   ·obtain ⟨k2,x2,r2,hK,hg2⟩:=vi h;refine ⟨k,m,x2::r2,hK,fun hg=>?_⟩;obtain ⟨v,vs',rfl,h1,h2⟩:=hg.cons_inv;obtain ⟨us,rfl,hl,hy⟩:=hg2 h2;refine ⟨.int k2 x2::us,by rw [h1.val_inv],by simp [hl],fun j y hj=>?_⟩
    cases j with
    | zero=>simp at hj;subst hj;exact ⟨k2,rfl⟩
    | succ j=>simpa using hy j y (by simpa using hj)
  ·exact h.elim
theorem zcW{P:Program}{w:World}{k:IntKind}:∀(r:List Int) (us:List Value) (x:Int),us.length=r.length->(∀(j:Nat) (y:Int),r[j]? =some y->∃k',us[j]? =some (.int k' y))->
  (us.foldlM Builtin.min2 (.int k x)).run P w=.ok (.int k (uu x r)) w
 | [],us,x,hl,_=>by
  have:us=[]:=List.eq_nil_of_length_eq_zero hl;subst this;simp [uu]
 | y::r,us,x,hl,hy=>by
  cases us with
  | nil=>simp at hl
  | cons u us=>
   obtain ⟨k',hu⟩:=hy 0 y rfl;simp at hu;subst hu;have hmin:(if y < x then y else x)=min x y:=oM;simp only [List.foldlM_cons,Builtin.min2,Sem.run_bind,Sem.run_pure,Result.andThen_ok,hmin,uu];exact zcW r us (min x y) (by simpa using hl) (fun j z hz=>by simpa using hy (j+1) z (by simpa using hz))
theorem zcX{P:Program}{w:World}{k:IntKind}:∀(r:List Int) (us:List Value) (x:Int),us.length=r.length->(∀(j:Nat) (y:Int),r[j]? =some y->∃k',us[j]? =some (.int k' y))->
  (us.foldlM Builtin.max2 (.int k x)).run P w=.ok (.int k (zbZ x r)) w
 | [],us,x,hl,_=>by
  have:us=[]:=List.eq_nil_of_length_eq_zero hl;subst this;simp [zbZ]
 | y::r,us,x,hl,hy=>by
  cases us with
  | nil=>simp at hl
  | cons u us=>
   obtain ⟨k',hu⟩:=hy 0 y rfl;simp at hu;subst hu;have hmax:(if y > x then y else x)=max x y:=oM;simp only [List.foldlM_cons,Builtin.max2,Sem.run_bind,Sem.run_pure,Result.andThen_ok,hmax,zbZ];exact zcX r us (max x y) (by simpa using hl) (fun j z hz=>by simpa using hy (j+1) z (by simpa using hz))
def Src(S:Nat->Prop)(w:World){α:Type}(enc:α->List SV)(sz:Nat)(ys:List α)(v:Value)(news:List Value):Prop:=
 news.length=ys.length*sz/\(∀u∈news,u.oneCell'=true)/\
 (∀(i j:Nat) y (s:SV),ys[i]? =some y->(enc y)[j]? =some s->∃u,news[i*sz+j]? =some u/\D S w s u)/\
 ((v=.slice none 0 0/\ys=[])∨∃a c,v=.slice (some a) ys.length c/\∀(j:Nat) (u:Value),news[j]? =some u->w.cell? (a.add j)=some u)
theorem zcY{S:Nat->Prop}{w:World}{α:Type}{enc:α->List SV}{ys:List α}{v:Value}(hd:D S w (.sl enc ys) v){sz:Nat}(h0:0 < sz)(hsz:∀x∈ys,(enc x).length=sz):
  ∃news,Src S w enc sz ys v news:=by
 rcases hd.sl_inv with ⟨rfl,a,rfl⟩ | ⟨sz',b,o,cap,c,rfl,hb,hS,hlen,hcap,hesz,hc,he⟩
 ·cases a with
  | none=>exact ⟨[],by simp,by simp,fun i j y s h=>by simp at h,.inl ⟨rfl,rfl⟩⟩
  | some a=>exact ⟨[],by simp,by simp,fun i j y s h=>by simp at h,.inr ⟨a,0,rfl,fun j u hu=>by simp at hu⟩⟩
 ·have hs:ys≠[]->sz'=sz:=fun hne=>by
   obtain ⟨x,hx⟩:=List.exists_mem_of_ne_nil ys hne;rw [← hesz x hx,← hsz x hx]
  have hq:∀q,q < ys.length*sz->q / sz < ys.length/\q % sz < sz/\sz'=sz/\q / sz*sz+q % sz=q:=fun q hq=>by
   have h1:q / sz < ys.length:=(Nat.div_lt_iff_lt_mul h0).2 hq;refine ⟨h1,Nat.mod_lt _ h0,hs (fun e=>by rw [e] at h1;simp at h1),?_⟩;rw [Nat.mul_comm];exact Nat.div_add_mod q sz
  refine ⟨(List.range (ys.length*sz)).map fun q=>c (q / sz) (q % sz),by simp,?_,?_,.inr ⟨_,cap,rfl,?_⟩⟩
  ·intro u hu;obtain ⟨q,hq',rfl⟩:=List.mem_map.1 hu;obtain ⟨h1,h2,h3,_⟩:=hq q (List.mem_range.1 hq');exact (hc _ _ h1 (h3 ▸ h2)).2
  ·intro i j y s hy hs';have hi:i < ys.length:=(List.getElem?_eq_some_iff.1 hy).1
   have hj:j < sz:=by
    have:=(List.getElem?_eq_some_iff.1 hs').1;rw [hsz y (List.mem_of_getElem? hy)] at this;exact this
   have hlt:i*sz+j < ys.length*sz:=by
    have:=Nat.mul_le_mul_right sz (Nat.succ_le_of_lt hi);rw [Nat.succ_mul] at this;omega
   have e1:(i*sz+j) / sz=i:=by rw [Nat.mul_comm,Nat.mul_add_div h0];simp [Nat.div_eq_of_lt hj]
   have e2:(i*sz+j) % sz=j:=by rw [Nat.mul_comm,Nat.mul_add_mod];exact Nat.mod_eq_of_lt hj
   refine ⟨c i j,by simp [hlt,e1,e2],he i j y s hy hs'⟩
  ·intro q u hu;have hq':q < ys.length*sz:=by have:=(List.getElem?_eq_some_iff.1 hu).1;simpa using this
   obtain ⟨h1,h2,h3,h4⟩:=hq q hq';simp [hq'] at hu;subst hu;subst h3;rw [kA];have:=(hc _ _ h1 h2).1;rw [Nat.add_assoc,h4] at this;exact this
theorem kS {lm:Nat->Option Mem} {s:SV} {α:Type} {enc:α->List SV} {ys:List α} (h:jT lm s enc ys) {Keep:Nat->Prop} {M:List (Nat×Mem)} {ρ:zd} {w:World}
  (hlm:∀k m,lm k=some m->zl M k=some m) (hm:zj Keep M ρ w) {v:Value} (hg:G (fun b=>Keep b∨Own M ρ b) (Own M ρ) ρ w s v) {sz:Nat} (h0:0 < sz)
  (hsz:∀x∈ys,(enc x).length=sz):∃news,Src (fun b=>Keep b∨Own M ρ b) w enc sz ys v news:=by
 unfold jT at h
 split at h
 ·subst h;rw [hg.val_inv];exact ⟨[],by simp,by simp,fun i j y s h=>by simp at h,.inl ⟨rfl,rfl⟩⟩
 ·rename_i k;simp only [vw] at h
  split at h
  ·rename_i T β enc' sz' xs hlk
   cases h
   obtain ⟨hv,_⟩:=hg.own_inv;obtain ⟨v',cells,hρ,hown,hlen,hone,hesz,hcells⟩:=hm.rel k _ (zg (hlm k _ hlk));rw [hv] at hρ;cases hρ
   rcases hown.2 with ⟨rfl,he⟩ | ⟨g,cap,cur,rfl,_,hheap,hnc,hcm,hcs,htake⟩
   ·have:ys=[]:=List.eq_nil_of_length_eq_zero he;subst this;exact ⟨[],by simp,by simp,fun i j y s h=>by simp at h,.inl ⟨rfl,rfl⟩⟩
   ·by_cases hne:ys=[]
    ·subst hne;exact ⟨[],by simp,by simp,fun i j y s h=>by simp at h,.inr ⟨_,cap,rfl,fun j u hu=>by simp at hu⟩⟩
    ·obtain ⟨x,hx⟩:=List.exists_mem_of_ne_nil ys hne;have:sz'=sz:=by rw [← hesz x hx,← hsz x hx]
     subst this;exact ⟨cells,hown.1,hone,hcells,.inr ⟨_,cap,rfl,fun j u hu=>by rw [kA,Nat.zero_add];exact jB hheap htake hu⟩⟩
  ·cases h
 ·subst h;exact zcY hg.sl_inv h0 hsz
theorem qX {P:Program} {t ty e:TypeId} {f:TypeInfo} {z:Value} (ht:P.underlying t=some (.slice e)) (hi:P.info? e=some f) (hz:f.zero=some z) (hzs:z.cells.size=f.size)
  {w:World} {v:Value} {n:Nat} {cells:List Value} (hown:w.ownsRow 0 e f.size v n cells) {S:Nat->Prop} {α:Type} {enc:α->List SV} {ys:List α} {vx:Value} {news:List Value}
  (hs:Src S w enc f.size ys vx news) (h63:n+ys.length<=maxLen) (hbytes:(n+ys.length)*f.bytes<=140737488355328):
  ∃v' w',(Builtin.append_ #[t,t] ty #[v,vx]).run P w=.ok v' w'/\w'.ownsRow 0 e f.size v' (n+ys.length) (cells++news)/\w'.os=w.os/\w'.tape=w.tape/\ziu w w'/\w.heap.size<=w'.heap.size/\
   (∀b,b < w.heap.size->zM v≠some b->w'.heap[b]? =w.heap[b]?)/\(zM v'=zM v∨(zM v'=some w.heap.size/\w.heap.size < w'.heap.size))/\v'.oneCell'=true:=by
 obtain ⟨hl,hone,_,hv⟩:=hs;have h63':(n+ys.length:Int)<=9223372036854775807:=by unfold maxLen at h63;omega
 have made:∀(old:Nat),old < n+ys.length->(w.drew.alloc (.cells (cells.toArray++news.toArray++Builtin.zeroCells z.cells (grownCap w (n+ys.length) old e - (n+ys.length))) e)).ownsRow 0 e f.size
    (.slice (some ⟨w.heap.size,0,none⟩) (n+ys.length) (grownCap w (n+ys.length) old e)) (n+ys.length) (cells++news):=by
  intro old _;have hge:=grownCap_ge w (n+ys.length) old e;have hcl:=hown.1;refine ⟨by rw [List.length_append,hcl,hl,Nat.add_mul],.inr ⟨w.heap.size,_,_,rfl,Nat.zero_le _,heap_alloc_new w.drew _,hge,grownCap_le_maxLen w _ old e h63,?_,?_⟩⟩
  ·simp only [Array.size_append,List.size_toArray,size_zeroCells,hzs,hcl,hl,← Nat.add_mul];congr 1;omega
  ·simp only [Array.toList_append];rw [List.take_append_of_le_length (by simp [hcl,hl,Nat.add_mul])];exact List.take_of_length_le (by simp [hcl,hl,Nat.add_mul])
 rcases hv with ⟨rfl,rfl⟩ | ⟨a,c,rfl,hcells⟩
 ·have hn:news=[]:=List.eq_nil_of_length_eq_zero (by simpa using hl);subst hn
  rcases hown.2 with ⟨rfl,h0⟩ | ⟨g,cap,cur,rfl,_,hheap,hnc,hcm,hcs,htake⟩
  ·refine ⟨.slice none 0 0,w,?_,?_,rfl,rfl,.refl _,Nat.le_refl _,fun _ _ _=>rfl,.inl rfl,rfl⟩
   ·simp [Builtin.append_,run_underlying ht,sizeOf,typeInfo,hi,Builtin.lenOf,Builtin.firstCells]
   ·subst h0;have hc0:cells=[]:=List.eq_nil_of_length_eq_zero (by simpa using hown.1);subst hc0;exact World.ownsRow_nil w 0 e f.size
  ·refine ⟨.slice (some ⟨g,0,none⟩) n cap,w,?_,?_,rfl,rfl,.refl _,Nat.le_refl _,fun _ _ _=>rfl,.inl rfl,rfl⟩
   ·simp [Builtin.append_,run_underlying ht,sizeOf,typeInfo,hi,Builtin.lenOf,Builtin.firstCells,hnc,storeCells]
   ·simpa using hown
 ·rcases hown.2 with ⟨rfl,rfl⟩ | ⟨g,cap,cur,rfl,_,hheap,hnc,hcm,hcs,htake⟩
  ·have hc0:cells=[]:=List.eq_nil_of_length_eq_zero (by simpa using hown.1);subst hc0
   by_cases hy:ys.length=0
   ·have hn:news=[]:=List.eq_nil_of_length_eq_zero (by simpa [hy] using hl);subst hn;refine ⟨.slice none 0 0,w,?_,?_,rfl,rfl,.refl _,Nat.le_refl _,fun _ _ _=>rfl,.inl rfl,rfl⟩
    ·simp [Builtin.append_,run_underlying ht,sizeOf,typeInfo,hi,Builtin.lenOf,Builtin.firstCells,hy,loadCells,loadCellsFrom]
    ·rw [hy];exact World.ownsRow_nil w 0 e f.size
   ·have hr:=run_append_nil (P:=P) w t ty e f z ht hi hz a ys.length c news hl hcells oM (by simpa using h63') (by have hb:=hbytes;simp only [Nat.zero_add] at hb;omega);have hgr:=made 0 oM;simp only [Nat.zero_add,List.nil_append,Array.empty_append] at hgr ⊢;exact ⟨_,_,hr,hgr,rfl,rfl,.cells w.drew _ _,by simp,fun b hb _=>heap_alloc_old w.drew _ b hb,.inr ⟨rfl,by simp⟩,rfl⟩
  ·have hcl:=hown.1
   by_cases hroom:n+ys.length<=cap
   ·have hfit:n*f.size+news.length<=cur.size:=by rw [hl,hcs,← Nat.add_mul];exact Nat.mul_le_mul_right _ hroom
    have hr:=run_append_room (P:=P) w t ty e f ht hi g n cap cur hheap a ys.length c news hl hcells hone hroom hfit
    refine ⟨_,_,hr,⟨by rw [List.length_append,hcl,hl,Nat.add_mul],.inr ⟨g,cap,_,rfl,Nat.zero_le _,setRow_heap w g cur _ e _ hheap,hroom,hcm,?_,?_⟩⟩,rfl,rfl,.setRow _ _ _,by simp,
     fun b _ hne=>setRow_other w g b _ (fun e=>hne (by simp [zM,e])),.inl rfl,rfl⟩
    ·simp only [List.size_toArray,List.length_append,List.length_take,List.length_drop,Array.length_toList];omega
    ·rw [htake,Nat.add_mul,← hl,← hcl];rw [List.take_append_of_le_length (by simp)];exact List.take_of_length_le (by simp)
   ·have holds:∀(j:Nat) (u:Value),cells[j]? =some u->w.cell? ((⟨g,0,none⟩:Addr).add j)=some u:=fun j u hu=>by rw [kA,Nat.zero_add];exact jB hheap htake hu
    have hr:=run_append_grow (P:=P) w t ty e f z ht hi hz ⟨g,0,none⟩ n cap cells hcl holds a ys.length c news hl hcells oM (by push_cast;exact h63') (growslice_fits oM hbytes);exact ⟨_,_,hr,made cap oM,rfl,rfl,.cells w.drew _ _,by simp,fun b hb _=>heap_alloc_old w.drew _ b hb,.inr ⟨rfl,by simp⟩,rfl⟩
theorem zcZ {P:Program} {t ty e:TypeId} {f:TypeInfo} {z:Value} (ht:P.underlying t=some (.slice e)) (hi:P.info? e=some f) (hz:f.zero=some z) (hzs:z.cells.size=f.size)
  {w:World} (ad:Option Addr) {S:Nat->Prop} {α:Type} {enc:α->List SV} {ys:List α} {vx:Value} {news:List Value}
  (hs:Src S w enc f.size ys vx news) (hne:ys≠[]) (h63:ys.length<=maxLen) (hbytes:ys.length*f.bytes<=140737488355328):
  ∃v' w',(Builtin.append_ #[t,t] ty #[.slice ad 0 0,vx]).run P w=.ok v' w'/\w'.ownsRow 0 e f.size v' ys.length news/\w'.os=w.os/\w'.tape=w.tape/\ziu w w'/\w.heap.size<=w'.heap.size/\
   (∀b,b < w.heap.size->w'.heap[b]? =w.heap[b]?)/\(zM v'=some w.heap.size/\w.heap.size < w'.heap.size)/\v'.oneCell'=true:=by
 obtain ⟨hl,hone,_,hv⟩:=hs;have h63':(ys.length:Int)<=9223372036854775807:=by unfold maxLen at h63;omega
 have hpos:0 < ys.length:=List.length_pos_iff.2 hne
 have made:(w.drew.alloc (.cells (news.toArray++Builtin.zeroCells z.cells (grownCap w ys.length 0 e - ys.length)) e)).ownsRow 0 e f.size
    (.slice (some ⟨w.heap.size,0,none⟩) ys.length (grownCap w ys.length 0 e)) ys.length news:=by
  have hge:=grownCap_ge w ys.length 0 e;refine ⟨hl,.inr ⟨w.heap.size,_,_,rfl,Nat.zero_le _,heap_alloc_new w.drew _,hge,grownCap_le_maxLen w _ 0 e h63,?_,?_⟩⟩
  ·simp only [Array.size_append,List.size_toArray,size_zeroCells,hzs,hl,← Nat.add_mul];congr 1;omega
  ·simp only [Array.toList_append];rw [List.take_append_of_le_length (by simp [hl])];exact List.take_of_length_le (by simp [hl])
 rcases hv with ⟨_,rfl⟩ | ⟨a,c,rfl,hcells⟩
 ·exact absurd rfl hne
 ·cases ad with
  | none=>
   have hr:=run_append_nil (P:=P) w t ty e f z ht hi hz a ys.length c news hl hcells oM h63' oM;exact ⟨_,_,hr,made,rfl,rfl,.cells w.drew _ _,by simp,fun b hb=>heap_alloc_old w.drew _ b hb,⟨rfl,by simp⟩,rfl⟩
  | some g=>
   have hr:=run_append_grow (P:=P) w t ty e f z ht hi hz g 0 0 [] (by simp) (fun j u hu=>by simp at hu) a ys.length c news hl hcells oM (by simpa using h63') (growslice_fits oM (by simpa using hbytes));simp only [Nat.zero_add,Array.empty_append] at hr;exact ⟨_,_,hr,made,rfl,rfl,.cells w.drew _ _,by simp,fun b hb=>heap_alloc_old w.drew _ b hb,⟨rfl,by simp⟩,rfl⟩
theorem zc0 {P:Program} {t ty e:TypeId} {f:TypeInfo} {z:Value} (ht:P.underlying t=some (.slice e)) (hi:P.info? e=some f) (hz:f.zero=some z) (hzs:z.cells.size=f.size)
  {w:World} (ad:Option Addr) {S:Nat->Prop} {α:Type} {enc:α->List SV} {xs ys:List α} {vx:Value} {olds news:List Value}
  (ho:Src S w enc f.size xs (.slice ad xs.length xs.length) olds) (hs:Src S w enc f.size ys vx news) (hne:ys≠[]) (h63:xs.length+ys.length<=maxLen) (hbytes:(xs.length+ys.length)*f.bytes<=140737488355328):
  ∃v' w',(Builtin.append_ #[t,t] ty #[.slice ad xs.length xs.length,vx]).run P w=.ok v' w'/\w'.ownsRow 0 e f.size v' (xs.length+ys.length) (olds++news)/\w'.os=w.os/\w'.tape=w.tape/\ziu w w'/\w.heap.size<=w'.heap.size/\
   (∀b,b < w.heap.size->w'.heap[b]? =w.heap[b]?)/\(zM v'=some w.heap.size/\w.heap.size < w'.heap.size)/\v'.oneCell'=true:=by
 obtain ⟨hl,hone,_,hv⟩:=hs;obtain ⟨hol,_,_,hov⟩:=ho;have h63':(xs.length+ys.length:Int)<=9223372036854775807:=by unfold maxLen at h63;omega
 have hpos:0 < ys.length:=List.length_pos_iff.2 hne
 have made:∀old:Nat,(w.drew.alloc (.cells (olds.toArray++news.toArray++Builtin.zeroCells z.cells (grownCap w (xs.length+ys.length) old e - (xs.length+ys.length))) e)).ownsRow 0 e f.size
    (.slice (some ⟨w.heap.size,0,none⟩) (xs.length+ys.length) (grownCap w (xs.length+ys.length) old e)) (xs.length+ys.length) (olds++news):=by
  intro old;have hge:=grownCap_ge w (xs.length+ys.length) old e;refine ⟨by rw [List.length_append,hol,hl,Nat.add_mul],.inr ⟨w.heap.size,_,_,rfl,Nat.zero_le _,heap_alloc_new w.drew _,hge,grownCap_le_maxLen w _ old e h63,?_,?_⟩⟩
  ·simp only [Array.size_append,List.size_toArray,size_zeroCells,hzs,hol,hl,← Nat.add_mul];congr 1;omega
  ·simp only [Array.toList_append];rw [List.take_append_of_le_length (by simp [hol,hl,Nat.add_mul])];exact List.take_of_length_le (by simp [hol,hl,Nat.add_mul])
 rcases hv with ⟨_,rfl⟩ | ⟨a,c,rfl,hcells⟩
 ·exact absurd rfl hne
 ·cases ad with
  | none=>
   have hx0:xs=[]:=by
    rcases hov with ⟨_,h⟩ | ⟨_,_,h,_⟩
    ·exact h
    ·cases h
   subst hx0;have ho0:olds=[]:=List.eq_nil_of_length_eq_zero (by simpa using hol);subst ho0;have hr:=run_append_nil (P:=P) w t ty e f z ht hi hz a ys.length c news hl hcells oM (by simpa using h63') (by simp only [List.length_nil,Nat.zero_add] at hbytes;omega);have:=made 0;simp only [List.length_nil,Nat.zero_add,List.nil_append] at this;refine ⟨_,_,hr,?_,rfl,rfl,.cells w.drew _ _,by simp,fun b hb=>heap_alloc_old w.drew _ b hb,⟨rfl,by simp⟩,rfl⟩
   simpa using this
  | some g=>
   have hcell:∀(j:Nat) (u:Value),olds[j]? =some u->w.cell? (g.add j)=some u:=by
    rcases hov with ⟨h,_⟩ | ⟨a',c',h,hc⟩
    ·cases h
    ·cases h;exact hc
   have hr:=run_append_grow (P:=P) w t ty e f z ht hi hz g xs.length xs.length olds (by simp [hol]) hcell a ys.length c news hl hcells oM (by simpa using h63') (growslice_fits oM (by simpa using hbytes));exact ⟨_,_,hr,made _,rfl,rfl,.cells w.drew _ _,by simp,fun b hb=>heap_alloc_old w.drew _ b hb,⟨rfl,by simp⟩,rfl⟩
theorem zf2 {P:Program} {t t' ty e:TypeId} {f:TypeInfo} (ht:P.underlying t=some (.slice e)) (hi:P.info? e=some f) {w:World} {g o n cap':Nat} {T:TypeId} {cur:Array Value}
  (hg:w.heap[g]? =some (.cells cur T (0,0))) {S:Nat->Prop} {α:Type} {enc:α->List SV} {ys:List α} {vx:Value} {news:List Value} (hs:Src S w enc f.size ys vx news) (hfit:o+min ys.length n*f.size<=cur.size):
  (Builtin.copy_ #[t,t'] ty #[.slice (some ⟨g,o,none⟩) n cap',vx]).run P w=.ok (.int .i64 (min ys.length n:Nat))
   (w.setRow g (cur.toList.take o++news.take (min ys.length n*f.size)++cur.toList.drop (o+min ys.length n*f.size)).toArray):=by
 obtain ⟨hl,hone,_,hv⟩:=hs
 rcases hv with ⟨rfl,rfl⟩ | ⟨a,c,rfl,hcells⟩
 ·have hn:news=[]:=List.eq_nil_of_length_eq_zero (by simpa using hl);subst hn;have hsr:=setRow_self w g cur T (0,0) hg;simp [Builtin.copy_,run_underlying ht,Builtin.lenOf,Builtin.firstCells,sizeOf,typeInfo,hi,storeCells,goInt,hsr]
 ·have hcl:(news.take (min ys.length n*f.size)).length=min ys.length n*f.size:=by
   rw [List.length_take,hl];exact Nat.min_eq_left (Nat.mul_le_mul_right _ (Nat.min_le_left _ _))
  have hld:=run_loadCells_list (P:=P) w a (news.take (min ys.length n*f.size)) (fun j u hu=>hcells j u (by
   rw [List.getElem?_take] at hu
   split at hu
   ·exact hu
   ·cases hu))
  rw [hcl] at hld;have hst:=run_storeCells_at P g o T (news.take (min ys.length n*f.size)) 0 cur w hg (by rw [hcl];simpa using hfit) (fun u hu=>hone u (List.mem_of_mem_take hu));simp only [hcl,Nat.add_zero] at hst;have e1:Nat.min ys.length n=min ys.length n:=rfl;simp [Builtin.copy_,run_underlying ht,Builtin.lenOf,Builtin.firstCells,sizeOf,typeInfo,hi,e1,hld,hst,goInt]
theorem zbs:∀{M:List (Nat×Mem)} {k:Nat} {m:Mem},zl M k=some m->zJ M k m=M
 | [],_,_,h=>by simp [zl] at h
 | (k',m')::r,k,m,h=>by
  simp only [zl] at h;simp only [zJ]
  split at h
  ·cases h;rfl
  ·rw [zbs h]
theorem zez {P:Program}
  {Keep:Nat->Prop} {M:List (Nat×Mem)} {ρ:zd} {w:World} (hm:zj Keep M ρ w) {k:Nat} {T:TypeId} {α:Type} {enc:α->List SV} {sz:Nat} {xs:List α} (hmem:(k,Mem.arr T enc sz xs)∈M)
  {b len cap lo n κ:Nat} (hρ:ρ k=some (.slice (some ⟨b,0,none⟩) len cap)) (hln:lo+n<=xs.length) {ys:List α} {news:List Value}
  (hs:news.length=ys.length*sz/\(∀u∈news,u.oneCell'=true)/\(∀(i j:Nat) y (s:SV),ys[i]? =some y->(enc y)[j]? =some s->∃u,news[i*sz+j]? =some u/\D (fun b=>Keep b∨Own M ρ b) w s u)) (hysz:∀y∈ys,(enc y).length=sz) {o:Oper} {a:Act} {r:Value}
  (hr:∀T cur,w.heap[b]? =some (.cells cur T (0,0))->lo*sz+min ys.length n*sz<=cur.size->(execOp a.eval o).run P w=.ok (.value r)
   (w.setRow b (cur.toList.take (lo*sz)++news.take (min ys.length n*sz)++cur.toList.drop (lo*sz+min ys.length n*sz)).toArray)):
  zO P o a w (zE Keep M ρ w κ (.val r) (.set k (.arr T enc sz (xs.take lo++(ys.take n++xs.drop (lo+min ys.length n)))))):=by
 obtain ⟨v0,cells,hρ',hown,hnl,hone0,hesz,hcells⟩:=hm.rel k _ hmem;rw [hρ] at hρ';cases hρ'
 obtain ⟨hlen',cur,hheap,hnc,hcm,hcs,htake⟩:=yN rfl hown;have hcellslen:cells.length=xs.length*sz:=hown.1;have hml:min ys.length n<=n:=Nat.min_le_right _ _;have hmy:min ys.length n<=ys.length:=Nat.min_le_left _ _
 have htk:ys.take n=ys.take (min ys.length n):=by
  rcases Nat.le_total ys.length n with h | h
  ·rw [Nat.min_eq_left h,List.take_of_length_le h,List.take_of_length_le (Nat.le_refl _)]
  ·rw [Nat.min_eq_right h]
 rw [htk];have hcurlen:xs.length*sz<=cur.toList.length:=by simp [hcs];exact Nat.mul_le_mul_right _ hnc
 generalize hmm:min ys.length n=m at*;have hfit:(lo+m)*sz<=xs.length*sz:=Nat.mul_le_mul_right _ oM;have hadd:(lo+m)*sz=lo*sz+m*sz:=Nat.add_mul _ _ _;have hrun:=hr _ _ hheap (by simp at hcurlen;omega)
 have hnews:(news.take (m*sz)).length=m*sz:=by
  rw [List.length_take,hs.1];exact Nat.min_eq_left (Nat.mul_le_mul_right _ hmy)
 refine zO.value hrun ?_;refine zE.set (hm.write _ hmem hρ rfl _ fun hst=>?_) (.d _ _ (.val _));have hxl:(xs.take lo++(ys.take m++xs.drop (lo+m))).length=xs.length:=by simp only [List.length_append,List.length_take,List.length_drop];omega
 refine ⟨_,cells.take (lo*sz)++news.take (m*sz)++cells.drop (lo*sz+m*sz),hρ,⟨?_,.inr ⟨b,cap,_,by rw [hxl,hlen'],Nat.zero_le _,setRow_heap w b _ _ T _ hheap,by rw [hxl];exact hnc,hcm,?_,?_⟩⟩,by rw [hxl];exact hnl,?_,?_,?_⟩
 ·rw [hxl];simp only [List.length_append,List.length_take,List.length_drop,hcellslen,hs.1];have:=Nat.mul_le_mul_right sz hmy;omega
 ·simp only [List.size_toArray,List.length_append,hnews,List.length_take,List.length_drop,Array.length_toList,hcs];simp [hcs] at hcurlen;omega
 ·rw [hxl,← htake];have:=jk cur.toList (news.take (m*sz)) (lo*sz) (xs.length*sz) (by rw [hnews];omega) hcurlen;rw [hnews] at this;exact this
 ·intro u hu;simp only [List.mem_append] at hu
  rcases hu with (hu | hu) | hu
  ·exact hone0 u (List.mem_of_mem_take hu)
  ·exact hs.2.1 u (List.mem_of_mem_take hu)
  ·exact hone0 u (List.mem_of_mem_drop hu)
 ·intro z hz;simp only [List.mem_append] at hz
  rcases hz with hz | hz | hz
  ·exact hesz z (List.mem_of_mem_take hz)
  ·exact hysz z (List.mem_of_mem_take hz)
  ·exact hesz z (List.mem_of_mem_drop hz)
 ·intro i j x s hxi hs';have hln1:(cells.take (lo*sz)).length=lo*sz:=by rw [List.length_take,hcellslen];omega
  have hlx:(xs.take lo).length=lo:=by rw [List.length_take];omega
  have hly:(ys.take m).length=m:=by rw [List.length_take];omega
  have hjs:j < sz:=by
   have hx:x∈xs.take lo++(ys.take m++xs.drop (lo+m)):=List.mem_of_getElem? hxi;have:=(List.getElem?_eq_some_iff.1 hs').1;simp only [List.mem_append] at hx
   rcases hx with hz | hz | hz
   ·rwa [hesz x (List.mem_of_mem_take hz)] at this
   ·rwa [hysz x (List.mem_of_mem_take hz)] at this
   ·rwa [hesz x (List.mem_of_mem_drop hz)] at this
  by_cases hi1:i < lo
  ·rw [List.getElem?_append_left oM,List.getElem?_take,if_pos hi1] at hxi;obtain ⟨u,hu,hd⟩:=hcells i j x s hxi hs';refine ⟨u,?_,hd.stp hst⟩
   have h5:i*sz+sz<=lo*sz:=by
    have:=Nat.mul_le_mul_right sz (Nat.succ_le_of_lt hi1);rw [Nat.succ_mul] at this;exact this
   rw [List.append_assoc,List.getElem?_append_left oM,List.getElem?_take,if_pos oM];exact hu
  ·rw [List.getElem?_append_right oM,hlx] at hxi;have h6:lo*sz<=i*sz:=Nat.mul_le_mul_right _ oM
   by_cases hi2:i - lo < m
   ·rw [List.getElem?_append_left oM,List.getElem?_take,if_pos hi2] at hxi;obtain ⟨u,hu,hd⟩:=hs.2.2 (i - lo) j x s hxi hs';refine ⟨u,?_,hd.stp hst⟩
    have h5:(i - lo)*sz+sz<=m*sz:=by
     have:=Nat.mul_le_mul_right sz (Nat.succ_le_of_lt hi2);rw [Nat.succ_mul] at this;exact this
    have h7:(i - lo)*sz=i*sz - lo*sz:=Nat.sub_mul _ _ _;rw [List.append_assoc,List.getElem?_append_right oM,hln1,List.getElem?_append_left oM,List.getElem?_take,if_pos oM,← hu];congr 1;omega
   ·rw [List.getElem?_append_right oM,hly,List.getElem?_drop] at hxi;rw [show lo+m+(i - lo - m)=i by omega] at hxi;obtain ⟨u,hu,hd⟩:=hcells i j x s hxi hs';refine ⟨u,?_,hd.stp hst⟩;have h7:(lo+m)*sz<=i*sz:=Nat.mul_le_mul_right _ oM;rw [List.append_assoc,List.getElem?_append_right oM,hln1,List.getElem?_append_right oM,hnews,List.getElem?_drop,← hu];congr 1;omega
theorem zc1 {P:Program} {t t' e:TypeId} {f:TypeInfo} (hk:P.underlying t=some (.slice e)) (hi:P.info? e=some f)
  {Keep:Nat->Prop} {M:List (Nat×Mem)} {ρ:zd} {w:World} (hm:zj Keep M ρ w) {k:Nat} {T:TypeId} {α:Type} {enc:α->List SV} {sz:Nat} {xs:List α} (hmem:(k,Mem.arr T enc sz xs)∈M) (h2:f.size=sz)
  {b len cap cap' lo n κ:Nat} (hρ:ρ k=some (.slice (some ⟨b,0,none⟩) len cap)) (hln:lo+n<=xs.length) {ys:List α} {vx:Value} {news:List Value}
  (hs:Src (fun b=>Keep b∨Own M ρ b) w enc sz ys vx news) (hysz:∀y∈ys,(enc y).length=sz) {o:Oper} {a:Act}
  (hr:∀v w',(Builtin.copy_ #[t,t'] o.type #[.slice (some ⟨b,lo*sz,none⟩) n cap',vx]).run P w=.ok v w'->(execOp a.eval o).run P w=.ok (.value v) w'):
  zO P o a w (zE Keep M ρ w κ (.val (.int .i64 (min ys.length n:Nat))) (.set k (.arr T enc sz (xs.take lo++(ys.take n++xs.drop (lo+min ys.length n)))))):=by
 refine zez hm hmem hρ hln ⟨hs.1,hs.2.1,hs.2.2.1⟩ hysz fun T cur hheap hfit=>?_
 have hrun:=zf2 (P:=P) (t:=t) (t':=t') (ty:=o.type) (o:=lo*sz) (n:=n) (cap':=cap') hk hi hheap (h2 ▸ hs) (by rw [h2];exact hfit);rw [h2] at hrun;exact hr _ _ hrun
theorem zfg {P:Program} {t e:TypeId} {f:TypeInfo} {z:Value} {zs:List Value} (hk:P.underlying t=some (.slice e)) (hz:f.zero=some z) (hi:P.info? e=some f) (h5:z.cells.toList=zs) (h7:zs.length=f.size) (h8:∀u∈zs,u.oneCell'=true)
  {Keep:Nat->Prop} {M:List (Nat×Mem)} {ρ:zd} {w:World} (hm:zj Keep M ρ w) {k:Nat} {T:TypeId} {α:Type} {enc:α->List SV} {sz:Nat} {xs:List α} (hmem:(k,Mem.arr T enc sz xs)∈M) (h2:f.size=sz)
  {b len cap cap' lo n κ:Nat} (hn:0 < n) (hρ:ρ k=some (.slice (some ⟨b,0,none⟩) len cap)) (hln:lo+n<=xs.length) {x0:α} (hx0:enc x0=vals zs) {o:Oper} {a:Act}
  (hr:∀v w',(Builtin.clear_ #[t] o.type #[.slice (some ⟨b,lo*sz,none⟩) n cap']).run P w=.ok v w'->(execOp a.eval o).run P w=.ok (.value v) w'):
  zO P o a w (zE Keep M ρ w κ (.val (.tuple #[])) (.set k (.arr T enc sz (xs.take lo++(List.replicate n x0++xs.drop (lo+n)))))):=by
 have hzl:z.cells=zs.toArray:=by rw [← h5]
 have hlen:(madeCells z.cells (n*f.size)).toList.length=n*sz:=by simp [madeCells,h2]
 have hmg:∀q,(madeCells z.cells (n*f.size)).toList[q]? =if q < n*sz then zs[q % sz]? else none:=fun q=>by
  have:=uz zs n q;rw [h7,h2] at this;rw [hzl,h2];exact this
 have henc:(enc x0).length=sz:=by rw [hx0];simp [vals,h7,h2]
 have hone:∀u∈(madeCells z.cells (n*f.size)).toList,u.oneCell'=true:=fun u hu=>by
  obtain ⟨q,hq,rfl⟩:=List.mem_iff_getElem.1 hu;have:=hmg q;rw [List.getElem?_eq_getElem hq] at this
  split at this
  ·exact h8 _ (List.mem_of_getElem? this.symm)
  ·cases this
 have key:=zez (P:=P) hm hmem hρ hln (ys:=List.replicate n x0) (news:=(madeCells z.cells (n*f.size)).toList) (κ:=κ) (o:=o) (a:=a) (r:=.tuple #[])
  ⟨by rw [hlen,List.length_replicate],hone,fun i j y s hy hs=>by
   have hxm:=List.eq_of_mem_replicate (List.mem_of_getElem? hy);subst hxm;have hq:i < n:=by simpa using (List.getElem?_eq_some_iff.1 hy).1
   have hpj:j < sz:=by
    have:=(List.getElem?_eq_some_iff.1 hs).1;rw [henc] at this;exact this
   have h1:i*sz+sz<=n*sz:=by
    have:=Nat.mul_le_mul_right sz (show i+1<=n by omega);rw [Nat.succ_mul] at this;exact this
   have hmod:(i*sz+j) % sz=j:=by rw [Nat.mul_comm,Nat.mul_add_mod];exact Nat.mod_eq_of_lt hpj
   rw [hmg,if_pos oM,hmod];rw [hx0] at hs;simp only [vals,List.getElem?_map] at hs
   cases hu:zs[j]? with
   | none=>simp [hu] at hs
   | some u=>
    simp [hu] at hs;subst hs
    exact ⟨u,rfl,.val u⟩⟩ (fun y hy=>by rw [List.eq_of_mem_replicate hy];exact henc) (fun T' cur hheap hfit=>by
   refine hr _ _ ?_;rw [List.length_replicate,Nat.min_self] at hfit ⊢;have hst:=run_storeCells_at P b (lo*sz) T' (madeCells z.cells (n*f.size)).toList 0 cur w hheap (by rw [hlen];simpa using hfit) hone;simp only [hlen,Nat.add_zero] at hst;have ht:(madeCells z.cells (n*f.size)).toList.take (n*sz)=(madeCells z.cells (n*f.size)).toList:=List.take_of_length_le (by rw [hlen];exact Nat.le_refl _);rw [ht]
   have hzc:(Builtin.zeroCells z.cells n).toList=(madeCells z.cells (n*f.size)).toList:=by
    have e:z.cells.size=f.size:=by rw [hzl];simpa using h7
    simp [Builtin.zeroCells,madeCells,e]
   obtain ⟨m,rfl⟩:∃m,n=m+1:=⟨n - 1,oM⟩
   simp [Builtin.clear_,run_underlying hk,zeroValue,typeInfo,hi,hz,hzc,hst])
 rw [List.length_replicate,Nat.min_self,List.take_of_length_le (l:=List.replicate n x0) (by rw [List.length_replicate];exact Nat.le_refl _)] at key;exact key
theorem zc2{Keep:Nat->Prop}{M:List (Nat×Mem)}{ρ:zd}{w:World}(hm:zj Keep M ρ w){k:Nat}{T:TypeId}{sz:Nat}{ys:List (List SV)}(hmem:(k,Mem.garr T sz ys)∈M){v:Value}(hρ:ρ k=some v):
  ∃(qs:List Nat) (news:List Value),qs.length=ys.length/\Src (fun b=>Keep b∨Own M ρ b) w (fun n:Nat=>List.replicate n SV.junk) sz qs v news/\(∀y∈ys,y.length=sz)/\
   ∀(i j:Nat) x (s:SV),ys[i]? =some x->x[j]? =some s->∃u,news[i*sz+j]? =some u/\G (fun b=>Keep b∨Own M ρ b) (Own M ρ) ρ w s u:=by
 obtain ⟨v',cells,hρ',hown,hlen,hone,hesz,hcells⟩:=hm.rel k _ hmem;rw [hρ] at hρ';cases hρ'
 refine ⟨ys.map List.length,cells,by simp,⟨by rw [List.length_map];exact hown.1,hone,fun i j n s hn hs=>?_,?_⟩,hesz,hcells⟩
 ·rw [List.getElem?_map] at hn
  cases hy:ys[i]? with
  | none=>simp [hy] at hn
  | some y=>
   simp [hy] at hn;subst hn
   have hj:j < y.length:=by
    have:=(List.getElem?_eq_some_iff.1 hs).1
    simpa using this
   obtain ⟨u,hu,_⟩:=hcells i j y _ hy (List.getElem?_eq_getElem hj);have:s=.junk:=List.eq_of_mem_replicate (List.mem_of_getElem? hs);subst this;exact ⟨u,hu,.junk _⟩
 ·rw [List.length_map]
  rcases hown.2 with ⟨rfl,he⟩ | ⟨g,cap,cur,rfl,_,hheap,hnc,hcm,hcs,htake⟩
  ·exact .inl ⟨rfl,by rw [List.eq_nil_of_length_eq_zero he];rfl⟩
  ·exact .inr ⟨_,cap,rfl,fun j u hu=>by rw [kA,Nat.zero_add];exact jB hheap htake hu⟩
theorem za5 {P:Program} {Γ:List (TypeId×TI)} (hT:TOK P Γ) {c:Call} (hb:c.callee=.builtin .append) {s:SV} {k':Nat} {e':TypeId} {sz':Nat} {ys:List (List SV)} {lm:Nat->Option Mem} {κ:Nat} {K:SV->MD->Prop}
  (hlk':lm k'=some (.garr e' sz' ys)) (h:zad Γ c.argTypes.toList s e' sz' ys lm κ K):∃r md,K r md/\kE P (.call c) [s,.own k'] lm κ r md:=by
 unfold zad at h
 split at h
 ·rename_i t t' htys;have htys:=yQ htys;replace h:=zb h;obtain ⟨hteq,h⟩:=h;have hteq:=Nat.eq_of_beq_eq_true hteq;subst hteq;replace h:=zc h;obtain ⟨i,hi,h⟩:=h;have hk:=(hT t i hi).kind
  split at h
  ·rename_i e hkind;rw [hkind] at hk;have hk:P.underlying t=some (.slice e):=hk;replace h:=zc h;obtain ⟨j,hj,h⟩:=h;obtain ⟨f,h1,h2,h3,z,h4,h5,h6,h7,h8⟩:=(hT e j hj).inf;have hzs:z.cells.size=f.size:=by rw [h2,← h7,← h5];simp
   replace h:=zb h;obtain ⟨hee,h⟩:=h;replace h:=zb h;obtain ⟨hss,h⟩:=h;have hee:=Nat.eq_of_beq_eq_true hee;have hss:=Nat.eq_of_beq_eq_true hss;subst hee;subst hss
   split at h
   ·obtain ⟨e1,e2,e3⟩:=h.ob;refine ⟨_,_,h.go,fun o ho Keep M ρ a w hlm hm hκ hκM hgs=>?_⟩;replace hκ:=hκ _ (Nat.le_refl _) (Nat.lt_succ_self _);replace hκM:=hκM rfl;have hgs:=zY hb hgs;obtain ⟨v,vs',hvs,g,gr⟩:=hgs.cons_inv;obtain ⟨vx,vs'',hvs',gx,gn⟩:=gr.cons_inv;subst hvs';have hn:=gn.nil_inv;subst hn;obtain ⟨hx,_⟩:=gx.own_inv;obtain ⟨qs,news,hql,hsrc,hesz',hcells'⟩:=zc2 hm (zg (hlm k' _ hlk')) hx;rw [← hql] at e1 e2;obtain ⟨cs,hr⟩:=zm (P:=P) (w:=w) ho hb hvs;rw [g.val_inv] at hr
    have hb':(0+qs.length)*f.bytes<=140737488355328:=by rw [h3,Nat.zero_add];omega
    obtain ⟨v',w',hrun,hown,q1,q2,q3,q4,q5,q6,q7⟩:=qX (ty:=o.type) hk h1 h4 hzs (World.ownsRow_nil w 0 e f.size) (h2 ▸ hsrc) (by unfold maxLen;omega) hb';refine zO.value (v:=v') (w':=w') (by rw [hr,htys];simp only [builtin,Sem.run_bind,hrun,Result.andThen_ok,Sem.run_pure]) ?_;refine zE.push (u:=v') (hm.grow (fun _ h=>h) hm.keys hκ hκM v' _ w' q1 q2 q3 q4 (fun b hb _=>q5 b hb (by simp [zM])) (fun k m v b g1 g2 g3=>q5 b (hm.old b ⟨k,m,v,g1,g2,g3⟩).1 (by simp [zM])) ?_ ?_) (.own _ _ zn q7)
    ·intro b hb
     rcases q6 with q6 | ⟨q6,q8⟩
     ·rw [hb] at q6;simp [zM] at q6
     ·rw [hb] at q6;cases q6
      exact ⟨.inr (Nat.le_refl _),q8,fun k m v1 g1 g2 g3=>by have:=(hm.old _ ⟨k,m,v1,g1,g2,g3⟩).1;omega⟩
    ·intro hs;refine ⟨v',news,zn,by rw [← h2];rw [hql] at hown;simpa using hown,oM,hsrc.2.1,hesz',fun p q y s' hy hs'=>?_⟩;obtain ⟨u,hu,hd⟩:=hcells' p q y s' hy hs';exact ⟨u,hu,hd.stp hs⟩
   ·rename_i k
    split at h
    ·rename_i e'' sz xs hlk;replace h:=zb h;obtain ⟨hee,h⟩:=h;replace h:=zb h;obtain ⟨hss,h⟩:=h;have hee:=Nat.eq_of_beq_eq_true hee;have hss:=Nat.eq_of_beq_eq_true hss;subst hee;obtain ⟨e1,e2,e3⟩:=h.ob;refine ⟨_,_,h.go,fun o ho Keep M ρ a w hlm hm hκ hκM hgs=>?_⟩;replace hκ:=hκ _ (Nat.le_refl _) (Nat.lt_succ_self _);replace hκM:=hκM rfl;have hmem:=zg (hlm k _ hlk);have hgs:=zY hb hgs;obtain ⟨v,vs',hvs,g,gr⟩:=hgs.cons_inv;obtain ⟨vx,vs'',hvs',gx,gn⟩:=gr.cons_inv;subst hvs';have hn:=gn.nil_inv;subst hn
     obtain ⟨hx,_⟩:=gx.own_inv;obtain ⟨qs,news,hql,hsrc,hesz',hcells'⟩:=zc2 hm (zg (hlm k' _ hlk')) hx;rw [← hql] at e1 e2;obtain ⟨cs,hr⟩:=zm (P:=P) (w:=w) ho hb hvs;obtain ⟨hv,_⟩:=g.own_inv;obtain ⟨v0,cells,hρ,hown,hnl,hone0,hesz,hcells⟩:=hm.rel k _ hmem;rw [hv] at hρ;cases hρ
     have hb':(xs.length+qs.length)*f.bytes<=140737488355328:=by rw [h3];exact Int.ofNat_le.1 (by rw [Int.natCast_mul,Int.natCast_add];exact e1)
     have hsf:sz=f.size:=by rw [hss,h2]
     subst hsf;obtain ⟨v',w',hrun,hown',q1,q2,q3,q4,q5,q6,q7⟩:=qX (ty:=o.type) hk h1 h4 hzs hown (h2 ▸ hsrc) (by unfold maxLen;omega) hb';refine zO.value (v:=v') (w':=w') (by rw [hr,htys];simp only [builtin,Sem.run_bind,hrun,Result.andThen_ok,Sem.run_pure]) ?_
     have hgrow:=hm.grow (M1:=zL M k) (fun x hx=>zp x hx) (zN hm.keys) hκ hκM v' (.garr e f.size (xs++ys)) w' q1 q2 q3 q4
      (fun b hb hn=>q5 b hb (fun hvb=>hn ⟨k,_,v,hmem,hv,hvb⟩))
      (fun k' m v1 b g1 g2 g3=>q5 b (hm.old b ⟨k',m,v1,zp _ g1,g2,g3⟩).1 (fun hvb=>hm.apart k' m k _ v1 v b (zp _ g1) hmem (kF hm.keys _ g1) g2 hv g3 hvb))
      (fun b hb=>by
       rcases q6 with q6 | ⟨q6,q8⟩
       ·rw [hb] at q6;have ho:Own M ρ b:=⟨k,_,v,hmem,hv,q6.symm⟩;exact ⟨.inl ho,Nat.lt_of_lt_of_le (hm.old b ho).1 q4,fun k' m v1 g1 g2 g3=>hm.apart k' m k _ v1 v b (zp _ g1) hmem (kF hm.keys _ g1) g2 hv g3 q6.symm⟩
       ·rw [hb] at q6;cases q6
        exact ⟨.inr (Nat.le_refl _),q8,fun k' m v1 g1 g2 g3=>by have:=(hm.old _ ⟨k',m,v1,zp _ g1,g2,g3⟩).1;omega⟩)
      (fun hs=>by
       refine ⟨v',cells++news,zn,by rw [hql] at hown';simpa using hown',by simp;omega,fun u hu=>?_,fun x hx=>?_,fun p q x s' hx hs'=>?_⟩
       ·rcases List.mem_append.1 hu with hu | hu
        ·exact hone0 u hu
        ·exact hsrc.2.1 u hu
       ·rcases List.mem_append.1 hx with hx | hx
        ·exact hesz x hx
        ·rw [hesz' x hx,h2]
       ·have hl:=hown.1;rw [List.getElem?_append] at hx
        split at hx
        ·obtain ⟨u,hu,hd⟩:=hcells p q x s' hx hs';refine ⟨u,?_,hd.stp hs⟩;have:p*f.size+q < cells.length:=(List.getElem?_eq_some_iff.1 hu).1;rw [List.getElem?_append_left this];exact hu
        ·rename_i hge;obtain ⟨u,hu,hd⟩:=hcells' (p - xs.length) q x s' hx hs';refine ⟨u,?_,hd.stp hs⟩;have hge:xs.length<=p:=oM;have hmul:p*f.size=xs.length*f.size+(p - xs.length)*f.size:=by rw [← Nat.add_mul];congr 1;omega
         rw [List.getElem?_append_right (by rw [hl,hmul];omega),hl,hmul,show xs.length*f.size+(p - xs.length)*f.size+q - xs.length*f.size=(p - xs.length)*f.size+q by omega,h2]
         exact hu)
     exact ⟨upd ρ κ v',hgrow.1,hgrow.2,.own _ _ zn q7,fun k' hk'=>jZ (by
      rcases hk' with hk' | hk'
      ·omega
      ·simp only [qV] at hk';omega)⟩
    ·exact h.elim
   ·exact h.elim
  ·exact h.elim
 ·exact h.elim
theorem uA {P:Program} {Γ:List (TypeId×TI)} (hT:TOK P Γ) {c:Call} (hb:c.callee=.builtin .append) {s x:SV} {lm:Nat->Option Mem} {κ:Nat} {K:SV->MD->Prop}
  (h:vT Γ c.argTypes.toList s x lm κ K):∃r md,K r md/\kE P (.call c) [s,x] lm κ r md:=by
 unfold vT at h
 split at h
 ·rename_i t t' htys;have htys:=yQ htys;replace h:=zb h;obtain ⟨hteq,h⟩:=h;have hteq:=Nat.eq_of_beq_eq_true hteq;subst hteq;replace h:=zc h;obtain ⟨i,hi,h⟩:=h;have hk:=(hT t i hi).kind
  split at h
  ·rename_i e hkind;rw [hkind] at hk;have hk:P.underlying t=some (.slice e):=hk;replace h:=zc h;obtain ⟨j,hj,h⟩:=h;obtain ⟨f,h1,h2,h3,z,h4,h5,h6,h7,h8⟩:=(hT e j hj).inf;have hzs:z.cells.size=f.size:=by rw [h2,← h7,← h5];simp
   split at h
   ·obtain ⟨α,enc,ys,hra,h⟩:=h;obtain ⟨e1,e2,e3,e4⟩:=h.ob;refine ⟨_,_,h.go,fun o ho Keep M ρ a w hlm hm hκ hκM hgs=>?_⟩;replace hκ:=hκ _ (Nat.le_refl _) (Nat.lt_succ_self _);replace hκM:=hκM rfl;have hgs:=zY hb hgs;obtain ⟨v,vs',hvs,g,gr⟩:=hgs.cons_inv;obtain ⟨vx,vs'',hvs',gx,gn⟩:=gr.cons_inv;subst hvs';have hn:=gn.nil_inv;subst hn;obtain ⟨news,hsrc⟩:=kS hra hlm hm gx e3 e4;obtain ⟨cs,hr⟩:=zm (P:=P) (w:=w) ho hb hvs;rw [g.val_inv] at hr;have hb':(0+ys.length)*f.bytes<=140737488355328:=by rw [h3,Nat.zero_add];omega
    obtain ⟨v',w',hrun,hown,q1,q2,q3,q4,q5,q6,q7⟩:=qX (ty:=o.type) hk h1 h4 hzs (World.ownsRow_nil w 0 e f.size) (h2 ▸ hsrc) (by unfold maxLen;omega) hb';refine zO.value (v:=v') (w':=w') (by rw [hr,htys];simp only [builtin,Sem.run_bind,hrun,Result.andThen_ok,Sem.run_pure]) ?_;refine zE.push (u:=v') (hm.grow (fun _ h=>h) hm.keys hκ hκM v' _ w' q1 q2 q3 q4 (fun b hb _=>q5 b hb (by simp [zM])) (fun k m v b g1 g2 g3=>q5 b (hm.old b ⟨k,m,v,g1,g2,g3⟩).1 (by simp [zM])) ?_ ?_) (.own _ _ zn q7)
    ·intro b hb
     rcases q6 with q6 | ⟨q6,q8⟩
     ·rw [hb] at q6;simp [zM] at q6
     ·rw [hb] at q6;cases q6
      exact ⟨.inr (Nat.le_refl _),q8,fun k m v1 g1 g2 g3=>by have:=(hm.old _ ⟨k,m,v1,g1,g2,g3⟩).1;omega⟩
    ·intro hs;refine ⟨v',news,zn,by rw [← h2];simpa using hown,e2,hsrc.2.1,e4,fun p q y s' hy hs'=>?_⟩;obtain ⟨u,hu,hd⟩:=hsrc.2.2.1 p q y s' hy hs';exact ⟨u,hu,hd.stp hs⟩
   ·rename_i k
    split at h
    ·rename_i e' α enc sz xs hlk;replace h:=zb h;obtain ⟨hee,h⟩:=h;replace h:=zb h;obtain ⟨hss,h⟩:=h;have hee:=Nat.eq_of_beq_eq_true hee;have hss:=Nat.eq_of_beq_eq_true hss;subst hee;obtain ⟨ys,hra,h⟩:=h;obtain ⟨e1,e2,e3,e4⟩:=h.ob;refine ⟨_,_,h.go,fun o ho Keep M ρ a w hlm hm hκ hκM hgs=>?_⟩;replace hκ:=hκ _ (Nat.le_refl _) (Nat.lt_succ_self _);replace hκM:=hκM rfl;have hmem:=zg (hlm k _ hlk);have hgs:=zY hb hgs;obtain ⟨v,vs',hvs,g,gr⟩:=hgs.cons_inv;obtain ⟨vx,vs'',hvs',gx,gn⟩:=gr.cons_inv;subst hvs';have hn:=gn.nil_inv
     subst hn;obtain ⟨news,hsrc⟩:=kS hra hlm hm gx e3 e4;obtain ⟨cs,hr⟩:=zm (P:=P) (w:=w) ho hb hvs;obtain ⟨hv,_⟩:=g.own_inv;obtain ⟨v0,cells,hρ,hown,hnl,hone0,hesz,hcells⟩:=hm.rel k _ hmem;rw [hv] at hρ;cases hρ
     have hb':(xs.length+ys.length)*f.bytes<=140737488355328:=by rw [h3];exact Int.ofNat_le.1 (by rw [Int.natCast_mul,Int.natCast_add];exact e1)
     have hsf:sz=f.size:=by rw [hss,h2]
     subst hsf;obtain ⟨v',w',hrun,hown',q1,q2,q3,q4,q5,q6,q7⟩:=qX (ty:=o.type) hk h1 h4 hzs hown (h2 ▸ hsrc) (by unfold maxLen;omega) hb';refine zO.value (v:=v') (w':=w') (by rw [hr,htys];simp only [builtin,Sem.run_bind,hrun,Result.andThen_ok,Sem.run_pure]) ?_
     have hgrow:=hm.grow (M1:=zL M k) (fun x hx=>zp x hx) (zN hm.keys) hκ hκM v' (.arr e enc f.size (xs++ys)) w' q1 q2 q3 q4
      (fun b hb hn=>q5 b hb (fun hvb=>hn ⟨k,_,v,hmem,hv,hvb⟩))
      (fun k' m v1 b g1 g2 g3=>q5 b (hm.old b ⟨k',m,v1,zp _ g1,g2,g3⟩).1 (fun hvb=>hm.apart k' m k _ v1 v b (zp _ g1) hmem (kF hm.keys _ g1) g2 hv g3 hvb))
      (fun b hb=>by
       rcases q6 with q6 | ⟨q6,q8⟩
       ·rw [hb] at q6;have ho:Own M ρ b:=⟨k,_,v,hmem,hv,q6.symm⟩;exact ⟨.inl ho,Nat.lt_of_lt_of_le (hm.old b ho).1 q4,fun k' m v1 g1 g2 g3=>hm.apart k' m k _ v1 v b (zp _ g1) hmem (kF hm.keys _ g1) g2 hv g3 q6.symm⟩
       ·rw [hb] at q6;cases q6
        exact ⟨.inr (Nat.le_refl _),q8,fun k' m v1 g1 g2 g3=>by have:=(hm.old _ ⟨k',m,v1,zp _ g1,g2,g3⟩).1;omega⟩)
      (fun hs=>by
       refine ⟨v',cells++news,zn,by simpa using hown',by simp;omega,fun u hu=>?_,fun x hx=>?_,fun p q x s' hx hs'=>?_⟩
       ·rcases List.mem_append.1 hu with hu | hu
        ·exact hone0 u hu
        ·exact hsrc.2.1 u hu
       ·rcases List.mem_append.1 hx with hx | hx
        ·exact hesz x hx
        ·rw [e4 x hx,h2]
       ·have hl:=hown.1;rw [List.getElem?_append] at hx
        split at hx
        ·obtain ⟨u,hu,hd⟩:=hcells p q x s' hx hs';refine ⟨u,?_,hd.stp hs⟩;have:p*f.size+q < cells.length:=(List.getElem?_eq_some_iff.1 hu).1;rw [List.getElem?_append_left this];exact hu
        ·rename_i hge;obtain ⟨u,hu,hd⟩:=hsrc.2.2.1 (p - xs.length) q x s' hx hs';refine ⟨u,?_,hd.stp hs⟩;have hge:xs.length<=p:=oM;have hmul:p*f.size=xs.length*f.size+(p - xs.length)*f.size:=by rw [← Nat.add_mul];congr 1;omega
         rw [List.getElem?_append_right (by rw [hl,hmul];omega),hl,hmul,show xs.length*f.size+(p - xs.length)*f.size+q - xs.length*f.size=(p - xs.length)*f.size+q by omega,h2]
         exact hu)
     exact ⟨upd ρ κ v',hgrow.1,hgrow.2,.own _ _ zn q7,fun k' hk'=>jZ (by
      rcases hk' with hk' | hk'
      ·omega
      ·simp only [qV] at hk';omega)⟩
    ·rename_i e' sz xs hlk;replace h:=zb h;obtain ⟨hee,h⟩:=h;replace h:=zb h;obtain ⟨hss,h⟩:=h;have hee:=Nat.eq_of_beq_eq_true hee;have hss:=Nat.eq_of_beq_eq_true hss;subst hee;obtain ⟨α,enc,ys,hra,h⟩:=h;obtain ⟨e1,e2,e3,e4⟩:=h.ob;refine ⟨_,_,h.go,fun o ho Keep M ρ a w hlm hm hκ hκM hgs=>?_⟩;replace hκ:=hκ _ (Nat.le_refl _) (Nat.lt_succ_self _);replace hκM:=hκM rfl;have hmem:=zg (hlm k _ hlk);have hgs:=zY hb hgs;obtain ⟨v,vs',hvs,g,gr⟩:=hgs.cons_inv;obtain ⟨vx,vs'',hvs',gx,gn⟩:=gr.cons_inv;subst hvs';have hn:=gn.nil_inv
     subst hn;obtain ⟨news,hsrc⟩:=kS hra hlm hm gx e3 e4;obtain ⟨cs,hr⟩:=zm (P:=P) (w:=w) ho hb hvs;obtain ⟨hv,_⟩:=g.own_inv;obtain ⟨v0,cells,hρ,hown,hnl,hone0,hesz,hcells⟩:=hm.rel k _ hmem;rw [hv] at hρ;cases hρ
     have hb':(xs.length+ys.length)*f.bytes<=140737488355328:=by rw [h3];exact Int.ofNat_le.1 (by rw [Int.natCast_mul,Int.natCast_add];exact e1)
     have hsf:sz=f.size:=by rw [hss,h2]
     subst hsf;obtain ⟨v',w',hrun,hown',q1,q2,q3,q4,q5,q6,q7⟩:=qX (ty:=o.type) hk h1 h4 hzs hown (h2 ▸ hsrc) (by unfold maxLen;omega) hb';refine zO.value (v:=v') (w':=w') (by rw [hr,htys];simp only [builtin,Sem.run_bind,hrun,Result.andThen_ok,Sem.run_pure]) ?_
     have hgrow:=hm.grow (M1:=zL M k) (fun x hx=>zp x hx) (zN hm.keys) hκ hκM v' (.garr e f.size (xs++ys.map enc)) w' q1 q2 q3 q4
      (fun b hb hn=>q5 b hb (fun hvb=>hn ⟨k,_,v,hmem,hv,hvb⟩))
      (fun k' m v1 b g1 g2 g3=>q5 b (hm.old b ⟨k',m,v1,zp _ g1,g2,g3⟩).1 (fun hvb=>hm.apart k' m k _ v1 v b (zp _ g1) hmem (kF hm.keys _ g1) g2 hv g3 hvb))
      (fun b hb=>by
       rcases q6 with q6 | ⟨q6,q8⟩
       ·rw [hb] at q6;have ho:Own M ρ b:=⟨k,_,v,hmem,hv,q6.symm⟩;exact ⟨.inl ho,Nat.lt_of_lt_of_le (hm.old b ho).1 q4,fun k' m v1 g1 g2 g3=>hm.apart k' m k _ v1 v b (zp _ g1) hmem (kF hm.keys _ g1) g2 hv g3 q6.symm⟩
       ·rw [hb] at q6;cases q6
        exact ⟨.inr (Nat.le_refl _),q8,fun k' m v1 g1 g2 g3=>by have:=(hm.old _ ⟨k',m,v1,zp _ g1,g2,g3⟩).1;omega⟩)
      (fun hs=>by
       refine ⟨v',cells++news,zn,by simpa using hown',by simp;omega,fun u hu=>?_,fun x hx=>?_,fun p q x s' hx hs'=>?_⟩
       ·rcases List.mem_append.1 hu with hu | hu
        ·exact hone0 u hu
        ·exact hsrc.2.1 u hu
       ·rcases List.mem_append.1 hx with hx | hx
        ·exact hesz x hx
        ·obtain ⟨y,hy,rfl⟩:=List.mem_map.1 hx;rw [e4 y hy,h2]
       ·have hl:=hown.1;rw [List.getElem?_append] at hx
        split at hx
        ·obtain ⟨u,hu,hd⟩:=hcells p q x s' hx hs';refine ⟨u,?_,hd.stp hs⟩;have:p*f.size+q < cells.length:=(List.getElem?_eq_some_iff.1 hu).1;rw [List.getElem?_append_left this];exact hu
        ·rename_i hge;rw [List.getElem?_map] at hx
         cases hy:ys[p - xs.length]? with
         | none=>simp [hy] at hx
         | some y=>
         simp [hy] at hx;subst hx;obtain ⟨u,hu,hd⟩:=hsrc.2.2.1 (p - xs.length) q y s' hy hs';refine ⟨u,?_,.d _ _ (hd.stp hs)⟩;have hge:xs.length<=p:=oM;have hmul:p*f.size=xs.length*f.size+(p - xs.length)*f.size:=by rw [← Nat.add_mul];congr 1;omega
         rw [List.getElem?_append_right (by rw [hl,hmul];omega),hl,hmul,show xs.length*f.size+(p - xs.length)*f.size+q - xs.length*f.size=(p - xs.length)*f.size+q by omega,h2]
         exact hu)
     exact ⟨upd ρ κ v',hgrow.1,hgrow.2,.own _ _ zn q7,fun k' hk'=>jZ (by
      rcases hk' with hk' | hk'
      ·omega
      ·simp only [qV] at hk';omega)⟩
    ·exact h.elim
   ·rename_i α enc xs;obtain ⟨ys,hra,h⟩:=h;obtain ⟨⟨e0,e1,e2,e3,e5,e4⟩,h⟩:=h;refine ⟨_,_,h,fun o ho Keep M ρ a w hlm hm hκ hκM hgs=>?_⟩;replace hκ:=hκ _ (Nat.le_refl _) (Nat.lt_succ_self _);replace hκM:=hκM rfl;have hgs:=zY hb hgs;obtain ⟨v,vs',hvs,g,gr⟩:=hgs.cons_inv;obtain ⟨vx,vs'',hvs',gx,gn⟩:=gr.cons_inv;subst hvs';have hn:=gn.nil_inv;subst hn;obtain ⟨news,hsrc⟩:=kS hra hlm hm gx e3 e4;obtain ⟨cs,hr⟩:=zm (P:=P) (w:=w) ho hb hvs;obtain ⟨ad,hv,hd⟩:=g.full_inv;obtain ⟨olds,hold⟩:=zcY hd e3 e5;rw [hv] at hr hold
    have hb':(xs.length+ys.length)*f.bytes<=140737488355328:=by rw [h3];exact Int.ofNat_le.1 (by rw [Int.natCast_mul,Int.natCast_add];exact e1)
    obtain ⟨v',w',hrun,hown,q1,q2,q3,q4,q5,q6,q7⟩:=zc0 (ty:=o.type) hk h1 h4 hzs ad (h2 ▸ hold) (h2 ▸ hsrc) e0 (by unfold maxLen;omega) hb';refine zO.value (v:=v') (w':=w') (by rw [hr,htys];simp only [builtin,Sem.run_bind,hrun,Result.andThen_ok,Sem.run_pure]) ?_;refine zE.push (u:=v') (hm.grow (fun _ h=>h) hm.keys hκ hκM v' _ w' q1 q2 q3 q4 (fun b hb _=>q5 b hb) (fun k m v b g1 g2 g3=>q5 b (hm.old b ⟨k,m,v,g1,g2,g3⟩).1) ?_ ?_) (.own _ _ zn q7)
    ·intro b hb;obtain ⟨q6,q8⟩:=q6;rw [hb] at q6;cases q6
     exact ⟨.inr (Nat.le_refl _),q8,fun k m v1 g1 g2 g3=>by have:=(hm.old _ ⟨k,m,v1,g1,g2,g3⟩).1;omega⟩
    ·intro hs;refine ⟨v',olds++news,zn,by rw [← h2];simpa using hown,by simp;omega,fun u hu=>?_,fun x hx=>?_,fun p q y s' hy hs'=>?_⟩
     ·rcases List.mem_append.1 hu with hu | hu
      ·exact hold.2.1 u hu
      ·exact hsrc.2.1 u hu
     ·rcases List.mem_append.1 hx with hx | hx
      ·exact e5 x hx
      ·exact e4 x hx
     ·have hl:=hold.1;rw [List.getElem?_append] at hy
      split at hy
      ·obtain ⟨u,hu,hd⟩:=hold.2.2.1 p q y s' hy hs';refine ⟨u,?_,hd.stp hs⟩;have:p*j.sz+q < olds.length:=(List.getElem?_eq_some_iff.1 hu).1;rw [List.getElem?_append_left this];exact hu
      ·rename_i hge;obtain ⟨u,hu,hd⟩:=hsrc.2.2.1 (p - xs.length) q y s' hy hs';refine ⟨u,?_,hd.stp hs⟩;have hge:xs.length<=p:=oM;have hmul:p*j.sz=xs.length*j.sz+(p - xs.length)*j.sz:=by rw [← Nat.add_mul];congr 1;omega
       rw [List.getElem?_append_right (by rw [hl,hmul];omega),hl,hmul,show xs.length*j.sz+(p - xs.length)*j.sz+q - xs.length*j.sz=(p - xs.length)*j.sz+q by omega];exact hu
   ·rcases h with h | h | h
    ·obtain ⟨α,enc,ys,hra,h⟩:=h;obtain ⟨⟨e0,e1,e2,e3,e4⟩,h⟩:=h;refine ⟨_,_,h,fun o ho Keep M ρ a w hlm hm hκ hκM hgs=>?_⟩;replace hκ:=hκ _ (Nat.le_refl _) (Nat.lt_succ_self _);replace hκM:=hκM rfl;have hgs:=zY hb hgs;obtain ⟨v,vs',hvs,g,gr⟩:=hgs.cons_inv;obtain ⟨vx,vs'',hvs',gx,gn⟩:=gr.cons_inv;subst hvs';have hn:=gn.nil_inv;subst hn;obtain ⟨news,hsrc⟩:=kS hra hlm hm gx e3 e4;obtain ⟨cs,hr⟩:=zm (P:=P) (w:=w) ho hb hvs;obtain ⟨ad,hv⟩:=g.nils_inv;rw [hv] at hr
     have hb':ys.length*f.bytes<=140737488355328:=by rw [h3];omega
     obtain ⟨v',w',hrun,hown,q1,q2,q3,q4,q5,q6,q7⟩:=zcZ (ty:=o.type) hk h1 h4 hzs ad (h2 ▸ hsrc) e0 (by unfold maxLen;omega) hb';refine zO.value (v:=v') (w':=w') (by rw [hr,htys];simp only [builtin,Sem.run_bind,hrun,Result.andThen_ok,Sem.run_pure]) ?_;refine zE.push (u:=v') (hm.grow (fun _ h=>h) hm.keys hκ hκM v' _ w' q1 q2 q3 q4 (fun b hb _=>q5 b hb) (fun k m v b g1 g2 g3=>q5 b (hm.old b ⟨k,m,v,g1,g2,g3⟩).1) ?_ ?_) (.own _ _ zn q7)
     ·intro b hb;obtain ⟨q6,q8⟩:=q6;rw [hb] at q6;cases q6
      exact ⟨.inr (Nat.le_refl _),q8,fun k m v1 g1 g2 g3=>by have:=(hm.old _ ⟨k,m,v1,g1,g2,g3⟩).1;omega⟩
     ·intro hs;refine ⟨v',news,zn,by rw [← h2];exact hown,e2,hsrc.2.1,e4,fun p q y s' hy hs'=>?_⟩;obtain ⟨u,hu,hd⟩:=hsrc.2.2.1 p q y s' hy hs';exact ⟨u,hu,hd.stp hs⟩
    ·obtain ⟨α,enc,hra,e3,h⟩:=h;refine ⟨_,_,h,fun o ho Keep M ρ a w hlm hm _ _ hgs=>?_⟩;have hgs:=zY hb hgs;obtain ⟨v,vs',hvs,g,gr⟩:=hgs.cons_inv;obtain ⟨vx,vs'',hvs',gx,gn⟩:=gr.cons_inv;subst hvs';have hn:=gn.nil_inv;subst hn;obtain ⟨news,hl,_,_,hx⟩:=kS hra hlm hm gx e3 (fun x hx=>by cases hx);obtain ⟨cs,hr⟩:=zm (P:=P) (w:=w) ho hb hvs;obtain ⟨ad,hv⟩:=g.nils_inv;rw [hv] at hr
     have hrun:(Builtin.append_ #[t,t] o.type #[.slice ad 0 0,vx]).run P w=.ok (.slice ad 0 0) w:=by
      rcases hx with ⟨rfl,_⟩ | ⟨a',c',rfl,_⟩
      ·cases ad <;> simp [Builtin.append_,run_underlying hk,sizeOf,typeInfo,h1,Builtin.lenOf,Builtin.firstCells,storeCells]
      ·cases ad <;> simp [Builtin.append_,run_underlying hk,sizeOf,typeInfo,h1,Builtin.lenOf,Builtin.firstCells,storeCells,loadCells,loadCellsFrom]
     exact zO.value (v:=.slice ad 0 0) (w':=w) (by rw [hr,htys];simp only [builtin,Sem.run_bind,hrun,Result.andThen_ok,Sem.run_pure]) (zE.same hm (.d _ _ (.nils ad)))
    ·exact h.elim
   ·exact h.elim
  ·exact h.elim
 ·exact h.elim
theorem za6 {P:Program} {Γ:List (TypeId×TI)} (hT:TOK P Γ) {c:Call} {b:Builtin} (hb:c.callee=.builtin b) {svs:List SV} {lm:Nat->Option Mem} {κ:Nat} {K:SV->MD->Prop}
  (hlive:Live lm svs) (h:zae Γ b c.argTypes.toList svs lm κ K):∃r md,K r md/\kE P (.call c) svs lm κ r md:=by
 obtain ⟨Keep0,M0,ρ0,w0,vs0,hlm0,hm0,hg0⟩:=hlive;unfold zae at h
 split at h
 ·rename_i s
  split at h
  ·rename_i t htys;have htys:=vh htys;replace h:=zc h;obtain ⟨i,hi,h⟩:=h;have hk:=(hT t i hi).kind
   split at h
   ·rename_i e hkind;rw [hkind] at hk;have hk:P.underlying t=some (.slice e):=hk;unfold zhI at h
    split at h
    ·rename_i α enc xs;obtain ⟨v0,vs0',rfl,g0,_⟩:=hg0.cons_inv;refine ⟨_,_,h (zf1 g0).1,.pure fun o ho S Pm ρ a w hgs=>?_⟩;have hgs:=zY hb hgs;obtain ⟨v,vs',hvs,g,gr⟩:=hgs.cons_inv;obtain ⟨_,ad,cap,hv,_⟩:=zf1 g;obtain ⟨cs,hr⟩:=zm (P:=P) (w:=w) ho hb hvs;refine ⟨_,?_,(kg.val _).g⟩;rw [hr,gr.nil_inv,hv,htys];simp only [builtin,Sem.run_bind,yR hk w ad _ cap,Result.andThen_ok,Sem.run_pure]
    ·rename_i k
     split at h
     ·rename_i T α enc sz xs hlk;obtain ⟨v0,vs0',rfl,g0,_⟩:=hg0.cons_inv;refine ⟨_,_,h (zey hm0 (zg (hlm0 k _ hlk)) g0.own_inv.1).1,.read fun o ho Keep M ρ a w hlm hm hgs=>?_⟩;have hgs:=zY hb hgs;obtain ⟨v,vs',hvs,g,gr⟩:=hgs.cons_inv;obtain ⟨_,ad,cap,hv,_⟩:=zey hm (hlm k _ hlk) g.own_inv.1;obtain ⟨cs,hr⟩:=zm (P:=P) (w:=w) ho hb hvs;refine ⟨_,?_,(kg.val _).g⟩;rw [hr,gr.nil_inv,hv,htys];simp only [builtin,Sem.run_bind,yR hk w ad _ cap,Result.andThen_ok,Sem.run_pure]
     ·rename_i T sz xs hlk;obtain ⟨v0,vs0',rfl,g0,_⟩:=hg0.cons_inv;refine ⟨_,_,h (zcV hm0 (zg (hlm0 k _ hlk)) g0.own_inv.1).1,.read fun o ho Keep M ρ a w hlm hm hgs=>?_⟩;have hgs:=zY hb hgs;obtain ⟨v,vs',hvs,g,gr⟩:=hgs.cons_inv;obtain ⟨_,ad,cap,hv,_⟩:=zcV hm (hlm k _ hlk) g.own_inv.1;obtain ⟨cs,hr⟩:=zm (P:=P) (w:=w) ho hb hvs;refine ⟨_,?_,(kg.val _).g⟩;rw [hr,gr.nil_inv,hv,htys];simp only [builtin,Sem.run_bind,yR hk w ad _ cap,Result.andThen_ok,Sem.run_pure]
     ·exact h.elim
    ·refine ⟨_,_,h,.pure fun o ho S Pm ρ a w hgs=>?_⟩;have hgs:=zY hb hgs;obtain ⟨v,vs',hvs,g,gr⟩:=hgs.cons_inv;obtain ⟨cs,hr⟩:=zm (P:=P) (w:=w) ho hb hvs;refine ⟨_,?_,(kg.val _).g⟩;rw [hr,gr.nil_inv,g.val_inv,htys];simp only [builtin,Sem.run_bind,yR hk w none 0 0,Result.andThen_ok,Sem.run_pure];rfl
    ·refine ⟨_,_,h,.pure fun o ho S Pm ρ a w hgs=>?_⟩;have hgs:=zY hb hgs;obtain ⟨v,vs',hvs,g,gr⟩:=hgs.cons_inv;obtain ⟨cs,hr⟩:=zm (P:=P) (w:=w) ho hb hvs;obtain ⟨ad,hv⟩:=g.nils_inv;refine ⟨_,?_,(kg.val _).g⟩;rw [hr,gr.nil_inv,hv,htys];simp only [builtin,Sem.run_bind,yR hk w ad 0 0,Result.andThen_ok,Sem.run_pure];rfl
    ·rename_i k sz lo n;obtain ⟨h0,h⟩:=h;refine ⟨_,_,h,.pure fun o ho S Pm ρ a w hgs=>?_⟩;have hgs:=zY hb hgs;obtain ⟨v,vs',hvs,g,gr⟩:=hgs.cons_inv;obtain ⟨cs,hr⟩:=zm (P:=P) (w:=w) ho hb hvs;obtain ⟨b,len,cap,cap',_,hv,_⟩:=g.win_inv;refine ⟨_,?_,(kg.val _).g⟩;rw [hr,gr.nil_inv,hv,htys];simp only [builtin,Sem.run_bind,yR hk w (some ⟨b,lo.toNat*sz,none⟩) n.toNat cap',Result.andThen_ok,Sem.run_pure];rw [Int.toNat_of_nonneg h0]
    ·exact h.elim
   ·exact h.elim
  ·exact h.elim
 ·rename_i s
  split at h
  ·rename_i t htys;have htys:=vh htys;replace h:=zc h;obtain ⟨i,hi,h⟩:=h;have hk:=(hT t i hi).kind
   split at h
   ·rename_i e hkind;rw [hkind] at hk;have hk:P.underlying t=some (.slice e):=hk
    split at h
    ·refine ⟨_,_,h,.pure fun o ho S Pm ρ a w hgs=>?_⟩;have hgs:=zY hb hgs;obtain ⟨v,vs',hvs,g,gr⟩:=hgs.cons_inv;obtain ⟨cs,hr⟩:=zm (P:=P) (w:=w) ho hb hvs;refine ⟨_,?_,(kg.val _).g⟩;rw [hr,gr.nil_inv,g.val_inv,htys];simp only [builtin,Sem.run_bind,zex hk w none 0 0,Result.andThen_ok,Sem.run_pure];rfl
    ·refine ⟨_,_,h,.pure fun o ho S Pm ρ a w hgs=>?_⟩;have hgs:=zY hb hgs;obtain ⟨v,vs',hvs,g,gr⟩:=hgs.cons_inv;obtain ⟨cs,hr⟩:=zm (P:=P) (w:=w) ho hb hvs;obtain ⟨ad,hv⟩:=g.nils_inv;refine ⟨_,?_,(kg.val _).g⟩;rw [hr,gr.nil_inv,hv,htys];simp only [builtin,Sem.run_bind,zex hk w ad 0 0,Result.andThen_ok,Sem.run_pure];rfl
    ·exact h.elim
   ·exact h.elim
  ·exact h.elim
 ·rename_i s _;obtain ⟨k,x,r,hK,he⟩:=vi h;refine ⟨_,_,hK,.pure fun o ho S Pm ρ a w hgs=>?_⟩;have hgs:=zY hb hgs;obtain ⟨us,hvs,hl,hy⟩:=he hgs;obtain ⟨cs,hr⟩:=zm (P:=P) (w:=w) ho hb hvs;refine ⟨_,?_,(kg.val _).g⟩;rw [hr];simp only [builtin,Builtin.min_,Sem.run_bind,zcW r us x hl hy,Result.andThen_ok,Sem.run_pure]
 ·rename_i s _;obtain ⟨k,x,r,hK,he⟩:=vi h;refine ⟨_,_,hK,.pure fun o ho S Pm ρ a w hgs=>?_⟩;have hgs:=zY hb hgs;obtain ⟨us,hvs,hl,hy⟩:=he hgs;obtain ⟨cs,hr⟩:=zm (P:=P) (w:=w) ho hb hvs;refine ⟨_,?_,(kg.val _).g⟩;rw [hr];simp only [builtin,Builtin.max_,Sem.run_bind,zcX r us x hl hy,Result.andThen_ok,Sem.run_pure]
 ·rename_i s x
  split at h
  ·rename_i kx n;unfold zep at h
   split at h
   ·rename_i t t' htys;have htys:=yQ htys;replace h:=zc h;obtain ⟨i,hi,h⟩:=h;replace h:=zc h;obtain ⟨i',hi',h⟩:=h;have hk:=(hT t i hi).kind;have hk':=(hT t' i' hi').kind
    split at h
    ·rename_i e kn hkind hkind';rw [hkind] at hk;rw [hkind'] at hk';have hk:P.underlying t=some (.slice e):=hk;have hk':P.underlying t'=some (.int kn):=hk';replace h:=zc h;obtain ⟨j,hj,h⟩:=h;obtain ⟨f,h1,h2,h3,z,h4,h5,h6,h7,h8⟩:=(hT e j hj).inf;have hzl:z.cells=j.zero.toArray:=by rw [← h5]
     have hzs:z.cells.size=f.size:=by rw [h2,← h7,← h5];simp
     obtain ⟨α,enc,x0,hz,h⟩:=h;obtain ⟨e0,e1,e2,e3⟩:=h.ob;refine ⟨_,_,h.go,fun o ho Keep M ρ a w hlm hm hκ hκM hgs=>?_⟩;replace hκ:=hκ _ (Nat.le_refl _) (Nat.lt_succ_self _);replace hκM:=hκM rfl;have hgs:=zY hb hgs;obtain ⟨v,vs',hvs,g,gr⟩:=hgs.cons_inv;obtain ⟨vx,vs'',hvs',gx,gn⟩:=gr.cons_inv;subst hvs';have hn:=gn.nil_inv;subst hn;obtain ⟨cs,hr⟩:=zm (P:=P) (w:=w) ho hb hvs;rw [g.val_inv,gx.val_inv] at hr;obtain ⟨N,hN⟩:∃N:Nat,n=N:=⟨n.toNat,oM⟩;subst hN
     have hbytes:N*f.bytes<=140737488355328:=by rw [h3];exact Int.ofNat_le.1 (by rw [Int.natCast_mul];exact e2)
     have hrun:=Lib.run_append_nil_zeros (P:=P) w t t' o.type e f z kx kn hk hk' h1 h4 N oM oM oM oM;refine zO.value (by rw [hr,htys];simp only [builtin,Sem.run_bind,hrun,Result.andThen_ok,Sem.run_pure];rfl) ?_;have hge:=grownCap_ge w N 0 e
     have hmg:∀q,(Builtin.zeroCells z.cells N).toList[q]? =if q < N*j.sz then j.zero[q % j.sz]? else none:=fun q=>by
      have:=uz j.zero N q;rw [h7] at this;rw [← this,hzl];unfold madeCells Builtin.zeroCells;simp [h7]
     refine zE.push (u:=.slice (some ⟨w.heap.size,0,none⟩) N (grownCap w N 0 e)) (hm.grow (fun _ h=>h) hm.keys hκ hκM _ _ _ rfl rfl (.cells w.drew _ _) (by simp) (fun b hb _=>heap_alloc_old w.drew _ b hb)
      (fun k m v b g1 g2 g3=>heap_alloc_old w.drew _ b (hm.old b ⟨k,m,v,g1,g2,g3⟩).1) ?_ ?_) (.own _ _ zn rfl)
     ·intro b hb;have hb:b=w.heap.size:=by simp [zM] at hb;exact hb.symm
      subst hb;exact ⟨.inr (Nat.le_refl _),by simp,fun k m v1 g1 g2 g3=>by have:=(hm.old _ ⟨k,m,v1,g1,g2,g3⟩).1;omega⟩
     ·intro hs
      refine ⟨_,(Builtin.zeroCells z.cells N).toList,zn,⟨by rw [Array.length_toList,size_zeroCells,hzs,h2,List.length_replicate,Int.toNat_natCast],.inr ⟨w.heap.size,grownCap w N 0 e,_,by rw [List.length_replicate,Int.toNat_natCast],Nat.zero_le _,heap_alloc_new w.drew _,by simpa using hge,grownCap_le_maxLen w _ 0 e (by unfold maxLen;omega),?_,?_⟩⟩,by simp;omega,
       fun u hu=>?_,fun x hx=>by rw [List.eq_of_mem_replicate hx,hz];simp [vals,h7],fun p q x s hx hs'=>?_⟩
      ·simp only [Array.size_append,size_zeroCells,hzs,h2,← Nat.add_mul];congr 1;omega
      ·simp only [Array.toList_append,List.length_replicate,Int.toNat_natCast];rw [List.take_append_of_le_length (by simp [size_zeroCells,hzs,h2])];exact List.take_of_length_le (by simp [size_zeroCells,hzs,h2])
      ·obtain ⟨q,hq,rfl⟩:=List.mem_iff_getElem.1 hu;have:=hmg q;rw [List.getElem?_eq_getElem hq] at this
       split at this
       ·exact h8 _ (List.mem_of_getElem? this.symm)
       ·cases this
      ·have hxm:=List.eq_of_mem_replicate (List.mem_of_getElem? hx);subst hxm;have hp:p < N:=by simpa using (List.getElem?_eq_some_iff.1 hx).1
       have hqj:q < j.sz:=by
        have:=(List.getElem?_eq_some_iff.1 hs').1;rw [hz] at this;simpa [vals,h7] using this
       have h9:p*j.sz+j.sz<=N*j.sz:=by
        have:=Nat.mul_le_mul_right j.sz (show p+1<=N by omega);rw [Nat.succ_mul] at this;exact this
       have hmod:(p*j.sz+q) % j.sz=q:=by rw [Nat.mul_comm,Nat.mul_add_mod];exact Nat.mod_eq_of_lt hqj
       rw [hmg,if_pos oM,hmod];rw [hz] at hs';simp only [vals,List.getElem?_map] at hs'
       cases hu:j.zero[q]? with
       | none=>simp [hu] at hs'
       | some u=>
        simp [hu] at hs';subst hs';exact ⟨u,rfl,.val u⟩
    ·exact h.elim
   ·exact h.elim
  ·rename_i k'
   split at h
   ·rename_i hlk';exact za5 hT hb hlk' h
   ·exact uA hT hb h
  ·exact uA hT hb h
 ·rename_i d x
  split at h
  ·rename_i t t' htys;have htys:=yQ htys;replace h:=zc h;obtain ⟨i,hi,h⟩:=h;have hk:=(hT t i hi).kind
   split at h
   ·rename_i e hkind;rw [hkind] at hk;have hk:P.underlying t=some (.slice e):=hk;replace h:=zc h;obtain ⟨j,hj,h⟩:=h;obtain ⟨f,h1,h2,h3,z,h4,h5,h6,h7,h8⟩:=(hT e j hj).inf
    split at h
    ·rename_i k
     split at h
     ·rename_i T α enc sz xs hlk;replace h:=zb h;obtain ⟨hss,h⟩:=h;have hss:=Nat.eq_of_beq_eq_true hss;unfold uv at h;obtain ⟨ys,hra,h⟩:=h;obtain ⟨e1,e2,e3,e4,e5⟩:=h.ob;refine ⟨_,_,h.go,fun o ho Keep M ρ a w hlm hm _ _ hgs=>?_⟩;have hmem:=zg (hlm k _ hlk);have hgs:=zY hb hgs;obtain ⟨v,vs',hvs,g,gr⟩:=hgs.cons_inv;obtain ⟨vx,vs'',hvs',gx,gn⟩:=gr.cons_inv;subst hvs';have hn:=gn.nil_inv;subst hn;obtain ⟨news,hsrc⟩:=kS hra hlm hm gx e1 e5;obtain ⟨cs,hr⟩:=zm (P:=P) (w:=w) ho hb hvs;obtain ⟨hv,_⟩:=g.own_inv
      obtain ⟨v0,cells,hρ,hown,hnl,_⟩:=hm.rel k _ hmem;rw [hv] at hρ;cases hρ
      rcases hown.2 with ⟨rfl,hx0⟩ | ⟨g',cap,cur,rfl,_⟩
      ·have hx0:xs=[]:=List.eq_nil_of_length_eq_zero hx0;subst hx0
       have hrun:(Builtin.copy_ #[t,t'] o.type #[.slice none 0 0,vx]).run P w=.ok (.int .i64 0) w:=by
        rcases hsrc.2.2.2 with ⟨rfl,_⟩ | ⟨a',c',rfl,_⟩
        ·simp [Builtin.copy_,run_underlying hk,sizeOf,typeInfo,h1,Builtin.lenOf,Builtin.firstCells,goInt]
        ·simp [Builtin.copy_,run_underlying hk,sizeOf,typeInfo,h1,Builtin.lenOf,Builtin.firstCells,goInt,loadCells,loadCellsFrom]
       refine zO.value (v:=.int .i64 0) (w':=w) (by rw [hr,htys];simp only [builtin,Sem.run_bind,hrun,Result.andThen_ok,Sem.run_pure]) ?_;have hsame:=zbs (hlm k _ hlk);have e0:(Mem.arr T enc sz (List.take (Int.toNat 0) ([]:List α)++(List.take (Int.toNat (([]:List α).length:Int)) ys++List.drop (Int.toNat 0+min ys.length (Int.toNat (([]:List α).length:Int))) [])))=Mem.arr T enc sz []:=by simp
       rw [e0];refine ⟨ρ,?_,?_,?_,fun _ _=>rfl⟩
       ·show Stp (Own M ρ) (Own (zJ M k _) ρ) ρ ρ w w;rw [hsame];exact .refl
       ·show zj Keep (zJ M k _) ρ w;rw [hsame];exact hm
       ·exact .d _ _ (by simpa using D.val (S:=fun b=>Keep b∨Own (jO M κ (.set k (.arr T enc sz []))) ρ b) (w:=w) (.int .i64 0))
      ·exact zc1 (t':=t') (cap':=cap) hk h1 hm hmem (h2.trans hss.symm) hv (lo:=0) (n:=xs.length) oM hsrc e5 (fun v w' hx=>by
        rw [Nat.zero_mul] at hx
        rw [hr,htys];simp only [builtin,Sem.run_bind,hx,Result.andThen_ok,Sem.run_pure])
     ·exact h.elim
    ·rename_i k sz' lo n
     split at h
     ·rename_i T α enc sz xs hlk;replace h:=zb h;obtain ⟨hss,h⟩:=h;have hss:=Nat.eq_of_beq_eq_true hss;replace h:=zb h;obtain ⟨hss',h⟩:=h;have hss':=Nat.eq_of_beq_eq_true hss';subst hss';unfold uv at h;obtain ⟨ys,hra,h⟩:=h;obtain ⟨e1,e2,e3,e4,e5⟩:=h.ob;refine ⟨_,_,h.go,fun o ho Keep M ρ a w hlm hm _ _ hgs=>?_⟩;have hmem:=zg (hlm k _ hlk);have hgs:=zY hb hgs;obtain ⟨v,vs',hvs,g,gr⟩:=hgs.cons_inv;obtain ⟨vx,vs'',hvs',gx,gn⟩:=gr.cons_inv;subst hvs';have hn:=gn.nil_inv;subst hn;obtain ⟨news,hsrc⟩:=kS hra hlm hm gx e1 e5
      obtain ⟨cs,hr⟩:=zm (P:=P) (w:=w) ho hb hvs;obtain ⟨b,len,cap,cap',hρ,rfl,_,_⟩:=g.win_inv
      exact zc1 (t':=t') (cap':=cap') hk h1 hm hmem (h2.trans hss.symm) hρ oM hsrc e5 (fun v w' hx=>by
       rw [hr,htys];simp only [builtin,Sem.run_bind,hx,Result.andThen_ok,Sem.run_pure])
     ·exact h.elim
    ·exact h.elim
   ·exact h.elim
  ·exact h.elim
 ·rename_i d
  split at h
  ·rename_i t htys;have htys:=vh htys;replace h:=zc h;obtain ⟨i,hi,h⟩:=h;have hk:=(hT t i hi).kind
   split at h
   ·rename_i e hkind;rw [hkind] at hk;have hk:P.underlying t=some (.slice e):=hk;replace h:=zc h;obtain ⟨j,hj,h⟩:=h;obtain ⟨f,h1,h2,h3,z,h4,h5,h6,h7,h8⟩:=(hT e j hj).inf
    split at h
    ·rename_i k sz' lo n
     split at h
     ·rename_i T α enc sz xs hlk;replace h:=zb h;obtain ⟨hss,h⟩:=h;have hss:=Nat.eq_of_beq_eq_true hss;replace h:=zb h;obtain ⟨hss',h⟩:=h;have hss':=Nat.eq_of_beq_eq_true hss';subst hss';obtain ⟨x0,hx0,h⟩:=h;obtain ⟨e1,e2,e3⟩:=h.ob;refine ⟨_,_,h.go,fun o ho Keep M ρ a w hlm hm _ _ hgs=>?_⟩;have hmem:=zg (hlm k _ hlk);have hgs:=zY hb hgs;obtain ⟨v,vs',hvs,g,gr⟩:=hgs.cons_inv;have hn:=gr.nil_inv;subst hn;obtain ⟨cs,hr⟩:=zm (P:=P) (w:=w) ho hb hvs;obtain ⟨b,len,cap,cap',hρ,rfl,_,_⟩:=g.win_inv
      exact zfg (cap':=cap') hk h4 h1 h5 (by rw [h7,h2]) h8 hm hmem (h2.trans hss.symm) oM hρ oM hx0 (fun v w' hx=>by
       rw [hr,htys];simp only [builtin,Sem.run_bind,hx,Result.andThen_ok,Sem.run_pure])
     ·exact h.elim
    ·exact h.elim
   ·exact h.elim
  ·exact h.elim
 ·exact h.elim
end Go.Gs
