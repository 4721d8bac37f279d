/- The builtins len, min, max and append. -/
import Derived.Test.YtdkomlilfdbahaaGreatDoorMAE
import Derived.Lib.AppendZeros
set_option maxRecDepth 100000
set_option maxHeartbeats 80000000
set_option linter.all false
namespace Go.Gs
def Live(lm:LJ)(svs:LR):Prop:=∃(Keep:LI) (M:LT) (Z:zh) (w:World) (vs:LA),
 (∀k m,lm k=some m->zO M k=some m)/\zI Keep M Z w/\Gs (λb=>Keep b∨Own M Z b) (Own M Z) Z w svs vs
def ju{P:Program}{o:Oper}{c:Call}{b:Builtin}(j:o.op=.call c)(i:c.callee=.builtin b){a:Act}{w:World}{vs:LA}(k:c.args.toList.map a.eval=vs):
  ∃f,(execOp a.eval o).run P w=(builtin b c.argTypes o.type f vs.toArray).run P w:=by
 have h:c.args.map a.eval=vs.toArray:=by apply Q1;simp[k]
 have g:∃f,(do let d ←resolve a.eval c o.type;invoke d.target d.args:Sem Next)=builtin b c.argTypes o.type f (c.args.map a.eval):=by
  unfold resolve;rw[i];exact⟨_,rfl⟩
 obtain⟨f,g⟩:=g;refine⟨f,?_⟩;simp only[execOp,j];rw[g,h]
variable{c:Call}{b:Builtin}{S:LI}{Pm:LI}{Z:zh}{svs:LR}
def vD(d:c.callee=.builtin b){a:Act}{w:World}(h:Gs S Pm Z w svs ((qm (.call c)).map a.eval)):
  Gs S Pm Z w svs (c.args.toList.map a.eval):=by simpa[qm,d,zeZ] using h
variable{tys:Array TypeId}
def zir{t:TypeId}(h:tys.toList=[t]):tys=#[t]:=by apply Q1;simpa using h
def zis{t u:TypeId}(h:tys.toList=[t,u]):tys=#[t,u]:=by apply Q1;simpa using h
variable{P:Program}{e:TypeId}{ty:TypeId}
def zDA{t:TypeId}(ht:P.underlying t=some (.slice e))(w:World)(a:Option Addr)(n c:Nat):(Builtin.len_ #[t] ty #[.slice a n c]).run P w=.ok (.int .i64 n) w:=by
 simp[Builtin.len_,run_underlying ht,goInt]
def zDB{t:TypeId}(ht:P.underlying t=some (.slice e))(w:World)(a:Option Addr)(n c:Nat):(Builtin.cap_ #[t] ty #[.slice a n c]).run P w=.ok (.int .i64 c) w:=by
 simp[Builtin.cap_,run_underlying ht,goInt]
variable{α:Type}{xs:List α}
def zzF{w:World}{enc:α->LR}{v:Value}(h:G S Pm Z w (.sl enc xs) v):
  xs.length<=9223372036854775807/\∃a cap,v=.slice a xs.length cap/\xs.length<=cap:=by
 obtain⟨rfl,a,rfl⟩|⟨_,b,o,cap,_,rfl,_,_,d,f,_⟩:=h.sl_inv.sl_inv
 .exact⟨sI,a,0,rfl,sI⟩
 exact⟨d,_,cap,rfl,f⟩
variable{Keep:LI}{M:LT}{sz:Nat}
def zvp{w:World}(o:zI Keep M Z w){k:Nat}{T:TypeId}{enc:α->LR}(n:(k,Mem.arr T enc sz xs)∈M){v:Value}(p:Z k=some v):xs.length<=281474976710656/\∃a cap,v=.slice a xs.length cap/\xs.length<=cap:=by
 obtain⟨q,cells,h,f,d,_⟩:=o.rel k _ n;rw[p]at h;cases h
 obtain⟨rfl,i⟩|⟨g,cap,l,rfl,_,_,j,_⟩:=f.2
 .have i:xs.length=0:=i;exact⟨d,none,0,by rw[i],oM⟩
 exact⟨d,_,cap,rfl,j⟩
def zq6{w:World}(o:zI Keep M Z w){k:Nat}{T:TypeId}{xs:LN}(n:(k,Mem.garr T sz xs)∈M){v:Value}(p:Z k=some v):xs.length<=281474976710656/\∃a cap,v=.slice a xs.length cap/\xs.length<=cap:=by
 obtain⟨q,cells,h,f,d,_⟩:=o.rel k _ n;rw[p]at h;cases h
 obtain⟨rfl,i⟩|⟨g,cap,l,rfl,_,_,j,_⟩:=f.2
 .have i:xs.length=0:=i;exact⟨d,none,0,by rw[i],oM⟩
 exact⟨d,_,cap,rfl,j⟩
def zit:∀{s:LR} {K:IntKind->LV->Prop},zm4 s K->∃(k:IntKind) (x:Int) (r:LV),K k (x::r)/\
  ∀{S Pm:LI} {Z:zh} {w:World} {vs:LA},Gs S Pm Z w s vs->∃us:LA,vs=.int k x::us/\us.length=r.length/\∀(j:Nat) (y:Int),r[j]?=some y->∃u,us[j]?=some (.int u y)
 |[],K,h=>by simp[zm4]at h
 |s::r,K,h=>by
  unfold zm4 at h
  split at h
  .rename_i k m A f
   cases f
   split at h
   .refine⟨k,m,[],h,λg=>?_⟩;obtain⟨v,o,rfl,a,d⟩:=g.cons_inv;exact⟨[],by rw[a.val_inv,d.nil_inv],rfl,λj y n=>by simp at n⟩
   obtain⟨p,q,z,hK,i⟩:=zit h;refine⟨k,m,q::z,hK,λg=>?_⟩;obtain⟨v,o,rfl,a,d⟩:=g.cons_inv;obtain⟨us,rfl,t,n⟩:=i d;refine⟨.int p q::us,by rw[a.val_inv],by simp[t],λj y l=>?_⟩
   cases j with
   |zero=>simp at l;subst l;exact⟨p,rfl⟩
   |succ j=>simpa using n j y (by simpa using l)
  exact h.elim
def zq7{P:Program}{w:World}{k:IntKind}:∀(r:LV) (us:LA) (x:Int),us.length=r.length->(∀(j:Nat) (y:Int),r[j]?=some y->∃g,us[j]?=some (.int g y))->
  (us.foldlM Builtin.min2 (.int k x)).run P w=.ok (.int k (zcf x r)) w
 |[],us,x,a,_=>by
  have:us=[]:=Xq a;subst this;simp[zcf]
 |y::r,us,x,a,f=>by
  cases us with
  |nil=>simp at a
  |cons u us=>
   obtain⟨g,d⟩:=f 0 y rfl;simp at d;subst d;have hmin:(if y<x then y else x)=min x y:=oM;simp only[List.foldlM_cons,Builtin.min2,Sem.run_bind,Sem.run_pure,Result.andThen_ok,hmin,zcf];exact zq7 r us (min x y) (by simpa using a) (λj z h=>by simpa using f (j+1) z (by simpa using h))
def zq8{P:Program}{w:World}{k:IntKind}:∀(r:LV) (us:LA) (x:Int),us.length=r.length->(∀(j:Nat) (y:Int),r[j]?=some y->∃g,us[j]?=some (.int g y))->
  (us.foldlM Builtin.max2 (.int k x)).run P w=.ok (.int k (zdN x r)) w
 |[],us,x,a,_=>by
  have:us=[]:=Xq a;subst this;simp[zdN]
 |y::r,us,x,a,f=>by
  cases us with
  |nil=>simp at a
  |cons u us=>
   obtain⟨g,d⟩:=f 0 y rfl;simp at d;subst d;have hmax:(if y > x then y else x)=max x y:=oM;simp only[List.foldlM_cons,Builtin.max2,Sem.run_bind,Sem.run_pure,Result.andThen_ok,hmax,zdN];exact zq8 r us (max x y) (by simpa using a) (λj z h=>by simpa using f (j+1) z (by simpa using h))
def Src(S:LI)(w:World)(enc:α->LR)(sz:Nat)(ys:List α)(v:Value)(news:LA):Prop:=
 news.length=ys.length*sz/\(∀u∈news,u.oneCell'=true)/\
 (∀(i j:Nat) y (s:SV),ys[i]?=some y->(enc y)[j]?=some s->∃u,news[i*sz+j]?=some u/\D S w s u)/\
 ((v=.slice none 0 0/\ys=[])∨∃a c,v=.slice (some a) ys.length c/\∀(j:Nat) (u:Value),news[j]?=some u->w.cell? (a.add j)=some u)
variable{ys:List α}
def zq9{w:World}{enc:α->LR}{v:Value}(R:D S w (.sl enc ys) v)(t:0<sz)(n:∀x∈ys,(enc x).length=sz):
  ∃news,Src S w enc sz ys v news:=by
 obtain⟨rfl,a,rfl⟩|⟨p,b,o,cap,c,rfl,V,hS,J,G,k,F,T⟩:=R.sl_inv
 .cases a with
  |none=>exact⟨[],sI,sI,λi j y s h=>by simp at h,.inl ⟨rfl,rfl⟩⟩
  |some a=>exact⟨[],sI,sI,λi j y s h=>by simp at h,.inr ⟨a,0,rfl,λj u g=>by simp at g⟩⟩
 have U:ys≠[]->p=sz:=λC=>by
  obtain⟨x,L⟩:=Jd ys C;rw[←k x L,←n x L]
 have r:∀q,q<ys.length*sz->q/sz<ys.length/\q%sz<sz/\p=sz/\q/sz*sz+q%sz=q:=λq r=>by
  have f:q/sz<ys.length:=(X3 t).2 r;refine⟨f,Kq _ t,U (λe=>by rw[e]at f;simp at f),?_⟩;rw[KD];exact Kh q sz
 refine⟨(List.range (ys.length*sz)).map λq=>c (q/sz) (q%sz),sI,?_,?_,.inr ⟨_,cap,rfl,?_⟩⟩
 .intro u g;obtain⟨q,d,rfl⟩:=XK.1 g;obtain⟨f,z,A,_⟩:=r q (XV.1 d);exact(F _ _ f (A ▸ z)).2
 .intro i j y s E l;have hi:i<ys.length:=(Xd.1 E).1
  have H:j<sz:=by
   have:=(Xd.1 l).1;rw[n y (Xf E)]at this;exact this
  have B:i*sz+j<ys.length*sz:=by
   have:=Xy sz (X1 hi);rw[Ka]at this;omega
  have N:(i*sz+j)/sz=i:=by rw[KD,QJ t];simp[Kr H]
  have O:(i*sz+j)%sz=j:=by rw[KD,QK];exact XB H
  refine⟨c i j,by simp[B,N,O],T i j y s E l⟩
 intro q u g;have d:q<ys.length*sz:=by have:=(Xd.1 g).1;simpa using this
 obtain⟨f,z,A,Q⟩:=r q d;simp[d]at g;subst g;subst A;rw[yg];have:=(F _ _ f z).1;rw[KL,Q]at this;exact this
variable{lm:LJ}
def v9{s:SV}{enc:α->LR}(h:zdV lm s enc ys){w:World}(z:∀k m,lm k=some m->zO M k=some m)(N:zI Keep M Z w){v:Value}(r:G (λb=>Keep b∨Own M Z b) (Own M Z) Z w s v)(F:0<sz)(p:∀x∈ys,(enc x).length=sz):∃news,Src (λb=>Keep b∨Own M Z b) w enc sz ys v news:=by
 unfold zdV at h
 split at h
 .subst h;rw[r.val_inv];exact⟨[],sI,sI,λi j y s h=>by simp at h,.inl ⟨rfl,rfl⟩⟩
 .rename_i k;simp only[zjr]at h
  split at h
  .rename_i T β enc' B xs t
   cases h
   obtain⟨Q,_⟩:=r.own_inv;obtain⟨R,cells,q,d,C,o,l,a⟩:=N.rel k _ (zu (z k _ t));rw[Q]at q;cases q
   obtain⟨rfl,L⟩|⟨g,cap,E,rfl,_,f,O,H,J,htake⟩:=d.2
   .have:ys=[]:=Xq L;subst this;exact⟨[],sI,sI,λi j y s h=>by simp at h,.inl ⟨rfl,rfl⟩⟩
   by_cases n:ys=[]
   .subst n;exact⟨[],sI,sI,λi j y s h=>by simp at h,.inr ⟨_,cap,rfl,λj u A=>by simp at A⟩⟩
   obtain⟨x,D⟩:=Jd ys n;have:B=sz:=by rw[←l x D,←p x D]
   subst this;exact⟨cells,d.1,o,a,.inr ⟨_,cap,rfl,λj u A=>by rw[yg,Kb];exact zbq f htake A⟩⟩
  cases h
 subst h;exact zq9 r.sl_inv F p
def zbr{P:Program}{t ty e:TypeId}{f:TypeInfo}{z:Value}(ht:P.underlying t=some (.slice e))(hi:P.info? e=some f)(L:f.zero=some z)(J:z.cells.size=f.size){w:World}{v:Value}{n:Nat}{cells:LA}(d:w.ownsRow 0 e f.size v n cells){S:LI}{α:Type}{enc:α->LR}{ys:List α}{vx:Value}{news:LA}(O:Src S w enc f.size ys vx news)(q:n+ys.length<=maxLen)(hbytes:(n+ys.length)*f.bytes<=140737488355328):
  ∃D w',(Builtin.append_ #[t,t] ty #[v,vx]).run P w=.ok D w'/\w'.ownsRow 0 e f.size D (n+ys.length) (cells++news)/\w'.os=w.os/\w'.tape=w.tape/\kU w w'/\w.heap.size<=w'.heap.size/\
   (∀b,b<w.heap.size->qi v≠some b->w'.heap[b]?=w.heap[b]?)/\(qi D=qi v∨(qi D=some w.heap.size/\w.heap.size<w'.heap.size))/\D.oneCell'=true:=by
 obtain⟨l,B,_,R⟩:=O;have h63':(n+ys.length:Int)<=9223372036854775807:=by unfold maxLen at q;omega
 have made:∀(old:Nat),old<n+ys.length->(w.drew.alloc (.cells (cells.toArray++news.toArray++Builtin.zeroCells z.cells (grownCap w (n+ys.length) old e-(n+ys.length))) e)).ownsRow 0 e f.size
    (.slice (some ⟨w.heap.size,0,none⟩) (n+ys.length) (grownCap w (n+ys.length) old e)) (n+ys.length) (cells++news):=by
  intro old _;have E:=grownCap_ge w (n+ys.length) old e;have k:=d.1;refine⟨by rw[Xr,k,l,Kd],.inr ⟨w.heap.size,_,_,rfl,Xh _,heap_alloc_new w.drew _,E,grownCap_le_maxLen w _ old e q,?_,?_⟩⟩
  .simp only[Js,KY,size_zeroCells,J,k,l,←Kd];congr 1;omega
  simp only[Jf];rw[KO (by simp[k,l,Kd])];exact Xi (by simp[k,l,Kd])
 obtain⟨rfl,rfl⟩|⟨a,c,rfl,h⟩:=R
 .have F:news=[]:=Xq (by simpa using l);subst F
  obtain⟨rfl,N⟩|⟨g,cap,o,rfl,_,i,A,s,x,htake⟩:=d.2
  .refine⟨.slice none 0 0,w,?_,?_,rfl,rfl,.refl _,Xj _,λ_ _ _=>rfl,.inl rfl,rfl⟩
   .simp[Builtin.append_,run_underlying ht,sizeOf,typeInfo,hi,Builtin.lenOf,Builtin.firstCells]
   subst N;have p:cells=[]:=Xq (by simpa using d.1);subst p;exact World.ownsRow_nil w 0 e f.size
  refine⟨.slice (some ⟨g,0,none⟩) n cap,w,?_,?_,rfl,rfl,.refl _,Xj _,λ_ _ _=>rfl,.inl rfl,rfl⟩
  .simp[Builtin.append_,run_underlying ht,sizeOf,typeInfo,hi,Builtin.lenOf,Builtin.firstCells,A,storeCells]
  simpa using d
 obtain⟨rfl,rfl⟩|⟨g,cap,o,rfl,_,i,A,s,x,htake⟩:=d.2
 .have p:cells=[]:=Xq (by simpa using d.1);subst p
  by_cases H:ys.length=0
  .have F:news=[]:=Xq (by simpa[H] using l);subst F;refine⟨.slice none 0 0,w,?_,?_,rfl,rfl,.refl _,Xj _,λ_ _ _=>rfl,.inl rfl,rfl⟩
   .simp[Builtin.append_,run_underlying ht,sizeOf,typeInfo,hi,Builtin.lenOf,Builtin.firstCells,H,loadCells,loadCellsFrom]
   rw[H];exact World.ownsRow_nil w 0 e f.size
  have C:=run_append_nil (P:=P) w t ty e f z ht hi L a ys.length c news l h oM (by simpa using h63') (by have r:=hbytes;simp only[Kb]at r;omega);have y:=made 0 oM;simp only[Kb,QI,Array.empty_append]at y ⊢;exact⟨_,_,C,y,rfl,rfl,.cells w.drew _ _,sI,λb r _=>heap_alloc_old w.drew _ b r,.inr ⟨rfl,sI⟩,rfl⟩
 have k:=d.1
 by_cases hroom:n+ys.length<=cap
 .have hfit:n*f.size+news.length<=o.size:=by rw[l,x,←Kd];exact Xy _ hroom
  have C:=run_append_room (P:=P) w t ty e f ht hi g n cap o i a ys.length c news l h B hroom hfit
  refine⟨_,_,C,⟨by rw[Xr,k,l,Kd],.inr ⟨g,cap,_,rfl,Xh _,setRow_heap w g o _ e _ i,hroom,s,?_,?_⟩⟩,rfl,rfl,.setRow _ _ _,sI,
   λb _ G=>setRow_other w g b _ (λe=>G (by simp[qi,e])),.inl rfl,rfl⟩
  .simp only[KY,Xr,Xp,KG,Qy];omega
  rw[htake,Kd,←l,←k];rw[KO sI];exact Xi sI
 have holds:∀(j:Nat) (u:Value),cells[j]?=some u->w.cell? ((⟨g,0,none⟩:Addr).add j)=some u:=λj u Q=>by rw[yg,Kb];exact zbq i htake Q
 have C:=run_append_grow (P:=P) w t ty e f z ht hi L ⟨g,0,none⟩ n cap cells k holds a ys.length c news l h oM (by push_cast;exact h63') (growslice_fits oM hbytes);exact⟨_,_,C,made cap oM,rfl,rfl,.cells w.drew _ _,sI,λb r _=>heap_alloc_old w.drew _ b r,.inr ⟨rfl,sI⟩,rfl⟩
def zra{P:Program}{t ty e:TypeId}{f:TypeInfo}{z:Value}(ht:P.underlying t=some (.slice e))(hi:P.info? e=some f)(s:f.zero=some z)(q:z.cells.size=f.size){w:World}(ad:Option Addr){S:LI}{α:Type}{enc:α->LR}{ys:List α}{vx:Value}{news:LA}(v:Src S w enc f.size ys vx news)(k:ys≠[])(i:ys.length<=maxLen)(hbytes:ys.length*f.bytes<=140737488355328):
  ∃n w',(Builtin.append_ #[t,t] ty #[.slice ad 0 0,vx]).run P w=.ok n w'/\w'.ownsRow 0 e f.size n ys.length news/\w'.os=w.os/\w'.tape=w.tape/\kU w w'/\w.heap.size<=w'.heap.size/\
   (∀b,b<w.heap.size->w'.heap[b]?=w.heap[b]?)/\(qi n=some w.heap.size/\w.heap.size<w'.heap.size)/\n.oneCell'=true:=by
 obtain⟨h,r,_,y⟩:=v;have h63':(ys.length:Int)<=9223372036854775807:=by unfold maxLen at i;omega
 have hpos:0<ys.length:=JW.2 k
 have made:(w.drew.alloc (.cells (news.toArray++Builtin.zeroCells z.cells (grownCap w ys.length 0 e-ys.length)) e)).ownsRow 0 e f.size
    (.slice (some ⟨w.heap.size,0,none⟩) ys.length (grownCap w ys.length 0 e)) ys.length news:=by
  have p:=grownCap_ge w ys.length 0 e;refine⟨h,.inr ⟨w.heap.size,_,_,rfl,Xh _,heap_alloc_new w.drew _,p,grownCap_le_maxLen w _ 0 e i,?_,?_⟩⟩
  .simp only[Js,KY,size_zeroCells,q,h,←Kd];congr 1;omega
  simp only[Jf];rw[KO (by simp[h])];exact Xi (by simp[h])
 obtain⟨_,rfl⟩|⟨a,c,rfl,d⟩:=y
 .exact absurd rfl k
 cases ad with
 |none=>
  have l:=run_append_nil (P:=P) w t ty e f z ht hi s a ys.length c news h d oM h63' oM;exact⟨_,_,l,made,rfl,rfl,.cells w.drew _ _,sI,λb o=>heap_alloc_old w.drew _ b o,⟨rfl,sI⟩,rfl⟩
 |some g=>
  have l:=run_append_grow (P:=P) w t ty e f z ht hi s g 0 0 [] sI (λj u x=>by simp at x) a ys.length c news h d oM (by simpa using h63') (growslice_fits oM (by simpa using hbytes));simp only[Kb,Array.empty_append]at l;exact⟨_,_,l,made,rfl,rfl,.cells w.drew _ _,sI,λb o=>heap_alloc_old w.drew _ b o,⟨rfl,sI⟩,rfl⟩
def zrb{P:Program}{t ty e:TypeId}{f:TypeInfo}{z:Value}(ht:P.underlying t=some (.slice e))(hi:P.info? e=some f)(C:f.zero=some z)(A:z.cells.size=f.size){w:World}(ad:Option Addr){S:LI}{α:Type}{enc:α->LR}{xs ys:List α}{vx:Value}{olds news:LA}(E:Src S w enc f.size xs (.slice ad xs.length xs.length) olds)(F:Src S w enc f.size ys vx news)(o:ys≠[])(n:xs.length+ys.length<=maxLen)(hbytes:(xs.length+ys.length)*f.bytes<=140737488355328):
  ∃q w',(Builtin.append_ #[t,t] ty #[.slice ad xs.length xs.length,vx]).run P w=.ok q w'/\w'.ownsRow 0 e f.size q (xs.length+ys.length) (olds++news)/\w'.os=w.os/\w'.tape=w.tape/\kU w w'/\w.heap.size<=w'.heap.size/\
   (∀b,b<w.heap.size->w'.heap[b]?=w.heap[b]?)/\(qi q=some w.heap.size/\w.heap.size<w'.heap.size)/\q.oneCell'=true:=by
 obtain⟨l,B,_,G⟩:=F;obtain⟨i,_,_,p⟩:=E;have h63':(xs.length+ys.length:Int)<=9223372036854775807:=by unfold maxLen at n;omega
 have hpos:0<ys.length:=JW.2 o
 have made:∀old:Nat,(w.drew.alloc (.cells (olds.toArray++news.toArray++Builtin.zeroCells z.cells (grownCap w (xs.length+ys.length) old e-(xs.length+ys.length))) e)).ownsRow 0 e f.size
    (.slice (some ⟨w.heap.size,0,none⟩) (xs.length+ys.length) (grownCap w (xs.length+ys.length) old e)) (xs.length+ys.length) (olds++news):=by
  intro old;have s:=grownCap_ge w (xs.length+ys.length) old e;refine⟨by rw[Xr,i,l,Kd],.inr ⟨w.heap.size,_,_,rfl,Xh _,heap_alloc_new w.drew _,s,grownCap_le_maxLen w _ old e n,?_,?_⟩⟩
  .simp only[Js,KY,size_zeroCells,A,i,l,←Kd];congr 1;omega
  simp only[Jf];rw[KO (by simp[i,l,Kd])];exact Xi (by simp[i,l,Kd])
 obtain⟨_,rfl⟩|⟨a,c,rfl,d⟩:=G
 .exact absurd rfl o
 cases ad with
 |none=>
  have y:xs=[]:=by
   obtain⟨_,h⟩|⟨_,_,h,_⟩:=p
   .exact h
   cases h
  subst y;have v:olds=[]:=Xq (by simpa using i);subst v;have x:=run_append_nil (P:=P) w t ty e f z ht hi C a ys.length c news l d oM (by simpa using h63') (by simp only[Xo,Kb]at hbytes;omega);have:=made 0;simp only[Xo,Kb,QI]at this;refine⟨_,_,x,?_,rfl,rfl,.cells w.drew _ _,sI,λb r=>heap_alloc_old w.drew _ b r,⟨rfl,sI⟩,rfl⟩
  simpa using this
 |some g=>
  have k:∀(j:Nat) (u:Value),olds[j]?=some u->w.cell? (g.add j)=some u:=by
   obtain⟨h,_⟩|⟨H,J,h,D⟩:=p
   .cases h
   cases h;exact D
  have x:=run_append_grow (P:=P) w t ty e f z ht hi C g xs.length xs.length olds (by simp[i]) k a ys.length c news l d oM (by simpa using h63') (growslice_fits oM (by simpa using hbytes));exact⟨_,_,x,made _,rfl,rfl,.cells w.drew _ _,sI,λb r=>heap_alloc_old w.drew _ b r,⟨rfl,sI⟩,rfl⟩
def zxo:∀{M:LT} {k:Nat} {m:Mem},zO M k=some m->qL M k m=M
 |[],_,_,h=>by simp[zO]at h
 |(a,d)::r,k,m,h=>by
  simp only[zO]at h;simp only[qL]
  split at h
  .cases h;rfl
  rw[zxo h]
def zDC{P:Program}{Keep:LI}{M:LT}{Z:zh}{w:World}(hm:zI Keep M Z w){k:Nat}{T:TypeId}{α:Type}{enc:α->LR}{sz:Nat}{xs:List α}(F:(k,Mem.arr T enc sz xs)∈M){b len cap lo n Y:Nat}(L:Z k=some (.slice (some ⟨b,0,none⟩) len cap))(hln:lo+n<=xs.length){ys:List α}{news:LA}(W:news.length=ys.length*sz/\(∀u∈news,u.oneCell'=true)/\(∀(i j:Nat) y (s:SV),ys[i]?=some y->(enc y)[j]?=some s->∃u,news[i*sz+j]?=some u/\D (λb=>Keep b∨Own M Z b) w s u))(hysz:∀y∈ys,(enc y).length=sz){o:Oper}{a:Act}{r:Value}(hr:∀T p,w.heap[b]?=some (.cells p T (0,0))->lo*sz+min ys.length n*sz<=p.size->(execOp a.eval o).run P w=.ok (.value r)
   (w.setRow b (p.toList.take (lo*sz)++news.take (min ys.length n*sz)++p.toList.drop (lo*sz+min ys.length n*sz)).toArray)):
  qB P o a w (qg Keep M Z w Y (.val r) (.set k (.arr T enc sz (xs.take lo++(ys.take n++xs.drop (lo+min ys.length n)))))):=by
 obtain⟨v0,cells,hρ',G,hnl,hone0,t,q⟩:=hm.rel k _ F;rw[L]at hρ';cases hρ'
 obtain⟨hlen',p,B,U,X,H,htake⟩:=ze2 rfl G;have f:cells.length=xs.length*sz:=G.1;have hml:min ys.length n<=n:=Nat.min_le_right _ _;have R:min ys.length n<=ys.length:=Nat.min_le_left _ _
 have htk:ys.take n=ys.take (min ys.length n):=by
  rcases Nat.le_total ys.length n with h|h
  .rw[Qp h,Xi h,Xi (Xj _)]
  rw[Nat.min_eq_right h]
 rw[htk];have g:xs.length*sz<=p.toList.length:=by simp[H];exact Xy _ U
 generalize hmm:min ys.length n=m at*;have hfit:(lo+m)*sz<=xs.length*sz:=Xy _ oM;have hadd:(lo+m)*sz=lo*sz+m*sz:=Kd _ _ _;have V:=hr _ _ B (by simp at g;omega)
 have hnews:(news.take (m*sz)).length=m*sz:=by
  rw[Xp,W.1];exact Qp (Xy _ R)
 refine qB.value V<|qg.set (hm.write _ F L rfl _ λJ=>?_) (.d _ _ (.val _));have C:(xs.take lo++(ys.take m++xs.drop (lo+m))).length=xs.length:=by simp only[Xr,Xp,KG];omega
 refine⟨_,cells.take (lo*sz)++news.take (m*sz)++cells.drop (lo*sz+m*sz),L,⟨?_,.inr ⟨b,cap,_,by rw[C,hlen'],Xh _,setRow_heap w b _ _ T _ B,by rw[C];exact U,X,?_,?_⟩⟩,by rw[C];exact hnl,?_,?_,?_⟩
 .rw[C];simp only[Xr,Xp,KG,f,W.1];have:=Xy sz R;omega
 .simp only[KY,Xr,hnews,Xp,KG,Qy,H];simp[H]at g;omega
 .rw[C,←htake];have:=zju p.toList (news.take (m*sz)) (lo*sz) (xs.length*sz) (by rw[hnews];omega) g;rw[hnews]at this;exact this
 .intro u v;simp only[Xu]at v
  rcases v with(v|v)|v
  .exact hone0 u (XP v)
  .exact W.2.1 u (XP v)
  exact hone0 u (K5 v)
 .intro z A;simp only[Xu]at A
  rcases A with A|A|A
  .exact t z (XP A)
  .exact hysz z (XP A)
  exact t z (K5 A)
 intro i j x s l E;have hln1:(cells.take (lo*sz)).length=lo*sz:=by rw[Xp,f];omega
 have hlx:(xs.take lo).length=lo:=by rw[Xp];omega
 have hly:(ys.take m).length=m:=by rw[Xp];omega
 have hjs:j<sz:=by
  have hx:x∈xs.take lo++(ys.take m++xs.drop (lo+m)):=Xf l;have:=(Xd.1 E).1;simp only[Xu]at hx
  rcases hx with A|A|A
  .rwa [t x (XP A)]at this
  .rwa [hysz x (XP A)]at this
  rwa [t x (K5 A)]at this
 by_cases O:i<lo
 .rw[XN oM,XM,Xe O]at l;obtain⟨u,v,N⟩:=q i j x s l E;refine⟨u,?_,N.stp J⟩
  have h5:i*sz+sz<=lo*sz:=by
   have:=Xy sz (X1 O);rw[Ka]at this;exact this
  rw[XL,XN oM,XM,Xe oM];exact v
 rw[XG oM,hlx]at l;have h6:lo*sz<=i*sz:=Xy _ oM
 by_cases Q:i-lo<m
 .rw[XN oM,XM,Xe Q]at l;obtain⟨u,v,N⟩:=W.2.2 (i-lo) j x s l E;refine⟨u,?_,N.stp J⟩
  have h5:(i-lo)*sz+sz<=m*sz:=by
   have:=Xy sz (X1 Q);rw[Ka]at this;exact this
  have h7:(i-lo)*sz=i*sz-lo*sz:=Nat.sub_mul _ _ _;rw[XL,XG oM,hln1,XN oM,XM,Xe oM,←v];congr 1;omega
 rw[XG oM,hly,KK]at l;rw[show lo+m+(i-lo-m)=i by omega]at l;obtain⟨u,v,N⟩:=q i j x s l E;refine⟨u,?_,N.stp J⟩;have h7:(lo+m)*sz<=i*sz:=Xy _ oM;rw[XL,XG oM,hln1,XG oM,hnews,KK,←v];congr 1;omega
def zxp{P:Program}{t e:TypeId}{f:TypeInfo}{z:Value}{zs:LA}(hk:P.underlying t=some (.slice e))(hz:f.zero=some z)(hi:P.info? e=some f)(W:z.cells.toList=zs)(L:zs.length=f.size)(X:∀u∈zs,u.oneCell'=true){Keep:LI}{M:LT}{Z:zh}{w:World}(hm:zI Keep M Z w){k:Nat}{T:TypeId}{α:Type}{enc:α->LR}{sz:Nat}{xs:List α}(x:(k,Mem.arr T enc sz xs)∈M)(F:f.size=sz){b len cap cap' lo n Y:Nat}(hn:0<n)(U:Z k=some (.slice (some ⟨b,0,none⟩) len cap))(N:lo+n<=xs.length){E:α}(C:enc E=vals zs){o:Oper}{a:Act}(hr:∀v w',(Builtin.clear_ #[t] o.type #[.slice (some ⟨b,lo*sz,none⟩) n cap']).run P w=.ok v w'->(execOp a.eval o).run P w=.ok (.value v) w'):
  qB P o a w (qg Keep M Z w Y (.val (.tuple #[])) (.set k (.arr T enc sz (xs.take lo++(List.replicate n E++xs.drop (lo+n)))))):=by
 have D:z.cells=zs.toArray:=by rw[←W]
 have d:(madeCells z.cells (n*f.size)).toList.length=n*sz:=by simp[madeCells,F]
 have A:∀q,(madeCells z.cells (n*f.size)).toList[q]?=if q<n*sz then zs[q%sz]? else none:=λq=>by
  have:=zgU zs n q;rw[L,F]at this;rw[D,F];exact this
 have henc:(enc E).length=sz:=by rw[C];simp[vals,L,F]
 have g:∀u∈(madeCells z.cells (n*f.size)).toList,u.oneCell'=true:=λu G=>by
  obtain⟨q,V,rfl⟩:=JS.1 G;have:=A q;rw[Xb V]at this
  split at this
  .exact X _ (Xf this.symm)
  cases this
 have key:=zDC (P:=P) hm x U N (ys:=List.replicate n E) (news:=(madeCells z.cells (n*f.size)).toList) (Y:=Y) (o:=o) (a:=a) (r:=.tuple #[])
  ⟨by rw[d,Ks],g,λi j y s H p=>by
   have Q:=KT (Xf H);subst Q;have V:i<n:=by simpa using (Xd.1 H).1
   have O:j<sz:=by
    have:=(Xd.1 p).1;rw[henc]at this;exact this
   have h1:i*sz+sz<=n*sz:=by
    have:=Xy sz (show i+1<=n by omega);rw[Ka]at this;exact this
   have hmod:(i*sz+j)%sz=j:=by rw[KD,QK];exact XB O
   rw[A,Xe oM,hmod];rw[C]at p;simp only[vals,XD]at p
   cases G:zs[j]? with
   |none=>simp[G]at p
   |some u=>
    simp[G]at p;subst p
    exact⟨u,rfl,.val u⟩⟩ (λy H=>by rw[KT H];exact henc) (λT' J h hfit=>by
   refine hr _ _ ?_;rw[Ks,Nat.min_self]at hfit ⊢;have B:=run_storeCells_at P b (lo*sz) T' (madeCells z.cells (n*f.size)).toList 0 J w h (by rw[d];simpa using hfit) g;simp only[d,XX]at B;have ht:(madeCells z.cells (n*f.size)).toList.take (n*sz)=(madeCells z.cells (n*f.size)).toList:=Xi (by rw[d];exact Xj _);rw[ht]
   have R:(Builtin.zeroCells z.cells n).toList=(madeCells z.cells (n*f.size)).toList:=by
    have e:z.cells.size=f.size:=by rw[D];simpa using L
    simp[Builtin.zeroCells,madeCells,e]
   obtain⟨m,rfl⟩:∃m,n=m+1:=⟨n-1,oM⟩
   simp[Builtin.clear_,run_underlying hk,zeroValue,typeInfo,hi,hz,R,B])
 rw[Ks,Nat.min_self,Xi (l:=List.replicate n E) (by rw[Ks];exact Xj _)]at key;exact key
def zrc{w:World}(H:zI Keep M Z w){k:Nat}{T:TypeId}{ys:LN}(l:(k,Mem.garr T sz ys)∈M){v:Value}(t:Z k=some v):
  ∃(qs:LC) (news:LA),qs.length=ys.length/\Src (λb=>Keep b∨Own M Z b) w (λn:Nat=>List.replicate n SV.junk) sz qs v news/\(∀y∈ys,y.length=sz)/\
   ∀(i j:Nat) x (s:SV),ys[i]?=some x->x[j]?=some s->∃u,news[i*sz+j]?=some u/\G (λb=>Keep b∨Own M Z b) (Own M Z) Z w s u:=by
 obtain⟨L,cells,hρ',d,z,o,h,a⟩:=H.rel k _ l;rw[t]at hρ';cases hρ'
 refine⟨ys.map List.length,cells,sI,⟨by rw[Xv];exact d.1,o,λi j n s p A=>?_,?_⟩,h,a⟩
 .rw[XD]at p
  cases r:ys[i]? with
  |none=>simp[r]at p
  |some y=>
   simp[r]at p;subst p
   have F:j<y.length:=by
    have:=(Xd.1 A).1
    simpa using this
   obtain⟨u,q,_⟩:=a i j y _ r (Xb F);have:s=.junk:=KT (Xf A);subst this;exact⟨u,q,.junk _⟩
 rw[Xv]
 obtain⟨rfl,E⟩|⟨g,cap,B,rfl,_,f,J,C,D,htake⟩:=d.2
 .exact .inl ⟨rfl,by rw[Xq E];rfl⟩
 exact .inr ⟨_,cap,rfl,λj u q=>by rw[yg,Kb];exact zbq f htake q⟩
variable{Y:Nat}
def zI.regrow{w:World}(g:zI Keep M Z w){k:Nat}{B:Mem}{v:Value}(a:(k,B)∈M)(r:Z k=some v)(s:Z Y=none)(hκM:∀m,(Y,m)∉M){d:Value}{m:Mem}{w':World}(q1:w'.os=w.os)(C:w'.tape=w.tape)(D:kU w w')(u:w.heap.size<=w'.heap.size)(y:∀b,b<w.heap.size->qi v≠some b->w'.heap[b]?=w.heap[b]?)(j:qi d=qi v∨(qi d=some w.heap.size/\w.heap.size<w'.heap.size))(E:d.oneCell'=true)(h:Stp (Own M Z) (Own ((Y,m)::k9 M k) (upd Z Y d)) Z (upd Z Y d) w w'->
   jD (λb=>Keep b∨Own ((Y,m)::k9 M k) (upd Z Y d) b) (Own ((Y,m)::k9 M k) (upd Z Y d)) (upd Z Y d) w' Y m):qg Keep M Z w Y (.own Y) (.repl k m) d w':=by
 have hgrow:=g.grow (M1:=k9 M k) (λx A=>qn x A) (qR g.keys) s hκM d m w' q1 C D u
  (λb q z=>y b q (λl=>z ⟨k,_,v,a,r,l⟩))
  (λn m v1 b i o p=>y b (g.old b ⟨n,m,v1,qn _ i,o,p⟩).1 (λl=>g.apart n m k _ v1 v b (qn _ i) a (vA g.keys _ i) o r p l))
  (λb q=>by
   rcases j with j|⟨j,F⟩
   .rw[q]at j;have t:Own M Z b:=⟨k,_,v,a,r,j.symm⟩;exact⟨.inl t,Xx (g.old b t).1 u,λn m v1 i o p=>g.apart n m k _ v1 v b (qn _ i) a (vA g.keys _ i) o r p j.symm⟩
   rw[q]at j;cases j
   exact⟨.inr (Xj _),F,λn m v1 i o p=>by have:=(g.old _ ⟨n,m,v1,qn _ i,o,p⟩).1;omega⟩) h
 exact⟨upd Z Y d,hgrow.1,hgrow.2,.own _ _ kG E,λn f=>zgh (by
  rcases f with f|f
  .omega
  simp only[zcc]at f;omega)⟩
def ziu{R R':SV->Value->Prop}{α:Type _}{enc:α->LR}{xs more:List α}{cells news:LA}(hRR:∀s u,R s u->R' s u)(h:cells.length=xs.length*sz)(a:∀(i j:Nat) y (s:SV),xs[i]?=some y->(enc y)[j]?=some s->∃u,cells[i*sz+j]?=some u/\R s u)(hnew:∀(i j:Nat) y (s:SV),more[i]?=some y->(enc y)[j]?=some s->∃u,news[i*sz+j]?=some u/\R s u)(p q:Nat)(y:α)(s:SV)(f:(xs++more)[p]?=some y)(k:(enc y)[q]?=some s):∃u,(cells++news)[p*sz+q]?=some u/\R' s u:=by
 rw[X9]at f
 split at f
 .obtain⟨u,d,g⟩:=a p q y s f k;exact⟨u,by rw[XN (Xd.1 d).1];exact d,hRR _ _ g⟩
 obtain⟨u,d,g⟩:=hnew (p-xs.length) q y s f k;have hmul:p*sz=xs.length*sz+(p-xs.length)*sz:=by rw[←Kd];congr 1;omega
 exact⟨u,by rw[XG (by rw[h,hmul];omega),h,hmul,show xs.length*sz+(p-xs.length)*sz+q-xs.length*sz=(p-xs.length)*sz+q by omega];exact d,hRR _ _ g⟩
variable{I:LS}{K:LD}
def zm5(hT:TOK P I)(G:c.callee=.builtin .append){s:SV}{k':Nat}{e':TypeId}{sz':Nat}{ys:LN}(hlk':lm k'=some (.garr e' sz' ys))(h:zkH I c.argTypes.toList s e' sz' ys lm Y K):∃r md,K r md/\yq P (.call c) [s,.own k'] lm Y r md:=by
 unfold zkH at h
 split at h
 .rename_i t t' C;have C:=zis C;replace h:=zj h;obtain⟨hteq,h⟩:=h;have hteq:=Xk hteq;subst hteq;replace h:=zE h;obtain⟨i,hi,h⟩:=h;have hk:=(hT t i hi).kind
  split at h
  .rename_i e T;rw[T]at hk;have hk:P.underlying t=some (.slice e):=hk;replace h:=zE h;obtain⟨j,hj,h⟩:=h;obtain⟨f,h1,Q,h3,z,h4,h5,h6,h7,h8⟩:=(hT e j hj).inf;have hzs:z.cells.size=f.size:=by rw[Q,←h7,←h5];simp
   replace h:=zj h;obtain⟨l,h⟩:=h;replace h:=zj h;obtain⟨A,h⟩:=h;have l:=Xk l;have A:=Xk A;subst l;subst A
   split at h
   .obtain⟨e1,e2,e3⟩:=h.ob;refine⟨_,_,h.go,λo ho Keep M Z a w J L B hκM n=>?_⟩;replace B:=B _ (Xj _) (XZ _);replace hκM:=hκM rfl;have n:=vD G n;obtain⟨v,vs',W,g,gr⟩:=n.cons_inv;obtain⟨vx,vs'',hvs',gx,gn⟩:=gr.cons_inv;subst hvs';have hn:=gn.nil_inv;subst hn;obtain⟨F,_⟩:=gx.own_inv;obtain⟨qs,news,D,hsrc,hesz',hcells'⟩:=zrc L (zu (J k' _ hlk')) F;rw[←D]at e1 e2;obtain⟨cs,hr⟩:=ju (P:=P) (w:=w) ho G W;rw[g.val_inv]at hr
    have R:(0+qs.length)*f.bytes<=140737488355328:=by rw[h3,Kb];omega
    obtain⟨X,w',E,d,q1,q2,q3,q4,q5,N,q7⟩:=zbr (ty:=o.type) hk h1 h4 hzs (World.ownsRow_nil w 0 e f.size) (Q ▸ hsrc) (by unfold maxLen;omega) R;refine qB.value (v:=X) (w':=w') (by rw[hr,C];simp only[builtin,Sem.run_bind,E,Result.andThen_ok,Sem.run_pure])<|qg.push (u:=X) (L.grow (λ_ h=>h) L.keys B hκM X _ w' q1 q2 q3 q4 (λb G _=>q5 b G (by simp[qi])) (λk m v b g1 g2 g3=>q5 b (L.old b ⟨k,m,v,g1,g2,g3⟩).1 (by simp[qi])) ?_ ?_) (.own _ _ kG q7)
    .intro b G
     rcases N with N|⟨N,q8⟩
     .rw[G]at N;simp[qi]at N
     rw[G]at N;cases N
     exact⟨.inr (Xj _),q8,λk m v1 g1 g2 g3=>by have:=(L.old _ ⟨k,m,v1,g1,g2,g3⟩).1;omega⟩
    intro hs;refine⟨X,news,kG,by rw[←Q];rw[D]at d;simpa using d,oM,hsrc.2.1,hesz',λp q y s' hy U=>?_⟩;obtain⟨u,V,hd⟩:=hcells' p q y s' hy U;exact⟨u,V,hd.stp hs⟩
   .rename_i k
    split at h
    .rename_i e'' sz xs hlk;replace h:=zj h;obtain⟨l,h⟩:=h;replace h:=zj h;obtain⟨A,h⟩:=h;have l:=Xk l;have A:=Xk A;subst l;obtain⟨e1,e2,e3⟩:=h.ob;refine⟨_,_,h.go,λo ho Keep M Z a w J L B hκM n=>?_⟩;replace B:=B _ (Xj _) (XZ _);replace hκM:=hκM rfl;have O:=zu (J k _ hlk);have n:=vD G n;obtain⟨v,vs',W,g,gr⟩:=n.cons_inv;obtain⟨vx,vs'',hvs',gx,gn⟩:=gr.cons_inv;subst hvs';have hn:=gn.nil_inv;subst hn
     obtain⟨F,_⟩:=gx.own_inv;obtain⟨qs,news,D,hsrc,hesz',hcells'⟩:=zrc L (zu (J k' _ hlk')) F;rw[←D]at e1 e2;obtain⟨cs,hr⟩:=ju (P:=P) (w:=w) ho G W;obtain⟨hv,_⟩:=g.own_inv;obtain⟨v0,cells,hρ,d,hnl,hone0,hesz,H⟩:=L.rel k _ O;rw[hv]at hρ;cases hρ
     have R:(xs.length+qs.length)*f.bytes<=140737488355328:=by rw[h3];exact J1.1 (by rw[Ke,QU];exact e1)
     have hsf:sz=f.size:=by rw[A,Q]
     subst hsf;obtain⟨X,w',E,hown',q1,q2,q3,q4,q5,N,q7⟩:=zbr (ty:=o.type) hk h1 h4 hzs d (Q ▸ hsrc) (by unfold maxLen;omega) R;refine qB.value (v:=X) (w':=w') (by rw[hr,C];simp only[builtin,Sem.run_bind,E,Result.andThen_ok,Sem.run_pure])<|L.regrow O hv B hκM q1 q2 q3 q4 q5 N q7 λhs=>?_
     refine⟨X,cells++news,kG,by rw[D]at hown';simpa using hown',by simp;omega,λu V=>?_,λx F=>?_,λp q x s' F U=>?_⟩
     .rcases Xu.1 V with V|V
      .exact hone0 u V
      exact hsrc.2.1 u V
     .rcases Xu.1 F with F|F
      .exact hesz x F
      rw[hesz' x F,Q]
     exact ziu (λs u q=>q.stp hs) d.1 H (Q.symm ▸ hcells') p q x s' F U
    exact h.elim
   exact h.elim
  exact h.elim
 exact h.elim
def zgV(hT:TOK P I)(G:c.callee=.builtin .append){s x:SV}(h:zj6 I c.argTypes.toList s x lm Y K):∃r md,K r md/\yq P (.call c) [s,x] lm Y r md:=by
 unfold zj6 at h
 split at h
 .rename_i t t' E;have E:=zis E;replace h:=zj h;obtain⟨hteq,h⟩:=h;have hteq:=Xk hteq;subst hteq;replace h:=zE h;obtain⟨i,hi,h⟩:=h;have hk:=(hT t i hi).kind
  split at h
  .rename_i e hkind;rw[hkind]at hk;have hk:P.underlying t=some (.slice e):=hk;replace h:=zE h;obtain⟨j,hj,h⟩:=h;obtain⟨f,h1,V,h3,z,h4,h5,h6,h7,h8⟩:=(hT e j hj).inf;have hzs:z.cells.size=f.size:=by rw[V,←h7,←h5];simp
   split at h
   .obtain⟨α,enc,ys,J,h⟩:=h;obtain⟨e1,e2,e3,e4⟩:=h.ob;refine⟨_,_,h.go,λo ho Keep M Z a w D C n hκM l=>?_⟩;replace n:=n _ (Xj _) (XZ _);replace hκM:=hκM rfl;have l:=vD G l;obtain⟨v,vs',L,g,gr⟩:=l.cons_inv;obtain⟨vx,vs'',hvs',gx,gn⟩:=gr.cons_inv;subst hvs';have hn:=gn.nil_inv;subst hn;obtain⟨news,hsrc⟩:=v9 J D C gx e3 e4;obtain⟨cs,X⟩:=ju (P:=P) (w:=w) ho G L;rw[g.val_inv]at X;have R:(0+ys.length)*f.bytes<=140737488355328:=by rw[h3,Kb];omega
    obtain⟨Q,w',B,A,q1,q2,q3,q4,q5,O,q7⟩:=zbr (ty:=o.type) hk h1 h4 hzs (World.ownsRow_nil w 0 e f.size) (V ▸ hsrc) (by unfold maxLen;omega) R;refine qB.value (v:=Q) (w':=w') (by rw[X,E];simp only[builtin,Sem.run_bind,B,Result.andThen_ok,Sem.run_pure])<|qg.push (u:=Q) (C.grow (λ_ h=>h) C.keys n hκM Q _ w' q1 q2 q3 q4 (λb G _=>q5 b G (by simp[qi])) (λk m v b g1 g2 g3=>q5 b (C.old b ⟨k,m,v,g1,g2,g3⟩).1 (by simp[qi])) ?_ ?_) (.own _ _ kG q7)
    .intro b G
     rcases O with O|⟨O,q8⟩
     .rw[G]at O;simp[qi]at O
     rw[G]at O;cases O
     exact⟨.inr (Xj _),q8,λk m v1 g1 g2 g3=>by have:=(C.old _ ⟨k,m,v1,g1,g2,g3⟩).1;omega⟩
    intro hs;refine⟨Q,news,kG,by rw[←V];simpa using A,e2,hsrc.2.1,e4,λp q y s' hy N=>?_⟩;obtain⟨u,F,hd⟩:=hsrc.2.2.1 p q y s' hy N;exact⟨u,F,hd.stp hs⟩
   .rename_i k
    split at h
    .rename_i e' α enc sz xs hlk;replace h:=zj h;obtain⟨W,h⟩:=h;replace h:=zj h;obtain⟨hss,h⟩:=h;have W:=Xk W;have hss:=Xk hss;subst W;obtain⟨ys,J,h⟩:=h;obtain⟨e1,e2,e3,e4⟩:=h.ob;refine⟨_,_,h.go,λo ho Keep M Z a w D C n hκM l=>?_⟩;replace n:=n _ (Xj _) (XZ _);replace hκM:=hκM rfl;have U:=zu (D k _ hlk);have l:=vD G l;obtain⟨v,vs',L,g,gr⟩:=l.cons_inv;obtain⟨vx,vs'',hvs',gx,gn⟩:=gr.cons_inv;subst hvs';have hn:=gn.nil_inv
     subst hn;obtain⟨news,hsrc⟩:=v9 J D C gx e3 e4;obtain⟨cs,X⟩:=ju (P:=P) (w:=w) ho G L;obtain⟨hv,_⟩:=g.own_inv;obtain⟨v0,cells,hρ,A,hnl,hone0,hesz,T⟩:=C.rel k _ U;rw[hv]at hρ;cases hρ
     have R:(xs.length+ys.length)*f.bytes<=140737488355328:=by rw[h3];exact J1.1 (by rw[Ke,QU];exact e1)
     have hsf:sz=f.size:=by rw[hss,V]
     subst hsf;obtain⟨Q,w',B,hown',q1,q2,q3,q4,q5,O,q7⟩:=zbr (ty:=o.type) hk h1 h4 hzs A (V ▸ hsrc) (by unfold maxLen;omega) R;refine qB.value (v:=Q) (w':=w') (by rw[X,E];simp only[builtin,Sem.run_bind,B,Result.andThen_ok,Sem.run_pure])<|C.regrow U hv n hκM q1 q2 q3 q4 q5 O q7 λhs=>?_
     refine⟨Q,cells++news,kG,by simpa using hown',by simp;omega,λu F=>?_,λx H=>?_,λp q x s' H N=>?_⟩
     .rcases Xu.1 F with F|F
      .exact hone0 u F
      exact hsrc.2.1 u F
     .rcases Xu.1 H with H|H
      .exact hesz x H
      rw[e4 x H,V]
     exact ziu (λs u q=>q.stp hs) A.1 T (V ▸ hsrc.2.2.1) p q x s' H N
    .rename_i e' sz xs hlk;replace h:=zj h;obtain⟨W,h⟩:=h;replace h:=zj h;obtain⟨hss,h⟩:=h;have W:=Xk W;have hss:=Xk hss;subst W;obtain⟨α,enc,ys,J,h⟩:=h;obtain⟨e1,e2,e3,e4⟩:=h.ob;refine⟨_,_,h.go,λo ho Keep M Z a w D C n hκM l=>?_⟩;replace n:=n _ (Xj _) (XZ _);replace hκM:=hκM rfl;have U:=zu (D k _ hlk);have l:=vD G l;obtain⟨v,vs',L,g,gr⟩:=l.cons_inv;obtain⟨vx,vs'',hvs',gx,gn⟩:=gr.cons_inv;subst hvs';have hn:=gn.nil_inv
     subst hn;obtain⟨news,hsrc⟩:=v9 J D C gx e3 e4;obtain⟨cs,X⟩:=ju (P:=P) (w:=w) ho G L;obtain⟨hv,_⟩:=g.own_inv;obtain⟨v0,cells,hρ,A,hnl,hone0,hesz,T⟩:=C.rel k _ U;rw[hv]at hρ;cases hρ
     have R:(xs.length+ys.length)*f.bytes<=140737488355328:=by rw[h3];exact J1.1 (by rw[Ke,QU];exact e1)
     have hsf:sz=f.size:=by rw[hss,V]
     subst hsf;obtain⟨Q,w',B,hown',q1,q2,q3,q4,q5,O,q7⟩:=zbr (ty:=o.type) hk h1 h4 hzs A (V ▸ hsrc) (by unfold maxLen;omega) R;refine qB.value (v:=Q) (w':=w') (by rw[X,E];simp only[builtin,Sem.run_bind,B,Result.andThen_ok,Sem.run_pure])<|C.regrow U hv n hκM q1 q2 q3 q4 q5 O q7 λhs=>?_
     refine⟨Q,cells++news,kG,by simpa using hown',by simp;omega,λu F=>?_,λx H=>?_,λp q x s' H N=>?_⟩
     .rcases Xu.1 F with F|F
      .exact hone0 u F
      exact hsrc.2.1 u F
     .rcases Xu.1 H with H|H
      .exact hesz x H
      obtain⟨y,hy,rfl⟩:=XK.1 H;rw[e4 y hy,V]
     refine ziu (λs u q=>q.stp hs) A.1 T (λi j y s hy hs=>?_) p q x s' H N;rw[XD]at hy
     cases hz:ys[i]? with
     |none=>simp[hz]at hy
     |some z=>
      simp[hz]at hy;subst hy;rw[V];exact(hsrc.2.2.1 i j z s hz hs).imp λu q=>⟨q.1,.d _ _ q.2⟩
    exact h.elim
   .rename_i α enc xs;obtain⟨ys,J,h⟩:=h;obtain⟨⟨e0,e1,e2,e3,e5,e4⟩,h⟩:=h;refine⟨_,_,h,λo ho Keep M Z a w D C n hκM l=>?_⟩;replace n:=n _ (Xj _) (XZ _);replace hκM:=hκM rfl;have l:=vD G l;obtain⟨v,vs',L,g,gr⟩:=l.cons_inv;obtain⟨vx,vs'',hvs',gx,gn⟩:=gr.cons_inv;subst hvs';have hn:=gn.nil_inv;subst hn;obtain⟨news,hsrc⟩:=v9 J D C gx e3 e4;obtain⟨cs,X⟩:=ju (P:=P) (w:=w) ho G L;obtain⟨ad,hv,hd⟩:=g.full_inv;obtain⟨olds,hold⟩:=zq9 hd e3 e5;rw[hv]at X hold
    have R:(xs.length+ys.length)*f.bytes<=140737488355328:=by rw[h3];exact J1.1 (by rw[Ke,QU];exact e1)
    obtain⟨Q,w',B,A,q1,q2,q3,q4,q5,O,q7⟩:=zrb (ty:=o.type) hk h1 h4 hzs ad (V ▸ hold) (V ▸ hsrc) e0 (by unfold maxLen;omega) R;refine qB.value (v:=Q) (w':=w') (by rw[X,E];simp only[builtin,Sem.run_bind,B,Result.andThen_ok,Sem.run_pure])<|qg.push (u:=Q) (C.grow (λ_ h=>h) C.keys n hκM Q _ w' q1 q2 q3 q4 (λb G _=>q5 b G) (λk m v b g1 g2 g3=>q5 b (C.old b ⟨k,m,v,g1,g2,g3⟩).1) ?_ ?_) (.own _ _ kG q7)
    .intro b G;obtain⟨O,q8⟩:=O;rw[G]at O;cases O
     exact⟨.inr (Xj _),q8,λk m v1 g1 g2 g3=>by have:=(C.old _ ⟨k,m,v1,g1,g2,g3⟩).1;omega⟩
    intro hs;refine⟨Q,olds++news,kG,by rw[←V];simpa using A,by simp;omega,λu F=>?_,λx H=>?_,λp q y s' hy N=>?_⟩
    .rcases Xu.1 F with F|F
     .exact hold.2.1 u F
     exact hsrc.2.1 u F
    .rcases Xu.1 H with H|H
     .exact e5 x H
     exact e4 x H
    have hl:=hold.1;rw[X9]at hy
    split at hy
    .obtain⟨u,F,hd⟩:=hold.2.2.1 p q y s' hy N;refine⟨u,?_,hd.stp hs⟩;have:p*j.sz+q<olds.length:=(Xd.1 F).1;rw[XN this];exact F
    rename_i hge;obtain⟨u,F,hd⟩:=hsrc.2.2.1 (p-xs.length) q y s' hy N;refine⟨u,?_,hd.stp hs⟩;have hge:xs.length<=p:=oM;have hmul:p*j.sz=xs.length*j.sz+(p-xs.length)*j.sz:=by rw[←Kd];congr 1;omega
    rw[XG (by rw[hl,hmul];omega),hl,hmul,show xs.length*j.sz+(p-xs.length)*j.sz+q-xs.length*j.sz=(p-xs.length)*j.sz+q by omega];exact F
   .rcases h with h|h|h
    .obtain⟨α,enc,ys,J,h⟩:=h;obtain⟨⟨e0,e1,e2,e3,e4⟩,h⟩:=h;refine⟨_,_,h,λo ho Keep M Z a w D C n hκM l=>?_⟩;replace n:=n _ (Xj _) (XZ _);replace hκM:=hκM rfl;have l:=vD G l;obtain⟨v,vs',L,g,gr⟩:=l.cons_inv;obtain⟨vx,vs'',hvs',gx,gn⟩:=gr.cons_inv;subst hvs';have hn:=gn.nil_inv;subst hn;obtain⟨news,hsrc⟩:=v9 J D C gx e3 e4;obtain⟨cs,X⟩:=ju (P:=P) (w:=w) ho G L;obtain⟨ad,hv⟩:=g.nils_inv;rw[hv]at X
     have R:ys.length*f.bytes<=140737488355328:=by rw[h3];omega
     obtain⟨Q,w',B,A,q1,q2,q3,q4,q5,O,q7⟩:=zra (ty:=o.type) hk h1 h4 hzs ad (V ▸ hsrc) e0 (by unfold maxLen;omega) R;refine qB.value (v:=Q) (w':=w') (by rw[X,E];simp only[builtin,Sem.run_bind,B,Result.andThen_ok,Sem.run_pure])<|qg.push (u:=Q) (C.grow (λ_ h=>h) C.keys n hκM Q _ w' q1 q2 q3 q4 (λb G _=>q5 b G) (λk m v b g1 g2 g3=>q5 b (C.old b ⟨k,m,v,g1,g2,g3⟩).1) ?_ ?_) (.own _ _ kG q7)
     .intro b G;obtain⟨O,q8⟩:=O;rw[G]at O;cases O
      exact⟨.inr (Xj _),q8,λk m v1 g1 g2 g3=>by have:=(C.old _ ⟨k,m,v1,g1,g2,g3⟩).1;omega⟩
     intro hs;refine⟨Q,news,kG,by rw[←V];exact A,e2,hsrc.2.1,e4,λp q y s' hy N=>?_⟩;obtain⟨u,F,hd⟩:=hsrc.2.2.1 p q y s' hy N;exact⟨u,F,hd.stp hs⟩
    .obtain⟨α,enc,J,e3,h⟩:=h;refine⟨_,_,h,λo ho Keep M Z a w D C _ _ l=>?_⟩;have l:=vD G l;obtain⟨v,vs',L,g,gr⟩:=l.cons_inv;obtain⟨vx,vs'',hvs',gx,gn⟩:=gr.cons_inv;subst hvs';have hn:=gn.nil_inv;subst hn;obtain⟨news,hl,_,_,H⟩:=v9 J D C gx e3 (λx H=>by cases H);obtain⟨cs,X⟩:=ju (P:=P) (w:=w) ho G L;obtain⟨ad,hv⟩:=g.nils_inv;rw[hv]at X
     have B:(Builtin.append_ #[t,t] o.type #[.slice ad 0 0,vx]).run P w=.ok (.slice ad 0 0) w:=by
      obtain⟨rfl,_⟩|⟨a',c',rfl,_⟩:=H
      .cases ad <;> simp[Builtin.append_,run_underlying hk,sizeOf,typeInfo,h1,Builtin.lenOf,Builtin.firstCells,storeCells]
      cases ad <;> simp[Builtin.append_,run_underlying hk,sizeOf,typeInfo,h1,Builtin.lenOf,Builtin.firstCells,storeCells,loadCells,loadCellsFrom]
     exact qB.value (v:=.slice ad 0 0) (w':=w) (by rw[X,E];simp only[builtin,Sem.run_bind,B,Result.andThen_ok,Sem.run_pure]) (qg.same C (.d _ _ (.nils ad)))
    exact h.elim
   exact h.elim
  exact h.elim
 exact h.elim
def zfK(i:c.callee=.builtin b){u:Value}(p:∀{Keep:LI} {M:LT} {Z:zh} {w:World} {vs:LA},(∀k m,lm k=some m->(k,m)∈M)->zI Keep M Z w->Gs (λb=>Keep b∨Own M Z b) (Own M Z) Z w svs vs->
   ∀ty h,(builtin b c.argTypes ty h vs.toArray).run P w=.ok (.value u) w):yq P (.call c) svs lm Y (.val u) .none:=.read λo l Keep M Z a w f j d=>by
 obtain⟨h,n⟩:=ju (P:=P) (w:=w) l i rfl;exact⟨_,n.trans (p f j (vD i d) _ _),(zaN.val _).g⟩
variable{vs:LA}{m:Nat}
def ziv{t:TypeId}(a:tys=#[t])(f:P.underlying t=some (.slice e)){w:World}{s:SV}(g:Gs S Pm Z w [s] vs)(h:∀{v},G S Pm Z w s v->∃ad cap,v=.slice ad m cap)(ty:TypeId)(d):(builtin .len tys ty d vs.toArray).run P w=.ok (.value (.int .i64 m)) w:=by
 obtain⟨v,i,rfl,g,gr⟩:=g.cons_inv;obtain⟨ad,cap,rfl⟩:=h g;rw[gr.nil_inv,a];simp only[builtin,Sem.run_bind,zDA f w ad m cap,Result.andThen_ok,Sem.run_pure]
def zzG{t:TypeId}(a:tys=#[t])(f:P.underlying t=some (.slice e)){w:World}{s:SV}(g:Gs S Pm Z w [s] vs)(h:∀{v},G S Pm Z w s v->∃ad n,v=.slice ad n m)(ty:TypeId)(d):(builtin .cap tys ty d vs.toArray).run P w=.ok (.value (.int .i64 m)) w:=by
 obtain⟨v,i,rfl,g,gr⟩:=g.cons_inv;obtain⟨ad,n,rfl⟩:=h g;rw[gr.nil_inv,a];simp only[builtin,Sem.run_bind,zDB f w ad n m,Result.andThen_ok,Sem.run_pure]
def zm6(hT:TOK P I)(B:c.callee=.builtin b)(hlive:Live lm svs)(h:zkI I b c.argTypes.toList svs lm Y K):∃r md,K r md/\yq P (.call c) svs lm Y r md:=by
 obtain⟨Keep0,M0,ρ0,w0,vs0,hlm0,hm0,R⟩:=hlive;unfold zkI at h
 split at h
 .rename_i s
  split at h
  .rename_i t l;have l:=zir l;replace h:=zE h;obtain⟨i,hi,h⟩:=h;have A:=(hT t i hi).kind
   split at h
   .rename_i e y;rw[y]at A;have A:P.underlying t=some (.slice e):=A;unfold zFH at h
    split at h
    .rename_i α enc xs;obtain⟨v0,vs0',rfl,g0,_⟩:=R.cons_inv;exact⟨_,_,h (zzF g0).1,zfK B λ_ _ g=>ziv l A g λg=>have⟨_,ad,cap,G,_⟩:=zzF g;⟨ad,cap,G⟩⟩
    .rename_i k
     split at h
     .rename_i T α enc sz xs D;obtain⟨v0,vs0',rfl,g0,_⟩:=R.cons_inv;exact⟨_,_,h (zvp hm0 (zu (hlm0 k _ D)) g0.own_inv.1).1,zfK B λE H g=>ziv l A g λg=>have⟨_,ad,cap,G,_⟩:=zvp H (E k _ D) g.own_inv.1;⟨ad,cap,G⟩⟩
     .rename_i T sz xs D;obtain⟨v0,vs0',rfl,g0,_⟩:=R.cons_inv;exact⟨_,_,h (zq6 hm0 (zu (hlm0 k _ D)) g0.own_inv.1).1,zfK B λE H g=>ziv l A g λg=>have⟨_,ad,cap,G,_⟩:=zq6 H (E k _ D) g.own_inv.1;⟨ad,cap,G⟩⟩
     exact h.elim
    .exact⟨_,_,h,zfK B λ_ _ g=>ziv l A g λg=>⟨_,_,g.val_inv⟩⟩
    .exact⟨_,_,h,zfK B λ_ _ g=>ziv l A g λg=>have⟨ad,G⟩:=g.nils_inv;⟨ad,_,G⟩⟩
    .rename_i k sz lo n;obtain⟨h0,h⟩:=h;obtain⟨n,rfl⟩:∃m:Nat,n=m:=⟨n.toNat,(Qz h0).symm⟩;exact⟨_,_,h,zfK B λ_ _ g=>ziv l A g λg=>have⟨b,len,cap,cap',_,G,_⟩:=g.win_inv;⟨_,_,G⟩⟩
    exact h.elim
   exact h.elim
  exact h.elim
 .rename_i s
  split at h
  .rename_i t l;have l:=zir l;replace h:=zE h;obtain⟨i,hi,h⟩:=h;have A:=(hT t i hi).kind
   split at h
   .rename_i e y;rw[y]at A;have A:P.underlying t=some (.slice e):=A
    split at h
    .exact⟨_,_,h,zfK B λ_ _ g=>zzG l A g λg=>⟨_,_,g.val_inv⟩⟩
    .exact⟨_,_,h,zfK B λ_ _ g=>zzG l A g λg=>have⟨ad,G⟩:=g.nils_inv;⟨ad,_,G⟩⟩
    exact h.elim
   exact h.elim
  exact h.elim
 .rename_i s _;obtain⟨k,x,r,hK,he⟩:=zit h;refine⟨_,_,hK,zfK B λ_ _ g ty cs=>?_⟩;obtain⟨us,rfl,hl,hy⟩:=he g;simp only[builtin,Builtin.min_,Sem.run_bind,zq7 r us x hl hy,Result.andThen_ok,Sem.run_pure]
 .rename_i s _;obtain⟨k,x,r,hK,he⟩:=zit h;refine⟨_,_,hK,zfK B λ_ _ g ty cs=>?_⟩;obtain⟨us,rfl,hl,hy⟩:=he g;simp only[builtin,Builtin.max_,Sem.run_bind,zq8 r us x hl hy,Result.andThen_ok,Sem.run_pure]
 .rename_i s x
  split at h
  .rename_i kx n;unfold zvh at h
   split at h
   .rename_i t t' l;have l:=zis l;replace h:=zE h;obtain⟨i,hi,h⟩:=h;replace h:=zE h;obtain⟨i',hi',h⟩:=h;have A:=(hT t i hi).kind;have J:=(hT t' i' hi').kind
    split at h
    .rename_i e kn y hkind';rw[y]at A;rw[hkind']at J;have A:P.underlying t=some (.slice e):=A;have J:P.underlying t'=some (.int kn):=J;replace h:=zE h;obtain⟨j,hj,h⟩:=h;obtain⟨f,h1,O,h3,z,h4,h5,h6,Q,h8⟩:=(hT e j hj).inf;have hzl:z.cells=j.zero.toArray:=by rw[←h5]
     have L:z.cells.size=f.size:=by rw[O,←Q,←h5];simp
     obtain⟨α,enc,x0,hz,h⟩:=h;obtain⟨e0,e1,e2,e3⟩:=h.ob;refine⟨_,_,h.go,λo ho Keep M Z a w E H W hκM C=>?_⟩;replace W:=W _ (Xj _) (XZ _);replace hκM:=hκM rfl;have C:=vD B C;obtain⟨v,vs',V,g,gr⟩:=C.cons_inv;obtain⟨vx,vs'',hvs',gx,gn⟩:=gr.cons_inv;subst hvs';have hn:=gn.nil_inv;subst hn;obtain⟨cs,hr⟩:=ju (P:=P) (w:=w) ho B V;rw[g.val_inv,gx.val_inv]at hr;obtain⟨N,hN⟩:∃N:Nat,n=N:=⟨n.toNat,oM⟩;subst hN
     have hbytes:N*f.bytes<=140737488355328:=by rw[h3];exact J1.1 (by rw[Ke];exact e2)
     have hrun:=Lib.run_append_nil_zeros (P:=P) w t t' o.type e f z kx kn A J h1 h4 N oM oM oM oM;refine qB.value (by rw[hr,l];simp only[builtin,Sem.run_bind,hrun,Result.andThen_ok,Sem.run_pure];rfl) ?_;have hge:=grownCap_ge w N 0 e
     have hmg:∀q,(Builtin.zeroCells z.cells N).toList[q]?=if q<N*j.sz then j.zero[q%j.sz]? else none:=λq=>by
      have:=zgU j.zero N q;rw[Q]at this;rw[←this,hzl];unfold madeCells Builtin.zeroCells;simp[Q]
     refine qg.push (u:=.slice (some ⟨w.heap.size,0,none⟩) N (grownCap w N 0 e)) (H.grow (λ_ h=>h) H.keys W hκM _ _ _ rfl rfl (.cells w.drew _ _) sI (λb B _=>heap_alloc_old w.drew _ b B)
      (λk m v b g1 g2 g3=>heap_alloc_old w.drew _ b (H.old b ⟨k,m,v,g1,g2,g3⟩).1) ?_ ?_) (.own _ _ kG rfl)
     .intro b B;have B:b=w.heap.size:=by simp[qi]at B;exact B.symm
      subst B;exact⟨.inr (Xj _),sI,λk m v1 g1 g2 g3=>by have:=(H.old _ ⟨k,m,v1,g1,g2,g3⟩).1;omega⟩
     intro hs
     refine⟨_,(Builtin.zeroCells z.cells N).toList,kG,⟨by rw[Qy,size_zeroCells,L,O,Ks,XU],.inr ⟨w.heap.size,grownCap w N 0 e,_,by rw[Ks,XU],Xh _,heap_alloc_new w.drew _,by simpa using hge,grownCap_le_maxLen w _ 0 e (by unfold maxLen;omega),?_,?_⟩⟩,by simp;omega,
      λu hu=>?_,λx X=>by rw[KT X,hz];simp[vals,Q],λp q x s X F=>?_⟩
     .simp only[Js,size_zeroCells,L,O,←Kd];congr 1;omega
     .simp only[Jf,Ks,XU];rw[KO (by simp[size_zeroCells,L,O])];exact Xi (by simp[size_zeroCells,L,O])
     .obtain⟨q,hq,rfl⟩:=JS.1 hu;have:=hmg q;rw[Xb hq]at this
      split at this
      .exact h8 _ (Xf this.symm)
      cases this
     have hxm:=KT (Xf X);subst hxm;have hp:p<N:=by simpa using (Xd.1 X).1
     have hqj:q<j.sz:=by
      have:=(Xd.1 F).1;rw[hz]at this;simpa[vals,Q] using this
     have h9:p*j.sz+j.sz<=N*j.sz:=by
      have:=Xy j.sz (show p+1<=N by omega);rw[Ka]at this;exact this
     have hmod:(p*j.sz+q)%j.sz=q:=by rw[KD,QK];exact XB hqj
     rw[hmg,Xe oM,hmod];rw[hz]at F;simp only[vals,XD]at F
     cases hu:j.zero[q]? with
     |none=>simp[hu]at F
     |some u=>
      simp[hu]at F;subst F;exact⟨u,rfl,.val u⟩
    exact h.elim
   exact h.elim
  .rename_i k'
   split at h
   .rename_i hlk';exact zm5 hT B hlk' h
   exact zgV hT B h
  exact zgV hT B h
 .rename_i d
  split at h
  .rename_i t l;have l:=zir l;replace h:=zE h;obtain⟨i,hi,h⟩:=h;have A:=(hT t i hi).kind
   split at h
   .rename_i e y;rw[y]at A;have A:P.underlying t=some (.slice e):=A;replace h:=zE h;obtain⟨j,hj,h⟩:=h;obtain⟨f,h1,O,h3,z,h4,h5,h6,Q,h8⟩:=(hT e j hj).inf
    split at h
    .rename_i k sz' lo n
     split at h
     .rename_i T α enc sz xs D;replace h:=zj h;obtain⟨U,h⟩:=h;have U:=Xk U;replace h:=zj h;obtain⟨hss',h⟩:=h;have hss':=Xk hss';subst hss';obtain⟨x0,hx0,h⟩:=h;obtain⟨e1,e2,e3⟩:=h.ob;refine⟨_,_,h.go,λo ho Keep M Z a w E H _ _ C=>?_⟩;have hmem:=zu (E k _ D);have C:=vD B C;obtain⟨v,vs',V,g,gr⟩:=C.cons_inv;have hn:=gr.nil_inv;subst hn;obtain⟨cs,hr⟩:=ju (P:=P) (w:=w) ho B V;obtain⟨b,len,cap,cap',hρ,rfl,_,_⟩:=g.win_inv
      exact zxp (cap':=cap') A h4 h1 h5 (by rw[Q,O]) h8 H hmem (O.trans U.symm) oM hρ oM hx0 (λv w' X=>by
       rw[hr,l];simp only[builtin,Sem.run_bind,X,Result.andThen_ok,Sem.run_pure])
     exact h.elim
    exact h.elim
   exact h.elim
  exact h.elim
 exact h.elim
end Go.Gs
