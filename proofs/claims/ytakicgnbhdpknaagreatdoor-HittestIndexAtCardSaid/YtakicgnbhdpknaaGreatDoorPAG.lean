/- The builtins len, min, max and append. -/
import Derived.Test.YtakicgnbhdpknaaGreatDoorPAF
import Derived.Lib.AppendZeros
set_option maxRecDepth 100000
set_option maxHeartbeats 8000000
set_option linter.all false
namespace Go.Gs
def Live(lm:LJ)(svs:LR):Prop:=∃(Keep:LI) (M:LT) (O:zh) (w:World) (vs:LA),
 (∀k m,lm k=some m->zW M k=some m)/\zJ Keep M O w/\Gs (λb=>Keep b∨Own M O b) (Own M O) O w svs vs
def jn{P:Program}{o:Oper}{c:Call}{b:Builtin}(j:o.op=.call c)(i:c.callee=.builtin b){a:Act}{w:World}{vs:LA}(k:c.args.toList.map a.eval=vs):
  ∃f,(execOp a.eval o).run P w=(builtin b c.argTypes o.type f vs.toArray).run P w:=by
 have h:c.args.map a.eval=vs.toArray:=by apply QX;simp[k]
 have g:∃f,(do let d ←resolve a.eval c o.type;invoke d.target d.args:Sem Next)=builtin b c.argTypes o.type f (c.args.map a.eval):=by
  unfold resolve;rw[i];exact⟨_,rfl⟩
 obtain⟨f,g⟩:=g;refine⟨f,?_⟩;simp only[execOp,j];rw[g,h]
variable{c:Call}{b:Builtin}{S:LI}{Pm:LI}{O:zh}{svs:LR}
def vy(d:c.callee=.builtin b){a:Act}{w:World}(h:Gs S Pm O w svs ((qi (.call c)).map a.eval)):
  Gs S Pm O w svs (c.args.toList.map a.eval):=by simpa[qi,d,zeN] using h
variable{tys:Array TypeId}
def zh6{t:TypeId}(h:tys.toList=[t]):tys=#[t]:=by apply QX;simpa using h
def zh7{t u:TypeId}(h:tys.toList=[t,u]):tys=#[t,u]:=by apply QX;simpa using h
variable{P:Program}{e:TypeId}{ty:TypeId}
def zCN{t:TypeId}(ht:P.underlying t=some (.slice e))(w:World)(a:Option Addr)(n c:Nat):(Builtin.len_ #[t] ty #[.slice a n c]).run P w=.ok (.int .i64 n) w:=by
 simp[Builtin.len_,run_underlying ht,goInt]
def zCO{t:TypeId}(ht:P.underlying t=some (.slice e))(w:World)(a:Option Addr)(n c:Nat):(Builtin.cap_ #[t] ty #[.slice a n c]).run P w=.ok (.int .i64 c) w:=by
 simp[Builtin.cap_,run_underlying ht,goInt]
variable{α:Type}{xs:List α}
def zy1{w:World}{enc:α->LR}{v:Value}(h:G S Pm O w (.sl enc xs) v):
  xs.length<=9223372036854775807/\∃a cap,v=.slice a xs.length cap/\xs.length<=cap:=by
 obtain⟨rfl,a,rfl⟩|⟨_,b,o,cap,_,rfl,_,_,d,f,_⟩:=h.sl_inv.sl_inv
 .exact⟨sI,a,0,rfl,sI⟩
 exact⟨d,_,cap,rfl,f⟩
variable{Keep:LI}{M:LT}{sz:Nat}
def zuT{w:World}(n:zJ Keep M O w){k:Nat}{T:TypeId}{enc:α->LR}(l:(k,Mem.arr T enc sz xs)∈M){v:Value}(o:O k=some v):xs.length<=281474976710656/\∃a cap,v=.slice a xs.length cap/\xs.length<=cap:=by
 obtain⟨p,cells,hρ,f,d,_⟩:=n.rel k _ l;rw[o]at hρ;cases hρ
 obtain⟨rfl,h⟩|⟨g,cap,j,rfl,_,_,i,_⟩:=f.2
 .have h:xs.length=0:=h;exact⟨d,none,0,by rw[h],oM⟩
 exact⟨d,_,cap,rfl,i⟩
def zqE{w:World}(n:zJ Keep M O w){k:Nat}{T:TypeId}{xs:LN}(l:(k,Mem.garr T sz xs)∈M){v:Value}(o:O k=some v):xs.length<=281474976710656/\∃a cap,v=.slice a xs.length cap/\xs.length<=cap:=by
 obtain⟨p,cells,hρ,f,d,_⟩:=n.rel k _ l;rw[o]at hρ;cases hρ
 obtain⟨rfl,h⟩|⟨g,cap,j,rfl,_,_,i,_⟩:=f.2
 .have h:xs.length=0:=h;exact⟨d,none,0,by rw[h],oM⟩
 exact⟨d,_,cap,rfl,i⟩
def zh8:∀{s:LR} {K:IntKind->LV->Prop},zmG s K->∃(k:IntKind) (x:Int) (r:LV),K k (x::r)/\
  ∀{S Pm:LI} {O:zh} {w:World} {vs:LA},Gs S Pm O w s vs->∃us:LA,vs=.int k x::us/\us.length=r.length/\∀(j:Nat) (y:Int),r[j]?=some y->∃u,us[j]?=some (.int u y)
 |[],K,h=>by simp[zmG]at h
 |s::r,K,h=>by
  unfold zmG at h
  split at h
  .rename_i k m A f
   cases f
   split at h
   .refine⟨k,m,[],h,λg=>?_⟩;obtain⟨v,o,rfl,a,d⟩:=g.cons_inv;exact⟨[],by rw[a.val_inv,d.nil_inv],rfl,λj y n=>by simp at n⟩
   obtain⟨p,q,z,hK,i⟩:=zh8 h;refine⟨k,m,q::z,hK,λg=>?_⟩;obtain⟨v,o,rfl,a,d⟩:=g.cons_inv;obtain⟨us,rfl,t,n⟩:=i d;refine⟨.int p q::us,by rw[a.val_inv],by simp[t],λj y l=>?_⟩
   cases j with
   |zero=>simp at l;subst l;exact⟨p,rfl⟩
   |succ j=>simpa using n j y (by simpa using l)
  exact h.elim
def zqF{P:Program}{w:World}{k:IntKind}:∀(r:LV) (us:LA) (x:Int),us.length=r.length->(∀(j:Nat) (y:Int),r[j]?=some y->∃g,us[j]?=some (.int g y))->
  (us.foldlM Builtin.min2 (.int k x)).run P w=.ok (.int k (zb9 x r)) w
 |[],us,x,a,_=>by
  have:us=[]:=Xp a;subst this;simp[zb9]
 |y::r,us,x,a,f=>by
  cases us with
  |nil=>simp at a
  |cons u us=>
   obtain⟨g,d⟩:=f 0 y rfl;simp at d;subst d;have hmin:(if y<x then y else x)=min x y:=oM;simp only[List.foldlM_cons,Builtin.min2,Sem.run_bind,Sem.run_pure,Result.andThen_ok,hmin,zb9];exact zqF r us (min x y) (by simpa using a) (λj z h=>by simpa using f (j+1) z (by simpa using h))
def zqG{P:Program}{w:World}{k:IntKind}:∀(r:LV) (us:LA) (x:Int),us.length=r.length->(∀(j:Nat) (y:Int),r[j]?=some y->∃g,us[j]?=some (.int g y))->
  (us.foldlM Builtin.max2 (.int k x)).run P w=.ok (.int k (zdF x r)) w
 |[],us,x,a,_=>by
  have:us=[]:=Xp a;subst this;simp[zdF]
 |y::r,us,x,a,f=>by
  cases us with
  |nil=>simp at a
  |cons u us=>
   obtain⟨g,d⟩:=f 0 y rfl;simp at d;subst d;have hmax:(if y > x then y else x)=max x y:=oM;simp only[List.foldlM_cons,Builtin.max2,Sem.run_bind,Sem.run_pure,Result.andThen_ok,hmax,zdF];exact zqG r us (max x y) (by simpa using a) (λj z h=>by simpa using f (j+1) z (by simpa using h))
def Src(S:LI)(w:World)(enc:α->LR)(sz:Nat)(ys:List α)(v:Value)(news:LA):Prop:=
 news.length=ys.length*sz/\(∀u∈news,u.oneCell'=true)/\
 (∀(i j:Nat) y (s:SV),ys[i]?=some y->(enc y)[j]?=some s->∃u,news[i*sz+j]?=some u/\D S w s u)/\
 ((v=.slice none 0 0/\ys=[])∨∃a c,v=.slice (some a) ys.length c/\∀(j:Nat) (u:Value),news[j]?=some u->w.cell? (a.add j)=some u)
variable{ys:List α}
def zqH{w:World}{enc:α->LR}{v:Value}(R:D S w (.sl enc ys) v)(r:0<sz)(l:∀x∈ys,(enc x).length=sz):
  ∃news,Src S w enc sz ys v news:=by
 obtain⟨rfl,a,rfl⟩|⟨n,b,o,cap,c,rfl,V,hS,I,F,hesz,E,T⟩:=R.sl_inv
 .cases a with
  |none=>exact⟨[],sI,sI,λi j y s h=>by simp at h,.inl ⟨rfl,rfl⟩⟩
  |some a=>exact⟨[],sI,sI,λi j y s h=>by simp at h,.inr ⟨a,0,rfl,λj u g=>by simp at g⟩⟩
 have U:ys≠[]->n=sz:=λB=>by
  obtain⟨x,J⟩:=Q8 ys B;rw[←hesz x J,←l x J]
 have p:∀q,q<ys.length*sz->q/sz<ys.length/\q%sz<sz/\n=sz/\q/sz*sz+q%sz=q:=λq p=>by
  have f:q/sz<ys.length:=(X0 r).2 p;refine⟨f,Kn _ r,U (λe=>by rw[e]at f;simp at f),?_⟩;rw[Ky];exact Kf q sz
 refine⟨(List.range (ys.length*sz)).map λq=>c (q/sz) (q%sz),sI,?_,?_,.inr ⟨_,cap,rfl,?_⟩⟩
 .intro u g;obtain⟨q,d,rfl⟩:=XN.1 g;obtain⟨f,t,z,_⟩:=p q (XU.1 d);exact(E _ _ f (z ▸ t)).2
 .intro i j y s C k;have hi:i<ys.length:=(Xd.1 C).1
  have G:j<sz:=by
   have:=(Xd.1 k).1;rw[l y (Xf C)]at this;exact this
  have A:i*sz+j<ys.length*sz:=by
   have:=Xv sz (X6 hi);rw[X7]at this;omega
  have L:(i*sz+j)/sz=i:=by rw[Ky,QG r];simp[Ko G]
  have N:(i*sz+j)%sz=j:=by rw[Ky,QH];exact Xy G
  refine⟨c i j,by simp[A,L,N],T i j y s C k⟩
 intro q u g;have d:q<ys.length*sz:=by have:=(Xd.1 g).1;simpa using this
 obtain⟨f,t,z,Q⟩:=p q d;simp[d]at g;subst g;subst z;rw[ye];have:=(E _ _ f t).1;rw[KH,Q]at this;exact this
variable{lm:LJ}
def v6{s:SV}{enc:α->LR}(h:zdN lm s enc ys){w:World}(p:∀k m,lm k=some m->zW M k=some m)(F:zJ Keep M O w){v:Value}(n:G (λb=>Keep b∨Own M O b) (Own M O) O w s v)(B:0<sz)(l:∀x∈ys,(enc x).length=sz):∃news,Src (λb=>Keep b∨Own M O b) w enc sz ys v news:=by
 unfold zdN at h
 split at h
 .subst h;rw[n.val_inv];exact⟨[],sI,sI,λi j y s h=>by simp at h,.inl ⟨rfl,rfl⟩⟩
 .rename_i k;simp only[zi6]at h
  split at h
  .rename_i T β enc' r xs o
   cases h
   obtain⟨J,_⟩:=n.own_inv;obtain⟨L,cells,hρ,d,t,hone,hesz,a⟩:=F.rel k _ (zA (p k _ o));rw[J]at hρ;cases hρ
   obtain⟨rfl,E⟩|⟨g,cap,A,rfl,_,hheap,I,C,D,htake⟩:=d.2
   .have:ys=[]:=Xp E;subst this;exact⟨[],sI,sI,λi j y s h=>by simp at h,.inl ⟨rfl,rfl⟩⟩
   by_cases f:ys=[]
   .subst f;exact⟨[],sI,sI,λi j y s h=>by simp at h,.inr ⟨_,cap,rfl,λj u q=>by simp at q⟩⟩
   obtain⟨x,z⟩:=Q8 ys f;have:r=sz:=by rw[←hesz x z,←l x z]
   subst this;exact⟨cells,d.1,hone,a,.inr ⟨_,cap,rfl,λj u q=>by rw[ye,X8];exact zbo hheap htake q⟩⟩
  cases h
 subst h;exact zqH n.sl_inv B l
def zbp{P:Program}{t ty e:TypeId}{f:TypeInfo}{z:Value}(ht:P.underlying t=some (.slice e))(hi:P.info? e=some f)(I:f.zero=some z)(G:z.cells.size=f.size){w:World}{v:Value}{n:Nat}{cells:LA}(d:w.ownsRow 0 e f.size v n cells){S:LI}{α:Type}{enc:α->LR}{ys:List α}{vx:Value}{news:LA}(L:Src S w enc f.size ys vx news)(p:n+ys.length<=maxLen)(hbytes:(n+ys.length)*f.bytes<=140737488355328):
  ∃B w',(Builtin.append_ #[t,t] ty #[v,vx]).run P w=.ok B w'/\w'.ownsRow 0 e f.size B (n+ys.length) (cells++news)/\w'.os=w.os/\w'.tape=w.tape/\kR w w'/\w.heap.size<=w'.heap.size/\
   (∀b,b<w.heap.size->qf v≠some b->w'.heap[b]?=w.heap[b]?)/\(qf B=qf v∨(qf B=some w.heap.size/\w.heap.size<w'.heap.size))/\B.oneCell'=true:=by
 obtain⟨k,hone,_,Q⟩:=L;have h63':(n+ys.length:Int)<=9223372036854775807:=by unfold maxLen at p;omega
 have made:∀(old:Nat),old<n+ys.length->(w.drew.alloc (.cells (cells.toArray++news.toArray++Builtin.zeroCells z.cells (grownCap w (n+ys.length) old e-(n+ys.length))) e)).ownsRow 0 e f.size
    (.slice (some ⟨w.heap.size,0,none⟩) (n+ys.length) (grownCap w (n+ys.length) old e)) (n+ys.length) (cells++news):=by
  intro old _;have C:=grownCap_ge w (n+ys.length) old e;have i:=d.1;refine⟨by rw[Xq,i,k,Ka],.inr ⟨w.heap.size,_,_,rfl,Xh _,heap_alloc_new w.drew _,C,grownCap_le_maxLen w _ old e p,?_,?_⟩⟩
  .simp only[Jo,KU,size_zeroCells,G,i,k,←Ka];congr 1;omega
  simp only[Ja];rw[KK (by simp[i,k,Ka])];exact Xi (by simp[i,k,Ka])
 obtain⟨rfl,rfl⟩|⟨a,c,rfl,h⟩:=Q
 .have D:news=[]:=Xp (by simpa using k);subst D
  obtain⟨rfl,J⟩|⟨g,cap,l,rfl,_,hheap,y,r,s,htake⟩:=d.2
  .refine⟨.slice none 0 0,w,?_,?_,rfl,rfl,.refl _,Xj _,λ_ _ _=>rfl,.inl rfl,rfl⟩
   .simp[Builtin.append_,run_underlying ht,sizeOf,typeInfo,hi,Builtin.lenOf,Builtin.firstCells]
   subst J;have o:cells=[]:=Xp (by simpa using d.1);subst o;exact World.ownsRow_nil w 0 e f.size
  refine⟨.slice (some ⟨g,0,none⟩) n cap,w,?_,?_,rfl,rfl,.refl _,Xj _,λ_ _ _=>rfl,.inl rfl,rfl⟩
  .simp[Builtin.append_,run_underlying ht,sizeOf,typeInfo,hi,Builtin.lenOf,Builtin.firstCells,y,storeCells]
  simpa using d
 obtain⟨rfl,rfl⟩|⟨g,cap,l,rfl,_,hheap,y,r,s,htake⟩:=d.2
 .have o:cells=[]:=Xp (by simpa using d.1);subst o
  by_cases F:ys.length=0
  .have D:news=[]:=Xp (by simpa[F] using k);subst D;refine⟨.slice none 0 0,w,?_,?_,rfl,rfl,.refl _,Xj _,λ_ _ _=>rfl,.inl rfl,rfl⟩
   .simp[Builtin.append_,run_underlying ht,sizeOf,typeInfo,hi,Builtin.lenOf,Builtin.firstCells,F,loadCells,loadCellsFrom]
   rw[F];exact World.ownsRow_nil w 0 e f.size
  have A:=run_append_nil (P:=P) w t ty e f z ht hi I a ys.length c news k h oM (by simpa using h63') (by have q:=hbytes;simp only[X8]at q;omega);have x:=made 0 oM;simp only[X8,QF,Array.empty_append]at x ⊢;exact⟨_,_,A,x,rfl,rfl,.cells w.drew _ _,sI,λb q _=>heap_alloc_old w.drew _ b q,.inr ⟨rfl,sI⟩,rfl⟩
 have i:=d.1
 by_cases hroom:n+ys.length<=cap
 .have hfit:n*f.size+news.length<=l.size:=by rw[k,s,←Ka];exact Xv _ hroom
  have A:=run_append_room (P:=P) w t ty e f ht hi g n cap l hheap a ys.length c news k h hone hroom hfit
  refine⟨_,_,A,⟨by rw[Xq,i,k,Ka],.inr ⟨g,cap,_,rfl,Xh _,setRow_heap w g l _ e _ hheap,hroom,r,?_,?_⟩⟩,rfl,rfl,.setRow _ _ _,sI,
   λb _ E=>setRow_other w g b _ (λe=>E (by simp[qf,e])),.inl rfl,rfl⟩
  .simp only[KU,Xq,Xo,KB,Qw];omega
  rw[htake,Ka,←k,←i];rw[KK sI];exact Xi sI
 have holds:∀(j:Nat) (u:Value),cells[j]?=some u->w.cell? ((⟨g,0,none⟩:Addr).add j)=some u:=λj u N=>by rw[ye,X8];exact zbo hheap htake N
 have A:=run_append_grow (P:=P) w t ty e f z ht hi I ⟨g,0,none⟩ n cap cells i holds a ys.length c news k h oM (by push_cast;exact h63') (growslice_fits oM hbytes);exact⟨_,_,A,made cap oM,rfl,rfl,.cells w.drew _ _,sI,λb q _=>heap_alloc_old w.drew _ b q,.inr ⟨rfl,sI⟩,rfl⟩
def zqI{P:Program}{t ty e:TypeId}{f:TypeInfo}{z:Value}(ht:P.underlying t=some (.slice e))(hi:P.info? e=some f)(r:f.zero=some z)(q:z.cells.size=f.size){w:World}(ad:Option Addr){S:LI}{α:Type}{enc:α->LR}{ys:List α}{vx:Value}{news:LA}(s:Src S w enc f.size ys vx news)(k:ys≠[])(i:ys.length<=maxLen)(hbytes:ys.length*f.bytes<=140737488355328):
  ∃n w',(Builtin.append_ #[t,t] ty #[.slice ad 0 0,vx]).run P w=.ok n w'/\w'.ownsRow 0 e f.size n ys.length news/\w'.os=w.os/\w'.tape=w.tape/\kR w w'/\w.heap.size<=w'.heap.size/\
   (∀b,b<w.heap.size->w'.heap[b]?=w.heap[b]?)/\(qf n=some w.heap.size/\w.heap.size<w'.heap.size)/\n.oneCell'=true:=by
 obtain⟨h,hone,_,x⟩:=s;have h63':(ys.length:Int)<=9223372036854775807:=by unfold maxLen at i;omega
 have hpos:0<ys.length:=JS.2 k
 have made:(w.drew.alloc (.cells (news.toArray++Builtin.zeroCells z.cells (grownCap w ys.length 0 e-ys.length)) e)).ownsRow 0 e f.size
    (.slice (some ⟨w.heap.size,0,none⟩) ys.length (grownCap w ys.length 0 e)) ys.length news:=by
  have p:=grownCap_ge w ys.length 0 e;refine⟨h,.inr ⟨w.heap.size,_,_,rfl,Xh _,heap_alloc_new w.drew _,p,grownCap_le_maxLen w _ 0 e i,?_,?_⟩⟩
  .simp only[Jo,KU,size_zeroCells,q,h,←Ka];congr 1;omega
  simp only[Ja];rw[KK (by simp[h])];exact Xi (by simp[h])
 obtain⟨_,rfl⟩|⟨a,c,rfl,d⟩:=x
 .exact absurd rfl k
 cases ad with
 |none=>
  have l:=run_append_nil (P:=P) w t ty e f z ht hi r a ys.length c news h d oM h63' oM;exact⟨_,_,l,made,rfl,rfl,.cells w.drew _ _,sI,λb o=>heap_alloc_old w.drew _ b o,⟨rfl,sI⟩,rfl⟩
 |some g=>
  have l:=run_append_grow (P:=P) w t ty e f z ht hi r g 0 0 [] sI (λj u v=>by simp at v) a ys.length c news h d oM (by simpa using h63') (growslice_fits oM (by simpa using hbytes));simp only[X8,Array.empty_append]at l;exact⟨_,_,l,made,rfl,rfl,.cells w.drew _ _,sI,λb o=>heap_alloc_old w.drew _ b o,⟨rfl,sI⟩,rfl⟩
def zqJ{P:Program}{t ty e:TypeId}{f:TypeInfo}{z:Value}(ht:P.underlying t=some (.slice e))(hi:P.info? e=some f)(B:f.zero=some z)(A:z.cells.size=f.size){w:World}(ad:Option Addr){S:LI}{α:Type}{enc:α->LR}{xs ys:List α}{vx:Value}{olds news:LA}(D:Src S w enc f.size xs (.slice ad xs.length xs.length) olds)(E:Src S w enc f.size ys vx news)(o:ys≠[])(n:xs.length+ys.length<=maxLen)(hbytes:(xs.length+ys.length)*f.bytes<=140737488355328):
  ∃q w',(Builtin.append_ #[t,t] ty #[.slice ad xs.length xs.length,vx]).run P w=.ok q w'/\w'.ownsRow 0 e f.size q (xs.length+ys.length) (olds++news)/\w'.os=w.os/\w'.tape=w.tape/\kR w w'/\w.heap.size<=w'.heap.size/\
   (∀b,b<w.heap.size->w'.heap[b]?=w.heap[b]?)/\(qf q=some w.heap.size/\w.heap.size<w'.heap.size)/\q.oneCell'=true:=by
 obtain⟨l,hone,_,F⟩:=E;obtain⟨i,_,_,p⟩:=D;have h63':(xs.length+ys.length:Int)<=9223372036854775807:=by unfold maxLen at n;omega
 have hpos:0<ys.length:=JS.2 o
 have made:∀old:Nat,(w.drew.alloc (.cells (olds.toArray++news.toArray++Builtin.zeroCells z.cells (grownCap w (xs.length+ys.length) old e-(xs.length+ys.length))) e)).ownsRow 0 e f.size
    (.slice (some ⟨w.heap.size,0,none⟩) (xs.length+ys.length) (grownCap w (xs.length+ys.length) old e)) (xs.length+ys.length) (olds++news):=by
  intro old;have s:=grownCap_ge w (xs.length+ys.length) old e;refine⟨by rw[Xq,i,l,Ka],.inr ⟨w.heap.size,_,_,rfl,Xh _,heap_alloc_new w.drew _,s,grownCap_le_maxLen w _ old e n,?_,?_⟩⟩
  .simp only[Jo,KU,size_zeroCells,A,i,l,←Ka];congr 1;omega
  simp only[Ja];rw[KK (by simp[i,l,Ka])];exact Xi (by simp[i,l,Ka])
 obtain⟨_,rfl⟩|⟨a,c,rfl,d⟩:=F
 .exact absurd rfl o
 cases ad with
 |none=>
  have y:xs=[]:=by
   obtain⟨_,h⟩|⟨_,_,h,_⟩:=p
   .exact h
   cases h
  subst y;have v:olds=[]:=Xp (by simpa using i);subst v;have x:=run_append_nil (P:=P) w t ty e f z ht hi B a ys.length c news l d oM (by simpa using h63') (by simp only[Xs,X8]at hbytes;omega);have:=made 0;simp only[Xs,X8,QF]at this;refine⟨_,_,x,?_,rfl,rfl,.cells w.drew _ _,sI,λb r=>heap_alloc_old w.drew _ b r,⟨rfl,sI⟩,rfl⟩
  simpa using this
 |some g=>
  have k:∀(j:Nat) (u:Value),olds[j]?=some u->w.cell? (g.add j)=some u:=by
   obtain⟨h,_⟩|⟨G,I,h,C⟩:=p
   .cases h
   cases h;exact C
  have x:=run_append_grow (P:=P) w t ty e f z ht hi B g xs.length xs.length olds (by simp[i]) k a ys.length c news l d oM (by simpa using h63') (growslice_fits oM (by simpa using hbytes));exact⟨_,_,x,made _,rfl,rfl,.cells w.drew _ _,sI,λb r=>heap_alloc_old w.drew _ b r,⟨rfl,sI⟩,rfl⟩
def zwL:∀{M:LT} {k:Nat} {m:Mem},zW M k=some m->qN M k m=M
 |[],_,_,h=>by simp[zW]at h
 |(a,d)::r,k,m,h=>by
  simp only[zW]at h;simp only[qN]
  split at h
  .cases h;rfl
  rw[zwL h]
def zCP{P:Program}{Keep:LI}{M:LT}{O:zh}{w:World}(hm:zJ Keep M O w){k:Nat}{T:TypeId}{α:Type}{enc:α->LR}{sz:Nat}{xs:List α}(C:(k,Mem.arr T enc sz xs)∈M){b len cap lo n Y:Nat}(hρ:O k=some (.slice (some ⟨b,0,none⟩) len cap))(hln:lo+n<=xs.length){ys:List α}{news:LA}(U:news.length=ys.length*sz/\(∀u∈news,u.oneCell'=true)/\(∀(i j:Nat) y (s:SV),ys[i]?=some y->(enc y)[j]?=some s->∃u,news[i*sz+j]?=some u/\D (λb=>Keep b∨Own M O b) w s u))(hysz:∀y∈ys,(enc y).length=sz){o:Oper}{a:Act}{r:Value}(hr:∀T p,w.heap[b]?=some (.cells p T (0,0))->lo*sz+min ys.length n*sz<=p.size->(execOp a.eval o).run P w=.ok (.value r)
   (w.setRow b (p.toList.take (lo*sz)++news.take (min ys.length n*sz)++p.toList.drop (lo*sz+min ys.length n*sz)).toArray)):
  qM P o a w (qc Keep M O w Y (.val r) (.set k (.arr T enc sz (xs.take lo++(ys.take n++xs.drop (lo+min ys.length n)))))):=by
 obtain⟨v0,cells,hρ',E,Z,hone0,hesz,q⟩:=hm.rel k _ C;rw[hρ]at hρ';cases hρ'
 obtain⟨hlen',p,hheap,Q,V,F,htake⟩:=zeQ rfl E;have f:cells.length=xs.length*sz:=E.1;have hml:min ys.length n<=n:=Nat.min_le_right _ _;have N:min ys.length n<=ys.length:=Nat.min_le_left _ _
 have htk:ys.take n=ys.take (min ys.length n):=by
  rcases Nat.le_total ys.length n with h|h
  .rw[Qn h,Xi h,Xi (Xj _)]
  rw[Nat.min_eq_right h]
 rw[htk];have g:xs.length*sz<=p.toList.length:=by simp[F];exact Xv _ Q
 generalize hmm:min ys.length n=m at*;have hfit:(lo+m)*sz<=xs.length*sz:=Xv _ oM;have hadd:(lo+m)*sz=lo*sz+m*sz:=Ka _ _ _;have R:=hr _ _ hheap (by simp at g;omega)
 have hnews:(news.take (m*sz)).length=m*sz:=by
  rw[Xo,U.1];exact Qn (Xv _ N)
 refine qM.value R<|qc.set (hm.write _ C hρ rfl _ λG=>?_) (.d _ _ (.val _));have A:(xs.take lo++(ys.take m++xs.drop (lo+m))).length=xs.length:=by simp only[Xq,Xo,KB];omega
 refine⟨_,cells.take (lo*sz)++news.take (m*sz)++cells.drop (lo*sz+m*sz),hρ,⟨?_,.inr ⟨b,cap,_,by rw[A,hlen'],Xh _,setRow_heap w b _ _ T _ hheap,by rw[A];exact Q,V,?_,?_⟩⟩,by rw[A];exact Z,?_,?_,?_⟩
 .rw[A];simp only[Xq,Xo,KB,f,U.1];have:=Xv sz N;omega
 .simp only[KU,Xq,hnews,Xo,KB,Qw,F];simp[F]at g;omega
 .rw[A,←htake];have:=zi8 p.toList (news.take (m*sz)) (lo*sz) (xs.length*sz) (by rw[hnews];omega) g;rw[hnews]at this;exact this
 .intro u t;simp only[Xt]at t
  rcases t with(t|t)|t
  .exact hone0 u (XO t)
  .exact U.2.1 u (XO t)
  exact hone0 u (K2 t)
 .intro z v;simp only[Xt]at v
  rcases v with v|v|v
  .exact hesz z (XO v)
  .exact hysz z (XO v)
  exact hesz z (K2 v)
 intro i j x s l B;have hln1:(cells.take (lo*sz)).length=lo*sz:=by rw[Xo,f];omega
 have W:(xs.take lo).length=lo:=by rw[Xo];omega
 have X:(ys.take m).length=m:=by rw[Xo];omega
 have hjs:j<sz:=by
  have hx:x∈xs.take lo++(ys.take m++xs.drop (lo+m)):=Xf l;have:=(Xd.1 B).1;simp only[Xt]at hx
  rcases hx with v|v|v
  .rwa [hesz x (XO v)]at this
  .rwa [hysz x (XO v)]at this
  rwa [hesz x (K2 v)]at this
 by_cases J:i<lo
 .rw[XL oM,XK,Xe J]at l;obtain⟨u,t,I⟩:=q i j x s l B;refine⟨u,?_,I.stp G⟩
  have h5:i*sz+sz<=lo*sz:=by
   have:=Xv sz (X6 J);rw[X7]at this;exact this
  rw[XM,XL oM,XK,Xe oM];exact t
 rw[XF oM,W]at l;have h6:lo*sz<=i*sz:=Xv _ oM
 by_cases L:i-lo<m
 .rw[XL oM,XK,Xe L]at l;obtain⟨u,t,I⟩:=U.2.2 (i-lo) j x s l B;refine⟨u,?_,I.stp G⟩
  have h5:(i-lo)*sz+sz<=m*sz:=by
   have:=Xv sz (X6 L);rw[X7]at this;exact this
  have h7:(i-lo)*sz=i*sz-lo*sz:=Nat.sub_mul _ _ _;rw[XM,XF oM,hln1,XL oM,XK,Xe oM,←t];congr 1;omega
 rw[XF oM,X,KG]at l;rw[show lo+m+(i-lo-m)=i by omega]at l;obtain⟨u,t,I⟩:=q i j x s l B;refine⟨u,?_,I.stp G⟩;have h7:(lo+m)*sz<=i*sz:=Xv _ oM;rw[XM,XF oM,hln1,XF oM,hnews,KG,←t];congr 1;omega
def zwM{P:Program}{t e:TypeId}{f:TypeInfo}{z:Value}{zs:LA}(W:P.underlying t=some (.slice e))(hz:f.zero=some z)(hi:P.info? e=some f)(U:z.cells.toList=zs)(I:zs.length=f.size)(V:∀u∈zs,u.oneCell'=true){Keep:LI}{M:LT}{O:zh}{w:World}(X:zJ Keep M O w){k:Nat}{T:TypeId}{α:Type}{enc:α->LR}{sz:Nat}{xs:List α}(h:(k,Mem.arr T enc sz xs)∈M)(D:f.size=sz){b len cap cap' lo n Y:Nat}(hn:0<n)(hρ:O k=some (.slice (some ⟨b,0,none⟩) len cap))(J:lo+n<=xs.length){C:α}(A:enc C=vals zs){o:Oper}{a:Act}(Z:∀v w',(Builtin.clear_ #[t] o.type #[.slice (some ⟨b,lo*sz,none⟩) n cap']).run P w=.ok v w'->(execOp a.eval o).run P w=.ok (.value v) w'):
  qM P o a w (qc Keep M O w Y (.val (.tuple #[])) (.set k (.arr T enc sz (xs.take lo++(List.replicate n C++xs.drop (lo+n)))))):=by
 have B:z.cells=zs.toArray:=by rw[←U]
 have d:(madeCells z.cells (n*f.size)).toList.length=n*sz:=by simp[madeCells,D]
 have p:∀q,(madeCells z.cells (n*f.size)).toList[q]?=if q<n*sz then zs[q%sz]? else none:=λq=>by
  have:=zgD zs n q;rw[I,D]at this;rw[B,D];exact this
 have henc:(enc C).length=sz:=by rw[A];simp[vals,I,D]
 have hone:∀u∈(madeCells z.cells (n*f.size)).toList,u.oneCell'=true:=λu E=>by
  obtain⟨q,R,rfl⟩:=JO.1 E;have:=p q;rw[Xb R]at this
  split at this
  .exact V _ (Xf this.symm)
  cases this
 have key:=zCP (P:=P) X h hρ J (ys:=List.replicate n C) (news:=(madeCells z.cells (n*f.size)).toList) (Y:=Y) (o:=o) (a:=a) (r:=.tuple #[])
  ⟨by rw[d,Kq],hone,λi j y s F g=>by
   have N:=KO (Xf F);subst N;have R:i<n:=by simpa using (Xd.1 F).1
   have L:j<sz:=by
    have:=(Xd.1 g).1;rw[henc]at this;exact this
   have h1:i*sz+sz<=n*sz:=by
    have:=Xv sz (show i+1<=n by omega);rw[X7]at this;exact this
   have hmod:(i*sz+j)%sz=j:=by rw[Ky,QH];exact Xy L
   rw[p,Xe oM,hmod];rw[A]at g;simp only[vals,XD]at g
   cases E:zs[j]? with
   |none=>simp[E]at g
   |some u=>
    simp[E]at g;subst g
    exact⟨u,rfl,.val u⟩⟩ (λy F=>by rw[KO F];exact henc) (λT' G hheap hfit=>by
   refine Z _ _ ?_;rw[Kq,Nat.min_self]at hfit ⊢;have x:=run_storeCells_at P b (lo*sz) T' (madeCells z.cells (n*f.size)).toList 0 G w hheap (by rw[d];simpa using hfit) hone;simp only[d,XW]at x;have ht:(madeCells z.cells (n*f.size)).toList.take (n*sz)=(madeCells z.cells (n*f.size)).toList:=Xi (by rw[d];exact Xj _);rw[ht]
   have Q:(Builtin.zeroCells z.cells n).toList=(madeCells z.cells (n*f.size)).toList:=by
    have e:z.cells.size=f.size:=by rw[B];simpa using I
    simp[Builtin.zeroCells,madeCells,e]
   obtain⟨m,rfl⟩:∃m,n=m+1:=⟨n-1,oM⟩
   simp[Builtin.clear_,run_underlying W,zeroValue,typeInfo,hi,hz,Q,x])
 rw[Kq,Nat.min_self,Xi (l:=List.replicate n C) (by rw[Kq];exact Xj _)]at key;exact key
def zqK{w:World}(C:zJ Keep M O w){k:Nat}{T:TypeId}{ys:LN}(f:(k,Mem.garr T sz ys)∈M){v:Value}(hρ:O k=some v):
  ∃(qs:LC) (news:LA),qs.length=ys.length/\Src (λb=>Keep b∨Own M O b) w (λn:Nat=>List.replicate n SV.junk) sz qs v news/\(∀y∈ys,y.length=sz)/\
   ∀(i j:Nat) x (s:SV),ys[i]?=some x->x[j]?=some s->∃u,news[i*sz+j]?=some u/\G (λb=>Keep b∨Own M O b) (Own M O) O w s u:=by
 obtain⟨E,cells,hρ',d,p,hone,hesz,a⟩:=C.rel k _ f;rw[hρ]at hρ';cases hρ'
 refine⟨ys.map List.length,cells,sI,⟨by rw[Xw];exact d.1,hone,λi j n s h q=>?_,?_⟩,hesz,a⟩
 .rw[XD]at h
  cases o:ys[i]? with
  |none=>simp[o]at h
  |some y=>
   simp[o]at h;subst h
   have B:j<y.length:=by
    have:=(Xd.1 q).1
    simpa using this
   obtain⟨u,l,_⟩:=a i j y _ o (Xb B);have:s=.junk:=KO (Xf q);subst this;exact⟨u,l,.junk _⟩
 rw[Xw]
 obtain⟨rfl,A⟩|⟨g,cap,r,rfl,_,hheap,D,t,z,htake⟩:=d.2
 .exact .inl ⟨rfl,by rw[Xp A];rfl⟩
 exact .inr ⟨_,cap,rfl,λj u l=>by rw[ye,X8];exact zbo hheap htake l⟩
variable{Y:Nat}
def zJ.regrow{w:World}(g:zJ Keep M O w){k:Nat}{A:Mem}{v:Value}(a:(k,A)∈M)(r:O k=some v)(hκ:O Y=none)(hκM:∀m,(Y,m)∉M){d:Value}{m:Mem}{w':World}(q1:w'.os=w.os)(B:w'.tape=w.tape)(C:kR w w')(t:w.heap.size<=w'.heap.size)(u:∀b,b<w.heap.size->qf v≠some b->w'.heap[b]?=w.heap[b]?)(j:qf d=qf v∨(qf d=some w.heap.size/\w.heap.size<w'.heap.size))(D:d.oneCell'=true)(h:Stp (Own M O) (Own ((Y,m)::qb M k) (upd O Y d)) O (upd O Y d) w w'->
   jN (λb=>Keep b∨Own ((Y,m)::qb M k) (upd O Y d) b) (Own ((Y,m)::qb M k) (upd O Y d)) (upd O Y d) w' Y m):qc Keep M O w Y (.own Y) (.repl k m) d w':=by
 have hgrow:=g.grow (M1:=qb M k) (λx z=>qj x z) (qP g.keys) hκ hκM d m w' q1 B C t
  (λb q y=>u b q (λl=>y ⟨k,_,v,a,r,l⟩))
  (λn m v1 b i o p=>u b (g.old b ⟨n,m,v1,qj _ i,o,p⟩).1 (λl=>g.apart n m k _ v1 v b (qj _ i) a (vu g.keys _ i) o r p l))
  (λb q=>by
   rcases j with j|⟨j,E⟩
   .rw[q]at j;have s:Own M O b:=⟨k,_,v,a,r,j.symm⟩;exact⟨.inl s,Xx (g.old b s).1 t,λn m v1 i o p=>g.apart n m k _ v1 v b (qj _ i) a (vu g.keys _ i) o r p j.symm⟩
   rw[q]at j;cases j
   exact⟨.inr (Xj _),E,λn m v1 i o p=>by have:=(g.old _ ⟨n,m,v1,qj _ i,o,p⟩).1;omega⟩) h
 exact⟨upd O Y d,hgrow.1,hgrow.2,.own _ _ kG D,λn f=>zf2 (by
  rcases f with f|f
  .omega
  simp only[zb5]at f;omega)⟩
def zh9{R R':SV->Value->Prop}{α:Type _}{enc:α->LR}{xs more:List α}{cells news:LA}(hRR:∀s u,R s u->R' s u)(h:cells.length=xs.length*sz)(a:∀(i j:Nat) y (s:SV),xs[i]?=some y->(enc y)[j]?=some s->∃u,cells[i*sz+j]?=some u/\R s u)(hnew:∀(i j:Nat) y (s:SV),more[i]?=some y->(enc y)[j]?=some s->∃u,news[i*sz+j]?=some u/\R s u)(p q:Nat)(y:α)(s:SV)(f:(xs++more)[p]?=some y)(k:(enc y)[q]?=some s):∃u,(cells++news)[p*sz+q]?=some u/\R' s u:=by
 rw[KY]at f
 split at f
 .obtain⟨u,d,g⟩:=a p q y s f k;exact⟨u,by rw[XL (Xd.1 d).1];exact d,hRR _ _ g⟩
 obtain⟨u,d,g⟩:=hnew (p-xs.length) q y s f k;have hmul:p*sz=xs.length*sz+(p-xs.length)*sz:=by rw[←Ka];congr 1;omega
 exact⟨u,by rw[XF (by rw[h,hmul];omega),h,hmul,show xs.length*sz+(p-xs.length)*sz+q-xs.length*sz=(p-xs.length)*sz+q by omega];exact d,hRR _ _ g⟩
variable{H:LS}{K:LD}
def zmH(hT:TOK P H)(E:c.callee=.builtin .append){s:SV}{k':Nat}{e':TypeId}{Z:Nat}{ys:LN}(hlk':lm k'=some (.garr e' Z ys))(h:zkl H c.argTypes.toList s e' Z ys lm Y K):∃r md,K r md/\yU P (.call c) [s,.own k'] lm Y r md:=by
 unfold zkl at h
 split at h
 .rename_i t t' htys;have htys:=zh7 htys;replace h:=zj h;obtain⟨hteq,h⟩:=h;have hteq:=Xk hteq;subst hteq;replace h:=zE h;obtain⟨i,hi,h⟩:=h;have W:=(hT t i hi).kind
  split at h
  .rename_i e hkind;rw[hkind]at W;have W:P.underlying t=some (.slice e):=W;replace h:=zE h;obtain⟨j,hj,h⟩:=h;obtain⟨f,h1,N,h3,z,h4,h5,h6,h7,h8⟩:=(hT e j hj).inf;have X:z.cells.size=f.size:=by rw[N,←h7,←h5];simp
   replace h:=zj h;obtain⟨l,h⟩:=h;replace h:=zj h;obtain⟨A,h⟩:=h;have l:=Xk l;have A:=Xk A;subst l;subst A
   split at h
   .obtain⟨e1,e2,e3⟩:=h.ob;refine⟨_,_,h.go,λo ho Keep M O a w G I hκ hκM n=>?_⟩;replace hκ:=hκ _ (Xj _) (X5 _);replace hκM:=hκM rfl;have n:=vy E n;obtain⟨v,vs',U,g,gr⟩:=n.cons_inv;obtain⟨vx,vs'',hvs',gx,gn⟩:=gr.cons_inv;subst hvs';have hn:=gn.nil_inv;subst hn;obtain⟨D,_⟩:=gx.own_inv;obtain⟨qs,news,B,hsrc,hesz',hcells'⟩:=zqK I (zA (G k' _ hlk')) D;rw[←B]at e1 e2;obtain⟨cs,hr⟩:=jn (P:=P) (w:=w) ho E U;rw[g.val_inv]at hr
    have Q:(0+qs.length)*f.bytes<=140737488355328:=by rw[h3,X8];omega
    obtain⟨V,w',C,d,q1,q2,q3,q4,q5,J,q7⟩:=zbp (ty:=o.type) W h1 h4 X (World.ownsRow_nil w 0 e f.size) (N ▸ hsrc) (by unfold maxLen;omega) Q;refine qM.value (v:=V) (w':=w') (by rw[hr,htys];simp only[builtin,Sem.run_bind,C,Result.andThen_ok,Sem.run_pure])<|qc.push (u:=V) (I.grow (λ_ h=>h) I.keys hκ hκM V _ w' q1 q2 q3 q4 (λb E _=>q5 b E (by simp[qf])) (λk m v b g1 g2 g3=>q5 b (I.old b ⟨k,m,v,g1,g2,g3⟩).1 (by simp[qf])) ?_ ?_) (.own _ _ kG q7)
    .intro b E
     rcases J with J|⟨J,q8⟩
     .rw[E]at J;simp[qf]at J
     rw[E]at J;cases J
     exact⟨.inr (Xj _),q8,λk m v1 g1 g2 g3=>by have:=(I.old _ ⟨k,m,v1,g1,g2,g3⟩).1;omega⟩
    intro hs;refine⟨V,news,kG,by rw[←N];rw[B]at d;simpa using d,oM,hsrc.2.1,hesz',λp q y s' hy R=>?_⟩;obtain⟨u,T,hd⟩:=hcells' p q y s' hy R;exact⟨u,T,hd.stp hs⟩
   .rename_i k
    split at h
    .rename_i e'' sz xs hlk;replace h:=zj h;obtain⟨l,h⟩:=h;replace h:=zj h;obtain⟨A,h⟩:=h;have l:=Xk l;have A:=Xk A;subst l;obtain⟨e1,e2,e3⟩:=h.ob;refine⟨_,_,h.go,λo ho Keep M O a w G I hκ hκM n=>?_⟩;replace hκ:=hκ _ (Xj _) (X5 _);replace hκM:=hκM rfl;have L:=zA (G k _ hlk);have n:=vy E n;obtain⟨v,vs',U,g,gr⟩:=n.cons_inv;obtain⟨vx,vs'',hvs',gx,gn⟩:=gr.cons_inv;subst hvs';have hn:=gn.nil_inv;subst hn
     obtain⟨D,_⟩:=gx.own_inv;obtain⟨qs,news,B,hsrc,hesz',hcells'⟩:=zqK I (zA (G k' _ hlk')) D;rw[←B]at e1 e2;obtain⟨cs,hr⟩:=jn (P:=P) (w:=w) ho E U;obtain⟨hv,_⟩:=g.own_inv;obtain⟨v0,cells,hρ,d,hnl,hone0,hesz,F⟩:=I.rel k _ L;rw[hv]at hρ;cases hρ
     have Q:(xs.length+qs.length)*f.bytes<=140737488355328:=by rw[h3];exact JW.1 (by rw[Kb,QR];exact e1)
     have hsf:sz=f.size:=by rw[A,N]
     subst hsf;obtain⟨V,w',C,hown',q1,q2,q3,q4,q5,J,q7⟩:=zbp (ty:=o.type) W h1 h4 X d (N ▸ hsrc) (by unfold maxLen;omega) Q;refine qM.value (v:=V) (w':=w') (by rw[hr,htys];simp only[builtin,Sem.run_bind,C,Result.andThen_ok,Sem.run_pure])<|I.regrow L hv hκ hκM q1 q2 q3 q4 q5 J q7 λhs=>?_
     refine⟨V,cells++news,kG,by rw[B]at hown';simpa using hown',by simp;omega,λu T=>?_,λx D=>?_,λp q x s' D R=>?_⟩
     .rcases Xt.1 T with T|T
      .exact hone0 u T
      exact hsrc.2.1 u T
     .rcases Xt.1 D with D|D
      .exact hesz x D
      rw[hesz' x D,N]
     exact zh9 (λs u q=>q.stp hs) d.1 F (N.symm ▸ hcells') p q x s' D R
    exact h.elim
   exact h.elim
  exact h.elim
 exact h.elim
def zgE(hT:TOK P H)(E:c.callee=.builtin .append){s x:SV}(h:zjM H c.argTypes.toList s x lm Y K):∃r md,K r md/\yU P (.call c) [s,x] lm Y r md:=by
 unfold zjM at h
 split at h
 .rename_i t t' htys;have htys:=zh7 htys;replace h:=zj h;obtain⟨hteq,h⟩:=h;have hteq:=Xk hteq;subst hteq;replace h:=zE h;obtain⟨i,hi,h⟩:=h;have hk:=(hT t i hi).kind
  split at h
  .rename_i e hkind;rw[hkind]at hk;have hk:P.underlying t=some (.slice e):=hk;replace h:=zE h;obtain⟨j,hj,h⟩:=h;obtain⟨f,h1,U,h3,z,h4,h5,h6,h7,h8⟩:=(hT e j hj).inf;have hzs:z.cells.size=f.size:=by rw[U,←h7,←h5];simp
   split at h
   .obtain⟨α,enc,ys,G,h⟩:=h;obtain⟨e1,e2,e3,e4⟩:=h.ob;refine⟨_,_,h.go,λo ho Keep M O a w C B hκ hκM l=>?_⟩;replace hκ:=hκ _ (Xj _) (X5 _);replace hκM:=hκM rfl;have l:=vy E l;obtain⟨v,vs',I,g,gr⟩:=l.cons_inv;obtain⟨vx,vs'',hvs',gx,gn⟩:=gr.cons_inv;subst hvs';have hn:=gn.nil_inv;subst hn;obtain⟨news,hsrc⟩:=v6 G C B gx e3 e4;obtain⟨cs,W⟩:=jn (P:=P) (w:=w) ho E I;rw[g.val_inv]at W;have Q:(0+ys.length)*f.bytes<=140737488355328:=by rw[h3,X8];omega
    obtain⟨N,w',A,n,q1,q2,q3,q4,q5,L,q7⟩:=zbp (ty:=o.type) hk h1 h4 hzs (World.ownsRow_nil w 0 e f.size) (U ▸ hsrc) (by unfold maxLen;omega) Q;refine qM.value (v:=N) (w':=w') (by rw[W,htys];simp only[builtin,Sem.run_bind,A,Result.andThen_ok,Sem.run_pure])<|qc.push (u:=N) (B.grow (λ_ h=>h) B.keys hκ hκM N _ w' q1 q2 q3 q4 (λb E _=>q5 b E (by simp[qf])) (λk m v b g1 g2 g3=>q5 b (B.old b ⟨k,m,v,g1,g2,g3⟩).1 (by simp[qf])) ?_ ?_) (.own _ _ kG q7)
    .intro b E
     rcases L with L|⟨L,q8⟩
     .rw[E]at L;simp[qf]at L
     rw[E]at L;cases L
     exact⟨.inr (Xj _),q8,λk m v1 g1 g2 g3=>by have:=(B.old _ ⟨k,m,v1,g1,g2,g3⟩).1;omega⟩
    intro hs;refine⟨N,news,kG,by rw[←U];simpa using n,e2,hsrc.2.1,e4,λp q y s' Z J=>?_⟩;obtain⟨u,D,hd⟩:=hsrc.2.2.1 p q y s' Z J;exact⟨u,D,hd.stp hs⟩
   .rename_i k
    split at h
    .rename_i e' α enc sz xs hlk;replace h:=zj h;obtain⟨V,h⟩:=h;replace h:=zj h;obtain⟨X,h⟩:=h;have V:=Xk V;have X:=Xk X;subst V;obtain⟨ys,G,h⟩:=h;obtain⟨e1,e2,e3,e4⟩:=h.ob;refine⟨_,_,h.go,λo ho Keep M O a w C B hκ hκM l=>?_⟩;replace hκ:=hκ _ (Xj _) (X5 _);replace hκM:=hκM rfl;have T:=zA (C k _ hlk);have l:=vy E l;obtain⟨v,vs',I,g,gr⟩:=l.cons_inv;obtain⟨vx,vs'',hvs',gx,gn⟩:=gr.cons_inv;subst hvs';have hn:=gn.nil_inv
     subst hn;obtain⟨news,hsrc⟩:=v6 G C B gx e3 e4;obtain⟨cs,W⟩:=jn (P:=P) (w:=w) ho E I;obtain⟨hv,_⟩:=g.own_inv;obtain⟨v0,cells,hρ,n,hnl,hone0,hesz,R⟩:=B.rel k _ T;rw[hv]at hρ;cases hρ
     have Q:(xs.length+ys.length)*f.bytes<=140737488355328:=by rw[h3];exact JW.1 (by rw[Kb,QR];exact e1)
     have hsf:sz=f.size:=by rw[X,U]
     subst hsf;obtain⟨N,w',A,hown',q1,q2,q3,q4,q5,L,q7⟩:=zbp (ty:=o.type) hk h1 h4 hzs n (U ▸ hsrc) (by unfold maxLen;omega) Q;refine qM.value (v:=N) (w':=w') (by rw[W,htys];simp only[builtin,Sem.run_bind,A,Result.andThen_ok,Sem.run_pure])<|B.regrow T hv hκ hκM q1 q2 q3 q4 q5 L q7 λhs=>?_
     refine⟨N,cells++news,kG,by simpa using hown',by simp;omega,λu D=>?_,λx F=>?_,λp q x s' F J=>?_⟩
     .rcases Xt.1 D with D|D
      .exact hone0 u D
      exact hsrc.2.1 u D
     .rcases Xt.1 F with F|F
      .exact hesz x F
      rw[e4 x F,U]
     exact zh9 (λs u q=>q.stp hs) n.1 R (U ▸ hsrc.2.2.1) p q x s' F J
    .rename_i e' sz xs hlk;replace h:=zj h;obtain⟨V,h⟩:=h;replace h:=zj h;obtain⟨X,h⟩:=h;have V:=Xk V;have X:=Xk X;subst V;obtain⟨α,enc,ys,G,h⟩:=h;obtain⟨e1,e2,e3,e4⟩:=h.ob;refine⟨_,_,h.go,λo ho Keep M O a w C B hκ hκM l=>?_⟩;replace hκ:=hκ _ (Xj _) (X5 _);replace hκM:=hκM rfl;have T:=zA (C k _ hlk);have l:=vy E l;obtain⟨v,vs',I,g,gr⟩:=l.cons_inv;obtain⟨vx,vs'',hvs',gx,gn⟩:=gr.cons_inv;subst hvs';have hn:=gn.nil_inv
     subst hn;obtain⟨news,hsrc⟩:=v6 G C B gx e3 e4;obtain⟨cs,W⟩:=jn (P:=P) (w:=w) ho E I;obtain⟨hv,_⟩:=g.own_inv;obtain⟨v0,cells,hρ,n,hnl,hone0,hesz,R⟩:=B.rel k _ T;rw[hv]at hρ;cases hρ
     have Q:(xs.length+ys.length)*f.bytes<=140737488355328:=by rw[h3];exact JW.1 (by rw[Kb,QR];exact e1)
     have hsf:sz=f.size:=by rw[X,U]
     subst hsf;obtain⟨N,w',A,hown',q1,q2,q3,q4,q5,L,q7⟩:=zbp (ty:=o.type) hk h1 h4 hzs n (U ▸ hsrc) (by unfold maxLen;omega) Q;refine qM.value (v:=N) (w':=w') (by rw[W,htys];simp only[builtin,Sem.run_bind,A,Result.andThen_ok,Sem.run_pure])<|B.regrow T hv hκ hκM q1 q2 q3 q4 q5 L q7 λhs=>?_
     refine⟨N,cells++news,kG,by simpa using hown',by simp;omega,λu D=>?_,λx F=>?_,λp q x s' F J=>?_⟩
     .rcases Xt.1 D with D|D
      .exact hone0 u D
      exact hsrc.2.1 u D
     .rcases Xt.1 F with F|F
      .exact hesz x F
      obtain⟨y,Z,rfl⟩:=XN.1 F;rw[e4 y Z,U]
     refine zh9 (λs u q=>q.stp hs) n.1 R (λi j y s Z hs=>?_) p q x s' F J;rw[XD]at Z
     cases hz:ys[i]? with
     |none=>simp[hz]at Z
     |some z=>
      simp[hz]at Z;subst Z;rw[U];exact(hsrc.2.2.1 i j z s hz hs).imp λu q=>⟨q.1,.d _ _ q.2⟩
    exact h.elim
   .rename_i α enc xs;obtain⟨ys,G,h⟩:=h;obtain⟨⟨e0,e1,e2,e3,e5,e4⟩,h⟩:=h;refine⟨_,_,h,λo ho Keep M O a w C B hκ hκM l=>?_⟩;replace hκ:=hκ _ (Xj _) (X5 _);replace hκM:=hκM rfl;have l:=vy E l;obtain⟨v,vs',I,g,gr⟩:=l.cons_inv;obtain⟨vx,vs'',hvs',gx,gn⟩:=gr.cons_inv;subst hvs';have hn:=gn.nil_inv;subst hn;obtain⟨news,hsrc⟩:=v6 G C B gx e3 e4;obtain⟨cs,W⟩:=jn (P:=P) (w:=w) ho E I;obtain⟨ad,hv,hd⟩:=g.full_inv;obtain⟨olds,hold⟩:=zqH hd e3 e5;rw[hv]at W hold
    have Q:(xs.length+ys.length)*f.bytes<=140737488355328:=by rw[h3];exact JW.1 (by rw[Kb,QR];exact e1)
    obtain⟨N,w',A,n,q1,q2,q3,q4,q5,L,q7⟩:=zqJ (ty:=o.type) hk h1 h4 hzs ad (U ▸ hold) (U ▸ hsrc) e0 (by unfold maxLen;omega) Q;refine qM.value (v:=N) (w':=w') (by rw[W,htys];simp only[builtin,Sem.run_bind,A,Result.andThen_ok,Sem.run_pure])<|qc.push (u:=N) (B.grow (λ_ h=>h) B.keys hκ hκM N _ w' q1 q2 q3 q4 (λb E _=>q5 b E) (λk m v b g1 g2 g3=>q5 b (B.old b ⟨k,m,v,g1,g2,g3⟩).1) ?_ ?_) (.own _ _ kG q7)
    .intro b E;obtain⟨L,q8⟩:=L;rw[E]at L;cases L
     exact⟨.inr (Xj _),q8,λk m v1 g1 g2 g3=>by have:=(B.old _ ⟨k,m,v1,g1,g2,g3⟩).1;omega⟩
    intro hs;refine⟨N,olds++news,kG,by rw[←U];simpa using n,by simp;omega,λu D=>?_,λx F=>?_,λp q y s' Z J=>?_⟩
    .rcases Xt.1 D with D|D
     .exact hold.2.1 u D
     exact hsrc.2.1 u D
    .rcases Xt.1 F with F|F
     .exact e5 x F
     exact e4 x F
    have hl:=hold.1;rw[KY]at Z
    split at Z
    .obtain⟨u,D,hd⟩:=hold.2.2.1 p q y s' Z J;refine⟨u,?_,hd.stp hs⟩;have:p*j.sz+q<olds.length:=(Xd.1 D).1;rw[XL this];exact D
    rename_i hge;obtain⟨u,D,hd⟩:=hsrc.2.2.1 (p-xs.length) q y s' Z J;refine⟨u,?_,hd.stp hs⟩;have hge:xs.length<=p:=oM;have hmul:p*j.sz=xs.length*j.sz+(p-xs.length)*j.sz:=by rw[←Ka];congr 1;omega
    rw[XF (by rw[hl,hmul];omega),hl,hmul,show xs.length*j.sz+(p-xs.length)*j.sz+q-xs.length*j.sz=(p-xs.length)*j.sz+q by omega];exact D
   .rcases h with h|h|h
    .obtain⟨α,enc,ys,G,h⟩:=h;obtain⟨⟨e0,e1,e2,e3,e4⟩,h⟩:=h;refine⟨_,_,h,λo ho Keep M O a w C B hκ hκM l=>?_⟩;replace hκ:=hκ _ (Xj _) (X5 _);replace hκM:=hκM rfl;have l:=vy E l;obtain⟨v,vs',I,g,gr⟩:=l.cons_inv;obtain⟨vx,vs'',hvs',gx,gn⟩:=gr.cons_inv;subst hvs';have hn:=gn.nil_inv;subst hn;obtain⟨news,hsrc⟩:=v6 G C B gx e3 e4;obtain⟨cs,W⟩:=jn (P:=P) (w:=w) ho E I;obtain⟨ad,hv⟩:=g.nils_inv;rw[hv]at W
     have Q:ys.length*f.bytes<=140737488355328:=by rw[h3];omega
     obtain⟨N,w',A,n,q1,q2,q3,q4,q5,L,q7⟩:=zqI (ty:=o.type) hk h1 h4 hzs ad (U ▸ hsrc) e0 (by unfold maxLen;omega) Q;refine qM.value (v:=N) (w':=w') (by rw[W,htys];simp only[builtin,Sem.run_bind,A,Result.andThen_ok,Sem.run_pure])<|qc.push (u:=N) (B.grow (λ_ h=>h) B.keys hκ hκM N _ w' q1 q2 q3 q4 (λb E _=>q5 b E) (λk m v b g1 g2 g3=>q5 b (B.old b ⟨k,m,v,g1,g2,g3⟩).1) ?_ ?_) (.own _ _ kG q7)
     .intro b E;obtain⟨L,q8⟩:=L;rw[E]at L;cases L
      exact⟨.inr (Xj _),q8,λk m v1 g1 g2 g3=>by have:=(B.old _ ⟨k,m,v1,g1,g2,g3⟩).1;omega⟩
     intro hs;refine⟨N,news,kG,by rw[←U];exact n,e2,hsrc.2.1,e4,λp q y s' Z J=>?_⟩;obtain⟨u,D,hd⟩:=hsrc.2.2.1 p q y s' Z J;exact⟨u,D,hd.stp hs⟩
    .obtain⟨α,enc,G,e3,h⟩:=h;refine⟨_,_,h,λo ho Keep M O a w C B _ _ l=>?_⟩;have l:=vy E l;obtain⟨v,vs',I,g,gr⟩:=l.cons_inv;obtain⟨vx,vs'',hvs',gx,gn⟩:=gr.cons_inv;subst hvs';have hn:=gn.nil_inv;subst hn;obtain⟨news,hl,_,_,F⟩:=v6 G C B gx e3 (λx F=>by cases F);obtain⟨cs,W⟩:=jn (P:=P) (w:=w) ho E I;obtain⟨ad,hv⟩:=g.nils_inv;rw[hv]at W
     have A:(Builtin.append_ #[t,t] o.type #[.slice ad 0 0,vx]).run P w=.ok (.slice ad 0 0) w:=by
      obtain⟨rfl,_⟩|⟨a',c',rfl,_⟩:=F
      .cases ad <;> simp[Builtin.append_,run_underlying hk,sizeOf,typeInfo,h1,Builtin.lenOf,Builtin.firstCells,storeCells]
      cases ad <;> simp[Builtin.append_,run_underlying hk,sizeOf,typeInfo,h1,Builtin.lenOf,Builtin.firstCells,storeCells,loadCells,loadCellsFrom]
     exact qM.value (v:=.slice ad 0 0) (w':=w) (by rw[W,htys];simp only[builtin,Sem.run_bind,A,Result.andThen_ok,Sem.run_pure]) (qc.same B (.d _ _ (.nils ad)))
    exact h.elim
   exact h.elim
  exact h.elim
 exact h.elim
def zfu(i:c.callee=.builtin b){u:Value}(p:∀{Keep:LI} {M:LT} {O:zh} {w:World} {vs:LA},(∀k m,lm k=some m->(k,m)∈M)->zJ Keep M O w->Gs (λb=>Keep b∨Own M O b) (Own M O) O w svs vs->
   ∀ty h,(builtin b c.argTypes ty h vs.toArray).run P w=.ok (.value u) w):yU P (.call c) svs lm Y (.val u) .none:=.read λo l Keep M O a w f j d=>by
 obtain⟨h,n⟩:=jn (P:=P) (w:=w) l i rfl;exact⟨_,n.trans (p f j (vy i d) _ _),(zaM.val _).g⟩
variable{vs:LA}{m:Nat}
def zia{t:TypeId}(htys:tys=#[t])(d:P.underlying t=some (.slice e)){w:World}{s:SV}(g:Gs S Pm O w [s] vs)(f:∀{v},G S Pm O w s v->∃ad cap,v=.slice ad m cap)(ty:TypeId)(a):(builtin .len tys ty a vs.toArray).run P w=.ok (.value (.int .i64 m)) w:=by
 obtain⟨v,h,rfl,g,gr⟩:=g.cons_inv;obtain⟨ad,cap,rfl⟩:=f g;rw[gr.nil_inv,htys];simp only[builtin,Sem.run_bind,zCN d w ad m cap,Result.andThen_ok,Sem.run_pure]
def zy2{t:TypeId}(htys:tys=#[t])(d:P.underlying t=some (.slice e)){w:World}{s:SV}(g:Gs S Pm O w [s] vs)(f:∀{v},G S Pm O w s v->∃ad n,v=.slice ad n m)(ty:TypeId)(a):(builtin .cap tys ty a vs.toArray).run P w=.ok (.value (.int .i64 m)) w:=by
 obtain⟨v,h,rfl,g,gr⟩:=g.cons_inv;obtain⟨ad,n,rfl⟩:=f g;rw[gr.nil_inv,htys];simp only[builtin,Sem.run_bind,zCO d w ad n m,Result.andThen_ok,Sem.run_pure]
def zmI(hT:TOK P H)(y:c.callee=.builtin b)(hlive:Live lm svs)(h:zkm H b c.argTypes.toList svs lm Y K):∃r md,K r md/\yU P (.call c) svs lm Y r md:=by
 obtain⟨Keep0,M0,ρ0,w0,vs0,hlm0,X,Q⟩:=hlive;unfold zkm at h
 split at h
 .rename_i s
  split at h
  .rename_i t htys;have htys:=zh6 htys;replace h:=zE h;obtain⟨i,hi,h⟩:=h;have l:=(hT t i hi).kind
   split at h
   .rename_i e hkind;rw[hkind]at l;have l:P.underlying t=some (.slice e):=l;unfold zES at h
    split at h
    .rename_i α enc xs;obtain⟨v0,vs0',rfl,W,_⟩:=Q.cons_inv;exact⟨_,_,h (zy1 W).1,zfu y λ_ _ g=>zia htys l g λg=>have⟨_,ad,cap,E,_⟩:=zy1 g;⟨ad,cap,E⟩⟩
    .rename_i k
     split at h
     .rename_i T α enc sz xs B;obtain⟨v0,vs0',rfl,W,_⟩:=Q.cons_inv;exact⟨_,_,h (zuT X (zA (hlm0 k _ B)) W.own_inv.1).1,zfu y λC F g=>zia htys l g λg=>have⟨_,ad,cap,E,_⟩:=zuT F (C k _ B) g.own_inv.1;⟨ad,cap,E⟩⟩
     .rename_i T sz xs B;obtain⟨v0,vs0',rfl,W,_⟩:=Q.cons_inv;exact⟨_,_,h (zqE X (zA (hlm0 k _ B)) W.own_inv.1).1,zfu y λC F g=>zia htys l g λg=>have⟨_,ad,cap,E,_⟩:=zqE F (C k _ B) g.own_inv.1;⟨ad,cap,E⟩⟩
     exact h.elim
    .exact⟨_,_,h,zfu y λ_ _ g=>zia htys l g λg=>⟨_,_,g.val_inv⟩⟩
    .exact⟨_,_,h,zfu y λ_ _ g=>zia htys l g λg=>have⟨ad,E⟩:=g.nils_inv;⟨ad,_,E⟩⟩
    .rename_i k sz lo n;obtain⟨h0,h⟩:=h;obtain⟨n,rfl⟩:∃m:Nat,n=m:=⟨n.toNat,(Qx h0).symm⟩;exact⟨_,_,h,zfu y λ_ _ g=>zia htys l g λg=>have⟨b,len,cap,cap',_,E,_⟩:=g.win_inv;⟨_,_,E⟩⟩
    exact h.elim
   exact h.elim
  exact h.elim
 .rename_i s
  split at h
  .rename_i t htys;have htys:=zh6 htys;replace h:=zE h;obtain⟨i,hi,h⟩:=h;have l:=(hT t i hi).kind
   split at h
   .rename_i e hkind;rw[hkind]at l;have l:P.underlying t=some (.slice e):=l
    split at h
    .exact⟨_,_,h,zfu y λ_ _ g=>zy2 htys l g λg=>⟨_,_,g.val_inv⟩⟩
    .exact⟨_,_,h,zfu y λ_ _ g=>zy2 htys l g λg=>have⟨ad,E⟩:=g.nils_inv;⟨ad,_,E⟩⟩
    exact h.elim
   exact h.elim
  exact h.elim
 .rename_i s _;obtain⟨k,x,r,hK,he⟩:=zh8 h;refine⟨_,_,hK,zfu y λ_ _ g ty cs=>?_⟩;obtain⟨us,rfl,hl,hy⟩:=he g;simp only[builtin,Builtin.min_,Sem.run_bind,zqF r us x hl hy,Result.andThen_ok,Sem.run_pure]
 .rename_i s _;obtain⟨k,x,r,hK,he⟩:=zh8 h;refine⟨_,_,hK,zfu y λ_ _ g ty cs=>?_⟩;obtain⟨us,rfl,hl,hy⟩:=he g;simp only[builtin,Builtin.max_,Sem.run_bind,zqG r us x hl hy,Result.andThen_ok,Sem.run_pure]
 .rename_i s x
  split at h
  .rename_i kx n;unfold zuL at h
   split at h
   .rename_i t t' htys;have htys:=zh7 htys;replace h:=zE h;obtain⟨i,hi,h⟩:=h;replace h:=zE h;obtain⟨i',hi',h⟩:=h;have l:=(hT t i hi).kind;have G:=(hT t' i' hi').kind
    split at h
    .rename_i e kn hkind hkind';rw[hkind]at l;rw[hkind']at G;have l:P.underlying t=some (.slice e):=l;have G:P.underlying t'=some (.int kn):=G;replace h:=zE h;obtain⟨j,hj,h⟩:=h;obtain⟨f,h1,J,h3,z,h4,h5,h6,L,h8⟩:=(hT e j hj).inf;have hzl:z.cells=j.zero.toArray:=by rw[←h5]
     have I:z.cells.size=f.size:=by rw[J,←L,←h5];simp
     obtain⟨α,enc,x0,hz,h⟩:=h;obtain⟨e0,e1,e2,e3⟩:=h.ob;refine⟨_,_,h.go,λo ho Keep M O a w C F hκ hκM A=>?_⟩;replace hκ:=hκ _ (Xj _) (X5 _);replace hκM:=hκM rfl;have A:=vy y A;obtain⟨v,vs',U,g,gr⟩:=A.cons_inv;obtain⟨vx,vs'',hvs',gx,gn⟩:=gr.cons_inv;subst hvs';have hn:=gn.nil_inv;subst hn;obtain⟨cs,hr⟩:=jn (P:=P) (w:=w) ho y U;rw[g.val_inv,gx.val_inv]at hr;obtain⟨N,hN⟩:∃N:Nat,n=N:=⟨n.toNat,oM⟩;subst hN
     have hbytes:N*f.bytes<=140737488355328:=by rw[h3];exact JW.1 (by rw[Kb];exact e2)
     have hrun:=Lib.run_append_nil_zeros (P:=P) w t t' o.type e f z kx kn l G h1 h4 N oM oM oM oM;refine qM.value (by rw[hr,htys];simp only[builtin,Sem.run_bind,hrun,Result.andThen_ok,Sem.run_pure];rfl) ?_;have hge:=grownCap_ge w N 0 e
     have hmg:∀q,(Builtin.zeroCells z.cells N).toList[q]?=if q<N*j.sz then j.zero[q%j.sz]? else none:=λq=>by
      have:=zgD j.zero N q;rw[L]at this;rw[←this,hzl];unfold madeCells Builtin.zeroCells;simp[L]
     refine qc.push (u:=.slice (some ⟨w.heap.size,0,none⟩) N (grownCap w N 0 e)) (F.grow (λ_ h=>h) F.keys hκ hκM _ _ _ rfl rfl (.cells w.drew _ _) sI (λb y _=>heap_alloc_old w.drew _ b y)
      (λk m v b g1 g2 g3=>heap_alloc_old w.drew _ b (F.old b ⟨k,m,v,g1,g2,g3⟩).1) ?_ ?_) (.own _ _ kG rfl)
     .intro b y;have y:b=w.heap.size:=by simp[qf]at y;exact y.symm
      subst y;exact⟨.inr (Xj _),sI,λk m v1 g1 g2 g3=>by have:=(F.old _ ⟨k,m,v1,g1,g2,g3⟩).1;omega⟩
     intro hs
     refine⟨_,(Builtin.zeroCells z.cells N).toList,kG,⟨by rw[Qw,size_zeroCells,I,J,Kq,XT],.inr ⟨w.heap.size,grownCap w N 0 e,_,by rw[Kq,XT],Xh _,heap_alloc_new w.drew _,by simpa using hge,grownCap_le_maxLen w _ 0 e (by unfold maxLen;omega),?_,?_⟩⟩,by simp;omega,
      λu hu=>?_,λx V=>by rw[KO V,hz];simp[vals,L],λp q x s V D=>?_⟩
     .simp only[Jo,size_zeroCells,I,J,←Ka];congr 1;omega
     .simp only[Ja,Kq,XT];rw[KK (by simp[size_zeroCells,I,J])];exact Xi (by simp[size_zeroCells,I,J])
     .obtain⟨q,hq,rfl⟩:=JO.1 hu;have:=hmg q;rw[Xb hq]at this
      split at this
      .exact h8 _ (Xf this.symm)
      cases this
     have hxm:=KO (Xf V);subst hxm;have hp:p<N:=by simpa using (Xd.1 V).1
     have hqj:q<j.sz:=by
      have:=(Xd.1 D).1;rw[hz]at this;simpa[vals,L] using this
     have h9:p*j.sz+j.sz<=N*j.sz:=by
      have:=Xv j.sz (show p+1<=N by omega);rw[X7]at this;exact this
     have hmod:(p*j.sz+q)%j.sz=q:=by rw[Ky,QH];exact Xy hqj
     rw[hmg,Xe oM,hmod];rw[hz]at D;simp only[vals,XD]at D
     cases hu:j.zero[q]? with
     |none=>simp[hu]at D
     |some u=>
      simp[hu]at D;subst D;exact⟨u,rfl,.val u⟩
    exact h.elim
   exact h.elim
  .rename_i k'
   split at h
   .rename_i hlk';exact zmH hT y hlk' h
   exact zgE hT y h
  exact zgE hT y h
 .rename_i d
  split at h
  .rename_i t htys;have htys:=zh6 htys;replace h:=zE h;obtain⟨i,hi,h⟩:=h;have l:=(hT t i hi).kind
   split at h
   .rename_i e hkind;rw[hkind]at l;have l:P.underlying t=some (.slice e):=l;replace h:=zE h;obtain⟨j,hj,h⟩:=h;obtain⟨f,h1,J,h3,z,h4,h5,h6,L,h8⟩:=(hT e j hj).inf
    split at h
    .rename_i k sz' lo n
     split at h
     .rename_i T α enc sz xs B;replace h:=zj h;obtain⟨R,h⟩:=h;have R:=Xk R;replace h:=zj h;obtain⟨hss',h⟩:=h;have hss':=Xk hss';subst hss';obtain⟨x0,hx0,h⟩:=h;obtain⟨e1,e2,e3⟩:=h.ob;refine⟨_,_,h.go,λo ho Keep M O a w C F _ _ A=>?_⟩;have Z:=zA (C k _ B);have A:=vy y A;obtain⟨v,vs',U,g,gr⟩:=A.cons_inv;have hn:=gr.nil_inv;subst hn;obtain⟨cs,hr⟩:=jn (P:=P) (w:=w) ho y U;obtain⟨b,len,cap,cap',hρ,rfl,_,_⟩:=g.win_inv
      exact zwM (cap':=cap') l h4 h1 h5 (by rw[L,J]) h8 F Z (J.trans R.symm) oM hρ oM hx0 (λv w' V=>by
       rw[hr,htys];simp only[builtin,Sem.run_bind,V,Result.andThen_ok,Sem.run_pure])
     exact h.elim
    exact h.elim
   exact h.elim
  exact h.elim
 exact h.elim
end Go.Gs
