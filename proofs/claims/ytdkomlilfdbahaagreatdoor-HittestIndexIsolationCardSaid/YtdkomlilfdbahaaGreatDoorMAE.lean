/- Slices made and built, structs built. -/
import Derived.Test.YtdkomlilfdbahaaGreatDoorMAD
set_option maxRecDepth 100000
set_option maxHeartbeats 80000000
set_option linter.all false
namespace Go.Gs
def znw(off:Nat):∀(us:LA) (k:Nat) (arr:Array Value),off+k+us.length<=arr.size->
  ((us.zipIdx k).foldl (λ(c:Array Value) (x:Value×Nat)=>c.setIfInBounds (off+x.2) x.1) arr).toList=arr.toList.take (off+k)++us++arr.toList.drop (off+k+us.length)
 |[],k,arr,_=>by simp
 |u::us,k,arr,h=>by
  simp only[Xm]at h;have e:=znw off us (k+1) (arr.setIfInBounds (off+k) u) (by simp;omega);simp only[List.zipIdx_cons,Qo];rw[e];simp only[Q2,Xm];apply KA;intro j;simp only[X9,Xr,Xp,XO,Qy,XM,KK,KB,Xm];rw[show min (off+(k+1)) arr.size=off+k+1 by omega,show min (off+k) arr.size=off+k by omega]
  by_cases a:j<off+k
  .simp only[show j<off+k+1+us.length by omega,show j<off+k+1 by omega,show j<off+(k+1) by omega,show¬(off+k=j) by omega,a,show j<off+k+(us.length+1) by omega,if_true,if_false]
  by_cases d:j=off+k
  .subst d;simp[show off+k<off+k+1+us.length by omega,show off+k<arr.size by omega,show off+k<off+(k+1) by omega]
  by_cases b:j<off+k+1+us.length
  .simp only[b,show¬(j<off+k+1) by omega,show j<off+k+(us.length+1) by omega,a,if_true,if_false];rw[show j-(off+k)=(j-(off+k+1))+1 by omega,K2]
  simp only[b,show¬(j<off+k+(us.length+1)) by omega,if_false];rw[Xc oM];congr 1;omega
def zq4{pl:Nat->Option (Nat×Nat)}{n:Nat}{i:Nat}{r:LC}{s:SV}{l:LR}(h:zce pl n (i::r) (s::l)=true):
  ∃off,pl i=some (off,(kT s).length)/\off+(kT s).length<=n/\yc (kT s)=true/\zce pl n r l=true:=by
 simp only[zce]at h
 split at h
 .rename_i off sz g;obtain⟨a,b⟩:=kr h;obtain⟨e,c⟩:=kr b;obtain⟨f,d⟩:=kr c;have a:=Xk a;subst a;exact⟨off,g,Xw e,f,d⟩
 cases h
def zd6{S Pm:LI}{Z:zh}{w:World}(pl:Nat->Option (Nat×Nat))(plv:Nat->Option (Nat×Nat))(d:∀i p,pl i=some p->plv i=some p)(n:Nat):
  ∀(ids:LC) (svs:LR) (us:LA) (b:LR) (vs:LA),zce pl n ids svs=true->Gs S Pm Z w svs us->Gs S Pm Z w b vs->b.length=n->
  ∃a:LA,Instr.fill plv vs.toArray (ids.zip us)=some a.toArray/\Gs S Pm Z w (zcZ pl ids svs b) a
 |[],[],us,b,vs,_,o,h,_=>⟨vs,by simp[Instr.fill],by simpa[zcZ] using h⟩
 |[],_::_,us,b,vs,c,_,_,_=>by simp[zce]at c
 |i::ids,[],us,b,vs,c,_,_,_=>by simp[zce]at c
 |i::ids,s::svs,us,b,vs,c,o,h,y=>by
  obtain⟨u,l,rfl,q,r⟩:=o.cons_inv;obtain⟨off,p1,z,v,x⟩:=zq4 c;obtain⟨m,_⟩:=v8 v q;have k:=zqW off h m;have f:u.cells.size=(kT s).length:=by have:=m.1;simpa using this
  have t:=h.1
  have j:(vw b off (kT s)).length=n:=by
   unfold vw;simp only[Xr,Xp,KG];omega
  obtain⟨a,e,g⟩:=zd6 pl plv d n ids svs l _ _ x r k j;refine⟨a,?_,by simpa[zcZ,p1,fstO] using g⟩;rw[←e];simp only[List.zip_cons_cons,Instr.fill,d _ _ p1];rw[Xc (by simp[f];omega)];congr 1;apply Q1;have:=znw off u.cells.toList 0 vs.toArray (by simp[f];omega);simp only[XX]at this;rw[←J3]
  simpa using this
variable{S:LI}{Pm:LI}{Z:zh}{vs:LA}
def Gs.len{w:World}{a:LR}(h:Gs S Pm Z w a vs):vs.length=a.length:=h.1
def zap(ps:List (Nat×Operand))(ev:Operand->Value):ps.map (λx=>(x.1,ev x.2))=(ps.map (·.1)).zip ((ps.map (·.2)).map ev):=by
 induction ps with
 |nil=>rfl
 |cons x r a=>simp[a]
variable{P:Program}{I:LS}{ps:Array (Nat×Operand)}{svs:LR}{lm:LJ}{Y:Nat}{K:LD}
def zq5(hT:TOK P I){t:TypeId}(h:ztL I t (ps.toList.map (·.1)) svs K):∃r,K r .none/\yq P (.build t ps) svs lm Y r .none:=by
 unfold ztL at h;replace h:=zE h;obtain⟨i,hi,h⟩:=h;have m:=(hT t i hi).kind;obtain⟨f,J,U,V,z,L,R,W,N,X⟩:=(hT t i hi).inf;have y:z.cells=i.zero.toArray:=by rw[←R]
 split at h
 .rename_i fs k;rw[k]at m;replace h:=zj h;obtain⟨G,h⟩:=h;refine⟨_,h,.pure λo E S Pm Z a w l=>?_⟩;obtain⟨F,hF,hmap,pl,u⟩:=m
  have hplaces:∀i p,zkG I fs i=some p->pl.toArray[i]?=some p:=by
   intro q p b;unfold zkG at b
   split at b
   .rename_i off ft s
    split at b
    .rename_i j D
     cases b
     rw[zvn,←hmap,XD]at s
     cases d:F.toList[q]? with
     |none=>simp[d]at s
     |some fl=>
      simp only[d,Qq,JC,KN]at s;obtain⟨Q,A,B,_⟩:=(hT ft j D).inf
      have key:∀(F:List Field) (pl:List (Nat×Nat)) (q:Nat),F.mapM (λf=>(P.info? f.type).map λi=>(f.offset,i.size))=some pl->F[q]?=some fl->pl[q]?=some (off,j.sz):=by
       intro F
       induction F with
       |nil=>intro pl q _ b;simp at b
       |cons x r T=>
        intro pl q n b;simp only[List.mapM_cons,Option.bind_eq_bind,Option.pure_def]at n
        cases v:P.info? x.type with
        |none=>simp[v]at n
        |some ix=>
         cases H:r.mapM (λf=>(P.info? f.type).map λi=>(f.offset,i.size)) with
         |none=>simp[v,H]at n
         |some rest=>
          simp[v,H]at n;subst n
          cases q with
          |zero=>
           simp at b;subst b;have:ix=Q:=by rw[s.2,A]at v;exact(Xl v).symm
           subst this;simp[s.1,B]
          |succ q=>simpa using T rest q H (by simpa using b)
      simpa using key F.toList pl q u d
    cases b
   cases b
  obtain⟨c,e,g⟩:=zd6 (zkG I fs) (λx=>pl.toArray[x]?) hplaces i.sz (ps.toList.map (·.1)) svs _ (vals i.zero) i.zero G l (Gs.vals _) (by simp[vals,N]);refine⟨.agg c.toArray,?_,.agg _ _ g.1 g.2⟩
  have C:P.built t (ps.map λ(i,x)=>(i,a.eval x)).toList=some c.toArray:=by
   simp only[Program.built,J,hF,L,u,y];rw[←e];congr 1;simp only[JI];exact zap ps.toList a.eval
  simp only[execOp,E,Sem.run_bind,run_build w t _ _ C,Result.andThen_ok,Sem.run_pure]
 .rename_i len e k;rw[k]at m;replace h:=zE h;obtain⟨j,D,h⟩:=h;replace h:=zj h;obtain⟨G,h⟩:=h;obtain⟨fe,A,B,_⟩:=(hT e j D).inf;refine⟨_,h,.pure λo E S Pm Z a w l=>?_⟩;obtain⟨c,O,g⟩:=zd6 (zaL j.sz) (λi=>some (i*fe.size,fe.size)) (λq p b=>by simp only[zaL]at b;rw[B];exact b) i.sz (ps.toList.map (·.1)) svs _ (vals i.zero) i.zero G l (Gs.vals _) (by simp[vals,N]);refine⟨.agg c.toArray,?_,.agg _ _ g.1 g.2⟩;have m:P.underlying t=some (.array len e):=m
  have C:P.built t (ps.map λ(i,x)=>(i,a.eval x)).toList=some c.toArray:=by
   simp only[Program.built,J,m,L,A,y];rw[←O];congr 1;simp only[JI];exact zap ps.toList a.eval
  simp only[execOp,E,Sem.run_bind,run_build w t _ _ C,Result.andThen_ok,Sem.run_pure]
 exact h.elim
def zvo{α:Type 1}(l:List α):∀(n i:Nat),(rep n l)[i]?=if i<n*l.length then l[i%l.length]? else none
 |0,i=>by simp[rep]
 |n+1,i=>by
  simp only[rep,X9,zvo l n]
  by_cases h:i<l.length
  .rw[Xe h,Xe (by rw[Ka];omega),XB h]
  rw[Xc h];have b:i-l.length<n*l.length↔i<(n+1)*l.length:=by rw[Ka];omega
  by_cases a:i<(n+1)*l.length
  .rw[Xe a,Xe (b.2 a)];congr 1;rw[Nat.mod_eq_sub_mod (by omega:l.length<=i)]
  rw[Xc a,Xc (λc=>a (b.1 c))]
def zph{α:Type 1}(n:Nat)(l:List α):(rep n l).length=n*l.length:=by
 induction n with
 |zero=>simp[rep]
 |succ n a=>simp[rep,a,Ka];omega
def zgU(z:LA)(n i:Nat):(madeCells z.toArray (n*z.length)).toList[i]?=if i<n*z.length then z[i%z.length]? else none:=by
 unfold madeCells
 by_cases h:i<n*z.length
 .rw[Xe h]
  have c:0<z.length:=by
   rcases KC z.length with a|a
   .rw[a]at h;omega
   exact a
  have b:i%z.length<z.length:=Kq _ c;simp[h,b]
 rw[Xc h];simp;omega
def zFK{w:World}(z:LA)(n:Nat):Gs S Pm Z w (rep n (vals z)) (madeCells z.toArray (n*z.length)).toList:=by
 refine⟨by simp[zph,vals,madeCells],λj s v a b=>?_⟩;rw[zvo]at a;rw[zgU]at b;simp only[vals,Xv,XD]at a
 split at a
 .rename_i c;rw[Xe c]at b;rw[b]at a;simp at a;subst a;exact .d _ _ (.val v)
 cases a
def ze3{α:Type _}{enc:α->LR}{sz:Nat}:∀{xs:List α},(∀x∈xs,(enc x).length=sz)->∀(i j:Nat) (x:α),xs[i]?=some x->j<sz->(zfJ enc xs)[i*sz+j]?=(enc x)[j]?
 |[],_,i,j,x,a,_=>by simp at a
 |y::ys,h,i,j,x,a,c=>by
  have b:=h y (.head _);simp only[zfJ]
  cases i with
  |zero=>
   simp at a;subst a;rw[XN oM];simp
  |succ i=>
   rw[XG (by rw[b,Ka];omega),b,show(i+1)*sz+j-sz=i*sz+j by rw[Ka];omega];exact ze3 (λx a=>h x (.tail _ a)) i j x (by simpa using a) c
def ze4{α:Type _}{enc:α->LR}{sz:Nat}:∀{xs:List α},(∀x∈xs,(enc x).length=sz)->(zfJ enc xs).length=xs.length*sz
 |[],_=>by simp[zfJ]
 |y::ys,h=>by
  simp only[zfJ,Xr,Xm,h y (.head _),ze4 (λx a=>h x (.tail _ a)),Ka];omega
def zjv{α:Type _}{enc:α->LR}:∀{xs:List α},(∀x∈xs,yc (enc x)=true)->yc (zfJ enc xs)=true
 |[],_=>rfl
 |y::ys,h=>by
  have key:∀(l r:LR),yc l=true->yc r=true->yc (l++r)=true:=by
   intro l r a d
   induction l with
   |nil=>exact d
   |cons c l f=>
    simp only[yc]at a
    split at a
    .rename_i b;simp only[JK,yc,b];exact f a
    cases a
  exact key _ _ (h y (.head _)) (zjv λx e=>h x (.tail _ e))
variable{Keep:LI}{M:LT}{sz:Nat}{cap:Nat}
def znx{w:World}(p:zI Keep M Z w)(k:Z Y=none)(hκM:∀m,(Y,m)∉M)(T:TypeId){α:Type}{enc:α->LR}{xs:List α}(l:xs.length<=cap)(n:cap<=maxLen)(e:xs.length<=281474976710656)(r:vs.length=cap*sz)(a:∀u∈vs,u.oneCell'=true)(d:∀x∈xs,(enc x).length=sz)(o:∀(i j:Nat) x (s:SV),xs[i]?=some x->(enc x)[j]?=some s->∃u,vs[i*sz+j]?=some u/\D (λb=>Keep b∨Own M Z b) w s u):
  qg Keep M Z w Y (.own Y) (.push (.arr T enc sz xs)) (.slice (some ⟨w.heap.size,0,none⟩) xs.length cap) (w.alloc (.cells vs.toArray T)):=by
 refine qg.push (u:=.slice (some ⟨w.heap.size,0,none⟩) xs.length cap) (zc4 p k hκM _ _ _ (.cells _ _ _) rfl λq=>?_) (.own _ _ kG rfl);have hmul:xs.length*sz<=cap*sz:=Xy _ l;refine⟨_,vs.take (xs.length*sz),kG,⟨by simp;omega,.inr ⟨_,cap,_,rfl,Xh _,heap_alloc_new w _,l,n,by simpa using r,rfl⟩⟩,e,λu g=>a u (XP g),d,λi j x s h c=>?_⟩;obtain⟨u,g,f⟩:=o i j x s h c;refine⟨u,?_,f.stp q⟩;have hi:i<xs.length:=(Xd.1 h).1
 have v:j<sz:=by
  have:=(Xd.1 c).1;rw[d x (Xf h)]at this;exact this
 have t:i*sz+sz<=xs.length*sz:=by
  have:=Xy sz (X1 hi);rw[Ka]at this;exact this
 rw[XM,Xe oM];exact g
def ztU{w:World}(p:zI Keep M Z w)(k:Z Y=none)(hκM:∀m,(Y,m)∉M)(T:TypeId)
{xs:LN}(l:xs.length<=cap) (n:cap<=maxLen) (e:xs.length<=281474976710656) (r:vs.length=cap*sz)
  (a:∀u∈vs,u.oneCell'=true) (d:∀x∈xs,x.length=sz)
  (o:∀(i j:Nat) x (s:SV),xs[i]?=some x->x[j]?=some s->∃u,vs[i*sz+j]?=some u/\G (λb=>Keep b∨Own M Z b) (Own M Z) Z w s u):
  qg Keep M Z w Y (.own Y) (.push (.garr T sz xs)) (.slice (some ⟨w.heap.size,0,none⟩) xs.length cap) (w.alloc (.cells vs.toArray T)):=by
 refine qg.push (u:=.slice (some ⟨w.heap.size,0,none⟩) xs.length cap) (zc4 p k hκM _ _ _ (.cells _ _ _) rfl λq=>?_) (.own _ _ kG rfl);have hmul:xs.length*sz<=cap*sz:=Xy _ l;refine⟨_,vs.take (xs.length*sz),kG,⟨by simp;omega,.inr ⟨_,cap,_,rfl,Xh _,heap_alloc_new w _,l,n,by simpa using r,rfl⟩⟩,e,λu g=>a u (XP g),d,λi j x s h c=>?_⟩;obtain⟨u,g,f⟩:=o i j x s h c;refine⟨u,?_,f.stp q⟩;have hi:i<xs.length:=(Xd.1 h).1
 have v:j<sz:=by
  have:=(Xd.1 c).1;rw[d x (Xf h)]at this;exact this
 have t:i*sz+sz<=xs.length*sz:=by
  have:=Xy sz (X1 hi);rw[Ka]at this;exact this
 rw[XM,Xe oM];exact g
def ziq(hT:TOK P I){t:TypeId}{n:Nat}(h:zdW I t n (ps.toList.map (·.1)) svs Y K):∃r md,K r md/\yq P (.buildSlice t n ps) svs lm Y r md:=by
 unfold zdW at h;replace h:=zE h;obtain⟨i,hi,h⟩:=h;have D:=(hT t i hi).kind
 split at h
 .rename_i e V;rw[V]at D;have D:P.underlying t=some (.slice e):=D;replace h:=zE h;obtain⟨j,hj,h⟩:=h;replace h:=zj h;obtain⟨hp,h⟩:=h;obtain⟨f,R,y,h3,z,h4,h5,h6,T,h8⟩:=(hT e j hj).inf;have Q:z.cells=j.zero.toArray:=by rw[←h5]
  split at h
  .obtain⟨α,enc,xs,u,h⟩:=h;obtain⟨A,e2,e3,e4,H⟩:=h.ob;refine⟨_,_,h.go,λo N Keep M Z a w _ W d hκM C=>?_⟩;replace d:=d _ (Xj _) (XZ _);replace hκM:=hκM rfl
   obtain⟨b,U,g⟩:=zd6 (zaL j.sz) (λi=>some (i*f.size,f.size)) (λq p v=>by simp only[zaL]at v;rw[y];exact v) (n*j.sz) (ps.toList.map (·.1)) svs _ _ _ hp C (zFK j.zero n)
    (by simp[zph,vals,T])
   have c:=λx k=>(H x k).1
   rw[←u]at g;have L:=g.1;rw[ze4 c,A]at L;have l:=zin (zjv λx k=>(H x k).2.1) g
   have run:(execOp a.eval o).run P w=.ok (.value (.slice (some ⟨w.heap.size,0,none⟩) n n)) (w.alloc (.cells b.toArray e)):=by
    have e'':Instr.fill (λi=>some (i*f.size,f.size)) ((Array.range (n*f.size)).map λx=>z.cells[x%z.cells.size]!) (ps.map λ(i,x)=>(i,a.eval x)).toList=some b.toArray:=by
     rw[←U];congr 1
     .simp only[madeCells,Q,y,T,KY]
     simp only[JI];exact zap ps.toList a.eval
    have F:¬(16777216<n*f.size):=by rw[y];omega
    by_cases m:n*f.size=0
    .have X:n=0:=by
      rcases Nat.mul_eq_zero.1 m with h|h
      .exact h
      rw[y]at h;omega
     subst X;simp only[JB]at e'';simp[execOp,N,Instr.buildSlice,run_underlying D,sizeOf,typeInfo,R,Array.range_zero',newRow]at e'' ⊢;rw[e''];simp
    simp[execOp,N,Instr.buildSlice,run_underlying D,sizeOf,typeInfo,R,F,m,zeroValue,h4,newRow];simp at e'';rw[e''];simp
   refine qB.value run ?_
   have:=znx W d hκM e (enc:=enc) (xs:=xs) (cap:=n) (vs:=b) oM (by unfold maxLen;omega) oM L l c (λq p x s k J=>by
    have G:p<j.sz:=by
     have:=(Xd.1 J).1;rw[c x (Xf k)]at this;exact this
    have B:=ze3 c q p x k G
    have E:q*j.sz+p<b.length:=by
     have v:q<xs.length:=(Xd.1 k).1;have:=Xy j.sz (X1 v);rw[Ka,A]at this;omega
    have O:=Xb E
    exact⟨_,O,uY (yT (H x (Xf k)).2.2 p s J) (g.2 _ s _ (B.trans J) O)⟩)
   rwa [A]at this
  replace h:=zj h;obtain⟨hcl0,h⟩:=h;obtain⟨xs,u,h⟩:=h;obtain⟨A,e2,e3,e4,H⟩:=h.ob;refine⟨_,_,h.go,λo N Keep M Z a w _ W d hκM C=>?_⟩;replace d:=d _ (Xj _) (XZ _);replace hκM:=hκM rfl
  obtain⟨b,U,g⟩:=zd6 (zaL j.sz) (λi=>some (i*f.size,f.size)) (λq p v=>by simp only[zaL]at v;rw[y];exact v) (n*j.sz) (ps.toList.map (·.1)) svs _ _ _ hp C (zFK j.zero n)
   (by simp[zph,vals,T])
  have c:∀x∈xs,(id x).length=j.sz:=H;rw[←u]at g;have L:=g.1;rw[ze4 c,A]at L;have l:=zin (u ▸ hcl0) g
  have run:(execOp a.eval o).run P w=.ok (.value (.slice (some ⟨w.heap.size,0,none⟩) n n)) (w.alloc (.cells b.toArray e)):=by
   have e'':Instr.fill (λi=>some (i*f.size,f.size)) ((Array.range (n*f.size)).map λx=>z.cells[x%z.cells.size]!) (ps.map λ(i,x)=>(i,a.eval x)).toList=some b.toArray:=by
    rw[←U];congr 1
    .simp only[madeCells,Q,y,T,KY]
    simp only[JI];exact zap ps.toList a.eval
   have F:¬(16777216<n*f.size):=by rw[y];omega
   by_cases m:n*f.size=0
   .have X:n=0:=by
     rcases Nat.mul_eq_zero.1 m with h|h
     .exact h
     rw[y]at h;omega
    subst X;simp only[JB]at e'';simp[execOp,N,Instr.buildSlice,run_underlying D,sizeOf,typeInfo,R,Array.range_zero',newRow]at e'' ⊢;rw[e''];simp
   simp[execOp,N,Instr.buildSlice,run_underlying D,sizeOf,typeInfo,R,F,m,zeroValue,h4,newRow];simp at e'';rw[e''];simp
  refine qB.value run ?_
  have:=ztU W d hκM e (xs:=xs) (cap:=n) (vs:=b) oM (by unfold maxLen;omega) oM L l c (λq p x s k J=>by
   have G:p<j.sz:=by
    have:=(Xd.1 J).1;rw[H x (Xf k)]at this;exact this
   have B:=ze3 c q p x k G
   have E:q*j.sz+p<b.length:=by
    have v:q<xs.length:=(Xd.1 k).1;have:=Xy j.sz (X1 v);rw[Ka,A]at this;omega
   have O:=Xb E
   exact⟨_,O,g.2 _ s _ (B.trans J) O⟩)
  rwa [A]at this
 exact h.elim
def zj0(hT:TOK P I){t:TypeId}{x y:Operand}{l c:SV}(h:zgd I t l c Y K):∃r R,K r R/\yq P (.makeSlice t x y) [l,c] lm Y r R:=by
 unfold zgd at h;replace h:=zE h;obtain⟨i,hi,h⟩:=h;have C:=(hT t i hi).kind
 split at h
 .rename_i e kl n kc m E;rw[E]at C;have C:P.underlying t=some (.slice e):=C;replace h:=zE h;obtain⟨j,hj,h⟩:=h;obtain⟨f,J,L,X,z,h4,h5,h6,N,h8⟩:=(hT e j hj).inf;have H:z.cells=j.zero.toArray:=by rw[←h5]
  obtain⟨α,enc,T,Q,h⟩:=h;obtain⟨e0,U,V,W,e4⟩:=h.ob;refine⟨_,_,h.go,λo ho Keep M Z a w _ hm b hκM k=>?_⟩;replace b:=b _ (Xj _) (XZ _);replace hκM:=hκM rfl;have g:=(Gs.head k).val_inv;have hy:=(Gs.head (Gs.tail k)).val_inv;have B:=run_make (P:=P) w t e f z C J h4 kl kc n m U V (by rw[X,QR];exact W) oM;refine qB.value (by simp only[execOp,ho,g,hy,Sem.run_bind,B,Result.andThen_ok,Sem.run_pure];rfl) ?_
  have v:(madeCells z.cells (m.toNat*f.size)).toList.length=m.toNat*j.sz:=by simp[madeCells,L]
  have A:∀q,(madeCells z.cells (m.toNat*f.size)).toList[q]?=if q<m.toNat*j.sz then j.zero[q%j.sz]? else none:=λq=>by
   have:=zgU j.zero m.toNat q;rw[N]at this;rw[H,L];exact this
  have henc:(enc T).length=j.sz:=by rw[Q];simp[vals,N]
  have:=znx hm b hκM e (enc:=enc) (sz:=j.sz) (xs:=List.replicate n.toNat T) (cap:=m.toNat) (vs:=(madeCells z.cells (m.toNat*f.size)).toList) (by simp;omega) (by unfold maxLen;omega) (by simp;omega) v
   (λu D=>by
    obtain⟨q,O,rfl⟩:=JS.1 D;have:=A q;rw[Xb O]at this
    split at this
    .exact h8 _ (Xf this.symm)
    cases this)
   (λx g=>by rw[KT g];exact henc)
   (λq p x s g d=>by
    have G:=KT (Xf g);subst G;have O:q<n.toNat:=by simpa using (Xd.1 g).1
    have F:p<j.sz:=by
     have:=(Xd.1 d).1;rw[henc]at this;exact this
    have J:q*j.sz+j.sz<=m.toNat*j.sz:=by
     have:=Xy j.sz (show q+1<=m.toNat by omega);rw[Ka]at this;exact this
    have hmod:(q*j.sz+p)%j.sz=p:=by rw[KD,QK];exact XB F
    rw[A,Xe oM,hmod];rw[Q]at d;simp only[vals,XD]at d
    cases D:j.zero[p]? with
    |none=>simp[D]at d
    |some u=>
     simp[D]at d;subst d
     exact⟨u,rfl,.val u⟩)
  simpa using this
 exact h.elim
end Go.Gs
