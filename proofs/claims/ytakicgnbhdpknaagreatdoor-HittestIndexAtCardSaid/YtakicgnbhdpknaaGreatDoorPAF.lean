/- Slices made and built, structs built. -/
import Derived.Test.YtakicgnbhdpknaaGreatDoorPAE
set_option maxRecDepth 100000
set_option maxHeartbeats 8000000
set_option linter.all false
namespace Go.Gs
def zm8(off:Nat):∀(us:LA) (k:Nat) (arr:Array Value),off+k+us.length<=arr.size->
  ((us.zipIdx k).foldl (λ(c:Array Value) (x:Value×Nat)=>c.setIfInBounds (off+x.2) x.1) arr).toList=arr.toList.take (off+k)++us++arr.toList.drop (off+k+us.length)
 |[],k,arr,_=>by simp
 |u::us,k,arr,h=>by
  simp only[Xn]at h;have e:=zm8 off us (k+1) (arr.setIfInBounds (off+k) u) (by simp;omega);simp only[List.zipIdx_cons,Qm];rw[e];simp only[QY,Xn];apply Kw;intro j;simp only[KY,Xq,Xo,XS,Qw,XK,KG,KE,Xn];rw[show min (off+(k+1)) arr.size=off+k+1 by omega,show min (off+k) arr.size=off+k by omega]
  by_cases a:j<off+k
  .simp only[show j<off+k+1+us.length by omega,show j<off+k+1 by omega,show j<off+(k+1) by omega,show¬(off+k=j) by omega,a,show j<off+k+(us.length+1) by omega,if_true,if_false]
  by_cases d:j=off+k
  .subst d;simp[show off+k<off+k+1+us.length by omega,show off+k<arr.size by omega,show off+k<off+(k+1) by omega]
  by_cases b:j<off+k+1+us.length
  .simp only[b,show¬(j<off+k+1) by omega,show j<off+k+(us.length+1) by omega,a,if_true,if_false];rw[show j-(off+k)=(j-(off+k+1))+1 by omega,KW]
  simp only[b,show¬(j<off+k+(us.length+1)) by omega,if_false];rw[Xc oM];congr 1;omega
def zqC{pl:Nat->Option (Nat×Nat)}{n:Nat}{i:Nat}{r:LC}{s:SV}{l:LR}(h:zb8 pl n (i::r) (s::l)=true):
  ∃off,pl i=some (off,(kQ s).length)/\off+(kQ s).length<=n/\j8 (kQ s)=true/\zb8 pl n r l=true:=by
 simp only[zb8]at h
 split at h
 .rename_i off sz g;obtain⟨a,b⟩:=kr h;obtain⟨e,c⟩:=kr b;obtain⟨f,d⟩:=kr c;have a:=Xk a;subst a;exact⟨off,g,Xz e,f,d⟩
 cases h
def zdY{S Pm:LI}{O:zh}{w:World}(pl:Nat->Option (Nat×Nat))(plv:Nat->Option (Nat×Nat))(d:∀i p,pl i=some p->plv i=some p)(n:Nat):
  ∀(ids:LC) (svs:LR) (us:LA) (b:LR) (vs:LA),zb8 pl n ids svs=true->Gs S Pm O w svs us->Gs S Pm O w b vs->b.length=n->
  ∃a:LA,Instr.fill plv vs.toArray (ids.zip us)=some a.toArray/\Gs S Pm O w (zcP pl ids svs b) a
 |[],[],us,b,vs,_,o,h,_=>⟨vs,by simp[Instr.fill],by simpa[zcP] using h⟩
 |[],_::_,us,b,vs,c,_,_,_=>by simp[zb8]at c
 |i::ids,[],us,b,vs,c,_,_,_=>by simp[zb8]at c
 |i::ids,s::svs,us,b,vs,c,o,h,y=>by
  obtain⟨u,l,rfl,q,r⟩:=o.cons_inv;obtain⟨off,p1,z,v,x⟩:=zqC c;obtain⟨m,_⟩:=vZ v q;have k:=zqu off h m;have f:u.cells.size=(kQ s).length:=by have:=m.1;simpa using this
  have t:=h.1
  have j:(vq b off (kQ s)).length=n:=by
   unfold vq;simp only[Xq,Xo,KB];omega
  obtain⟨a,e,g⟩:=zdY pl plv d n ids svs l _ _ x r k j;refine⟨a,?_,by simpa[zcP,p1,fstO] using g⟩;rw[←e];simp only[List.zip_cons_cons,Instr.fill,d _ _ p1];rw[Xc (by simp[f];omega)];congr 1;apply QX;have:=zm8 off u.cells.toList 0 vs.toArray (by simp[f];omega);simp only[XW]at this;rw[←JY]
  simpa using this
variable{S:LI}{Pm:LI}{O:zh}{vs:LA}
def Gs.len{w:World}{a:LR}(h:Gs S Pm O w a vs):vs.length=a.length:=h.1
def zao(ps:List (Nat×Operand))(ev:Operand->Value):ps.map (λx=>(x.1,ev x.2))=(ps.map (·.1)).zip ((ps.map (·.2)).map ev):=by
 induction ps with
 |nil=>rfl
 |cons x r a=>simp[a]
variable{P:Program}{H:LS}{ps:Array (Nat×Operand)}{svs:LR}{lm:LJ}{Y:Nat}{K:LD}
def zqD(hT:TOK P H){t:TypeId}(h:ztf H t (ps.toList.map (·.1)) svs K):∃r,K r .none/\yU P (.build t ps) svs lm Y r .none:=by
 unfold ztf at h;replace h:=zE h;obtain⟨i,hi,h⟩:=h;have m:=(hT t i hi).kind;obtain⟨f,J,V,W,z,L,T,X,N,Z⟩:=(hT t i hi).inf;have y:z.cells=i.zero.toArray:=by rw[←T]
 split at h
 .rename_i fs k;rw[k]at m;replace h:=zj h;obtain⟨G,h⟩:=h;refine⟨_,h,.pure λo E S Pm O a w l=>?_⟩;obtain⟨F,hF,hmap,pl,u⟩:=m
  have hplaces:∀i p,zkk H fs i=some p->pl.toArray[i]?=some p:=by
   intro q p b;unfold zkk at b
   split at b
   .rename_i off ft s
    split at b
    .rename_i j D
     cases b
     rw[zuR,←hmap,XD]at s
     cases d:F.toList[q]? with
     |none=>simp[d]at s
     |some fl=>
      simp only[d,Qo,Jy,KJ]at s;obtain⟨R,A,B,_⟩:=(hT ft j D).inf
      have key:∀(F:List Field) (pl:List (Nat×Nat)) (q:Nat),F.mapM (λf=>(P.info? f.type).map λi=>(f.offset,i.size))=some pl->F[q]?=some fl->pl[q]?=some (off,j.sz):=by
       intro F
       induction F with
       |nil=>intro pl q _ b;simp at b
       |cons x r U=>
        intro pl q n b;simp only[List.mapM_cons,Option.bind_eq_bind,Option.pure_def]at n
        cases v:P.info? x.type with
        |none=>simp[v]at n
        |some ix=>
         cases I:r.mapM (λf=>(P.info? f.type).map λi=>(f.offset,i.size)) with
         |none=>simp[v,I]at n
         |some rest=>
          simp[v,I]at n;subst n
          cases q with
          |zero=>
           simp at b;subst b;have:ix=R:=by rw[s.2,A]at v;exact(Xl v).symm
           subst this;simp[s.1,B]
          |succ q=>simpa using U rest q I (by simpa using b)
      simpa using key F.toList pl q u d
    cases b
   cases b
  obtain⟨c,e,g⟩:=zdY (zkk H fs) (λx=>pl.toArray[x]?) hplaces i.sz (ps.toList.map (·.1)) svs _ (vals i.zero) i.zero G l (Gs.vals _) (by simp[vals,N]);refine⟨.agg c.toArray,?_,.agg _ _ g.1 g.2⟩
  have C:P.built t (ps.map λ(i,x)=>(i,a.eval x)).toList=some c.toArray:=by
   simp only[Program.built,J,hF,L,u,y];rw[←e];congr 1;simp only[JE];exact zao ps.toList a.eval
  simp only[execOp,E,Sem.run_bind,run_build w t _ _ C,Result.andThen_ok,Sem.run_pure]
 .rename_i len e k;rw[k]at m;replace h:=zE h;obtain⟨j,D,h⟩:=h;replace h:=zj h;obtain⟨G,h⟩:=h;obtain⟨fe,A,B,_⟩:=(hT e j D).inf;refine⟨_,h,.pure λo E S Pm O a w l=>?_⟩;obtain⟨c,Q,g⟩:=zdY (zaK j.sz) (λi=>some (i*fe.size,fe.size)) (λq p b=>by simp only[zaK]at b;rw[B];exact b) i.sz (ps.toList.map (·.1)) svs _ (vals i.zero) i.zero G l (Gs.vals _) (by simp[vals,N]);refine⟨.agg c.toArray,?_,.agg _ _ g.1 g.2⟩;have m:P.underlying t=some (.array len e):=m
  have C:P.built t (ps.map λ(i,x)=>(i,a.eval x)).toList=some c.toArray:=by
   simp only[Program.built,J,m,L,A,y];rw[←Q];congr 1;simp only[JE];exact zao ps.toList a.eval
  simp only[execOp,E,Sem.run_bind,run_build w t _ _ C,Result.andThen_ok,Sem.run_pure]
 exact h.elim
def zuS{α:Type 1}(l:List α):∀(n i:Nat),(rep n l)[i]?=if i<n*l.length then l[i%l.length]? else none
 |0,i=>by simp[rep]
 |n+1,i=>by
  simp only[rep,KY,zuS l n]
  by_cases h:i<l.length
  .rw[Xe h,Xe (by rw[X7];omega),Xy h]
  rw[Xc h];have b:i-l.length<n*l.length↔i<(n+1)*l.length:=by rw[X7];omega
  by_cases a:i<(n+1)*l.length
  .rw[Xe a,Xe (b.2 a)];congr 1;rw[Nat.mod_eq_sub_mod (by omega:l.length<=i)]
  rw[Xc a,Xc (λc=>a (b.1 c))]
def zoR{α:Type 1}(n:Nat)(l:List α):(rep n l).length=n*l.length:=by
 induction n with
 |zero=>simp[rep]
 |succ n a=>simp[rep,a,X7];omega
def zgD(z:LA)(n i:Nat):(madeCells z.toArray (n*z.length)).toList[i]?=if i<n*z.length then z[i%z.length]? else none:=by
 unfold madeCells
 by_cases h:i<n*z.length
 .rw[Xe h]
  have c:0<z.length:=by
   rcases Kx z.length with a|a
   .rw[a]at h;omega
   exact a
  have b:i%z.length<z.length:=Kn _ c;simp[h,b]
 rw[Xc h];simp;omega
def zEV{w:World}(z:LA)(n:Nat):Gs S Pm O w (rep n (vals z)) (madeCells z.toArray (n*z.length)).toList:=by
 refine⟨by simp[zoR,vals,madeCells],λj s v a b=>?_⟩;rw[zuS]at a;rw[zgD]at b;simp only[vals,Xw,XD]at a
 split at a
 .rename_i c;rw[Xe c]at b;rw[b]at a;simp at a;subst a;exact .d _ _ (.val v)
 cases a
def zeR{α:Type _}{enc:α->LR}{sz:Nat}:∀{xs:List α},(∀x∈xs,(enc x).length=sz)->∀(i j:Nat) (x:α),xs[i]?=some x->j<sz->(zft enc xs)[i*sz+j]?=(enc x)[j]?
 |[],_,i,j,x,a,_=>by simp at a
 |y::ys,h,i,j,x,a,c=>by
  have b:=h y (.head _);simp only[zft]
  cases i with
  |zero=>
   simp at a;subst a;rw[XL oM];simp
  |succ i=>
   rw[XF (by rw[b,X7];omega),b,show(i+1)*sz+j-sz=i*sz+j by rw[X7];omega];exact zeR (λx a=>h x (.tail _ a)) i j x (by simpa using a) c
def zeS{α:Type _}{enc:α->LR}{sz:Nat}:∀{xs:List α},(∀x∈xs,(enc x).length=sz)->(zft enc xs).length=xs.length*sz
 |[],_=>by simp[zft]
 |y::ys,h=>by
  simp only[zft,Xq,Xn,h y (.head _),zeS (λx a=>h x (.tail _ a)),X7];omega
def zi9{α:Type _}{enc:α->LR}:∀{xs:List α},(∀x∈xs,j8 (enc x)=true)->j8 (zft enc xs)=true
 |[],_=>rfl
 |y::ys,h=>by
  have key:∀(l r:LR),j8 l=true->j8 r=true->j8 (l++r)=true:=by
   intro l r a d
   induction l with
   |nil=>exact d
   |cons c l f=>
    simp only[j8]at a
    split at a
    .rename_i b;simp only[JG,j8,b];exact f a
    cases a
  exact key _ _ (h y (.head _)) (zi9 λx e=>h x (.tail _ e))
variable{Keep:LI}{M:LT}{sz:Nat}{cap:Nat}
def zm9{w:World}(n:zJ Keep M O w)(hκ:O Y=none)(hκM:∀m,(Y,m)∉M)(T:TypeId){α:Type}{enc:α->LR}{xs:List α}(h:xs.length<=cap)(k:cap<=maxLen)(d:xs.length<=281474976710656)(p:vs.length=cap*sz)(hone:∀u∈vs,u.oneCell'=true)(c:∀x∈xs,(enc x).length=sz)(l:∀(i j:Nat) x (s:SV),xs[i]?=some x->(enc x)[j]?=some s->∃u,vs[i*sz+j]?=some u/\D (λb=>Keep b∨Own M O b) w s u):
  qc Keep M O w Y (.own Y) (.push (.arr T enc sz xs)) (.slice (some ⟨w.heap.size,0,none⟩) xs.length cap) (w.alloc (.cells vs.toArray T)):=by
 refine qc.push (u:=.slice (some ⟨w.heap.size,0,none⟩) xs.length cap) (zcT n hκ hκM _ _ _ (.cells _ _ _) rfl λo=>?_) (.own _ _ kG rfl);have hmul:xs.length*sz<=cap*sz:=Xv _ h;refine⟨_,vs.take (xs.length*sz),kG,⟨by simp;omega,.inr ⟨_,cap,_,rfl,Xh _,heap_alloc_new w _,h,k,by simpa using p,rfl⟩⟩,d,λu f=>hone u (XO f),c,λi j x s g a=>?_⟩;obtain⟨u,f,e⟩:=l i j x s g a;refine⟨u,?_,e.stp o⟩;have hi:i<xs.length:=(Xd.1 g).1
 have r:j<sz:=by
  have:=(Xd.1 a).1;rw[c x (Xf g)]at this;exact this
 have q:i*sz+sz<=xs.length*sz:=by
  have:=Xv sz (X6 hi);rw[X7]at this;exact this
 rw[XK,Xe oM];exact f
def zto{w:World}(n:zJ Keep M O w)(hκ:O Y=none)(hκM:∀m,(Y,m)∉M)(T:TypeId)
{xs:LN}(h:xs.length<=cap) (k:cap<=maxLen) (d:xs.length<=281474976710656) (p:vs.length=cap*sz)
  (hone:∀u∈vs,u.oneCell'=true) (c:∀x∈xs,x.length=sz)
  (l:∀(i j:Nat) x (s:SV),xs[i]?=some x->x[j]?=some s->∃u,vs[i*sz+j]?=some u/\G (λb=>Keep b∨Own M O b) (Own M O) O w s u):
  qc Keep M O w Y (.own Y) (.push (.garr T sz xs)) (.slice (some ⟨w.heap.size,0,none⟩) xs.length cap) (w.alloc (.cells vs.toArray T)):=by
 refine qc.push (u:=.slice (some ⟨w.heap.size,0,none⟩) xs.length cap) (zcT n hκ hκM _ _ _ (.cells _ _ _) rfl λo=>?_) (.own _ _ kG rfl);have hmul:xs.length*sz<=cap*sz:=Xv _ h;refine⟨_,vs.take (xs.length*sz),kG,⟨by simp;omega,.inr ⟨_,cap,_,rfl,Xh _,heap_alloc_new w _,h,k,by simpa using p,rfl⟩⟩,d,λu f=>hone u (XO f),c,λi j x s g a=>?_⟩;obtain⟨u,f,e⟩:=l i j x s g a;refine⟨u,?_,e.stp o⟩;have hi:i<xs.length:=(Xd.1 g).1
 have r:j<sz:=by
  have:=(Xd.1 a).1;rw[c x (Xf g)]at this;exact this
 have q:i*sz+sz<=xs.length*sz:=by
  have:=Xv sz (X6 hi);rw[X7]at this;exact this
 rw[XK,Xe oM];exact f
def zh5(hT:TOK P H){t:TypeId}{n:Nat}(h:zdO H t n (ps.toList.map (·.1)) svs Y K):∃r md,K r md/\yU P (.buildSlice t n ps) svs lm Y r md:=by
 unfold zdO at h;replace h:=zE h;obtain⟨i,hi,h⟩:=h;have B:=(hT t i hi).kind
 split at h
 .rename_i e U;rw[U]at B;have B:P.underlying t=some (.slice e):=B;replace h:=zE h;obtain⟨j,hj,h⟩:=h;replace h:=zj h;obtain⟨Z,h⟩:=h;obtain⟨f,Q,u,h3,z,X,h5,h6,R,h8⟩:=(hT e j hj).inf;have N:z.cells=j.zero.toArray:=by rw[←h5]
  split at h
  .obtain⟨α,enc,xs,l,h⟩:=h;obtain⟨v,e2,e3,e4,F⟩:=h.ob;refine⟨_,_,h.go,λo J Keep M O a w _ V hκ hκM A=>?_⟩;replace hκ:=hκ _ (Xj _) (X5 _);replace hκM:=hκM rfl
   obtain⟨b,T,g⟩:=zdY (zaK j.sz) (λi=>some (i*f.size,f.size)) (λq p m=>by simp only[zaK]at m;rw[u];exact m) (n*j.sz) (ps.toList.map (·.1)) svs _ _ _ Z A (zEV j.zero n)
    (by simp[zoR,vals,R])
   have c:=λx d=>(F x d).1
   rw[←l]at g;have I:=g.1;rw[zeS c,v]at I;have hone:=zh3 (zi9 λx d=>(F x d).2.1) g
   have run:(execOp a.eval o).run P w=.ok (.value (.slice (some ⟨w.heap.size,0,none⟩) n n)) (w.alloc (.cells b.toArray e)):=by
    have e'':Instr.fill (λi=>some (i*f.size,f.size)) ((Array.range (n*f.size)).map λx=>z.cells[x%z.cells.size]!) (ps.map λ(i,x)=>(i,a.eval x)).toList=some b.toArray:=by
     rw[←T];congr 1
     .simp only[madeCells,N,u,R,KU]
     simp only[JE];exact zao ps.toList a.eval
    have D:¬(16777216<n*f.size):=by rw[u];omega
    by_cases k:n*f.size=0
    .have W:n=0:=by
      rcases Nat.mul_eq_zero.1 k with h|h
      .exact h
      rw[u]at h;omega
     subst W;simp only[Jw]at e'';simp[execOp,J,Instr.buildSlice,run_underlying B,sizeOf,typeInfo,Q,Array.range_zero',newRow]at e'' ⊢;rw[e''];simp
    simp[execOp,J,Instr.buildSlice,run_underlying B,sizeOf,typeInfo,Q,D,k,zeroValue,X,newRow];simp at e'';rw[e''];simp
   refine qM.value run ?_
   have:=zm9 V hκ hκM e (enc:=enc) (xs:=xs) (cap:=n) (vs:=b) oM (by unfold maxLen;omega) oM I hone c (λq p x s d G=>by
    have E:p<j.sz:=by
     have:=(Xd.1 G).1;rw[c x (Xf d)]at this;exact this
    have y:=zeR c q p x d E
    have C:q*j.sz+p<b.length:=by
     have m:q<xs.length:=(Xd.1 d).1;have:=Xv j.sz (X6 m);rw[X7,v]at this;omega
    have L:=Xb C
    exact⟨_,L,uV (yP (F x (Xf d)).2.2 p s G) (g.2 _ s _ (y.trans G) L)⟩)
   rwa [v]at this
  replace h:=zj h;obtain⟨hcl0,h⟩:=h;obtain⟨xs,l,h⟩:=h;obtain⟨v,e2,e3,e4,F⟩:=h.ob;refine⟨_,_,h.go,λo J Keep M O a w _ V hκ hκM A=>?_⟩;replace hκ:=hκ _ (Xj _) (X5 _);replace hκM:=hκM rfl
  obtain⟨b,T,g⟩:=zdY (zaK j.sz) (λi=>some (i*f.size,f.size)) (λq p m=>by simp only[zaK]at m;rw[u];exact m) (n*j.sz) (ps.toList.map (·.1)) svs _ _ _ Z A (zEV j.zero n)
   (by simp[zoR,vals,R])
  have c:∀x∈xs,(id x).length=j.sz:=F;rw[←l]at g;have I:=g.1;rw[zeS c,v]at I;have hone:=zh3 (l ▸ hcl0) g
  have run:(execOp a.eval o).run P w=.ok (.value (.slice (some ⟨w.heap.size,0,none⟩) n n)) (w.alloc (.cells b.toArray e)):=by
   have e'':Instr.fill (λi=>some (i*f.size,f.size)) ((Array.range (n*f.size)).map λx=>z.cells[x%z.cells.size]!) (ps.map λ(i,x)=>(i,a.eval x)).toList=some b.toArray:=by
    rw[←T];congr 1
    .simp only[madeCells,N,u,R,KU]
    simp only[JE];exact zao ps.toList a.eval
   have D:¬(16777216<n*f.size):=by rw[u];omega
   by_cases k:n*f.size=0
   .have W:n=0:=by
     rcases Nat.mul_eq_zero.1 k with h|h
     .exact h
     rw[u]at h;omega
    subst W;simp only[Jw]at e'';simp[execOp,J,Instr.buildSlice,run_underlying B,sizeOf,typeInfo,Q,Array.range_zero',newRow]at e'' ⊢;rw[e''];simp
   simp[execOp,J,Instr.buildSlice,run_underlying B,sizeOf,typeInfo,Q,D,k,zeroValue,X,newRow];simp at e'';rw[e''];simp
  refine qM.value run ?_
  have:=zto V hκ hκM e (xs:=xs) (cap:=n) (vs:=b) oM (by unfold maxLen;omega) oM I hone c (λq p x s d G=>by
   have E:p<j.sz:=by
    have:=(Xd.1 G).1;rw[F x (Xf d)]at this;exact this
   have y:=zeR c q p x d E
   have C:q*j.sz+p<b.length:=by
    have m:q<xs.length:=(Xd.1 d).1;have:=Xv j.sz (X6 m);rw[X7,v]at this;omega
   have L:=Xb C
   exact⟨_,L,g.2 _ s _ (y.trans G) L⟩)
  rwa [v]at this
 exact h.elim
def zjE(hT:TOK P H){t:TypeId}{x y:Operand}{l c:SV}(h:zfY H t l c Y K):∃r R,K r R/\yU P (.makeSlice t x y) [l,c] lm Y r R:=by
 unfold zfY at h;replace h:=zE h;obtain⟨i,hi,h⟩:=h;have B:=(hT t i hi).kind
 split at h
 .rename_i e kl n kc m D;rw[D]at B;have B:P.underlying t=some (.slice e):=B;replace h:=zE h;obtain⟨j,hj,h⟩:=h;obtain⟨f,I,J,X,z,Z,h5,h6,L,h8⟩:=(hT e j hj).inf;have G:z.cells=j.zero.toArray:=by rw[←h5]
  obtain⟨α,enc,T,Q,h⟩:=h;obtain⟨e0,U,V,W,e4⟩:=h.ob;refine⟨_,_,h.go,λo ho Keep M O a w _ hm hκ hκM g=>?_⟩;replace hκ:=hκ _ (Xj _) (X5 _);replace hκM:=hκM rfl;have d:=(Gs.head g).val_inv;have hy:=(Gs.head (Gs.tail g)).val_inv;have A:=run_make (P:=P) w t e f z B I Z kl kc n m U V (by rw[X,QO];exact W) oM;refine qM.value (by simp only[execOp,ho,d,hy,Sem.run_bind,A,Result.andThen_ok,Sem.run_pure];rfl) ?_
  have k:(madeCells z.cells (m.toNat*f.size)).toList.length=m.toNat*j.sz:=by simp[madeCells,J]
  have v:∀q,(madeCells z.cells (m.toNat*f.size)).toList[q]?=if q<m.toNat*j.sz then j.zero[q%j.sz]? else none:=λq=>by
   have:=zgD j.zero m.toNat q;rw[L]at this;rw[G,J];exact this
  have henc:(enc T).length=j.sz:=by rw[Q];simp[vals,L]
  have:=zm9 hm hκ hκM e (enc:=enc) (sz:=j.sz) (xs:=List.replicate n.toNat T) (cap:=m.toNat) (vs:=(madeCells z.cells (m.toNat*f.size)).toList) (by simp;omega) (by unfold maxLen;omega) (by simp;omega) k
   (λu C=>by
    obtain⟨q,N,rfl⟩:=JO.1 C;have:=v q;rw[Xb N]at this
    split at this
    .exact h8 _ (Xf this.symm)
    cases this)
   (λx d=>by rw[KO d];exact henc)
   (λq p x s d b=>by
    have F:=KO (Xf d);subst F;have N:q<n.toNat:=by simpa using (Xd.1 d).1
    have E:p<j.sz:=by
     have:=(Xd.1 b).1;rw[henc]at this;exact this
    have I:q*j.sz+j.sz<=m.toNat*j.sz:=by
     have:=Xv j.sz (show q+1<=m.toNat by omega);rw[X7]at this;exact this
    have hmod:(q*j.sz+p)%j.sz=p:=by rw[Ky,QH];exact Xy E
    rw[v,Xe oM,hmod];rw[Q]at b;simp only[vals,XD]at b
    cases C:j.zero[p]? with
    |none=>simp[C]at b
    |some u=>
     simp[C]at b;subst b
     exact⟨u,rfl,.val u⟩)
  simpa using this
 exact h.elim
end Go.Gs
