/- Slices made and built, structs built. -/
import Derived.Test.YtakicgnbhdpknaaGreatDoorNAE
set_option maxRecDepth 100000
set_option maxHeartbeats 8000000
set_option linter.all false
namespace Go.Gs
def zl4(off:Nat):∀(us:LA) (k:Nat) (arr:Array Value),off+k+us.length<=arr.size->
  ((us.zipIdx k).foldl (λ(cs:Array Value) (x:Value×Nat)=>cs.setIfInBounds (off+x.2) x.1) arr).toList=arr.toList.take (off+k)++us++arr.toList.drop (off+k+us.length)
 |[],k,arr,_=>by simp
 |u::us,k,arr,h=>by
  simp only[Xn]at h;have ih:=zl4 off us (k+1) (arr.setIfInBounds (off+k) u) (by simp;omega);simp only[List.zipIdx_cons,Qw];rw[ih];simp only[QR,Xn];apply Kq;intro j;simp only[KO,Xq,Xo,XV,Qi,XI,Kz,KA,Xn];rw[show min (off+(k+1)) arr.size=off+k+1 by omega,show min (off+k) arr.size=off+k by omega]
  by_cases h1:j<off+k
  ·simp only[show j<off+k+1+us.length by omega,show j<off+k+1 by omega,show j<off+(k+1) by omega,show¬(off+k=j) by omega,h1,show j<off+k+(us.length+1) by omega,if_true,if_false]
  by_cases h2:j=off+k
  ·subst h2;simp[show off+k<off+k+1+us.length by omega,show off+k<arr.size by omega,show off+k<off+(k+1) by omega]
  by_cases h3:j<off+k+1+us.length
  ·simp only[h3,show¬(j<off+k+1) by omega,show j<off+k+(us.length+1) by omega,h1,if_true,if_false];rw[show j-(off+k)=(j-(off+k+1))+1 by omega,KL]
  simp only[h3,show¬(j<off+k+(us.length+1)) by omega,if_false];rw[Xc oM];congr 1;omega
def zpi{pl:Nat->Option (Nat×Nat)}{n:Nat}{i:Nat}{r:LC}{s:SV}{l:LR}(h:zbK pl n (i::r) (s::l)=true):
  ∃off,pl i=some (off,(kN s).length)/\off+(kN s).length<=n/\jY (kN s)=true/\zbK pl n r l=true:=by
 simp only[zbK]at h
 split at h
 ·rename_i off sz hp;obtain⟨h1,g1⟩:=kj h;obtain⟨h2,g2⟩:=kj g1;obtain⟨h3,g3⟩:=kj g2;have h1:=Xj h1;subst h1;exact⟨off,hp,Xz h2,h3,g3⟩
 cases h
def zdr{S Pm:LI}{ρ:zh}{w:World}(pl:Nat->Option (Nat×Nat))(plv:Nat->Option (Nat×Nat))(hpl:∀i p,pl i=some p->plv i=some p)(n:Nat):
  ∀(ids:LC) (svs:LR) (us:LA) (cs:LR) (vs:LA),zbK pl n ids svs=true->Gs S Pm ρ w svs us->Gs S Pm ρ w cs vs->cs.length=n->
  ∃vs':LA,Instr.fill plv vs.toArray (ids.zip us)=some vs'.toArray/\Gs S Pm ρ w (zcq pl ids svs cs) vs'
 |[],[],us,cs,vs,_,hu,hc,_=>⟨vs,by simp[Instr.fill],by simpa[zcq] using hc⟩
 |[],_::_,us,cs,vs,hp,_,_,_=>by simp[zbK]at hp
 |i::ids,[],us,cs,vs,hp,_,_,_=>by simp[zbK]at hp
 |i::ids,s::svs,us,cs,vs,hp,hu,hc,hn=>by
  obtain⟨u,us',rfl,h1,h2⟩:=hu.cons_inv;obtain⟨off,p1,p2,p3,p4⟩:=zpi hp;obtain⟨g1,_⟩:=vH p3 h1;have hsp:=zpa off hc g1;have hsz:u.cells.size=(kN s).length:=by have:=g1.1;simpa using this
  have hlc:=hc.1
  have hl2:(vg cs off (kN s)).length=n:=by
   unfold vg;simp only[Xq,Xo,Kv];omega
  obtain⟨vs',e,g⟩:=zdr pl plv hpl n ids svs us' _ _ p4 h2 hsp hl2;refine⟨vs',?_,by simpa[zcq,p1,fstO] using g⟩;rw[←e];simp only[List.zip_cons_cons,Instr.fill,hpl _ _ p1];rw[Xc (by simp[hsz];omega)];congr 1;apply QQ;have:=zl4 off u.cells.toList 0 vs.toArray (by simp[hsz];omega);simp only[XP]at this;rw[←JG]
  simpa using this
variable{S:LI}{Pm:LI}{ρ:zh}{vs:LA}
def Gs.len{w:World}{cs:LR}(h:Gs S Pm ρ w cs vs):vs.length=cs.length:=h.1
def vY(ps:List (Nat×Operand))(ev:Operand->Value):ps.map (λx=>(x.1,ev x.2))=(ps.map (·.1)).zip ((ps.map (·.2)).map ev):=by
 induction ps with
 |nil=>rfl
 |cons x r ih=>simp[ih]
variable{P:Program}{Γ:LS}{ps:Array (Nat×Operand)}{svs:LR}{lm:LJ}{κ:Nat}{K:LD}
def zpj(hT:TOK P Γ){t:TypeId}(h:zrI Γ t (ps.toList.map (·.1)) svs K):∃r,K r .none/\yR P (.build t ps) svs lm κ r .none:=by
 unfold zrI at h;replace h:=zD h;obtain⟨i,hi,h⟩:=h;have hk:=(hT t i hi).kind;obtain⟨f,h1,h2,h3,z,h4,h5,h6,h7,h8⟩:=(hT t i hi).inf;have hzl:z.cells=i.zero.toArray:=by rw[←h5]
 split at h
 ·rename_i fs hfs;rw[hfs]at hk;replace h:=zj h;obtain⟨hp,h⟩:=h;refine⟨_,h,.pure λo ho S Pm ρ a w hgs=>?_⟩;obtain⟨F,hF,hmap,pl,hpl⟩:=hk
  have hplaces:∀i p,zjn Γ fs i=some p->pl.toArray[i]?=some p:=by
   intro q p hq;unfold zjn at hq
   split at hq
   ·rename_i off ft hn
    split at hq
    ·rename_i j hj
     cases hq
     rw[zth,←hmap,XD]at hn
     cases hfq:F.toList[q]? with
     |none=>simp[hfq]at hn
     |some fl=>
      simp only[hfq,Qb,Jl,Kt]at hn;obtain⟨f',g1,g2,_⟩:=(hT ft j hj).inf
      have key:∀(F:List Field) (pl:List (Nat×Nat)) (q:Nat),F.mapM (λf=>(P.info? f.type).map λi=>(f.offset,i.size))=some pl->F[q]?=some fl->pl[q]?=some (off,j.sz):=by
       intro F
       induction F with
       |nil=>intro pl q _ hq;simp at hq
       |cons x r ih=>
        intro pl q hm hq;simp only[List.mapM_cons,Option.bind_eq_bind,Option.pure_def]at hm
        cases hx:P.info? x.type with
        |none=>simp[hx]at hm
        |some ix=>
         cases hr:r.mapM (λf=>(P.info? f.type).map λi=>(f.offset,i.size)) with
         |none=>simp[hx,hr]at hm
         |some rest=>
          simp[hx,hr]at hm;subst hm
          cases q with
          |zero=>
           simp at hq;subst hq;have:ix=f':=by rw[hn.2,g1]at hx;exact(Xm hx).symm
           subst this;simp[hn.1,g2]
          |succ q=>simpa using ih rest q hr (by simpa using hq)
      simpa using key F.toList pl q hpl hfq
    cases hq
   cases hq
  obtain⟨vs',e,g⟩:=zdr (zjn Γ fs) (λx=>pl.toArray[x]?) hplaces i.sz (ps.toList.map (·.1)) svs _ (vals i.zero) i.zero hp hgs (Gs.vals _) (by simp[vals,h7]);refine⟨.agg vs'.toArray,?_,.agg _ _ g.1 g.2⟩
  have hb:P.built t (ps.map λ(i,x)=>(i,a.eval x)).toList=some vs'.toArray:=by
   simp only[Program.built,h1,hF,h4,hpl,hzl];rw[←e];congr 1;simp only[Jo];exact vY ps.toList a.eval
  simp only[execOp,ho,Sem.run_bind,run_build w t _ _ hb,Result.andThen_ok,Sem.run_pure]
 ·rename_i len e hfs;rw[hfs]at hk;replace h:=zD h;obtain⟨j,hj,h⟩:=h;replace h:=zj h;obtain⟨hp,h⟩:=h;obtain⟨fe,g1,g2,_⟩:=(hT e j hj).inf;refine⟨_,h,.pure λo ho S Pm ρ a w hgs=>?_⟩;obtain⟨vs',e',g⟩:=zdr (zap j.sz) (λi=>some (i*fe.size,fe.size)) (λq p hq=>by simp only[zap]at hq;rw[g2];exact hq) i.sz (ps.toList.map (·.1)) svs _ (vals i.zero) i.zero hp hgs (Gs.vals _) (by simp[vals,h7]);refine⟨.agg vs'.toArray,?_,.agg _ _ g.1 g.2⟩;have hk:P.underlying t=some (.array len e):=hk
  have hb:P.built t (ps.map λ(i,x)=>(i,a.eval x)).toList=some vs'.toArray:=by
   simp only[Program.built,h1,hk,h4,g1,hzl];rw[←e'];congr 1;simp only[Jo];exact vY ps.toList a.eval
  simp only[execOp,ho,Sem.run_bind,run_build w t _ _ hb,Result.andThen_ok,Sem.run_pure]
 exact h.elim
def zti{α:Type 1}(l:List α):∀(n i:Nat),(rep n l)[i]?=if i<n*l.length then l[i%l.length]? else none
 |0,i=>by simp[rep]
 |n+1,i=>by
  simp only[rep,KO,zti l n]
  by_cases h:i<l.length
  ·rw[Xe h,Xe (by rw[X4];omega),Xy h]
  rw[Xc h];have h2:i-l.length<n*l.length↔i<(n+1)*l.length:=by rw[X4];omega
  by_cases h3:i<(n+1)*l.length
  ·rw[Xe h3,Xe (h2.2 h3)];congr 1;rw[Nat.mod_eq_sub_mod (by omega:l.length<=i)]
  rw[Xc h3,Xc (λh4=>h3 (h2.1 h4))]
def znL{α:Type 1}(n:Nat)(l:List α):(rep n l).length=n*l.length:=by
 induction n with
 |zero=>simp[rep]
 |succ n ih=>simp[rep,ih,X4];omega
def zf3(z:LA)(n i:Nat):(madeCells z.toArray (n*z.length)).toList[i]?=if i<n*z.length then z[i%z.length]? else none:=by
 unfold madeCells
 by_cases h:i<n*z.length
 ·rw[Xe h]
  have hz:0<z.length:=by
   rcases Kr z.length with h0|h0
   ·rw[h0]at h;omega
   exact h0
  have hm:i%z.length<z.length:=Kk _ hz;simp[h,hm]
 rw[Xc h];simp;omega
def zCn{w:World}(z:LA)(n:Nat):Gs S Pm ρ w (rep n (vals z)) (madeCells z.toArray (n*z.length)).toList:=by
 refine⟨by simp[znL,vals,madeCells],λj s v h1 h2=>?_⟩;rw[zti]at h1;rw[zf3]at h2;simp only[vals,Xx,XD]at h1
 split at h1
 ·rename_i hj;rw[Xe hj]at h2;rw[h2]at h1;simp at h1;subst h1;exact .d _ _ (.val v)
 cases h1
def zeh{α:Type _}{enc:α->LR}{sz:Nat}:∀{xs:List α},(∀x∈xs,(enc x).length=sz)->∀(i j:Nat) (x:α),xs[i]?=some x->j<sz->(zeW enc xs)[i*sz+j]?=(enc x)[j]?
 |[],_,i,j,x,hx,_=>by simp at hx
 |y::ys,h,i,j,x,hx,hj=>by
  have hy:=h y (.head _);simp only[zeW]
  cases i with
  |zero=>
   simp at hx;subst hx;rw[XK oM];simp
  |succ i=>
   rw[XG (by rw[hy,X4];omega),hy,show(i+1)*sz+j-sz=i*sz+j by rw[X4];omega];exact zeh (λx hx=>h x (.tail _ hx)) i j x (by simpa using hx) hj
def zei{α:Type _}{enc:α->LR}{sz:Nat}:∀{xs:List α},(∀x∈xs,(enc x).length=sz)->(zeW enc xs).length=xs.length*sz
 |[],_=>by simp[zeW]
 |y::ys,h=>by
  simp only[zeW,Xq,Xn,h y (.head _),zei (λx hx=>h x (.tail _ hx)),X4];omega
def zid{α:Type _}{enc:α->LR}:∀{xs:List α},(∀x∈xs,jY (enc x)=true)->jY (zeW enc xs)=true
 |[],_=>rfl
 |y::ys,h=>by
  have key:∀(l r:LR),jY l=true->jY r=true->jY (l++r)=true:=by
   intro l r hl hr
   induction l with
   |nil=>exact hr
   |cons c l ih=>
    simp only[jY]at hl
    split at hl
    ·rename_i hc;simp only[Jq,jY,hc];exact ih hl
    cases hl
  exact key _ _ (h y (.head _)) (zid λx hx=>h x (.tail _ hx))
variable{Keep:LI}{M:LT}{sz:Nat}{cap:Nat}
def zl5{w:World}(hm:zL Keep M ρ w)(hκ:ρ κ=none)(hκM:∀m,(κ,m)∉M)(T:TypeId){α:Type}{enc:α->LR}{xs:List α}(hl:xs.length<=cap)(hc:cap<=maxLen)(h48:xs.length<=281474976710656)(hv:vs.length=cap*sz)(hone:∀u∈vs,u.oneCell'=true)(hsz:∀x∈xs,(enc x).length=sz)(hd:∀(i j:Nat) x (s:SV),xs[i]?=some x->(enc x)[j]?=some s->∃u,vs[i*sz+j]?=some u/\D (λb=>Keep b∨Own M ρ b) w s u):
  k8 Keep M ρ w κ (.own κ) (.push (.arr T enc sz xs)) (.slice (some ⟨w.heap.size,0,none⟩) xs.length cap) (w.alloc (.cells vs.toArray T)):=by
 refine k8.push (u:=.slice (some ⟨w.heap.size,0,none⟩) xs.length cap) (zcv hm hκ hκM _ _ _ (.cells _ _ _) rfl λhs=>?_) (.own _ _ kD rfl);have hmul:xs.length*sz<=cap*sz:=Xv _ hl;refine⟨_,vs.take (xs.length*sz),kD,⟨by simp;omega,.inr ⟨_,cap,_,rfl,Xh _,heap_alloc_new w _,hl,hc,by simpa using hv,rfl⟩⟩,h48,λu hu=>hone u (XL hu),hsz,λi j x s hx hs'=>?_⟩;obtain⟨u,hu,hd'⟩:=hd i j x s hx hs';refine⟨u,?_,hd'.stp hs⟩;have hi:i<xs.length:=(Xd.1 hx).1
 have hj:j<sz:=by
  have:=(Xd.1 hs').1;rw[hsz x (Xf hx)]at this;exact this
 have h1:i*sz+sz<=xs.length*sz:=by
  have:=Xv sz (X6 hi);rw[X4]at this;exact this
 rw[XI,Xe oM];exact hu
def zrR{w:World}(hm:zL Keep M ρ w)(hκ:ρ κ=none)(hκM:∀m,(κ,m)∉M)(T:TypeId)
{xs:LN}(hl:xs.length<=cap) (hc:cap<=maxLen) (h48:xs.length<=281474976710656) (hv:vs.length=cap*sz)
  (hone:∀u∈vs,u.oneCell'=true) (hsz:∀x∈xs,x.length=sz)
  (hd:∀(i j:Nat) x (s:SV),xs[i]?=some x->x[j]?=some s->∃u,vs[i*sz+j]?=some u/\G (λb=>Keep b∨Own M ρ b) (Own M ρ) ρ w s u):
  k8 Keep M ρ w κ (.own κ) (.push (.garr T sz xs)) (.slice (some ⟨w.heap.size,0,none⟩) xs.length cap) (w.alloc (.cells vs.toArray T)):=by
 refine k8.push (u:=.slice (some ⟨w.heap.size,0,none⟩) xs.length cap) (zcv hm hκ hκM _ _ _ (.cells _ _ _) rfl λhs=>?_) (.own _ _ kD rfl);have hmul:xs.length*sz<=cap*sz:=Xv _ hl;refine⟨_,vs.take (xs.length*sz),kD,⟨by simp;omega,.inr ⟨_,cap,_,rfl,Xh _,heap_alloc_new w _,hl,hc,by simpa using hv,rfl⟩⟩,h48,λu hu=>hone u (XL hu),hsz,λi j x s hx hs'=>?_⟩;obtain⟨u,hu,hd'⟩:=hd i j x s hx hs';refine⟨u,?_,hd'.stp hs⟩;have hi:i<xs.length:=(Xd.1 hx).1
 have hj:j<sz:=by
  have:=(Xd.1 hs').1;rw[hsz x (Xf hx)]at this;exact this
 have h1:i*sz+sz<=xs.length*sz:=by
  have:=Xv sz (X6 hi);rw[X4]at this;exact this
 rw[XI,Xe oM];exact hu
def zhj(hT:TOK P Γ){t:TypeId}{n:Nat}(h:zdf Γ t n (ps.toList.map (·.1)) svs κ K):∃r md,K r md/\yR P (.buildSlice t n ps) svs lm κ r md:=by
 unfold zdf at h;replace h:=zD h;obtain⟨i,hi,h⟩:=h;have hk:=(hT t i hi).kind
 split at h
 ·rename_i e hfs;rw[hfs]at hk;have hk:P.underlying t=some (.slice e):=hk;replace h:=zD h;obtain⟨j,hj,h⟩:=h;replace h:=zj h;obtain⟨hp,h⟩:=h;obtain⟨f,h1,h2,h3,z,h4,h5,h6,h7,h8⟩:=(hT e j hj).inf;have hzl:z.cells=j.zero.toArray:=by rw[←h5]
  split at h
  ·obtain⟨α,enc,xs,hch,h⟩:=h;obtain⟨e1,e2,e3,e4,e5⟩:=h.ob;refine⟨_,_,h.go,λo ho Keep M ρ a w _ hm hκ hκM hgs=>?_⟩;replace hκ:=hκ _ (Xk _) (XW _);replace hκM:=hκM rfl
   obtain⟨vs',e',g⟩:=zdr (zap j.sz) (λi=>some (i*f.size,f.size)) (λq p hq=>by simp only[zap]at hq;rw[h2];exact hq) (n*j.sz) (ps.toList.map (·.1)) svs _ _ _ hp hgs (zCn j.zero n)
    (by simp[znL,vals,h7])
   have hsz:=λx hx=>(e5 x hx).1
   rw[←hch]at g;have hl:=g.1;rw[zei hsz,e1]at hl;have hone:=zhh (zid λx hx=>(e5 x hx).2.1) g
   have run:(execOp a.eval o).run P w=.ok (.value (.slice (some ⟨w.heap.size,0,none⟩) n n)) (w.alloc (.cells vs'.toArray e)):=by
    have e'':Instr.fill (λi=>some (i*f.size,f.size)) ((Array.range (n*f.size)).map λx=>z.cells[x%z.cells.size]!) (ps.map λ(i,x)=>(i,a.eval x)).toList=some vs'.toArray:=by
     rw[←e'];congr 1
     ·simp only[madeCells,hzl,h2,h7,KJ]
     simp only[Jo];exact vY ps.toList a.eval
    have hn0:¬(16777216<n*f.size):=by rw[h2];omega
    by_cases hz0:n*f.size=0
    ·have hn:n=0:=by
      rcases Nat.mul_eq_zero.1 hz0 with h|h
      ·exact h
      rw[h2]at h;omega
     subst hn;simp only[Jk]at e'';simp[execOp,ho,Instr.buildSlice,run_underlying hk,sizeOf,typeInfo,h1,Array.range_zero',newRow]at e'' ⊢;rw[e''];simp
    simp[execOp,ho,Instr.buildSlice,run_underlying hk,sizeOf,typeInfo,h1,hn0,hz0,zeroValue,h4,newRow];simp at e'';rw[e''];simp
   refine qJ.value run ?_
   have:=zl5 hm hκ hκM e (enc:=enc) (xs:=xs) (cap:=n) (vs:=vs') oM (by unfold maxLen;omega) oM hl hone hsz (λq p x s hx hs=>by
    have hpj:p<j.sz:=by
     have:=(Xd.1 hs).1;rw[hsz x (Xf hx)]at this;exact this
    have hcg:=zeh hsz q p x hx hpj
    have hlt:q*j.sz+p<vs'.length:=by
     have hq:q<xs.length:=(Xd.1 hx).1;have:=Xv j.sz (X6 hq);rw[X4,e1]at this;omega
    have hu:=Xb hlt
    exact⟨_,hu,uP (yM (e5 x (Xf hx)).2.2 p s hs) (g.2 _ s _ (hcg.trans hs) hu)⟩)
   rwa [e1]at this
  replace h:=zj h;obtain⟨hcl0,h⟩:=h;obtain⟨xs,hch,h⟩:=h;obtain⟨e1,e2,e3,e4,e5⟩:=h.ob;refine⟨_,_,h.go,λo ho Keep M ρ a w _ hm hκ hκM hgs=>?_⟩;replace hκ:=hκ _ (Xk _) (XW _);replace hκM:=hκM rfl
  obtain⟨vs',e',g⟩:=zdr (zap j.sz) (λi=>some (i*f.size,f.size)) (λq p hq=>by simp only[zap]at hq;rw[h2];exact hq) (n*j.sz) (ps.toList.map (·.1)) svs _ _ _ hp hgs (zCn j.zero n)
   (by simp[znL,vals,h7])
  have hsz:∀x∈xs,(id x).length=j.sz:=e5;rw[←hch]at g;have hl:=g.1;rw[zei hsz,e1]at hl;have hone:=zhh (hch ▸ hcl0) g
  have run:(execOp a.eval o).run P w=.ok (.value (.slice (some ⟨w.heap.size,0,none⟩) n n)) (w.alloc (.cells vs'.toArray e)):=by
   have e'':Instr.fill (λi=>some (i*f.size,f.size)) ((Array.range (n*f.size)).map λx=>z.cells[x%z.cells.size]!) (ps.map λ(i,x)=>(i,a.eval x)).toList=some vs'.toArray:=by
    rw[←e'];congr 1
    ·simp only[madeCells,hzl,h2,h7,KJ]
    simp only[Jo];exact vY ps.toList a.eval
   have hn0:¬(16777216<n*f.size):=by rw[h2];omega
   by_cases hz0:n*f.size=0
   ·have hn:n=0:=by
     rcases Nat.mul_eq_zero.1 hz0 with h|h
     ·exact h
     rw[h2]at h;omega
    subst hn;simp only[Jk]at e'';simp[execOp,ho,Instr.buildSlice,run_underlying hk,sizeOf,typeInfo,h1,Array.range_zero',newRow]at e'' ⊢;rw[e''];simp
   simp[execOp,ho,Instr.buildSlice,run_underlying hk,sizeOf,typeInfo,h1,hn0,hz0,zeroValue,h4,newRow];simp at e'';rw[e''];simp
  refine qJ.value run ?_
  have:=zrR hm hκ hκM e (xs:=xs) (cap:=n) (vs:=vs') oM (by unfold maxLen;omega) oM hl hone hsz (λq p x s hx hs=>by
   have hpj:p<j.sz:=by
    have:=(Xd.1 hs).1;rw[e5 x (Xf hx)]at this;exact this
   have hcg:=zeh hsz q p x hx hpj
   have hlt:q*j.sz+p<vs'.length:=by
    have hq:q<xs.length:=(Xd.1 hx).1;have:=Xv j.sz (X6 hq);rw[X4,e1]at this;omega
   have hu:=Xb hlt
   exact⟨_,hu,g.2 _ s _ (hcg.trans hs) hu⟩)
  rwa [e1]at this
 exact h.elim
def ziI(hT:TOK P Γ){t:TypeId}{x y:Operand}{l c:SV}(h:zfp Γ t l c κ K):∃r md,K r md/\yR P (.makeSlice t x y) [l,c] lm κ r md:=by
 unfold zfp at h;replace h:=zD h;obtain⟨i,hi,h⟩:=h;have hk:=(hT t i hi).kind
 split at h
 ·rename_i e kl n kc m hfs;rw[hfs]at hk;have hk:P.underlying t=some (.slice e):=hk;replace h:=zD h;obtain⟨j,hj,h⟩:=h;obtain⟨f,h1,h2,h3,z,h4,h5,h6,h7,h8⟩:=(hT e j hj).inf;have hzl:z.cells=j.zero.toArray:=by rw[←h5]
  obtain⟨α,enc,x0,hz,h⟩:=h;obtain⟨e0,e1,e2,e3,e4⟩:=h.ob;refine⟨_,_,h.go,λo ho Keep M ρ a w _ hm hκ hκM hgs=>?_⟩;replace hκ:=hκ _ (Xk _) (XW _);replace hκM:=hκM rfl;have hx:=(Gs.head hgs).val_inv;have hy:=(Gs.head (Gs.tail hgs)).val_inv;have hrun:=run_make (P:=P) w t e f z hk h1 h4 kl kc n m e1 e2 (by rw[h3,QU];exact e3) oM;refine qJ.value (by simp only[execOp,ho,hx,hy,Sem.run_bind,hrun,Result.andThen_ok,Sem.run_pure];rfl) ?_
  have hlen:(madeCells z.cells (m.toNat*f.size)).toList.length=m.toNat*j.sz:=by simp[madeCells,h2]
  have hmg:∀q,(madeCells z.cells (m.toNat*f.size)).toList[q]?=if q<m.toNat*j.sz then j.zero[q%j.sz]? else none:=λq=>by
   have:=zf3 j.zero m.toNat q;rw[h7]at this;rw[hzl,h2];exact this
  have henc:(enc x0).length=j.sz:=by rw[hz];simp[vals,h7]
  have:=zl5 hm hκ hκM e (enc:=enc) (sz:=j.sz) (xs:=List.replicate n.toNat x0) (cap:=m.toNat) (vs:=(madeCells z.cells (m.toNat*f.size)).toList) (by simp;omega) (by unfold maxLen;omega) (by simp;omega) hlen
   (λu hu=>by
    obtain⟨q,hq,rfl⟩:=JA.1 hu;have:=hmg q;rw[Xb hq]at this
    split at this
    ·exact h8 _ (Xf this.symm)
    cases this)
   (λx hx=>by rw[KH hx];exact henc)
   (λq p x s hx hs=>by
    have hxm:=KH (Xf hx);subst hxm;have hq:q<n.toNat:=by simpa using (Xd.1 hx).1
    have hpj:p<j.sz:=by
     have:=(Xd.1 hs).1;rw[henc]at this;exact this
    have h1:q*j.sz+j.sz<=m.toNat*j.sz:=by
     have:=Xv j.sz (show q+1<=m.toNat by omega);rw[X4]at this;exact this
    have hmod:(q*j.sz+p)%j.sz=p:=by rw[Ks,Qz];exact Xy hpj
    rw[hmg,Xe oM,hmod];rw[hz]at hs;simp only[vals,XD]at hs
    cases hu:j.zero[p]? with
    |none=>simp[hu]at hs
    |some u=>
     simp[hu]at hs;subst hs
     exact⟨u,rfl,.val u⟩)
  simpa using this
 exact h.elim
end Go.Gs
