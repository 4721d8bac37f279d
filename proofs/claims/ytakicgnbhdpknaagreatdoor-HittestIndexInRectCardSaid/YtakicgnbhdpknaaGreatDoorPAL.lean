/- A piece of code: what is left to be shown is enough. -/
import Derived.Test.YtakicgnbhdpknaaGreatDoorPAK
import Derived.Deep.LoopGhost
import Derived.Scope
set_option maxRecDepth 100000
set_option maxHeartbeats 8000000
set_option linter.all false
namespace Go.Gs
def uY(E:Env)(Q:LH):LF
 |.normal,a,w=>∃Z O,Q .normal Z/\Rel E Z O a w
 |.exit id,a,w=>∃Z O,Q (.exit id) Z/\Rel E Z O a w
 |.ret,a,w=>∃Z O,Q .ret Z/\Rel E Z O a w
 |_,_,_=>False
def kU{P:Program}{H:LS}(hT:TOK P H)(k:P.follows .mixedOrders=true){E:Env}:∀(c:Code) {Z:St} {Q:LH} {O:zh} {a:Act} {w:World},
  Rel E Z O a w->jw P H c Z Q->c.wp P (uY E Q) a w
 |.skip,Z,Q,O,a,w,d,h=>wp_skip ⟨Z,O,h,d⟩
 |.region id ops draw,Z,Q,O,a,w,d,h=>by
  cases draw with
  |false=>
   have h:ve P H false ops.toList ops.toList 0 Z (Q .normal):=h;refine wp_region_list ?_;have:=zjQ (Q:=uY E Q) hT (λZ O a w h d=>⟨Z,O,h,d⟩) d h
   simpa using this
  |true=>
   have h:Dr (vt ops.toList=true) (ve P H true ops.toList ops.toList 0 Z (Q .normal)) (Ob (zf0 ops.toList=true) (zbl P H ops.toList ops.toList 0 [] Z (Q .normal))):=h
   obtain⟨v,z⟩|⟨v,z⟩:=h
   .exact ztv hT k d v z λZ O a w h d=>⟨Z,O,h,d⟩
   exact zqR hT k d v z λZ O a w h d=>⟨Z,O,h,d⟩
 |.seq x y,Z,Q,O,a,w,d,h=>by
  refine wp_seq (Code.wp_mono (λe o w' g=>?_) (kU hT k x d h))
  cases e with
  |normal=>obtain⟨Z',O',q,l⟩:=g;exact kU hT k y l q
  |exit id=>exact g
  |ret=>exact g
  |_=>exact g.elim
 |.cond c x y,Z,Q,O,a,w,d,h=>by
  obtain⟨s,h,V⟩:=zcX h;have A:=V (a:=a) (λt s _ U=>(d.regs t s U).2)
  split at h
  .exact wp_cond_true A.val_inv (kU hT k x d h)
  .exact wp_cond_false A.val_inv (kU hT k y d h)
  .rename_i p i
   by_cases C:p
   .exact wp_cond_true (by rw[A.pr_inv];simp[C]) (kU hT k x d (h.yes C))
   exact wp_cond_false (by rw[A.pr_inv];simp[C]) (kU hT k y d (h.no C))
  .obtain⟨b,u⟩:=A.anyb_inv
   cases b with
   |true=>exact wp_cond_true u (kU hT k x d h.yes)
   |false=>exact wp_cond_false u (kU hT k y d h.no)
  exact h.elim
 |.block id c,Z,Q,O,a,w,d,h=>by
  refine wp_block (Code.wp_mono (λe o w' g=>?_) (kU hT k c d h))
  cases e with
  |normal=>exact g
  |exit j=>
   obtain⟨Z',O',q,l⟩:=g;dsimp only at q;show(if j=id then uY E Q .normal o w' else uY E Q (.exit j) o w')
   split at q
   .rename_i u;rw[Xe (Xk u)];exact⟨Z',O',q,l⟩
   rename_i u;rw[Xc (KM u)];exact⟨Z',O',q,l⟩
  |ret=>exact g
  |_=>exact g.elim
 |.loop c,Z,Q,O,a,w,d,h=>by
  obtain⟨ι,S,I,μ,R,T,B,hround⟩:=h;obtain⟨N,F⟩:=B E O a w d;refine wp_loop_ghost (λn a w=>∃x O,I x/\μ x=n/\Rel E (S x) O a w) (μ R) ⟨R,N,T,rfl,F⟩ λn a w hI=>?_
  obtain⟨x,O1,v,rfl,G⟩:=hI;refine Code.wp_mono (λe o w' g=>?_) (kU hT k c G (hround x v))
  cases e with
  |normal=>
   obtain⟨Z',O',⟨x',z,L,D⟩,l⟩:=g;obtain⟨O2,J⟩:=L E O' o w' l;exact⟨μ x',D,x',O2,z,rfl,J⟩
  |exit id=>exact g
  |ret=>exact g
  |_=>exact g.elim
 |.exit id,Z,Q,O,a,w,d,h=>wp_exit ⟨Z,O,h,d⟩
 |.ret,Z,Q,O,a,w,d,h=>wp_ret ⟨Z,O,h,d⟩
 |.rangeFunc _ _ _ _,_,_,_,_,_,_,h=>by cases h
 |.scope c,Z,Q,O,a,w,d,h=>by
  refine wp_scope_straight (Code.wp_mono (λe o w' g=>?_) (kU hT k c d h))
  cases e with
  |normal=>exact g
  |exit j=>exact g
  |ret=>exact g
  |_=>exact g.elim
 |.label _,Z,Q,O,a,w,d,h=>wp_label ⟨Z,O,h,d⟩
 |.goto _,_,_,_,_,_,_,h=>by cases h
 |.refuse _,_,_,_,_,_,_,h=>by cases h
variable{P:Program}{H:LS}{Z:St}{K:SV->Prop}
def zqS(hT:TOK P H){x:ResultVar}(h:zti Z H x K):∃s,K s/\∀{E:Env} {O:zh} {a:Act} {w:World},Rel E Z O a w->
  ∃v,((match x with|.tmp t=>pure (a.tmps.getD t undef)|.cell ad t=>do loadVar t (←asAddr (a.tmps.getD ad undef)):Sem Value)).run P w=.ok v w/\G (λb=>E.Keep b∨Own Z.M O b) (Own Z.M O) O w s v:=by
 unfold zti at h
 split at h
 .split at h
  .rename_i s A;exact⟨s,qO h,λl=>⟨_,rfl,(l.regs _ s A).2⟩⟩
  exact h.elim
 rename_i ad t;replace h:=zE h;obtain⟨i,hi,h⟩:=h
 split at h
 .rename_i k off z
  split at h
  .rename_i T p n;replace h:=zj h;obtain⟨e,h⟩:=h;replace h:=vv h;obtain⟨s,hK,h⟩:=h;have e:=Xz e;refine⟨s,hK,λ{E O a w} l=>?_⟩;obtain⟨b,vs,hρ,hheap,g,_,d⟩:=l.mem.rel k _ (zA n);obtain⟨D,hρ',C⟩:=(l.regs ad _ z).2.loc_inv;rw[hρ]at hρ';cases hρ'
   have y:Gs (λb=>E.Keep b∨Own Z.M O b) (Own Z.M O) O w (p.drop off) (vs.drop off):=Gs.drop off ⟨g,d⟩;obtain⟨v,q,u⟩:=zcg (hT t i hi) (b:=b) (o:=off) y (λj v B=>by rw[zch hheap];simpa using B) (by simp;omega) h;exact⟨v,by simp only[C,asAddr,Sem.run_bind,Sem.run_pure,Result.andThen_ok,q],u⟩
  exact h.elim
 exact h.elim
def zje{P:Program}{H:LS}(hT:TOK P H){Z:St}:∀{xs:List ResultVar} {K:LR->Prop},zyW Z H xs K->∃l,K l/\∀{E:Env} {O:zh} {a:Act} {w:World},Rel E Z O a w->
  ∃vs,(xs.mapM λx=>(match x with|.tmp t=>pure (a.tmps.getD t undef)|.cell ad t=>do loadVar t (←asAddr (a.tmps.getD ad undef)):Sem Value)).run P w=.ok vs w/\Gs (λb=>E.Keep b∨Own Z.M O b) (Own Z.M O) O w l vs
 |[],K,h=>⟨[],h,λ_=>⟨[],rfl,.nil⟩⟩
 |x::xs,K,h=>by
  obtain⟨s,h,k⟩:=zqS hT h;obtain⟨l,h,n⟩:=zje hT h;refine⟨s::l,h,λ{E O a w} d=>?_⟩;obtain⟨v,e,g⟩:=k d;obtain⟨vs,i,j⟩:=n d;exact⟨v::vs,by rw[List.mapM_cons,Sem.run_bind,e,Result.andThen_ok,Sem.run_bind,i,Result.andThen_ok,Sem.run_pure],.cons g j⟩
variable{fn:Func}
def jL(hT:TOK P H)(h:zbm Z H fn.results.toList K):∃s,K s/\∀{E:Env} {O:zh} {a:Act} {w:World},Rel E Z O a w->
  ∃v,(results fn a.tmps).run P w=.ok v w/\G (λb=>E.Keep b∨Own Z.M O b) (Own Z.M O) O w s v:=by
 unfold zbm at h;obtain⟨l,h,k⟩:=zje hT h
 have run:∀{a:Act} {w:World} {vs:LA},(fn.results.toList.mapM λx=>(match x with|.tmp t=>pure (a.tmps.getD t undef)|.cell ad t=>do loadVar t (←asAddr (a.tmps.getD ad undef)):Sem Value)).run P w=.ok vs w->
   (results fn a.tmps).run P w=.ok (if h:vs.toArray.size=1 then vs.toArray[0] else .tuple vs.toArray) w:=by
  intro a w vs q
  have e:(fn.results.mapM λx=>(match x with|.tmp t=>pure (a.tmps.getD t undef)|.cell ad t=>do loadVar t (←asAddr (a.tmps.getD ad undef)):Sem Value)).run P w=.ok vs.toArray w:=by
   rw[Array.mapM_eq_mapM_toList,Sem.run_map,q];rfl
  unfold results;rw[Sem.run_bind]
  erw [e]
  rfl
 split at h
 .rename_i s;refine⟨s,h,λ{E O a w} j=>?_⟩;obtain⟨vs,g,d⟩:=k j;obtain⟨v,u,rfl,n,o⟩:=d.cons_inv;rw[o.nil_inv]at g;exact⟨v,by rw[run g];rfl,n⟩
 rename_i i;refine⟨_,h,λ{E O a w} j=>?_⟩;obtain⟨vs,g,d⟩:=k j;refine⟨.tuple vs.toArray,?_,.tup _ vs d.1 d.2⟩;rw[run g]
 have p:¬vs.toArray.size=1:=by
  intro e;have:l.length=1:=by rw[←d.1];simpa using e
  match l,this with
  |[s],_=>exact i s rfl
 rw[dif_neg p]
def zjf:∀(l:LR) (n t:Nat),kF (jm n l) t=if n<=t then l[t-n]? else none
 |[],n,t=>by simp[jm,kF]
 |s::l,n,t=>by
  simp only[jm,zU,zjf l (n+1) t]
  by_cases h:n=t
  .subst h;simp
  rw[Xc h]
  by_cases a:n<=t
  .rw[Xe oM,Xe a,show t-n=(t-(n+1))+1 by omega,KW]
  rw[Xc oM,Xc a]
variable{M:LT}{O:zh}{S':LI}{Pm':LI}{O':zh}
def zoX{l:LJ}{Keep:LI}{w:World}(d:∀k m,l k=some m->(k,m)∈M)(j:zJ Keep M O w)(a:∀b,S' b->Keep b∨Own M O b){s:SV}{v:Value}(i:G (λb=>Keep b∨Own M O b) (Own M O) O w s v)(g:∀b,Own M O b->¬S' b)(hP:∀b,¬Pm' b):
  G S' Pm' O' w (zm3 l s) v:=by
 unfold zm3
 split
 .rename_i n;obtain⟨vs,rfl,e⟩:=i.tup_inv;have h:=zkv (S':=S') (Pm':=Pm') (O':=O') d j a (λb _=>hP b) (λ_ _ b _ _=>hP b) e (.inr g);exact .tup _ vs h.1 h.2
 exact zoS d j a i (.inr g) (λb _=>hP b) (λ_ _ b _ _=>hP b)
def vg{Keep:LI}{M:LT}{O:zh}{w:World}{args:LR}{vs:LA}{nt:Nat}(g:zJ Keep M O w)(hρ:∀k,M.length<=k->O k=none)(d:Gs (λb=>Keep b∨Own M O b) (Own M O) O w args vs)(i:args.length<=nt):
  Rel ⟨w,O,Keep,Own M O,[]⟩ ⟨jm 0 args,M,M.length,nt,M.length⟩ O { tmps:=vs.toArray++Array.replicate (nt-vs.toArray.size) undef,defers:=[] } w:=by
 have l:=d.1;refine⟨by simp;omega,rfl,λt s h=>?_,g,hρ,.refl,g.kp,λk v h=>?_⟩;rotate_left
 .rcases Kc k M.length with a|a
  .exact a
  have h:O k=some v:=h;rw[hρ k a]at h;cases h
 have h:kF (jm 0 args) t=some s:=h;rw[zjf]at h;simp only[Xh,if_true,YT]at h;have j:=(Xd.1 h).1;refine⟨show t<nt by omega,d.2 t s _ h ?_⟩;have:t<vs.length:=oM
 have e:(vs.toArray++Array.replicate (nt-vs.toArray.size) undef)[t]?=some vs[t]:=by
  rw[Array.getElem?_append_left (by simpa using this)];simp[this]
 rw[Xb this,Ke,e];rfl
def Sub.refl{Z:St}:Sub Z Z:=λ_ O _ _ a=>⟨O,a⟩
variable{f:FuncId}{c:Code}{Q:LH}{r:SV}{M':LT}
def v8(hT:TOK P H)(L:P.follows .mixedOrders=true){args:LR}(u:P.funcs[f]?=some fn)(t:fn.body=some c)(N:(fn.name== "runtime.NumGoroutine")=false) (n:Nat.ble args.length fn.ntmps=true)
  (h:jw P H c ⟨jm 0 args,M,M.length,fn.ntmps,M.length⟩ Q){Q':LH} (hS:∀e Z,Q e Z->∃Z',Sub Z Z'/\Q' e Z')
  (hQ:∀e Z,Q' e Z->(∀id,e≠.exit id)->∃s,(∀{E:Env} {O:zh} {a:Act} {w:World},Rel E Z O a w->∃v,(results fn a.tmps).run P w=.ok v w/\G (λb=>E.Keep b∨Own Z.M O b) (Own Z.M O) O w s v)/\
   ∀{E:Env} {O:zh} {a:Act} {w:World} {v:Value},Rel E Z O a w->(∀b,E.W0 b↔Own M E.ρ0 b)->(∀k,M.length<=k->E.ρ0 k=none)->G (λb=>E.Keep b∨Own Z.M O b) (Own Z.M O) O w s v->
    ∃O',Stp (Own M E.ρ0) (Own M' O') E.ρ0 O' E.w0 w/\zJ E.Keep M' O' w/\G (λb=>E.Keep b∨Own M' O' b) (Own M' O') O' w r v)
  (R:∀id Z,¬Q' (.exit id) Z):qg P f args M r M':=by
 refine⟨⟨fn,u,N,by rw[t];rfl⟩,λKeep O w vs _ i hρ J=>calls_of_wp u t ?_⟩;have hrel:=vg (nt:=fn.ntmps) i hρ J (Xz n);refine Code.wp_mono (λe l w' d=>?_) (kU hT L c hrel h)
 have fin:∀e Z O1,Q e Z->(∀id,e≠.exit id)->Rel ⟨w,O,Keep,Own M O,[]⟩ Z O1 l w'->l.defers=[]/\∃v,(results fn l.tmps).run P w'=.ok v w'/\∃x O',Ending.returned v=.returned x/\Stp (Own M O) (Own M' O') O O' w w'/\
   zJ Keep M' O' w'/\G (λb=>Keep b∨Own M' O' b) (Own M' O') O' w' r x:=by
  intro e Z0 T p I q;obtain⟨Z,j,d⟩:=hS e Z0 p;obtain⟨O1,g⟩:=j _ _ _ _ q;obtain⟨s,D,F⟩:=hQ e Z d I;obtain⟨v,y,z⟩:=D g;obtain⟨O',A,B,C⟩:=F g (λ_=>Qj) hρ z;exact⟨g.defers,v,y,v,O',rfl,A,B,C⟩
 cases e with
 |normal=>obtain⟨Z,O1,d,g⟩:=d;exact fin _ Z O1 d (λ_=>by simp) g
 |ret=>obtain⟨Z,O1,d,g⟩:=d;exact fin _ Z O1 d (λ_=>by simp) g
 |exit id=>obtain⟨Z,O1,d,g⟩:=d;obtain⟨Z',_,o⟩:=hS _ Z d;exact(R id Z' o).elim
 |_=>exact d.elim
def zy6(hT:TOK P H)(x:P.follows .mixedOrders=true){args:LR}(q:P.funcs[f]?=some fn)(d:fn.body=some c)(n:(fn.name== "runtime.NumGoroutine")=false) (g:Nat.ble args.length fn.ntmps=true)
  (h:jw P H c ⟨jm 0 args,[],0,fn.ntmps,0⟩ (endV H fn.results.toList r)):qg P f args [] r []:=by
 refine v8 hT x q d n g h (λe Z h=>⟨Z,.refl,h⟩) (λe Z i p=>?_) (λid Z i=>i)
 have i:zbm Z H fn.results.toList λs=>LE (zm3 (zW Z.M) s) r:=by
  cases e with
  |exit id=>exact absurd rfl (p id)
  |normal=>exact i
  |ret=>exact i
 obtain⟨s,g,o⟩:=jL hT i;refine⟨s,o,λ{E O a w v} l hW _ t=>⟨O,?_,?_,?_⟩⟩
 .have j:=l.stp;exact⟨j.os,j.tape,j.output,j.size,λb d n=>j.block b d λh=>n ((hW b).1 h),λb d=>absurd d zN,j.rho⟩
 .exact qr l.mem.kp λ_ _ h=>l.mem.glc h
 exact g _ _ _ _ _ (zoX (λk m h=>zA h) l.mem (λb d=>.inl (d.resolve_right zN)) t (λb d u=>(l.mem.old b d).2 (u.resolve_right zN)) (λ_=>zN))
variable{S:LI}{Pm:LI}
def zbn.g{k:LK}{s:SV}(h:zbn k s r){w:World}{A:Value}(t:∀b,S' b->S b)(z:O' 0=some A)(C:∀n,k=some n->O n=some A)(F:k=none->A=.slice none 0 0){v:Value}(l:G S Pm O w s v):G S' Pm' O' w r v:=by
 induction h generalizing v with
 |own n h=>
  obtain⟨p,D⟩:=l.own_inv;rw[C n h]at p;cases p
  exact .own _ _ z D
 |loc n off h=>
  obtain⟨b,p,rfl⟩:=l.loc_inv;rw[C n h]at p;cases p
  exact .loc _ _ _ z
 |nil h=>
  rw[l.val_inv];exact .own _ _ (by rw[z,F h]) rfl
 |le s r h E=>exact .d _ _ ((uV E (h _ _ _ _ _ l)).less t)
 |junk s=>exact .d _ _ (.junk _)
 |agg o B q h y=>
  obtain⟨vs,rfl,a⟩:=l.agg_inv;refine .agg _ vs (a.1.trans q) λj r u i x=>?_
  have e:j<o.length:=by have:=(Xd.1 i).1;omega
  exact y j _ r (Xb e) i (a.2 j _ u (Xb e) x)
 |tup o B q h y=>
  obtain⟨vs,rfl,a⟩:=l.tup_inv;refine .tup _ vs (a.1.trans q) λj r u i x=>?_
  have e:j<o.length:=by have:=(Xd.1 i).1;omega
  exact y j _ r (Xb e) i (a.2 j _ u (Xb e) x)
 |fn f o B q h y=>
  obtain⟨vs,rfl,a⟩:=l.fn_inv;refine .fn _ _ vs (a.1.trans q) λj r u i x=>?_
  have e:j<o.length:=by have:=(Xd.1 i).1;omega
  exact y j _ r (Xb e) i (a.2 j _ u (Xb e) x)
variable{m:Mem}
def zkL(hT:TOK P H)(hm:P.follows .mixedOrders=true){args:LR}(Y:P.funcs[f]?=some fn)(d:fn.body=some c)(N:(fn.name== "runtime.NumGoroutine")=false) (J:Nat.ble args.length fn.ntmps=true)
  (h:jw P H c ⟨jm 0 args,[],0,fn.ntmps,0⟩ Q) (hS:∀e Z,Q e Z->∃Z',Sub Z Z'/\ztj H fn.results.toList r m e Z'):qg P f args [] r [(0,m)]:=by
 refine v8 hT hm Y d N J h hS (λe Z y X=>?_) (λid Z y=>y)
 have y:zbm Z H fn.results.toList λs=>∃k,zbn k s r/\zyX Z.M k m:=by
  cases e with
  |exit id=>exact absurd rfl (X id)
  |normal=>exact y
  |ret=>exact y
 obtain⟨s,⟨k,U,o⟩,F⟩:=jL hT y;refine⟨s,F,λ{E O a w v} z hW hρ0 hg=>?_⟩;have A:=z.stp
 have main:∀p:Value,(∀b,qf p=some b->Own Z.M O b)->(∀q,k=some q->O q=some p)->(k=none->p=.slice none 0 0)->
   (∀S Pm:LI,(∀b,S b->E.Keep b∨Own Z.M O b)->jN S Pm (one p) w 0 m)->
   ∃O',Stp (Own [] E.ρ0) (Own [(0,m)] O') E.ρ0 O' E.w0 w/\zJ E.Keep [(0,m)] O' w/\G (λb=>E.Keep b∨Own [(0,m)] O' b) (Own [(0,m)] O') O' w r v:=by
  intro p B hk hnone hrel;have l:∀b,Own [(0,m)] (one p) b->Own Z.M O b:=λb d=>B b (zbX.1 d)
  refine⟨one p,⟨A.os,A.tape,A.output,A.size,λb d N=>A.block b d λh=>N ((hW b).1 h),λb d=>(A.own b (l b d)).imp (hW b).1 id,λq v' C=>?_⟩,?_,?_⟩
  .rw[hρ0 q (Xh _)]at C;cases C
  .refine⟨λq m1 h=>?_,X4.2 ⟨λ_ h=>(by cases h),List.Pairwise.nil⟩,λk1 m1 k2 m2 _ _ _ F V R=>?_,λb d=>z.mem.old b (l b d),z.mem.kp,z.mem.glO l⟩
   .cases h with
    |head=>exact hrel _ _ λb d=>d.imp id (l b)
    |tail _ h=>cases h
   cases F with
   |head=>cases V with
    |head=>exact absurd rfl R
    |tail _ h=>cases h
   |tail _ h=>cases h
  exact U.g (λb d=>d.imp id (l b)) uH hk hnone hg
 cases k with
 |some q=>
  obtain⟨L,I⟩:=o;have n:=zA L;obtain⟨p,t⟩:=(z.mem.rel q m n).name
  exact main p (λb d=>⟨q,m,p,n,t,d⟩) (λk2 e=>by cases e;exact t) (λe=>by cases e)
   λS Pm hS=>jN.move (by rw[uH,t]) I (λs u _ W=>.inl (W.less hS)) (z.mem.rel q m n)
 |none=>
  cases m with
  |box T cs=>exact o.elim
  |garr T sz xs=>exact o.elim
  |map es=>exact o.elim
  |arr T enc sz xs=>
   have D:xs=[]:=o;subst D
   exact main (.slice none 0 0) (λb d=>by simp[qf]at d) (λ_ e=>by cases e) (λ_=>rfl)
    λS Pm _=>⟨.slice none 0 0,[],uH,World.ownsRow_nil w 0 T sz,sI,λu hu=>(by cases hu),λx D=>(by cases D),λi j x s D=>(by simp at D)⟩
def qA(hT:TOK P H)(e:P.follows .mixedOrders=true){args:LR}(d:P.funcs[f]?=some fn)(b:fn.body=some c)(g:(fn.name== "runtime.NumGoroutine")=false) (a:Nat.ble args.length fn.ntmps=true)
  (h:jw P H c ⟨jm 0 args,[],0,fn.ntmps,0⟩ (ztj H fn.results.toList r m)):qg P f args [] r [(0,m)]:=
 zkL hT e d b g a h λ_ Z h=>⟨Z,.refl,h⟩
def zfw(hT:TOK P H)(g:P.follows .mixedOrders=true){args:LR}(d:P.funcs[f]?=some fn)(b:fn.body=some c)(i:(fn.name== "runtime.NumGoroutine")=false) (a:Nat.ble args.length fn.ntmps=true)
  (h:jw P H c ⟨jm 0 args,[],0,fn.ntmps,0⟩ (λe Z=>∃Z',Sub Z Z'/\ztj H fn.results.toList r m e Z')):qg P f args [] r [(0,m)]:=
 zkL hT g d b i a h λ_ _ h=>h
def qg.plain{args:LR}{j:SV}(h:qg P f args [] r [(0,m)])(e:zm3 (zW [(0,m)]) r=j):qg P f args [] j []:=by
 subst e;refine⟨h.1,λKeep O w vs n o hρ l=>(h.2 Keep O w vs n o hρ l).mono λ_ _ ⟨v,O',e,g,a,i⟩=>?_⟩;refine⟨v,O,e,⟨g.os,g.tape,g.output,g.size,g.block,λb d=>.inl (zN d |>.elim),λ_ _ h=>h⟩,qr a.kp (λ_ _ h=>a.glc h),?_⟩;exact zoX (λk m h=>zA h) a (λb d=>d.elim .inl λh=>(zN h).elim) i (λb d hSb=>hSb.elim (a.old b d).2 λh=>zN h) (λb=>zN)
def ut(hT:TOK P H)(R:P.follows .mixedOrders=true){args:LR}{j:Mem}(J:P.funcs[f]?=some fn)(g:fn.body=some c)(A:(fn.name== "runtime.NumGoroutine")=false) (k:Nat.ble args.length fn.ntmps=true) (x:zgv j) (y:zkf r=true)
  (h:jw P H c ⟨jm 0 args,[(0,m)],1,fn.ntmps,1⟩ (zFC H fn.results.toList r j)):qg P f args [(0,m)] r [(0,j)]:=by
 refine v8 hT R J g A k h (λe Z h=>⟨Z,.refl,h⟩) (λe Z p I=>?_) (λid Z p=>p)
 have p:zbm Z H fn.results.toList λs=>(zW Z.M 0=some j/\LE s r):=by
  cases e with
  |exit id=>exact absurd rfl (I id)
  |normal=>exact p
  |ret=>exact p
 obtain⟨s,⟨z,k⟩,t⟩:=jL hT p;refine⟨s,t,λ{E O a w v} q hW hρ0 L=>?_⟩;have l:=q.stp;have i:=zA z;obtain⟨D,o⟩:=(q.mem.rel 0 j i).name;have d:∀b,Own [(0,j)] (one D) b->Own Z.M O b:=λb g=>⟨0,j,D,i,o,zbX.1 g⟩
 refine⟨one D,⟨l.os,l.tape,l.output,l.size,λb g A=>l.block b g λh=>A ((hW b).1 h),λb g=>(l.own b (d b g)).imp (hW b).1 id,λC U n=>?_⟩,?_,?_⟩
 .by_cases N:C=0
  .subst N;have:=l.rho 0 U n;rw[o]at this;cases this;exact uH
  rw[hρ0 C (by simp;omega)]at n;cases n
 .refine⟨λC T h=>?_,X4.2 ⟨λ_ h=>(by cases h),List.Pairwise.nil⟩,λV T W X _ _ _ t F B=>?_,λb g=>q.mem.old b (d b g),q.mem.kp,q.mem.glO d⟩
  .cases h with
   |head=>exact jN.move (by rw[uH,o]) x (λs u _ G=>.inl (G.less λb g=>g.imp id (d b))) (q.mem.rel 0 j i)
   |tail _ h=>cases h
  cases t with
  |head=>cases F with
   |head=>exact absurd rfl B
   |tail _ h=>cases h
  |tail _ h=>cases h
 exact zjP (λb g=>g.imp id (d b)) y (k _ _ _ _ _ L)
def vEq:Value->Value->Bool
 |.int k m,.int e n=>zs9 k e&&decide (m=n)
 |.bool a,.bool b=>a==b
 |.slice none l c,.slice none g d=>Nat.beq l g&&Nat.beq c d
 |.pointer none,.pointer none=>true
 |.map none,.map none=>true
 |.nilFunc,.nilFunc=>true
 |.nilIface,.nilIface=>true
 |.string a,.string b=>a.data.toList.isEmpty&&b.data.toList.isEmpty
 |_,_=>false
def zFG{a b:Value}(h:vEq a b=true):a=b:=by
 unfold vEq at h
 split at h
 .simp only[XE,decide_eq_true_eq]at h;rw[zgA h.1,h.2]
 .simp at h;rw[h]
 .simp only[XE]at h;rw[Xk h.1,Xk h.2]
 .rfl
 .rfl
 .rfl
 .rfl
 .rename_i a b;simp only[XE,List.isEmpty_iff]at h;obtain⟨⟨a⟩⟩:=a;obtain⟨⟨b⟩⟩:=b;simp at h;simp[h]
 cases h
def vsEq:LA->LA->Bool
 |[],[]=>true
 |a::r,b::d=>vEq a b&&vsEq r d
 |_,_=>false
def zoY:∀{a b:LA},vsEq a b=true->a=b
 |[],[],_=>rfl
 |[],_::_,h=>by cases h
 |_::_,[],h=>by cases h
 |a::r,b::d,h=>by simp only[vsEq,XE]at h;rw[zFG h.1,zoY h.2]
def fsEq:LM->LM->Bool
 |[],[]=>true
 |(a,b)::r,(d,e)::g=>Nat.beq a d&&(Nat.beq b e&&fsEq r g)
 |_,_=>false
def zuY:∀{a b:LM},fsEq a b=true->a=b
 |[],[],_=>rfl
 |[],_::_,h=>by cases h
 |_::_,[],h=>by cases h
 |(a,b)::r,(d,e)::g,h=>by
  simp only[fsEq,XE]at h;rw[Xk h.1,Xk h.2.1,zuY h.2.2]
def zy7(P:Program)(t:TypeId)(k:TK):Bool:=
 match k,P.underlying t with
 |.int k,some (.int b)=>zs9 b k
 |.bool,some .bool=>true
 |.str,some .string=>true
 |.ptr e,some (.pointer a)=>Nat.beq a e
 |.slice e,some (.slice a)=>Nat.beq a e
 |.arr n e,some (.array d a)=>Nat.beq d n&&Nat.beq a e
 |.struct fs,some (.struct F)=>fsEq (F.toList.map λf=>(f.offset,f.type)) fs&&(F.toList.mapM λf=>(P.info? f.type).map λi=>(f.offset,i.size)).isSome
 |.map k e,some (.map b a)=>Nat.beq b k&&Nat.beq a e
 |.other,some (.func _ _ _)=>true
 |.iface,some (.interface _)=>true
 |_,_=>false
def zy8{t:TypeId}{k:TK}(h:zy7 P t k=true):zf1 P t k:=by
 unfold zy7 at h
 split at h
 .rename_i a;exact(zgA h) ▸ a
 .assumption
 .assumption
 .rename_i a;exact(Xk h) ▸ a
 .rename_i a;exact(Xk h) ▸ a
 .rename_i a;simp only[XE]at h;have b:=Xk h.1;have d:=Xk h.2;subst b;subst d;exact a
 .rename_i a;simp only[XE]at h;exact⟨_,a,zuY h.1,Yh.1 h.2⟩
 .rename_i a;simp only[XE]at h;have b:=Xk h.1;have d:=Xk h.2;subst b;subst d;exact a
 .rename_i a;exact⟨_,_,_,a⟩
 .rename_i a;exact⟨_,a⟩
 cases h
def zy9:Value->Bool
 |.agg _=>true
 |_=>false
def chkT(P:Program)(t:TypeId)(i:TI):Bool:=
 (match P.info? t with
 |some f=>Nat.beq f.size i.sz&&(Nat.beq f.bytes i.bytes&&(match f.zero with
  |some z=>vsEq z.cells.toList i.zero&&((i.kind.agg||z.oneCell')&&(!i.kind.agg||zy9 z))
  |none=>false))
 |none=>false)&&(Nat.beq i.zero.length i.sz&&(i.zero.all (·.oneCell')&&(zy7 P t i.kind&&
 (!i.cmp||(!P.stoodInHeld t&&(!P.eqGuardType P.depth t&&(P.fieldsOf t).toList.all λf=>!(f.name== "_")))))))
def zCS{t:TypeId}{i:TI}(h:chkT P t i=true):zjB P t i:=by
 unfold chkT at h;simp only[XE]at h;obtain⟨d,n,o,p,g⟩:=h;refine⟨?_,zy8 p,λu=>?_,λs=>?_⟩
 .split at d
  .rename_i f e;simp only[XE]at d;obtain⟨k,l,b⟩:=d
   split at b
   .rename_i z j;simp only[XE]at b;exact⟨f,e,Xk k,Xk l,z,j,zoY b.1,λq=>zm6 (by simpa[q] using b.2.1),Xk n,λv w=>XX.1 o v w⟩
   cases b
  cases d
 .split at d
  .rename_i f e;simp only[XE]at d;obtain⟨k,l,b⟩:=d
   split at b
   .rename_i z j;simp only[XE,u,QI,QU]at b;refine⟨f,e,?_⟩
    cases z with
    |agg a=>rw[j,←zoY b.1];simp[Value.cells]
    |_=>exact absurd b.2.2 (by simp[zy9])
   cases b
  cases d
 simp only[s,QI,QU,XE,Ya]at g;refine⟨g.1,g.2.1,λf e=>?_⟩;have:=XX.1 g.2.2 f e
 simpa using this
def zFH(P:Program)(H:LS):Bool:=H.all λp=>chkT P p.1 p.2
def zFI(h:zFH P H=true):TOK P H:=by
 intro t i hi
 have b:(t,i)∈H:=by
  clear h
  induction H with
  |nil=>cases hi
  |cons x r d=>
   obtain⟨k,s⟩:=x;simp only[ti]at hi
   split at hi
   .rename_i a;have:=Xk a;subst this;cases hi;exact .head _
   exact .tail _ (d hi)
 exact zCS (XX.1 h _ b)
def zbu:List (Nat×Option Nat)->Nat->Option LK
 |[],_=>none
 |(k,s)::r,t=>match Nat.beq k t with
  |true=>some s
  |false=>zbu r t
def ren(tb:List (Nat×Option Nat))(s:SV):Option SV:=
 match s with
 |.loc k off=>(match zbu tb k with
  |some (some j)=>some (.loc j off)
  |_=>none)
 |.own k=>(match zbu tb k with
  |some (some j)=>some (.own j)
  |some none=>some (.val (.slice none 0 0))
  |none=>none)
 |.fn f b=>(match rens tb b with
  |some a=>some (.fn f a)
  |none=>none)
 |.agg b=>(match rens tb b with
  |some a=>some (.agg a)
  |none=>none)
 |.ifc t s=>(match ren tb s with
  |some s'=>some (.ifc t s')
  |none=>none)
 |.tup b=>(match rens tb b with
  |some a=>some (.tup a)
  |none=>none)
 |.win k sz lo n=>(match zbu tb k with
  |some (some j)=>some (.win j sz lo n)
  |_=>none)
 |.eloc k sz i off=>(match zbu tb k with
  |some (some j)=>some (.eloc j sz i off)
  |_=>none)
 |s=>some s
 where
 rens (tb:List (Nat×Option Nat)):LR->Option LR
  |[]=>some []
  |c::b=>(match ren tb c,rens tb b with
   |some d,some a=>some (d::a)
   |_,_=>none)
def zoZ(tb:List (Nat×Option Nat))(L:LP):LP->Prop
 |[]=>True
 |(t,s)::r=>(match ren tb s with
  |some s'=>kF L t=some s'
  |none=>False)/\zoZ tb L r
def zo0(tb:List (Nat×Option Nat))(M:LT)(k:Nat)(m:Mem):Prop:=
 match zbu tb k with
 |some (some j)=>(match m with
  |.box T b=>(match ren.rens tb b with
   |some a=>zW M j=some (.box T a)
   |none=>False)
  |.garr T sz xs=>∃xs',zW M j=some (.garr T sz xs')/\xs'.length=xs.length/\∀(i:Nat) x,xs[i]?=some x->∃x',xs'[i]?=some x'/\ren.rens tb x=some x'
  |m=>zW M j=some m)
 |some none=>(match m with
  |.arr _ _ _ xs=>Nat.beq xs.length 0=true
  |_=>False)
 |none=>False
def zo1(tb:List (Nat×Option Nat))(M:LT):LT->Prop
 |[]=>True
 |(k,m)::r=>zo0 tb M k m/\zo1 tb M r
def zfx:List (Nat×Option Nat)->Nat->Bool
 |[],_=>true
 |(k,_)::r,a=>Nat.blt k a&&(r.all (λx=>!(Nat.beq x.1 k))&&zfx r a)
def zfy(tb:List (Nat×Option Nat)):Nat->Bool
 |0=>true
 |n+1=>(match zbu tb n with
  |some (some j)=>Nat.beq j n&&zfy tb n
  |_=>false)
def zza:Option LK->Option LK->Bool
 |some (some a),some (some b)=>!(Nat.beq a b)
 |_,_=>true
def zaO(tb:List (Nat×Option Nat)):LT->Bool
 |[]=>true
 |(k,_)::r=>r.all (λx=>!(Nat.beq x.1 k)&&zza (zbu tb x.1) (zbu tb k))&&zaO tb r
def names(tb:List (Nat×Option Nat))(O:zh):zh:=λk=>match zbu tb k with
 |some (some j)=>O j
 |some none=>some (.slice none 0 0)
 |none=>none
variable{tb:List (Nat×Option Nat)}
def zCT{b k:Nat}{x:LK}(h:zfx tb b=true)(a:zbu tb k=some x):k<b:=by
 induction tb with
 |nil=>cases a
 |cons y r e=>
  obtain⟨g,j⟩:=y;simp only[zfx,XE]at h;simp only[zbu]at a
  split at a
  .rename_i d;have:=Xk d;subst this;exact Xz h.1
  exact e h.2.2 a
def ren_g{w:World}:∀(s:SV) {s':SV} {v:Value},ren tb s=some s'->G S Pm O w s' v->G S Pm (names tb O) w s v:=by
 intro s
 induction s using SV.rec (motive_2:=λg=>∀{l:LR} {vs:LA},ren.rens tb g=some l->Gs S Pm O w l vs->Gs S Pm (names tb O) w g vs) with
 |val v=>intro s' u h e;simp only[ren]at h;cases h;exact .d _ _ (e.val_inv ▸ .val _)
 |pr p i=>intro s' u h e;simp only[ren]at h;cases h;rw[e.pr_inv];exact .d _ _ (.pr p i)
 |agg g x=>
  intro s' u h e;simp only[ren]at h
  split at h
  .rename_i l y;cases h
   obtain⟨vs,rfl,q⟩:=e.agg_inv;have:=x y q;exact .agg _ vs this.1 this.2
  cases h
 |sl enc xs=>intro s' u h e;simp only[ren]at h;cases h;exact .d _ _ e.sl_inv
 |ptr g x=>
  intro s' u h e;simp only[ren]at h;cases h
  obtain⟨b,o,c,rfl,E,hP,y,D⟩:=e.ptr_inv;exact .ptr g b o c E hP y D
 |loc k off=>
  intro s' u h e;simp only[ren]at h
  split at h
  .rename_i j z;cases h
   obtain⟨b,hρ,rfl⟩:=e.loc_inv;exact .loc _ _ b (by simp[names,z,hρ])
  cases h
 |own k=>
  intro s' u h e;simp only[ren]at h
  split at h
  .rename_i j z;cases h
   obtain⟨hρ,A⟩:=e.own_inv;exact .own _ _ (by simp[names,z,hρ]) A
  .rename_i z;cases h
   rw[e.val_inv];exact .own _ _ (by simp[names,z]) rfl
  cases h
 |win k sz lo n=>
  intro s' u h e;simp only[ren]at h
  split at h
  .rename_i j z;cases h
   obtain⟨b,len,cap,cap',hρ,rfl,A,B⟩:=e.win_inv;exact .win _ _ _ _ b len cap cap' (by simp[names,z,hρ]) A B
  cases h
 |eloc k sz i off=>
  intro s' u h e;simp only[ren]at h
  split at h
  .rename_i j z;cases h
   obtain⟨b,len,cap,hρ,rfl⟩:=e.eloc_inv;exact .eloc _ _ _ _ b len cap (by simp[names,z,hρ])
  cases h
 |fn f g x=>
  intro s' u h e;simp only[ren]at h
  split at h
  .rename_i l y;cases h
   obtain⟨vs,rfl,q⟩:=e.fn_inv;have:=x y q;exact .fn f _ vs this.1 this.2
  cases h
 |tup g x=>
  intro s' u h e;simp only[ren]at h
  split at h
  .rename_i l y;cases h
   obtain⟨vs,rfl,q⟩:=e.tup_inv;have:=x y q;exact .tup _ vs this.1 this.2
  cases h
 |dptr g x=>intro s' u h e;simp only[ren]at h;cases h;cases e with|d _ _ h=>exact .d _ _ h
 |dfn f g x=>intro s' u h e;simp only[ren]at h;cases h;cases e with|d _ _ h=>exact .d _ _ h
 |bm f g x=>intro s' u h e;simp only[ren]at h;cases h;cases e with|d _ _ h=>exact .d _ _ h
 |op v=>intro s' u h e;simp only[ren]at h;cases h;cases e with|d _ _ h=>exact .d _ _ h
 |ifc t s x=>
  intro s' u h e;simp only[ren]at h
  split at h
  .rename_i N F;cases h
   obtain⟨v,rfl,I⟩:=e.ifc_inv;exact .ifc t s v (x F I)
  cases h
 |junk=>intro s' u h e;exact .d _ _ (.junk u)
 |nils=>intro s' u h e;simp only[ren]at h;cases h;obtain⟨a,rfl⟩:=e.nils_inv;exact .d _ _ (.nils a)
 |full enc xs=>intro s' u h e;simp only[ren]at h;cases h;obtain⟨a,rfl,D⟩:=e.full_inv;exact .d _ _ (.full enc xs a D)
 |anyb=>intro s' u h e;simp only[ren]at h;cases h;obtain⟨b,rfl⟩:=e.anyb_inv;exact .d _ _ (.anyb b)
 |nil=>rename_i h e;simp only[ren.rens]at h;cases h;rw[e.nil_inv];exact .nil
 |cons c g ihc ihcs=>
  rename_i h e;simp only[ren.rens]at h
  split at h
  .rename_i L cs'' y C;cases h
   obtain⟨v,J,rfl,A,B⟩:=e.cons_inv;exact .cons (ihc y A) (ihcs C B)
  cases h
def zni{tb:List (Nat×Option Nat)}{L:LP}:∀{L':LP},zoZ tb L L'->∀t s,kF L' t=some s->∃s',ren tb s=some s'/\kF L t=some s'
 |[],_,t,s,h=>by cases h
 |(g,d)::r,hL,t,s,h=>by
  obtain⟨a,b⟩:=hL;rw[zU]at h
  split at h
  .rename_i e;subst e;cases h
   split at a
   .exact⟨_,‹_›,a⟩
   exact a.elim
  exact zni b t s h
def zkM{tb:List (Nat×Option Nat)}{M:LT}:∀{M':LT},zo1 tb M M'->∀k m,(k,m)∈M'->zo0 tb M k m
 |[],_,k,m,h=>by cases h
 |(a,b)::r,hM,k,m,h=>by
  cases h with
  |head=>exact hM.1
  |tail _ h=>exact zkM hM.2 k m h
def znj{tb:List (Nat×Option Nat)}:∀{M:LT},zaO tb M=true->M.Pairwise λa b=>a.1≠b.1
 |[],_=>.nil
 |(k,m)::r,h=>by
  simp only[zaO,XE]at h;refine X4.2 ⟨λx d e=>?_,znj h.2⟩;have:=XX.1 h.1 x d;have e:k=x.1:=e;simp[←e,K4]at this
def zkN{tb:List (Nat×Option Nat)}:∀{M:LT},zaO tb M=true->∀{k d j:Nat} {m i:Mem},(k,m)∈M->(d,i)∈M->zbu tb k=some (some j)->zbu tb d=some (some j)->k=d
 |[],_,_,_,_,_,_,h,_,_,_=>by cases h
 |(q,n)::r,h,k,d,j,m,i,b,a,e,g=>by
  simp only[zaO,XE]at h;have hall:=XX.1 h.1
  have no:∀x∈r,zbu tb x.1=some (some j)->zbu tb q=some (some j)->False:=λx p l o=>by
   have:=hall x p;rw[l,o]at this;simp[zza,K4]at this
  cases b with
  |head=>cases a with
   |head=>rfl
   |tail _ a=>exact(no _ a g e).elim
  |tail _ b=>cases a with
   |head=>exact(no _ b e g).elim
   |tail _ a=>exact zkN h.2 b a e g
def zqT{tb:List (Nat×Option Nat)}:∀{n:Nat},zfy tb n=true->∀k,k<n->zbu tb k=some (some k)
 |0,_,k,b=>oM
 |n+1,h,k,b=>by
  simp only[zfy]at h
  split at h
  .rename_i j a;simp only[XE]at h;have:=Xk h.1;subst this
   by_cases e:k=j
   .subst e;exact a
   exact zqT h.2 k oM
  cases h
def zkO:∀(b a:LR),ren.rens tb b=some a->a.length=b.length/\∀(i:Nat) (s:SV),b[i]?=some s->∃s',a[i]?=some s'/\ren tb s=some s':=by
  intro b
  induction b with
  |nil=>intro a h;simp only[ren.rens]at h;cases h;exact⟨rfl,λi s h=>by simp at h⟩
  |cons c b l=>
   intro a h;simp only[ren.rens]at h
   split at h
   .rename_i e cs'' k d;cases h
    obtain⟨g,j⟩:=l cs'' d;refine⟨by simp[g],λi s hi=>?_⟩
    cases i with
    |zero=>simp at hi;subst hi;exact⟨e,rfl,k⟩
    |succ i=>simpa using j i s (by simpa using hi)
   cases h
variable{L':LP}{nk':Nat}
def qI(tb:List (Nat×Option Nat))(h1:zfx tb nk'=true)(h2:zfy tb Z.n0=true)(h3:zaO tb M'=true)(hL:zoZ tb Z.L L')(hM:zo1 tb Z.M M'):Sub Z ⟨L',M',nk',Z.nt,Z.n0⟩:=by
 intro E O a w o;refine⟨names tb O,?_⟩
 have N:∀k v,names tb O k=some v->(∃j,zbu tb k=some (some j)/\O j=some v)∨(zbu tb k=some none/\v=.slice none 0 0):=by
  intro k v h;unfold names at h
  split at h
  .exact .inl ⟨_,‹_›,h⟩
  .cases h;exact .inr ⟨‹_›,rfl⟩
  cases h
 have hlook:∀k j m,(k,m)∈M'->zbu tb k=some (some j)->∃m0,(j,m0)∈Z.M:=by
  intro k j m p A;have:=zkM hM k m p;unfold zo0 at this;rw[A]at this;simp only at this
  split at this
  .split at this
   .exact⟨_,zA this⟩
   exact this.elim
  .obtain⟨xs',h,_⟩:=this;exact⟨_,zA h⟩
  exact⟨_,zA this⟩
 have g:∀b,Own M' (names tb O) b->Own Z.M O b:=by
  rintro b ⟨k,m,v,p,hv,l⟩
  obtain⟨j,A,hρ⟩|⟨_,rfl⟩:=N k v hv
  .obtain⟨m0,J⟩:=hlook k j m p A;exact⟨j,m0,v,J,hρ,l⟩
  cases l
 have hg:∀s s' v,ren tb s=some s'->G (λb=>E.Keep b∨Own Z.M O b) (Own Z.M O) O w s' v->G (λb=>E.Keep b∨Own M' (names tb O) b) (Own M' (names tb O)) (names tb O) w s v:=λs s' v q h=>
  ren_g s q (h.mono (Xj _) (λb _ l=>⟨λh=>l (h.imp id (g b)),rfl⟩) (λb _ l=>⟨λh=>l (g b h),rfl⟩) (λ_ _ h=>h))
 refine⟨o.size,o.defers,λt s hl=>?_,⟨λk m p=>?_,znj h3,λk m k' m' v v' b p hk' hne hv hv' l=>?_,λb l=>o.mem.old b (g b l),o.mem.kp,o.mem.glO g⟩,λk p=>?_,?_,o.keep,o.low⟩
 .obtain⟨s',y,hl'⟩:=zni hL t s hl;exact⟨(o.regs t s' hl').1,hg s s' _ y (o.regs t s' hl').2⟩
 .have d:=zkM hM k m p;unfold zo0 at d
  split at d
  .rename_i j A;have B:names tb O k=O j:=by simp[names,A]
   split at d
   .rename_i T cs
    split at d
    .rename_i cs' hcs;obtain⟨b,vs,C,D,F,I,X⟩:=o.mem.rel j _ (zA d);obtain⟨V,W⟩:=zkO cs cs' hcs;refine⟨b,vs,B.trans C,D,by rw[F,V],I,λi s v hi hv=>?_⟩;obtain⟨s',y,hren⟩:=W i s hi;exact hg s s' v hren (X i s' v y hv)
    exact d.elim
   .rename_i T sz xs;obtain⟨xs',hlk,V,W⟩:=d;obtain⟨v,cells,C,D,F,I,X,g6⟩:=o.mem.rel j _ (zA hlk);refine⟨v,cells,B.trans C,by rw[←V];exact D,by rw[←V];exact F,I,λx z=>?_,λi j x s z q=>?_⟩
    .obtain⟨i,hi⟩:=JA.1 z;obtain⟨x',U,R⟩:=W i x hi;rw[←(zkO x x' R).1];exact X x' (Xf U)
    obtain⟨x',U,R⟩:=W i x z;obtain⟨s',y,hren⟩:=(zkO x x' R).2 j s q;obtain⟨u,hu,hd⟩:=g6 i j x' s' U y;exact⟨u,hu,hg s s' u hren hd⟩
   rename_i hnb hnb2;have hmr:=o.mem.rel j _ (zA d)
   cases m with
   |box T cs=>exact(hnb T cs rfl).elim
   |garr T sz xs=>exact(hnb2 T sz xs rfl).elim
   |map es=>
    obtain⟨r,ents,clock,C,D,F,I⟩:=hmr;refine⟨r,ents,clock,B.trans C,D,F,λi n s hi=>?_⟩;obtain⟨e,V,W,e3⟩:=I i n s hi;exact⟨e,V,W,e3.less λb l=>l.imp id (g b)⟩
   |arr T enc sz xs=>
    obtain⟨v,cells,C,D,F,I,X,g6⟩:=hmr;refine⟨v,cells,B.trans C,D,F,I,X,λi j x s z q=>?_⟩;obtain⟨u,hu,hd⟩:=g6 i j x s z q;exact⟨u,hu,hd.less λb l=>l.imp id (g b)⟩
  .rename_i A
   split at d
   .rename_i T α enc sz xs;have h0:=Xk d;have z:xs=[]:=Xp h0;subst z;exact⟨.slice none 0 0,[],by simp[names,A],World.ownsRow_nil w 0 T sz,sI,λu hu=>(by cases hu),λx z=>(by cases z),λi j x s z=>(by simp at z)⟩
   exact d.elim
  exact d.elim
 .obtain⟨j,A,hρ⟩|⟨_,rfl⟩:=N k v hv
  .obtain⟨j',Y,hρ'⟩|⟨_,rfl⟩:=N k' v' hv'
   .obtain⟨m0,J⟩:=hlook k j m p A;obtain⟨m0',hm0'⟩:=hlook k' j' m' hk' Y;refine o.mem.apart j m0 j' m0' v v' b J hm0' (λe=>hne ?_) hρ hρ' l;subst e;exact zkN h3 p hk' A Y
   simp[qf]
  cases l
 .have:zbu tb k=none:=by
   cases hq:zbu tb k with
   |none=>rfl
   |some x=>have:=zCT h1 hq;have p:nk'<=k:=p;omega
  simp[names,this]
 have q:=o.stp;refine⟨q.os,q.tape,q.output,q.size,q.block,λb l=>q.own b (g b l),λk v p=>?_⟩;have:=zqT h2 k (o.low k v p);simp[names,this,q.rho k v p]
def jo(tb:List (Nat×Option Nat))(hL:zoZ tb Z.L L')(hM:zo1 tb Z.M M')(a:zfx tb nk'=true:=by rfl)(b:zfy tb Z.n0=true:=by rfl)(d:zaO tb M'=true:=by rfl):Sub Z ⟨L',M',nk',Z.nt,Z.n0⟩:=qI tb a b d hL hM
def zdy(tb:List (Nat×Option Nat))(hM:zo1 tb Z.M M')(hL:zoZ tb Z.L L':=by (repeat (refine⟨rfl,?_⟩));exact trivial)(a:zfx tb nk'=true:=by rfl)(b:zfy tb Z.n0=true:=by rfl)(d:zaO tb M'=true:=by rfl):Sub Z ⟨L',M',nk',Z.nt,Z.n0⟩:=qI tb a b d hL hM
def zC(tb:List (Nat×Option Nat))(hM:zo1 tb Z.M M':=by (repeat (refine⟨rfl,?_⟩));exact trivial)(hL:zoZ tb Z.L L':=by (repeat (refine⟨rfl,?_⟩));exact trivial)(a:zfx tb nk'=true:=by rfl)(b:zfy tb Z.n0=true:=by rfl)(d:zaO tb M'=true:=by rfl):Sub Z ⟨L',M',nk',Z.nt,Z.n0⟩:=qI tb a b d hL hM
def Tb:Nat->LC->List (Nat×Option Nat)
 |_,[]=>[]
 |n,x::r=>(n,some x)::Tb (n+1) r
def zP(l:LC)(hL:zoZ (Tb 0 l) Z.L L')(hM:zo1 (Tb 0 l) Z.M M')(a:zfx (Tb 0 l) nk'=true:=by rfl)(b:zfy (Tb 0 l) Z.n0=true:=by rfl)(d:zaO (Tb 0 l) M'=true:=by rfl):Sub Z ⟨L',M',nk',Z.nt,Z.n0⟩:=qI _ a b d hL hM
def zt(l:LC)(hM:zo1 (Tb 0 l) Z.M M')(hL:zoZ (Tb 0 l) Z.L L':=by (repeat (refine⟨rfl,?_⟩));exact trivial)(a:zfx (Tb 0 l) nk'=true:=by rfl)(b:zfy (Tb 0 l) Z.n0=true:=by rfl)(d:zaO (Tb 0 l) M'=true:=by rfl):Sub Z ⟨L',M',nk',Z.nt,Z.n0⟩:=qI _ a b d hL hM
def zf(l:LC)(hM:zo1 (Tb 0 l) Z.M M':=by (repeat (refine⟨rfl,?_⟩));exact trivial)(hL:zoZ (Tb 0 l) Z.L L':=by (repeat (refine⟨rfl,?_⟩));exact trivial)(a:zfx (Tb 0 l) nk'=true:=by rfl)(b:zfy (Tb 0 l) Z.n0=true:=by rfl)(d:zaO (Tb 0 l) M'=true:=by rfl):Sub Z ⟨L',M',nk',Z.nt,Z.n0⟩:=qI _ a b d hL hM
def qQ{Z:St}{t:Nat}{s s':SV}(a:kF Z.L t=some s)(h:∀S Pm O w v,G S Pm O w s v->G S Pm O w s' v):Sub Z (Z.put (some t) s'):=λ_ O _ _ b=>⟨O,b.refine a h⟩
def Sub.trans{Z' Z'':St}(h:Sub Z Z')(k:Sub Z' Z''):Sub Z Z'':=λE O a w d=>by
 obtain⟨O',b⟩:=h E O a w d;exact k E O' a w b
def zc0{Z:St}(k q:Nat){T T0:TypeId}{α:Type}{enc:α->LR}{sz sz0:Nat}{ys:List α}{xs xs':LN}(hk:zW Z.M k=some (.arr T enc sz ys))(h0:zW Z.M q=some (.garr T0 sz0 xs))(F:xs'.length=xs.length)(hz:∀x∈xs',x.length=sz0)(U:∀(i j:Nat) x' s',xs'[i]?=some x'->x'[j]?=some s'->∃x s,xs[i]?=some x/\x[j]?=some s/\(s'=s∨(s=.own k/\s'=.sl enc ys))):
  Sub Z ⟨Z.L,qN (qb Z.M k) q (.garr T0 sz0 xs'),Z.nk,Z.nt,Z.n0⟩:=by
 intro E O a w g;refine⟨O,?_⟩;have p:=zA hk;have n:∀x∈qb Z.M k,x∈Z.M:=λx U=>qj x U
 have y:=qP (k:=k) g.mem.keys;have hkeys:(qN (qb Z.M k) q (.garr T0 sz0 xs')).map (·.1)=(qb Z.M k).map (·.1):=za9;have e:∀b,Own (qN (qb Z.M k) q (.garr T0 sz0 xs')) O b->Own (qb Z.M k) O b:=λb l=>zav hkeys.symm l
 have hown2:∀b,Own (qb Z.M k) O b->Own Z.M O b:=λb ⟨W,m,v,B,o,h3⟩=>⟨W,m,v,n _ B,o,h3⟩
 have hg:∀s v,G (λb=>E.Keep b∨Own Z.M O b) (Own Z.M O) O w s v->
   G (λb=>E.Keep b∨Own (qN (qb Z.M k) q (.garr T0 sz0 xs')) O b) (Own (qN (qb Z.M k) q (.garr T0 sz0 xs')) O) O w s v:=λs v h=>
  h.mono (Xj _) (λb _ l=>⟨λh=>l (h.imp id λh=>hown2 b (e b h)),rfl⟩) (λb _ l=>⟨λh=>l (hown2 b (e b h)),rfl⟩) (λ_ _ h=>h)
 have hs:Stp (Own Z.M O) (Own (qN (qb Z.M k) q (.garr T0 sz0 xs')) O) O O w w:=
  ⟨rfl,rfl,.refl _,Xj _,λ_ _ _=>rfl,λb l=>.inl (hown2 b (e b l)),λ_ _ h=>h⟩
 have hd:∀v,O k=some v->D (λb=>E.Keep b∨Own (qN (qb Z.M k) q (.garr T0 sz0 xs')) O b) w (.sl enc ys) v:=λv hv=>
  zgC g.mem p (λb l=>l.imp id λh=>hown2 b (e b h)) (λv' b I l hSb=>by
   rcases hSb with hSb|hSb
   .exact(g.mem.old b ⟨k,_,v',p,I,l⟩).2 hSb
   obtain⟨W,X,v1,h4,h5,h6⟩:=e b hSb
   exact g.mem.apart k _ W X v' v1 b p (n _ h4) (Ne.symm (vu g.mem.keys _ h4)) I h5 l h6) hv
 refine⟨g.size,g.defers,λt s F=>⟨(g.regs t s F).1,hg s _ (g.regs t s F).2⟩,⟨λz A B=>?_,yO hkeys y,λz A k2 m2 v1 v2 b B o=>?_,λb l=>g.mem.old b (hown2 b (e b l)),g.mem.kp,g.mem.glO λb l=>hown2 b (e b l)⟩,
  g.fresh,g.stp.trans hs,g.keep,g.low⟩
 .obtain⟨_,o⟩|o:=jO y _ B
  .exact(g.mem.rel z A (n _ o)).keep hs rfl (λ_ _ _ _=>rfl)
  cases o
  obtain⟨v,cells,g1,g2,g3,g4,g5,g6⟩:=g.mem.rel q _ (zA h0);refine⟨v,cells,g1,by rw[F];exact g2,by rw[F];exact g3,g4,hz,λi j x' s' V R=>?_⟩;obtain⟨x,s,e1,e2,e3⟩:=U i j x' s' V R;obtain⟨u,hu,C⟩:=g6 i j x s e1 e2;refine⟨u,hu,?_⟩
  rcases e3 with rfl|⟨rfl,rfl⟩
  .exact hg _ _ C
  exact .d _ _ (hd u C.own_inv.1)
 have back:∀z A,(z,A)∈qN (qb Z.M k) q (.garr T0 sz0 xs')->∃X,(z,X)∈Z.M:=λz A h=>by
  obtain⟨_,o⟩|o:=jO y _ h
  .exact⟨A,n _ o⟩
  cases o;exact⟨_,zA h0⟩
 obtain⟨Y,J⟩:=back _ _ B;obtain⟨m2',N⟩:=back _ _ o;exact g.mem.apart z Y k2 m2' v1 v2 b J N
def zgR(l:Nat){T0:TypeId}{α:Type}(enc:α->LR){sz0:Nat}(ys:List α)(J:zW Z.M l=some (.garr T0 sz0 (ys.map enc)))(Y:∀x∈ys,yd.flats (enc x)=true):
  Sub Z ⟨Z.L,qN Z.M l (.arr T0 enc sz0 ys),Z.nk,Z.nt,Z.n0⟩:=by
 intro E O a w e;refine⟨O,?_⟩;have hkeys:(qN Z.M l (.arr T0 enc sz0 ys)).map (·.1)=Z.M.map (·.1):=za9;have d:∀b,Own (qN Z.M l (.arr T0 enc sz0 ys)) O b->Own Z.M O b:=λb k=>zav hkeys.symm k
 have N:∀s v,G (λb=>E.Keep b∨Own Z.M O b) (Own Z.M O) O w s v->
   G (λb=>E.Keep b∨Own (qN Z.M l (.arr T0 enc sz0 ys)) O b) (Own (qN Z.M l (.arr T0 enc sz0 ys)) O) O w s v:=λs v h=>
  h.mono (Xj _) (λb _ k=>⟨λh=>k (h.imp id (d b)),rfl⟩) (λb _ k=>⟨λh=>k (d b h),rfl⟩) (λ_ _ h=>h)
 have T:Stp (Own Z.M O) (Own (qN Z.M l (.arr T0 enc sz0 ys)) O) O O w w:=
  ⟨rfl,rfl,.refl _,Xj _,λ_ _ _=>rfl,λb k=>.inl (d b k),λ_ _ h=>h⟩
 have back:∀n o,(n,o)∈qN Z.M l (.arr T0 enc sz0 ys)->∃m',(n,m')∈Z.M:=λn o h=>by
  obtain⟨_,g⟩|g:=jO e.mem.keys _ h
  .exact⟨o,g⟩
  cases g;exact⟨_,zA J⟩
 refine⟨e.size,e.defers,λt s R=>⟨(e.regs t s R).1,N s _ (e.regs t s R).2⟩,⟨λn o y=>?_,yO hkeys e.mem.keys,λn o k2 m2 v1 v2 b y g=>?_,λb k=>e.mem.old b (d b k),e.mem.kp,e.mem.glO d⟩,
  e.fresh,e.stp.trans T,e.keep,e.low⟩
 .obtain⟨_,g⟩|g:=jO e.mem.keys _ y
  .exact(e.mem.rel n o g).keep T rfl (λ_ _ _ _=>rfl)
  cases g
  obtain⟨v,cells,U,F,I,V,W,X⟩:=e.mem.rel l _ (zA J);rw[Xw]at F I;refine⟨v,cells,U,F,I,V,λx q=>W _ (XN.2 ⟨x,q,rfl⟩),λi j x s q p=>?_⟩;obtain⟨u,hu,B⟩:=X i j (enc x) s (by rw[XD,q];rfl) p;exact⟨u,hu,uV (yP (Y x (Xf q)) j s p) (N _ _ B)⟩
 obtain⟨C,z⟩:=back _ _ y;obtain⟨D,A⟩:=back _ _ g;exact e.mem.apart n C k2 D v1 v2 b z A
end Go.Gs
