/- A function: its contract out of its code. -/
import Derived.Test.YtdkomlilfdbahaaGreatDoorMAI
set_option maxRecDepth 100000
set_option maxHeartbeats 80000000
set_option linter.all false
namespace Go.Gs
variable{P:Program}{I:LS}{O:St}{K:SV->Prop}
def zrk(hT:TOK P I){x:ResultVar}(h:ztO O I x K):∃s,K s/\∀{E:Env} {Z:zh} {a:Act} {w:World},Rel E O Z a w->
  ∃v,((match x with|.tmp t=>pure (a.tmps.getD t undef)|.cell ad t=>do loadVar t (←asAddr (a.tmps.getD ad undef)):Sem Value)).run P w=.ok v w/\G (λb=>E.Keep b∨Own O.M Z b) (Own O.M Z) Z w s v:=by
 unfold ztO at h
 split at h
 .split at h
  .rename_i s D;exact⟨s,qH h,λn=>⟨_,rfl,(n.regs _ s D).2⟩⟩
  exact h.elim
 rename_i ad t;replace h:=zE h;obtain⟨i,hi,h⟩:=h
 split at h
 .rename_i k off C
  split at h
  .rename_i T y q;replace h:=zj h;obtain⟨g,h⟩:=h;replace h:=vB h;obtain⟨s,hK,h⟩:=h;have g:=Xw g;refine⟨s,hK,λ{E Z a w} n=>?_⟩;obtain⟨b,vs,u,e,l,_,d⟩:=n.mem.rel k _ (zu q);obtain⟨J,hρ',H⟩:=(n.regs ad _ C).2.loc_inv;rw[u]at hρ';cases hρ'
   have B:Gs (λb=>E.Keep b∨Own O.M Z b) (Own O.M Z) Z w (y.drop off) (vs.drop off):=Gs.drop off ⟨l,d⟩;obtain⟨v,z,A⟩:=zcp (hT t i hi) (b:=b) (o:=off) B (λj v F=>by rw[zcq e];simpa using F) (by simp;omega) h;exact⟨v,by simp only[H,asAddr,Sem.run_bind,Sem.run_pure,Result.andThen_ok,z],A⟩
  exact h.elim
 exact h.elim
def zjz{P:Program}{I:LS}(hT:TOK P I){O:St}:∀{xs:List ResultVar} {K:LR->Prop},zzA O I xs K->∃l,K l/\∀{E:Env} {Z:zh} {a:Act} {w:World},Rel E O Z a w->
  ∃vs,(xs.mapM λx=>(match x with|.tmp t=>pure (a.tmps.getD t undef)|.cell ad t=>do loadVar t (←asAddr (a.tmps.getD ad undef)):Sem Value)).run P w=.ok vs w/\Gs (λb=>E.Keep b∨Own O.M Z b) (Own O.M Z) Z w l vs
 |[],K,h=>⟨[],h,λ_=>⟨[],rfl,.nil⟩⟩
 |x::xs,K,h=>by
  obtain⟨s,h,n⟩:=zrk hT h;obtain⟨l,h,o⟩:=zjz hT h;refine⟨s::l,h,λ{E Z a w} d=>?_⟩;obtain⟨v,e,g⟩:=n d;obtain⟨vs,j,k⟩:=o d;exact⟨v::vs,by rw[List.mapM_cons,Sem.run_bind,e,Result.andThen_ok,Sem.run_bind,j,Result.andThen_ok,Sem.run_pure],.cons g k⟩
variable{fn:Func}
def jj(hT:TOK P I)(h:zaw O I fn.results.toList K):∃s,K s/\∀{E:Env} {Z:zh} {a:Act} {w:World},Rel E O Z a w->
  ∃v,(results fn a.tmps).run P w=.ok v w/\G (λb=>E.Keep b∨Own O.M Z b) (Own O.M Z) Z w s v:=by
 unfold zaw at h;obtain⟨l,h,n⟩:=zjz hT h
 have run:∀{a:Act} {w:World} {vs:LA},(fn.results.toList.mapM λx=>(match x with|.tmp t=>pure (a.tmps.getD t undef)|.cell ad t=>do loadVar t (←asAddr (a.tmps.getD ad undef)):Sem Value)).run P w=.ok vs w->
   (results fn a.tmps).run P w=.ok (if h:vs.toArray.size=1 then vs.toArray[0] else .tuple vs.toArray) w:=by
  intro a w vs y
  have e:(fn.results.mapM λx=>(match x with|.tmp t=>pure (a.tmps.getD t undef)|.cell ad t=>do loadVar t (←asAddr (a.tmps.getD ad undef)):Sem Value)).run P w=.ok vs.toArray w:=by
   rw[Array.mapM_eq_mapM_toList,Sem.run_map,y];rfl
  unfold results;rw[Sem.run_bind]
  erw [e]
  rfl
 split at h
 .rename_i s;refine⟨s,h,λ{E Z a w} k=>?_⟩;obtain⟨vs,g,d⟩:=n k;obtain⟨v,z,rfl,o,q⟩:=d.cons_inv;rw[q.nil_inv]at g;exact⟨v,by rw[run g];rfl,o⟩
 rename_i j;refine⟨_,h,λ{E Z a w} k=>?_⟩;obtain⟨vs,g,d⟩:=n k;refine⟨.tuple vs.toArray,?_,.tup _ vs d.1 d.2⟩;rw[run g]
 have u:¬vs.toArray.size=1:=by
  intro e;have:l.length=1:=by rw[←d.1];simpa using e
  match l,this with
  |[s],_=>exact j s rfl
 rw[dif_neg u]
def zec:∀(l:LR) (n t:Nat),kw (qG n l) t=if n<=t then l[t-n]? else none
 |[],n,t=>by simp[qG,kw]
 |s::l,n,t=>by
  simp only[qG,zV,zec l (n+1) t]
  by_cases h:n=t
  .subst h;simp
  rw[Xc h]
  by_cases d:n<=t
  .rw[Xe oM,Xe d,show t-n=(t-(n+1))+1 by omega,K2]
  rw[Xc oM,Xc d]
variable{M:LT}{Z:zh}{S':LI}{Pm':LI}{Z':zh}
def zpn{o:LJ}{Keep:LI}{w:World}(e:∀k m,o k=some m->(k,m)∈M)(n:zI Keep M Z w)(d:∀b,S' b->Keep b∨Own M Z b){s:SV}{v:Value}(l:G (λb=>Keep b∨Own M Z b) (Own M Z) Z w s v)(j:∀b,Own M Z b->¬S' b)(hP:∀b,¬Pm' b):
  G S' Pm' Z' w (znr o s) v:=by
 unfold znr
 split
 .rename_i q;obtain⟨vs,rfl,g⟩:=l.tup_inv;have h:=zgW (S':=S') (Pm':=Pm') (Z':=Z') e n d (λb _=>hP b) (λ_ _ b _ _=>hP b) g (.inr j);exact .tup _ vs h.1 h.2
 exact zpi e n d l (.inr j) (λb _=>hP b) (λ_ _ b _ _=>hP b)
def yU{Keep:LI}{M:LT}{Z:zh}{w:World}{args:LR}{vs:LA}{nt:Nat}(l:zI Keep M Z w)(d:∀k,M.length<=k->Z k=none)(j:Gs (λb=>Keep b∨Own M Z b) (Own M Z) Z w args vs)(n:args.length<=nt):
  Rel ⟨w,Z,Keep,Own M Z,[]⟩ ⟨qG 0 args,M,M.length,nt,M.length⟩ Z { tmps:=vs.toArray++Array.replicate (nt-vs.toArray.size) undef,defers:=[] } w:=by
 have q:=j.1;refine⟨by simp;omega,rfl,λt s h=>?_,l,d,.refl,l.kp,λk v h=>?_⟩;rotate_left
 .rcases Kf k M.length with g|g
  .exact g
  have h:Z k=some v:=h;rw[d k g]at h;cases h
 have h:kw (qG 0 args) t=some s:=h;rw[zec]at h;simp only[Xh,if_true,YY]at h;have o:=(Xd.1 h).1;refine⟨show t<nt by omega,j.2 t s _ h ?_⟩;have:t<vs.length:=oM
 have e:(vs.toArray++Array.replicate (nt-vs.toArray.size) undef)[t]?=some vs[t]:=by
  rw[J4 (by simpa using this)];simp[this]
 rw[Xb this,X7,e];rfl
def Sub.refl{O:St}:Sub O O:=λ_ Z _ _ d=>⟨Z,d⟩
variable{f:FuncId}{c:Code}{Q:LH}{r:SV}{M':LT}
def vj(hT:TOK P I)(V:P.follows .mixedOrders=true){args:LR}(B:P.funcs[f]?=some fn)(A:fn.body=some c)(W:(fn.name== "runtime.NumGoroutine")=false) (u:Nat.ble args.length fn.ntmps=true)
  (h:js P I c ⟨qG 0 args,M,M.length,fn.ntmps,M.length⟩ Q){Q':LH} (hS:∀e O,Q e O->∃O',Sub O O'/\Q' e O')
  (hQ:∀e O,Q' e O->(∀id,e≠.exit id)->∃s,(∀{E:Env} {Z:zh} {a:Act} {w:World},Rel E O Z a w->∃v,(results fn a.tmps).run P w=.ok v w/\G (λb=>E.Keep b∨Own O.M Z b) (Own O.M Z) Z w s v)/\
   ∀{E:Env} {Z:zh} {a:Act} {w:World} {v:Value},Rel E O Z a w->(∀b,E.W0 b↔Own M E.ρ0 b)->(∀k,M.length<=k->E.ρ0 k=none)->G (λb=>E.Keep b∨Own O.M Z b) (Own O.M Z) Z w s v->
    ∃Z',Stp (Own M E.ρ0) (Own M' Z') E.ρ0 Z' E.w0 w/\zI E.Keep M' Z' w/\G (λb=>E.Keep b∨Own M' Z' b) (Own M' Z') Z' w r v)
  (X:∀id O,¬Q' (.exit id) O):kL P f args M r M':=by
 refine⟨⟨fn,B,W,by rw[A];rfl⟩,λKeep Z w vs _ l q U=>calls_of_wp B A ?_⟩;have n:=yU (nt:=fn.ntmps) l q U (Xw u);refine Code.wp_mono (λe t w' d=>?_) (kR hT V c n h)
 have j:∀e O Z1,Q e O->(∀id,e≠.exit id)->Rel ⟨w,Z,Keep,Own M Z,[]⟩ O Z1 t w'->t.defers=[]/\∃v,(results fn t.tmps).run P w'=.ok v w'/\∃C Z',Ending.returned v=.returned C/\Stp (Own M Z) (Own M' Z') Z Z' w w'/\
   zI Keep M' Z' w'/\G (λb=>Keep b∨Own M' Z' b) (Own M' Z') Z' w' r C:=by
  intro e O0 Y y T z;obtain⟨O,o,d⟩:=hS e O0 y;obtain⟨Z1,g⟩:=o _ _ _ _ z;obtain⟨s,N,R⟩:=hQ e O d T;obtain⟨v,D,F⟩:=N g;obtain⟨Z',H,J,L⟩:=R g (λ_=>Qk) q F;exact⟨g.defers,v,D,v,Z',rfl,H,J,L⟩
 cases e with
 |normal=>obtain⟨O,Z1,d,g⟩:=d;exact j _ O Z1 d (λ_=>by simp) g
 |ret=>obtain⟨O,Z1,d,g⟩:=d;exact j _ O Z1 d (λ_=>by simp) g
 |exit id=>obtain⟨O,Z1,d,g⟩:=d;obtain⟨O',_,x⟩:=hS _ O d;exact(X id O' x).elim
 |_=>exact d.elim
def zzK(hT:TOK P I)(z:P.follows .mixedOrders=true){args:LR}(u:P.funcs[f]?=some fn)(d:fn.body=some c)(o:(fn.name== "runtime.NumGoroutine")=false) (g:Nat.ble args.length fn.ntmps=true)
  (h:js P I c ⟨qG 0 args,[],0,fn.ntmps,0⟩ (endV I fn.results.toList r)):kL P f args [] r []:=by
 refine vj hT z u d o g h (λe O h=>⟨O,.refl,h⟩) (λe O j t=>?_) (λid O j=>j)
 have j:zaw O I fn.results.toList λs=>LE (znr (zO O.M) s) r:=by
  cases e with
  |exit id=>exact absurd rfl (t id)
  |normal=>exact j
  |ret=>exact j
 obtain⟨s,g,q⟩:=jj hT j;refine⟨s,q,λ{E Z a w v} n hW _ x=>⟨Z,?_,?_,?_⟩⟩
 .have l:=n.stp;exact⟨l.os,l.tape,l.output,l.size,λb d o=>l.block b d λh=>o ((hW b).1 h),λb d=>absurd d zK,l.rho⟩
 .exact qu n.mem.kp λ_ _ h=>n.mem.glc h
 exact g _ _ _ _ _ (zpn (λk m h=>zu h) n.mem (λb d=>.inl (d.resolve_right zK)) x (λb d y=>(n.mem.old b d).2 (y.resolve_right zK)) (λ_=>zK))
variable{S:LI}{Pm:LI}
def zbp.g{k:LK}{s:SV}(h:zbp k s r){w:World}{D:Value}(z:∀b,S' b->S b)(C:Z' 0=some D)(F:∀q,k=some q->Z q=some D)(L:k=none->D=.slice none 0 0){v:Value}(o:G S Pm Z w s v):G S' Pm' Z' w r v:=by
 induction h generalizing v with
 |own q h=>
  obtain⟨x,H⟩:=o.own_inv;rw[F q h]at x;cases x
  exact .own _ _ C H
 |loc q off h=>
  obtain⟨b,x,rfl⟩:=o.loc_inv;rw[F q h]at x;cases x
  exact .loc _ _ _ C
 |nil h=>
  rw[o.val_inv];exact .own _ _ (by rw[C,L h]) rfl
 |le s r h J=>exact .d _ _ ((uY J (h _ _ _ _ _ o)).less z)
 |junk s=>exact .d _ _ (.junk _)
 |agg t E y h B=>
  obtain⟨vs,rfl,e⟩:=o.agg_inv;refine .agg _ vs (e.1.trans y) λj r u n A=>?_
  have l:j<t.length:=by have:=(Xd.1 n).1;omega
  exact B j _ r (Xb l) n (e.2 j _ u (Xb l) A)
 |tup t E y h B=>
  obtain⟨vs,rfl,e⟩:=o.tup_inv;refine .tup _ vs (e.1.trans y) λj r u n A=>?_
  have l:j<t.length:=by have:=(Xd.1 n).1;omega
  exact B j _ r (Xb l) n (e.2 j _ u (Xb l) A)
 |fn f t E y h B=>
  obtain⟨vs,rfl,e⟩:=o.fn_inv;refine .fn _ _ vs (e.1.trans y) λj r u n A=>?_
  have l:j<t.length:=by have:=(Xd.1 n).1;omega
  exact B j _ r (Xb l) n (e.2 j _ u (Xb l) A)
variable{m:Mem}
def zk7(hT:TOK P I)(hm:P.follows .mixedOrders=true){args:LR}(hf:P.funcs[f]?=some fn)(d:fn.body=some c)(U:(fn.name== "runtime.NumGoroutine")=false) (N:Nat.ble args.length fn.ntmps=true)
  (h:js P I c ⟨qG 0 args,[],0,fn.ntmps,0⟩ Q) (hS:∀e O,Q e O->∃O',Sub O O'/\ztP I fn.results.toList r m e O'):kL P f args [] r [(0,m)]:=by
 refine vj hT hm hf d U N h hS (λe O z he=>?_) (λid O z=>z)
 have z:zaw O I fn.results.toList λs=>∃k,zbp k s r/\zzB O.M k m:=by
  cases e with
  |exit id=>exact absurd rfl (he id)
  |normal=>exact z
  |ret=>exact z
 obtain⟨s,⟨k,W,o⟩,J⟩:=jj hT z;refine⟨s,J,λ{E Z a w v} A hW hρ0 hg=>?_⟩;have B:=A.stp
 have main:∀q:Value,(∀b,qi q=some b->Own O.M Z b)->(∀t,k=some t->Z t=some q)->(k=none->q=.slice none 0 0)->
   (∀S Pm:LI,(∀b,S b->E.Keep b∨Own O.M Z b)->jD S Pm (one q) w 0 m)->
   ∃Z',Stp (Own [] E.ρ0) (Own [(0,m)] Z') E.ρ0 Z' E.w0 w/\zI E.Keep [(0,m)] Z' w/\G (λb=>E.Keep b∨Own [(0,m)] Z' b) (Own [(0,m)] Z') Z' w r v:=by
  intro q C hk hnone D;have l:∀b,Own [(0,m)] (one q) b->Own O.M Z b:=λb d=>C b (zb3.1 d)
  refine⟨one q,⟨B.os,B.tape,B.output,B.size,λb d U=>B.block b d λh=>U ((hW b).1 h),λb d=>(B.own b (l b d)).imp (hW b).1 id,λt v' F=>?_⟩,?_,?_⟩
  .rw[hρ0 t (Xh _)]at F;cases F
  .refine⟨λt m1 h=>?_,XT.2 ⟨λ_ h=>(by cases h),List.Pairwise.nil⟩,λk1 m1 k2 m2 _ _ _ J X V=>?_,λb d=>A.mem.old b (l b d),A.mem.kp,A.mem.glO l⟩
   .cases h with
    |head=>exact D _ _ λb d=>d.imp id (l b)
    |tail _ h=>cases h
   cases J with
   |head=>cases X with
    |head=>exact absurd rfl V
    |tail _ h=>cases h
   |tail _ h=>cases h
  exact W.g (λb d=>d.imp id (l b)) uL hk hnone hg
 cases k with
 |some t=>
  obtain⟨R,L⟩:=o;have n:=zu R;obtain⟨q,y⟩:=(A.mem.rel t m n).name
  exact main q (λb d=>⟨t,m,q,n,y,d⟩) (λk2 e=>by cases e;exact y) (λe=>by cases e)
   λS Pm hS=>jD.move (by rw[uL,y]) L (λs u _ Y=>.inl (Y.less hS)) (A.mem.rel t m n)
 |none=>
  cases m with
  |box T cs=>exact o.elim
  |garr T sz xs=>exact o.elim
  |map es=>exact o.elim
  |arr T enc sz xs=>
   have H:xs=[]:=o;subst H
   exact main (.slice none 0 0) (λb d=>by simp[qi]at d) (λ_ e=>by cases e) (λ_=>rfl)
    λS Pm _=>⟨.slice none 0 0,[],uL,World.ownsRow_nil w 0 T sz,sI,λu hu=>(by cases hu),λx H=>(by cases H),λi j x s H=>(by simp at H)⟩
def qf(hT:TOK P I)(j:P.follows .mixedOrders=true){args:LR}(g:P.funcs[f]?=some fn)(e:fn.body=some c)(k:(fn.name== "runtime.NumGoroutine")=false) (d:Nat.ble args.length fn.ntmps=true)
  (h:js P I c ⟨qG 0 args,[],0,fn.ntmps,0⟩ (ztP I fn.results.toList r m)):kL P f args [] r [(0,m)]:=
 zk7 hT j g e k d h λ_ O h=>⟨O,.refl,h⟩
def zch(hT:TOK P I)(k:P.follows .mixedOrders=true){args:LR}(j:P.funcs[f]?=some fn)(g:fn.body=some c)(l:(fn.name== "runtime.NumGoroutine")=false) (d:Nat.ble args.length fn.ntmps=true)
  (h:js P I c ⟨qG 0 args,[],0,fn.ntmps,0⟩ (λe O=>∃O',Sub O O'/\ztP I fn.results.toList r m e O')):kL P f args [] r [(0,m)]:=
 zk7 hT k j g l d h λ_ _ h=>h
variable{r':SV}
def kL.plain{args:LR}(h:kL P f args [] r [(0,m)])(e:znr (zO [(0,m)]) r=r'):kL P f args [] r' []:=by
 subst e;refine⟨h.1,λKeep Z w vs q s n o=>(h.2 Keep Z w vs q s n o).mono λ_ _ ⟨v,Z',e,j,d,l⟩=>?_⟩;refine⟨v,Z,e,⟨j.os,j.tape,j.output,j.size,j.block,λb g=>.inl (zK g |>.elim),λ_ _ h=>h⟩,qu d.kp (λ_ _ h=>d.glc h),?_⟩;exact zpn (λk m h=>zu h) d (λb g=>g.elim .inl λh=>(zK h).elim) l (λb g hSb=>hSb.elim (d.old b g).2 λh=>zK h) (λb=>zK)
def ux(hT:TOK P I)(U:P.follows .mixedOrders=true){args:LR}{k:Mem}(N:P.funcs[f]?=some fn)(g:fn.body=some c)(C:(fn.name== "runtime.NumGoroutine")=false) (l:Nat.ble args.length fn.ntmps=true) (z:zgN k) (A:zkC r=true)
  (h:js P I c ⟨qG 0 args,[(0,m)],1,fn.ntmps,1⟩ (zGt I fn.results.toList r k)):kL P f args [(0,m)] r [(0,k)]:=by
 refine vj hT U N g C l h (λe O h=>⟨O,.refl,h⟩) (λe O t L=>?_) (λid O t=>t)
 have t:zaw O I fn.results.toList λs=>(zO O.M 0=some k/\LE s r):=by
  cases e with
  |exit id=>exact absurd rfl (L id)
  |normal=>exact t
  |ret=>exact t
 obtain⟨s,⟨B,l⟩,y⟩:=jj hT t;refine⟨s,y,λ{E Z a w v} x hW hρ0 R=>?_⟩;have n:=x.stp;have j:=zu B;obtain⟨G,q⟩:=(x.mem.rel 0 k j).name;have d:∀b,Own [(0,k)] (one G) b->Own O.M Z b:=λb g=>⟨0,k,G,j,q,zb3.1 g⟩
 refine⟨one G,⟨n.os,n.tape,n.output,n.size,λb g C=>n.block b g λh=>C ((hW b).1 h),λb g=>(n.own b (d b g)).imp (hW b).1 id,λF W o=>?_⟩,?_,?_⟩
 .by_cases T:F=0
  .subst T;have:=n.rho 0 W o;rw[q]at this;cases this;exact uL
  rw[hρ0 F (by simp;omega)]at o;cases o
 .refine⟨λF V h=>?_,XT.2 ⟨λ_ h=>(by cases h),List.Pairwise.nil⟩,λX V Y m2 _ _ _ y H D=>?_,λb g=>x.mem.old b (d b g),x.mem.kp,x.mem.glO d⟩
  .cases h with
   |head=>exact jD.move (by rw[uL,q]) z (λs u _ J=>.inl (J.less λb g=>g.imp id (d b))) (x.mem.rel 0 k j)
   |tail _ h=>cases h
  cases y with
  |head=>cases H with
   |head=>exact absurd rfl D
   |tail _ h=>cases h
  |tail _ h=>cases h
 exact zj9 (λb g=>g.imp id (d b)) A (l _ _ _ _ _ R)
def vEq:Value->Value->Bool
 |.int k m,.int e n=>ztF k e&&decide (m=n)
 |.bool a,.bool b=>a==b
 |.slice none l c,.slice none g d=>Nat.beq l g&&Nat.beq c d
 |.pointer none,.pointer none=>true
 |.map none,.map none=>true
 |.nilFunc,.nilFunc=>true
 |.nilIface,.nilIface=>true
 |.string a,.string b=>a.data.toList.isEmpty&&b.data.toList.isEmpty
 |_,_=>false
def zGx{a b:Value}(h:vEq a b=true):a=b:=by
 unfold vEq at h
 split at h
 .simp only[XF,decide_eq_true_eq]at h;rw[zgR h.1,h.2]
 .simp at h;rw[h]
 .simp only[XF]at h;rw[Xk h.1,Xk h.2]
 .rfl
 .rfl
 .rfl
 .rfl
 .rename_i a b;simp only[XF,List.isEmpty_iff]at h;obtain⟨⟨a⟩⟩:=a;obtain⟨⟨b⟩⟩:=b;simp at h;simp[h]
 cases h
def vsEq:LA->LA->Bool
 |[],[]=>true
 |a::r,b::r'=>vEq a b&&vsEq r r'
 |_,_=>false
def zpo:∀{a b:LA},vsEq a b=true->a=b
 |[],[],_=>rfl
 |[],_::_,h=>by cases h
 |_::_,[],h=>by cases h
 |a::r,b::r',h=>by simp only[vsEq,XF]at h;rw[zGx h.1,zpo h.2]
def fsEq:LM->LM->Bool
 |[],[]=>true
 |(a,b)::r,(d,e)::r'=>Nat.beq a d&&(Nat.beq b e&&fsEq r r')
 |_,_=>false
def zvv:∀{a b:LM},fsEq a b=true->a=b
 |[],[],_=>rfl
 |[],_::_,h=>by cases h
 |_::_,[],h=>by cases h
 |(a,b)::r,(d,e)::r',h=>by
  simp only[fsEq,XF]at h;rw[Xk h.1,Xk h.2.1,zvv h.2.2]
def zzL(P:Program)(t:TypeId)(k:TK):Bool:=
 match k,P.underlying t with
 |.int k,some (.int g)=>ztF g k
 |.bool,some .bool=>true
 |.str,some .string=>true
 |.ptr e,some (.pointer d)=>Nat.beq d e
 |.slice e,some (.slice d)=>Nat.beq d e
 |.arr n e,some (.array h d)=>Nat.beq h n&&Nat.beq d e
 |.struct fs,some (.struct F)=>fsEq (F.toList.map λf=>(f.offset,f.type)) fs&&(F.toList.mapM λf=>(P.info? f.type).map λi=>(f.offset,i.size)).isSome
 |.map k e,some (.map g d)=>Nat.beq g k&&Nat.beq d e
 |.other,some (.func _ _ _)=>true
 |.iface,some (.interface _)=>true
 |_,_=>false
def zzM{t:TypeId}{k:TK}(h:zzL P t k=true):zgg P t k:=by
 unfold zzL at h
 split at h
 .rename_i d;exact(zgR h) ▸ d
 .assumption
 .assumption
 .rename_i d;exact(Xk h) ▸ d
 .rename_i d;exact(Xk h) ▸ d
 .rename_i d;simp only[XF]at h;have e:=Xk h.1;have g:=Xk h.2;subst e;subst g;exact d
 .rename_i d;simp only[XF]at h;exact⟨_,d,zvv h.1,Yn.1 h.2⟩
 .rename_i d;simp only[XF]at h;have e:=Xk h.1;have g:=Xk h.2;subst e;subst g;exact d
 .rename_i d;exact⟨_,_,_,d⟩
 .rename_i d;exact⟨_,d⟩
 cases h
def zzN:Value->Bool
 |.agg _=>true
 |_=>false
def chkT(P:Program)(t:TypeId)(i:TI):Bool:=
 (match P.info? t with
 |some f=>Nat.beq f.size i.sz&&(Nat.beq f.bytes i.bytes&&(match f.zero with
  |some z=>vsEq z.cells.toList i.zero&&((i.kind.agg||z.oneCell')&&(!i.kind.agg||zzN z))
  |none=>false))
 |none=>false)&&(Nat.beq i.zero.length i.sz&&(i.zero.all (·.oneCell')&&(zzL P t i.kind&&
 (!i.cmp||(!P.stoodInHeld t&&(!P.eqGuardType P.depth t&&(P.fieldsOf t).toList.all λf=>!(f.name== "_")))))))
def zDF{t:TypeId}{i:TI}(h:chkT P t i=true):zjX P t i:=by
 unfold chkT at h;simp only[XF]at h;obtain⟨e,o,q,s,j⟩:=h;refine⟨?_,zzM s,λx=>?_,λw=>?_⟩
 .split at e
  .rename_i f g;simp only[XF]at e;obtain⟨l,n,d⟩:=e
   split at d
   .rename_i z k;simp only[XF]at d;exact⟨f,g,Xk l,Xk n,z,k,zpo d.1,λu=>znu (by simpa[u] using d.2.1),Xk o,λv y=>XY.1 q v y⟩
   cases d
  cases e
 .split at e
  .rename_i f g;simp only[XF]at e;obtain⟨l,n,d⟩:=e
   split at d
   .rename_i z k;simp only[XF,x,QL,QX]at d;refine⟨f,g,?_⟩
    cases z with
    |agg a=>rw[k,←zpo d.1];simp[Value.cells]
    |_=>exact absurd d.2.2 (by simp[zzN])
   cases d
  cases e
 simp only[w,QL,QX,XF,Yg]at j;refine⟨j.1,j.2.1,λf g=>?_⟩;have:=XY.1 j.2.2 f g
 simpa using this
def zGy(P:Program)(I:LS):Bool:=I.all λp=>chkT P p.1 p.2
def zGz(h:zGy P I=true):TOK P I:=by
 intro t i hi
 have e:(t,i)∈I:=by
  clear h
  induction I with
  |nil=>cases hi
  |cons x r g=>
   obtain⟨k,s⟩:=x;simp only[ti]at hi
   split at hi
   .rename_i d;have:=Xk d;subst this;cases hi;exact .head _
   exact .tail _ (g hi)
 exact zDF (XY.1 h _ e)
def zbw:List (Nat×Option Nat)->Nat->Option LK
 |[],_=>none
 |(k,s)::r,t=>match Nat.beq k t with
  |true=>some s
  |false=>zbw r t
def ren(tb:List (Nat×Option Nat))(s:SV):Option SV:=
 match s with
 |.loc k off=>(match zbw tb k with
  |some (some j)=>some (.loc j off)
  |_=>none)
 |.own k=>(match zbw tb k with
  |some (some j)=>some (.own j)
  |some none=>some (.val (.slice none 0 0))
  |none=>none)
 |.fn f e=>(match rens tb e with
  |some d=>some (.fn f d)
  |none=>none)
 |.agg e=>(match rens tb e with
  |some d=>some (.agg d)
  |none=>none)
 |.ifc t s=>(match ren tb s with
  |some s'=>some (.ifc t s')
  |none=>none)
 |.tup e=>(match rens tb e with
  |some d=>some (.tup d)
  |none=>none)
 |.win k sz lo n=>(match zbw tb k with
  |some (some j)=>some (.win j sz lo n)
  |_=>none)
 |.eloc k sz i off=>(match zbw tb k with
  |some (some j)=>some (.eloc j sz i off)
  |_=>none)
 |s=>some s
 where
 rens (tb:List (Nat×Option Nat)):LR->Option LR
  |[]=>some []
  |c::e=>(match ren tb c,rens tb e with
   |some g,some d=>some (g::d)
   |_,_=>none)
def zpp(tb:List (Nat×Option Nat))(L:LP):LP->Prop
 |[]=>True
 |(t,s)::r=>(match ren tb s with
  |some s'=>kw L t=some s'
  |none=>False)/\zpp tb L r
def zpq(tb:List (Nat×Option Nat))(M:LT)(k:Nat)(m:Mem):Prop:=
 match zbw tb k with
 |some (some j)=>(match m with
  |.box T e=>(match ren.rens tb e with
   |some d=>zO M j=some (.box T d)
   |none=>False)
  |.garr T sz xs=>∃xs',zO M j=some (.garr T sz xs')/\xs'.length=xs.length/\∀(i:Nat) x,xs[i]?=some x->∃x',xs'[i]?=some x'/\ren.rens tb x=some x'
  |m=>zO M j=some m)
 |some none=>(match m with
  |.arr _ _ _ xs=>Nat.beq xs.length 0=true
  |_=>False)
 |none=>False
def zpr(tb:List (Nat×Option Nat))(M:LT):LT->Prop
 |[]=>True
 |(k,m)::r=>zpq tb M k m/\zpr tb M r
def zfM:List (Nat×Option Nat)->Nat->Bool
 |[],_=>true
 |(k,_)::r,nk=>Nat.blt k nk&&(r.all (λx=>!(Nat.beq x.1 k))&&zfM r nk)
def zfN(tb:List (Nat×Option Nat)):Nat->Bool
 |0=>true
 |n+1=>(match zbw tb n with
  |some (some j)=>Nat.beq j n&&zfN tb n
  |_=>false)
def zzO:Option LK->Option LK->Bool
 |some (some a),some (some b)=>!(Nat.beq a b)
 |_,_=>true
def zaP(tb:List (Nat×Option Nat)):LT->Bool
 |[]=>true
 |(k,_)::r=>r.all (λx=>!(Nat.beq x.1 k)&&zzO (zbw tb x.1) (zbw tb k))&&zaP tb r
def names(tb:List (Nat×Option Nat))(Z:zh):zh:=λk=>match zbw tb k with
 |some (some j)=>Z j
 |some none=>some (.slice none 0 0)
 |none=>none
variable{tb:List (Nat×Option Nat)}
def zDG{nk k:Nat}{x:LK}(h:zfM tb nk=true)(d:zbw tb k=some x):k<nk:=by
 induction tb with
 |nil=>cases d
 |cons y r g=>
  obtain⟨l,j⟩:=y;simp only[zfM,XF]at h;simp only[zbw]at d
  split at d
  .rename_i e;have:=Xk e;subst this;exact Xw h.1
  exact g h.2.2 d
def ren_g{w:World}:∀(s:SV) {s':SV} {v:Value},ren tb s=some s'->G S Pm Z w s' v->G S Pm (names tb Z) w s v:=by
 intro s
 induction s using SV.rec (motive_2:=λl=>∀{q:LR} {vs:LA},ren.rens tb l=some q->Gs S Pm Z w q vs->Gs S Pm (names tb Z) w l vs) with
 |val v=>intro s' u h e;simp only[ren]at h;cases h;exact .d _ _ (e.val_inv ▸ .val _)
 |pr p i=>intro s' u h e;simp only[ren]at h;cases h;rw[e.pr_inv];exact .d _ _ (.pr p i)
 |agg l y=>
  intro s' u h e;simp only[ren]at h
  split at h
  .rename_i q z;cases h
   obtain⟨vs,rfl,x⟩:=e.agg_inv;have:=y z x;exact .agg _ vs this.1 this.2
  cases h
 |sl enc xs=>intro s' u h e;simp only[ren]at h;cases h;exact .d _ _ e.sl_inv
 |ptr l y=>
  intro s' u h e;simp only[ren]at h;cases h
  obtain⟨b,o,c,rfl,F,hP,z,E⟩:=e.ptr_inv;exact .ptr l b o c F hP z E
 |loc k off=>
  intro s' u h e;simp only[ren]at h
  split at h
  .rename_i j A;cases h
   obtain⟨b,g,rfl⟩:=e.loc_inv;exact .loc _ _ b (by simp[names,A,g])
  cases h
 |own k=>
  intro s' u h e;simp only[ren]at h
  split at h
  .rename_i j A;cases h
   obtain⟨g,B⟩:=e.own_inv;exact .own _ _ (by simp[names,A,g]) B
  .rename_i A;cases h
   rw[e.val_inv];exact .own _ _ (by simp[names,A]) rfl
  cases h
 |win k sz lo n=>
  intro s' u h e;simp only[ren]at h
  split at h
  .rename_i j A;cases h
   obtain⟨b,len,cap,cap',g,rfl,B,C⟩:=e.win_inv;exact .win _ _ _ _ b len cap cap' (by simp[names,A,g]) B C
  cases h
 |eloc k sz i off=>
  intro s' u h e;simp only[ren]at h
  split at h
  .rename_i j A;cases h
   obtain⟨b,len,cap,g,rfl⟩:=e.eloc_inv;exact .eloc _ _ _ _ b len cap (by simp[names,A,g])
  cases h
 |fn f l y=>
  intro s' u h e;simp only[ren]at h
  split at h
  .rename_i q z;cases h
   obtain⟨vs,rfl,x⟩:=e.fn_inv;have:=y z x;exact .fn f _ vs this.1 this.2
  cases h
 |tup l y=>
  intro s' u h e;simp only[ren]at h
  split at h
  .rename_i q z;cases h
   obtain⟨vs,rfl,x⟩:=e.tup_inv;have:=y z x;exact .tup _ vs this.1 this.2
  cases h
 |dptr l y=>intro s' u h e;simp only[ren]at h;cases h;cases e with|d _ _ h=>exact .d _ _ h
 |dfn f l y=>intro s' u h e;simp only[ren]at h;cases h;cases e with|d _ _ h=>exact .d _ _ h
 |bm f l y=>intro s' u h e;simp only[ren]at h;cases h;cases e with|d _ _ h=>exact .d _ _ h
 |op v=>intro s' u h e;simp only[ren]at h;cases h;cases e with|d _ _ h=>exact .d _ _ h
 |ifc t s y=>
  intro s' u h e;simp only[ren]at h
  split at h
  .rename_i s1 H;cases h
   obtain⟨v,rfl,J⟩:=e.ifc_inv;exact .ifc t s v (y H J)
  cases h
 |junk=>intro s' u h e;exact .d _ _ (.junk u)
 |nils=>intro s' u h e;simp only[ren]at h;cases h;obtain⟨a,rfl⟩:=e.nils_inv;exact .d _ _ (.nils a)
 |full enc xs=>intro s' u h e;simp only[ren]at h;cases h;obtain⟨a,rfl,E⟩:=e.full_inv;exact .d _ _ (.full enc xs a E)
 |anyb=>intro s' u h e;simp only[ren]at h;cases h;obtain⟨b,rfl⟩:=e.anyb_inv;exact .d _ _ (.anyb b)
 |nil=>rename_i h e;simp only[ren.rens]at h;cases h;rw[e.nil_inv];exact .nil
 |cons c l ihc ihcs=>
  rename_i h e;simp only[ren.rens]at h
  split at h
  .rename_i N cs'' z D;cases h
   obtain⟨v,L,rfl,B,C⟩:=e.cons_inv;exact .cons (ihc z B) (ihcs D C)
  cases h
def znH{tb:List (Nat×Option Nat)}{L:LP}:∀{L':LP},zpp tb L L'->∀t s,kw L' t=some s->∃s',ren tb s=some s'/\kw L t=some s'
 |[],_,t,s,h=>by cases h
 |(j,s0)::r,hL,t,s,h=>by
  obtain⟨d,g⟩:=hL;rw[zV]at h
  split at h
  .rename_i e;subst e;cases h
   split at d
   .exact⟨_,‹_›,d⟩
   exact d.elim
  exact znH g t s h
def zk8{tb:List (Nat×Option Nat)}{M:LT}:∀{M':LT},zpr tb M M'->∀k m,(k,m)∈M'->zpq tb M k m
 |[],_,k,m,h=>by cases h
 |(d,e)::r,hM,k,m,h=>by
  cases h with
  |head=>exact hM.1
  |tail _ h=>exact zk8 hM.2 k m h
def znI{tb:List (Nat×Option Nat)}:∀{M:LT},zaP tb M=true->M.Pairwise λa b=>a.1≠b.1
 |[],_=>.nil
 |(k,m)::r,h=>by
  simp only[zaP,XF]at h;refine XT.2 ⟨λx d e=>?_,znI h.2⟩;have:=XY.1 h.1 x d;have e:k=x.1:=e;simp[←e,KQ]at this
def zk9{tb:List (Nat×Option Nat)}:∀{M:LT},zaP tb M=true->∀{k g j:Nat} {m s:Mem},(k,m)∈M->(g,s)∈M->zbw tb k=some (some j)->zbw tb g=some (some j)->k=g
 |[],_,_,_,_,_,_,h,_,_,_=>by cases h
 |(q,n)::r,h,k,g,j,m,s,e,d,l,o=>by
  simp only[zaP,XF]at h;have hall:=XY.1 h.1
  have no:∀x∈r,zbw tb x.1=some (some j)->zbw tb q=some (some j)->False:=λx v t u=>by
   have:=hall x v;rw[t,u]at this;simp[zzO,KQ]at this
  cases e with
  |head=>cases d with
   |head=>rfl
   |tail _ d=>exact(no _ d o l).elim
  |tail _ e=>cases d with
   |head=>exact(no _ e l o).elim
   |tail _ d=>exact zk9 h.2 e d l o
def zrl{tb:List (Nat×Option Nat)}:∀{n:Nat},zfN tb n=true->∀k,k<n->zbw tb k=some (some k)
 |0,_,k,g=>oM
 |n+1,h,k,g=>by
  simp only[zfN]at h
  split at h
  .rename_i j d;simp only[XF]at h;have:=Xk h.1;subst this
   by_cases e:k=j
   .subst e;exact d
   exact zrl h.2 k oM
  cases h
def zla:∀(e d:LR),ren.rens tb e=some d->d.length=e.length/\∀(i:Nat) (s:SV),e[i]?=some s->∃s',d[i]?=some s'/\ren tb s=some s':=by
  intro e
  induction e with
  |nil=>intro d h;simp only[ren.rens]at h;cases h;exact⟨rfl,λi s h=>by simp at h⟩
  |cons c e o=>
   intro d h;simp only[ren.rens]at h
   split at h
   .rename_i j cs'' n g;cases h
    obtain⟨k,l⟩:=o cs'' g;refine⟨by simp[k],λi s hi=>?_⟩
    cases i with
    |zero=>simp at hi;subst hi;exact⟨j,rfl,n⟩
    |succ i=>simpa using l i s (by simpa using hi)
   cases h
variable{L':LP}{nk':Nat}
def kM(tb:List (Nat×Option Nat))(h1:zfM tb nk'=true)(h2:zfN tb O.n0=true)(h3:zaP tb M'=true)(hL:zpp tb O.L L')(hM:zpr tb O.M M'):Sub O ⟨L',M',nk',O.nt,O.n0⟩:=by
 intro E Z a w o;refine⟨names tb Z,?_⟩
 have R:∀k v,names tb Z k=some v->(∃j,zbw tb k=some (some j)/\Z j=some v)∨(zbw tb k=some none/\v=.slice none 0 0):=by
  intro k v h;unfold names at h
  split at h
  .exact .inl ⟨_,‹_›,h⟩
  .cases h;exact .inr ⟨‹_›,rfl⟩
  cases h
 have hlook:∀k j m,(k,m)∈M'->zbw tb k=some (some j)->∃m0,(j,m0)∈O.M:=by
  intro k j m q B;have:=zk8 hM k m q;unfold zpq at this;rw[B]at this;simp only at this
  split at this
  .split at this
   .exact⟨_,zu this⟩
   exact this.elim
  .obtain⟨xs',h,_⟩:=this;exact⟨_,zu h⟩
  exact⟨_,zu this⟩
 have g:∀b,Own M' (names tb Z) b->Own O.M Z b:=by
  rintro b ⟨k,m,v,q,hv,l⟩
  obtain⟨j,B,W⟩|⟨_,rfl⟩:=R k v hv
  .obtain⟨m0,N⟩:=hlook k j m q B;exact⟨j,m0,v,N,W,l⟩
  cases l
 have hg:∀s s' v,ren tb s=some s'->G (λb=>E.Keep b∨Own O.M Z b) (Own O.M Z) Z w s' v->G (λb=>E.Keep b∨Own M' (names tb Z) b) (Own M' (names tb Z)) (names tb Z) w s v:=λs s' v y h=>
  ren_g s y (h.mono (Xj _) (λb _ l=>⟨λh=>l (h.imp id (g b)),rfl⟩) (λb _ l=>⟨λh=>l (g b h),rfl⟩) (λ_ _ h=>h))
 refine⟨o.size,o.defers,λt s hl=>?_,⟨λk m q=>?_,znI h3,λk m k' m' v v' b q hk' hne hv hv' l=>?_,λb l=>o.mem.old b (g b l),o.mem.kp,o.mem.glO g⟩,λk q=>?_,?_,o.keep,o.low⟩
 .obtain⟨s',z,hl'⟩:=znH hL t s hl;exact⟨(o.regs t s' hl').1,hg s s' _ z (o.regs t s' hl').2⟩
 .have d:=zk8 hM k m q;unfold zpq at d
  split at d
  .rename_i j B;have C:names tb Z k=Z j:=by simp[names,B]
   split at d
   .rename_i T cs
    split at d
    .rename_i cs' hcs;obtain⟨b,vs,D,F,H,J,g5⟩:=o.mem.rel j _ (zu d);obtain⟨X,Y⟩:=zla cs cs' hcs;refine⟨b,vs,C.trans D,F,by rw[H,X],J,λi s v hi hv=>?_⟩;obtain⟨s',z,hren⟩:=Y i s hi;exact hg s s' v hren (g5 i s' v z hv)
    exact d.elim
   .rename_i T sz xs;obtain⟨xs',hlk,X,Y⟩:=d;obtain⟨v,cells,D,F,H,J,g5,g6⟩:=o.mem.rel j _ (zu hlk);refine⟨v,cells,C.trans D,by rw[←X];exact F,by rw[←X];exact H,J,λx A=>?_,λi j x s A y=>?_⟩
    .obtain⟨i,hi⟩:=JE.1 A;obtain⟨x',V,U⟩:=Y i x hi;rw[←(zla x x' U).1];exact g5 x' (Xf V)
    obtain⟨x',V,U⟩:=Y i x A;obtain⟨s',z,hren⟩:=(zla x x' U).2 j s y;obtain⟨u,hu,hd⟩:=g6 i j x' s' V z;exact⟨u,hu,hg s s' u hren hd⟩
   rename_i hnb hnb2;have hmr:=o.mem.rel j _ (zu d)
   cases m with
   |box T cs=>exact(hnb T cs rfl).elim
   |garr T sz xs=>exact(hnb2 T sz xs rfl).elim
   |map es=>
    obtain⟨r,ents,clock,D,F,H,J⟩:=hmr;refine⟨r,ents,clock,C.trans D,F,H,λi n s hi=>?_⟩;obtain⟨e,X,Y,e3⟩:=J i n s hi;exact⟨e,X,Y,e3.less λb l=>l.imp id (g b)⟩
   |arr T enc sz xs=>
    obtain⟨v,cells,D,F,H,J,g5,g6⟩:=hmr;refine⟨v,cells,C.trans D,F,H,J,g5,λi j x s A y=>?_⟩;obtain⟨u,hu,hd⟩:=g6 i j x s A y;exact⟨u,hu,hd.less λb l=>l.imp id (g b)⟩
  .rename_i B
   split at d
   .rename_i T α enc sz xs;have h0:=Xk d;have A:xs=[]:=Xq h0;subst A;exact⟨.slice none 0 0,[],by simp[names,B],World.ownsRow_nil w 0 T sz,sI,λu hu=>(by cases hu),λx A=>(by cases A),λi j x s A=>(by simp at A)⟩
   exact d.elim
  exact d.elim
 .obtain⟨j,B,W⟩|⟨_,rfl⟩:=R k v hv
  .obtain⟨j',hj',hρ'⟩|⟨_,rfl⟩:=R k' v' hv'
   .obtain⟨m0,N⟩:=hlook k j m q B;obtain⟨m0',hm0'⟩:=hlook k' j' m' hk' hj';refine o.mem.apart j m0 j' m0' v v' b N hm0' (λe=>hne ?_) W hρ' l;subst e;exact zk9 h3 q hk' B hj'
   simp[qi]
  cases l
 .have:zbw tb k=none:=by
   cases hq:zbw tb k with
   |none=>rfl
   |some x=>have:=zDG h1 hq;have q:nk'<=k:=q;omega
  simp[names,this]
 have y:=o.stp;refine⟨y.os,y.tape,y.output,y.size,y.block,λb l=>y.own b (g b l),λk v q=>?_⟩;have:=zrl h2 k (o.low k v q);simp[names,this,y.rho k v q]
def jv(tb:List (Nat×Option Nat))(hL:zpp tb O.L L')(hM:zpr tb O.M M')(d:zfM tb nk'=true:=by rfl)(e:zfN tb O.n0=true:=by rfl)(g:zaP tb M'=true:=by rfl):Sub O ⟨L',M',nk',O.nt,O.n0⟩:=kM tb d e g hL hM
def zdI(tb:List (Nat×Option Nat))(hM:zpr tb O.M M')(hL:zpp tb O.L L':=by (repeat (refine⟨rfl,?_⟩));exact trivial)(d:zfM tb nk'=true:=by rfl)(e:zfN tb O.n0=true:=by rfl)(g:zaP tb M'=true:=by rfl):Sub O ⟨L',M',nk',O.nt,O.n0⟩:=kM tb d e g hL hM
def zB(tb:List (Nat×Option Nat))(hM:zpr tb O.M M':=by (repeat (refine⟨rfl,?_⟩));exact trivial)(hL:zpp tb O.L L':=by (repeat (refine⟨rfl,?_⟩));exact trivial)(d:zfM tb nk'=true:=by rfl)(e:zfN tb O.n0=true:=by rfl)(g:zaP tb M'=true:=by rfl):Sub O ⟨L',M',nk',O.nt,O.n0⟩:=kM tb d e g hL hM
def Tb:Nat->LC->List (Nat×Option Nat)
 |_,[]=>[]
 |n,x::r=>(n,some x)::Tb (n+1) r
def zQ(l:LC)(hL:zpp (Tb 0 l) O.L L')(hM:zpr (Tb 0 l) O.M M')(d:zfM (Tb 0 l) nk'=true:=by rfl)(e:zfN (Tb 0 l) O.n0=true:=by rfl)(g:zaP (Tb 0 l) M'=true:=by rfl):Sub O ⟨L',M',nk',O.nt,O.n0⟩:=kM _ d e g hL hM
def zt(l:LC)(hM:zpr (Tb 0 l) O.M M')(hL:zpp (Tb 0 l) O.L L':=by (repeat (refine⟨rfl,?_⟩));exact trivial)(d:zfM (Tb 0 l) nk'=true:=by rfl)(e:zfN (Tb 0 l) O.n0=true:=by rfl)(g:zaP (Tb 0 l) M'=true:=by rfl):Sub O ⟨L',M',nk',O.nt,O.n0⟩:=kM _ d e g hL hM
def zf(l:LC)(hM:zpr (Tb 0 l) O.M M':=by (repeat (refine⟨rfl,?_⟩));exact trivial)(hL:zpp (Tb 0 l) O.L L':=by (repeat (refine⟨rfl,?_⟩));exact trivial)(d:zfM (Tb 0 l) nk'=true:=by rfl)(e:zfN (Tb 0 l) O.n0=true:=by rfl)(g:zaP (Tb 0 l) M'=true:=by rfl):Sub O ⟨L',M',nk',O.nt,O.n0⟩:=kM _ d e g hL hM
def qS{O:St}{t:Nat}{s s':SV}(d:kw O.L t=some s)(h:∀S Pm Z w v,G S Pm Z w s v->G S Pm Z w s' v):Sub O (O.put (some t) s'):=λ_ Z _ _ e=>⟨Z,e.refine d h⟩
def Sub.trans{O' O'':St}(h:Sub O O')(k:Sub O' O''):Sub O O'':=λE Z a w e=>by
 obtain⟨Z',d⟩:=h E Z a w e;exact k E Z' a w d
def za6{O:St}(k y:Nat){T T0:TypeId}{α:Type}{enc:α->LR}{sz sz0:Nat}{ys:List α}{xs xs':LN}(hk:zO O.M k=some (.arr T enc sz ys))(h0:zO O.M y=some (.garr T0 sz0 xs))(H:xs'.length=xs.length)(hz:∀x∈xs',x.length=sz0)(V:∀(i j:Nat) x' s',xs'[i]?=some x'->x'[j]?=some s'->∃x s,xs[i]?=some x/\x[j]?=some s/\(s'=s∨(s=.own k/\s'=.sl enc ys))):
  Sub O ⟨O.L,qL (k9 O.M k) y (.garr T0 sz0 xs'),O.nk,O.nt,O.n0⟩:=by
 intro E Z a w g;refine⟨Z,?_⟩;have q:=zu hk;have n:∀x∈k9 O.M k,x∈O.M:=λx V=>qn x V
 have z:=qR (k:=k) g.mem.keys;have hkeys:(qL (k9 O.M k) y (.garr T0 sz0 xs')).map (·.1)=(k9 O.M k).map (·.1):=zbc;have e:∀b,Own (qL (k9 O.M k) y (.garr T0 sz0 xs')) Z b->Own (k9 O.M k) Z b:=λb l=>zax hkeys.symm l
 have hown2:∀b,Own (k9 O.M k) Z b->Own O.M Z b:=λb ⟨X,m,v,C,o,h3⟩=>⟨X,m,v,n _ C,o,h3⟩
 have hg:∀s v,G (λb=>E.Keep b∨Own O.M Z b) (Own O.M Z) Z w s v->
   G (λb=>E.Keep b∨Own (qL (k9 O.M k) y (.garr T0 sz0 xs')) Z b) (Own (qL (k9 O.M k) y (.garr T0 sz0 xs')) Z) Z w s v:=λs v h=>
  h.mono (Xj _) (λb _ l=>⟨λh=>l (h.imp id λh=>hown2 b (e b h)),rfl⟩) (λb _ l=>⟨λh=>l (hown2 b (e b h)),rfl⟩) (λ_ _ h=>h)
 have hs:Stp (Own O.M Z) (Own (qL (k9 O.M k) y (.garr T0 sz0 xs')) Z) Z Z w w:=
  ⟨rfl,rfl,.refl _,Xj _,λ_ _ _=>rfl,λb l=>.inl (hown2 b (e b l)),λ_ _ h=>h⟩
 have hd:∀v,Z k=some v->D (λb=>E.Keep b∨Own (qL (k9 O.M k) y (.garr T0 sz0 xs')) Z b) w (.sl enc ys) v:=λv hv=>
  zgT g.mem q (λb l=>l.imp id λh=>hown2 b (e b h)) (λv' b J l hSb=>by
   rcases hSb with hSb|hSb
   .exact(g.mem.old b ⟨k,_,v',q,J,l⟩).2 hSb
   obtain⟨X,Y,v1,h4,h5,h6⟩:=e b hSb
   exact g.mem.apart k _ X Y v' v1 b q (n _ h4) (Ne.symm (vA g.mem.keys _ h4)) J h5 l h6) hv
 refine⟨g.size,g.defers,λt s H=>⟨(g.regs t s H).1,hg s _ (g.regs t s H).2⟩,⟨λA B C=>?_,yS hkeys z,λA B k2 m2 v1 v2 b C o=>?_,λb l=>g.mem.old b (hown2 b (e b l)),g.mem.kp,g.mem.glO λb l=>hown2 b (e b l)⟩,
  g.fresh,g.stp.trans hs,g.keep,g.low⟩
 .obtain⟨_,o⟩|o:=jS z _ C
  .exact(g.mem.rel A B (n _ o)).keep hs rfl (λ_ _ _ _=>rfl)
  cases o
  obtain⟨v,cells,g1,g2,g3,g4,g5,g6⟩:=g.mem.rel y _ (zu h0);refine⟨v,cells,g1,by rw[H];exact g2,by rw[H];exact g3,g4,hz,λi j x' s' W U=>?_⟩;obtain⟨x,s,e1,e2,e3⟩:=V i j x' s' W U;obtain⟨u,hu,F⟩:=g6 i j x s e1 e2;refine⟨u,hu,?_⟩
  rcases e3 with rfl|⟨rfl,rfl⟩
  .exact hg _ _ F
  exact .d _ _ (hd u F.own_inv.1)
 have back:∀A B,(A,B)∈qL (k9 O.M k) y (.garr T0 sz0 xs')->∃Y,(A,Y)∈O.M:=λA B h=>by
  obtain⟨_,o⟩|o:=jS z _ h
  .exact⟨B,n _ o⟩
  cases o;exact⟨_,zu h0⟩
 obtain⟨m1',N⟩:=back _ _ C;obtain⟨m2',R⟩:=back _ _ o;exact g.mem.apart A m1' k2 m2' v1 v2 b N R
variable{α:Type}
def zct(l:Nat){T0:TypeId}(enc:α->LR){sz0:Nat}(ys:List α)(N:zO O.M l=some (.garr T0 sz0 (ys.map enc)))(hf:∀x∈ys,yf.flats (enc x)=true):
  Sub O ⟨O.L,qL O.M l (.arr T0 enc sz0 ys),O.nk,O.nt,O.n0⟩:=by
 intro E Z a w e;refine⟨Z,?_⟩;have hkeys:(qL O.M l (.arr T0 enc sz0 ys)).map (·.1)=O.M.map (·.1):=zbc;have d:∀b,Own (qL O.M l (.arr T0 enc sz0 ys)) Z b->Own O.M Z b:=λb k=>zax hkeys.symm k
 have R:∀s v,G (λb=>E.Keep b∨Own O.M Z b) (Own O.M Z) Z w s v->
   G (λb=>E.Keep b∨Own (qL O.M l (.arr T0 enc sz0 ys)) Z b) (Own (qL O.M l (.arr T0 enc sz0 ys)) Z) Z w s v:=λs v h=>
  h.mono (Xj _) (λb _ k=>⟨λh=>k (h.imp id (d b)),rfl⟩) (λb _ k=>⟨λh=>k (d b h),rfl⟩) (λ_ _ h=>h)
 have U:Stp (Own O.M Z) (Own (qL O.M l (.arr T0 enc sz0 ys)) Z) Z Z w w:=
  ⟨rfl,rfl,.refl _,Xj _,λ_ _ _=>rfl,λb k=>.inl (d b k),λ_ _ h=>h⟩
 have back:∀n o,(n,o)∈qL O.M l (.arr T0 enc sz0 ys)->∃m',(n,m')∈O.M:=λn o h=>by
  obtain⟨_,g⟩|g:=jS e.mem.keys _ h
  .exact⟨o,g⟩
  cases g;exact⟨_,zu N⟩
 refine⟨e.size,e.defers,λt s T=>⟨(e.regs t s T).1,R s _ (e.regs t s T).2⟩,⟨λn o z=>?_,yS hkeys e.mem.keys,λn o k2 m2 v1 v2 b z g=>?_,λb k=>e.mem.old b (d b k),e.mem.kp,e.mem.glO d⟩,
  e.fresh,e.stp.trans U,e.keep,e.low⟩
 .obtain⟨_,g⟩|g:=jS e.mem.keys _ z
  .exact(e.mem.rel n o g).keep U rfl (λ_ _ _ _=>rfl)
  cases g
  obtain⟨v,cells,V,H,J,W,X,Y⟩:=e.mem.rel l _ (zu N);rw[Xv]at H J;refine⟨v,cells,V,H,J,W,λx y=>X _ (XK.2 ⟨x,y,rfl⟩),λi j x s y q=>?_⟩;obtain⟨u,hu,C⟩:=Y i j (enc x) s (by rw[XD,y];rfl) q;exact⟨u,hu,uY (yT (hf x (Xf y)) j s q) (R _ _ C)⟩
 obtain⟨D,A⟩:=back _ _ z;obtain⟨F,B⟩:=back _ _ g;exact e.mem.apart n D k2 F v1 v2 b A B
abbrev i64(n:Int):SV:=.val (.int .i64 n)
abbrev u8(n:Int):SV:=.val (.int .u8 n)
abbrev bl(b:Bool):SV:=.val (.bool b)
abbrev pr(p:Prop)[i:Decidable p]:SV:=.pr p i
abbrev R64(n:Int):Prop:= -9223372036854775808<=n/\n<=9223372036854775807
def LE.refl{s:SV}:LE s s:=λ_ _ _ _ _ h=>h
def uj{s:SV}(h:s=r):LE s r:=h ▸ .refl
def ze{k:IntKind}{m n:Int}(h:m=n):LE (.val (.int k m)) (.val (.int k n)):=by subst h;exact .refl
def zC{p q:Prop}{i:Decidable p}{j:Decidable q}(h:p↔q):LE (.pr p i) (.pr q j):=λS Pm Z w v k=>by
 rw[k.pr_inv]
 have:@decide p i=@decide q j:=by
  by_cases e:p
  .simp[e,h.1 e]
  have g:¬q:=λg=>e (h.2 g)
  simp[e,g]
 rw[this];exact .d _ _ (.pr q j)
def zH{q:Prop}{j:Decidable q}(h:q):LE (.val (.bool true)) (.pr q j):=λS Pm Z w v e=>by
 rw[e.val_inv];have:=G.d (S:=S) (Pm:=Pm) (Z:=Z) (w:=w) _ _ (.pr q j)
 simpa[h] using this
def zd{q:Prop}{j:Decidable q}(h:¬q):LE (.val (.bool false)) (.pr q j):=λS Pm Z w v e=>by
 rw[e.val_inv];have:=G.d (S:=S) (Pm:=Pm) (Z:=Z) (w:=w) _ _ (.pr q j)
 simpa[h] using this
def zvw{v:Value}(h:ifB v=true):LE (.val v) (.op v):=λS Pm Z w u e=>by
 rw[e.val_inv];exact .d _ _ (.op v h)
variable{p:Prop}{i:Decidable p}
def zzP(h:p):LE (.pr p i) (.val (.bool true)):=λS Pm Z w v e=>by
 rw[e.pr_inv];simp only[h,decide_true];exact .d _ _ (.val _)
variable{b:Bool}
def zvx(h:p↔b=true):LE (.pr p i) (.val (.bool b)):=λS Pm Z w v e=>by
 rw[e.pr_inv];have:@decide p i=b:=by cases b <;> simp at h ⊢ <;> exact h
 rw[this];exact .d _ _ (.val _)
def zvy{j:Decidable (b=true)}:LE (.val (.bool b)) (.pr (b=true) j):=λS Pm Z w v e=>by
 rw[e.val_inv];have:=G.d (S:=S) (Pm:=Pm) (Z:=Z) (w:=w) _ _ (.pr (b=true) j)
 cases b <;> simpa using this
variable{xs:List α}{ys:List α}
def z6{enc:α->LR}(h:xs=ys):LE (.sl enc xs) (.sl enc ys):=by subst h;exact .refl
def zvz{enc:α->LR}(h:xs=ys):LE (.full enc xs) (.full enc ys):=by subst h;exact .refl
def zdb{enc:α->LR}(h:xs=ys):LE (.full enc xs) (.sl enc ys):=λS Pm Z w v g=>by
 subst h;obtain⟨a,rfl,e⟩:=g.full_inv;exact .d _ _ e
def zD{enc:α->LR}:LE (.val (.slice none 0 0)) (.sl enc []):=λS Pm Z w v e=>by
 rw[e.val_inv];exact .d _ _ (.nil enc none)
def LEs.gs{za bs:LR}(h:LEs za bs){S Pm:LI}{Z:zh}{w:World}:∀{vs:LA},Gs S Pm Z w za vs->Gs S Pm Z w bs vs:=by
 induction h with
 |nil=>intro vs h;exact h
 |cons h t j=>
  intro vs g;obtain⟨v,k,rfl,d,e⟩:=g.cons_inv;exact .cons (h _ _ _ _ _ d) (j e)
variable{za:LR}{bs:LR}
def jk(h:LEs za bs):LE (.agg za) (.agg bs):=λS Pm Z w v e=>by
 obtain⟨vs,rfl,d⟩:=e.agg_inv;have:=h.gs d;exact .agg _ vs this.1 this.2
def zaQ(h:LEs za bs):LE (.tup za) (.tup bs):=λS Pm Z w v e=>by
 obtain⟨vs,rfl,d⟩:=e.tup_inv;have:=h.gs d;exact .tup _ vs this.1 this.2
variable{a:SV}
def zP{b c d:SV}(e:LE a c)(g:LE b d):LE (.tup [a,b]) (.tup [c,d]):=zaQ (.cons e (.cons g .nil))
def LE.trans{b c:SV}(h:LE a b)(k:LE b c):LE a c:=λ_ _ _ _ _ g=>k _ _ _ _ _ (h _ _ _ _ _ g)
def kL.le{args:LR}(h:kL P f args M r M')(d:LE r r'):kL P f args M r' M':=
 ⟨h.1,λKeep Z w vs o q g n=>(h.2 Keep Z w vs o q g n).mono λ_ _ ⟨v,Z',e,j,k,l⟩=>⟨v,Z',e,j,k,d _ _ _ _ _ l⟩⟩
def kL.args{P:Program}{f:FuncId}{args args':LR}{M M':LT}{r:SV}(h:kL P f args' M r M')(d:LEs args args'):kL P f args M r M':=
 ⟨h.1,λKeep Z w vs j k e g=>h.2 Keep Z w vs j k e (d.gs g)⟩
def LEs.refl:∀{za:LR},LEs za za
 |[]=>.nil
 |_::_=>.cons .refl .refl
def LEs.C{us:LR}(t:LEs us bs):LEs (a::us) (a::bs):=.cons .refl t
inductive zfO (k:LK):LR->LR->Prop
 |nil:zfO k [] []
 |cons {a b:SV} {za bs:LR} (h:zbp k a b) (t:zfO k za bs):zfO k (a::za) (b::bs)
def zfO.ix{k:LK}(h:zfO k za bs):za.length=bs.length/\∀(j:Nat) (s r:SV),za[j]?=some s->bs[j]?=some r->zbp k s r:=by
 induction h with
 |nil=>exact⟨rfl,λj s r h=>by simp at h⟩
 |cons h t g=>
  refine⟨by simp[g.1],λj s r e d=>?_⟩
  cases j with
  |zero=>simp at e d;subst e;subst d;exact h
  |succ j=>exact g.2 j s r (by simpa using e) (by simpa using d)
def zzQ{k:LK}(h:zfO k za bs):zbp k (.agg za) (.agg bs):=.agg _ _ h.ix.1 h.ix.2
def zlb{k:LK}(h:zfO k za bs):zbp k (.tup za) (.tup bs):=.tup _ _ h.ix.1 h.ix.2
def zDH{k:LK}(h:zfO k za bs):zbp k (.fn f za) (.fn f bs):=.fn _ _ _ h.ix.1 h.ix.2
def zbx{k:LK}{q:IntKind}{m n:Int}(h:m=n):zbp k (.val (.int q m)) (.val (.int q n)):=.le _ _ (ze h) rfl
def tdm{m n:Int}(h:0<n):(0<=m.tmod n/\m.tmod n<n/\m.tmod n=m%n/\m.tdiv n=m/n/\(m<0->m%n=0))∨
  (m<0/\m.tmod n<0/\ -n<m.tmod n/\m.tmod n+n=m%n/\m.tdiv n-1=m/n):=by
 have l:=YE m n;have j:=J6 m h
 have uniq:∀q r:Int,n*q+r=m->0<=r->r<n->r=m%n/\q=m/n:=λq r e t o=>by
  have:=(Qv (a:=m) (b:=n) (q:=q) (r:=r) h).2 ⟨oM,t,o⟩;exact⟨this.2.symm,this.1.symm⟩
 by_cases s:0<=m
 .have k:=Int.tmod_nonneg n s;obtain⟨d,g⟩:=uniq _ _ l k j;exact .inl ⟨k,j,d,g,λh=>by omega⟩
 have k: -n<m.tmod n:=by
  have:=J6 (-m) h;rw[Int.neg_tmod]at this;omega
 have v:m.tmod n<=0:=by
  have:=Int.tmod_nonneg n (show 0<= -m by omega);rw[Int.neg_tmod]at this;omega
 by_cases u:m.tmod n=0
 .obtain⟨d,g⟩:=uniq _ _ l oM j;exact .inl ⟨oM,j,d,g,λ_=>by omega⟩
 obtain⟨d,g⟩:=uniq (m.tdiv n-1) (m.tmod n+n) (by rw[YM];omega) oM oM;exact .inr ⟨oM,oM,k,d,g⟩
def tm2(q:Int):q.tmod 2=0↔q%2=0:=by
 rcases tdm (m:=q) (n:=2) oM with h|h <;> omega
def zlc{m n:Int}(h:0<n)(s:R64 m):R64 (m.tdiv n)/\(n≠1-> -4611686018427387904<=m.tdiv n):=by
 have l:=YE m n;have o:=J6 m h
 have g: -n<m.tmod n:=by
  rcases tdm (m:=m) h with g|g <;> omega
 generalize m.tdiv n=q at*;generalize m.tmod n=r at*;refine⟨⟨?_,?_⟩,λt=>?_⟩
 .rcases Qf q 0 with d|d
  .have:n*q<=1*q:=Qr oM oM
   by_cases e:n=1
   .subst e;omega
   have:n*q<=2*q:=Qr oM oM;have j:n*(q+1)=n*q+n:=by rw[Jp];omega
   have k:n*(q+1)<=2*(q+1):=by
    rcases Qf (q+1) 1 with h|h
    .exact Qr oM oM
    omega
   omega
  omega
 .rcases Qf 0 q with d|d
  .have j:n*(q-1)=n*q-n:=by rw[YM];omega
   have k:1*(q-1)<=n*(q-1):=Int.mul_le_mul_of_nonneg_right oM oM;omega
  omega
 rcases Qf q 0 with d|d
 .have j:n*(q+1)=n*q+n:=by rw[Jp];omega
  have k:n*(q+1)<=2*(q+1):=Qr oM oM;omega
 omega
def iR{x y:Int}(h:x=y):some (i64 x)=some (i64 y):=h ▸ rfl
abbrev nS:SV:=.val (.slice none 0 0)
end Go.Gs
