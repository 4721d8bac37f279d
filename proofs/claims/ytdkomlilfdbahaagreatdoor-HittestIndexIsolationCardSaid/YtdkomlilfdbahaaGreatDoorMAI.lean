/- A region that draws its order: the run in the order of its text serves for every order. -/
import Derived.Test.YtdkomlilfdbahaaGreatDoorMAH
import Derived.Deep.LoopGhost
import Derived.Scope
set_option maxRecDepth 100000
set_option maxHeartbeats 80000000
set_option linter.all false
namespace Go.Gs
def Down(all:List Oper)(D:LI):Prop:=∀i o,D i->all[i]?=some o->∀e∈o.after,Region.binds .any e=true->D e.on
def Anc(all:List Oper)(j i:Nat):Prop:=∀D:LI,Down all D->(∀o,all[j]?=some o->∀e∈o.after,Region.binds .any e=true->D e.on)->D i
def ze5(all:List Oper)(n:Nat):(zbY all n).length=n:=by
 induction n with
 |zero=>rfl
 |succ n b=>simp[zbY,b]
def znD(all:List Oper):∀(n j:Nat),j<n->(zbY all n)[j]?=some (match all[j]? with|some o=>ztM (zbY all j) o|none=>0)
 |0,j,h=>oM
 |n+1,j,h=>by
  simp only[zbY]
  by_cases b:j<n
  .rw[XN (by rw[ze5];exact b)];exact znD all n j b
  have:j=n:=by omega
  subst this;rw[XG (by rw[ze5];omega),ze5];simp;rfl
def zea(all:List Oper):∀(n j i:Nat),j<n->((zbY all n).getD j 0).testBit i=true->Anc all j i:=by
 intro n j
 induction j using Nat.strongRecOn generalizing n with
 |_ j x=>
  intro i w hbit D hD c;have v:=znD all n j w;rw[Xs,v]at hbit
  cases q:all[j]? with
  |none=>simp[q]at hbit
  |some o=>
   simp only[q,KU]at hbit;unfold ztM at hbit
   have key:∀(d:List Edge) (s0:Nat),(∀e∈d,e∈o.after)->(s0.testBit i=true->D i)->
     (d.foldl (λs e=>if Region.binds .any e then s|||2^e.on|||(zbY all j).getD e.on 0 else s) s0).testBit i=true->D i:=by
    intro d
    induction d with
    |nil=>intro s0 _ l h;exact l h
    |cons e d ihe=>
     intro s0 g l h;simp only[Qo]at h;refine ihe _ (λt p=>g t (.tail _ p)) ?_ h;intro b
     split at b
     .rename_i hbind;simp only[Nat.testBit_or,JT]at b;have f:D e.on:=c o q e (g e (.head _)) hbind
      rcases b with(b|b)|b
      .exact l b
      .rw[Nat.testBit_two_pow]at b;have:e.on=i:=by simpa using b
       exact this ▸ f
      by_cases k:e.on<j
      .refine x e.on k j i k b D hD λo' r=>hD e.on o' f r
      rw[Xs,XH (by rw[ze5];omega)]at b;simp at b
     exact l b
   exact key o.after.toList 0 (λe u=>by simpa using u) (λh=>by simp at h) hbit
def ztZ{all:List Oper}(h:vz all=true):(∀j o,all[j]?=some o->∀e∈o.after,Region.binds .any e=true->e.on<j)/\
  ∀i j oi oj,i<j->all[i]?=some oi->all[j]?=some oj->zxl all oi oj=true->Anc all j i:=by
 unfold vz at h;simp only[XF]at h;obtain⟨g,k⟩:=h;refine⟨λj o f e p l=>?_,λi j oi oj c hi d n=>?_⟩
 .have b:j<all.length:=(Xd.1 f).1;have:=XY.1 g j (XV.2 b);simp only[f]at this;have:=XY.1 this e (by simpa using p);simp only[l,QL,QX]at this;exact Xw this
 have b:j<all.length:=(Xd.1 d).1;have:=XY.1 k j (XV.2 b);have:=XY.1 this i (XV.2 c);simp only[hi,d,n,QL,YQ]at this;exact zea all all.length j i b this
def zxt{all:List Oper}{i:Nat}(h:zpb all i=true):∀j oj,i<j->all[j]?=some oj->zdG oj.op=true->Anc all j i:=by
 intro j oj f d g;unfold zpb at h;have b:j<all.length:=(Xd.1 d).1;have:=XY.1 h j (XV.2 b)
 have c:Nat.ble j i=false:=by
  cases e:Nat.ble j i with
  |false=>rfl
  |true=>have:=Xw e;omega
 simp only[d,g,c,QL,YQ,QX]at this;exact zea all all.length j i b this
def zk1{a b:LC}{t:Nat}(c:t∈a)(d:t∈b):zdZ a b=true:=by
 unfold zdZ;exact List.any_eq_true.2 ⟨t,c,List.any_eq_true.2 ⟨t,d,KQ t⟩⟩
def zfL(O' O:St):Prop:=O'.M=O.M/\O'.nk=O.nk/\O'.nt=O.nt/\O'.n0=O.n0/\∀t s',kw O'.L t=some s'->∃s0,kw O.L t=some s0/\∀S Pm Z w v,G S Pm Z w s0 v->G S Pm Z w s' v
def zfL.refl{O:St}:zfL O O:=⟨rfl,rfl,rfl,rfl,λ_ s h=>⟨s,h,λ_ _ _ _ _ h=>h⟩⟩
structure Lex0 (P:Program) (all:List Oper) (E:Env) (O0:St) (i0:Nat) (T:Nat->St) (s:Nat->SV) (md:Nat->MD) (run:Nat->Bool) (svs:Nat->LR):Prop where
 start:zfL (T i0) O0
 next:∀j o,i0<=j->all[j]?=some o->zfL (T (j+1)) ((T j).app o.dst (s j) (md j))
 dst:∀j o,i0<=j->all[j]?=some o->∀t,o.dst=some t->t<O0.nt
 guard:∀j o,i0<=j->all[j]?=some o->je all (T j) o (run j)
 step:∀j o,i0<=j->all[j]?=some o->(run j=true/\znB P true all j o (T j) (svs j) (s j) (md j))∨(run j=false/\s j=.val undef/\md j=.none)
 pw:∀j,i0<=j->j<=all.length->(T j).M.Pairwise λa b=>a.1≠b.1
def zk2{P:Program}{I:LS}(hT:TOK P I){all:List Oper}{E:Env}{K:St->Prop}:∀(l:List Oper) (i:Nat) (O:St) (Z:zh) (a:Act) (w:World),i+l.length=all.length->
  (∀j,l[j]?=all[i+j]?)->Rel E O Z a w->vh P I true all l i O K->∃T s md run svs,Lex0 P all E O i T s md run svs/\K (T all.length)
 |[],i,O,Z,a,w,f,H,y,h=>by
  have hi:i=all.length:=by simpa using f
  subst hi;refine⟨λ_=>O,λ_=>.junk,λ_=>.none,λ_=>false,λ_=>[],⟨.refl,?_,?_,?_,?_,λ_ _ _=>y.mem.keys⟩,h⟩ <;>
  .intro j o x c;have:=(Xd.1 c).1;omega
 |o::r,i,O,Z,a,w,f,H,y,h=>by
  have u:all[i]?=some o:=by simpa using (H 0).symm
  obtain⟨O',run0,svs0,s0,q,R,V,href,F,n⟩:=zg6 hT y h
  have g:Rel E O' Z a w:=by
   rcases href with rfl|⟨t,s0,s1,B,C,rfl⟩
   .exact y
   exact y.refine B C
  have p:O'.nt=O.nt:=by rcases href with rfl|⟨t,s0,s1,B,C,rfl⟩ <;> rfl
  have href':zfL O' O:=by
   rcases href with rfl|⟨t,X,s1,B,C,rfl⟩
   .exact .refl
   refine⟨rfl,rfl,rfl,rfl,λN s' d=>?_⟩;have d:(if t=N then some s1 else kw O.L N)=some s':=by rw[←zV];exact d
   by_cases e:t=N
   .subst e;rw[Xe rfl]at d;cases d
    exact⟨X,B,C⟩
   rw[Xc e]at d;exact⟨s',d,λ_ _ _ _ _ h=>h⟩
  have hnext:∃Z1 D z,Rel E (O'.app o.dst s0 q) Z1 D z:=by
   obtain⟨_,J⟩|⟨_,rfl,rfl⟩:=n
   .obtain⟨v,z,S⟩:=(J.does g).ex;obtain⟨Z1,k⟩:=g.app (λt e=>p ▸ F t e) S;exact⟨Z1,_,z,k⟩
   obtain⟨Z1,k⟩:=g.app (λt e=>p ▸ F t e) (u0 g.mem);exact⟨Z1,_,w,k⟩
  obtain⟨Z1,D,z,k⟩:=hnext;obtain⟨T,s,md,run,svs,b,hK⟩:=zk2 hT r (i+1) _ Z1 D z (by simp at f;omega) (λj=>by have:=H (j+1);simpa[KL,Q6 1 j] using this) k R;have hapn:(O'.app o.dst s0 q).nt=O.nt:=p;have W:i<all.length:=(Xd.1 u).1
  refine⟨λj=>if j=i then O' else T j,λj=>if j=i then s0 else s j,λj=>if j=i then q else md j,λj=>if j=i then run0 else run j,λj=>if j=i then svs0 else svs j,
   ⟨by simpa using href',?_,?_,?_,?_,?_⟩,by simpa[show all.length≠i by omega] using hK⟩
  .intro j oj x c
   by_cases e:j=i
   .subst e;rw[u]at c;cases c
    simpa using b.start
   have:=b.next j oj oM c
   simpa[e,show j+1≠i by omega] using this
  .intro j oj x c t ht
   by_cases e:j=i
   .subst e;rw[u]at c;cases c
    exact F t ht
   exact hapn ▸ b.dst j oj oM c t ht
  .intro j oj x c
   by_cases e:j=i
   .subst e;rw[u]at c;cases c
    simpa using V
   simpa[e] using b.guard j oj oM c
  .intro j oj x c
   by_cases e:j=i
   .subst e;rw[u]at c;cases c
    simpa using n
   simpa[e] using b.step j oj oM c
  intro j x G
  by_cases e:j=i
  .subst e
   simpa using g.mem.keys
  simpa[e] using b.pw j oM G
def jf(T:Nat->St)(md:Nat->MD)(i k:Nat):Prop:=
 match md i with
 |.none=>False
 |.push _=>k=(T i).nk
 |.set b _=>k=b
 |.drop b=>k=b
 |.repl b _=>k=b∨k=(T i).nk
 |.give ks _ nn=>k∈ks∨((T i).nk<=k/\k<(T i).nk+nn)
def zda(Y:Nat)(md:MD):Prop:=
 match md with
 |.give ks new nn=>(∀k m,(k,m)∈new->k∈ks∨(Y<=k/\k<Y+nn))/\∀k,Y<=k->k<Y+nn->∃m,(k,m)∈new
 |_=>True
structure zk3 (P:Program) (o:Oper) (O:St) (svs:LR) (s:SV) (md:MD) (U:LI):Prop where
 ok:∃lm:LJ,yq P o.op svs lm O.nk s md/\∀k m,lm k=some m->U k/\zO O.M k=some m
 ev:∀{S Pm:LI} {Z:zh} {a:Act} {w:World},(∀t s,t∈zii (qm o.op)->kw O.L t=some s->G S Pm Z w s (a.tmps.getD t undef))->Gs S Pm Z w svs ((qm o.op).map a.eval)
structure Lex (P:Program) (all:List Oper) (E:Env) (O0:St) (T:Nat->St) (s:Nat->SV) (md:Nat->MD) (run:Nat->Bool) (svs:Nat->LR) (U:Nat->LI):Prop where
 start:zfL (T 0) O0
 next:∀(j:Nat) (o:Oper),all[j]?=some o->zfL (T (j+1)) ((T j).app o.dst (s j) (md j))
 dst:∀(j:Nat) (o:Oper),all[j]?=some o->∀t,o.dst=some t->t<O0.nt
 guard:∀(j:Nat) (o:Oper),all[j]?=some o->je all (T j) o (run j)
 step:∀(j:Nat) (o:Oper),all[j]?=some o->(run j=true/\zk3 P o (T j) (svs j) (s j) (md j) (U j))∨(run j=false/\s j=.val undef/\md j=.none)
 pw:∀j:Nat,j<=all.length->(T j).M.Pairwise λa b=>a.1≠b.1
 nodrop:∀(j:Nat) (o:Oper),all[j]?=some o->zda (T j).nk (md j)
 edges:∀(j:Nat) (o:Oper),all[j]?=some o->∀e∈o.after,Region.binds .any e=true->e.on<j
 slot:∀(i j:Nat) (oi oj:Oper),i<j->all[i]?=some oi->all[j]?=some oj->zkN all oi oj=true->Anc all j i
 mem:∀(i j:Nat),i<j->j<all.length->∀k:Nat,(jf T md i k/\(U j k∨jf T md j k))∨(U i k/\jf T md j k)->Anc all j i
structure Inv (all:List Oper) (E:Env) (O0:St) (T:Nat->St) (md:Nat->MD) (D:LI) (M:LT) (Z:zh) (a:Act) (w:World):Prop where
 size:a.tmps.size=O0.nt
 defers:a.defers=E.ds
 down:Down all D
 mem:zI E.Keep M Z w
 regs:∀t j sv,j<=all.length->(∀i o,all[i]?=some o->o.dst=some t->(D i↔i<j))->kw (T j).L t=some sv->
  t<O0.nt/\G (λb=>E.Keep b∨Own M Z b) (Own M Z) Z w sv (a.tmps.getD t undef)
 keys:∀k j m,j<=all.length->(∀i,i<all.length->jf T md i k->(D i↔i<j))->zO (T j).M k=some m->zO M k=some m
 names:∀k v,Z k=some v->k<O0.nk∨∃i,D i/\i<all.length/\(T i).nk<=k/\k<zcc (T i).nk (md i)
 stp:Stp E.W0 (Own M Z) E.ρ0 Z E.w0 w
def zk4{M:LT}{k b:Nat}{m:Mem}:zO (qL M k m) b=if k=b then(zO M k).map (λ_=>m) else zO M b:=by
 induction M with
 |nil=>simp[qL,zO]
 |cons x r f=>
  obtain⟨q,y⟩:=x;simp only[qL]
  split
  .rename_i c;have:=Xk c;subst this;rw[kQ,kQ,kQ]
   by_cases e:q=b <;> simp[e]
  rename_i c;have d:=KR c;rw[kQ,f,kQ,kQ]
  by_cases e:k=b
  .subst e;simp[d]
  simp[e]
def zaO{M:LT}{k:Nat}(c:M.Pairwise λa b=>a.1≠b.1):zO (k9 M k) k=none:=by
 cases h:zO (k9 M k) k with
 |none=>rfl
 |some m=>exact absurd rfl (vA c _ (zu h))
section lex
variable{P:Program}{all:List Oper}{E:Env}{O0:St}{T:Nat->St}{s:Nat->SV}{md:Nat->MD}{run:Nat->Bool}{svs:Nat->LR}{U:Nat->LI}
section
variable{j:Nat}
def Lex.nk_next(h:Lex P all E O0 T s md run svs U)(b:j<all.length):(T (j+1)).nk=zcc (T j).nk (md j):=by
 have:=(h.next j _ (Xb b)).2.1;exact this
def zvu(Y:Nat)(m:MD):Y<=zcc Y m:=by cases m <;> simp[zcc]
def Lex.nk_mono(h:Lex P all E O0 T s md run svs U){i:Nat}:∀{j:Nat},i<=j->j<=all.length->(T i).nk<=(T j).nk
 |0,b,_=>by
   have:i=0:=oM;subst this;exact Xj _
 |j+1,b,c=>by
  by_cases e:i=j+1
  .subst e;exact Xj _
  have:=h.nk_mono (i:=i) (j:=j) oM oM;rw[h.nk_next oM];exact XC this (zvu _ _)
variable{i:Nat}
def Lex.nk_push(h:Lex P all E O0 T s md run svs U)(c:i<j)(d:j<=all.length):zcc (T i).nk (md i)<=(T j).nk:=by
 have b:=h.nk_mono (i:=i+1) (j:=j) oM d
 rwa [h.nk_next oM]at b
def zzI{O:St}{d:Option Tmp}{sv:SV}{m:MD}{t:Nat}(b:d≠some t):kw (O.app d sv m).L t=kw O.L t:=by
 cases d with
 |none=>rfl
 |some d=>
  show kw ((d,sv)::O.L) t=_;rw[zV,Xc (λe=>b (by rw[e]))]
def Lex.look_chain(h:Lex P all E O0 T s md run svs U){t j0:Nat}:∀{j:Nat} {s':SV},j0<=j->j<=all.length->(∀i o,j0<=i->i<j->all[i]?=some o->o.dst≠some t)->kw (T j).L t=some s'->
  ∃s0,kw (T j0).L t=some s0/\∀S Pm Z w v,G S Pm Z w s0 v->G S Pm Z w s' v
 |0,s',p,_,_,c=>by
  have:j0=0:=oM;subst this;exact⟨s',c,λ_ _ _ _ _ h=>h⟩
 |j+1,s',p,x,n,c=>by
  by_cases e:j0=j+1
  .subst e;exact⟨s',c,λ_ _ _ _ _ h=>h⟩
  have k:j<all.length:=by omega
  have l:=Xb k;obtain⟨s1,b,f⟩:=(h.next j _ l).2.2.2.2 t s' c;rw[zzI (n j _ oM oM l)]at b;obtain⟨s0,g,d⟩:=h.look_chain (j:=j) oM oM (λi o q u=>n i o q oM) b;exact⟨s0,g,λS Pm Z w v r=>f _ _ _ _ _ (d _ _ _ _ _ r)⟩
variable{A:LT}
def zg7{B:LT}{k:Nat}:zO (A++B) k=(match zO A k with|some m=>some m|none=>zO B k):=by
 induction A with
 |nil=>rfl
 |cons x r b=>
  obtain⟨q,y⟩:=x;rw[JK,kQ,kQ]
  by_cases h:q=k
  .simp[h]
  simp only[h,if_false];exact b
def zm9{k:Nat}(h:∀m,(k,m)∉A):zO A k=none:=by
 cases b:zO A k with
 |none=>rfl
 |some m=>exact absurd (zu b) (h m)
variable{m:Mem}
def zna{k:Nat}(h:(k,m)∈A):∃c,zO A k=some c:=by
 induction A with
 |nil=>cases h
 |cons x r b=>
  obtain⟨q,y⟩:=x;rw[kQ]
  by_cases e:q=k
  .exact⟨y,Xe e⟩
  rw[Xc e]
  cases h with
  |head=>exact absurd rfl e
  |tail _ h=>exact b h
def zbv{k:Nat}:∀{ks:LC} {M:LT},M.Pairwise (λa b=>a.1≠b.1)->k∈ks->zO (jJ M ks) k=none
 |[],_,_,h=>(by cases h)
 |q::r,M,d,h=>by
  simp only[jJ]
  by_cases c:k∈r
  .exact zbv (qR d) c
  rw[zaq c]
  cases h with
  |head=>exact zaO d
  |tail _ h=>exact absurd h c
variable{M:LT}
def znE{k:Nat}(c:zda (T j).nk (md j))(b:¬jf T md j k):zO (zcV M (T j).nk (md j)) k=zO M k:=by
 unfold jf at b
 cases f:md j <;> simp only[f]at b <;> simp only[zcV]
 .rw[kQ,Xc (λe=>b e.symm)]
 .rw[zk4,Xc (λe=>b e.symm)]
 .exact zd9 (λe=>b e.symm)
 .rw[kQ,Xc (λe=>b (.inr e.symm))];exact zd9 (λe=>b (.inl e.symm))
 rename_i ks new nn;unfold zda at c;simp only[f]at c;rw[zg7,zm9 (λm d=>b (c.1 k m d)),zaq (λh=>b (.inl h))]
def Lex.lookM_chain(h:Lex P all E O0 T s md run svs U){k j0:Nat}:∀{j:Nat},j0<=j->j<=all.length->(∀i,j0<=i->i<j->¬jf T md i k)->zO (T j).M k=zO (T j0).M k
 |0,f,_,_=>by
  have:j0=0:=oM;subst this;rfl
 |j+1,f,n,d=>by
  by_cases e:j0=j+1
  .subst e;rfl
  have b:j<all.length:=by omega
  have c:=Xb b;have hM:=(h.next j _ c).1;rw[hM];show zO (zcV (T j).M (T j).nk (md j)) k=_;rw[znE (h.nodrop j _ c) (d j oM oM)];exact h.lookM_chain oM oM λi g l=>d i g oM
def ze6{k:Nat}(c:M.Pairwise λa b=>a.1≠b.1)(h:(k,m)∈M):zO M k=some m:=by
 induction M with
 |nil=>cases h
 |cons x r d=>
  obtain⟨q,y⟩:=x;rw[XT]at c;rw[kQ]
  cases h with
  |head=>simp
  |tail _ h=>
   have:q≠k:=c.1 _ h;rw[Xc this];exact d c.2 h
variable{Z:zh}{a:Act}
def Inv.after(b:Lex P all E O0 T s md run svs U){D:LI}{w w':World}{v:Value}(hI:Inv all E O0 T md D M Z a w)
{o:Oper} (r:all[j]?=some o) (hj:¬D j) (n:∀e∈o.after,Region.binds .any e=true->D e.on) (ha:qg E.Keep M Z w (T j).nk (s j) (md j) v w'):
  ∃M' Z',Inv all E O0 T md (λi=>i=j∨D i) M' Z' (a.put o.dst v) w':=by
 obtain⟨Z',hs,hm,hg,hρ⟩:=ha;have H:j<all.length:=(Xd.1 r).1;have hbefore:∀i,Anc all j i->D i:=λi hA=>hA D hI.down (λo' W=>by rw[r]at W;cases W;exact n)
 have hafter:∀i,Anc all i j->¬D i:=λi hA hDi=>hj (hA D hI.down (λoi hi=>hI.down i oi hDi hi))
 have hdef:(a.put o.dst v).defers=E.ds:=by cases x:o.dst <;> exact hI.defers
 refine⟨zcV M (T j).nk (md j),Z',?_,hdef,?_,hm,?_,?_,?_,hI.stp.trans hs⟩
 .have:=hI.size
  cases x:o.dst <;> simpa[Act.put] using this
 .intro i oi hi N e he hb
  rcases hi with rfl|hi
  .rw[r]at N;cases N;exact .inr (n e he hb)
  exact .inr (hI.down i oi hi N e he hb)
 .intro t C sv z g c
  have hold:o.dst≠some t->(∀i oi,all[i]?=some oi->oi.dst=some t->(D i↔i<C)):=λx i oi hi y=>by
   have u:=g i oi hi y;constructor
   .intro h;exact u.1 (.inr h)
   intro h
   rcases u.2 h with rfl|h
   .rw[r]at hi;cases hi;exact absurd y x
   exact h
  by_cases x:o.dst=some t
  .have hlt:j<C:=(g j o r x).1 (.inl rfl)
   have J:∀i oi,j+1<=i->i<C->all[i]?=some oi->oi.dst≠some t:=λi oi u F hi y=>by
    have hDi:=((g i oi hi y).2 F).resolve_left oM;refine hafter i (b.slot j i o oi oM r hi ?_) hDi;unfold zkN;have:zdZ (uF o) (uF oi)=true:=zk1 (t:=t) (by simp[uF,x]) (by simp[uF,y]);simp[this]
   obtain⟨s1,hl1,hi1⟩:=b.look_chain (j0:=j+1) oM z J c;obtain⟨s2,l,hi2⟩:=(b.next j o r).2.2.2.2 t s1 hl1;have l:kw (putL (T j).L o.dst (s j)) t=some s2:=l;rw[x]at l;have l:kw ((t,s j)::(T j).L) t=some s2:=l;rw[zV,Xe rfl]at l
   cases l
   have B:=b.dst j o r t x;refine⟨B,?_⟩;rw[x,zg5 (by rw[hI.size];exact B),Xe rfl];exact hi1 _ _ _ _ _ (hi2 _ _ _ _ _ hg)
  obtain⟨B,hg'⟩:=hI.regs t C sv z (hold x) c;refine⟨B,?_⟩
  have hput:(a.put o.dst v).tmps.getD t undef=a.tmps.getD t undef:=by
   cases S:o.dst with
   |none=>rfl
   |some d=>
    have Y:=b.dst j o r d S;rw[zg5 (by rw[hI.size];exact Y),Xc (λe=>x (by rw[S,e]))]
  rw[hput];exact hg'.stp hs
 .intro k C m z g c
  by_cases ht:jf T md j k
  .have hlt:j<C:=(g j H ht).1 (.inl rfl)
   have J:∀i,j+1<=i->i<C->¬jf T md i k:=λi u F f=>by
    have p:i<all.length:=oM;have hDi:=((g i p f).2 F).resolve_left oM;exact hafter i (b.mem j i oM p k (.inl ⟨ht,.inr f⟩)) hDi
   rw[b.lookM_chain (j0:=j+1) oM z J,(b.next j o r).1]at c;have c:zO (zcV (T j).M (T j).nk (md j)) k=some m:=c
   have hagj:∀m,zO (T j).M k=some m->zO M k=some m:=λm hlk=>by
    refine hI.keys k j m oM (λi p f=>?_) hlk;constructor
    .intro hDi
     rcases Qx i j with h|h|h
     .exact h
     .subst h;exact absurd hDi hj
     exact absurd hDi (hafter i (b.mem j i h p k (.inl ⟨ht,.inr f⟩)))
    intro hij;exact hbefore i (b.mem i j hij H k (.inl ⟨f,.inr ht⟩))
   unfold jf at ht
   cases q:md j with
   |none=>simp only[q]at ht
   |push m'=>
    simp only[q]at ht c ⊢;simp only[zcV]at c ⊢;rw[kQ,Xe ht.symm]at c ⊢;exact c
   |set k' m'=>
    simp only[q]at ht c ⊢;subst ht;simp only[zcV]at c ⊢;rw[zk4,Xe rfl]at c ⊢
    cases R:zO (T j).M k with
    |none=>rw[R]at c;cases c
    |some m0=>
     rw[R]at c;rw[hagj m0 R];exact c
   |drop k'=>
    simp only[q]at ht c;subst ht;simp only[zcV]at c;rw[zaO (b.pw j oM)]at c
    cases c
   |repl k' m'=>
    simp only[q]at ht c ⊢;simp only[zcV]at c ⊢;rw[kQ]at c ⊢
    by_cases e:(T j).nk=k
    .rw[Xe e]at c ⊢;exact c
    rw[Xc e]at c ⊢;have hkk:=ht.resolve_right (λh=>e h.symm);subst hkk;rw[zaO (b.pw j oM)]at c
    cases c
   |give ks new nn=>
    have G:=b.nodrop j o r;unfold zda at G;simp only[q]at ht c G ⊢;simp only[zcV]at c ⊢;rw[zg7]at c ⊢
    cases R:zO new k with
    |some m0=>rw[R]at c;exact c
    |none=>
     exfalso
     rw[R]at c
     rcases ht with ht|⟨u,F⟩
     .have c:zO (jJ (T j).M ks) k=some m:=c;rw[zbv (b.pw j oM) ht]at c
      cases c
     obtain⟨m1,hm1⟩:=G.2 k u F;obtain⟨m2,V⟩:=zna hm1;rw[R]at V;cases V
  rw[znE (b.nodrop j o r) ht];refine hI.keys k C m z (λi p f=>?_) c;have u:=g i p f;constructor
  .intro h;exact u.1 (.inr h)
  intro h
  rcases u.2 h with rfl|h
  .exact absurd f ht
  exact h
 intro k v' X
 by_cases hk:k<(T j).nk∨zcc (T j).nk (md j)<=k
 .rw[hρ k hk]at X
  rcases hI.names k v' X with h|⟨i,u,F,h3,h4⟩
  .exact .inl h
  exact .inr ⟨i,.inr u,F,h3,h4⟩
 exact .inr ⟨j,.inl rfl,H,oM,oM⟩
def Lex.nt(h:Lex P all E O0 T s md run svs U):∀{j:Nat},j<=all.length->(T j).nt=O0.nt/\(T j).n0=O0.n0
 |0,_=>⟨h.start.2.2.1,h.start.2.2.2.1⟩
 |j+1,g=>by
  have f:=Xb (show j<all.length by omega);obtain⟨_,_,b,c,_⟩:=h.next j _ f
  obtain⟨d,e⟩:=h.nt (j:=j) oM;exact⟨b.trans d,c.trans e⟩
def Inv.sees(c:Lex P all E O0 T s md run svs U){D:LI}{w:World}(hI:Inv all E O0 T md D M Z a w)
{o:Oper} (p:all[j]?=some o) (n:¬D j) (d:∀e∈o.after,Region.binds .any e=true->D e.on):
  (∀t,t∈zc1 all o->∀sv,kw (T j).L t=some sv->t<O0.nt/\G (λb=>E.Keep b∨Own M Z b) (Own M Z) Z w sv (a.tmps.getD t undef))/\
  (∀k m,U j k->zO (T j).M k=some m->zO M k=some m)/\(∀k,(T j).nk<=k->k<zcc (T j).nk (md j)->Z k=none):=by
 have u:j<all.length:=(Xd.1 p).1;have hbefore:∀i,Anc all j i->D i:=λi hA=>hA D hI.down (λo' g=>by rw[p]at g;cases g;exact d)
 have hafter:∀i,Anc all i j->¬D i:=λi hA hDi=>n (hA D hI.down (λoi hi=>hI.down i oi hDi hi))
 refine⟨λt ht sv C=>hI.regs t j sv oM (λi oi hi y=>?_) C,λk m z x=>?_,λq F H=>?_⟩
 .constructor
  .intro hDi
   rcases Qx i j with h|h|h
   .exact h
   .subst h;exact absurd hDi n
   refine absurd hDi (hafter i (c.slot j i o oi h p hi ?_));have:zdZ (zc1 all o) (uF oi)=true:=zk1 ht (by simp[uF,y]);unfold zkN;simp[this]
  intro f;refine hbefore i (c.slot i j oi o f hi p ?_);have:zdZ (uF oi) (zc1 all o)=true:=zk1 (t:=t) (by simp[uF,y]) ht;unfold zkN;simp[this]
 .refine hI.keys k j m oM (λi r l=>?_) x;constructor
  .intro hDi
   rcases Qx i j with h|h|h
   .exact h
   .subst h;exact absurd hDi n
   exact absurd hDi (hafter i (c.mem j i h r k (.inr ⟨z,l⟩)))
  intro f;exact hbefore i (c.mem i j f u k (.inl ⟨l,.inl z⟩))
 cases J:Z q with
 |none=>rfl
 |some v=>
  exfalso
  rcases hI.names _ v J with h|⟨i,B,N,R,S⟩
  .have V:=c.nk_mono (i:=0) (j:=j) oM oM;have W:(T 0).nk=O0.nk:=c.start.2.1;omega
  rcases Qx i j with h|h|h
  .have:=c.nk_push h oM;omega
  .subst h;exact n B
  have:=c.nk_push h oM;omega
def Inv.step(c:Lex P all E O0 T s md run svs U){D:LI}{M:LT}{Z:zh}{a:Act}{w:World}(hI:Inv all E O0 T md D M Z a w){j:Nat}{o:Oper}(l:all[j]?=some o)(y:¬D j)(d:∀e∈o.after,Region.binds .any e=true->D e.on){Q:LF}{K:LG}(hK:∀M Z a w,Inv all E O0 T md (λi=>i=j∨D i) M Z a w->K a w):wpOp P all.toArray Q j K a w:=by
 have hjl:j<all.length:=(Xd.1 l).1;obtain⟨J,W,L⟩:=hI.sees c l y d;have p:=(c.nt (j:=j) oM).1
 have hw:Region.wanted o (yielded all.toArray a.tmps)=run j:=
  znC (c.guard j o l) (hI.size.trans p.symm) λt b ⟨g,V,hg,hd⟩ z=>by
   obtain⟨X,Y⟩:=J t (by simp[zc1,hg,hd]) _ z;exact⟨p ▸ X,Y.val_inv⟩
 have G:all.toArray[j]?=some o:=by simpa using l
 unfold wpOp;simp only[G,hw]
 obtain⟨f,q⟩|⟨f,hs,C⟩:=c.step j o l
 .simp only[f,if_true];have x:=q.ev (S:=λb=>E.Keep b∨Own M Z b) (Pm:=Own M Z) (Z:=Z) (a:=a) (w:=w) λt sv ht z=>(J t (by simp[zc1,ht]) sv z).2
  have u:qB P o a w (qg E.Keep M Z w (T j).nk (s j) (md j)):=by
   obtain⟨lm,H,n⟩:=q.ok;refine H o rfl E.Keep M Z a w (λk m N=>W k m (n k m N).1 (n k m N).2) hI.mem L (λhp m C=>?_) x
   obtain⟨v,R⟩:=(hI.mem.rel _ m C).name;have B:(T j).nk<zcc (T j).nk (md j):=by cases F:md j <;> simp[F,zzC]at hp <;> simp[zcc]
   rw[L _ (Xj _) B]at R;cases R
  refine .inl (u.wp λv w' r=>?_);obtain⟨M',Z',h⟩:=hI.after c l y d r;exact hK _ _ _ _ h
 simp only[f,KJ,if_false];have r:qg E.Keep M Z w (T j).nk (s j) (md j) undef w:=by rw[hs,C];exact u0 hI.mem
 obtain⟨M',Z',h⟩:=hI.after c l y d r;exact hK _ _ _ _ h
def ze7{ops:List Oper}{listed:Array Bool}:i∈Region.ready .any ops.toArray listed↔
  ∃o,ops[i]?=some o/\listed.getD i true=false/\∀e∈o.after,Region.binds .any e=true->listed.getD e.on false=true:=by
 unfold Region.ready;simp only[QH,XV,KY,XF,Yg];constructor
 .rintro⟨h,d,b⟩
  have c:=Xb h;refine⟨_,c,d,λe g f=>?_⟩;rw[YG,c]at b;simp only[Qq,KU]at b;have:=Jr.1 b e g
  simpa[f] using this
 rintro⟨o,c,d,b⟩
 refine⟨(Xd.1 c).1,d,?_⟩;rw[YG,c];simp only[Qq,KU];refine Jr.2 λe g=>?_
 cases f:Region.binds .any e with
 |false=>rfl
 |true=>simpa using b e g f
def zxu(f:Lex P all E O0 T s md run svs U){Q:LF}(hQ:∀D M Z a w,(∀i,i<all.length->D i)->Inv all E O0 T md D M Z a w->Q .normal a w):∀(fuel:Nat) (listed:Array Bool) (M:LT) (Z:zh) (a:Act) (w:World),
  listed.size=all.length->listed.toList.count false<=fuel->Inv all E O0 T md (λi=>listed.getD i false=true) M Z a w->wpAny P .any all.toArray Q fuel listed a w:=by
 have u:=f.edges
 have hdone:∀(listed:Array Bool),listed.size=all.length->Region.ready .any all.toArray listed=[]->∀i,i<all.length->listed.getD i false=true:=λlisted d v i=>by
  induction i using Nat.strongRecOn with
  |_ i x=>
   intro hi
   cases n:listed.getD i false with
   |true=>rfl
   |false=>
    have k:=Xb hi
    have:i∈Region.ready .any all.toArray listed:=ze7.2 ⟨_,k,by
     have b:i<listed.size:=oM
     simp[Array.getD,b]at n ⊢;exact n,λe B hbind=>by
      have:=u i _ k e B hbind
      exact x e.on this oM⟩
    rw[v]at this;cases this
 intro fuel
 induction fuel with
 |zero=>
  intro listed M Z a w d z hI
  have hall:∀i,i<all.length->listed.getD i false=true:=λi hi=>by
   have b:i<listed.size:=oM
   cases n:listed.getD i false with
   |true=>rfl
   |false=>
    have:false∈listed.toList:=by
     simp[Array.getD,b]at n;rw[←n];simp
    have:=Jo.2 this;omega
  refine⟨?_,hQ _ _ _ _ _ hall hI⟩
  cases G:Region.ready .any all.toArray listed with
  |nil=>rfl
  |cons i r=>
   have hi:i∈Region.ready .any all.toArray listed:=by rw[G];exact .head _
   obtain⟨o,k,q,_⟩:=ze7.1 hi;have t:=(Xd.1 k).1;have l:=hall i t;have b:i<listed.size:=oM;simp[Array.getD,b]at q l;rw[q]at l;cases l
 |succ fuel x=>
  intro listed M Z a w d z hI;refine⟨λv=>hQ _ _ _ _ _ (hdone listed d v) hI,λj C=>?_⟩;obtain⟨o,k,q,l⟩:=ze7.1 C;have F:=(Xd.1 k).1;have c:j<listed.size:=oM;have g:listed[j]=false:=by simpa[Array.getD,c] using q
  refine hI.step f k (by simp[Array.getD,c,g]) l λM' Z' y w' hI'=>x _ M' Z' y w' (by simpa using d) ?_ ?_
  .have p:false∈listed.toList:=by rw[←g];simp
   have hpos:=Jo.2 p
   have:(listed.setIfInBounds j true).toList.count false=listed.toList.count false-1:=by
    rw[Q2,List.count_set (by simpa using c)];simp[g]
   omega
  have:(λi=>(listed.setIfInBounds j true).getD i false=true)=λi=>i=j∨listed.getD i false=true:=by
   funext i
   apply propext
   by_cases e:j=i
   .subst e;simp[Array.getD,c]
   simp only[X7,K3 e];constructor
   .exact .inr
   rintro(h|h)
   .exact absurd h.symm e
   exact h
  rw[this];exact hI'
end
end lex
section
variable{P:Program}{E:Env}{Q:LF}{K:St->Prop}{ops:Array Oper}{O:St}{Z:zh}{a:Act}
def znF{w:World}(d:Rel E O Z a w)(hlex0:∀w,Rel E O Z a w->∃T s md run svs U,Lex P ops.toList E O T s md run svs U/\K (T ops.toList.length))(hQ:∀O Z a w,K O->Rel E O Z a w->Q .normal a w):wpAny P .any ops Q ops.size (Array.replicate ops.size false) a { w with drawn:=w.drawn+1 }:=by
 have n:Stp (Own O.M Z) (Own O.M Z) Z Z w { w with drawn:=w.drawn+1 }:=⟨rfl,rfl,⟨rfl,λ_=>rfl⟩,Xj _,λ_ _ _=>rfl,λ_ h=>.inl h,λ_ _ h=>h⟩
 have c:Rel E O Z a { w with drawn:=w.drawn+1 }:=
  ⟨d.size,d.defers,λt s e=>⟨(d.regs t s e).1,(d.regs t s e).2.stp n⟩,⟨λk m h=>(d.mem.rel k m h).keep n rfl (λ_ _ _ _=>rfl),d.mem.keys,d.mem.apart,d.mem.old,d.mem.kp,d.mem.glS n⟩,d.fresh,d.stp.trans n,d.keep,d.low⟩
 obtain⟨T,s,md,run,svs,U,b,hK⟩:=hlex0 _ c;have S:ops.size=ops.toList.length:=by simp
 have main:=zxu (Q:=Q) b (λD M Z' L w' hD hI=>by
  have F:=b.nt (j:=ops.toList.length) (Xj _)
  have y:∀x∈(T ops.toList.length).M,x∈M:=λx V=>by
   obtain⟨k,m⟩:=x;exact zu (hI.keys k _ m (Xj _) (λi hi _=>⟨λ_=>hi,λ_=>hD i hi⟩) (ze6 (b.pw _ (Xj _)) V))
  obtain⟨H,C⟩:=hI.mem.let_go (M1:=(T ops.toList.length).M) y (b.pw _ (Xj _))
  .refine hQ (T ops.toList.length) Z' L w' hK ⟨hI.size.trans F.1.symm,hI.defers,λt sv e=>?_,C,λk G=>?_,hI.stp.trans H,d.keep,λk v q=>F.2 ▸ d.low k v q⟩
   .obtain⟨N,f⟩:=hI.regs t ops.toList.length sv (Xj _) (λi o hi _=>⟨λ_=>(Xd.1 hi).1,λh=>hD i h⟩) e;exact⟨F.1.symm ▸ N,f.stp H⟩
   cases R:Z' k with
   |none=>rfl
   |some v=>
    exfalso
    rcases hI.names k v R with h|⟨i,_,f,W,X⟩
    .have Y:=b.nk_mono (i:=0) (j:=ops.toList.length) oM (Xj _);have h6:(T 0).nk=O.nk:=b.start.2.1;omega
    have:=b.nk_push f (Xj _);omega)
  ops.size (Array.replicate ops.size false) O.M Z a { w with drawn:=w.drawn+1 } sI sI
  ⟨c.size,c.defers,λi o hi=>by simp[Array.getD]at hi,c.mem,λt j sv z g e=>?_,λk j m z g e=>?_,λk v q=>.inl ?_,c.stp⟩
 .simpa using main
 .have l:∀i o,0<=i->i<j->ops.toList[i]?=some o->o.dst≠some t:=λi o _ f hi n=>by
   have:=(g i o hi n).2 f;simp[Array.getD]at this
  obtain⟨s1,B,r⟩:=b.look_chain (j0:=0) (Xh _) z l e;obtain⟨J,p,u⟩:=b.start.2.2.2.2 t s1 B;exact⟨(c.regs t J p).1,r _ _ _ _ _ (u _ _ _ _ _ (c.regs t J p).2)⟩
 .have l:∀i,0<=i->i<j->¬jf T md i k:=λi _ f ht=>by
   have:=(g i oM ht).2 f;simp[Array.getD]at this
  rw[b.lookM_chain (j0:=0) (Xh _) z l,b.start.1]at e;exact e
 by_cases G:k<O.nk
 .exact G
 rw[c.fresh k oM]at q;cases q
variable{md:Nat->MD}
def Lex0.lex{all:List Oper}{O0:St}{T:Nat->St}{s:Nat->SV}{run:Nat->Bool}{svs:Nat->LR}(h:Lex0 P all E O0 0 T s md run svs)(hord:vz all=true):
  Lex P all E O0 T s md run svs (λj k=>(∃o,all[j]?=some o/\zdG o.op=true)/\k<(T j).nk):=by
 obtain⟨u,c⟩:=ztZ hord
 have mdok:∀j o,all[j]?=some o->MdOK all j (T j).nk o.op (md j):=λj o l=>by
  rcases h.step j o (Xh _) l with⟨_,w⟩|⟨_,_,f⟩
  .exact w.md rfl
  exact .inr (.inl f)
 have nk_next:∀j,j<all.length->(T (j+1)).nk=zcc (T j).nk (md j):=λj d=>(h.next j _ (Xh _) (Xb d)).2.1
 have nk_mono:∀i j,i<=j->j<=all.length->(T i).nk<=(T j).nk:=by
  intro i j
  induction j with
  |zero=>
    intro b _;have:i=0:=oM;subst this;exact Xj _
  |succ j H=>
   intro b d
   by_cases e:i=j+1
   .subst e;exact Xj _
   have:=H oM oM;rw[nk_next j oM];exact XC this (zvu _ _)
 have nk_lt:∀i j k,i<j->j<=all.length->jf T md i k->k<(T j).nk:=λi j k b d ht=>by
  have x:=nk_mono (i+1) j oM d;rw[nk_next i oM]at x;have l:=Xb (show i<all.length by omega);unfold jf at ht
  obtain⟨_,⟨F,n⟩,r⟩|f|⟨⟨D,f⟩,_⟩:=mdok i _ l
  .cases g:md i <;> simp only[g]at ht x <;> simp only[zcc]at x
   .omega
   .have:=r _ _ (.inl g);omega
   .exact absurd g (F _)
   .have:=r _ _ (.inr g);omega
   rw[g]at n;cases n
  .rw[f]at ht;exact ht.elim
  rw[f]at ht x;simp only[zcc]at x;have ht:k=(T i).nk:=ht;omega
 have wu:∀op:Op,isW op=true->zdG op=true/\zdX op=true:=λop hW=>by
  cases op <;> first|exact⟨rfl,rfl⟩|(simp[isW,zzz]at hW;done)|exact⟨rfl,by simpa[isW,zdX] using hW⟩
 have fwd:∀i j oi oj k,i<j->all[i]?=some oi->all[j]?=some oj->jf T md i k->zdG oj.op=true->Anc all j i:=λi j oi oj k b hi d ht q=>by
  obtain⟨hW,_⟩|f|⟨⟨D,f⟩,p⟩:=mdok i oi hi
  .exact c i j oi oj b hi d (by unfold zxl;simp[(wu _ hW).2,q])
  .unfold jf at ht;rw[f]at ht;exact ht.elim
  rcases p with p|p
  .exact c i j oi oj b hi d (by unfold zxl;simp[p,q])
  exact zxt p j oj b d q
 refine⟨h.start,λj o l=>h.next j o (Xh _) l,λj o l=>h.dst j o (Xh _) l,λj o l=>h.guard j o (Xh _) l,λj o l=>?_,λj d=>h.pw j (Xh _) d,λj o l=>?_,u,
  λi j oi oj b hi d t=>c i j oi oj b hi d ?_,λi j b y k r=>?_⟩
 .rcases h.step j o (Xh _) l with⟨G,w⟩|w
  .refine .inl ⟨G,⟨_,w.ok,λk m r=>?_⟩,w.ev⟩
   split at r
   .rename_i q;exact⟨⟨⟨o,l,q⟩,(zbt r).1⟩,(zbt r).2⟩
   cases r
  exact .inr w
 .obtain⟨_,⟨_,n⟩,_⟩|f|⟨⟨D,f⟩,_⟩:=mdok j o l
  .cases g:md j <;> first|trivial|(rw[g]at n;cases n)
  .rw[f];trivial
  rw[f];trivial
 .unfold zkN at t;unfold zxl;simp only[JT]at t ⊢
  rcases t with(t|t)|t
  .exact .inl (.inl (.inr t))
  .exact .inl (.inr t)
  exact .inr t
 have hi:=Xb (show i<all.length by omega);have d:=Xb y
 have back:jf T md j k->k<(T j).nk->zdG (all[j]).op=true/\isW (all[j]).op=true:=λht r=>by
  obtain⟨hW,_⟩|f|⟨⟨D,f⟩,_⟩:=mdok j _ d
  .exact⟨(wu _ hW).1,hW⟩
  .unfold jf at ht;rw[f]at ht;exact ht.elim
  unfold jf at ht;rw[f]at ht;have ht:k=(T j).nk:=ht;omega
 obtain⟨ht,q|v⟩|⟨⟨⟨oi,B,q⟩,z⟩,v⟩:=r
 .obtain⟨⟨oj,C,q⟩,_⟩:=q;exact fwd i j _ oj k b hi C ht q
 .exact fwd i j _ _ k b hi d ht (back v (nk_lt i j k b oM ht)).1
 have hW:=(back v (Xx z (nk_mono i j oM oM))).2;exact c i j oi _ b B d (by unfold zxl;simp[q,hW])
def zeb{P:Program}{I:LS}(hT:TOK P I){E:Env}{Q:LF}{K:St->Prop}{ops:Array Oper}{O:St}{Z:zh}{a:Act}{w:World}(c:Rel E O Z a w)(hord:vz ops.toList=true)(h:vh P I true ops.toList ops.toList 0 O K)(hQ:∀O Z a w,K O->Rel E O Z a w->Q .normal a w):wpAny P .any ops Q ops.size (Array.replicate ops.size false) a { w with drawn:=w.drawn+1 }:=
 znF c (λw c=>by
  obtain⟨T,s,md,run,svs,b,hK⟩:=zk2 hT ops.toList 0 O Z a w sI (λj=>by simp) c h
  exact⟨T,s,md,run,svs,_,b.lex hord,hK⟩) hQ
variable{I:LS}
def zt0(hT:TOK P I)(b:P.follows .mixedOrders=true){id:Nat}{w:World}(c:Rel E O Z a w)(hord:vz ops.toList=true)(h:vh P I true ops.toList ops.toList 0 O K)(hQ:∀O Z a w,K O->Rel E O Z a w->Q .normal a w):(Code.region id ops true).wp P Q a w:=
 wp_region_any b (zeb hT c hord h hQ)
def zxv{all:List Oper}(h:zgf all=true):(∀(j:Nat) (o:Oper),all[j]?=some o->∀e∈o.after,Region.binds .any e=true->e.on<j)/\
  ∀(i j:Nat) (oi oj:Oper),i<j->all[i]?=some oi->all[j]?=some oj->zkN all oi oj=true->Anc all j i:=by
 unfold zgf at h;simp only[XF]at h;obtain⟨g,k⟩:=h;refine⟨λj o f e p l=>?_,λi j oi oj c hi d n=>?_⟩
 .have b:j<all.length:=(Xd.1 f).1;have:=XY.1 g j (XV.2 b);simp only[f]at this;have:=XY.1 this e (by simpa using p);simp only[l,QL,QX]at this;exact Xw this
 have b:j<all.length:=(Xd.1 d).1;have:=XY.1 k j (XV.2 b);have:=XY.1 this i (XV.2 c);simp only[hi,d,n,QL,YQ]at this;exact zea all all.length j i b this
variable{i:Nat}
def zt1{T:Nat->St}{k:Nat}(h:jf T md i k):zfH k (zik (T i).nk (md i))=true:=by
 unfold jf at h;have one:∀x:Nat,k=x->∀l,zfH k (x::l)=true:=λx e l=>by subst e;simp[zfH,KQ]
 have two:∀x l,zfH k l=true->zfH k (x::l)=true:=λx l e=>by simp only[zfH];split <;> simp_all
 cases g:md i <;> simp only[g]at h
 .exact one _ h _
 .exact one _ h _
 .exact one _ h _
 .rcases h with h|h
  .exact one _ h _
  exact two _ _ (one _ h _)
 have mem:∀{l:LC},k∈l->zfH k l=true:=λ{l} f=>by
  induction l with
  |nil=>cases f
  |cons x r d=>
   cases f with
   |head=>exact one _ rfl _
   |tail _ h=>exact two _ _ (d h)
 have rng:∀n:Nat,(T i).nk<=k->k<(T i).nk+n->k∈ztN (T i).nk n:=λn=>by
  induction n with
  |zero=>intro b c;omega
  |succ n d=>
   intro b c
   by_cases e:k=(T i).nk+n
   .subst e;exact .head _
   exact .tail _ (d b oM)
 refine mem (Xu.2 ?_)
 rcases h with h|⟨b,c⟩
 .exact .inl h
 exact .inr (rng _ b c)
def zk5{e:Ent}{k:Nat}:∀{l:LC},zfH k l=true->(zdH e.u e.nk k=true∨zfH k e.t=true)->zvl e l=true
 |[],h,_=>by cases h
 |x::r,h,b=>by
  simp only[zfH]at h;simp only[zvl]
  split at h
  .rename_i c;have:=Xk c;subst this
   rcases b with b|b
   .simp[b]
   simp only[b];split <;> rfl
  have:=zk5 h b;simp only[this]
  split
  .rfl
  split <;> rfl
def zrg{x:Ent}{k:Nat}:∀{l:LC},zfH k l=true->zdH x.u x.nk k=true->zvm x l=true
 |[],h,_=>by cases h
 |y::r,h,b=>by
  simp only[zfH]at h;simp only[zvm]
  split at h
  .rename_i c;have:=Xk c;subst this;simp[b]
  have:=zrg h b;simp only[this]
  split <;> rfl
def zrh{m:Nat}{e:Ent}:∀{r:List Ent},prOK m e r=true->∀(i:Nat) (x:Ent),i<r.length->r[r.length-1-i]?=some x->zqR x e=true->m.testBit i=true
 |[],_,i,x,hi,_,_=>by simp at hi
 |y::r,h,i,x,hi,b,c=>by
  simp only[prOK,XF,JT,Yg]at h;simp only[Xm]at hi b
  by_cases d:i=r.length
  .subst d;simp at b;subst b
   rcases h.1 with h|h
   .exact h
   rw[c]at h;cases h
  have:r.length+1-1-i=(r.length-1-i)+1:=by omega
  rw[this,K2]at b;exact zrh h.2 i x oM b c
def zk6{ms:LC}:∀{A:List Ent},zkM ms A=true->∀(i j:Nat) (x e:Ent),i<j->j<A.length->A[A.length-1-i]?=some x->A[A.length-1-j]?=some e->zqR x e=true->(ms.getD j 0).testBit i=true
 |[],_,i,j,x,e,_,f,_,_,_=>by simp at f
 |y::r,h,i,j,x,e,c,f,d,b,g=>by
  simp only[zkM,XF]at h;simp only[Xm]at f d b;have hi:r.length+1-1-i=(r.length-1-i)+1:=oM;rw[hi,K2]at d
  by_cases k:j=r.length
  .subst k;simp at b;subst b;exact zrh h.1 i x c d g
  have:r.length+1-1-j=(r.length-1-j)+1:=by omega
  rw[this,K2]at b;exact zk6 h.2 i j x e c oM d b g
def zix{k:Nat}:∀{l:LC},zm3 k l=true->k∈l
 |[],h=>(by cases h)
 |x::r,h=>by
  simp only[zm3]at h
  split at h
  .rename_i b;have:=Xk b;subst this;exact .head _
  exact .tail _ (zix h)
def znG{ks:LC}{Y nn:Nat}:∀{new:LT},ztH ks Y nn new=true->∀k m,(k,m)∈new->k∈ks∨(Y<=k/\k<Y+nn)
 |[],_,k,m,h=>(by cases h)
 |(q,y)::r,c,k,m,h=>by
  simp only[ztH]at c;obtain⟨b,d⟩:=kr c
  cases h with
  |head=>
   simp only[JT,XF]at b
   rcases b with b|b
   .exact .inl (zix b)
   exact .inr ⟨Xw b.1,by simpa using b.2⟩
  |tail _ h=>exact znG d k m h
def zjw{k:Nat}:∀{new:LT},zf9 k new=true->∃m,(k,m)∈new
 |[],h=>(by cases h)
 |(q,y)::r,h=>by
  simp only[zf9]at h
  split at h
  .rename_i b;have:=Xk b;subst this;exact⟨y,.head _⟩
  obtain⟨m,c⟩:=zjw h;exact⟨m,.tail _ c⟩
def zjx{new:LT}{Y:Nat}:∀{n:Nat},zga new Y n=true->∀k,Y<=k->k<Y+n->∃m,(k,m)∈new
 |0,_,k,b,f=>oM
 |n+1,h,k,b,f=>by
  simp only[zga]at h;obtain⟨c,d⟩:=kr h
  by_cases e:k=Y+n
  .subst e;exact zjw c
  exact zjx d k b oM
def zzJ{Y:Nat}{md:MD}{K:Prop}(h:mdD Y md K):K/\zda Y md:=by
 unfold mdD at h
 split at h
 .exact⟨(zj h).2,tV⟩
 .exact⟨(zj h).2,tV⟩
 .exact⟨(zj h).2,tV⟩
 .obtain⟨d,e⟩:=zj h;obtain⟨b,c⟩:=kr d;exact⟨e,znG b,zjx c⟩
 refine⟨h,?_⟩;rename_i f
 cases md <;> first|trivial|exact absurd rfl (f _ _ _)
def zri{u:Option LC}{nk:Nat}{b:LJ}{k:Nat}{m:Mem}(h:lmU u nk b k=some m):zdH u nk k=true/\b k=some m:=by
 unfold lmU at h
 split at h
 .exact⟨‹_›,h⟩
 cases h
def zt2(hT:TOK P I){o:Oper}{K:Ent->St->Prop}{w:World}(g:Rel E O Z a w)(h:zb0 P I o O K):∃svs s md,K ⟨zqQ o.op svs,O.nk,zik O.nk md⟩ (O.app o.dst s md)/\zk3 P o O svs s md (λk=>zdH (zqQ o.op svs) O.nk k=true)/\(∀t,o.dst=some t->t<O.nt)/\zda O.nk md:=by
 unfold zb0 at h;replace h:=zge h;obtain⟨svs,h,b⟩:=zg4 h;have n:=b (a:=a) (λt s _ p=>(g.regs t s p).2);have c:∀k m,lmU (zqQ o.op svs) O.nk (za0 O.M O.nk) k=some m->zO O.M k=some m:=λk m h=>(zbt (zri h).2).2
 obtain⟨s,md,hK,e⟩:=ziw hT ⟨E.Keep,O.M,Z,w,_,c,g.mem,n⟩ h;obtain⟨hK,d⟩:=zzJ (zd1 (zd0 hK));obtain⟨l,hK⟩:=qI hK;exact⟨svs,s,md,hK,⟨⟨_,e,λk m f=>⟨(zri f).1,c k m f⟩⟩,b⟩,l,d⟩
def zk3.does{o:Oper}{svs:LR}{s:SV}{md:MD}{U:LI}(h:zk3 P o O svs s md U){w:World}(b:Rel E O Z a w):qB P o a w (qg E.Keep O.M Z w O.nk s md):=by
 obtain⟨g,e,d⟩:=h.ok;exact e o rfl E.Keep O.M Z a w (λk m c=>(d k m c).2) b.mem (λk c _=>b.fresh k c) (λ_=>b.noKey) (h.ev λt s _ f=>(b.regs t s f).2)
def zxw(hT:TOK P I){all:List Oper}{o:Oper}{r:List Oper}{acc:List Ent}{w:World}(z:Rel E O Z a w)(h:zbo P I all (o::r) i acc O K):∃O' run svs s md e,zbo P I all r (i+1) (e::acc) (O'.app o.dst s md) K/\je all O' o run/\
   (O'=O∨∃t s0 s1,kw O.L t=some s0/\(∀S Pm Z w v,G S Pm Z w s0 v->G S Pm Z w s1 v)/\O'=O.put (some t) s1)/\(∀t,o.dst=some t->t<O.nt)/\
   ((run=true/\zk3 P o O' svs s md (λk=>zdH e.u e.nk k=true)/\e.t=zik O'.nk md)∨(run=false/\s=.val undef/\md=.none))/\zda O'.nk md:=by
 have run1:∀{O':St},Rel E O' Z a w->zb0 P I o O' (λe O=>zbo P I all r (i+1) (e::acc) O K)->O'.nt=O.nt->∃svs s md e,zbo P I all r (i+1) (e::acc) (O'.app o.dst s md) K/\(∀t,o.dst=some t->t<O.nt)/\
   (zk3 P o O' svs s md (λk=>zdH e.u e.nk k=true)/\e.t=zik O'.nk md)/\zda O'.nk md:=by
  intro O' n C D;obtain⟨svs,s,md,d,f,g,l⟩:=zt2 hT n C;exact⟨svs,s,md,_,d,λt e=>D ▸ g t e,⟨f,rfl⟩,l⟩
 simp only[zbo]at h
 split at h
 .rename_i B;obtain⟨svs,s,md,e,d,f,g,l⟩:=run1 z h rfl;exact⟨O,true,svs,s,md,e,d,by simp[je,B],.inl rfl,f,.inl ⟨rfl,g⟩,l⟩
 rename_i j y B
 split at h
 .exact h.elim
 rename_i t ht
 have gv:∀{O':St} {v:Value},kw O'.L t=some (.val v)->je all O' o (zvt v y):=λc=>by
  unfold je;rw[B];exact⟨t,_,ht,c,rfl⟩
 have gi:∀{O':St} {b:Bool},kw O'.L t=some (.val (.bool b))->je all O' o (b==y):=λc=>gv c
 have put_look:∀(s1:SV),kw (O.put (some t) s1).L t=some s1:=λs1=>by
  show kw ((t,s1)::O.L) t=some s1;rw[zV];simp
 split at h
 .rename_i c
  split at h
  .obtain⟨svs,s,md,e,d,f,g,l⟩:=run1 z h rfl;exact⟨O,_,svs,s,md,e,d,gi c,.inl rfl,f,.inl ⟨rfl,g⟩,l⟩
  obtain⟨x,h⟩:=qI h;exact⟨O,_,[],_,_,_,h,gi c,.inl rfl,x,.inr ⟨rfl,rfl,rfl⟩,tV⟩
 .rename_i c
  split at h
  .obtain⟨svs,s,md,e,d,f,g,l⟩:=run1 z h rfl;exact⟨O,_,svs,s,md,e,d,gi c,.inl rfl,f,.inl ⟨rfl,g⟩,l⟩
  obtain⟨x,h⟩:=qI h;exact⟨O,_,[],_,_,_,h,gi c,.inl rfl,x,.inr ⟨rfl,rfl,rfl⟩,tV⟩
 .rename_i p ip c
  by_cases q:p
  .have n:=z.refine c (zc9 q)
   split at h
   .obtain⟨svs,s,md,e,d,f,g,l⟩:=run1 n (h.yes q) rfl;exact⟨_,_,svs,s,md,e,d,gi (put_look _),.inr ⟨t,_,_,c,zc9 q,rfl⟩,f,.inl ⟨rfl,g⟩,l⟩
   obtain⟨x,h⟩:=qI (h.yes q);exact⟨_,_,[],_,_,_,h,gi (put_look _),.inr ⟨t,_,_,c,zc9 q,rfl⟩,x,.inr ⟨rfl,rfl,rfl⟩,tV⟩
  have n:=z.refine c (zbu q)
  split at h
  .obtain⟨x,h⟩:=qI (h.no q);exact⟨_,_,[],_,_,_,h,gi (put_look _),.inr ⟨t,_,_,c,zbu q,rfl⟩,x,.inr ⟨rfl,rfl,rfl⟩,tV⟩
  obtain⟨svs,s,md,e,d,f,g,l⟩:=run1 n (h.no q) rfl;exact⟨_,_,svs,s,md,e,d,gi (put_look _),.inr ⟨t,_,_,c,zbu q,rfl⟩,f,.inl ⟨rfl,g⟩,l⟩
 .rename_i c;obtain⟨x,h⟩:=qI h;exact⟨O,_,[],_,_,_,h,gv c,.inl rfl,x,.inr ⟨rfl,rfl,rfl⟩,tV⟩
 exact h.elim
structure Lex1 (P:Program) (all:List Oper) (E:Env) (O0:St) (i0:Nat) (T:Nat->St) (s:Nat->SV) (md:Nat->MD) (run:Nat->Bool) (svs:Nat->LR) (ent:Nat->Ent):Prop where
 start:zfL (T i0) O0
 next:∀(j:Nat) (o:Oper),i0<=j->all[j]?=some o->zfL (T (j+1)) ((T j).app o.dst (s j) (md j))
 dst:∀(j:Nat) (o:Oper),i0<=j->all[j]?=some o->∀t,o.dst=some t->t<O0.nt
 guard:∀(j:Nat) (o:Oper),i0<=j->all[j]?=some o->je all (T j) o (run j)
 step:∀(j:Nat) (o:Oper),i0<=j->all[j]?=some o->(run j=true/\zk3 P o (T j) (svs j) (s j) (md j) (λk=>zdH (ent j).u (ent j).nk k=true)/\(ent j).t=zik (T j).nk (md j))∨
  (run j=false/\s j=.val undef/\md j=.none)
 pw:∀j:Nat,i0<=j->j<=all.length->(T j).M.Pairwise λa b=>a.1≠b.1
 nodrop:∀(j:Nat) (o:Oper),i0<=j->all[j]?=some o->zda (T j).nk (md j)
def zjy{P:Program}{I:LS}(hT:TOK P I){all:List Oper}{E:Env}{K:St->Prop}:∀(l:List Oper) (i:Nat) (acc:List Ent) (O:St) (Z:zh) (a:Act) (w:World),i+l.length=all.length->
  (∀j:Nat,l[j]?=all[i+j]?)->acc.length=i->Rel E O Z a w->zbo P I all l i acc O K->∃T s md run svs ent A,Lex1 P all E O i T s md run svs ent/\K (T all.length)/\zkM (zbY all all.length) A=true/\
   A.length=all.length/\(∃B,A=B++acc)/\∀j:Nat,i<=j->j<all.length->A[all.length-1-j]?=some (ent j)
 |[],i,acc,O,Z,a,w,f,N,hacc,C,h=>by
  have hi:i=all.length:=by simpa using f
  subst hi;refine⟨λ_=>O,λ_=>.junk,λ_=>.none,λ_=>false,λ_=>[],λ_=>znq,acc,⟨.refl,?_,?_,?_,?_,λ_ _ _=>C.mem.keys,?_⟩,h.go,h.ob,hacc,⟨[],rfl⟩,λj W z=>by omega⟩ <;>
  .intro j o p c;have:=(Xd.1 c).1;omega
 |o::r,i,acc,O,Z,a,w,f,N,hacc,C,h=>by
  have y:all[i]?=some o:=by simpa using (N 0).symm
  obtain⟨O',run0,svs0,s0,x,H,W,Y,href,J,n,R⟩:=zxw hT C h
  have g:Rel E O' Z a w:=by
   rcases href with rfl|⟨t,s0,s1,z,F,rfl⟩
   .exact C
   exact C.refine z F
  have u:O'.nt=O.nt:=by rcases href with rfl|⟨t,s0,s1,z,F,rfl⟩ <;> rfl
  have href':zfL O' O:=by
   rcases href with rfl|⟨t,s2,s1,z,F,rfl⟩
   .exact .refl
   refine⟨rfl,rfl,rfl,rfl,λV s' d=>?_⟩;have d:(if t=V then some s1 else kw O.L V)=some s':=by rw[←zV];exact d
   by_cases e:t=V
   .subst e;rw[Xe rfl]at d;cases d
    exact⟨s2,z,F⟩
   rw[Xc e]at d;exact⟨s',d,λ_ _ _ _ _ h=>h⟩
  have hnext:∃Z1 G D,Rel E (O'.app o.dst s0 x) Z1 G D:=by
   obtain⟨_,S,_⟩|⟨_,rfl,rfl⟩:=n
   .obtain⟨v,D,X⟩:=(S.does g).ex;obtain⟨Z1,k⟩:=g.app (λt e=>u ▸ J t e) X;exact⟨Z1,_,D,k⟩
   obtain⟨Z1,k⟩:=g.app (λt e=>u ▸ J t e) (u0 g.mem);exact⟨Z1,_,w,k⟩
  obtain⟨Z1,G,D,k⟩:=hnext;obtain⟨T,s,md,run,svs,ent,A,b,hK,hA,hAl,⟨B,hB⟩,hAe⟩:=zjy hT r (i+1) (H::acc) _ Z1 G D (by simp at f;omega) (λj=>by have:=N (j+1);simpa[KL,Q6 1 j] using this) (by simp[hacc]) k W;have hapn:(O'.app o.dst s0 x).nt=O.nt:=u;have hil:i<all.length:=(Xd.1 y).1
  refine⟨λj=>if j=i then O' else T j,λj=>if j=i then s0 else s j,λj=>if j=i then x else md j,λj=>if j=i then run0 else run j,λj=>if j=i then svs0 else svs j,λj=>if j=i then H else ent j,A,
   ⟨by simpa using href',?_,?_,?_,?_,?_,?_⟩,by simpa[show all.length≠i by omega] using hK,hA,hAl,⟨B++[H],by simp[hB]⟩,?_⟩
  .intro j oj p c
   by_cases e:j=i
   .subst e;rw[y]at c;cases c
    simpa using b.start
   have:=b.next j oj oM c
   simpa[e,show j+1≠i by omega] using this
  .intro j oj p c t ht
   by_cases e:j=i
   .subst e;rw[y]at c;cases c
    exact J t ht
   exact hapn ▸ b.dst j oj oM c t ht
  .intro j oj p c
   by_cases e:j=i
   .subst e;rw[y]at c;cases c
    simpa using Y
   simpa[e] using b.guard j oj oM c
  .intro j oj p c
   by_cases e:j=i
   .subst e;rw[y]at c;cases c
    simpa using n
   simpa[e] using b.step j oj oM c
  .intro j p q
   by_cases e:j=i
   .subst e
    simpa using g.mem.keys
   simpa[e] using b.pw j oM q
  .intro j oj p c
   by_cases e:j=i
   .subst e
    simpa using R
   simpa[e] using b.nodrop j oj oM c
  intro j p q
  by_cases e:j=i
  .subst e
   have hBl:B.length=all.length-1-j:=by
    have:=Xg List.length hB;simp[hAl,hacc]at this;omega
   simp only[if_true];rw[hB,XG oM,hBl];simp
  simpa[e] using hAe j oM q
def zg8(hT:TOK P I){w:World}(v:Rel E O Z a w)(hord:zgf ops.toList=true)(h:zbo P I ops.toList ops.toList 0 [] O K)(hQ:∀O Z a w,K O->Rel E O Z a w->Q .normal a w):wpAny P .any ops Q ops.size (Array.replicate ops.size false) a { w with drawn:=w.drawn+1 }:=
 znF v (λw v=>by
  obtain⟨T,s,md,run,svs,ent,A,b,hK,hA,hAl,_,hAe⟩:=zjy hT ops.toList 0 [] O Z a w sI (λj=>by simp) rfl v h;obtain⟨c,hslot⟩:=zxv hord
  refine⟨T,s,md,run,svs,λj k=>zdH (ent j).u (ent j).nk k=true/\run j=true,⟨b.start,λj o e=>b.next j o (Xh _) e,λj o e=>b.dst j o (Xh _) e,λj o e=>b.guard j o (Xh _) e,
   λj o e=>?_,λj B=>b.pw j (Xh _) B,λj o e=>b.nodrop j o (Xh _) e,c,hslot,λi j r d k p=>?_⟩,hK⟩
  .rcases b.step j o (Xh _) e with⟨f,l,_⟩|f
   .obtain⟨D,n,y⟩:=l.ok;exact .inl ⟨f,⟨D,n,λk m p=>⟨⟨(y k m p).1,f⟩,(y k m p).2⟩⟩,l.ev⟩
   exact .inr f
  have tch:∀q:Nat,q<ops.toList.length->jf T md q k->zfH k (ent q).t=true:=λq C ht=>by
   rcases b.step q _ (Xh _) (Xb C) with⟨_,_,n⟩|⟨_,_,n⟩
   .rw[n];exact zt1 ht
   unfold jf at ht;rw[n]at ht;exact ht.elim
  have z:zqR (ent i) (ent j)=true:=by
   unfold zqR
   obtain⟨ht,x|g⟩|⟨x,g⟩:=p
   .rw[zk5 (tch i oM ht) (.inl x.1)]
   .rw[zk5 (tch i oM ht) (.inr (tch j d g))]
   rw[zrg (tch j d g) x.1];split <;> rfl
  have f:=hAe i (Xh _) oM;have l:=hAe j (Xh _) d;rw[←hAl]at f l
  exact zea _ _ j i d (zk6 hA i j _ _ r oM f l z)) hQ
def zrj(hT:TOK P I)(b:P.follows .mixedOrders=true){id:Nat}{w:World}(c:Rel E O Z a w)(hord:zgf ops.toList=true)(h:zbo P I ops.toList ops.toList 0 [] O K)(hQ:∀O Z a w,K O->Rel E O Z a w->Q .normal a w):(Code.region id ops true).wp P Q a w:=
 wp_region_any b (zg8 hT c hord h hQ)
def u1(E:Env)(Q:LH):LF
 |.normal,a,w=>∃O Z,Q .normal O/\Rel E O Z a w
 |.exit id,a,w=>∃O Z,Q (.exit id) O/\Rel E O Z a w
 |.ret,a,w=>∃O Z,Q .ret O/\Rel E O Z a w
 |_,_,_=>False
def kR{P:Program}{I:LS}(hT:TOK P I)(g:P.follows .mixedOrders=true){E:Env}:∀(c:Code) {O:St} {Q:LH} {Z:zh} {a:Act} {w:World},
  Rel E O Z a w->js P I c O Q->c.wp P (u1 E Q) a w
 |.skip,O,Q,Z,a,w,d,h=>wp_skip ⟨O,Z,h,d⟩
 |.region id ops draw,O,Q,Z,a,w,d,h=>by
  cases draw with
  |false=>
   have h:vh P I false ops.toList ops.toList 0 O (Q .normal):=h;refine wp_region_list ?_;have:=zkb (Q:=u1 E Q) hT (λO Z a w h d=>⟨O,Z,h,d⟩) d h
   simpa using this
  |true=>
   have h:Dr (vz ops.toList=true) (vh P I true ops.toList ops.toList 0 O (Q .normal)) (Ob (zgf ops.toList=true) (zbo P I ops.toList ops.toList 0 [] O (Q .normal))):=h
   obtain⟨r,u⟩|⟨r,u⟩:=h
   .exact zt0 hT g d r u λO Z a w h d=>⟨O,Z,h,d⟩
   exact zrj hT g d r u λO Z a w h d=>⟨O,Z,h,d⟩
 |.seq x y,O,Q,Z,a,w,d,h=>by
  refine wp_seq (Code.wp_mono (λe l w' f=>?_) (kR hT g x d h))
  cases e with
  |normal=>obtain⟨O',Z',o,k⟩:=f;exact kR hT g y k o
  |exit id=>exact f
  |ret=>exact f
  |_=>exact f.elim
 |.cond c x y,O,Q,Z,a,w,d,h=>by
  obtain⟨s,h,V⟩:=zc8 h;have v:=V (a:=a) (λt s _ R=>(d.regs t s R).2)
  split at h
  .exact wp_cond_true v.val_inv (kR hT g x d h)
  .exact wp_cond_false v.val_inv (kR hT g y d h)
  .rename_i p i
   by_cases B:p
   .exact wp_cond_true (by rw[v.pr_inv];simp[B]) (kR hT g x d (h.yes B))
   exact wp_cond_false (by rw[v.pr_inv];simp[B]) (kR hT g y d (h.no B))
  .obtain⟨b,q⟩:=v.anyb_inv
   cases b with
   |true=>exact wp_cond_true q (kR hT g x d h.yes)
   |false=>exact wp_cond_false q (kR hT g y d h.no)
  exact h.elim
 |.block id c,O,Q,Z,a,w,d,h=>by
  refine wp_block (Code.wp_mono (λe l w' f=>?_) (kR hT g c d h))
  cases e with
  |normal=>exact f
  |exit j=>
   obtain⟨O',Z',o,k⟩:=f;dsimp only at o;show(if j=id then u1 E Q .normal l w' else u1 E Q (.exit j) l w')
   split at o
   .rename_i q;rw[Xe (Xk q)];exact⟨O',Z',o,k⟩
   rename_i q;rw[Xc (KR q)];exact⟨O',Z',o,k⟩
  |ret=>exact f
  |_=>exact f.elim
 |.loop c,O,Q,Z,a,w,d,h=>by
  obtain⟨ι,S,Vd,μ,L,N,z,hround⟩:=h;obtain⟨J,D⟩:=z E Z a w d;refine wp_loop_ghost (λn a w=>∃x Z,Vd x/\μ x=n/\Rel E (S x) Z a w) (μ L) ⟨L,J,N,rfl,D⟩ λn a w hI=>?_
  obtain⟨x,Z1,r,rfl,F⟩:=hI;refine Code.wp_mono (λe l w' f=>?_) (kR hT g c F (hround x r))
  cases e with
  |normal=>
   obtain⟨O',Z',⟨x',u,H,C⟩,k⟩:=f;obtain⟨Z2,G⟩:=H E Z' l w' k;exact⟨μ x',C,x',Z2,u,rfl,G⟩
  |exit id=>exact f
  |ret=>exact f
  |_=>exact f.elim
 |.exit id,O,Q,Z,a,w,d,h=>wp_exit ⟨O,Z,h,d⟩
 |.ret,O,Q,Z,a,w,d,h=>wp_ret ⟨O,Z,h,d⟩
 |.rangeFunc _ _ _ _,_,_,_,_,_,_,h=>by cases h
 |.scope c,O,Q,Z,a,w,d,h=>by
  refine wp_scope_straight (Code.wp_mono (λe l w' f=>?_) (kR hT g c d h))
  cases e with
  |normal=>exact f
  |exit j=>exact f
  |ret=>exact f
  |_=>exact f.elim
 |.label _,O,Q,Z,a,w,d,h=>wp_label ⟨O,Z,h,d⟩
 |.goto _,_,_,_,_,_,_,h=>by cases h
 |.refuse _,_,_,_,_,_,_,h=>by cases h
end
end Go.Gs
