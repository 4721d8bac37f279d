/- A region that draws its order, whose last operations wait for all before them. -/
import Derived.Test.YtdkomlilfdbahaaGreatDoorMAT
set_option maxRecDepth 100000
set_option maxHeartbeats 80000000
set_option linter.all false
namespace Go.Gs
open Proofs.Tryz
def zof(all:List Oper)(m:Nat):Bool:=
 let ms:=zbY all all.length
 zj7 all&&Nat.ble m all.length&&((all.take m).all λo=>o.guard.isNone)&&(List.range all.length).all λj=>Nat.blt j m||(List.range j).all λi=>(ms.getD j 0).testBit i
def zog{all:List Oper}{m:Nat}(h:zof all m=true):m<=all.length/\(∀i o,i<m->all[i]?=some o->o.guard=none)/\
  (∀j o,all[j]?=some o->∀e∈o.after,Region.binds .any e=true->e.on<j)/\∀i j,m<=j->j<all.length->i<j->Anc all j i:=by
 unfold zof at h;simp only[XF]at h;obtain⟨⟨⟨s,u⟩,v⟩,w⟩:=h;refine⟨Xw u,λi o hi g=>?_,λj o g e y d=>?_,λi j B t k=>?_⟩
 .have f:o∈all.take m:=Xf (i:=i) (by rw[XM,Xe hi];exact g);have:=XY.1 v o f
  simpa using this
 .have r:j<all.length:=(Xd.1 g).1;unfold zj7 at s;have:=XY.1 s j (XV.2 r);simp only[g]at this;have:=XY.1 this e (by simpa using y);simp only[d,QL,QX]at this;exact Xw this
 have:=XY.1 w j (XV.2 t)
 have d:Nat.blt j m=false:=by
  cases d:Nat.blt j m with
  |false=>rfl
  |true=>have:j+1<=m:=Xw d;omega
 simp only[d,QX]at this;exact zea all all.length j i t (XY.1 this i (XV.2 k))
def zex{ops:List Oper}{listed:Array Bool}{i:Nat}(j:listed.size=ops.length):i∈Region.ready .any ops.toArray listed↔
  ∃o,ops[i]?=some o/\listed.getD i false=false/\∀e∈o.after,Region.binds .any e=true->listed.getD e.on false=true:=by
 rw[ze7]
 have key:∀o,ops[i]?=some o->listed.getD i true=listed.getD i false:=λo h=>by
  have:i<listed.size:=by have:=(Xd.1 h).1;omega
  simp[Array.getD,this]
 exact⟨λ⟨o,d,f,g⟩=>⟨o,d,(key o d) ▸ f,g⟩,λ⟨o,d,f,g⟩=>⟨o,d,(key o d).symm ▸ f,g⟩⟩
def zsg(R:LG):LF
 |.normal,a,w=>R a w
 |_,_,_=>False
def Oper.wp_only{P:Program}{o:Oper}{a:Act}{w:World}{K K':LG}{R:LG}{Q:LF}(h:∀a w,K a w->K' a w)(d:o.wp P a w K (zsg R)):o.wp P a w K' Q:=by
 unfold Oper.wp at*;generalize (execOp a.eval o).run P w=r at*;have no:¬LetsOut (zsg R):=λ⟨_,_,k⟩=>k
 cases r with
 |ok n w'=>
  cases n <;> simp only[Oper.upon]at d ⊢ <;>
   first
    |exact h _ _ d
    |exact Calls.mono d (λe w'' f=>by cases e <;> first|exact h _ _ f|exact f.elim|exact(no f).elim)
    |exact Rows.mono d (λ_ _ f=>h _ _ f)
 |halt x w'=>cases x <;> simp only[Oper.upon]at d ⊢ <;> exact d.elim
section
variable{F:Fence}{n:Nat}{P:Program}{all:List Oper}{Q:LF}{m:Nat}
def zEc(f:∀j o,all[j]?=some o->∀e∈o.after,Region.binds .any e=true->e.on<j)(hanc:∀i j,m<=j->j<all.length->i<j->Anc all j i):
  ∀(k fuel j:Nat) (la:Array Bool) (a:Act) (w:World),k=all.length-j->m<=j->j<=all.length->all.length-j<=fuel->la.size=all.length->(∀i,la.getD i false=true↔i<j)->
   wpListIn F n P all.toArray Q (all.drop j) a w->wpAnyIn F n P .any all.toArray Q fuel la a w:=by
 intro k
 induction k with
 |zero=>
  intro fuel j la a w V W K S g d h;have K:j=all.length:=oM;subst K;rw[List.drop_length]at h;have h:Q .normal a w:=h
  have D:Region.ready .any all.toArray la=[]:=by
   cases D:Region.ready .any all.toArray la with
   |nil=>rfl
   |cons i r=>
    have hi:i∈Region.ready .any all.toArray la:=by rw[D];exact .head _
    obtain⟨o,v,C,_⟩:=(zex g).1 hi;have:=(d i).2 (Xd.1 v).1;rw[C]at this;cases this
  cases fuel with
  |zero=>exact⟨D,h⟩
  |succ fuel=>exact⟨λ_=>h,λi hi=>(by rw[D]at hi;cases hi)⟩
 |succ k ih=>
  intro fuel j la a w V W K S g d h;have u:j<all.length:=oM;obtain⟨o,v⟩:∃o,all[j]?=some o:=⟨_,Xb u⟩
  cases fuel with
  |zero=>omega
  |succ fuel=>
  have hnot:∀i,¬i<j->la.getD i false=false:=λi hi=>by
   cases t:la.getD i false with
   |false=>rfl
   |true=>exact absurd ((d i).1 t) hi
  have hready:j∈Region.ready .any all.toArray la:=(zex g).2 ⟨o,v,hnot j (YT j),λe y t=>(d _).2 (f j o v e y t)⟩;refine⟨λX=>(by rw[X]at hready;cases hready),λi hi=>?_⟩;obtain⟨oi,B,C,R⟩:=(zex g).1 hi;have H:=(Xd.1 B).1;have T:¬i<j:=λL=>by rw[(d i).2 L]at C;cases C
  have G:i=j:=by
   refine XS λY=>?_
   have hD:=hanc j i oM H oM (λq=>la.getD q false=true) (λq oq hq M e y t=>(d _).2 (by have:=f q oq M e y t;have:=(d q).1 hq;omega))
    (λo' s e y t=>by rw[B]at s;cases s;exact R e y t)
   exact absurd ((d j).1 hD) (YT j)
  subst G
  have hnext:∀a w,wpListIn F n P all.toArray Q (all.drop (i+1)) a w->wpAnyIn F n P .any all.toArray Q fuel (la.setIfInBounds i true) a w:=λa w U=>
   ih fuel (i+1) _ a w oM oM oM oM (by simpa using g) (λq=>by
    by_cases e:i=q
    .subst e;have:i<la.size:=oM;simp[Array.getD,this]
    simp only[X7,K3 e]
    rw[←X7,d q];omega) U
  rw[K8 u]at h;have eo:all[i]=o:=by rw[Xb u]at v;exact Xl v
  rw[eo]at h;unfold wpListIn at h;unfold wpOpIn;have s:all.toArray[i]?=some o:=by simpa using v
  rw[s];dsimp only
  split
  .rename_i N;rw[Xe N]at h;exact Oper.wpIn_mono hnext h
  rename_i N;rw[Xc N]at h;exact⟨h.1,hnext _ _ h.2⟩
def zBk(hF:yo F)(hd:y9 all=true)(ht:zof all m=true){R:LG}(hR:∀a w,R a w->wpListIn F n P all.toArray Q (all.drop m) a w):
  ∀(fuel:Nat) (lp la:Array Bool) (a:Act) (w:World),lp.size=m->la.size=all.length->(∀i,i<m->la.getD i false=lp.getD i false)->(∀i,m<=i->la.getD i false=false)->
   Down all (λi=>la.getD i false=true)->wpAny P .any (all.take m).toArray (zsg R) fuel lp a w->lp.toList.count false<=fuel->wpAnyIn F n P .any all.toArray Q (fuel+(all.length-m)) la a w:=by
 obtain⟨hm,W,d,hanc⟩:=zog ht;have hlen:(all.take m).length=m:=by rw[Xp];omega
 have hto:∀{i o},(all.take m)[i]?=some o->i<m/\all[i]?=some o:=λ{i o} h=>by
  have hi:i<m:=by have:=(Xd.1 h).1;omega
  rw[XM,Xe hi]at h;exact⟨hi,h⟩
 have hback:∀{i o},i<m->all[i]?=some o->(all.take m)[i]?=some o:=λ{i o} hi h=>by rw[XM,Xe hi];exact h
 -- all of the first are listed
 have full:∀(lp la:Array Bool) (a:Act) (w:World) (fuel:Nat),la.size=all.length->(∀i,i<m->la.getD i false=lp.getD i false)->(∀i,m<=i->la.getD i false=false)->
   (∀i,i<m->lp.getD i false=true)->all.length-m<=fuel->R a w->wpAnyIn F n P .any all.toArray Q fuel la a w:=λlp la a w fuel U t L h3 hf T=>
  zEc d hanc _ fuel m la a w rfl (Xj m) hm hf U (λi=>by
   by_cases hi:i<m
   .rw[t i hi,h3 i hi];simp[hi]
   rw[L i oM];simp[hi]) (hR a w T)
 have hdone:∀(lp:Array Bool),lp.size=m->Region.ready .any (all.take m).toArray lp=[]->∀i,i<m->lp.getD i false=true:=λlp U hn i=>by
  induction i using Nat.strongRecOn with
  |_ i ih=>
   intro hi
   cases f:lp.getD i false with
   |true=>rfl
   |false=>
    obtain⟨o,r⟩:∃o,all[i]?=some o:=⟨_,Xb (show i<all.length by omega)⟩
    have:i∈Region.ready .any (all.take m).toArray lp:=(zex oM).2 ⟨o,hback hi r,f,λe D hbind=>by
     have:=d i o r e D hbind
     exact ih e.on this oM⟩
    rw[hn]at this;cases this
 intro fuel
 induction fuel with
 |zero=>
  intro lp la a w K s t L hD h hc;refine full lp la a w _ s t L (λi hi=>?_) oM h.2;have u:i<lp.size:=oM
  cases f:lp.getD i false with
  |true=>rfl
  |false=>
   have:false∈lp.toList:=by
    simp[Array.getD,u]at f;rw[←f];simp
   have:=Jo.2 this;omega
 |succ fuel ih=>
  intro lp la a w K s t L hD h hc
  cases T:Region.ready .any (all.take m).toArray lp with
  |nil=>exact full lp la a w _ s t L (hdone lp K T) oM (h.1 T)
  |cons i0 r0=>
  have Y:i0∈Region.ready .any (all.take m).toArray lp:=by rw[T];exact .head _
  obtain⟨o0,C,N,V⟩:=(zex oM).1 Y;obtain⟨hlt0,C⟩:=hto C;rw[show fuel+1+(all.length-m)=(fuel+(all.length-m))+1 by omega]
  have up:∀{i o},i<m->all[i]?=some o->(∀e∈o.after,Region.binds .any e=true->lp.getD e.on false=true)->∀e∈o.after,Region.binds .any e=true->la.getD e.on false=true:=λ{i o} hi r X e D f=>by
   rw[t _ (by have:=d i o r e D f;omega)];exact X e D f
  refine⟨λhn=>?_,λi hi=>?_⟩
  .have:i0∈Region.ready .any all.toArray la:=(zex s).2 ⟨o0,C,by rw[t _ hlt0];exact N,up hlt0 C V⟩;rw[hn]at this;cases this
  obtain⟨o,r,hl,D⟩:=(zex s).1 hi;have hil:=(Xd.1 r).1
  have v:i<m:=by
   refine XS λhge=>?_
   have:=hanc i0 i oM hil oM _ hD λo' B e g f=>by rw[r]at B;cases B;exact D e g f
   rw[t _ hlt0,N]at this;cases this
  have hip:i∈Region.ready .any (all.take m).toArray lp:=(zex oM).2 ⟨o,hback v r,by rw[←t _ v];exact hl,λe g f=>by
   rw[←t _ (by have:=d i o r e g f;omega)];exact D e g f⟩
  have j:=h.2 i hip;have u:i<lp.size:=oM;have M:lp[i]=false:=by have:=t i v;rw[hl]at this;simpa[Array.getD,u] using this.symm
  have hnext:∀a w,wpAny P .any (all.take m).toArray (zsg R) fuel (lp.setIfInBounds i true) a w->wpAnyIn F n P .any all.toArray Q (fuel+(all.length-m)) (la.setIfInBounds i true) a w:=λa w X=>by
   have set1:∀(A:Array Bool) (q:Nat),i<A.size->((A.setIfInBounds i true).getD q false=true↔q=i∨A.getD q false=true):=λA q hA=>by
    by_cases e:i=q
    .subst e;simp[Array.getD,hA]
    simp only[X7,K3 e];exact⟨.inr,λh=>h.resolve_left λk=>e k.symm⟩
   refine ih _ _ a w (by simpa using K) (by simpa using s) (λq H=>?_) (λq H=>?_) (λq oq H G e g f=>?_) X ?_
   .have e1:=set1 lp q u;have e2:=set1 la q oM;rw[t q H,←e1]at e2;exact QG.2 e2
   .have hne:i≠q:=by omega
    simp only[X7,K3 hne];rw[←X7];exact L q H
   .refine(set1 la _ oM).2 (.inr ?_)
    rcases(set1 la q oM).1 H with rfl|H
    .rw[r]at G;cases G;exact D e g f
    exact hD q oq H G e g f
   have S:false∈lp.toList:=by rw[←M];simp
   have hpos:=Jo.2 S
   have:(lp.setIfInBounds i true).toList.count false=lp.toList.count false-1:=by
    rw[Q2,List.count_set (by simpa using u)];simp[M]
   omega
  have hg:=W i o v r;have hw:∀y,Region.wanted o y=true:=λy=>by unfold Region.wanted;rw[hg]
  have hop':(all.take m).toArray[i]?=some o:=by simpa using hback v r
  have B:all.toArray[i]?=some o:=by simpa using r
  unfold wpOp at j;unfold wpOpIn;rw[hop']at j;rw[B];dsimp only at j ⊢;rw[Xe (hw _)]at j ⊢;have j:=j.resolve_right λk=>by obtain⟨_,_,_,k⟩:=k;exact k
  exact hF.op (zl0 hd (o:=o) (Xf r)) (Oper.wp_only hnext j)
def zsh(hF:yo F)(f:P.follows .mixedOrders=true){I:LS}(hT:TOK P I){E:Env}{id:Nat}{ops:Array Oper}{K:St->Prop}{O:St}{Z:zh}{a:Act}{w:World}(e:y9 ops.toList=true)(ht:zof ops.toList m=true)(j:Rel E O Z a w)(hord:vz (ops.toList.take m)=true)(h:vh P I true (ops.toList.take m) (ops.toList.take m) 0 O K)(hK:∀O Z a w,K O->Rel E O Z a w->wpListIn F n P ops Q (ops.toList.drop m) a w):(Code.region id ops true).wpIn F n P Q a w:=by
 have g:=(zog ht).1;have hpre:=zeb (Q:=zsg λa w=>wpListIn F n P ops Q (ops.toList.drop m) a w) (ops:=(ops.toList.take m).toArray) hT j (by simpa using hord) (by simpa using h) hK
 have d:(ops.toList.take m).toArray.size=m:=by
  have:ops.toList.length=ops.size:=by simp
  simp only[KY,Xp];omega
 rw[d]at hpre;refine wpIn_region_any f ?_
 have:=zBk (F:=F) (n:=n) (Q:=Q) hF e ht (R:=λa w=>wpListIn F n P ops Q (ops.toList.drop m) a w) (λa w h=>by simpa using h) m (Array.replicate m false) (Array.replicate ops.size false) a _ sI sI
  (λi hi=>by simp[Array.getD]) (λi hi=>by simp[Array.getD]) (λi o hi=>by simp[Array.getD]at hi) hpre sI
 rw[show m+(ops.toList.length-m)=ops.size by
  have:ops.toList.length=ops.size:=by simp
  omega]at this
 simpa using this
end
def isY(L:LP)(o:Oper):Bool:=
 match o.op with
 |.call c=>(match c.callee with
  |.value (.tmp t)=>(match kw L t with
   |some (.val (.func (.yield _) _ _))=>true
   |_=>false)
  |_=>false)
 |_=>false
def zdl:LP->LP
 |[]=>[]
 |(t,s)::r=>match pfS s with
  |true=>(t,s)::zdl r
  |false=>(t,.junk)::zdl r
def zgv:∀{L:LP} {t:Nat} {s:SV},kw (zdl L) t=some s->s=.junk∨(kw L t=some s/\pfS s=true)
 |[],_,_,h=>by cases h
 |(k,s0)::r,t,s,h=>by
  unfold zdl at h;rw[zV]
  split at h
  .rename_i d;rw[zV]at h
   by_cases e:k=t
   .rw[Xe e]at h ⊢;cases h;exact .inr ⟨rfl,d⟩
   rw[Xc e]at h ⊢;exact zgv h
  rw[zV]at h
  by_cases e:k=t
  .rw[Xe e]at h;cases h;exact .inl rfl
  rw[Xc e]at h ⊢;exact zgv h
def zx7{L:LP}{t:Nat}{s:SV}(h:kw (zdl L) t=some s):∃s',kw L t=some s':=by
 induction L with
 |nil=>cases h
 |cons p r d=>
  obtain⟨k,s0⟩:=p;rw[zV]
  by_cases e:k=t
  .rw[Xe e];exact⟨_,rfl⟩
  rw[Xc e];refine d ?_;unfold zdl at h
  split at h <;> (rw[zV,Xc e]at h;exact h)
def St.yput(O:St)(d:Option Tmp)(s:SV):St:=⟨putL (zdl O.L) d s,O.M,O.nk,O.nt,O.n0⟩
def zuu(all:List Oper)(o:Oper)(O:St)(run skip:St->Prop):Prop:=
 match o.guard with
 |none=>run O
 |some (j,d)=>(match zdY all j with
  |none=>False
  |some t=>(match kw O.L t with
   |some (.val (.bool true))=>(match d with
    |true=>run O
    |false=>skip O)
   |some (.val (.bool false))=>(match d with
    |false=>run O
    |true=>skip O)
   |some (.pr p _)=>(match d with
    |true=>Br (p->run (O.put (some t) (.val (.bool true)))) (¬p->skip (O.put (some t) (.val (.bool false))))
    |false=>Br (p->skip (O.put (some t) (.val (.bool true)))) (¬p->run (O.put (some t) (.val (.bool false)))))
   |some (.val (.tuple _))=>skip O
   |_=>False))
def zsi{all:List Oper}{o:Oper}{O:St}{run skip:St->Prop}(h:zuu all o O run skip){E:Env}{Z:zh}{a:Act}{w:World}(f:Rel E O Z a w):
  ∃O' b,je all O' o b/\Rel E O' Z a w/\(O'.M=O.M/\O'.nt=O.nt)/\((b=true/\run O')∨(b=false/\skip O')):=by
 unfold zuu at h
 split at h
 .rename_i r;exact⟨O,true,by simp[je,r],f,⟨rfl,rfl⟩,.inl ⟨rfl,h⟩⟩
 rename_i j g r
 split at h
 .exact h.elim
 rename_i t ht
 have gv:∀{O':St} {v:Value},kw O'.L t=some (.val v)->je all O' o (zvt v g):=λd=>by
  unfold je;rw[r];exact⟨t,_,ht,d,rfl⟩
 have gi:∀{O':St} {b:Bool},kw O'.L t=some (.val (.bool b))->je all O' o (b==g):=λd=>gv d
 have put_look:∀(s1:SV),kw (O.put (some t) s1).L t=some s1:=λs1=>by
  show kw ((t,s1)::O.L) t=some s1;rw[zV];simp
 split at h
 .rename_i d
  split at h
  .exact⟨O,_,gi d,f,⟨rfl,rfl⟩,.inl ⟨rfl,h⟩⟩
  exact⟨O,_,gi d,f,⟨rfl,rfl⟩,.inr ⟨rfl,h⟩⟩
 .rename_i d
  split at h
  .exact⟨O,_,gi d,f,⟨rfl,rfl⟩,.inl ⟨rfl,h⟩⟩
  exact⟨O,_,gi d,f,⟨rfl,rfl⟩,.inr ⟨rfl,h⟩⟩
 .rename_i p ip d
  by_cases k:p
  .have e:=f.refine d (zc9 k)
   split at h
   .exact⟨_,_,gi (put_look _),e,⟨rfl,rfl⟩,.inl ⟨rfl,h.yes k⟩⟩
   exact⟨_,_,gi (put_look _),e,⟨rfl,rfl⟩,.inr ⟨rfl,h.yes k⟩⟩
  have e:=f.refine d (zbu k)
  split at h
  .exact⟨_,_,gi (put_look _),e,⟨rfl,rfl⟩,.inr ⟨rfl,h.no k⟩⟩
  exact⟨_,_,gi (put_look _),e,⟨rfl,rfl⟩,.inl ⟨rfl,h.no k⟩⟩
 .rename_i d;exact⟨O,_,gv d,f,⟨rfl,rfl⟩,.inr ⟨rfl,h⟩⟩
 exact h.elim
def yIs(L:LP)(c:Call)(l:Nat):Prop:=
 match c.callee with
 |.value (.tmp t)=>kw L t=some (.val (.func (.yield l) #[] #[]))
 |_=>False
def zBl(l:Nat){α:Type}(enc:α->LR)(xs:List α)(o:Oper)(O:St)(i:Nat)(b:Bool)(K:St->Nat->Bool->Prop):Prop:=
 match o.op with
 |.call c=>(match b with
  |true=>False
  |false=>evs O.L c.args.toList λd=>yIs O.L c l/\∃x,xs[i]?=some x/\uD.scalars (enc x)=true/\LEs d (enc x)/\zl1 O.M/\
   znp o.dst O.nt (Br (K (O.yput o.dst (.val (.bool true))) (i+1) false) (K (O.yput o.dst (.val (.bool false))) i true)))
 |_=>False
def zey(P:Program)(I:LS)(l:Nat){α:Type}(enc:α->LR)(xs:List α)(all r:List Oper):Nat->St->Nat->Bool->(St->Nat->Bool->Prop)->Prop:=
 List.rec (motive:=λ_=>Nat->St->Nat->Bool->(St->Nat->Bool->Prop)->Prop) (λ_ O i b K=>K O i b) (λo _ d j O i b K=>match isY O.L o with
  |false=>vh P I false all [o] j O λO'=>d (j+1) O' i b K
  |true=>zuu all o O (λO'=>zBl l enc xs o O' i b λO' i b=>d (j+1) O' i b K) (λO'=>zaM o O' λO'=>d (j+1) O' i b K)) r
inductive YDr (A:Prop) (B:LI):Prop
 |plain (h:A)
 |split (m:Nat) (h:B m)
def zBm(P:Program)(I:LS)(l:Nat){α:Type}(enc:α->LR)(xs:List α)(c:Code):St->Nat->Bool->(Ex->St->Nat->Bool->Prop)->Prop:=
 Code.rec (motive:=λ_=>St->Nat->Bool->(Ex->St->Nat->Bool->Prop)->Prop)
  (λO i b Q=>Q .normal O i b)
  (λid ops draw O i b Q=>match y9 ops.toList with
   |false=>False
   |true=>match draw with
   |false=>zey P I l enc xs ops.toList ops.toList 0 O i b (Q .normal)
   |true=>YDr (js P I (.region id ops true) O λe O=>(match e with
    |.normal=>Q .normal O i b
    |_=>False)) λm=>Ob (yp (y9 ops.toList) (yp (zof ops.toList m) (vz (ops.toList.take m)))=true)
     (vh P I true (ops.toList.take m) (ops.toList.take m) 0 O λO=>zey P I l enc xs ops.toList (ops.toList.drop m) m O i b (Q .normal)))
  (λ_ _ r s O i b Q=>r O i b λe O i b=>(match e with
   |.normal=>s O i b Q
   |.exit id=>Q (.exit id) O i b
   |.ret=>Q .ret O i b))
  (λc _ _ g h O i b Q=>ev O.L c λc=>(match c with
   |.val (.bool true)=>g O i b Q
   |.val (.bool false)=>h O i b Q
   |.pr p _=>Br (p->g O i b Q) (¬p->h O i b Q)
   |.anyb=>Br (g O i b Q) (h O i b Q)
   |_=>False))
  (λid _ f O i b Q=>f O i b λe O i b=>(match e with
   |.normal=>Q .normal O i b
   |.exit j=>(match Nat.beq j id with
    |true=>Q .normal O i b
    |false=>Q (.exit j) O i b)
   |.ret=>Q .ret O i b))
  (λ_ f O i b Q=>∃(ι:Type) (S:ι->St) (T:ι->Nat) (Vd:ι->Prop) (μ:ι->Nat) (o:ι),Vd o/\Sub O (S o)/\i=T o/\b=false/\
   ∀x,Vd x->f (S x) (T x) false λe O' k d=>(match e with
    |.normal=>∃x',Vd x'/\Sub O' (S x')/\k=T x'/\d=false/\μ x'<μ x
    |.exit id=>Q (.exit id) O' k d
    |.ret=>Q .ret O' k d))
  (λ_ _ _ _ _ _ _ _ _ _=>False)
  (λid O i b Q=>Q (.exit id) O i b)
  (λ_ _ _ _ _ _=>False)
  (λ_ O i b Q=>Q .normal O i b)
  (λ_ _ _ _ _=>False)
  (λO i b Q=>Q .ret O i b)
  (λ_ _ _ _ _=>False)
  c
section it
variable{P:Program}{I:LS}{α:Type}{enc:α->LR}{xs:List α}{l:Nat}{J:Nat->LI->LI->World->Prop}{Jx:LI->LI->World->Prop}
section
def Jt(J:Nat->LI->LI->World->Prop)(Jx:LI->LI->World->Prop)(i:Nat)(b:Bool):LI->LI->World->Prop:=
 match b with
 |false=>J i
 |true=>Jx
structure RI (J:Nat->LI->LI->World->Prop) (Jx:LI->LI->World->Prop) (E:Env) (SA SB:LI) (O:St) (i:Nat) (b:Bool) (Z:zh) (a:Act) (w:World):Prop where
 rel:Rel E O Z a w
 ds:E.ds=[]
 sa:∀b,SA b->E.Keep b
 sb:∀b,Own O.M Z b->SB b
 dj:∀b,SB b->¬SA b/\b<w.heap.size
 lt:∀b,SA b->b<w.heap.size
 j:Jt J Jx i b SA SB w
def zsj(J:Nat->LI->LI->World->Prop)(Jx:LI->LI->World->Prop)(Q:Ex->St->Nat->Bool->Prop):LF
 |.normal,a,w=>∃E SA SB O i b Z,Q .normal O i b/\RI J Jx E SA SB O i b Z a w
 |.exit id,a,w=>∃E SA SB O i b Z,Q (.exit id) O i b/\RI J Jx E SA SB O i b Z a w
 |.ret,a,w=>∃E SA SB O i b Z,Q .ret O i b/\RI J Jx E SA SB O i b Z a w
 |_,_,_=>False
variable{E:Env}{SA:LI}{SB:LI}{O:St}{O':St}{i:Nat}{b:Bool}{Z:zh}{a:Act}{w':World}
def RI.next{Z':zh}{r:Act}{w:World}(hS:∀i b SA SB SB' W W',Jt J Jx i b SA SB W->Mv SB SB' W W'->(∀b,SB' b->¬SA b/\b<W'.heap.size)->Jt J Jx i b SA SB' W')(h:RI J Jx E SA SB O i b Z a w)(k:Rel ⟨w,E.ρ0,E.Keep,Own O.M Z,E.ds⟩ O' Z' r w'):RI J Jx ⟨w,E.ρ0,E.Keep,Own O.M Z,E.ds⟩ SA (λb=>SB b∨Own O'.M Z' b) O' i b Z' r w':=by
 have e:=k.stp
 have o:∀b,(SB b∨Own O'.M Z' b)->¬SA b/\b<w'.heap.size:=λb d=>d.elim (λd=>⟨(h.dj b d).1,Xx (h.dj b d).2 e.size⟩)
  λf=>⟨λt=>(k.mem.old b f).2 (h.sa b t),(k.mem.old b f).1⟩
 refine⟨k,h.ds,h.sa,λ_ d=>.inr d,o,λb d=>Xx (h.lt b d) e.size,hS i b SA SB _ w w' h.j ⟨⟨e.os,e.tape,e.output,e.size,λb d u=>e.block b d λf=>u (h.sb b f),λb d=>?_,λ_ _ h=>h⟩,λg v s _=>k.mem.glc s⟩ o⟩;exact d.elim .inl λf=>(e.own b f).imp (h.sb b) id
def RI.sub{w:World}(hS:∀i b SA SB SB' W W',Jt J Jx i b SA SB W->Mv SB SB' W W'->(∀b,SB' b->¬SA b/\b<W'.heap.size)->Jt J Jx i b SA SB' W')(h:RI J Jx E SA SB O i b Z a w)(e:Sub O O'):∃E SB Z,RI J Jx E SA SB O' i b Z a w:=by
 obtain⟨Z',d⟩:=e _ Z a w h.rel.cut;exact⟨_,_,Z',h.next hS d⟩
def zx8{o:Oper}{c:Call}{t:Nat}(d:o.op=.call c)(f:c.callee=.value (.tmp t)){w:World}(g:a.eval (.tmp t)=.func (.yield l) #[] #[]){n:Next}{args:LA}(e:c.args.toList.map a.eval=args)(h:(Instr.yield l (List.toArray args)).run P w=.ok n w')(ro:LK):(o.semAt ro a.eval).run P w=.ok n w':=by
 rw[Oper.semAt_eq _ _ _ (by rw[d];intro c h;cases h)];have hmap:c.args.map a.eval=List.toArray args:=by apply Q1;simp[e]
 simp only[execOp,d,resolve,f,g,hmap,Deferred.ofValue,invoke,Sem.run_bind,Sem.run_pure,Result.andThen_ok]
 simpa using h
end
end it
section it
variable{P:Program}{I:LS}{α:Type}{enc:α->LR}{xs:List α}{l:Nat}{J:Nat->LI->LI->World->Prop}{Jx:LI->LI->World->Prop}
def zl3(J:Nat->LI->LI->World->Prop)(Jx:LI->LI->World->Prop):Prop:=
 ∀i b SA SB SB' W W',Jt J Jx i b SA SB W->Mv SB SB' W W'->(∀b,SB' b->¬SA b/\b<W'.heap.size)->Jt J Jx i b SA SB' W'
def ziR(P:Program)(l:Nat)(enc:α->LR)(xs:List α)(J:Nat->LI->LI->World->Prop)(Jx:LI->LI->World->Prop):Prop:=
 ∀i x SA SB W args,xs[i]?=some x->J i SA SB W->(∀b,SA b->b<W.heap.size)->(∀b,SB b->¬SA b/\b<W.heap.size)->(∀S,Ds S W (enc x) args)->
  YieldAt Fence.wide 0 P l (List.toArray args) W λe W'=>∃SA':LI,Mv SA SA' W W'/\(∀b,SA' b->¬SB b/\b<W'.heap.size)/\
   ((e=.returned (.bool true)/\J (i+1) SA' SB W')∨(e=.returned (.bool false)/\Jx SA' SB W'))
def zBn{L:LP}{o:Oper}(h:isY L o=true):∃c t d a b,o.op=.call c/\c.callee=.value (.tmp t)/\kw L t=some (.val (.func (.yield d) a b)):=by
 unfold isY at h
 split at h
 .rename_i c e
  split at h
  .rename_i t ht
   split at h
   .rename_i d a b f;exact⟨c,t,d,a,b,e,ht,f⟩
   cases h
  cases h
 cases h
def zx9{S S' Pm:LI}{Z:zh}{w w':World}{d:LR}{vs:LA}(g:uD.scalars d=true)(h:Gs S Pm Z w d vs):Ds S' w' d vs:=
 ⟨h.1,λj s v e f=>zaa (uZ g j s e) (h.2 j s v e f)⟩
def yo.round{F:Fence}(h:yo F){n:Nat}{f:FuncId}{tmps:Array Value}{assign body:Code}{w:World}{R:Ending->World->Prop}(g:RoundIn Fence.wide 0 P l f tmps assign body w R):RoundIn F n P l f tmps assign body w R:=
 ⟨h.fn f,λc d _=>let ⟨e,w',r,s⟩:=g.2 c d (room_wide _);⟨e,w',r,h.comes (comesIn_wide.1 s)⟩⟩
def zoh{F:Fence}(hF:yo F){n:Nat}(hT:TOK P I)(hS:zl3 J Jx)(hY:ziR P l enc xs J Jx){all:List Oper}{Q:Ex->St->Nat->Bool->Prop}:∀{r:List Oper} {j:Nat} {E:Env} {SA SB:LI} {O:St} {i:Nat} {b:Bool} {Z:zh} {a:Act} {w:World},y9 r=true->RI J Jx E SA SB O i b Z a w->
   zey P I l enc xs all r j O i b (Q .normal)->wpListIn F n P all.toArray (zsj J Jx Q) r a w
 |[],j,E,SA,SB,O,i,b,Z,a,w,_,y,h=>⟨E,SA,SB,O,i,b,Z,h,y⟩
 |o::r,j,E,SA,SB,O,i,b,Z,a,w,hd,y,h=>by
  have R:zsd o=true/\y9 r=true:=by unfold y9 at hd ⊢;rw[YS,XF]at hd;exact hd
  simp only[zey]at h
  split at h
  ·-- an operation like any other
   obtain⟨O',run,svs,s,md,X,hg,href,hdst,H⟩:=zg6 hT y.rel h;have X:zey P I l enc xs all r (j+1) (O'.app o.dst s md) i b (Q .normal):=X
   have g:Rel E O' Z a w:=by
    rcases href with rfl|⟨t,s0,s1,h2,h3,rfl⟩
    .exact y.rel
    exact y.rel.refine h2 h3
   have W:O'.nt=O.nt:=by rcases href with rfl|⟨t,s0,s1,h2,h3,rfl⟩ <;> rfl
   have hM:O'.M=O.M:=by rcases href with rfl|⟨t,s0,s1,h2,h3,rfl⟩ <;> rfl
   have N:RI J Jx E SA SB O' i b Z a w:=⟨g,y.ds,y.sa,λb D=>y.sb b (hM ▸ D),y.dj,y.lt,y.j⟩;have B:=g.cut;unfold wpListIn;rw[g.wanted hg]
   obtain⟨rfl,hst⟩|⟨rfl,rfl,rfl⟩:=H
   .simp only[if_true];refine hF.op (zgu R.1) ((hst.does B).wp λv w' ha=>?_);obtain⟨Z',C⟩:=B.app (λt e=>W ▸ hdst t e) ha;exact zoh hF hT hS hY R.2 (N.next hS C) X
   simp only[KJ,if_false];obtain⟨Z',C⟩:=B.app (λt e=>W ▸ hdst t e) (u0 B.mem);exact⟨λf _=>hF.fn f,zoh hF hT hS hY R.2 (N.next hS C) X⟩
  -- the call of yield
  rename_i hy;obtain⟨c,t,l',x0,y0,Y,hc,k⟩:=zBn hy;obtain⟨O',run,hg,g,⟨hM,W⟩,H⟩:=zsi h y.rel;have N:RI J Jx E SA SB O' i b Z a w:=⟨g,y.ds,y.sa,λb D=>y.sb b (hM ▸ D),y.dj,y.lt,y.j⟩;unfold wpListIn;rw[g.wanted hg]
  obtain⟨rfl,u⟩|⟨rfl,hskip⟩:=H
  .simp only[if_true];unfold zBl at u;rw[Y]at u;dsimp only at u
   cases b with
   |true=>exact u.elim
   |false=>
    dsimp only at u;obtain⟨svs,u,hev⟩:=zg4 u;obtain⟨U,x,hx,hsc,hle,hpM,u⟩:=u;have U:kw O'.L t=some (.val (.func (.yield l) #[] #[])):=by unfold yIs at U;rw[hc]at U;exact U
    have hval:=(g.regs t _ U).2.val_inv;obtain⟨hdst,u⟩:=qI u;have hgs:=hev (a:=a) (λt s _ hl=>(g.regs t s hl).2);have hargs:∀S,Ds S w (enc x) (c.args.toList.map a.eval):=λS=>zx9 hsc (hle.gs hgs)
    obtain⟨fn,tmps,assign,body,H,hR⟩:=hY i x SA SB w _ hx y.j y.lt y.dj hargs;refine⟨λf _=>hF.fn f,?_⟩;rw[zx8 Y hc hval rfl H];refine⟨hF.need,(hF.round hR).mono ?_⟩
    rintro e W' ⟨SA',T,hdis,hres⟩
    have fin:∀(v:Bool) (i':Nat) (b':Bool),Jt J Jx i' b' SA' SB W'->zey P I l enc xs all r (j+1) (O'.yput o.dst (.val (.bool v))) i' b' (Q .normal)->
      wpListIn F n P all.toArray (zsj J Jx Q) r (a.put o.dst (.bool v)) W':=by
     intro v i' b' hj hvc
     have hno:∀b,b<w.heap.size->¬(E.Keep b∨Own O'.M Z b)->¬((E.Keep b∨SA' b)∨Own O'.M Z b)/\W'.heap[b]?=w.heap[b]? :=λb D hn=>
      ⟨λhk=>hk.elim (λhk=>hk.elim (λhk=>hn (.inl hk)) λhs=>(T.own b hs).elim (λh=>hn (.inl (y.sa b h))) λhge=>by omega) λY=>hn (.inr Y),T.block b D λhs=>hn (.inl (y.sa b hs))⟩
     have hcl:∀t s,kw (zdl O'.L) t=some s->t<O'.nt/\G (λb=>(E.Keep b∨SA' b)∨Own O'.M Z b) (Own O'.M Z) Z W' s (a.tmps.getD t undef):=λt s k=>by
      obtain⟨s',hl'⟩:=zx7 k;refine⟨(g.regs t s' hl').1,?_⟩
      rcases zgv k with rfl|⟨X,h2⟩
      .exact .d _ _ (.junk _)
      exact(g.regs t s X).2.pf T.size hno h2
     have V:zI (λb=>E.Keep b∨SA' b) O'.M Z W':=
      (g.mem.few (K':=λb=>E.Keep b∨SA b) hpM λb D=>D.elim id (y.sa b)).other hpM T λb D=>⟨λY=>(hdis b D).1 (N.sb b Y),(hdis b D).2⟩
     have C:Rel ⟨W',E.ρ0,λb=>E.Keep b∨SA' b,Own O'.M Z,E.ds⟩ (O'.yput o.dst (.val (.bool v))) Z (a.put o.dst (.bool v)) W':=by
      refine⟨?_,?_,λt s k=>?_,V,g.fresh,⟨rfl,rfl,.refl _,Xj _,λ_ _ _=>rfl,λ_ h=>.inl h,g.stp.rho⟩,V.kp,g.low⟩
      .have:=g.size
       cases K:o.dst <;> simpa[Act.put,St.yput] using this
      .have:=g.defers
       cases K:o.dst <;> simpa[Act.put] using this
      cases K:o.dst with
      |none=>
       rw[K]at k;exact hcl t s k
      |some d=>
       rw[K]at k;have k:kw ((d,.val (.bool v))::zdl O'.L) t=some s:=k;rw[zV]at k;have hdlt:d<a.tmps.size:=by rw[g.size];exact hdst d K
       by_cases e:d=t
       .rw[Xe e]at k
        cases k
        refine⟨e ▸ hdst d K,?_⟩;rw[zg5 hdlt,Xe e];exact .d _ _ (.val _)
       rw[Xc e]at k;rw[zg5 hdlt,Xc e];exact hcl t s k
     refine zoh hF hT hS hY R.2 ⟨C,y.ds,λb D=>.inr D,N.sb,λb D=>⟨λhs=>(hdis b hs).1 D,Xx (y.dj b D).2 T.size⟩,λb D=>(hdis b D).2,hj⟩ hvc
    obtain⟨rfl,hj⟩|⟨rfl,hj⟩:=hres
    .exact fin true (i+1) false hj u.yes
    exact fin false i true hj u.no
  simp only[KJ,if_false];unfold zaM at hskip;obtain⟨hdst,hskip⟩:=qI hskip;have B:=g.cut;obtain⟨Z',C⟩:=B.app hdst (u0 B.mem);exact⟨λf _=>hF.fn f,zoh hF hT hS hY R.2 (N.next hS C) hskip⟩
def vd{F:Fence}(hF:yo F){n:Nat}(hT:TOK P I)(k:P.follows .mixedOrders=true)(hS:zl3 J Jx)(hY:ziR P l enc xs J Jx):
  ∀(c:Code) {E:Env} {SA SB:LI} {O:St} {i:Nat} {b:Bool} {Q:Ex->St->Nat->Bool->Prop} {Z:zh} {a:Act} {w:World},
   RI J Jx E SA SB O i b Z a w->zBm P I l enc xs c O i b Q->c.wpIn F n P (zsj J Jx Q) a w
 |.skip,E,SA,SB,O,i,b,Q,Z,a,w,d,h=>wpIn_skip ⟨E,SA,SB,O,i,b,Z,h,d⟩
 |.region id ops draw,E,SA,SB,O,i,b,Q,Z,a,w,d,h=>by
  cases draw with
  |false=>
   have h:(match y9 ops.toList with|false=>False|true=>zey P I l enc xs ops.toList ops.toList 0 O i b (Q .normal)):=h
   split at h
   .exact h.elim
   rename_i G;refine wpIn_region_list ?_;have:=zoh (n:=n) hF hT hS hY G d h
   simpa using this
  |true=>
   have h:(match y9 ops.toList with|false=>False|true=>YDr (js P I (.region id ops true) O (λe O=>match e with|.normal=>Q .normal O i b|_=>False)) (λm=>Ob (yp (y9 ops.toList) (yp (zof ops.toList m) (vz (ops.toList.take m)))=true)
     (vh P I true (ops.toList.take m) (ops.toList.take m) 0 O λO=>zey P I l enc xs ops.toList (ops.toList.drop m) m O i b (Q .normal)))):=h
   split at h
   .exact h.elim
   rename_i N
   rcases h with h|⟨m,h⟩
   .refine wpIn_mono (zn9 hF hT k N d.rel.cut h) (λe r w' f=>?_)
    cases e with
    |normal=>obtain⟨O',Z',f,g⟩:=f;exact⟨_,SA,_,O',i,b,Z',f,d.next hS g⟩
    |exit id=>obtain⟨O',Z',f,g⟩:=f;exact f.elim
    |ret=>obtain⟨O',Z',f,g⟩:=f;exact f.elim
    |_=>exact f.elim
   obtain⟨L,h⟩:=h;obtain⟨G,L⟩:=kr L;obtain⟨ht,hord⟩:=kr L;refine zsh hF k hT G ht d.rel.cut hord h λO' Z' r w' hk g=>?_
   have M:y9 (ops.toList.drop m)=true:=XY.2 λo ho=>XY.1 G o (K5 ho)
   have:=zoh (n:=n) hF hT hS hY M (d.next hS g) hk
   simpa using this
 |.seq x y,E,SA,SB,O,i,b,Q,Z,a,w,d,h=>by
  refine wpIn_seq (wpIn_mono (vd hF hT k hS hY x d h) (λe r w' f=>?_))
  cases e with
  |normal=>obtain⟨E',SA',SB',O',K,u,Z',v,g⟩:=f;exact vd hF hT k hS hY y g v
  |exit id=>exact f
  |ret=>exact f
  |_=>exact f.elim
 |.cond c x y,E,SA,SB,O,i,b,Q,Z,a,w,d,h=>by
  obtain⟨s,h,hs⟩:=zc8 h;have C:=hs (a:=a) (λt s _ hl=>(d.rel.regs t s hl).2)
  split at h
  .exact wpIn_cond_true C.val_inv (vd hF hT k hS hY x d h)
  .exact wpIn_cond_false C.val_inv (vd hF hT k hS hY y d h)
  .rename_i p ip
   by_cases H:p
   .exact wpIn_cond_true (by rw[C.pr_inv];simp[H]) (vd hF hT k hS hY x d (h.yes H))
   exact wpIn_cond_false (by rw[C.pr_inv];simp[H]) (vd hF hT k hS hY y d (h.no H))
  .obtain⟨u,B⟩:=C.anyb_inv
   cases u with
   |true=>exact wpIn_cond_true B (vd hF hT k hS hY x d h.yes)
   |false=>exact wpIn_cond_false B (vd hF hT k hS hY y d h.no)
  exact h.elim
 |.block id c,E,SA,SB,O,i,b,Q,Z,a,w,d,h=>by
  refine wpIn_block (wpIn_mono (vd hF hT k hS hY c d h) (λe r w' f=>?_))
  cases e with
  |normal=>exact f
  |exit j=>
   obtain⟨E',SA',SB',O',K,u,Z',v,g⟩:=f;dsimp only at v;show(if j=id then zsj J Jx Q .normal r w' else zsj J Jx Q (.exit j) r w')
   split at v
   .rename_i B;rw[Xe (Xk B)];exact⟨E',SA',SB',O',K,u,Z',v,g⟩
   rename_i B;rw[Xc (KR B)];exact⟨E',SA',SB',O',K,u,Z',v,g⟩
  |ret=>exact f
  |_=>exact f.elim
 |.loop c,E,SA,SB,O,i,b,Q,Z,a,w,d,h=>by
  obtain⟨ι,S,T,Vd,μ,x0,h0,D,rfl,rfl,hround⟩:=h;obtain⟨E0,SB0,Y,U⟩:=d.sub hS D;refine zaU (λn a w=>∃x E SA SB Z,Vd x/\μ x=n/\RI J Jx E SA SB (S x) (T x) false Z a w) (μ x0) ⟨x0,E0,SA,SB0,Y,h0,rfl,U⟩ λn a w hI=>?_
  obtain⟨x,E1,SA1,SB1,Z1,h1,rfl,V⟩:=hI;refine wpIn_mono (vd hF hT k hS hY c V (hround x h1)) (λe r w' f=>?_)
  cases e with
  |normal=>
   obtain⟨E2,SA2,SB2,O',K,u,Z',⟨x',h2,X,rfl,rfl,R⟩,g⟩:=f;obtain⟨E3,SB3,Z3,W⟩:=g.sub hS X;exact⟨μ x',R,x',E3,SA2,SB3,Z3,h2,rfl,W⟩
  |exit id=>exact f
  |ret=>exact f
  |_=>exact f.elim
 |.exit id,E,SA,SB,O,i,b,Q,Z,a,w,d,h=>wpIn_exit ⟨E,SA,SB,O,i,b,Z,h,d⟩
 |.ret,E,SA,SB,O,i,b,Q,Z,a,w,d,h=>wpIn_ret ⟨E,SA,SB,O,i,b,Z,h,d⟩
 |.rangeFunc _ _ _ _,_,_,_,_,_,_,_,_,_,_,_,h=>by cases h
 |.scope _,_,_,_,_,_,_,_,_,_,_,_,h=>by cases h
 |.label _,E,SA,SB,O,i,b,Q,Z,a,w,d,h=>wpIn_label ⟨E,SA,SB,O,i,b,Z,h,d⟩
 |.goto _,_,_,_,_,_,_,_,_,_,_,_,h=>by cases h
 |.refuse _,_,_,_,_,_,_,_,_,_,_,_,h=>by cases h
def endI(n:Nat)(e:Ex)(_:St)(i:Nat)(b:Bool):Prop:=
 match e with
 |.exit _=>False
 |_=>b=true∨i=n
def zkj(hT:TOK P I)(V:P.follows .mixedOrders=true){f:FuncId}{fn:Func}{c:Code}{caps:LR}(N:P.funcs[f]?=some fn)(t:fn.body=some c)(X:(fn.name== "runtime.NumGoroutine")=false)
  (K:Nat.ble (caps.length+1) fn.ntmps=true) (hres:fn.results=#[]) (h:∀l:Nat,zBm P I l enc xs c ⟨qG 0 (.val (.func (.yield l) #[] #[])::caps),[],0,fn.ntmps,0⟩ 0 false (endI xs.length)):zfY P f caps enc xs:=by
 refine⟨⟨fn,N,X,by rw[t];rfl⟩,λSA w vs l J Jx y H g hSJ hSX hY T=>?_⟩;refine callsIn_of_wp_marks N t trivial ?_ rfl
 have C:=yU (Keep:=SA) (M:=[]) (Z:=λ_=>none) (w:=w) (args:=.val (.func (.yield l) #[] #[])::caps) (vs:=.func (.yield l) #[] #[]::vs) (nt:=fn.ntmps) (qu y H) (λ_ _=>rfl)
  ⟨by simp[g.1],λj s v R S=>by
   cases j with
   |zero=>cases R;cases S;exact .d _ _ (.val _)
   |succ j=>exact .d _ _ ((g.2 j s v (by simpa using R) (by simpa using S)).less λb t=>t.resolve_right zK)⟩ (by simpa using Xw K)
 have L:RI J Jx ⟨w,λ_=>none,SA,Own [] (λ_=>none),[]⟩ SA (λ_=>False) _ 0 false _ _ w:=⟨C,rfl,λ_ h=>h,λ_ t=>absurd t zK,λ_ h=>h.elim,y,T⟩
 have hS:zl3 J Jx:=λi b SA SB SB' W W' r B D=>by
  cases b with
  |false=>exact hSJ i SA SB SB' W W' r B D
  |true=>exact hSX SA SB SB' W W' r B D
 refine wpIn_mono (vd yo.wide hT V hS (λi x SA SB W args Y r hA hB U=>hY i x SA SB W args Y r hA hB (U _)) c L (h l)) (λe G w' k=>?_)
 have u:∀{E SA SB O i b Z},RI J Jx E SA SB O i b Z G w'->(b=true∨i=xs.length)->LeavesInM Fence.wide 0 P fn G.tmps (λe W'=>(∃v,e=.returned v)/\∃SA' SB',J xs.length SA' SB' W'∨Jx SA' SB' W') G.defers .returning w':=by
  intro E SA SB O i b Z o D;rw[o.rel.defers,o.ds];refine⟨.tuple #[],by unfold results;rw[hres];simp,⟨_,rfl⟩,SA,SB,?_⟩;have r:=o.j
  cases b with
  |true=>exact .inr r
  |false=>
   obtain rfl:=D.resolve_left sI;exact .inl r
 cases e with
 |normal=>obtain⟨E,SA,SB,O,i,b,Z,k,o⟩:=k;exact u o k
 |ret=>obtain⟨E,SA,SB,O,i,b,Z,k,o⟩:=k;exact u o k
 |exit id=>obtain⟨E,SA,SB,O,i,b,Z,k,o⟩:=k;exact k.elim
 |_=>exact k.elim
end it
open Go.Proofs
section
def ptA(p:Pt):LR:=[wk p]
def zwd(F:FuncId)(d:LR)(n:Int):CG0 363 [i64 n,.fn F [.dptr d,.loc 0 0]] [(0,.box 3 [i64 n])]
  (.dfn 423 [.dptr [i64 n],.dptr [.dfn F [.dptr d,.dptr [i64 n]]]]) []:=by
 exact zjN 3 tok mix func363 rfl rfl rfl<|.refl
def zEd{f:Int->Pt}{n k:Nat}(h:k<n):(zcG f n)[k]?=some (f ((k:Int)+1)):=by
 unfold zcG;rw[XD,KV h];rfl
def zaE(f:Int->Pt)(n:Nat):(zcG f n).length=n:=by unfold zcG;simp
def zoi(f:Int->Pt)(n:Nat):zcG f (n+1)=zcG f n++[f ((n:Int)+1)]:=by
 unfold zcG;rw[KH,Xz];rfl
def zsk(F:FuncId)(d:LR)(n:Int)(f:Int->Pt)(j:0<=n/\n<=64)(h:∀i:Nat,i<n.toNat->CX F [i64 ((i:Int)+1),.dptr d,.dptr [i64 n]] (wk (f ((i:Int)+1)))):
  zfY prog 423 [.dptr [i64 n],.dptr [.dfn F [.dptr d,.dptr [i64 n]]]] ptA (zcG f n.toNat):=by
 refine zkj (caps:=[.dptr [i64 n],.dptr [.dfn F [.dptr d,.dptr [i64 n]]]]) (enc:=ptA) (xs:=zcG f n.toNat) tok mix func423 rfl rfl rfl rfl (λl=>?_);refine⟨Nat,λk=>⟨[(0,.val (.func (.yield l) #[] #[])),(1,.dptr [i64 n]),(2,.dptr [.dfn F [.dptr d,.dptr [i64 n]]]),(4,i64 ((k:Int)+1))],[],0,16,0⟩,λk=>k,λk=>k<=n.toNat,λk=>n.toNat-k,0,?_,?_,rfl,rfl,?_⟩
 .exact Xh _
 .exact zB []
 rintro k e
 refine⟨λg:(k:Int)+1<=n=>?_,λg:¬(k:Int)+1<=n=>?_⟩
 .refine wg (h k oM)<|⟨rfl,f ((k:Int)+1),zEd (show k<n.toNat by omega),rfl,.C .nil,(λ_ _ h=>by cases h),?_⟩;refine Br.mk ?_ ?_
  .refine wa ?_;refine⟨k+1,oM,jv [] ⟨rfl,rfl,rfl,iR oM,tV⟩ trivial,rfl,rfl,oN⟩
  exact .inl rfl
 exact .inr (by rw[zaE];show k=n.toNat;omega)
def zFW(caps:LR)(xs:LU)(h:zfY prog 423 caps ptA xs)(g:xs.length<=4096):CX 362 [.dfn 423 caps] (.sl ptE xs):=by
 refine vn 1 tok mix func362 rfl rfl rfl ?_
 refine⟨Pt,ptA,xs,1,[(3,.loc 0 0)],λj=>[(0,.box 156 [.own 1]),(1,.arr 28 ptE 2 (xs.take j))],λ_=>2,h,λ_=>rfl,⟨rfl,rfl,rfl,rfl⟩,
  zB [(0,some 0),(1,none)],⟨Xh _,rfl⟩,λj=>?_,?_,?_⟩
 .intro k m d;simp only[XA,XW,or_false,KN]at d
  obtain⟨_,rfl⟩|⟨_,rfl⟩:=d
  .rfl
  trivial
 .intro j y f _;have e:(xs.take j).length<=4096:=by rw[Xp];omega
  refine⟨Pt,ptE,[y],rfl,wb0 ?_⟩;refine⟨[y],rfl,wb4 ?_⟩;exact zt [0,4] ⟨rfl,aR (by rw[Xn,f];rfl),tV⟩
 refine λ_=>z6 ?_
 exact Kc
def zya(a b c:Pt)(i n:Int):CX 364 [i64 i,.dptr (ptE a++ptE b++ptE c),.dptr [i64 n]] (wk (y6 a b c i n)):=by
 exact zc func364<|wg (zBd a b c i n)<|.refl
variable{a:Pt}{b:Pt}{c:Pt}{tol:Int}
def zl4(h:(j9 a b c tol).2=0):zdJ a b c tol=(zcG (λi=>y6 a b c i (j9 a b c tol).1) (j9 a b c tol).1.toNat,0):=by
 unfold zdJ;rw[qP h]
def ziS(h:¬(j9 a b c tol).2=0):zdJ a b c tol=([],(j9 a b c tol).2):=by
 unfold zdJ;rw[Xe h]
def zsl(c:LU×Int):SV:=.tup [.sl ptE c.1,i64 c.2]
def ziT{c:LU×Int}{a:LU}{b:Int}(h:c=(a,b)):LE (.tup [.sl ptE a,i64 b]) (zsl c):=by subst h;exact .refl
def zkk{c:LU×Int}{b:Int}(h:c=([],b)):LE (.tup [nS,i64 b]) (zsl c):=by subst h;exact zP zD .refl
def zHl(a b c:Pt)(tol:Int)(d:zm a)(f:zm b)(g:zm c):CX 307 [.agg (ptE a++ptE b++ptE c),i64 tol] (zsl (zdJ a b c tol)):=by
 refine zc func307<|zgQ.data<|wg (zx3 a b c tol d f g)<|⟨λk=>?_,λk=>?_⟩
 .exact zkk (ziS k)
 have k:(j9 a b c tol).2=0:=Xa.1 k;have ok:=(yX (show(k8 _ tol _).2=0 from k)).1;have ok:1<=(j9 a b c tol).1/\(j9 a b c tol).1<=64:=ok;have e:=zl4 k;generalize (j9 a b c tol).1=n at*;refine zb.give [0] 0 [i64 n,.fn 364 [.dptr (ptE a++ptE b++ptE c),.loc 0 0]] [(0,.box 3 [i64 n])] [] _ (zwd 364 (ptE a++ptE b++ptE c) n) LEs.refl rfl rfl rfl ⟨⟨_,rfl,rfl,rfl⟩,tV⟩ rfl trivial<|wg (zFW _ _ (zsk 364 (ptE a++ptE b++ptE c) n (λi=>y6 a b c i n) oM (λi _=>zya a b c ((i:Int)+1) n)) (by rw[zaE];omega)) ?_
 exact ziT e
def zHm(a b c:Pt)(tol:Int):CX 345 [.agg (ptE a++ptE b++ptE c),i64 tol] (zsl (zdJ a b c tol)):=by
 refine zc func345<|zgQ.data<|wg (zx4 a b c tol)<|⟨λk=>?_,λk=>?_⟩
 .exact zkk (ziS k)
 have k:(j9 a b c tol).2=0:=Xa.1 k;have ok:=(yX (show(k8 _ tol _).2=0 from k)).1;have ok:1<=(j9 a b c tol).1/\(j9 a b c tol).1<=64:=ok;have e:=zl4 k;generalize (j9 a b c tol).1=n at*;refine⟨Pt,ptE,[],rfl,wb2 ?_⟩;refine⟨Nat,λi=>⟨[(2,.dptr (ptE a++ptE b++ptE c)),(6,i64 n),(8,.own 0),(9,i64 ((i:Int)+1))],[(0,.arr 28 ptE 2 (zcG (λi=>y6 a b c i n) i))],1,33,0⟩,λi=>i<=n.toNat,λi=>n.toNat-i,0,?_,?_,?_⟩
 .exact Xh _
 .exact zf [0]
 rintro i hi
 have d:=zaE (λi=>y6 a b c i n) i;refine⟨λg:(i:Int)+1<=n=>?_,λg:¬(i:Int)+1<=n=>?_⟩
 .refine wg (zBe a b c ((i:Int)+1) n)<|⟨Pt,ptE,[y6 a b c ((i:Int)+1) n],rfl,wb0 ?_⟩;refine⟨[y6 a b c ((i:Int)+1) n],rfl,Ob.mk ⟨(by show _*(16:Int)<=_;simp only[d,Xm,Xo];omega),(by simp only[d,Xm,Xo];omega),dC,λ_ _=>rfl⟩ ?_⟩;refine wa ?_;refine⟨i+1,oM,zQ [2] ⟨rfl,rfl,rfl,iR oM,tV⟩ ⟨aR (zoi _ _).symm,tV⟩,oN⟩
 have hi:i=n.toNat:=oM;subst hi;exact ziT e
def zyb(a b c d:Pt)(i n:Int):CX 367 [i64 i,.dptr (ptE a++ptE b++ptE c++ptE d),.dptr [i64 n]] (wk (y7 a b c d i n)):=by
 exact zc func367<|wg (zBf a b c d i n)<|.refl
def zl5{d:Pt}(h:(ya a b c d tol).2=0):zdK a b c d tol=(zcG (λi=>y7 a b c d i (ya a b c d tol).1) (ya a b c d tol).1.toNat,0):=by
 unfold zdK;rw[qP h]
def ziU{d:Pt}(h:¬(ya a b c d tol).2=0):zdK a b c d tol=([],(ya a b c d tol).2):=by
 unfold zdK;rw[Xe h]
def zHn(a b c d:Pt)(tol:Int)(f:zm a)(g:zm b)(h:zm c)(j:zm d):CX 308 [.agg (ptE a++ptE b++ptE c++ptE d),i64 tol] (zsl (zdK a b c d tol)):=by
 refine zc func308<|zgQ.data<|wg (zx5 a b c d tol f g h j)<|⟨λk=>?_,λk=>?_⟩
 .exact zkk (ziU k)
 have k:(ya a b c d tol).2=0:=Xa.1 k;have ok:=(yX (show(k8 _ tol _).2=0 from k)).1;have ok:1<=(ya a b c d tol).1/\(ya a b c d tol).1<=64:=ok;have e:=zl5 k;generalize (ya a b c d tol).1=n at*;refine zb.give [0] 0 [i64 n,.fn 367 [.dptr (ptE a++ptE b++ptE c++ptE d),.loc 0 0]] [(0,.box 3 [i64 n])] [] _ (zwd 367 (ptE a++ptE b++ptE c++ptE d) n) LEs.refl rfl rfl rfl ⟨⟨_,rfl,rfl,rfl⟩,tV⟩ rfl trivial ?_
 exact wg (zFW _ _ (zsk 367 (ptE a++ptE b++ptE c++ptE d) n (λi=>y7 a b c d i n) oM (λi _=>zyb a b c d ((i:Int)+1) n)) (by rw[zaE];omega))<|ziT e
def zHo(a b c d:Pt)(tol:Int):CX 346 [.agg (ptE a++ptE b++ptE c++ptE d),i64 tol] (zsl (zdK a b c d tol)):=by
 refine zc func346<|zgQ.data<|wg (zx6 a b c d tol)<|⟨λk=>?_,λk=>?_⟩
 .exact zkk (ziU k)
 have k:(ya a b c d tol).2=0:=Xa.1 k;have ok:=(yX (show(k8 _ tol _).2=0 from k)).1;have ok:1<=(ya a b c d tol).1/\(ya a b c d tol).1<=64:=ok;have e:=zl5 k;generalize (ya a b c d tol).1=n at*;refine⟨Pt,ptE,[],rfl,wb2 ?_⟩;refine⟨Nat,λi=>⟨[(2,.dptr (ptE a++ptE b++ptE c++ptE d)),(6,i64 n),(8,.own 0),(9,i64 ((i:Int)+1))],[(0,.arr 28 ptE 2 (zcG (λi=>y7 a b c d i n) i))],1,33,0⟩,λi=>i<=n.toNat,λi=>n.toNat-i,0,?_,?_,?_⟩
 .exact Xh _
 .exact zf [0]
 rintro i hi
 have f:=zaE (λi=>y7 a b c d i n) i;refine⟨λg:(i:Int)+1<=n=>?_,λg:¬(i:Int)+1<=n=>?_⟩
 .refine wg (zBg a b c d ((i:Int)+1) n)<|⟨Pt,ptE,[y7 a b c d ((i:Int)+1) n],rfl,wb0 ?_⟩;refine⟨[y7 a b c d ((i:Int)+1) n],rfl,Ob.mk ⟨(by show _*(16:Int)<=_;simp only[f,Xm,Xo];omega),(by simp only[f,Xm,Xo];omega),dC,λ_ _=>rfl⟩ ?_⟩;refine wa ?_;refine⟨i+1,oM,zQ [2] ⟨rfl,rfl,rfl,iR oM,tV⟩ ⟨aR (zoi _ _).symm,tV⟩,oN⟩
 have hi:i=n.toNat:=oM;subst hi;exact ziT e
variable{α:Type _}{A:List α}{z:α}
def zuv{y:α}{n:Nat}(h:(A++[z])[n]?=some y)(d:n=A.length):y=z:=by
 subst d;simp at h;exact h.symm
def zkl{w:α}{n:Nat}(d:n=A.length):(A++[z]).set n w=A++[w]:=by
 subst d;simp
def jR(cl:LZ)(k:Nat)(b:SV):LN:=cl.map plE++[[SV.own k,b]]
def zaF(cl:LZ)(k:Nat)(b:SV):(jR cl k b).length=cl.length+1:=by unfold jR;simp
def zsm(ks:LC)(Y:Nat)(cl:LZ)(k:Nat)(p:Prop)(i:Decidable p):(jR cl k (.pr p i)).map (vr.rens ks Y)=jR cl (rn ks Y k) (.pr p i):=by
 unfold jR;rw[Xz,Yu];rfl
def zBo{n k:Nat}(h:Nat.blt k n=true)(cl:LZ)(p:Prop)(i:Decidable p):∀x∈jR cl k (.pr p i),uf.lows n x=true:=λx d=>by
 rcases Xu.1 d with d|d
 .obtain⟨q,_,rfl⟩:=XK.1 d;rfl
 rw[Xt.1 d];simp only[uf.lows,uf,h]
def zBp{n k:Nat}(h:Nat.blt k n=true)(cl:LZ)(p:Prop)(i:Decidable p):∀x∈jR cl k (.pr p i),za4.outs n x=true:=λx d=>by
 rcases Xu.1 d with d|d
 .obtain⟨q,_,rfl⟩:=XK.1 d;rfl
 rw[Xt.1 d];simp only[za4.outs,za4,h]
def zau{tb:List (Nat×Option Nat)}{cl:LZ}{a b:Nat}{p:Prop}{i:Decidable p}(h:zbw tb b=some (some a)):
  (jR cl a (.pr p i)).length=(jR cl b (.pr p i)).length/\∀(j:Nat) x,(jR cl b (.pr p i))[j]?=some x->∃x',(jR cl a (.pr p i))[j]?=some x'/\ren.rens tb x=some x':=by
 refine⟨by rw[zaF,zaF],λj x d=>?_⟩;unfold jR at d ⊢;rw[X9]at d
 split at d
 .rename_i hi;rw[XD]at d
  cases e:cl[j]? with
  |none=>simp[e]at d
  |some y=>
   simp[e]at d;subst d;exact⟨plE y,by rw[XN hi,XD,e];rfl,rfl⟩
 rename_i hi
 have f:j-(cl.map plE).length=0:=by
  have:=(Xd.1 d).1;simp at this;simp at hi ⊢;omega
 rw[f]at d;simp at d;subst d;refine⟨[.own a,.pr p i],by rw[XG oM,f];rfl,?_⟩;simp only[ren.rens,ren,h]
def zhA(q:LU)(x:Pt):(y8 q x).length<=q.length+1:=by
 unfold y8;split
 .omega
 simp
def vL:∀(more q:LU),(kz q more).length<=q.length+more.length
 |[],q=>by simp[kz]
 |x::r,q=>by
  have d:=vL r (y8 q x);have f:=zhA q x;have e:kz q (x::r)=kz (y8 q x) r:=rfl;rw[e,Xm];omega
def ziV{q more:LU}{i:Nat}{x:Pt}(h:more[i]?=some x):kz q (more.take (i+1))=y8 (kz q (more.take i)) x:=by
 unfold kz;rw[Xn,h];simp[KX]
variable{q:LU}{x:Pt}
def zpZ{z:Pt}(h:q[q.length-1]?=some z)(e:z=x):y8 q x=q:=by
 unfold y8;rw[K9,h,e,Xe rfl]
def zkm{z:Pt}(h:q[q.length-1]?=some z)(e:¬z=x):y8 q x=q++[x]:=by
 unfold y8;rw[K9,h,Xc (λk=>e (Xl k))]
def zp0(h:q.length=0):y8 q x=q++[x]:=by
 rw[Xq h];rfl
def zHp(cl:LZ)(q more:LU)(B:Prop)[iB:Decidable B](D:q.length<=100000)(C:more.length<=64)(r:cl.length<=300):
  CG0 245 [.eloc 0 2 (cl.length:Int) 0,.sl ptE more] [(0,.garr 191 2 (jR cl 1 (pr B))),(1,.arr 28 ptE 2 q)] (.tup [])
   [(0,.garr 191 2 (jR cl 2 (pr B))),(2,.arr 28 ptE 2 (kz q more))]:=by
 refine uk tok mix func245 rfl rfl rfl λs=>?_
 refine⟨Nat,λi=>⟨[(0,.eloc 0 2 (cl.length:Int) 0),(7,.sl ptE more),(8,i64 more.length),(9,i64 i)],
   [(0,.garr 191 2 (jR cl 2 (pr B))),(2,.arr 28 ptE 2 (kz q (more.take i)))],3,43,2⟩,λi=>i<=more.length,λi=>more.length-i,0,?_,?_,?_⟩
 .exact Xh _
 .exact zt [0,1,1] ⟨⟨_,rfl,zau rfl⟩,rfl,tV⟩
 rintro i hi
 have j:=vL (more.take i) q;rw[Xp]at j;have d:∀{y:LR} {k:Nat} {b:SV},(jR cl k b)[(cl.length:Int).toNat]?=some y->y=[.own k,b]:=λh=>zuv h sI
 have o:(cl.length:Int).toNat=(cl.map plE).length:=by simp
 have hset:∀(k:Nat) (b:SV) (w:LR),(jR cl k b).set (cl.length:Int).toNat w=cl.map plE++[w]:=λk b w=>by unfold jR;exact zkl o
 have hrow:0<=(cl.length:Int)/\(cl.length:Int)<(jR cl 2 (pr B)).length:=by rw[zaF];omega
 refine⟨λg:(i:Int)<more.length=>?_,λg:¬(i:Int)<more.length=>?_⟩
 .refine wb λx(v:more[i]?=some x)=>?_;have e:=ziV (q:=q) v;refine Ob.mk hrow λy f=>?_;obtain rfl:=d f;intro u
  have yes:kz q (more.take (i+1))=(kz q (more.take i))++[x]->∀{O:St},Sub O ⟨[(0,.eloc 0 2 (cl.length:Int) 0),(7,.sl ptE more),(8,i64 more.length),(9,i64 ((i+1:Nat):Int))],
    [(0,.garr 191 2 (jR cl 2 (pr B))),(2,.arr 28 ptE 2 ((kz q (more.take i))++[x]))],3,43,2⟩->Sub O ⟨[(0,.eloc 0 2 (cl.length:Int) 0),(7,.sl ptE more),(8,i64 more.length),(9,i64 ((i+1:Nat):Int))],
    [(0,.garr 191 2 (jR cl 2 (pr B))),(2,.arr 28 ptE 2 (kz q (more.take (i+1))))],3,43,2⟩:=λh O k=>by rw[h];exact k
  refine wd<|Br.mk (λz=>?_) (λz=>?_)
  .have z:((kz q (more.take i)).length:Int)=0:=z;refine wh<|wd<|Ob.mk hrow λy f=>?_;obtain rfl:=d f;refine⟨Pt,ptE,[x],rfl,wb0 ?_⟩;refine⟨[x],rfl,wb4 ?_⟩;refine Ob.mk hrow λy f=>?_;obtain rfl:=d f;refine wh<|wa ?_;refine⟨i+1,oM,yes (by rw[e,zp0 oM]) (zt [0,1,5] ⟨⟨_,Xg (λq=>some (Mem.garr 191 2 q)) (hset _ _ _),zau rfl⟩,rfl,tV⟩),oN⟩
  have z:¬((kz q (more.take i)).length:Int)=0:=z;refine Ob.mk hrow λy f=>?_;obtain rfl:=d f;refine wa<|wb<|wb λt ht=>?_
  have ht:(kz q (more.take i))[(kz q (more.take i)).length-1]?=some t:=by
   have ht:(kz q (more.take i))[(((kz q (more.take i)).length:Int)-1).toNat]?=some t:=ht
   rwa [show(((kz q (more.take i)).length:Int)-1).toNat=(kz q (more.take i)).length-1 by omega]at ht
  refine wh<|⟨λk=>?_,λk=>?_⟩
  .have k:¬t=x:=λh=>k (qp.2 h)
   refine wd<|Ob.mk hrow λy f=>?_;obtain rfl:=d f;refine⟨Pt,ptE,[x],rfl,wb0 ?_⟩;refine⟨[x],rfl,wb4 ?_⟩;refine Ob.mk hrow λy f=>?_;obtain rfl:=d f;refine wh<|wa ?_;refine⟨i+1,oM,yes (by rw[e,zkm ht k]) (zt [0,1,5] ⟨⟨_,Xg (λq=>some (Mem.garr 191 2 q)) (hset _ _ _),zau rfl⟩,rfl,tV⟩),oN⟩
  have k:t=x:=qp.1 (Xa.1 k);refine wa ?_;refine⟨i+1,oM,zt [0,1,2] ⟨⟨_,rfl,zau rfl⟩,aR (by rw[e,zpZ ht k]),tV⟩,oN⟩
 have e:more.take i=more:=Xi oM;exact⟨_,.refl,Xg (λl=>[(0,Mem.garr 191 2 (jR cl 2 (pr B))),(2,Mem.arr 28 ptE 2 (kz q l))]) e,.refl⟩
def zHq(q more:LU)(v:q.length<=100000)(u:more.length<=64):
  CG0 289 [.own 0,.sl ptE more] [(0,.arr 28 ptE 2 q)] (.own 1) [(1,.arr 28 ptE 2 (kz q more))]:=by
 refine uk tok mix func289 rfl rfl rfl<|⟨Nat,λi=>⟨[(0,.own 1),(1,.sl ptE more),(5,i64 i)],[(1,.arr 28 ptE 2 (kz q (more.take i)))],2,36,1⟩,λi=>i<=more.length,λi=>more.length-i,0,?_,?_,?_⟩
 .exact Xh _
 .exact zf [0,0]
 rintro i hi
 have d:=vL (more.take i) q;rw[Xp]at d;intro o;refine⟨λg:(i:Int)<more.length=>?_,λg:¬(i:Int)<more.length=>?_⟩
 .obtain⟨x,j⟩:∃x,more[i]?=some x:=⟨_,Xb oM⟩;have e:=ziV (q:=q) j;have same:∀{y:Pt},more[(i:Int).toNat]?=some y->y=x:=λh=>Xl ((show more[i]?=some _ from h).symm.trans j)
  refine wd λr=>?_;refine⟨λz:((kz q (more.take i)).length:Int)=0=>?_,λz:¬((kz q (more.take i)).length:Int)=0=>?_⟩
  .refine wh<|wb λy f=>?_;rw[same f];refine⟨Pt,ptE,[x],rfl,wb0 ?_⟩;refine⟨[x],rfl,wb4 ?_⟩;refine wa ?_;refine⟨i+1,oM,zt [0,3] ⟨aR (by rw[e,zp0 oM]),tV⟩,oN⟩
  intro s;refine wa<|wb<|wb λt ht=>?_
  have ht:(kz q (more.take i))[(kz q (more.take i)).length-1]?=some t:=by
   have ht:(kz q (more.take i))[(((kz q (more.take i)).length:Int)-1).toNat]?=some t:=ht
   rwa [show(((kz q (more.take i)).length:Int)-1).toNat=(kz q (more.take i)).length-1 by omega]at ht
  refine wb λy f=>?_;rw[same f];refine wh<|⟨λk=>?_,λk=>?_⟩
  .have k:¬t=x:=λh=>k (qp.2 h)
   refine wb λy f=>?_;rw[same f];refine⟨Pt,ptE,[x],rfl,wb0 ?_⟩;refine⟨[x],rfl,wb4 ?_⟩;refine wa ?_;refine⟨i+1,oM,zt [0,3] ⟨aR (by rw[e,zkm ht k]),tV⟩,oN⟩
  have k:t=x:=qp.1 (Xa.1 k);refine wa ?_;refine⟨i+1,oM,zt [0,1] ⟨aR (by rw[e,zpZ ht k]),tV⟩,oN⟩
 have e:more.take i=more:=Xi oM;exact⟨_,.refl,Xg (λl=>[(1,Mem.arr 28 ptE 2 (kz q l))]) e,.refl⟩
variable{p:Pt}
def zsn{s:Sg}(h:s.v=3):kN p s tol=zdJ p s.a s.b tol:=by unfold kN;rw[Xe h]
def zso{s:Sg}(d:¬s.v=3)(h:s.v=4):kN p s tol=zdK p s.a s.b s.c tol:=by unfold kN;rw[Xc d,Xe h]
def zsp{s:Sg}(d:¬s.v=3)(h:¬s.v=4):kN p s tol=([s.a],0):=by unfold kN;rw[Xc d,Xc h]
def p_seg(p:Pt)(s:Sg)(tol:Int)(g:zm p)(e:zm s.a/\zm s.b/\zm s.c):CX 244 [wk p,.agg (sgE s),i64 tol] (zsl (kN p s tol)):=by
 refine zc func244<|Br.mk (λd=>?_) (λd=>?_)
 .have d:s.v=3:=d;refine wg (zHl p s.a s.b tol g e.1 e.2.1) ?_;rw[zsn d];exact .refl
 have d:¬s.v=3:=d;refine⟨λf:s.v=4=>?_,λf:¬s.v=4=>?_⟩
 .refine wg (zHn p s.a s.b s.c tol g e.1 e.2.1 e.2.2) ?_;rw[zso d f];exact .refl
 refine⟨Pt,ptE,[s.a],rfl,wb0 ?_⟩;exact ziT (zsp d f)
def r_seg(p:Pt)(s:Sg)(tol:Int):CX 288 [wk p,.agg (sgE s),i64 tol] (zsl (kN p s tol)):=by
 refine zc func288<|Br.mk (λd=>?_) (λd=>?_)
 .have d:s.v=3:=d;refine wg (zHm p s.a s.b tol) ?_;rw[zsn d];exact .refl
 have d:¬s.v=3:=d;refine⟨λe:s.v=4=>?_,λe:¬s.v=4=>?_⟩
 .refine wg (zHo p s.a s.b s.c tol) ?_;rw[zso d e];exact .refl
 refine⟨Pt,ptE,[s.a],rfl,wb0 ?_⟩;exact ziT (zsp d e)
end
end Go.Gs
