/- A box round an array za data; a slice of such an array. -/
import Derived.Test.YtdkomlilfdbahaaGreatDoorMAG
set_option maxRecDepth 100000
set_option maxHeartbeats 80000000
set_option linter.all false
namespace Go.Gs
def zI.same{Keep:LI}{M:LT}{Z:zh}{w w':World}(d:zI Keep M Z w)(e:w'.os=w.os)(htape:w'.tape=w.tape)(hout:kU w w')(hsize:w.heap.size<=w'.heap.size)(hblock:∀b,b<w.heap.size->w'.heap[b]?=w.heap[b]?):Stp (Own M Z) (Own M Z) Z Z w w'/\zI Keep M Z w':=by
 have f:Stp (Own M Z) (Own M Z) Z Z w w':=⟨e,htape,hout,hsize,λb c _=>hblock b c,λb c=>.inl c,λ_ _ h=>h⟩
 exact⟨f,λk m h=>(d.rel k m h).keep f rfl (λv b g j=>hblock b (d.old b ⟨k,m,v,h,g,j⟩).1),d.keys,d.apart,
  λb c=>⟨Xx (d.old b c).1 hsize,(d.old b c).2⟩,λb c=>Xx (d.kp b c) hsize,d.glS f⟩
variable{P:Program}{I:LS}{x:Operand}{lm:LJ}{Y:Nat}{K:LD}
def ztW{e:TypeId}{s:SV}(h:boxV I e s Y K):∃r md,K r md/\yq P (.box e x) [s] lm Y r md:=by
 unfold boxV at h;replace h:=zj h;obtain⟨y,h⟩:=h;have old:K (.loc Y 0) (.push (.box e (kT s)))->∃r md,K r md/\yq P (.box e x) [s] lm Y r md:=λh=>zxn (by unfold zS;rw[y];exact h)
 split at h
 .split at h
  .split at h
   .rename_i B
    rcases h with h|h
    .exact old h
    refine⟨_,_,h,λo C Keep M Z a w _ u D hκM n=>?_⟩;obtain⟨l,A⟩:=v8 y (Gs.head n)
    have k:(execOp a.eval o).run P w=.ok (.value (.pointer (some ⟨w.heap.size,0,none⟩))) (w.alloc (.cells (a.eval x).cells e)):=by
     simp[execOp,C,Instr.box,newVar,newRow]
    refine qB.value k ?_;obtain⟨z,v⟩:=u.same (w':=w.alloc (.cells (a.eval x).cells e)) rfl rfl (.cells _ _ _) sI (λb f=>heap_alloc_old w _ b f);refine⟨Z,z,v,.d _ _ ?_,λ_ _=>rfl⟩;have hnew:=heap_alloc_new w (.cells (a.eval x).cells e);have F:∀b,b<w.heap.size->True:=λ_ _=>trivial
    refine .dptr _ w.heap.size 0 (λj=>((a.eval x).cells.toList[j]?).getD undef) sI (λf=>?_) (λj q=>?_) (λj s' g=>?_)
    .rcases f with f|f
     .have:=u.kp _ f;omega
     have:=(u.old _ f).1;omega
    .have c:j<(a.eval x).cells.toList.length:=by rw[l.1];exact q
     have t:j<(a.eval x).cells.size:=by simpa using c
     refine⟨?_,?_⟩
     .show(w.alloc (.cells (a.eval x).cells e)).cell? ⟨w.heap.size,0+j,none⟩=_;rw[Kb];simp only[World.cell?,hnew];simp[t]
     rw[Xb c,KU];exact A _ (X5 c)
    have q:j<(kT s).length:=(Xd.1 g).1;have c:j<(a.eval x).cells.toList.length:=by rw[l.1];exact q
    rw[Xb c,KU];exact(uY (yT B j s' g) (l.2 j s' _ g (Xb c))).stp z
   exact old h
  exact old h
 exact old h
variable{svs:LR}
def zpm(hT:TOK P I){t:TypeId}{lo hi mx:Option Operand}(h:zo9 I t lo hi mx svs lm Y K):∃r md,K r md/\yq P (.slice t x lo hi mx) svs lm Y r md:=by
 unfold zo9 at h
 split at h
 .rename_i cs;unfold zno at h;replace h:=zj h;obtain⟨F,h⟩:=h;obtain⟨n1,F⟩:=kr F;obtain⟨n2,n3⟩:=kr F;have H:lo=none:=by cases lo with|none=>rfl|some _=>cases n1
  have B:hi=none:=by cases hi with|none=>rfl|some _=>cases n2
  have J:mx=none:=by cases mx with|none=>rfl|some _=>cases n3
  subst H;subst B;subst J;replace h:=zE h;obtain⟨i,A,h⟩:=h;have k:=(hT t i A).kind
  split at h
  .rename_i n e g;rw[g]at k;have k:P.underlying t=some (.array n e):=k;have helem:P.elem t=e:=by simp[Program.elem,k]
   have f:P.arrayLen t=n:=by simp[Program.arrayLen,k]
   have C:P.underlying t=some (.array (P.arrayLen t) (P.elem t)):=by rw[helem,f];exact k
   replace h:=zE h;obtain⟨j,W,h⟩:=h;have G:=(hT e j W).size;obtain⟨α,enc,xs,l,h⟩:=h;obtain⟨R,e2,v⟩:=h.ob;refine⟨_,_,h.go,.pure λo ho S Pm Z a w z=>?_⟩;obtain⟨b,o',c,y,T,hS,U,V⟩:=(Gs.head z).dptr_inv
   have u:(execOp a.eval o).run P w=.ok (.value (.slice (some ⟨b,o',none⟩) xs.length n)) w:=by
    simp[execOp,ho,y,run_sliceAt_array_all (ht:=C),slicedAt,G,helem,f,R];intro _;simp[Addr.add]
   refine⟨_,u,.d _ _ ?_⟩;have X:=ze4 v;refine .sl enc xs j.sz b o' n (λp q=>c (p*j.sz+q)) T hS oM oM v (λp q hp N=>?_) (λp q x s y Q=>?_)
   .have D:p*j.sz+q<cs.length:=by
     rw[←l,X];have:=Xy j.sz (X1 hp);rw[Ka]at this;omega
    have:=U _ D
    rwa [KL]
   have N:q<j.sz:=by
    have:=(Xd.1 Q).1;rw[v x (Xf y)]at this;exact this
   have:=ze3 v p q x y N;rw[l]at this;exact V _ s (this.trans Q)
  exact h.elim
 exact zq3 hT h
def jD.move{S S' Pm Pm':LI}{Z Z':zh}{w:World}{k k':Nat}{m:Mem}(z:Z' k'=Z k)(A:zgN m)(t:∀s v,(yf s=true∨True)->D S w s v->D S' w s v∨False)(h:jD S Pm Z w k m):jD S' Pm' Z' w k' m:=by
 cases m with
 |box T cs=>
  obtain⟨b,vs,c,f,g,l,q⟩:=h;exact⟨b,vs,z.trans c,f,g,l,λj s v o J=>.d _ _ ((t s v (.inr trivial) (uY (yT A j s o) (q j s v o J))).resolve_right id)⟩
 |arr T enc sz xs=>
  obtain⟨v,cells,c,f,g,l,q,G⟩:=h;refine⟨v,cells,z.trans c,f,g,l,q,λi j x s N o=>?_⟩;obtain⟨u,H,y⟩:=G i j x s N o;exact⟨u,H,(t s u (.inr trivial) y).resolve_right id⟩
 |garr T sz xs=>exact A.elim
 |map Q=>
  obtain⟨r,ents,clock,c,f,g,l⟩:=h;refine⟨r,ents,clock,z.trans c,f,g,λi n s hi=>?_⟩;obtain⟨e,B,C,F⟩:=l i n s hi;exact⟨e,B,C,(t s _ (.inr trivial) F).resolve_right id⟩
variable{S:LI}{S':LI}{Pm:LI}{Pm':LI}{Z:zh}{Z':zh}{k':Nat}{m:Mem}
def jD.scalar{w:World}{k:Nat}(z:Z' k'=Z k)(q:zj4 m)(h:jD S Pm Z w k m):jD S' Pm' Z' w k' m:=by
 cases m with
 |box T cs=>
  obtain⟨b,vs,c,f,g,l,t⟩:=h;exact⟨b,vs,z.trans c,f,g,l,λj s v o H=>.d _ _ (zaa (uZ q j s o) (t j s v o H))⟩
 |arr T enc sz xs=>
  obtain⟨v,cells,c,f,g,l,t,F⟩:=h;refine⟨v,cells,z.trans c,f,g,l,t,λi j x s A o=>?_⟩;obtain⟨u,G,y⟩:=F i j x s A o;exact⟨u,G,zaa (Pm:=Pm) (Z:=Z) (uZ (q x (Xf A)) j s o) (.d _ _ y)⟩
 |garr T sz xs=>exact q.elim
 |map J=>
  obtain⟨r,ents,clock,c,f,g,l⟩:=h;refine⟨r,ents,clock,z.trans c,f,g,λi n s hi=>?_⟩;obtain⟨e,B,C,D⟩:=l i n s hi;exact⟨e,B,C,zaa (Pm:=Pm) (Z:=Z) (uZ q i s (by simp[hi])) (.d _ _ D)⟩
def one(v:Value):zh:=λk=>if k=0 then some v else none
def zb3{v:Value}{b:Nat}:Own [(0,m)] (one v) b↔qi v=some b:=by
 constructor
 .rintro⟨k,e,f,h,c,d⟩
  cases h with
  |head=>simp[one]at c;subst c;exact d
  |tail _ h=>cases h
 intro h;exact⟨0,m,v,.head _,by simp[one],h⟩
def uL{v:Value}:one v 0=some v:=rfl
variable{cs:LR}
def zxq{k:Nat}(h:znm k cs=true):∀k' off,.loc k' off∈cs->k'≠k:=by
 induction cs with
 |nil=>intro _ _ h;cases h
 |cons c cs d=>
  intro k' off b e;subst e
  cases b with
  |head=>simp[znm,KQ]at h
  |tail _ b=>
   refine d ?_ k' off b rfl
   cases c <;> simp only[znm]at h <;> (try split at h) <;> simp_all
def zre(h:zcY lm cs=true):∀k off,.loc k off∈cs->∃m,lm k=some m:=by
 induction cs with
 |nil=>intro _ _ h;cases h
 |cons x xs e=>
  intro k off b;simp only[zcY]at h
  split at h
  .rename_i c
   cases b with
   |head=>
    simp only[zcX]at c
    cases d:lm k with
    |none=>simp[d]at c
    |some m=>exact⟨m,rfl⟩
   |tail _ b=>exact e h k off b
  cases h
def zvr{lm:LJ}{Keep:LI}{M:LT}{Z:zh}{w:World}(j:∀k m,lm k=some m->(k,m)∈M)(D:zI Keep M Z w){k:Nat}{m:Mem}{C:Value}(A:lm k=some m)(q:Z k=some C){S' Pm':LI}(l:∀b,S' b->Keep b∨Own M Z b)(hPm:∀b,Pm' b->qi C=some b):
  ∀{cs:LR} {vs:LA},Gs (λb=>Keep b∨Own M Z b) (Own M Z) Z w cs vs->zcd lm k cs=true->Gs S' Pm' (one C) w (zvg lm k cs) vs
 |[],vs,T,_=>by rw[T.nil_inv];exact .nil
 |c::cs,vs,T,h=>by
  obtain⟨v,vs',rfl,B,h2⟩:=T.cons_inv;have hP:∀b,¬Own M Z b->¬Pm' b:=λb hn hp=>hn ⟨k,m,C,j k m A,q,hPm b hp⟩
  have hP2:∀k' b,(∃z,lm k'=some z)->k'≠k->Z k'=some (.pointer (some ⟨b,0,none⟩))->¬Pm' b:=λk' b ⟨z,W⟩ hne d hp=>
   D.apart k' z k m _ C b (j k' z W) (j k m A) hne d q rfl (hPm b hp)
  have key:G S' Pm' (one C) w (give lm k c) v/\zcd lm k cs=true:=by
   unfold zcd at h
   split at h
   .rename_i e;cases e
   .rename_i k' off r e
    cases e
    split at h
    .rename_i u;have:=Xk u;subst this;refine⟨?_,h⟩;simp only[give,KQ];obtain⟨b,d,rfl⟩:=B.loc_inv;rw[q]at d;cases d
     exact .loc 0 off b uL
    rename_i u;obtain⟨g,t⟩:=kr h;refine⟨?_,t⟩;simp only[give,u]
    have V:∃z,lm k'=some z:=by
     simp only[uC,zcX]at g
     cases hq:lm k' with
     |none=>simp[hq]at g
     |some z=>exact⟨z,rfl⟩
    exact zkR j D l B (.inl g) hP (λH off2 b o d=>by
     rcases o with o|⟨_,_,o,_⟩
     .cases o;exact hP2 _ b V (KR u) d
     cases o)
   .rename_i k' r e
    cases e
    split at h
    .rename_i u;have:=Xk u;subst this;refine⟨?_,h⟩;simp only[give,KQ];obtain⟨d,N⟩:=B.own_inv;rw[q]at d;cases d
     exact .own 0 _ uL N
    cases h
   .rename_i k' sz lo n r e
    cases e
    split at h
    .rename_i u;have:=Xk u;subst this;refine⟨?_,h⟩;simp only[give,KQ];obtain⟨b,len,cap,cap',d,rfl,N,h4⟩:=B.win_inv;rw[q]at d;cases d
     exact .win 0 sz lo n b len cap cap' uL N h4
    cases h
   .rename_i f caps r e
    cases e
    obtain⟨Q,h⟩:=kr h;obtain⟨g,t⟩:=kr h;refine⟨?_,t⟩;simp only[give];refine zkR j D l B (.inl g) hP (λH off2 b o d=>?_)
    rcases o with o|⟨f',J,o,y⟩
    .cases o
    cases o
    refine hP2 H b ?_ (zxq Q H off2 y) d;simp only[uC]at g
    split at g
    .rename_i R;exact zre R H off2 y
    cases g
   rename_i s r F X hn2' hn3 e
   cases e
   obtain⟨g,t⟩:=kr h;refine⟨?_,t⟩
   have U:give lm k c=zkE lm c:=by
    cases c <;> first|rfl|exact absurd rfl (F _ _)|exact absurd rfl (X _)|exact absurd rfl (hn2' _ _ _ _)
   rw[U]
   exact zkR j D l B (.inl g) hP (λH off2 b o d=>by
    rcases o with rfl|⟨f',J,rfl,_⟩
    .exact absurd rfl (F _ _)
    exact absurd rfl (hn3 _ _))
  exact .cons key.1 (zvr j D A q l hPm h2 key.2)
def jD.name{w:World}{k:Nat}(h:jD S Pm Z w k m):∃v,Z k=some v:=by
 cases m with
 |box T cs=>obtain⟨b,vs,c,_⟩:=h;exact⟨_,c⟩
 |arr T enc sz xs=>obtain⟨v,cells,c,_⟩:=h;exact⟨_,c⟩
 |garr T sz xs=>obtain⟨v,cells,c,_⟩:=h;exact⟨_,c⟩
 |map d=>obtain⟨r,ents,clock,c,_⟩:=h;exact⟨_,c⟩
def mv_g{w:World}{A:Value}(z:Z' 0=some A)(n:Z Y=some A):∀(r:SV) {v:Value},zbn r=true->G S' Pm' Z' w r v->G S Pm Z w (mv Y r) v:=by
 intro r
 induction r using SV.rec (motive_2:=λcs=>∀{vs:LA},zbn.mvOKs cs=true->Gs S' Pm' Z' w cs vs->Gs S Pm Z w (mv.mvs Y cs) vs) with
 |val v=>intro u _ e;exact .d _ _ (e.val_inv ▸ .val _)
 |pr p i=>intro u _ e;rw[e.pr_inv];exact .d _ _ (.pr p i)
 |agg cs l=>
  intro u h e;simp only[zbn]at h;obtain⟨vs,rfl,g⟩:=e.agg_inv;have:=l h g;simp only[mv];exact .agg _ vs this.1 this.2
 |tup cs l=>
  intro u h e;simp only[zbn]at h;obtain⟨vs,rfl,g⟩:=e.tup_inv;have:=l h g;simp only[mv];exact .tup _ vs this.1 this.2
 |own k=>
  intro u h e;simp only[zbn]at h;have:=Xk h;subst this;obtain⟨j,o⟩:=e.own_inv;rw[z]at j;cases j
  simp only[mv];exact .own _ _ n o
 |sl _ _=>intro u h _;simp[zbn]at h
 |ptr _ _=>intro u h _;simp[zbn]at h
 |loc k off=>
  intro u h e;simp only[zbn]at h;have:=Xk h;subst this;obtain⟨b,j,rfl⟩:=e.loc_inv;rw[z]at j;cases j
  simp only[mv];exact .loc _ _ _ n
 |eloc _ _ _ _=>intro u h _;simp[zbn]at h
 |win _ _ _ _=>intro u h _;simp[zbn]at h
 |fn f cs l=>
  intro u h e;simp only[zbn]at h;obtain⟨vs,rfl,g⟩:=e.fn_inv;have:=l h g;simp only[mv];exact .fn _ _ vs this.1 this.2
 |dptr _ _=>intro u h _;simp[zbn]at h
 |dfn _ _ _=>intro u h _;simp[zbn]at h
 |bm _ _ _=>intro u h _;simp[zbn]at h
 |op _=>intro u h _;simp[zbn]at h
 |ifc t s l=>
  intro u h e;simp only[zbn]at h;obtain⟨v,rfl,C⟩:=e.ifc_inv;simp only[mv];exact .ifc t _ v (l h C)
 |junk=>intro u _ _;exact .d _ _ (.junk u)
 |nils=>intro u h _;simp[zbn]at h
 |anyb=>intro u h _;simp[zbn]at h
 |full _ _=>intro u h _;simp[zbn]at h
 |nil=>
  rename_i vs _ e
  simpa[mv.mvs,e.nil_inv] using Gs.nil
 |cons c cs q y=>
  rename_i vs h e;simp only[zbn.mvOKs]at h
  split at h
  .rename_i B;obtain⟨v,D,rfl,j,o⟩:=e.cons_inv;exact .cons (q B j) (y h o)
  cases h
def ztX{o:Option Mem}(h:zzn o=true):∃(T:TypeId) (α:Type) (enc:α->LR) (sz:Nat) (xs:List α),o=some (.arr T enc sz xs):=by
 unfold zzn at h
 split at h
 .exact⟨_,_,_,_,_,rfl⟩
 cases h
def ztY{lm:LJ}{Keep:LI}{M:LT}{Z:zh}{w:World}(h:∀k m,lm k=some m->(k,m)∈M)(l:zI Keep M Z w){k:Nat}{T:TypeId}{α:Type}{enc:α->LR}{sz:Nat}{xs:List α}(g:lm k=some (.arr T enc sz xs)){S':LI}(e:∀b,S' b->Keep b∨Own M Z b)(t:∀v b,Z k=some v->qi v=some b->¬S' b){Pm':LI}(hP:∀b,¬Pm' b){Z':zh}:
  ∀{cs:LR} {vs:LA},Gs (λb=>Keep b∨Own M Z b) (Own M Z) Z w cs vs->zzo lm k cs=true->Gs S' Pm' Z' w (zdF lm cs) vs
 |[],vs,q,_=>by rw[q.nil_inv];exact .nil
 |c::cs,vs,q,j=>by
  obtain⟨v,A,rfl,u,y⟩:=q.cons_inv;unfold zzo at j
  split at j
  .rename_i f;cases f
  .rename_i k' r f
   cases f
   split at j
   .rename_i z;have:=Xk z;subst this;refine .cons ?_ (ztY h l g e t hP y j);simp only[zkE,zjr,g];exact .d _ _ (zgT l (h _ _ g) e t u.own_inv.1)
   cases j
  rename_i s r B f
  cases f
  obtain⟨n,o⟩:=kr j;exact .cons (zkR h l e u (.inl n) (λb _=>hP b) (λ_ _ b _ _=>hP b)) (ztY h l g e t hP y o)
variable{M:LT}
def kQ{k:Nat}:zO ((k,m)::M) k'=if k=k' then some m else zO M k':=by
 simp only[zO]
 by_cases h:k=k'
 .subst h;simp[KQ]
 have:Nat.beq k k'=false:=by
  cases b:Nat.beq k k' with
  |false=>rfl
  |true=>exact absurd (Xk b) h
 simp[this,h]
def zd9{k:Nat}(h:k≠k'):zO (k9 M k) k'=zO M k':=by
 induction M with
 |nil=>rfl
 |cons x r c=>
  obtain⟨q,y⟩:=x;simp only[k9]
  split
  .rename_i b;have:=Xk b;subst this;rw[kQ,Xc h]
  rw[kQ,kQ,c]
def zaq{k:Nat}:∀{ks:LC} {M:LT},k∉ks->zO (jJ M ks) k=zO M k
 |[],_,_=>rfl
 |q::r,M,h=>by
  simp only[jJ];rw[zaq (λe=>h (.tail _ e)),zd9 (λe=>h (by rw[e];exact .head _))]
def zka{ks:LC}{y:Nat×Mem}(d:M.Pairwise λa b=>a.1≠b.1)(h:y∈M)(c:y.1∉ks):y∈jJ M ks:=
 zu ((zaq c).trans (zc2 d h))
def yq.lend{P:Program}{op:Op}{svs:LR}{lm:LJ}{Y:Nat}{r:SV}{ks:LC}{new:LT}(h:yq P op svs lm Y r (.give ks new 0))(s:∀k∈ks,∃m,(k,m)∈new)(A:∀x∈new,lm x.1=some x.2):yq P op svs lm Y r .none:=by
 intro o C Keep M Z a w l n F J z
 have key:∀{x y:Nat×Mem},x∈M->y∈M->x.1=y.1->x=y:=λ{x y} f D e=>by
  have d:=zc2 n.keys f;have j:=zc2 n.keys D;rw[e]at d;exact Prod.ext e (Xl (d.symm.trans j))
 have E:∀x,x∈new++jJ M ks↔x∈M:=λx=>by
  refine⟨λf=>(Xu.1 f).elim (λf=>zu (l _ _ (A x f))) zb1,λf=>?_⟩
  by_cases t:x.1∈ks
  .obtain⟨m,c⟩:=s _ t;have:=key f (zu (l _ _ (A _ c))) rfl;exact Kz _ (this ▸ c)
  exact Kt _ (zka n.keys f t)
 refine qB.mono (h o C Keep M Z a w l n (λk d j=>absurd j (Yb.2 d)) (λe=>nomatch e) z) λv w' ⟨Z',s,c,u,t⟩=>?_
 have Va:Own (new++jJ M ks) Z'=Own M Z':=funext λb=>propext ⟨λ⟨k,m,v,d,j⟩=>⟨k,m,v,(E _).1 d,j⟩,λ⟨k,m,v,d,j⟩=>⟨k,m,v,(E _).2 d,j⟩⟩
 simp only[zcV]at s c u;rw[Va]at s u;refine⟨Z',s,⟨λk m f=>?_,n.keys,λk m k' G v H b d j=>c.apart k m k' G v H b ((E _).2 d) ((E _).2 j),λb B=>c.old b (Va ▸ B),c.kp,λg v q=>Va ▸ c.gl g v q⟩,u,λk q=>t k q⟩;have:=c.rel k m ((E _).2 f)
 rwa [Va]at this
def zvs{lm:LJ}:∀{l:LT},zzp lm l->∀x∈l,lm x.1=some x.2
 |(k,m)::r,h,x,b=>by
  rcases XA.1 b with rfl|b
  .exact h.1
  exact zvs h.2 x b
def zc7{c:Call}{f:FuncId}{za:LR}(open_args:∀{S Pm:LI} {Z:zh} {a:Act} {w:World},Gs S Pm Z w svs ((qm (.call c)).map a.eval)->
   ∃B,(∀o:Oper,o.op=.call c->zdT P f->(execOp a.eval o).run P w=.ok (.enter f (List.toArray B)) w)/\Gs S Pm Z w za B)
  (h:zb P lm Y f za K):∃r md,K r md/\yq P (.call c) svs lm Y r md:=by
 cases h with
 |to r d Q hk=>
  refine⟨r,.none,qH hk,λo H Keep M Z a w F l _ _ D=>?_⟩;have hlm':=λk m h=>zu (F k m h)
  obtain⟨B,t,hg⟩:=open_args D;refine qB.call (t o H d.1) ?_
  by_cases W:uC lm za=true
  .have Q:zkC r=true:=by unfold zvf at Q;rw[W]at Q;exact Q
   have j:∀b,(Keep b∨Own M Z b)->b<w.heap.size:=λb j=>j.elim (l.kp b) λh=>(l.old b h).1
   have hv:Gs (λb=>(Keep b∨Own M Z b)∨Own [] (λ_=>none) b) (Own [] (λ_=>none)) (λ_=>none) w (zdF lm za) B:=
    zgX hlm' l (λb h=>h.resolve_right zK) (λ_=>zK) hg (.inl W)
   refine(d.2 (λb=>Keep b∨Own M Z b) (λ_=>none) w _ j (qu j λ_ _ h=>l.glc h) (λ_ _=>rfl) hv).mono ?_
   rintro e w' ⟨v,Z',rfl,n,_,A⟩
   obtain⟨hs',y⟩:=l.same n.os n.tape n.output n.size λb j=>n.block b j zK
   exact⟨v,rfl,Z,hs',y,zj9 (λb h=>.inl h) Q A,λ_ _=>rfl⟩
  have Q:zgM r=true:=by unfold zvf at Q;rw[Bool.eq_false_iff.2 W]at Q;exact Q
  have hv:Gs (λb=>False∨Own [] (λ_=>none) b) (Own [] (λ_=>none)) (λ_=>none) w (zdF lm za) B:=
   zgX hlm' l (λb h=>(h.resolve_left id |> zK).elim) (λ_=>zK) hg (.inr λb _ h=>zK (h.resolve_left id))
  refine(d.2 (λ_=>False) (λ_=>none) w _ (λ_ h=>h.elim) (qu (λ_ h=>h.elim) λ_ _ h=>l.glc h) (λ_ _=>rfl) hv).mono ?_
  rintro e w' ⟨v,Z',rfl,n,_,A⟩
  obtain⟨hs',y⟩:=l.same n.os n.tape n.output n.size λb j=>n.block b j zK
  exact⟨v,rfl,Z,hs',y,zny Q A,λ_ _=>rfl⟩
 |fresh m r d hr0 hfm W hk=>
  refine⟨_,_,qH hk,λo H Keep M Z a w F l hκ hκM D=>?_⟩;replace hκ:=hκ _ (Xj _) (XZ _);replace hκM:=hκM rfl;have hlm':=λk m h=>zu (F k m h)
  obtain⟨B,t,hg⟩:=open_args D;refine qB.call (t o H d.1) ?_
  have fin:∀(S0:LI),((∀b,Keep b∨Own M Z b->S0 b)∨zj4 m)->∀(w':World) (v:Value) (Z':zh),Stp (Own [] (λ_=>none)) (Own [(0,m)] Z') (λ_=>none) Z' w w'->zI S0 [(0,m)] Z' w'->
    G (λb=>S0 b∨Own [(0,m)] Z' b) (Own [(0,m)] Z') Z' w' r v->qg Keep M Z w Y (mv Y r) (.push m) v w':=by
   intro S0 hS0 w' v1 Z' n y A;obtain⟨v,q⟩:=(y.rel 0 m (.head _)).name
   have hownv:∀b,qi v=some b->w.heap.size<=b/\b<w'.heap.size:=λb j=>
    have H:Own [(0,m)] Z' b:=⟨0,m,v,.head _,q,j⟩
    ⟨(n.own b H).resolve_left zK,(y.old b H).1⟩
   have hown0:∀b,Own [(0,m)] Z' b->qi v=some b:=by
    rintro b ⟨k,U,v',h,C,z⟩
    cases h with
    |head=>rw[q]at C;cases C;exact z
    |tail _ h=>cases h
   refine qg.push (u:=v) (l.grow (λ_ h=>h) l.keys hκ hκM v m w' n.os n.tape n.output n.size (λb j _=>n.block b j zK)
    (λk m v b C z V=>n.block b (l.old b ⟨k,m,v,C,z,V⟩).1 zK)
    (λb j=>⟨.inr (hownv b j).1,(hownv b j).2,λk m v' C z V=>by have:=(l.old b ⟨k,m,v',C,z,V⟩).1;have:=(hownv b j).1;omega⟩) λhst=>?_) (mv_g q kG r hr0 A)
   rcases hS0 with hS0|hsc
   .refine jD.move (S:=λb=>S0 b∨Own [(0,m)] Z' b) (Pm:=Own [(0,m)] Z') (by rw[kG,q]) hfm (λs u _ hd=>.inl (hd.less λb j=>?_)) (y.rel 0 m (.head _))
    rcases j with j|⟨k,U,v',C,z,V⟩
    .exact .inl (hS0 b (.inl j))
    cases C with
    |head=>rw[kG]at z;cases z;exact .inr ⟨0,m,v,.head _,q,V⟩
    |tail _ C=>rw[zgh (λe=>by subst e;exact hκM _ C)]at z;exact .inl (hS0 b (.inr ⟨k,U,v',C,z,V⟩))
   exact jD.scalar (by rw[kG,q]) hsc (y.rel 0 m (.head _))
  by_cases hcl':uC lm za=true
  .have j:∀b,(Keep b∨Own M Z b)->b<w.heap.size:=λb j=>j.elim (l.kp b) λh=>(l.old b h).1
   have hv:Gs (λb=>(Keep b∨Own M Z b)∨Own [] (λ_=>none) b) (Own [] (λ_=>none)) (λ_=>none) w (zdF lm za) B:=
    zgX hlm' l (λb h=>h.resolve_right zK) (λ_=>zK) hg (.inl hcl')
   refine(d.2 (λb=>Keep b∨Own M Z b) (λ_=>none) w _ j (qu j λ_ _ h=>l.glc h) (λ_ _=>rfl) hv).mono ?_
   rintro e w' ⟨v,Z',rfl,n,y,A⟩
   exact⟨v,rfl,fin _ (.inl λb h=>h) w' v Z' n y A⟩
  have hsc:=W.resolve_left hcl'
  have hv:Gs (λb=>False∨Own [] (λ_=>none) b) (Own [] (λ_=>none)) (λ_=>none) w (zdF lm za) B:=
   zgX hlm' l (λb h=>(h.resolve_left id |> zK).elim) (λ_=>zK) hg (.inr λb _ h=>zK (h.resolve_left id))
  refine(d.2 (λ_=>False) (λ_=>none) w _ (λ_ h=>h.elim) (qu (λ_ h=>h.elim) λ_ _ h=>l.glc h) (λ_ _=>rfl) hv).mono ?_
  rintro e w' ⟨v,Z',rfl,n,y,A⟩
  exact⟨v,rfl,fin _ (.inr hsc) w' v Z' n y A⟩
 |see k r d hka hcs Q hk=>
  obtain⟨T,α,enc,sz,xs,hlk⟩:=ztX hka;refine⟨r,.drop k,qH hk,λo H Keep M Z a w F l _ _ D=>?_⟩;have hlm':=λk m h=>zu (F k m h)
  obtain⟨B,t,hg⟩:=open_args D;refine qB.call (t o H d.1) ?_;have hmem:=hlm' k _ hlk;have hsub:∀b,(Keep b∨Own (k9 M k) Z b)->Keep b∨Own M Z b:=λb j=>j.imp id λ⟨k',U,v',C,z,V⟩=>⟨k',U,v',qn _ C,z,V⟩
  have j:∀b,(Keep b∨Own (k9 M k) Z b)->b<w.heap.size:=λb j=>(hsub b j).elim (l.kp b) λh=>(l.old b h).1
  have hkk:∀v b,Z k=some v->qi v=some b->¬(Keep b∨Own (k9 M k) Z b):=λv b R j hSb=>by
   rcases hSb with hSb|⟨k',U,v',h4,h5,h6⟩
   .exact(l.old b ⟨k,_,v,hmem,R,j⟩).2 hSb
   exact l.apart k _ k' U v v' b hmem (qn _ h4) (Ne.symm (vA l.keys _ h4)) R h5 j h6
  have hv:Gs (λb=>(Keep b∨Own (k9 M k) Z b)∨Own [] (λ_=>none) b) (Own [] (λ_=>none)) (λ_=>none) w (zdF lm za) B:=
   ztY hlm' l hlk (λb h=>hsub b (h.resolve_right zK)) (λv b C z V=>hkk v b C z (V.resolve_right zK)) (λ_=>zK) hg hcs
  refine(d.2 (λb=>Keep b∨Own (k9 M k) Z b) (λ_=>none) w _ j (qu j λ_ _ h=>l.glc h) (λ_ _=>rfl) hv).mono ?_
  rintro e w' ⟨v,Z',rfl,n,_,A⟩
  obtain⟨hs1,hm1⟩:=l.let_go (M1:=k9 M k) (λx hx=>qn x hx) (qR l.keys);obtain⟨hs',y⟩:=hm1.same n.os n.tape n.output n.size λb j=>n.block b j zK
  exact⟨v,rfl,Z,⟨n.os,n.tape,n.output,n.size,λb j _=>n.block b j zK,λb ⟨k',U,v',C,z,V⟩=>.inl ⟨k',U,v',qn _ C,z,V⟩,λ_ _ h=>h⟩,y,
   zj9 (λb h=>.inl h) Q A,λ_ _=>rfl⟩
 |hand k m U r hlk d hfm hfm' W Q hk=>
  refine⟨r,.set k U,qH hk,λo H Keep M Z a w F l _ _ D=>?_⟩;have hlm':=λk m h=>zu (F k m h)
  obtain⟨B,t,hg⟩:=open_args D;refine qB.call (t o H d.1) ?_;have J:=hlm' k m hlk;obtain⟨N,q⟩:=(l.rel k m J).name
  have hS:∀b,((Keep b∨Own M Z b)/\qi N≠some b)∨Own [(0,m)] (one N) b->Keep b∨Own M Z b:=λb j=>
   j.elim (λh=>h.1) λh=>.inr ⟨k,m,N,J,q,zb3.1 h⟩
  have hlt:∀b,(Keep b∨Own M Z b)->b<w.heap.size:=λb j=>j.elim (l.kp b) λh=>(l.old b h).1
  have hm0:zI (λb=>(Keep b∨Own M Z b)/\qi N≠some b) [(0,m)] (one N) w:=by
   refine⟨λk' m1 h=>?_,XT.2 ⟨λ_ h=>(by cases h),List.Pairwise.nil⟩,λk1 m1 k2 m2 _ _ _ C z X=>?_,λb j=>?_,λb j=>hlt b j.1,λg v h=>⟨λH=>(l.gl g v h).1 ⟨k,m,N,J,q,zb3.1 H⟩,l.glc h⟩⟩
   .cases h with
    |head=>exact jD.move (by rw[uL,q]) hfm (λs u _ hd=>.inl (hd.less hS)) (l.rel k m J)
    |tail _ h=>cases h
   .cases C with
    |head=>cases z with
     |head=>exact absurd rfl X
     |tail _ h=>cases h
    |tail _ h=>cases h
   have:=zb3.1 j;exact⟨(l.old b ⟨k,m,N,J,q,this⟩).1,λh=>h.2 this⟩
  have hgv:=zvr (Pm':=Own [(0,m)] (one N)) hlm' l hlk q hS (λb j=>zb3.1 j) hg W
  refine(d.2 _ (one N) w _ (λb j=>hlt b j.1) hm0 (λk' hk'=>by
   have:k'≠0:=by simp at hk';omega
   simp[one,this]) hgv).mono ?_
  rintro e w' ⟨v,Z',rfl,n,y,A⟩
  have hρ0:Z' 0=some N:=n.rho 0 N uL
  have hown':∀b,Own [(0,U)] Z' b->qi N=some b:=by
   rintro b ⟨k1,m1,v1,h,C,z⟩
   cases h with
   |head=>rw[hρ0]at C;cases C;exact z
   |tail _ h=>cases h
  have hkeys:(qL M k U).map (·.1)=M.map (·.1):=zbc
  have hst:Stp (Own M Z) (Own (qL M k U) Z) Z Z w w':=
   ⟨n.os,n.tape,n.output,n.size,λb j hn=>n.block b j λH=>hn ⟨k,m,N,J,q,zb3.1 H⟩,λb j=>.inl (zax hkeys.symm j),λ_ _ h=>h⟩
  have hback:∀b,Keep b∨Own (qL M k U) Z b->((Keep b∨Own M Z b)/\qi N≠some b)∨Own [(0,U)] Z' b:=λb j=>by
   by_cases hbv:qi N=some b
   .exact .inr ⟨0,U,N,.head _,hρ0,hbv⟩
   exact .inl ⟨j.imp id λh=>zax hkeys.symm h,hbv⟩
  refine⟨v,rfl,Z,hst,zI.next k l hst (yS hkeys l.keys) ?_ ?_ ?_,zj9 hback Q A,λ_ _=>rfl⟩
  .intro k' m1 C X
   obtain⟨_,z⟩|z:=jS l.keys _ C
   .refine⟨z,rfl,λv' b' R hb'=>n.block b' (l.old b' ⟨k',m1,v',z,R,hb'⟩).1 λH=>?_⟩;exact l.apart k' m1 k m v' N b' z J X R q hb' (zb3.1 H)
   cases z;exact absurd rfl X
  .intro m1 C
   obtain⟨z,_⟩|z:=jS l.keys _ C
   .exact absurd rfl z
   cases z
   exact jD.move (by rw[q,hρ0]) hfm' (λs u _ hd=>.inl (hd.less hback)) (y.rel 0 U (.head _))
  intro m1 v' b' _ R hb';rw[q]at R;cases R
  have H:Own M Z b':=⟨k,m,N,J,q,hb'⟩;refine⟨λk' m2 v2 z X hv2 hb2=>?_,Xx (l.old b' H).1 n.size,(l.old b' H).2⟩
  obtain⟨_,V⟩|V:=jS l.keys _ z
  .exact l.apart k' m2 k m v2 N b' V J X hv2 q hb2 hb'
  cases V;exact absurd rfl X
 |give ks nn args' Mc M' r d ha hl hn hk hM Q hM' hkk=>
  refine⟨_,_,qH (zg3 hkk),λo H Keep M Z a w F l hκ _ D=>?_⟩;obtain⟨B,t,hg⟩:=open_args D;exact qB.call (t o H d.1)<|zkY d ha hl hn hk hM Q hM' F l hκ hg
 |lend ks args' Mc r d ha hl hn hk hM Q hM' hc n hkk=>
  refine⟨_,.none,qH hkk,yq.lend (ks:=ks) (new:=yA ks Y Mc) (λo H Keep M Z a w F l hκ _ D=>?_) (λk h=>?_) (zvs n)⟩
  .obtain⟨B,t,hg⟩:=open_args D;exact qB.call (t o H d.1)<|zkY d ha hl hn hk hM Q hM' F l hκ hg
  rw[←hc]at h;obtain⟨x,hx,rfl⟩:=XK.1 h;exact⟨x.2,hx⟩
def zGu{vs:LA}{S Pm:LI}{Z:zh}{w:World}:Gs S Pm Z w (vs.map .val) vs:=by
 refine⟨sI,λj s v b c=>?_⟩;rw[XD,c]at b
 cases b
 exact .d _ _ (.val v)
def ofV_g{v:Value}{w:World}:G S Pm Z w (ofV v) v:=by
 unfold ofV
 split
 .rename_i a;have this:=zGu (vs:=a.toList) (S:=S) (Pm:=Pm) (Z:=Z) (w:=w);have h:=G.agg (S:=S) (Pm:=Pm) (Z:=Z) (w:=w) _ _ this.1 this.2
  simpa using h
 exact .d _ _ (.val v)
def zGv{vs:LA}{w:World}:Gs S Pm Z w (vs.map ofV) vs:=by
 refine⟨sI,λj s v b c=>?_⟩;rw[XD,c]at b
 cases b
 exact ofV_g
def zkZ:∀{cs:LR} {K:LA->Prop},zvj cs K->∃vs,K vs/\cs=vs.map .val
 |[],K,h=>⟨[],h,rfl⟩
 |.val v::cs,K,h=>by
  have h:zvj cs λvs=>K (v::vs):=h
  obtain⟨vs,b,c⟩:=zkZ h;exact⟨v::vs,b,by rw[c];rfl⟩
def zxr{s:SV}{K:Value->Prop}(h:conc s K):∃v,K v/\∀{S Pm:LI} {Z:zh} {w:World} {u:Value},G S Pm Z w s u->u=v:=by
 cases s with
 |val v=>exact⟨v,h,λe=>e.val_inv⟩
 |agg cs=>
  obtain⟨vs,d,f⟩:=zkZ h;refine⟨_,d,λe=>?_⟩;obtain⟨us,rfl,b⟩:=e.agg_inv;subst f
  have:us=vs:=by
   refine KA λj=>?_
   have g:=b.1;rw[Xv]at g
   rcases Kf j vs.length with c|c
   .have d:=b.2 j (.val vs[j]) (us[j]'oM) (by simp[c]) sI;rw[Xb oM,Xb c,d.val_inv]
   rw[XH oM,XH c]
  rw[this]
 |_=>exact h.elim
def zk0:∀{cs:LR} {K:LA->Prop},zvk cs K->∃vs,K vs/\∀{S Pm:LI} {Z:zh} {w:World} {us:LA},Gs S Pm Z w cs us->us=vs
 |[],K,h=>⟨[],h,λb=>b.nil_inv⟩
 |c::cs,K,h=>by
  have h:conc c λv=>zvk cs λvs=>K (v::vs):=h
  obtain⟨v,h,f⟩:=zxr h;obtain⟨vs,h,g⟩:=zk0 h;refine⟨v::vs,h,λb=>?_⟩;obtain⟨u,us,rfl,d,e⟩:=b.cons_inv;rw[f d,g e]
def ziw(hT:TOK P I){op:Op}(hlive:Live lm svs)(h:opV P I op svs lm Y K):∃r md,K r md/\yq P op svs lm Y r md:=by
 unfold opV at h
 split at h
 .rename_i x s;exact⟨s,.none,h,.pure λo y S Pm Z a w e=>⟨_,by simp[execOp,y],Gs.head e⟩⟩
 .rename_i x s;exact⟨s,.none,h,.pure λo y S Pm Z a w e=>⟨_,by simp[execOp,y],Gs.head e⟩⟩
 .obtain⟨r,q,z⟩:=ztR h;exact⟨r,_,q,z⟩
 .exact zqX hT h
 .exact ztW h
 .obtain⟨r,q,z⟩:=zq5 hT h;exact⟨r,_,q,z⟩
 .exact ziq hT h
 .obtain⟨r,q,z⟩:=ztT hT h;exact⟨r,_,q,z⟩
 .exact zqY hT h
 .split at h
  .exact⟨_,_,h,.pure λo y S Pm Z a w e=>by
    obtain⟨b,U,A⟩:=(Gs.head e).loc_inv
    exact⟨_,by simp[execOp,y,A],.loc _ _ b U⟩⟩
  .rename_i cs
   exact⟨_,_,h,.pure λo y S Pm Z a w e=>by
    have l:=Gs.head e;obtain⟨b,o',c,A,_⟩:=l.ptr_inv;rw[A]at l
    exact⟨_,by simp[execOp,y,A],l⟩⟩
  .rename_i cs
   exact⟨_,_,h,.pure λo y S Pm Z a w e=>by
    have l:=Gs.head e;obtain⟨b,o',c,A,_⟩:=l.dptr_inv;rw[A]at l
    exact⟨_,by simp[execOp,y,A],l⟩⟩
  .exact⟨_,_,h,.pure λo y S Pm Z a w e=>by
    have l:=Gs.head e;obtain⟨b,len,cap,_,A⟩:=l.eloc_inv;rw[A]at l
    exact⟨_,by simp[execOp,y,A],l⟩⟩
  .exact⟨_,_,h,.pure λo y S Pm Z a w e=>by
    have l:=Gs.head e;obtain⟨v,A,_⟩:=l.ifc_inv;rw[A]at l
    exact⟨_,by simp[execOp,y,A],l⟩⟩
  exact h.elim
 .obtain⟨r,q,z⟩:=zxm hT h;exact⟨r,_,q,z⟩
 .obtain⟨r,q,z⟩:=zzE h;exact⟨r,_,q,z⟩
 .rename_i src t x s;replace h:=zE h;obtain⟨i0,Q,h⟩:=h;obtain⟨d0,J⟩:=(hT src i0 Q).und;replace h:=zE h;obtain⟨i,hi,h⟩:=h;have H:=(hT t i hi).kind
  split at h
  .rename_i k k' n F;rw[F]at H;have H:P.underlying t=some (.int k):=H;refine⟨_,_,vi h,.pure λo y S Pm Z a w e=>⟨.int k (k.wrap n),?_,(zaN.val _).g⟩⟩;have A:=(Gs.head e).val_inv;simp[execOp,y,A,convert,run_underlying J,run_underlying H,Conv.intToInt]
  exact h.elim
 .rename_i fn first caps
  split at h
  .rename_i f
   split at h
   .rename_i C;refine⟨_,_,h,.pure λo y S Pm Z a w e=>?_⟩;have G:first=#[]:=by simpa using C
    subst G;replace e:Gs S Pm Z w svs (caps.toList.map a.eval):=e;refine⟨.func (.func f) #[] (caps.toList.map a.eval).toArray,?_,.fn f _ _ e.1 e.2⟩;have C:caps.map a.eval=(caps.toList.map a.eval).toArray:=by apply Q1;simp
    rw[←C];simp[execOp,y,Instr.makeFunc]
   replace h:=zj h;obtain⟨C,h⟩:=h
   split at h
   rotate_left
   .replace h:=zj h;obtain⟨N,h⟩:=h;have G:caps=#[]:=by simpa using C
    subst G;refine⟨_,_,h,.pure λo y S Pm Z a w e=>?_⟩;have e:Gs S Pm Z w svs ((first.toList++[]).map a.eval):=e;rw[XE]at e;refine⟨.func (.func f) (first.toList.map a.eval).toArray #[],?_,.d _ _ (.bm f _ _ e.1 λj s v q z=>uY (yT N j s q) (e.2 j s v q z))⟩;have C:first.map a.eval=(first.toList.map a.eval).toArray:=by apply Q1;simp
    rw[←C];simp[execOp,y,Instr.makeFunc]
   obtain⟨vs,h,q⟩:=zk0 h;have G:caps=#[]:=by simpa using C
   subst G;refine⟨_,_,h,.pure λo y S Pm Z a w e=>⟨_,?_,.d _ _ (.val _)⟩⟩;have e:Gs S Pm Z w svs ((first.toList++[]).map a.eval):=e;rw[XE]at e;have C:first.map a.eval=vs.toArray:=by apply Q1;simpa using q e
   simp[execOp,y,Instr.makeFunc,C]
  exact h.elim
 .exact zj0 hT h
 .exact zpm hT h
 .obtain⟨r,q,z⟩:=zjY hT h;exact⟨r,_,q,z⟩
 .obtain⟨r,q,z⟩:=zq1 hT h;exact⟨r,_,q,z⟩
 .obtain⟨r,q,z⟩:=zjZ hT h;exact⟨r,_,q,z⟩
 .obtain⟨r,q,z⟩:=zq2 hT h;exact⟨r,_,q,z⟩
 .rename_i x n s
  split at h
  .rename_i vs
   split at h
   .rename_i v r W;refine⟨_,_,qH h,.pure λo y S Pm Z a w e=>?_⟩;obtain⟨us,A,T⟩:=(Gs.head e).tup_inv;have l:=T.drop n;rw[W]at l;obtain⟨u,us',X,q,_⟩:=l.cons_inv
    have R:us[n]?=some u:=by
     have:(us.drop n)[0]?=some u:=by rw[X];rfl
     simpa using this
    exact⟨u,by simp[execOp,y,A,Instr.extract,R],q⟩
   exact h.elim
  exact h.elim
 .obtain⟨r,q,z⟩:=zm8 hT h;exact⟨r,_,q,z⟩
 .exact zm7 hT h
 .exact(zgZ hT h).1
 .exact(zgZ hT h).2
 .obtain⟨r,q,z⟩:=zpk hT h;exact⟨r,_,q,z⟩
 .rename_i svs c
  split at h
  .rename_i fx D
   split at h
   .rename_i f caps args;refine zc7 (λ{S Pm Z a w} l=>?_) h;have l:Gs S Pm Z w (.fn f caps::args) (a.eval fx::c.args.toList.map a.eval):=by simpa[qm,D,zeZ] using l
    obtain⟨cv,q,z⟩:=l.head.fn_inv;exact⟨_,λo y B=>zgY (fs:=[]) y D q rfl B,l.tail.append z⟩
   .rename_i f first args
    refine zc7 (λ{S Pm Z a w} l=>?_) h;have l:Gs S Pm Z w (.val (.func (.func f) first ⟨[]⟩)::args) (a.eval fx::c.args.toList.map a.eval):=by simpa[qm,D,zeZ] using l
    refine⟨first.toList++(_++[]),λo y B=>zgY (fs:=first.toList) (caps:=[]) y D l.head.val_inv rfl B,zGv.append ?_⟩;rw[XE];exact l.tail
   .rename_i f caps args;refine zc7 (λ{S Pm Z a w} l=>?_) h;have l:Gs S Pm Z w (.dfn f caps::args) (a.eval fx::c.args.toList.map a.eval):=by simpa[qm,D,zeZ] using l
    obtain⟨cv,q,z⟩:=l.head.dfn_inv;exact⟨_,λo y B=>zgY (fs:=[]) y D q rfl B,l.tail.append z⟩
   .rename_i f first args
    refine zc7 (λ{S Pm Z a w} l=>?_) h;have l:Gs S Pm Z w (.bm f first::args) (a.eval fx::c.args.toList.map a.eval):=by simpa[qm,D,zeZ] using l
    obtain⟨fv,q,z⟩:=l.head.bm_inv;refine⟨fv++(_++[]),λo y B=>zgY (fs:=fv) (caps:=[]) y D q rfl B,z.append ?_⟩;rw[XE];exact l.tail
   exact h.elim
  .exact h.elim
  rename_i b V;exact zm6 hT V hlive h
 exact h.elim
variable{L:LP}
def zc8{K:SV->Prop}(h:ev L x K):
  ∃s,K s/\∀{S Pm:LI} {Z:zh} {a:Act} {w:World},(∀t s,x=.tmp t->kw L t=some s->G S Pm Z w s (a.tmps.getD t undef))->G S Pm Z w s (a.eval x):=by
 unfold ev at h
 split at h
 .split at h
  .rename_i t _ s c;exact⟨s,qH h,λb=>b _ _ rfl c⟩
  exact h.elim
 .exact⟨_,qH h,λ_=>.d _ _ (.val _)⟩
 .exact⟨_,h,λ_=>.fn _ [] [] rfl λj s v h=>by simp at h⟩
 exact h.elim
def zg4{L:LP}:∀{xs:List Operand} {K:LR->Prop},evs L xs K->
  ∃svs,K svs/\∀{S Pm:LI} {Z:zh} {a:Act} {w:World},(∀t s,t∈zii xs->kw L t=some s->G S Pm Z w s (a.tmps.getD t undef))->Gs S Pm Z w svs (xs.map a.eval)
 |[],K,h=>⟨[],h,λ_=>.nil⟩
 |x::xs,K,h=>by
  obtain⟨s,h,d⟩:=zc8 h;obtain⟨svs,h,f⟩:=zg4 h;refine⟨s::svs,h,λc=>.cons (d λt s e b=>c t s ?_ b) (f λt s ht b=>c t s ?_ b)⟩
  .subst e;exact .head _
  cases x <;> first|exact .tail _ ht|exact ht
def zbt{k:Nat}(h:za0 M Y k=some m):k<Y/\zO M k=some m:=by
 unfold za0 at h
 split at h
 .rename_i b;exact⟨Xw b,h⟩
 cases h
def qI{d:Option Tmp}{nt:Nat}{K:Prop}(h:znp d nt K):(∀t,d=some t->t<nt)/\K:=by
 unfold znp at h
 split at h
 .obtain⟨b,c⟩:=zj h;exact⟨λt e=>by cases e;exact Xw b,c⟩
 exact⟨λt e=>(by cases e),h⟩
def zGw:MD->Bool
 |.give _ _ _=>true
 |_=>false
def MdOK(all:List Oper)(i Y:Nat)(op:Op)(md:MD):Prop:=
 (isW op=true/\((∀k,md≠.drop k)/\zGw md=false)/\∀k m,(md=.set k m∨md=.repl k m)->k<Y)∨md=.none∨((∃m,md=.push m)/\(zdX op=true∨zpb all i=true))
variable{draw:Bool}{i:Nat}{md:MD}
def zrf{all:List Oper}{op:Op}{K:Prop}(h:mdV draw all i Y op md K):K/\(draw=true->MdOK all i Y op md):=by
 unfold mdV at h
 split at h
 .exact⟨h,λe=>by cases e⟩
 split at h
 .rename_i j
  split at h
  .exact h.elim
  .obtain⟨b,c⟩:=zj h;exact⟨c,λ_=>.inl ⟨j,⟨λk e=>(by cases e),rfl⟩,λk m e=>by rcases e with e|e <;> cases e;exact Xw b⟩⟩
  .obtain⟨b,c⟩:=zj h;exact⟨c,λ_=>.inl ⟨j,⟨λk e=>(by cases e),rfl⟩,λk m e=>by rcases e with e|e <;> cases e;exact Xw b⟩⟩
  .exact h.elim
  rename_i n d f g;exact⟨h,λ_=>.inl ⟨j,⟨λk e=>n k e,by cases md <;> first|rfl|exact absurd rfl (g _ _ _)⟩,λk m e=>e.elim (λe=>absurd e (d k m)) (λe=>absurd e (f k m))⟩⟩
 split at h
 .exact⟨h,λ_=>.inr (.inl rfl)⟩
 .split at h
  .exact⟨h,λ_=>.inr (.inr ⟨⟨_,rfl⟩,.inl ‹_›⟩)⟩
  obtain⟨o,l⟩|h:=h
  .exact⟨l,λ_=>.inr (.inr ⟨⟨_,rfl⟩,.inr o⟩)⟩
  exact h.elim
 exact h.elim
def zDE{P:Program}{I:LS}{op:Op}{svs:LR}{lm lm':LJ}{Y:Nat}{K:LD}(b:zdG op=false)(h:opV P I op svs lm Y K):opV P I op svs lm' Y K:=by
 cases op <;> first|(simp[zdG]at b;done)|(rcases svs with _|⟨_,_|⟨_,_|⟨_,_|_⟩⟩⟩ <;> exact h)
variable{a:Act}
def qB.ex{o:Oper}{w:World}{R:Value->World->Prop}(h:qB P o a w R):∃v w',R v w':=by
 unfold qB Oper.wp at h;generalize (execOp a.eval o).run P w=r at*
 cases r with
 |ok n w'=>
  cases n <;> simp only[Oper.upon]at h
  case value v=>obtain⟨u,e,b⟩:=h;exact⟨u,w',b⟩
  case skip=>obtain⟨u,e,b⟩:=h;exact⟨u,w',b⟩
  case defer d=>obtain⟨u,e,b⟩:=h;exact⟨u,w',b⟩
  case enter f args=>
   obtain⟨e,w'',fr,hR,_⟩:=h []
   cases e with
   |returned v=>obtain⟨u,e,b⟩:=hR;exact⟨u,w'',b⟩
   |panicked c=>exact hR.elim
   |outgrown=>obtain⟨_,_,g⟩:=hR;exact g.elim
  case row row args=>
   obtain⟨v,w'',hR,_⟩:=h default [];obtain⟨u,e,b⟩:=hR;exact⟨u,w'',b⟩
 |halt x w'=>cases x <;> simp only[Oper.upon]at h
def zV{d t:Nat}{s:SV}:kw ((d,s)::L) t=if d=t then some s else kw L t:=by
 simp only[kw]
 by_cases h:d=t
 .subst h;simp[KQ]
 have:Nat.beq d t=false:=by
  cases b:Nat.beq d t with
  |false=>rfl
  |true=>exact absurd (Xk b) h
 simp[this,h]
def zg5{d t:Nat}{v:Value}(h:d<a.tmps.size):(a.put (some d) v).tmps.getD t undef=if d=t then v else a.tmps.getD t undef:=by
 simp only[Act.put]
 by_cases b:d=t
 .subst b;simp[h]
 simp[b]
def Rel.app{E:Env}{O:St}{Z:zh}{a:Act}{w w':World}{d:Option Tmp}{s:SV}{md:MD}{v:Value}(h:Rel E O Z a w)(q:∀t,d=some t->t<O.nt)(o:qg E.Keep O.M Z w O.nk s md v w'):∃Z',Rel E (O.app d s md) Z' (a.put d v) w':=by
 obtain⟨Z',j,n,r,l⟩:=o;refine⟨Z',?_⟩
 have hregs:∀t s,kw O.L t=some s->t<O.nt/\G (λb=>E.Keep b∨Own (zcV O.M O.nk md) Z' b) (Own (zcV O.M O.nk md) Z') Z' w' s (a.tmps.getD t undef):=λt s c=>
  ⟨(h.regs t s c).1,((h.regs t s c).2).stp j⟩
 have hfresh:∀k,zcc O.nk md<=k->Z' k=none:=λk u=>by
  have y:O.nk<=zcc O.nk md:=by cases md <;> simp[zcc]
  rw[l k (.inr u)];exact h.fresh k oM
 cases d with
 |none=>exact⟨h.size,h.defers,hregs,n,hfresh,h.stp.trans j,h.keep,h.low⟩
 |some d=>
  have g:=q d rfl;refine⟨by have:=h.size;simpa[Act.put,St.app] using this,h.defers,λt s' f=>?_,n,hfresh,h.stp.trans j,h.keep,h.low⟩;have c:(if d=t then some s else kw O.L t)=some s':=by rw[←zV];exact f
  clear f;rw[zg5 (by rw[h.size];exact g)]
  by_cases e:d=t
  .subst e;rw[Xe rfl]at c;cases c
   rw[Xe rfl];exact⟨g,r⟩
  rw[Xc e]at c ⊢;exact hregs t s' c
variable{E:Env}{O:St}
def Rel.noKey{w:World}(h:Rel E O Z a w):∀m,(O.nk,m)∉O.M:=λm c=>by
 obtain⟨v,b⟩:=(h.mem.rel _ m c).name;rw[h.fresh _ (Xj _)]at b;cases b
def u0{Keep:LI}{w:World}(b:zI Keep M Z w):qg Keep M Z w Y (.val undef) .none undef w:=qg.same b (.d _ _ (.val _))
structure znB (P:Program) (draw:Bool) (all:List Oper) (i:Nat) (o:Oper) (O:St) (svs:LR) (s:SV) (md:MD):Prop where
 ok:yq P o.op svs (if zdG o.op then za0 O.M O.nk else λ_=>none) O.nk s md
 ev:∀{S Pm:LI} {Z:zh} {a:Act} {w:World},(∀t s,t∈zii (qm o.op)->kw O.L t=some s->G S Pm Z w s (a.tmps.getD t undef))->Gs S Pm Z w svs ((qm o.op).map a.eval)
 dst:∀t,o.dst=some t->t<O.nt
 md:draw=true->MdOK all i O.nk o.op md
def zxs(hT:TOK P I){all:List Oper}{o:Oper}{K:St->Prop}{w:World}(g:Rel E O Z a w)(h:zd2 P I draw all i o O K):∃svs s md,K (O.app o.dst s md)/\znB P draw all i o O svs s md:=by
 unfold zd2 at h;replace h:=zge h;obtain⟨svs,h,b⟩:=zg4 h;have l:=b (a:=a) (λt s _ n=>(g.regs t s n).2);have f:∀k m,za0 O.M O.nk k=some m->zO O.M k=some m:=λk m h=>(zbt h).2
 cases j:zdG o.op with
 |true=>
  obtain⟨s,md,hK,d⟩:=ziw hT ⟨E.Keep,O.M,Z,w,_,f,g.mem,l⟩ h;obtain⟨hK,c⟩:=zrf (zd1 (zd0 hK));obtain⟨e,hK⟩:=qI hK;exact⟨svs,s,md,hK,by simpa[j] using d,b,e,c⟩
 |false=>
  obtain⟨s,md,hK,d⟩:=ziw hT ⟨E.Keep,O.M,Z,w,_,λk m h=>(by cases h),g.mem,l⟩ (zDE (lm':=λ_=>none) j h);obtain⟨hK,c⟩:=zrf (zd1 (zd0 hK));obtain⟨e,hK⟩:=qI hK;exact⟨svs,s,md,hK,by simpa[j] using d,b,e,c⟩
def znB.does{all:List Oper}{o:Oper}{s:SV}(h:znB P draw all i o O svs s md){w:World}(c:Rel E O Z a w):qB P o a w (qg E.Keep O.M Z w O.nk s md):=by
 refine h.ok o rfl E.Keep O.M Z a w (λk m b=>?_) c.mem (λk b _=>c.fresh k b) (λ_=>c.noKey) (h.ev λt s _ d=>(c.regs t s d).2)
 split at b
 .exact(zbt b).2
 cases b
def Rel.refine{w:World}(h:Rel E O Z a w){t:Nat}{s s':SV}(f:kw O.L t=some s)(j:∀S Pm Z w v,G S Pm Z w s v->G S Pm Z w s' v):Rel E (O.put (some t) s') Z a w:=
 ⟨h.size,h.defers,λd g c=>by
  have b:(if t=d then some s' else kw O.L d)=some g:=by rw[←zV];exact c
  clear c
  by_cases e:t=d
  .subst e;rw[Xe rfl]at b;cases b
   exact⟨(h.regs t s f).1,j _ _ _ _ _ (h.regs t s f).2⟩
  rw[Xc e]at b
  exact h.regs d g b,h.mem,h.fresh,h.stp,h.keep,h.low⟩
variable{p:Prop}
def zc9{i:Decidable p}(b:p):∀S Pm Z w v,G S Pm Z w (.pr p i) v->G S Pm Z w (.val (.bool true)) v:=λ_ _ _ _ v h=>by
 rw[h.pr_inv];simp only[b,decide_true];exact .d _ _ (.val _)
def zbu{i:Decidable p}(b:¬p):∀S Pm Z w v,G S Pm Z w (.pr p i) v->G S Pm Z w (.val (.bool false)) v:=λ_ _ _ _ v h=>by
 rw[h.pr_inv];simp only[b,decide_false];exact .d _ _ (.val _)
def zvt(v:Value)(c:Bool):Bool:=
 match v with
 |.bool b=>b==c
 |_=>false
def je(all:List Oper)(O:St)(o:Oper)(run:Bool):Prop:=
 match o.guard with
 |none=>run=true
 |some (j,b)=>∃t v,zdY all j=some t/\kw O.L t=some (.val v)/\run=zvt v b
def zzH(all:List Oper)(j:Nat):zdY all j=(all[j]?).bind (·.dst):=by
 induction all generalizing j with
 |nil=>simp[zdY]
 |cons o r b=>cases j with
  |zero=>simp[zdY]
  |succ j=>simp[zdY,b]
def znC{all:List Oper}{o:Oper}{run:Bool}(h:je all O o run)(k:a.tmps.size=O.nt)(u:∀t v,(∃j c,o.guard=some (j,c)/\zdY all j=some t)->kw O.L t=some (.val v)->t<O.nt/\a.tmps.getD t undef=v):Region.wanted o (yielded all.toArray a.tmps)=run:=by
 unfold je at h;unfold Region.wanted
 split at h
 .rename_i w;simp[w,h]
 rename_i j c d;obtain⟨t,v,e,n,q⟩:=h;obtain⟨r,l⟩:=u t v ⟨j,c,d,e⟩ n
 have s:a.tmps[t]?=some v:=by
  have g:t<a.tmps.size:=k ▸ r;simp[g]at l ⊢;exact l
 rw[zzH]at e;simp only[d,yielded];have f:((all.toArray)[j]?).bind (·.dst)=some t:=by simpa using e
 rw[f];simp only[Option.bind_some,s,q]
 cases v <;> first|rfl|(rename_i b;cases b <;> cases c <;> rfl)
def zg6(hT:TOK P I){all:List Oper}{o:Oper}{r:List Oper}{K:St->Prop}{w:World}(u:Rel E O Z a w)(h:vh P I draw all (o::r) i O K):∃O' run svs s md,vh P I draw all r (i+1) (O'.app o.dst s md) K/\je all O' o run/\
   (O'=O∨∃t s0 s1,kw O.L t=some s0/\(∀S Pm Z w v,G S Pm Z w s0 v->G S Pm Z w s1 v)/\O'=O.put (some t) s1)/\(∀t,o.dst=some t->t<O.nt)/\
   ((run=true/\znB P draw all i o O' svs s md)∨(run=false/\s=.val undef/\md=.none)):=by
 have run1:∀{O':St},Rel E O' Z a w->zd2 P I draw all i o O' (λO=>vh P I draw all r (i+1) O K)->O'.nt=O.nt->∃svs s md,vh P I draw all r (i+1) (O'.app o.dst s md) K/\(∀t,o.dst=some t->t<O.nt)/\znB P draw all i o O' svs s md:=by
  intro O' g z A;obtain⟨svs,s,md,f,d⟩:=zxs hT g z;exact⟨svs,s,md,f,λt e=>A ▸ d.dst t e,d⟩
 simp only[vh]at h
 split at h
 .rename_i y;obtain⟨svs,s,md,f,d,l⟩:=run1 u h rfl;exact⟨O,true,svs,s,md,f,by simp[je,y],.inl rfl,d,.inl ⟨rfl,l⟩⟩
 rename_i j q y
 split at h
 .exact h.elim
 rename_i t ht
 have gv:∀{O':St} {v:Value},kw O'.L t=some (.val v)->je all O' o (zvt v q):=λc=>by
  unfold je;rw[y];exact⟨t,_,ht,c,rfl⟩
 have gi:∀{O':St} {b:Bool},kw O'.L t=some (.val (.bool b))->je all O' o (b==q):=λc=>gv c
 have put_look:∀(s1:SV),kw (O.put (some t) s1).L t=some s1:=λs1=>by
  show kw ((t,s1)::O.L) t=some s1;rw[zV];simp
 split at h
 .rename_i c
  split at h
  .obtain⟨svs,s,md,f,d,l⟩:=run1 u h rfl;exact⟨O,_,svs,s,md,f,gi c,.inl rfl,d,.inl ⟨rfl,l⟩⟩
  obtain⟨n,h⟩:=qI h;exact⟨O,_,[],_,_,h,gi c,.inl rfl,n,.inr ⟨rfl,rfl,rfl⟩⟩
 .rename_i c
  split at h
  .obtain⟨svs,s,md,f,d,l⟩:=run1 u h rfl;exact⟨O,_,svs,s,md,f,gi c,.inl rfl,d,.inl ⟨rfl,l⟩⟩
  obtain⟨n,h⟩:=qI h;exact⟨O,_,[],_,_,h,gi c,.inl rfl,n,.inr ⟨rfl,rfl,rfl⟩⟩
 .rename_i p ip c
  by_cases k:p
  .have g:=u.refine c (zc9 k)
   split at h
   .obtain⟨svs,s,md,f,d,l⟩:=run1 g (h.yes k) rfl;exact⟨_,_,svs,s,md,f,gi (put_look _),.inr ⟨t,_,_,c,zc9 k,rfl⟩,d,.inl ⟨rfl,l⟩⟩
   obtain⟨n,h⟩:=qI (h.yes k);exact⟨_,_,[],_,_,h,gi (put_look _),.inr ⟨t,_,_,c,zc9 k,rfl⟩,n,.inr ⟨rfl,rfl,rfl⟩⟩
  have g:=u.refine c (zbu k)
  split at h
  .obtain⟨n,h⟩:=qI (h.no k);exact⟨_,_,[],_,_,h,gi (put_look _),.inr ⟨t,_,_,c,zbu k,rfl⟩,n,.inr ⟨rfl,rfl,rfl⟩⟩
  obtain⟨svs,s,md,f,d,l⟩:=run1 g (h.no k) rfl;exact⟨_,_,svs,s,md,f,gi (put_look _),.inr ⟨t,_,_,c,zbu k,rfl⟩,d,.inl ⟨rfl,l⟩⟩
 .rename_i c;obtain⟨n,h⟩:=qI h;exact⟨O,_,[],_,_,h,gv c,.inl rfl,n,.inr ⟨rfl,rfl,rfl⟩⟩
 exact h.elim
def Rel.wanted{E:Env}{O:St}{Z:zh}{a:Act}{w:World}(h:Rel E O Z a w){all:List Oper}{o:Oper}{run:Bool}(c:je all O o run):Region.wanted o (yielded all.toArray a.tmps)=run:=
 znC c h.size λt _ _ b=>⟨(h.regs t _ b).1,(h.regs t _ b).2.val_inv⟩
def zkb{P:Program}{I:LS}(hT:TOK P I){all:List Oper}{draw:Bool}{E:Env}{Q:LF}{K:St->Prop}(hQ:∀O Z a w,K O->Rel E O Z a w->Q .normal a w):∀{l:List Oper} {i:Nat} {O:St} {Z:zh} {a:Act} {w:World},Rel E O Z a w->vh P I draw all l i O K->wpList P all.toArray Q l a w
 |[],i,O,Z,a,w,f,h=>hQ O Z a w h f
 |o::r,i,O,Z,a,w,f,h=>by
  obtain⟨O',run,svs,s,md,k,z,href,u,g⟩:=zg6 hT f h
  have b:Rel E O' Z a w:=by
   rcases href with rfl|⟨t,s0,s1,n,q,rfl⟩
   .exact f
   exact f.refine n q
  have d:O'.nt=O.nt:=by rcases href with rfl|⟨t,s0,s1,n,q,rfl⟩ <;> rfl
  unfold wpList;rw[b.wanted z]
  obtain⟨rfl,j⟩|⟨rfl,rfl,rfl⟩:=g
  .simp only[if_true];refine .inl ((j.does b).wp λv w' y=>?_);obtain⟨Z',c⟩:=b.app (λt e=>d ▸ u t e) y;exact zkb hT hQ c k
  simp only[KJ,if_false];obtain⟨Z',c⟩:=b.app (λt e=>d ▸ u t e) (u0 b.mem);exact zkb hT hQ c k
end Go.Gs
