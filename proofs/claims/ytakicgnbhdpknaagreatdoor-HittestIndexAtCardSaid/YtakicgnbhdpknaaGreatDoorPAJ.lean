/- A call by contract, and all operations. -/
import Derived.Test.YtakicgnbhdpknaaGreatDoorPAI
set_option maxRecDepth 100000
set_option maxHeartbeats 8000000
set_option linter.all false
namespace Go.Gs
def jN.move{S S' Pm Pm':LI}{O O':zh}{w:World}{k B:Nat}{m:Mem}(z:O' B=O k)(A:zgv m)(t:∀s v,(yd s=true∨True)->D S w s v->D S' w s v∨False)(h:jN S Pm O w k m):jN S' Pm' O' w B m:=by
 cases m with
 |box T cs=>
  obtain⟨b,vs,c,f,g,l,q⟩:=h;exact⟨b,vs,z.trans c,f,g,l,λj s v o N=>.d _ _ ((t s v (.inr trivial) (uV (yP A j s o) (q j s v o N))).resolve_right id)⟩
 |arr T enc sz xs=>
  obtain⟨v,cells,c,f,g,l,q,I⟩:=h;refine⟨v,cells,z.trans c,f,g,l,q,λi j x s Q o=>?_⟩;obtain⟨u,J,y⟩:=I i j x s Q o;exact⟨u,J,(t s u (.inr trivial) y).resolve_right id⟩
 |garr T sz xs=>exact A.elim
 |map R=>
  obtain⟨r,ents,clock,c,f,g,l⟩:=h;refine⟨r,ents,clock,z.trans c,f,g,λi n s hi=>?_⟩;obtain⟨e,C,F,G⟩:=l i n s hi;exact⟨e,C,F,(t s _ (.inr trivial) G).resolve_right id⟩
variable{S:LI}{S':LI}{Pm:LI}{Pm':LI}{O:zh}{O':zh}{m:Mem}
def jN.scalar{w:World}{k B:Nat}(z:O' B=O k)(q:zjK m)(h:jN S Pm O w k m):jN S' Pm' O' w B m:=by
 cases m with
 |box T cs=>
  obtain⟨b,vs,c,f,g,l,t⟩:=h;exact⟨b,vs,z.trans c,f,g,l,λj s v o J=>.d _ _ (v7 (uW q j s o) (t j s v o J))⟩
 |arr T enc sz xs=>
  obtain⟨v,cells,c,f,g,l,t,G⟩:=h;refine⟨v,cells,z.trans c,f,g,l,t,λi j x s A o=>?_⟩;obtain⟨u,I,y⟩:=G i j x s A o;exact⟨u,I,v7 (Pm:=Pm) (O:=O) (uW (q x (Xf A)) j s o) (.d _ _ y)⟩
 |garr T sz xs=>exact q.elim
 |map N=>
  obtain⟨r,ents,clock,c,f,g,l⟩:=h;refine⟨r,ents,clock,z.trans c,f,g,λi n s hi=>?_⟩;obtain⟨e,C,D,F⟩:=l i n s hi;exact⟨e,C,D,v7 (Pm:=Pm) (O:=O) (uW q i s (by simp[hi])) (.d _ _ F)⟩
def one(v:Value):zh:=λk=>if k=0 then some v else none
def zbX{v:Value}{b:Nat}:Own [(0,m)] (one v) b↔qf v=some b:=by
 constructor
 .rintro⟨k,e,f,h,c,d⟩
  cases h with
  |head=>simp[one]at c;subst c;exact d
  |tail _ h=>cases h
 intro h;exact⟨0,m,v,.head _,by simp[one],h⟩
def uH{v:Value}:one v 0=some v:=rfl
variable{cs:LR}
def zwO{k:Nat}(h:zmY k cs=true):∀b off,.loc b off∈cs->b≠k:=by
 induction cs with
 |nil=>intro _ _ h;cases h
 |cons c cs f=>
  intro b off d e;subst e
  cases d with
  |head=>simp[zmY,K4]at h
  |tail _ d=>
   refine f ?_ b off d rfl
   cases c <;> simp only[zmY]at h <;> (try split at h) <;> simp_all
variable{lm:LJ}
def zqM(h:zcO lm cs=true):∀k off,.loc k off∈cs->∃m,lm k=some m:=by
 induction cs with
 |nil=>intro _ _ h;cases h
 |cons x xs e=>
  intro k off b;simp only[zcO]at h
  split at h
  .rename_i c
   cases b with
   |head=>
    simp only[zcN]at c
    cases d:lm k with
    |none=>simp[d]at c
    |some m=>exact⟨m,rfl⟩
   |tail _ b=>exact e h k off b
  cases h
def zuV{lm:LJ}{Keep:LI}{M:LT}{O:zh}{w:World}(h:∀k m,lm k=some m->(k,m)∈M)(C:zJ Keep M O w){k:Nat}{m:Mem}{B:Value}(z:lm k=some m)(o:O k=some B){S' Pm':LI}(j:∀b,S' b->Keep b∨Own M O b)(hPm:∀b,Pm' b->qf B=some b):
  ∀{cs:LR} {vs:LA},Gs (λb=>Keep b∨Own M O b) (Own M O) O w cs vs->zb6 lm k cs=true->Gs S' Pm' (one B) w (zyJ lm k cs) vs
 |[],vs,R,_=>by rw[R.nil_inv];exact .nil
 |c::cs,vs,R,g=>by
  obtain⟨v,vs',rfl,A,h2⟩:=R.cons_inv;have hP:∀b,¬Own M O b->¬Pm' b:=λb hn hp=>hn ⟨k,m,B,h k m z,o,hPm b hp⟩
  have hP2:∀t b,(∃y,lm t=some y)->t≠k->O t=some (.pointer (some ⟨b,0,none⟩))->¬Pm' b:=λt b ⟨y,V⟩ hne hρ hp=>
   C.apart t y k m _ B b (h t y V) (h k m z) hne hρ o rfl (hPm b hp)
  have key:G S' Pm' (one B) w (give lm k c) v/\zb6 lm k cs=true:=by
   unfold zb6 at g
   split at g
   .rename_i d;cases d
   .rename_i t off r d
    cases d
    split at g
    .rename_i u;have:=Xk u;subst this;refine⟨?_,g⟩;simp only[give,K4];obtain⟨b,hρ,rfl⟩:=A.loc_inv;rw[o]at hρ;cases hρ
     exact .loc 0 off b uH
    rename_i u;obtain⟨e,q⟩:=kr g;refine⟨?_,q⟩;simp only[give,u]
    have U:∃y,lm t=some y:=by
     simp only[uy,zcN]at e
     cases hq:lm t with
     |none=>simp[hq]at e
     |some y=>exact⟨y,rfl⟩
    exact zkw h C j A (.inl e) hP (λF off2 b l hρ=>by
     rcases l with l|⟨_,_,l,_⟩
     .cases l;exact hP2 _ b U (KM u) hρ
     cases l)
   .rename_i t r d
    cases d
    split at g
    .rename_i u;have:=Xk u;subst this;refine⟨?_,g⟩;simp only[give,K4];obtain⟨hρ,J⟩:=A.own_inv;rw[o]at hρ;cases hρ
     exact .own 0 _ uH J
    cases g
   .rename_i t sz lo n r d
    cases d
    split at g
    .rename_i u;have:=Xk u;subst this;refine⟨?_,g⟩;simp only[give,K4];obtain⟨b,len,cap,cap',hρ,rfl,J,h4⟩:=A.win_inv;rw[o]at hρ;cases hρ
     exact .win 0 sz lo n b len cap cap' uH J h4
    cases g
   .rename_i f caps r d
    cases d
    obtain⟨N,g⟩:=kr g;obtain⟨e,q⟩:=kr g;refine⟨?_,q⟩;simp only[give];refine zkw h C j A (.inl e) hP (λF off2 b l hρ=>?_)
    rcases l with l|⟨f',I,l,x⟩
    .cases l
    cases l
    refine hP2 F b ?_ (zwO N F off2 x) hρ;simp only[uy]at e
    split at e
    .rename_i Q;exact zqM Q F off2 x
    cases e
   rename_i s r D W hn2' X d
   cases d
   obtain⟨e,q⟩:=kr g;refine⟨?_,q⟩
   have T:give lm k c=zkg lm c:=by
    cases c <;> first|rfl|exact absurd rfl (D _ _)|exact absurd rfl (W _)|exact absurd rfl (hn2' _ _ _ _)
   rw[T]
   exact zkw h C j A (.inl e) hP (λF off2 b l hρ=>by
    rcases l with rfl|⟨f',I,rfl,_⟩
    .exact absurd rfl (D _ _)
    exact absurd rfl (X _ _))
  exact .cons key.1 (zuV h C z o j hPm h2 key.2)
def jN.name{w:World}{k:Nat}(h:jN S Pm O w k m):∃v,O k=some v:=by
 cases m with
 |box T cs=>obtain⟨b,vs,c,_⟩:=h;exact⟨_,c⟩
 |arr T enc sz xs=>obtain⟨v,cells,c,_⟩:=h;exact⟨_,c⟩
 |garr T sz xs=>obtain⟨v,cells,c,_⟩:=h;exact⟨_,c⟩
 |map d=>obtain⟨r,ents,clock,c,_⟩:=h;exact⟨_,c⟩
variable{Y:Nat}
def mv_g{w:World}{y:Value}(x:O' 0=some y)(hκ:O Y=some y):∀(r:SV) {v:Value},zbk r=true->G S' Pm' O' w r v->G S Pm O w (mv Y r) v:=by
 intro r
 induction r using SV.rec (motive_2:=λcs=>∀{vs:LA},zbk.mvOKs cs=true->Gs S' Pm' O' w cs vs->Gs S Pm O w (mv.mvs Y cs) vs) with
 |val v=>intro u _ e;exact .d _ _ (e.val_inv ▸ .val _)
 |pr p i=>intro u _ e;rw[e.pr_inv];exact .d _ _ (.pr p i)
 |agg cs l=>
  intro u h e;simp only[zbk]at h;obtain⟨vs,rfl,g⟩:=e.agg_inv;have:=l h g;simp only[mv];exact .agg _ vs this.1 this.2
 |tup cs l=>
  intro u h e;simp only[zbk]at h;obtain⟨vs,rfl,g⟩:=e.tup_inv;have:=l h g;simp only[mv];exact .tup _ vs this.1 this.2
 |own k=>
  intro u h e;simp only[zbk]at h;have:=Xk h;subst this;obtain⟨j,n⟩:=e.own_inv;rw[x]at j;cases j
  simp only[mv];exact .own _ _ hκ n
 |sl _ _=>intro u h _;simp[zbk]at h
 |ptr _ _=>intro u h _;simp[zbk]at h
 |loc k off=>
  intro u h e;simp only[zbk]at h;have:=Xk h;subst this;obtain⟨b,j,rfl⟩:=e.loc_inv;rw[x]at j;cases j
  simp only[mv];exact .loc _ _ _ hκ
 |eloc _ _ _ _=>intro u h _;simp[zbk]at h
 |win _ _ _ _=>intro u h _;simp[zbk]at h
 |fn f cs l=>
  intro u h e;simp only[zbk]at h;obtain⟨vs,rfl,g⟩:=e.fn_inv;have:=l h g;simp only[mv];exact .fn _ _ vs this.1 this.2
 |dptr _ _=>intro u h _;simp[zbk]at h
 |dfn _ _ _=>intro u h _;simp[zbk]at h
 |bm _ _ _=>intro u h _;simp[zbk]at h
 |op _=>intro u h _;simp[zbk]at h
 |ifc t s l=>
  intro u h e;simp only[zbk]at h;obtain⟨v,rfl,A⟩:=e.ifc_inv;simp only[mv];exact .ifc t _ v (l h A)
 |junk=>intro u _ _;exact .d _ _ (.junk u)
 |nils=>intro u h _;simp[zbk]at h
 |anyb=>intro u h _;simp[zbk]at h
 |full _ _=>intro u h _;simp[zbk]at h
 |nil=>
  rename_i vs _ e
  simpa[mv.mvs,e.nil_inv] using Gs.nil
 |cons c cs o q=>
  rename_i vs h e;simp only[zbk.mvOKs]at h
  split at h
  .rename_i z;obtain⟨v,B,rfl,j,n⟩:=e.cons_inv;exact .cons (o z j) (q h n)
  cases h
def zts{o:Option Mem}(h:zyK o=true):∃(T:TypeId) (α:Type) (enc:α->LR) (sz:Nat) (xs:List α),o=some (.arr T enc sz xs):=by
 unfold zyK at h
 split at h
 .exact⟨_,_,_,_,_,rfl⟩
 cases h
def ztt{lm:LJ}{Keep:LI}{M:LT}{O:zh}{w:World}(h:∀k m,lm k=some m->(k,m)∈M)(l:zJ Keep M O w){k:Nat}{T:TypeId}{α:Type}{enc:α->LR}{sz:Nat}{xs:List α}(g:lm k=some (.arr T enc sz xs)){S':LI}(e:∀b,S' b->Keep b∨Own M O b)(t:∀v b,O k=some v->qf v=some b->¬S' b){Pm':LI}(hP:∀b,¬Pm' b){O':zh}:
  ∀{cs:LR} {vs:LA},Gs (λb=>Keep b∨Own M O b) (Own M O) O w cs vs->zyL lm k cs=true->Gs S' Pm' O' w (zdv lm cs) vs
 |[],vs,q,_=>by rw[q.nil_inv];exact .nil
 |c::cs,vs,q,j=>by
  obtain⟨v,z,rfl,u,x⟩:=q.cons_inv;unfold zyL at j
  split at j
  .rename_i f;cases f
  .rename_i B r f
   cases f
   split at j
   .rename_i y;have:=Xk y;subst this;refine .cons ?_ (ztt h l g e t hP x j);simp only[zkg,zi6,g];exact .d _ _ (zgC l (h _ _ g) e t u.own_inv.1)
   cases j
  rename_i s r A f
  cases f
  obtain⟨n,o⟩:=kr j;exact .cons (zkw h l e u (.inl n) (λb _=>hP b) (λ_ _ b _ _=>hP b)) (ztt h l g e t hP x o)
variable{P:Program}{svs:LR}{K:LD}
def zcW{c:Call}{f:FuncId}{za:LR}(open_args:∀{S Pm:LI} {O:zh} {a:Act} {w:World},Gs S Pm O w svs ((qi (.call c)).map a.eval)->
   ∃C,(∀o:Oper,o.op=.call c->zdM P f->(execOp a.eval o).run P w=.ok (.enter f (List.toArray C)) w)/\Gs S Pm O w za C)
  (h:zb P lm Y f za K):∃r md,K r md/\yU P (.call c) svs lm Y r md:=by
 cases h with
 |to r d V hk=>
  refine⟨r,.none,qO hk,λo D Keep M O a w J l _ _ F=>?_⟩;have hlm':=λk m h=>zA (J k m h)
  obtain⟨C,z,hg⟩:=open_args F;refine qM.call (z o D d.1) ?_
  by_cases W:uy lm za=true
  .have V:zkf r=true:=by unfold zuK at V;rw[W]at V;exact V
   have j:∀b,(Keep b∨Own M O b)->b<w.heap.size:=λb j=>j.elim (l.kp b) λh=>(l.old b h).1
   have hv:Gs (λb=>(Keep b∨Own M O b)∨Own [] (λ_=>none) b) (Own [] (λ_=>none)) (λ_=>none) w (zdv lm za) C:=
    zgF hlm' l (λb h=>h.resolve_right zN) (λ_=>zN) hg (.inl W)
   refine(d.2 (λb=>Keep b∨Own M O b) (λ_=>none) w _ j (qr j λ_ _ h=>l.glc h) (λ_ _=>rfl) hv).mono ?_
   rintro e w' ⟨v,O',rfl,n,_,A⟩
   obtain⟨hs',t⟩:=l.same n.os n.tape n.output n.size λb j=>n.block b j zN
   exact⟨v,rfl,O,hs',t,zjP (λb h=>.inl h) V A,λ_ _=>rfl⟩
  have V:zjJ r=true:=by unfold zuK at V;rw[Bool.eq_false_iff.2 W]at V;exact V
  have hv:Gs (λb=>False∨Own [] (λ_=>none) b) (Own [] (λ_=>none)) (λ_=>none) w (zdv lm za) C:=
   zgF hlm' l (λb h=>(h.resolve_left id |> zN).elim) (λ_=>zN) hg (.inr λb _ h=>zN (h.resolve_left id))
  refine(d.2 (λ_=>False) (λ_=>none) w _ (λ_ h=>h.elim) (qr (λ_ h=>h.elim) λ_ _ h=>l.glc h) (λ_ _=>rfl) hv).mono ?_
  rintro e w' ⟨v,O',rfl,n,_,A⟩
  obtain⟨hs',t⟩:=l.same n.os n.tape n.output n.size λb j=>n.block b j zN
  exact⟨v,rfl,O,hs',t,zwN V A,λ_ _=>rfl⟩
 |fresh m r d hr0 hfm W hk=>
  refine⟨_,_,qO hk,λo D Keep M O a w J l hκ hκM F=>?_⟩;replace hκ:=hκ _ (Xj _) (X5 _);replace hκM:=hκM rfl;have hlm':=λk m h=>zA (J k m h)
  obtain⟨C,z,hg⟩:=open_args F;refine qM.call (z o D d.1) ?_
  have fin:∀(S0:LI),((∀b,Keep b∨Own M O b->S0 b)∨zjK m)->∀(w':World) (v:Value) (O':zh),Stp (Own [] (λ_=>none)) (Own [(0,m)] O') (λ_=>none) O' w w'->zJ S0 [(0,m)] O' w'->
    G (λb=>S0 b∨Own [(0,m)] O' b) (Own [(0,m)] O') O' w' r v->qc Keep M O w Y (mv Y r) (.push m) v w':=by
   intro S0 hS0 w' v1 O' n t A;obtain⟨v,q⟩:=(t.rel 0 m (.head _)).name
   have hownv:∀b,qf v=some b->w.heap.size<=b/\b<w'.heap.size:=λb j=>
    have D:Own [(0,m)] O' b:=⟨0,m,v,.head _,q,j⟩
    ⟨(n.own b D).resolve_left zN,(t.old b D).1⟩
   have hown0:∀b,Own [(0,m)] O' b->qf v=some b:=by
    rintro b ⟨k,R,v',h,B,y⟩
    cases h with
    |head=>rw[q]at B;cases B;exact y
    |tail _ h=>cases h
   refine qc.push (u:=v) (l.grow (λ_ h=>h) l.keys hκ hκM v m w' n.os n.tape n.output n.size (λb j _=>n.block b j zN)
    (λk m v b B y U=>n.block b (l.old b ⟨k,m,v,B,y,U⟩).1 zN)
    (λb j=>⟨.inr (hownv b j).1,(hownv b j).2,λk m v' B y U=>by have:=(l.old b ⟨k,m,v',B,y,U⟩).1;have:=(hownv b j).1;omega⟩) λhst=>?_) (mv_g q kG r hr0 A)
   rcases hS0 with hS0|hsc
   .refine jN.move (S:=λb=>S0 b∨Own [(0,m)] O' b) (Pm:=Own [(0,m)] O') (by rw[kG,q]) hfm (λs u _ hd=>.inl (hd.less λb j=>?_)) (t.rel 0 m (.head _))
    rcases j with j|⟨k,R,v',B,y,U⟩
    .exact .inl (hS0 b (.inl j))
    cases B with
    |head=>rw[kG]at y;cases y;exact .inr ⟨0,m,v,.head _,q,U⟩
    |tail _ B=>rw[zf2 (λe=>by subst e;exact hκM _ B)]at y;exact .inl (hS0 b (.inr ⟨k,R,v',B,y,U⟩))
   exact jN.scalar (by rw[kG,q]) hsc (t.rel 0 m (.head _))
  by_cases hcl':uy lm za=true
  .have j:∀b,(Keep b∨Own M O b)->b<w.heap.size:=λb j=>j.elim (l.kp b) λh=>(l.old b h).1
   have hv:Gs (λb=>(Keep b∨Own M O b)∨Own [] (λ_=>none) b) (Own [] (λ_=>none)) (λ_=>none) w (zdv lm za) C:=
    zgF hlm' l (λb h=>h.resolve_right zN) (λ_=>zN) hg (.inl hcl')
   refine(d.2 (λb=>Keep b∨Own M O b) (λ_=>none) w _ j (qr j λ_ _ h=>l.glc h) (λ_ _=>rfl) hv).mono ?_
   rintro e w' ⟨v,O',rfl,n,t,A⟩
   exact⟨v,rfl,fin _ (.inl λb h=>h) w' v O' n t A⟩
  have hsc:=W.resolve_left hcl'
  have hv:Gs (λb=>False∨Own [] (λ_=>none) b) (Own [] (λ_=>none)) (λ_=>none) w (zdv lm za) C:=
   zgF hlm' l (λb h=>(h.resolve_left id |> zN).elim) (λ_=>zN) hg (.inr λb _ h=>zN (h.resolve_left id))
  refine(d.2 (λ_=>False) (λ_=>none) w _ (λ_ h=>h.elim) (qr (λ_ h=>h.elim) λ_ _ h=>l.glc h) (λ_ _=>rfl) hv).mono ?_
  rintro e w' ⟨v,O',rfl,n,t,A⟩
  exact⟨v,rfl,fin _ (.inr hsc) w' v O' n t A⟩
 |see k r d hka hcs V hk=>
  obtain⟨T,α,enc,sz,xs,hlk⟩:=zts hka;refine⟨r,.drop k,qO hk,λo D Keep M O a w J l _ _ F=>?_⟩;have hlm':=λk m h=>zA (J k m h)
  obtain⟨C,z,hg⟩:=open_args F;refine qM.call (z o D d.1) ?_;have hmem:=hlm' k _ hlk;have hsub:∀b,(Keep b∨Own (qb M k) O b)->Keep b∨Own M O b:=λb j=>j.imp id λ⟨k',R,v',B,y,U⟩=>⟨k',R,v',qj _ B,y,U⟩
  have j:∀b,(Keep b∨Own (qb M k) O b)->b<w.heap.size:=λb j=>(hsub b j).elim (l.kp b) λh=>(l.old b h).1
  have hkk:∀v b,O k=some v->qf v=some b->¬(Keep b∨Own (qb M k) O b):=λv b Q j hSb=>by
   rcases hSb with hSb|⟨k',R,v',h4,h5,h6⟩
   .exact(l.old b ⟨k,_,v,hmem,Q,j⟩).2 hSb
   exact l.apart k _ k' R v v' b hmem (qj _ h4) (Ne.symm (vu l.keys _ h4)) Q h5 j h6
  have hv:Gs (λb=>(Keep b∨Own (qb M k) O b)∨Own [] (λ_=>none) b) (Own [] (λ_=>none)) (λ_=>none) w (zdv lm za) C:=
   ztt hlm' l hlk (λb h=>hsub b (h.resolve_right zN)) (λv b B y U=>hkk v b B y (U.resolve_right zN)) (λ_=>zN) hg hcs
  refine(d.2 (λb=>Keep b∨Own (qb M k) O b) (λ_=>none) w _ j (qr j λ_ _ h=>l.glc h) (λ_ _=>rfl) hv).mono ?_
  rintro e w' ⟨v,O',rfl,n,_,A⟩
  obtain⟨hs1,hm1⟩:=l.let_go (M1:=qb M k) (λx hx=>qj x hx) (qP l.keys);obtain⟨hs',t⟩:=hm1.same n.os n.tape n.output n.size λb j=>n.block b j zN
  exact⟨v,rfl,O,⟨n.os,n.tape,n.output,n.size,λb j _=>n.block b j zN,λb ⟨k',R,v',B,y,U⟩=>.inl ⟨k',R,v',qj _ B,y,U⟩,λ_ _ h=>h⟩,t,
   zjP (λb h=>.inl h) V A,λ_ _=>rfl⟩
 |hand k m R r hlk d hfm hfm' W V hk=>
  refine⟨r,.set k R,qO hk,λo D Keep M O a w J l _ _ F=>?_⟩;have hlm':=λk m h=>zA (J k m h)
  obtain⟨C,z,hg⟩:=open_args F;refine qM.call (z o D d.1) ?_;have I:=hlm' k m hlk;obtain⟨N,q⟩:=(l.rel k m I).name
  have hS:∀b,((Keep b∨Own M O b)/\qf N≠some b)∨Own [(0,m)] (one N) b->Keep b∨Own M O b:=λb j=>
   j.elim (λh=>h.1) λh=>.inr ⟨k,m,N,I,q,zbX.1 h⟩
  have hlt:∀b,(Keep b∨Own M O b)->b<w.heap.size:=λb j=>j.elim (l.kp b) λh=>(l.old b h).1
  have hm0:zJ (λb=>(Keep b∨Own M O b)/\qf N≠some b) [(0,m)] (one N) w:=by
   refine⟨λk' m1 h=>?_,X4.2 ⟨λ_ h=>(by cases h),List.Pairwise.nil⟩,λk1 m1 k2 m2 _ _ _ B y X=>?_,λb j=>?_,λb j=>hlt b j.1,λg v h=>⟨λD=>(l.gl g v h).1 ⟨k,m,N,I,q,zbX.1 D⟩,l.glc h⟩⟩
   .cases h with
    |head=>exact jN.move (by rw[uH,q]) hfm (λs u _ hd=>.inl (hd.less hS)) (l.rel k m I)
    |tail _ h=>cases h
   .cases B with
    |head=>cases y with
     |head=>exact absurd rfl X
     |tail _ h=>cases h
    |tail _ h=>cases h
   have:=zbX.1 j;exact⟨(l.old b ⟨k,m,N,I,q,this⟩).1,λh=>h.2 this⟩
  have hgv:=zuV (Pm':=Own [(0,m)] (one N)) hlm' l hlk q hS (λb j=>zbX.1 j) hg W
  refine(d.2 _ (one N) w _ (λb j=>hlt b j.1) hm0 (λk' hk'=>by
   have:k'≠0:=by simp at hk';omega
   simp[one,this]) hgv).mono ?_
  rintro e w' ⟨v,O',rfl,n,t,A⟩
  have hρ0:O' 0=some N:=n.rho 0 N uH
  have hown':∀b,Own [(0,R)] O' b->qf N=some b:=by
   rintro b ⟨k1,m1,v1,h,B,y⟩
   cases h with
   |head=>rw[hρ0]at B;cases B;exact y
   |tail _ h=>cases h
  have hkeys:(qN M k R).map (·.1)=M.map (·.1):=za9
  have hst:Stp (Own M O) (Own (qN M k R) O) O O w w':=
   ⟨n.os,n.tape,n.output,n.size,λb j hn=>n.block b j λD=>hn ⟨k,m,N,I,q,zbX.1 D⟩,λb j=>.inl (zav hkeys.symm j),λ_ _ h=>h⟩
  have hback:∀b,Keep b∨Own (qN M k R) O b->((Keep b∨Own M O b)/\qf N≠some b)∨Own [(0,R)] O' b:=λb j=>by
   by_cases hbv:qf N=some b
   .exact .inr ⟨0,R,N,.head _,hρ0,hbv⟩
   exact .inl ⟨j.imp id λh=>zav hkeys.symm h,hbv⟩
  refine⟨v,rfl,O,hst,zJ.next k l hst (yO hkeys l.keys) ?_ ?_ ?_,zjP hback V A,λ_ _=>rfl⟩
  .intro k' m1 B X
   obtain⟨_,y⟩|y:=jO l.keys _ B
   .refine⟨y,rfl,λv' b' Q hb'=>n.block b' (l.old b' ⟨k',m1,v',y,Q,hb'⟩).1 λD=>?_⟩;exact l.apart k' m1 k m v' N b' y I X Q q hb' (zbX.1 D)
   cases y;exact absurd rfl X
  .intro m1 B
   obtain⟨y,_⟩|y:=jO l.keys _ B
   .exact absurd rfl y
   cases y
   exact jN.move (by rw[q,hρ0]) hfm' (λs u _ hd=>.inl (hd.less hback)) (t.rel 0 R (.head _))
  intro m1 v' b' _ Q hb';rw[q]at Q;cases Q
  have D:Own M O b':=⟨k,m,N,I,q,hb'⟩;refine⟨λk' m2 v2 y X hv2 hb2=>?_,Xx (l.old b' D).1 n.size,(l.old b' D).2⟩
  obtain⟨_,U⟩|U:=jO l.keys _ y
  .exact l.apart k' m2 k m v2 N b' U I X hv2 q hb2 hb'
  cases U;exact absurd rfl X
 |give ks nn args' Mc M' r d ha hl hn hk hM V hM' hkk=>
  refine⟨_,_,qO (zgL hkk),λo D Keep M O a w J l hκ _ F=>?_⟩;obtain⟨C,z,hg⟩:=open_args F;exact qM.call (z o D d.1)<|ztq d ha hl hn hk hM V hM' J l hκ hg
def zFD{vs:LA}{S Pm:LI}{O:zh}{w:World}:Gs S Pm O w (vs.map .val) vs:=by
 refine⟨sI,λj s v b c=>?_⟩;rw[XD,c]at b
 cases b
 exact .d _ _ (.val v)
def ofV_g{v:Value}{w:World}:G S Pm O w (ofV v) v:=by
 unfold ofV
 split
 .rename_i a;have this:=zFD (vs:=a.toList) (S:=S) (Pm:=Pm) (O:=O) (w:=w);have h:=G.agg (S:=S) (Pm:=Pm) (O:=O) (w:=w) _ _ this.1 this.2
  simpa using h
 exact .d _ _ (.val v)
def zFE{vs:LA}{w:World}:Gs S Pm O w (vs.map ofV) vs:=by
 refine⟨sI,λj s v b c=>?_⟩;rw[XD,c]at b
 cases b
 exact ofV_g
def zkD:∀{cs:LR} {K:LA->Prop},zuN cs K->∃vs,K vs/\cs=vs.map .val
 |[],K,h=>⟨[],h,rfl⟩
 |.val v::cs,K,h=>by
  have h:zuN cs λvs=>K (v::vs):=h
  obtain⟨vs,b,c⟩:=zkD h;exact⟨v::vs,b,by rw[c];rfl⟩
def zwP{s:SV}{K:Value->Prop}(h:conc s K):∃v,K v/\∀{S Pm:LI} {O:zh} {w:World} {u:Value},G S Pm O w s u->u=v:=by
 cases s with
 |val v=>exact⟨v,h,λe=>e.val_inv⟩
 |agg cs=>
  obtain⟨vs,d,f⟩:=zkD h;refine⟨_,d,λe=>?_⟩;obtain⟨us,rfl,b⟩:=e.agg_inv;subst f
  have:us=vs:=by
   refine Kw λj=>?_
   have g:=b.1;rw[Xw]at g
   rcases Kc j vs.length with c|c
   .have d:=b.2 j (.val vs[j]) (us[j]'oM) (by simp[c]) sI;rw[Xb oM,Xb c,d.val_inv]
   rw[XG oM,XG c]
  rw[this]
 |_=>exact h.elim
def zkE:∀{cs:LR} {K:LA->Prop},zuO cs K->∃vs,K vs/\∀{S Pm:LI} {O:zh} {w:World} {us:LA},Gs S Pm O w cs us->us=vs
 |[],K,h=>⟨[],h,λb=>b.nil_inv⟩
 |c::cs,K,h=>by
  have h:conc c λv=>zuO cs λvs=>K (v::vs):=h
  obtain⟨v,h,f⟩:=zwP h;obtain⟨vs,h,g⟩:=zkE h;refine⟨v::vs,h,λb=>?_⟩;obtain⟨u,us,rfl,d,e⟩:=b.cons_inv;rw[f d,g e]
variable{H:LS}
def zib(hT:TOK P H){op:Op}(hlive:Live lm svs)(h:opV P H op svs lm Y K):∃r md,K r md/\yU P op svs lm Y r md:=by
 unfold opV at h
 split at h
 .rename_i x s;exact⟨s,.none,h,.pure λo y S Pm O a w e=>⟨_,by simp[execOp,y],Gs.head e⟩⟩
 .rename_i x s;exact⟨s,.none,h,.pure λo y S Pm O a w e=>⟨_,by simp[execOp,y],Gs.head e⟩⟩
 .obtain⟨r,q,z⟩:=ztl h;exact⟨r,_,q,z⟩
 .exact zqv hT h
 .exact ztr h
 .obtain⟨r,q,z⟩:=zqD hT h;exact⟨r,_,q,z⟩
 .exact zh5 hT h
 .obtain⟨r,q,z⟩:=ztn hT h;exact⟨r,_,q,z⟩
 .exact zqw hT h
 .split at h
  .exact⟨_,_,h,.pure λo y S Pm O a w e=>by
    obtain⟨b,hρ,A⟩:=(Gs.head e).loc_inv
    exact⟨_,by simp[execOp,y,A],.loc _ _ b hρ⟩⟩
  .rename_i cs
   exact⟨_,_,h,.pure λo y S Pm O a w e=>by
    have l:=Gs.head e;obtain⟨b,o',c,A,_⟩:=l.ptr_inv;rw[A]at l
    exact⟨_,by simp[execOp,y,A],l⟩⟩
  .rename_i cs
   exact⟨_,_,h,.pure λo y S Pm O a w e=>by
    have l:=Gs.head e;obtain⟨b,o',c,A,_⟩:=l.dptr_inv;rw[A]at l
    exact⟨_,by simp[execOp,y,A],l⟩⟩
  .exact⟨_,_,h,.pure λo y S Pm O a w e=>by
    have l:=Gs.head e;obtain⟨b,len,cap,_,A⟩:=l.eloc_inv;rw[A]at l
    exact⟨_,by simp[execOp,y,A],l⟩⟩
  .exact⟨_,_,h,.pure λo y S Pm O a w e=>by
    have l:=Gs.head e;obtain⟨v,A,_⟩:=l.ifc_inv;rw[A]at l
    exact⟨_,by simp[execOp,y,A],l⟩⟩
  exact h.elim
 .obtain⟨r,q,z⟩:=zwJ hT h;exact⟨r,_,q,z⟩
 .obtain⟨r,q,z⟩:=zy0 h;exact⟨r,_,q,z⟩
 .rename_i src t x s;replace h:=zE h;obtain⟨i0,N,h⟩:=h;obtain⟨X,I⟩:=(hT src i0 N).und;replace h:=zE h;obtain⟨i,hi,h⟩:=h;have G:=(hT t i hi).kind
  split at h
  .rename_i k k' n hkind;rw[hkind]at G;have G:P.underlying t=some (.int k):=G;refine⟨_,_,vf h,.pure λo y S Pm O a w e=>⟨.int k (k.wrap n),?_,(zaM.val _).g⟩⟩;have A:=(Gs.head e).val_inv;simp[execOp,y,A,convert,run_underlying I,run_underlying G,Conv.intToInt]
  exact h.elim
 .rename_i fn first caps
  split at h
  .rename_i f
   split at h
   .rename_i C;refine⟨_,_,h,.pure λo y S Pm O a w e=>?_⟩;have F:first=#[]:=by simpa using C
    subst F;replace e:Gs S Pm O w svs (caps.toList.map a.eval):=e;refine⟨.func (.func f) #[] (caps.toList.map a.eval).toArray,?_,.fn f _ _ e.1 e.2⟩;have C:caps.map a.eval=(caps.toList.map a.eval).toArray:=by apply QX;simp
    rw[←C];simp[execOp,y,Instr.makeFunc]
   replace h:=zj h;obtain⟨C,h⟩:=h
   split at h
   rotate_left
   .replace h:=zj h;obtain⟨J,h⟩:=h;have F:caps=#[]:=by simpa using C
    subst F;refine⟨_,_,h,.pure λo y S Pm O a w e=>?_⟩;have e:Gs S Pm O w svs ((first.toList++[]).map a.eval):=e;rw[XC]at e;refine⟨.func (.func f) (first.toList.map a.eval).toArray #[],?_,.d _ _ (.bm f _ _ e.1 λj s v q z=>uV (yP J j s q) (e.2 j s v q z))⟩;have C:first.map a.eval=(first.toList.map a.eval).toArray:=by apply QX;simp
    rw[←C];simp[execOp,y,Instr.makeFunc]
   obtain⟨vs,h,q⟩:=zkE h;have F:caps=#[]:=by simpa using C
   subst F;refine⟨_,_,h,.pure λo y S Pm O a w e=>⟨_,?_,.d _ _ (.val _)⟩⟩;have e:Gs S Pm O w svs ((first.toList++[]).map a.eval):=e;rw[XC]at e;have C:first.map a.eval=vs.toArray:=by apply QX;simpa using q e
   simp[execOp,y,Instr.makeFunc,C]
  exact h.elim
 .exact zjE hT h
 .exact zoW hT h
 .obtain⟨r,q,z⟩:=zjC hT h;exact⟨r,_,q,z⟩
 .obtain⟨r,q,z⟩:=zqz hT h;exact⟨r,_,q,z⟩
 .obtain⟨r,q,z⟩:=zjD hT h;exact⟨r,_,q,z⟩
 .obtain⟨r,q,z⟩:=zqA hT h;exact⟨r,_,q,z⟩
 .rename_i x n s
  split at h
  .rename_i vs
   split at h
   .rename_i v r U;refine⟨_,_,qO h,.pure λo y S Pm O a w e=>?_⟩;obtain⟨us,A,R⟩:=(Gs.head e).tup_inv;have l:=R.drop n;rw[U]at l;obtain⟨u,W,V,q,_⟩:=l.cons_inv
    have Q:us[n]?=some u:=by
     have:(us.drop n)[0]?=some u:=by rw[V];rfl
     simpa using this
    exact⟨u,by simp[execOp,y,A,Instr.extract,Q],q⟩
   exact h.elim
  exact h.elim
 .obtain⟨r,q,z⟩:=zmK hT h;exact⟨r,_,q,z⟩
 .exact zmJ hT h
 .exact(zgH hT h).1
 .exact(zgH hT h).2
 .obtain⟨r,q,z⟩:=zoU hT h;exact⟨r,_,q,z⟩
 .rename_i svs c
  split at h
  .rename_i fx D
   split at h
   .rename_i f caps args;refine zcW (λ{S Pm O a w} l=>?_) h;have l:Gs S Pm O w (.fn f caps::args) (a.eval fx::c.args.toList.map a.eval):=by simpa[qi,D,zeN] using l
    obtain⟨cv,q,z⟩:=l.head.fn_inv;exact⟨_,λo y B=>zgG (fs:=[]) y D q rfl B,l.tail.append z⟩
   .rename_i f first args
    refine zcW (λ{S Pm O a w} l=>?_) h;have l:Gs S Pm O w (.val (.func (.func f) first ⟨[]⟩)::args) (a.eval fx::c.args.toList.map a.eval):=by simpa[qi,D,zeN] using l
    refine⟨first.toList++(_++[]),λo y B=>zgG (fs:=first.toList) (caps:=[]) y D l.head.val_inv rfl B,zFE.append ?_⟩;rw[XC];exact l.tail
   .rename_i f caps args;refine zcW (λ{S Pm O a w} l=>?_) h;have l:Gs S Pm O w (.dfn f caps::args) (a.eval fx::c.args.toList.map a.eval):=by simpa[qi,D,zeN] using l
    obtain⟨cv,q,z⟩:=l.head.dfn_inv;exact⟨_,λo y B=>zgG (fs:=[]) y D q rfl B,l.tail.append z⟩
   .rename_i f first args
    refine zcW (λ{S Pm O a w} l=>?_) h;have l:Gs S Pm O w (.bm f first::args) (a.eval fx::c.args.toList.map a.eval):=by simpa[qi,D,zeN] using l
    obtain⟨fv,q,z⟩:=l.head.bm_inv;refine⟨fv++(_++[]),λo y B=>zgG (fs:=fv) (caps:=[]) y D q rfl B,z.append ?_⟩;rw[XC];exact l.tail
   exact h.elim
  .exact h.elim
  rename_i b T;exact zmI hT T hlive h
 exact h.elim
variable{L:LP}
def zcX{x:Operand}{K:SV->Prop}(h:ev L x K):
  ∃s,K s/\∀{S Pm:LI} {O:zh} {a:Act} {w:World},(∀t s,x=.tmp t->kF L t=some s->G S Pm O w s (a.tmps.getD t undef))->G S Pm O w s (a.eval x):=by
 unfold ev at h
 split at h
 .split at h
  .rename_i t _ s c;exact⟨s,qO h,λb=>b _ _ rfl c⟩
  exact h.elim
 .exact⟨_,qO h,λ_=>.d _ _ (.val _)⟩
 .exact⟨_,h,λ_=>.fn _ [] [] rfl λj s v h=>by simp at h⟩
 exact h.elim
def zgM{L:LP}:∀{xs:List Operand} {K:LR->Prop},evs L xs K->
  ∃svs,K svs/\∀{S Pm:LI} {O:zh} {a:Act} {w:World},(∀t s,t∈zhY xs->kF L t=some s->G S Pm O w s (a.tmps.getD t undef))->Gs S Pm O w svs (xs.map a.eval)
 |[],K,h=>⟨[],h,λ_=>.nil⟩
 |x::xs,K,h=>by
  obtain⟨s,h,d⟩:=zcX h;obtain⟨svs,h,f⟩:=zgM h;refine⟨s::svs,h,λc=>.cons (d λt s e b=>c t s ?_ b) (f λt s ht b=>c t s ?_ b)⟩
  .subst e;exact .head _
  cases x <;> first|exact .tail _ ht|exact ht
variable{M:LT}
def zbr{k:Nat}(h:zaZ M Y k=some m):k<Y/\zW M k=some m:=by
 unfold zaZ at h
 split at h
 .rename_i b;exact⟨Xz b,h⟩
 cases h
def qD{d:Option Tmp}{nt:Nat}{K:Prop}(h:zm1 d nt K):(∀t,d=some t->t<nt)/\K:=by
 unfold zm1 at h
 split at h
 .obtain⟨b,c⟩:=zj h;exact⟨λt e=>by cases e;exact Xz b,c⟩
 exact⟨λt e=>(by cases e),h⟩
def zFF:MD->Bool
 |.give _ _ _=>true
 |_=>false
def MdOK(all:List Oper)(i Y:Nat)(op:Op)(md:MD):Prop:=
 (isW op=true/\((∀k,md≠.drop k)/\zFF md=false)/\∀k m,(md=.set k m∨md=.repl k m)->k<Y)∨md=.none∨((∃m,md=.push m)/\(zdP op=true∨zoL all i=true))
variable{draw:Bool}{i:Nat}{md:MD}
def zqN{all:List Oper}{op:Op}{K:Prop}(h:mdV draw all i Y op md K):K/\(draw=true->MdOK all i Y op md):=by
 unfold mdV at h
 split at h
 .exact⟨h,λe=>by cases e⟩
 split at h
 .rename_i j
  split at h
  .exact h.elim
  .obtain⟨b,c⟩:=zj h;exact⟨c,λ_=>.inl ⟨j,⟨λk e=>(by cases e),rfl⟩,λk m e=>by rcases e with e|e <;> cases e;exact Xz b⟩⟩
  .obtain⟨b,c⟩:=zj h;exact⟨c,λ_=>.inl ⟨j,⟨λk e=>(by cases e),rfl⟩,λk m e=>by rcases e with e|e <;> cases e;exact Xz b⟩⟩
  .exact h.elim
  rename_i n d f g;exact⟨h,λ_=>.inl ⟨j,⟨λk e=>n k e,by cases md <;> first|rfl|exact absurd rfl (g _ _ _)⟩,λk m e=>e.elim (λe=>absurd e (d k m)) (λe=>absurd e (f k m))⟩⟩
 split at h
 .exact⟨h,λ_=>.inr (.inl rfl)⟩
 .split at h
  .exact⟨h,λ_=>.inr (.inr ⟨⟨_,rfl⟩,.inl ‹_›⟩)⟩
  obtain⟨o,l⟩|h:=h
  .exact⟨l,λ_=>.inr (.inr ⟨⟨_,rfl⟩,.inr o⟩)⟩
  exact h.elim
 exact h.elim
def zCR{P:Program}{H:LS}{op:Op}{svs:LR}{lm lm':LJ}{Y:Nat}{K:LD}(b:zdw op=false)(h:opV P H op svs lm Y K):opV P H op svs lm' Y K:=by
 cases op <;> first|(simp[zdw]at b;done)|(rcases svs with _|⟨_,_|⟨_,_|⟨_,_|_⟩⟩⟩ <;> exact h)
variable{a:Act}
def qM.ex{o:Oper}{w:World}{R:Value->World->Prop}(h:qM P o a w R):∃v w',R v w':=by
 unfold qM Oper.wp at h;generalize (execOp a.eval o).run P w=r at*
 cases r with
 |ok n w'=>
  cases n <;> simp only[Oper.upon]at h
  case value v=>obtain⟨u,e,b⟩:=h;exact⟨u,w',b⟩
  case skip=>obtain⟨u,e,b⟩:=h;exact⟨u,w',b⟩
  case defer d=>obtain⟨u,e,b⟩:=h;exact⟨u,w',b⟩
  case enter f args=>
   obtain⟨e,w'',fr,hR,_⟩:=h []
   cases e with
   |returned v=>obtain⟨u,e,b⟩:=hR;exact⟨u,w'',b⟩
   |panicked c=>exact hR.elim
   |outgrown=>obtain⟨_,_,g⟩:=hR;exact g.elim
  case row row args=>
   obtain⟨v,w'',hR,_⟩:=h default [];obtain⟨u,e,b⟩:=hR;exact⟨u,w'',b⟩
 |halt x w'=>cases x <;> simp only[Oper.upon]at h
def zU{d t:Nat}{s:SV}:kF ((d,s)::L) t=if d=t then some s else kF L t:=by
 simp only[kF]
 by_cases h:d=t
 .subst h;simp[K4]
 have:Nat.beq d t=false:=by
  cases b:Nat.beq d t with
  |false=>rfl
  |true=>exact absurd (Xk b) h
 simp[this,h]
def zgN{d t:Nat}{v:Value}(h:d<a.tmps.size):(a.put (some d) v).tmps.getD t undef=if d=t then v else a.tmps.getD t undef:=by
 simp only[Act.put]
 by_cases b:d=t
 .subst b;simp[h]
 simp[b]
def Rel.app{E:Env}{Z:St}{O:zh}{a:Act}{w w':World}{d:Option Tmp}{s:SV}{md:MD}{v:Value}(h:Rel E Z O a w)(o:∀t,d=some t->t<Z.nt)(n:qc E.Keep Z.M O w Z.nk s md v w'):∃O',Rel E (Z.app d s md) O' (a.put d v) w':=by
 obtain⟨O',j,l,q,hρ⟩:=n;refine⟨O',?_⟩
 have hregs:∀t s,kF Z.L t=some s->t<Z.nt/\G (λb=>E.Keep b∨Own (zdD Z.M Z.nk md) O' b) (Own (zdD Z.M Z.nk md) O') O' w' s (a.tmps.getD t undef):=λt s c=>
  ⟨(h.regs t s c).1,((h.regs t s c).2).stp j⟩
 have hfresh:∀k,zb5 Z.nk md<=k->O' k=none:=λk r=>by
  have u:Z.nk<=zb5 Z.nk md:=by cases md <;> simp[zb5]
  rw[hρ k (.inr r)];exact h.fresh k oM
 cases d with
 |none=>exact⟨h.size,h.defers,hregs,l,hfresh,h.stp.trans j,h.keep,h.low⟩
 |some d=>
  have g:=o d rfl;refine⟨by have:=h.size;simpa[Act.put,St.app] using this,h.defers,λt s' f=>?_,l,hfresh,h.stp.trans j,h.keep,h.low⟩;have c:(if d=t then some s else kF Z.L t)=some s':=by rw[←zU];exact f
  clear f;rw[zgN (by rw[h.size];exact g)]
  by_cases e:d=t
  .subst e;rw[Xe rfl]at c;cases c
   rw[Xe rfl];exact⟨g,q⟩
  rw[Xc e]at c ⊢;exact hregs t s' c
variable{E:Env}{Z:St}
def Rel.noKey{w:World}(h:Rel E Z O a w):∀m,(Z.nk,m)∉Z.M:=λm c=>by
 obtain⟨v,b⟩:=(h.mem.rel _ m c).name;rw[h.fresh _ (Xj _)]at b;cases b
def uX{Keep:LI}{w:World}(b:zJ Keep M O w):qc Keep M O w Y (.val undef) .none undef w:=qc.same b (.d _ _ (.val _))
structure znc (P:Program) (draw:Bool) (all:List Oper) (i:Nat) (o:Oper) (Z:St) (svs:LR) (s:SV) (md:MD):Prop where
 ok:yU P o.op svs (if zdw o.op then zaZ Z.M Z.nk else λ_=>none) Z.nk s md
 ev:∀{S Pm:LI} {O:zh} {a:Act} {w:World},(∀t s,t∈zhY (qi o.op)->kF Z.L t=some s->G S Pm O w s (a.tmps.getD t undef))->Gs S Pm O w svs ((qi o.op).map a.eval)
 dst:∀t,o.dst=some t->t<Z.nt
 md:draw=true->MdOK all i Z.nk o.op md
def zwQ(hT:TOK P H){all:List Oper}{o:Oper}{K:St->Prop}{w:World}(g:Rel E Z O a w)(h:zdU P H draw all i o Z K):∃svs s md,K (Z.app o.dst s md)/\znc P draw all i o Z svs s md:=by
 unfold zdU at h;replace h:=zfZ h;obtain⟨svs,h,b⟩:=zgM h;have l:=b (a:=a) (λt s _ n=>(g.regs t s n).2);have f:∀k m,zaZ Z.M Z.nk k=some m->zW Z.M k=some m:=λk m h=>(zbr h).2
 cases j:zdw o.op with
 |true=>
  obtain⟨s,md,hK,d⟩:=zib hT ⟨E.Keep,Z.M,O,w,_,f,g.mem,l⟩ h;obtain⟨hK,c⟩:=zqN (zdT (zdS hK));obtain⟨e,hK⟩:=qD hK;exact⟨svs,s,md,hK,by simpa[j] using d,b,e,c⟩
 |false=>
  obtain⟨s,md,hK,d⟩:=zib hT ⟨E.Keep,Z.M,O,w,_,λk m h=>(by cases h),g.mem,l⟩ (zCR (lm':=λ_=>none) j h);obtain⟨hK,c⟩:=zqN (zdT (zdS hK));obtain⟨e,hK⟩:=qD hK;exact⟨svs,s,md,hK,by simpa[j] using d,b,e,c⟩
def znc.does{all:List Oper}{o:Oper}{s:SV}(h:znc P draw all i o Z svs s md){w:World}(c:Rel E Z O a w):qM P o a w (qc E.Keep Z.M O w Z.nk s md):=by
 refine h.ok o rfl E.Keep Z.M O a w (λk m b=>?_) c.mem (λk b _=>c.fresh k b) (λ_=>c.noKey) (h.ev λt s _ d=>(c.regs t s d).2)
 split at b
 .exact(zbr b).2
 cases b
def Rel.refine{w:World}(h:Rel E Z O a w){t:Nat}{s s':SV}(f:kF Z.L t=some s)(j:∀S Pm O w v,G S Pm O w s v->G S Pm O w s' v):Rel E (Z.put (some t) s') O a w:=
 ⟨h.size,h.defers,λd g c=>by
  have b:(if t=d then some s' else kF Z.L d)=some g:=by rw[←zU];exact c
  clear c
  by_cases e:t=d
  .subst e;rw[Xe rfl]at b;cases b
   exact⟨(h.regs t s f).1,j _ _ _ _ _ (h.regs t s f).2⟩
  rw[Xc e]at b
  exact h.regs d g b,h.mem,h.fresh,h.stp,h.keep,h.low⟩
variable{p:Prop}
def zcY{i:Decidable p}(b:p):∀S Pm O w v,G S Pm O w (.pr p i) v->G S Pm O w (.val (.bool true)) v:=λ_ _ _ _ v h=>by
 rw[h.pr_inv];simp only[b,decide_true];exact .d _ _ (.val _)
def zbs{i:Decidable p}(b:¬p):∀S Pm O w v,G S Pm O w (.pr p i) v->G S Pm O w (.val (.bool false)) v:=λ_ _ _ _ v h=>by
 rw[h.pr_inv];simp only[b,decide_false];exact .d _ _ (.val _)
def zuW(v:Value)(want:Bool):Bool:=
 match v with
 |.bool b=>b==want
 |_=>false
def q9(all:List Oper)(Z:St)(o:Oper)(run:Bool):Prop:=
 match o.guard with
 |none=>run=true
 |some (j,want)=>∃t v,zdQ all j=some t/\kF Z.L t=some (.val v)/\run=zuW v want
def zy3(all:List Oper)(j:Nat):zdQ all j=(all[j]?).bind (·.dst):=by
 induction all generalizing j with
 |nil=>simp[zdQ]
 |cons o r b=>cases j with
  |zero=>simp[zdQ]
  |succ j=>simp[zdQ,b]
def znd{all:List Oper}{o:Oper}{run:Bool}(h:q9 all Z o run)(g:a.tmps.size=Z.nt)(s:∀t v,(∃j want,o.guard=some (j,want)/\zdQ all j=some t)->kF Z.L t=some (.val v)->t<Z.nt/\a.tmps.getD t undef=v):Region.wanted o (yielded all.toArray a.tmps)=run:=by
 unfold q9 at h;unfold Region.wanted
 split at h
 .rename_i u;simp[u,h]
 rename_i j want c;obtain⟨t,v,d,l,n⟩:=h;obtain⟨q,k⟩:=s t v ⟨j,want,c,d⟩ l
 have r:a.tmps[t]?=some v:=by
  have f:t<a.tmps.size:=g ▸ q;simp[f]at k ⊢;exact k
 rw[zy3]at d;simp only[c,yielded];have e:((all.toArray)[j]?).bind (·.dst)=some t:=by simpa using d
 rw[e];simp only[Option.bind_some,r,n]
 cases v <;> first|rfl|(rename_i b;cases b <;> cases want <;> rfl)
def zgO(hT:TOK P H){all:List Oper}{o:Oper}{r:List Oper}{K:St->Prop}{w:World}(u:Rel E Z O a w)(h:ve P H draw all (o::r) i Z K):∃Z' run svs s md,ve P H draw all r (i+1) (Z'.app o.dst s md) K/\q9 all Z' o run/\
   (Z'=Z∨∃t y q,kF Z.L t=some y/\(∀S Pm O w v,G S Pm O w y v->G S Pm O w q v)/\Z'=Z.put (some t) q)/\(∀t,o.dst=some t->t<Z.nt)/\
   ((run=true/\znc P draw all i o Z' svs s md)∨(run=false/\s=.val undef/\md=.none)):=by
 have run1:∀{Z':St},Rel E Z' O a w->zdU P H draw all i o Z' (λZ=>ve P H draw all r (i+1) Z K)->Z'.nt=Z.nt->∃svs s md,ve P H draw all r (i+1) (Z'.app o.dst s md) K/\(∀t,o.dst=some t->t<Z.nt)/\znc P draw all i o Z' svs s md:=by
  intro Z' g z A;obtain⟨svs,s,md,f,d⟩:=zwQ hT g z;exact⟨svs,s,md,f,λt e=>A ▸ d.dst t e,d⟩
 simp only[ve]at h
 split at h
 .rename_i x;obtain⟨svs,s,md,f,d,l⟩:=run1 u h rfl;exact⟨Z,true,svs,s,md,f,by simp[q9,x],.inl rfl,d,.inl ⟨rfl,l⟩⟩
 rename_i j want x
 split at h
 .exact h.elim
 rename_i t ht
 have gv:∀{Z':St} {v:Value},kF Z'.L t=some (.val v)->q9 all Z' o (zuW v want):=λc=>by
  unfold q9;rw[x];exact⟨t,_,ht,c,rfl⟩
 have gi:∀{Z':St} {b:Bool},kF Z'.L t=some (.val (.bool b))->q9 all Z' o (b==want):=λc=>gv c
 have put_look:∀(q:SV),kF (Z.put (some t) q).L t=some q:=λq=>by
  show kF ((t,q)::Z.L) t=some q;rw[zU];simp
 split at h
 .rename_i c
  split at h
  .obtain⟨svs,s,md,f,d,l⟩:=run1 u h rfl;exact⟨Z,_,svs,s,md,f,gi c,.inl rfl,d,.inl ⟨rfl,l⟩⟩
  obtain⟨n,h⟩:=qD h;exact⟨Z,_,[],_,_,h,gi c,.inl rfl,n,.inr ⟨rfl,rfl,rfl⟩⟩
 .rename_i c
  split at h
  .obtain⟨svs,s,md,f,d,l⟩:=run1 u h rfl;exact⟨Z,_,svs,s,md,f,gi c,.inl rfl,d,.inl ⟨rfl,l⟩⟩
  obtain⟨n,h⟩:=qD h;exact⟨Z,_,[],_,_,h,gi c,.inl rfl,n,.inr ⟨rfl,rfl,rfl⟩⟩
 .rename_i p ip c
  by_cases k:p
  .have g:=u.refine c (zcY k)
   split at h
   .obtain⟨svs,s,md,f,d,l⟩:=run1 g (h.yes k) rfl;exact⟨_,_,svs,s,md,f,gi (put_look _),.inr ⟨t,_,_,c,zcY k,rfl⟩,d,.inl ⟨rfl,l⟩⟩
   obtain⟨n,h⟩:=qD (h.yes k);exact⟨_,_,[],_,_,h,gi (put_look _),.inr ⟨t,_,_,c,zcY k,rfl⟩,n,.inr ⟨rfl,rfl,rfl⟩⟩
  have g:=u.refine c (zbs k)
  split at h
  .obtain⟨n,h⟩:=qD (h.no k);exact⟨_,_,[],_,_,h,gi (put_look _),.inr ⟨t,_,_,c,zbs k,rfl⟩,n,.inr ⟨rfl,rfl,rfl⟩⟩
  obtain⟨svs,s,md,f,d,l⟩:=run1 g (h.no k) rfl;exact⟨_,_,svs,s,md,f,gi (put_look _),.inr ⟨t,_,_,c,zbs k,rfl⟩,d,.inl ⟨rfl,l⟩⟩
 .rename_i c;obtain⟨n,h⟩:=qD h;exact⟨Z,_,[],_,_,h,gv c,.inl rfl,n,.inr ⟨rfl,rfl,rfl⟩⟩
 exact h.elim
def Rel.wanted{E:Env}{Z:St}{O:zh}{a:Act}{w:World}(h:Rel E Z O a w){all:List Oper}{o:Oper}{run:Bool}(c:q9 all Z o run):Region.wanted o (yielded all.toArray a.tmps)=run:=
 znd c h.size λt _ _ b=>⟨(h.regs t _ b).1,(h.regs t _ b).2.val_inv⟩
def zjQ{P:Program}{H:LS}(hT:TOK P H){all:List Oper}{draw:Bool}{E:Env}{Q:LF}{K:St->Prop}(hQ:∀Z O a w,K Z->Rel E Z O a w->Q .normal a w):∀{l:List Oper} {i:Nat} {Z:St} {O:zh} {a:Act} {w:World},Rel E Z O a w->ve P H draw all l i Z K->wpList P all.toArray Q l a w
 |[],i,Z,O,a,w,d,h=>hQ Z O a w h d
 |o::r,i,Z,O,a,w,d,h=>by
  obtain⟨Z',run,svs,s,md,j,x,href,q,f⟩:=zgO hT d h
  have b:Rel E Z' O a w:=by
   rcases href with rfl|⟨t,y,z,k,n,rfl⟩
   .exact d
   exact d.refine k n
  have c:Z'.nt=Z.nt:=by rcases href with rfl|⟨t,y,z,k,n,rfl⟩ <;> rfl
  unfold wpList;rw[b.wanted x]
  obtain⟨rfl,g⟩|⟨rfl,rfl,rfl⟩:=f
  .simp only[if_true];refine .inl ((g.does b).wp λv w' u=>?_);obtain⟨O',hrel⟩:=b.app (λt e=>c ▸ q t e) u;exact zjQ hT hQ hrel j
  simp only[KF,if_false];obtain⟨O',hrel⟩:=b.app (λt e=>c ▸ q t e) (uX b.mem);exact zjQ hT hQ hrel j
end Go.Gs
