/- Calls by contract. -/
import Derived.Test.YtdkomlilfdbahaaGreatDoorMAF
import Derived.MapKept
import Derived.ChangeMaps4
set_option maxRecDepth 100000
set_option maxHeartbeats 80000000
set_option linter.all false
namespace Go.Gs
section zkE
variable{lm:LJ}{Keep:LI}{M:LT}{Z:zh}{w:World}{S':LI}
section
def D.less{S:LI}(h:∀b,S' b->S b){s:SV}{v:Value}(d:D S w s v):D S' w s v:=d.mono (Xj _) λb _ c=>⟨λa=>c (h b a),rfl⟩
def win_d{α:Type}{enc:α->LR}{sz:Nat}{xs:List α}{b len cap cap' lo n:Nat}(v:b<w.heap.size)(hS:¬S' b)(d:∀x∈xs,(enc x).length=sz)(A:D S' w (.sl enc xs) (.slice (some ⟨b,0,none⟩) len cap))(t:lo+n<=len)(h:n<=cap')(f:len=xs.length):
  D S' w (.sl enc ((xs.drop lo).take n)) (.slice (some ⟨b,lo*sz,none⟩) n cap'):=by
 have C:((xs.drop lo).take n).length=n:=by simp;omega
 have g:∀x∈(xs.drop lo).take n,x∈xs:=λx a=>K5 (XP a)
 obtain⟨rfl,_⟩|⟨q,G,o,cp,c,e,_,_,y,_,hsz',z,B⟩:=A.sl_inv
 .have E:n=0:=by simp at f;omega
  subst E;have:=D.sl (S:=S') (w:=w) enc (([]:List α).drop lo |>.take 0) sz b (lo*sz) cap' (λ_ _=>undef) v hS sI sI sI (λi j hi=>by simp at hi) (λi j x s a=>by simp at a)
  simpa using this
 cases e
 have k:∀i x,((xs.drop lo).take n)[i]?=some x->xs[lo+i]?=some x:=by
  intro i x a;rw[XM]at a
  split at a
  .simpa using a
  cases a
 have F:0<n->q=sz:=λJ=>by
  have t:=Xb (show lo<xs.length by omega);have h:=Xf t;rw[←d _ h,←hsz' _ h]
 have:=D.sl (S:=S') (w:=w) enc ((xs.drop lo).take n) sz b (lo*sz) cap' (λi j=>c (lo+i) j) v hS oM oM (λx a=>d x (g x a)) (λi j hi H=>by
  have p:=F oM;have u:=z (lo+i) j oM oM;rw[Kd,p,Kb]at u
  exact u) (λi j x s a l=>B (lo+i) j x s (k i x a) l)
 rwa [C]at this
def zvq(d:∀k m,lm k=some m->(k,m)∈M)(q:zI Keep M Z w)(a:∀b,S' b->Keep b∨Own M Z b){s:SV}{v:Value}(e:G (λb=>Keep b∨Own M Z b) (Own M Z) Z w s v)(l:yf s=true∨∀b,Own M Z b->¬S' b):D S' w (zve lm s) v:=by
 unfold zve
 split
 .rename_i k;have o:∀b,Own M Z b->¬S' b:=l.resolve_left (by simp[yf])
  split
  .rename_i T α enc sz xs c;exact zgT q (d k _ c) a (λv b h i=>o b ⟨k,_,v,d k _ c,h,i⟩) e.own_inv.1
  exact .junk v
 .rename_i f;obtain⟨vs,rfl,g⟩:=e.fn_inv;rw[g.nil_inv];exact .val _
 split
 .rename_i p;exact(uY p e).less a
 exact .junk v
def zkP(a:LR)(j:Nat):(zcW lm a)[j]?=(a[j]?).map (zve lm):=by
 induction a generalizing j with
 |nil=>simp[zcW]
 |cons c a b=>cases j with
  |zero=>simp[zcW]
  |succ j=>simp[zcW,b]
def zkQ(a:LR):(zcW lm a).length=a.length:=by
 induction a with
 |nil=>rfl
 |cons c a b=>simp[zcW,b]
variable{Pm':LI}{Z':zh}
def zpi(l:∀k m,lm k=some m->(k,m)∈M)(C:zI Keep M Z w)(p:∀b,S' b->Keep b∨Own M Z b){s:SV}{v:Value}(E:G (λb=>Keep b∨Own M Z b) (Own M Z) Z w s v)(O:zcX lm s=true∨∀b,Own M Z b->¬S' b)(hP:∀b,¬Own M Z b->¬Pm' b)(hP2:∀k off b,s=.loc k off->Z k=some (.pointer (some ⟨b,0,none⟩))->¬Pm' b):G S' Pm' Z' w (zjr lm s) v:=by
 unfold zjr
 split
 .rename_i k off
  split
  .rename_i T J a;obtain⟨b,vs,q,F,B,D,t⟩:=C.rel k _ (l k _ a);obtain⟨b',hρ',rfl⟩:=E.loc_inv;rw[q]at hρ';cases hρ'
   refine .ptr _ b off (λj=>(vs[off+j]?).getD undef) (C.old b ⟨k,_,_,l k _ a,q,rfl⟩).1 (hP2 k off b rfl q) (λj hj=>?_) (λj s H=>?_)
   .have u:off+j<vs.length:=by simp[zkQ]at hj;omega
    rw[Xb u];exact⟨by rw[zcq F,Xb u];rfl,D _ (X5 u)⟩
   simp only[KK,zkP]at H
   cases i:J[off+j]? with
   |none=>simp[i]at H
   |some c=>
    simp[i]at H;subst H;have u:off+j<vs.length:=by rw[B];exact(Xd.1 i).1
    rw[Xb u];refine zvq l C p (t _ c _ i (Xb u)) (O.imp (λh=>?_) id);simp only[zcX,a]at h;exact yT h _ c i
  exact .d _ _ (.junk v)
 .rename_i k;have Q:∀b,Own M Z b->¬S' b:=O.resolve_left (by simp[zcX,yf])
  split
  .rename_i T α enc sz xs a;exact .d _ _ (zgT C (l k _ a) p (λv b y z=>Q b ⟨k,_,v,l k _ a,y,z⟩) E.own_inv.1)
  exact .d _ _ (.junk v)
 .rename_i k sz lo n;have Q:∀b,Own M Z b->¬S' b:=O.resolve_left (by simp[zcX,yf])
  split
  .rename_i T α enc sz' xs a
   split
   .rename_i R;have:=Xk R;subst this;obtain⟨b,len,cap,cap',q,rfl,y,z⟩:=E.win_inv;have X:=zgT C (l k _ a) p (λv b y z=>Q b ⟨k,_,v,l k _ a,y,z⟩) q;have V:Own M Z b:=⟨k,_,_,l k _ a,q,rfl⟩;obtain⟨v',cells,hρ',N,B,D,L,t⟩:=C.rel k _ (l k _ a);rw[q]at hρ';cases hρ'
    refine .d _ _ (win_d (C.old b V).1 (Q b V) L X y z ?_)
    obtain⟨e,_⟩|⟨g,cap,W,e,_⟩:=N.2 <;> cases e
    rfl
   exact .d _ _ (.junk _)
  exact .d _ _ (.junk _)
 .rename_i J;obtain⟨vs,rfl,A⟩:=E.agg_inv;refine .agg _ vs (by rw[zkQ];exact A.1) λj s v y z=>?_
  rw[zkP]at y
  cases i:J[j]? with
  |none=>simp[i]at y
  |some c=>
   simp[i]at y;subst y;exact .d _ _ (zvq l C p (A.2 j c v i z) (O.imp (λh=>yT h j c i) id))
 .rename_i J;obtain⟨b,o,c,rfl,R,U,y,z⟩:=E.ptr_inv;exact .ptr J b o c R (hP b U) y λj s H=>(z j s H).less p
 .rename_i f;obtain⟨vs,rfl,A⟩:=E.fn_inv;rw[A.nil_inv];exact .fn f [] [] rfl λj s v h=>by simp at h
 split
 .rename_i hf;exact .d _ _ ((uY hf E).less p)
 exact .d _ _ (.junk v)
def zgW(g:∀k m,lm k=some m->(k,m)∈M)(i:zI Keep M Z w)(d:∀b,S' b->Keep b∨Own M Z b){Pm':LI}(hP:∀b,¬Own M Z b->¬Pm' b){Z':zh}:∀{f:LR} {vs:LA},
  (∀k off b,.loc k off∈f->Z k=some (.pointer (some ⟨b,0,none⟩))->¬Pm' b)->Gs (λb=>Keep b∨Own M Z b) (Own M Z) Z w f vs->(zcY lm f=true∨∀b,Own M Z b->¬S' b)->Gs S' Pm' Z' w (zkD lm f) vs
 |[],vs,_,h,_=>by rw[h.nil_inv];exact .nil
 |c::f,vs,hP2,h,a=>by
  obtain⟨v,q,rfl,l,o⟩:=h.cons_inv
  have key:(zcX lm c=true∨∀b,Own M Z b->¬S' b)/\(zcY lm f=true∨∀b,Own M Z b->¬S' b):=by
   rcases a with a|a
   .simp only[zcY]at a
    split at a
    .exact⟨.inl ‹_›,.inl a⟩
    cases a
   exact⟨.inr a,.inr a⟩
  exact .cons (zpi g i d l key.1 hP λk off b e=>hP2 k off b (e ▸ .head _)) (zgW g i d hP (λk off b p=>hP2 k off b (.tail _ p)) o key.2)
def zkR(d:∀k m,lm k=some m->(k,m)∈M)(q:zI Keep M Z w)(c:∀b,S' b->Keep b∨Own M Z b){s:SV}{v:Value}(p:G (λb=>Keep b∨Own M Z b) (Own M Z) Z w s v)(o:uC lm [s]=true∨∀b,Own M Z b->¬S' b)(hP:∀b,¬Own M Z b->¬Pm' b)(hP2:∀k off b,(s=.loc k off∨∃f g,s=.fn f g/\.loc k off∈g)->Z k=some (.pointer (some ⟨b,0,none⟩))->¬Pm' b):G S' Pm' Z' w (zkE lm s) v:=by
 unfold zkE
 split
 .rename_i f g;obtain⟨vs,rfl,l⟩:=p.fn_inv
  have h:=zgW (S':=S') (Pm':=Pm') (Z':=Z') d q c hP (λk off b t=>hP2 k off b (.inr ⟨_,_,rfl,t⟩)) l (o.imp (λh=>by
   simp only[uC]at h
   split at h
   .assumption
   cases h) id)
  exact .fn f _ vs h.1 h.2
 rename_i i;refine zpi d q c p (o.imp (λh=>?_) id) hP (λk off b e=>hP2 k off b (.inl e));unfold uC at h
 split at h
 .rename_i a;cases a
 .rename_i a;cases a;exact absurd rfl (i _ _)
 rename_i a
 cases a
 split at h
 .assumption
 cases h
def zkS{s:SV}{r:LR}(h:uC lm (s::r)=true):uC lm [s]=true/\uC lm r=true:=by
 cases s <;> simp only[uC]at h ⊢ <;> (split at h <;> simp_all)
def zgX(f:∀k m,lm k=some m->(k,m)∈M)(h:zI Keep M Z w)(a:∀b,S' b->Keep b∨Own M Z b){Pm':LI}(hP:∀b,¬Pm' b){Z':zh}:∀{e:LR} {vs:LA},
  Gs (λb=>Keep b∨Own M Z b) (Own M Z) Z w e vs->(uC lm e=true∨∀b,Own M Z b->¬S' b)->Gs S' Pm' Z' w (zdF lm e) vs
 |[],vs,g,_=>by rw[g.nil_inv];exact .nil
 |c::e,vs,g,d=>by
  obtain⟨v,o,rfl,i,l⟩:=g.cons_inv
  have key:(uC lm [c]=true∨∀b,Own M Z b->¬S' b)/\(uC lm e=true∨∀b,Own M Z b->¬S' b):=by
   rcases d with d|d
   .exact⟨.inl (zkS d).1,.inl (zkS d).2⟩
   exact⟨.inr d,.inr d⟩
  exact .cons (zkR f h a i key.1 (λb _=>hP b) (λ_ _ b _ _=>hP b)) (zgX f h a hP l key.2)
end
end zkE
section
def uZ{b:LR}(h:uD.scalars b=true):∀(j:Nat) (s:SV),b[j]?=some s->uD s=true:=by
 induction b with
 |nil=>intro j s a;simp at a
 |cons c b e=>
  intro j s a;simp only[uD.scalars]at h
  split at h
  .rename_i d
   cases j with
   |zero=>simp at a;subst a;exact d
   |succ j=>exact e h j s (by simpa using a)
  cases h
def zaa{S S' Pm:LI}{Z:zh}{w w':World}{s:SV}(c:uD s=true){v:Value}(q:G S Pm Z w s v):D S' w' s v:=by
 have key:∀{s:SV} {v:Value},D S w s v->uD s=true->D S' w' s v:=by
  intro s v o
  induction o with
  |val v=>exact λ_=>.val v
  |pr p i=>exact λ_=>.pr p i
  |nils a=>exact λ_=>.nils a
  |anyb b=>exact λ_=>.anyb b
  |agg g vs l h e=>exact λc=>.agg g vs l λj s v f k=>e j s v f k (uZ c j s f)
  |ifc t s v h e=>exact λc=>.ifc t s v (e c)
  |_=>intro c;simp[uD]at c
 induction q with
 |d _ _ h=>exact key h c
 |agg g vs l h e=>exact .agg g vs l λj s v f k=>e j s v f k (uZ c j s f)
 |ifc t s v h e=>exact .ifc t s _ (e c)
 |_=>simp[uD]at c
variable{S:LI}{S':LI}{Pm:LI}{Pm':LI}{Z:zh}{Z':zh}{r:SV}
def zj9{w:World}(a:∀b,S' b->S b)(e:zkC r=true){v:Value}(g:G S Pm Z w r v):G S' Pm' Z' w r v:=by
 unfold zkC at e
 split at e
 .obtain⟨vs,rfl,c⟩:=g.tup_inv;exact .tup _ vs c.1 λj s v f h=>.d _ _ ((uY (yT e j s f) (c.2 j s v f h)).less a)
 exact .d _ _ ((uY e g).less a)
def zny{w w':World}(b:zgM r=true){v:Value}(e:G S Pm Z w r v):G S' Pm' Z' w' r v:=by
 unfold zgM at b
 split at b
 .obtain⟨vs,rfl,a⟩:=e.tup_inv;exact .tup _ vs a.1 λj s v c f=>.d _ _ (zaa (uZ b j s c) (a.2 j s v c f))
 exact .d _ _ (zaa b e)
def zgY{P:Program}{o:Oper}{c:Call}{fx:Operand}(l:o.op=.call c)(i:c.callee=.value fx){a:Act}{w:World}{f:FuncId}{fs caps vs:LA}(k:a.eval fx=.func (.func f) fs.toArray caps.toArray)(p:c.args.toList.map a.eval=vs)(b:zdT P f):(execOp a.eval o).run P w=.ok (.enter f (fs++(vs++caps)).toArray) w:=by
 obtain⟨fn,d,e,g⟩:=b;have h:c.args.map a.eval=vs.toArray:=by apply Q1;simp[p]
 simp only[execOp,l,resolve,i,k,h,Deferred.ofValue,invoke,callFunc,Sem.run_bind,Sem.run_pure,Result.andThen_ok,run_program,d,e,g,KJ,if_false];simp
def zK{b:Nat}:¬Own [] Z b:=λ⟨_,_,_,h,_⟩=>by cases h
def qu{w:World}(h:∀b,S b->b<w.heap.size)(a:∀g v,GL g v->w.cell? ⟨g,0,none⟩=some v):zI S [] Z w:=
 ⟨λ_ _ h=>(by cases h),List.Pairwise.nil,λ_ _ _ _ _ _ _ h=>(by cases h),λ_ h=>absurd h zK,h,λg v k=>⟨zK,a g v k⟩⟩
def kU.block(w:World){r:Nat}{ents:Array MapEntry}{clock:Nat}(h:w.heap[r]?=some (.map ents clock))(b:Array MapEntry)(c:Nat):
  kU w { w with heap:=w.heap.setIfInBounds r (.map b c) }:=⟨rfl,λa=>by
 unfold World.frozen?
 show(match (w.heap.setIfInBounds r (.map b c))[a.block]? with
  |some (.cells _ _ (lo,hi))=>decide (lo<=a.off)&&decide (a.off<hi)
  |_=>false)=_
 by_cases e:r=a.block
 .subst e;have d:a.block<w.heap.size:=(X6.1 h).1
  have f:(w.heap.setIfInBounds a.block (Obj.map b c))[a.block]?=some (.map b c):=by
   rw[Qe];simp[d]
  rw[f,h]
 rw[Qe,Xc e]
 cases w.heap[a.block]? with
 |none=>rfl
 |some o=>cases o <;> rfl⟩
def kU.map(w:World):kU w (w.alloc (.map #[] 0)):=⟨rfl,λa=>by
 unfold World.frozen?
 by_cases e:a.block<w.heap.size
 .rw[heap_alloc_old w _ a.block e]
 have b:w.heap[a.block]?=none:=K6 oM
 by_cases c:a.block=w.heap.size
 .rw[c,heap_alloc_new];rw[c]at b;rw[b]
 have d:(w.alloc (.map #[] 0)).heap[a.block]?=none:=K6 (by simp;omega)
 rw[b,d]⟩
variable{m:Mem}
def zI.writeMap{Keep:LI}{M:LT}{w:World}(i:zI Keep M Z w){k:Nat}(o:Mem)(t:(k,m)∈M){r:Nat}(s:Z k=some (.map (some r))){ents:Array MapEntry}{clock:Nat}(F:w.heap[r]?=some (.map ents clock))(c:Array MapEntry)(p:Nat)(u:Stp (Own M Z) (Own (qL M k o) Z) Z Z w { w with heap:=w.heap.setIfInBounds r (.map c p) }->
   jD (λb=>Keep b∨Own (qL M k o) Z b) (Own (qL M k o) Z) Z { w with heap:=w.heap.setIfInBounds r (.map c p) } k o):
  Stp (Own M Z) (Own (qL M k o) Z) Z Z w { w with heap:=w.heap.setIfInBounds r (.map c p) }/\zI Keep (qL M k o) Z { w with heap:=w.heap.setIfInBounds r (.map c p) }:=by
 have hkeys:(qL M k o).map (·.1)=M.map (·.1):=zbc;have q:qi (.map (some r))=some r:=rfl
 have hother:∀f,f≠r->(w.heap.setIfInBounds r (Obj.map c p))[f]?=w.heap[f]? :=λf a=>by
  rw[Qe];simp[Ne.symm a]
 have A:Stp (Own M Z) (Own (qL M k o) Z) Z Z w { w with heap:=w.heap.setIfInBounds r (.map c p) }:=
  ⟨rfl,rfl,.block w F _ _,sI,λf _ G=>hother f (λe=>G ⟨k,m,_,t,s,e ▸ q⟩),λf d=>.inl (zax hkeys.symm d),λ_ _ h=>h⟩
 refine⟨A,zI.next k i A (yS hkeys i.keys) ?_ ?_ ?_⟩
 .intro C D v a
  obtain⟨_,g⟩|g:=jS i.keys _ v
  .refine⟨g,rfl,λE f l d=>hother f (λe=>?_)⟩;subst e;exact i.apart C D k m E _ f g t a l s d q
  cases g;exact absurd rfl a
 .intro D v
  obtain⟨g,_⟩|g:=jS i.keys _ v
  .exact absurd rfl g
  cases g;exact u A
 intro D E f _ l d;rw[s]at l;cases l
 rw[q]at d;cases d
 refine⟨λC H v2 g a B z=>?_,by simpa using (i.old r ⟨k,m,_,t,s,q⟩).1,(i.old r ⟨k,m,_,t,s,q⟩).2⟩
 obtain⟨_,y⟩|y:=jS i.keys _ g
 .exact i.apart C H k m v2 _ r y t a B s z q
 cases y;exact absurd rfl a
def zkT:∀{b:List (Int×SV)} {n:Int} {K1:SV->Prop} {K0:Prop},zzv b n K1 K0->
  (∃(i:Nat) (s:SV),b[i]?=some (n,s)/\(∀(j:Nat) (m:Int) (s':SV),j<i->b[j]?=some (m,s')->n≠m)/\K1 s)∨((∀(j:Nat) (m:Int) (s':SV),b[j]?=some (m,s')->n≠m)/\K0)
 |[],n,K1,K0,h=>.inr ⟨λj m s' h=>by simp at h,h⟩
 |(k,s)::r,n,K1,K0,h=>by
  have h:Br (n=k->K1 s) (¬n=k->zzv r n K1 K0):=h
  by_cases e:n=k
  .exact .inl ⟨0,s,by rw[e];rfl,λj _ _ g=>by omega,h.yes e⟩
  rcases zkT (h.no e) with⟨i,s1,c,d,f⟩|⟨c,d⟩
  .refine .inl ⟨i+1,s1,c,λj m s' g a=>?_,f⟩
   cases j with
   |zero=>simp at a;rw[←a.1];exact e
   |succ j=>exact d j m s' oM a
  refine .inr ⟨λj m s' a=>?_,d⟩
  cases j with
  |zero=>simp at a;rw[←a.1];exact e
  |succ j=>exact c j m s' a
def znz:∀{b:List (Int×SV)} {n:Int} {s:SV} {K:List (Int×SV)->Prop},zzw b n s K->
  (∃(i:Nat) (s0:SV),b[i]?=some (n,s0)/\(∀(j:Nat) (m:Int) (s':SV),j<i->b[j]?=some (m,s')->n≠m)/\K (b.set i (n,s)))∨((∀(j:Nat) (m:Int) (s':SV),b[j]?=some (m,s')->n≠m)/\K (b++[(n,s)]))
 |[],n,s,K,h=>.inr ⟨λj m s' h=>by simp at h,h⟩
 |(k,s0)::r,n,s,K,h=>by
  have h:Br (n=k->K ((n,s)::r)) (¬n=k->zzw r n s λl=>K ((k,s0)::l)):=h
  by_cases e:n=k
  .exact .inl ⟨0,s0,by rw[e];rfl,λj _ _ g=>by omega,h.yes e⟩
  rcases znz (h.no e) with⟨i,s1,c,d,f⟩|⟨c,d⟩
  .refine .inl ⟨i+1,s1,c,λj m s' g a=>?_,f⟩
   cases j with
   |zero=>simp at a;rw[←a.1];exact e
   |succ j=>exact d j m s' oM a
  refine .inr ⟨λj m s' a=>?_,d⟩
  cases j with
  |zero=>simp at a;rw[←a.1];exact e
  |succ j=>exact c j m s' a
def zd7{n:Int}:∀{ents:List MapEntry} {i:Nat} {e:MapEntry} (c:Nat),ents[i]?=some e->e.key=.int .i64 n->(∀(j:Nat) a,j<i->ents[j]?=some a->∃m,a.key=.int .i64 m/\n≠m)->
  Instr.findNow (.int .i64) (.int .i64 n) ents c=some (some (c+i,e.val))
 |[],i,e,c,h,_,_=>by simp at h
 |x::r,i,e,c,h,b,d=>by
  cases i with
  |zero=>
   simp at h;subst h;unfold Instr.findNow;simp[Instr.sameNow,b]
  |succ i=>
   obtain⟨m,f,g⟩:=d 0 x oM rfl;unfold Instr.findNow;rw[f];simp only[Instr.sameNow,if_true];rw[show(n==m)=false by simpa using g];simp only;rw[zd7 (c+1) (i:=i) h b (λj a l k=>d (j+1) a oM k)];congr 2;congr 1;omega
def zc5{n:Int}:∀{ents:List MapEntry} (c:Nat),(∀(j:Nat) a,ents[j]?=some a->∃m,a.key=.int .i64 m/\n≠m)->Instr.findNow (.int .i64) (.int .i64 n) ents c=some none
 |[],c,_=>rfl
 |x::r,c,b=>by
  obtain⟨m,d,e⟩:=b 0 x rfl;unfold Instr.findNow;rw[d];simp only[Instr.sameNow,if_true];rw[show(n==m)=false by simpa using e];exact zc5 (c+1) λj a f=>b (j+1) a f
variable{P:Program}
def za5{w:World}{kt:TypeId}{k:IntKind}(h:P.underlying kt=some (.int k))(b:Bool)(v:Value):(Instr.checkKey b 10000 kt v).run P w=.ok () w:=by
 rw[Instr.checkKey];simp[run_underlying h]
def zpj(n:Int):Instr.sameBits 10000 (.int .i64 n) (.int .i64 n)=true:=by
 unfold Instr.sameBits;simp
variable{I:LS}{lm:LJ}{Y:Nat}{K:LD}
def zm7(hT:TOK P I){t:TypeId}{x:Option Operand}{k:LR}(h:zkJ I t k Y K):∃r q,K r q/\yq P (.makeMap t x) k lm Y r q:=by
 unfold zkJ at h;replace h:=zE h;obtain⟨i,hi,h⟩:=h;have l:=(hT t i hi).kind
 split at h
 .rename_i kt v d;rw[d]at l;have l:P.underlying t=some (.map kt v):=l
  have e:∀(o:Oper) (Keep:LI) (M:LT) (Z:zh) (a:Act) (w:World),zI Keep M Z w->Z Y=none->(∀m,(Y,m)∉M)->
    (execOp a.eval o).run P w=.ok (.value (.map (some w.heap.size))) (w.alloc (.map #[] 0))->qB P o a w (qg Keep M Z w Y (.own Y) (.push (.map []))):=λo Keep M Z a w f b hκM g=>
   qB.value g (qg.push (u:=.map (some w.heap.size)) (zc4 f b hκM _ _ _ (.map w) rfl λB=>
    ⟨w.heap.size,#[],0,kG,heap_alloc_new w _,rfl,λi n s hi=>by simp at hi⟩) (.own _ _ kG rfl))
  split at h
  .refine⟨_,_,h,λo p Keep M Z a w _ f b hκM c=>e o Keep M Z a w f (b _ (Xj _) (XZ _)) (hκM rfl) ?_⟩
   have z:x=none:=by
    cases x with
    |none=>rfl
    |some y=>have:=c.1;simp[qm,uK]at this
   subst z;simp[execOp,p,Instr.makeMap]
  .rename_i kk nn rest;refine⟨_,_,h,λo p Keep M Z a w _ f b hκM c=>e o Keep M Z a w f (b _ (Xj _) (XZ _)) (hκM rfl) ?_⟩
   cases x with
   |none=>have:=c.1;simp[qm,uK]at this
   |some y=>
    have A:a.eval y=.int kk nn:=(Gs.head c).val_inv;simp[execOp,p,Instr.makeMap,A,run_underlying l,asInt,asIntOf]
  exact h.elim
 exact h.elim
variable{x:Operand}
def zgZ(hT:TOK P I){t:TypeId}{y z:Operand}{m k s:SV}(h:zc0 I t m k s lm K):(∃r V,K r V/\yq P (.mapUpdate t x y z) [m,k,s] lm Y r V)/\∃r V,K r V/\yq P (.insert t x y z) [m,k,s] lm Y r V:=by
 constructor
 all_goals
  unfold zc0 at h;replace h:=zE h;obtain⟨i,hi,h⟩:=h;have Q:=(hT t i hi).kind
  split at h
  .rename_i kt et D;rw[D]at Q;have Q:P.underlying t=some (.map kt et):=Q;replace h:=zE h;obtain⟨j,O,h⟩:=h;have q:=(hT kt j O).kind
   split at h
   .rename_i c n hjk;rw[hjk]at q;have q:P.underlying kt=some (.int .i64):=q
    split at h
    .rename_i H R;replace h:=zj h;obtain⟨hf,h⟩:=h
     obtain⟨i,s0,X,h2,h3⟩|⟨X,h3⟩:=znz h
     .refine⟨_,_,h3,λo ho Keep M Z a w E T _ _ l=>?_⟩;have g:=zu (E c _ R);obtain⟨r,ents,clock,B,A,W,J⟩:=T.rel c _ g;obtain⟨G,v,hx⟩:∃G,Z c=some G/\a.eval x=G:=⟨_,(Gs.head l).own_inv.1,rfl⟩;rw[B]at v;cases v
      have hy:a.eval y=.int .i64 n:=(Gs.head (Gs.tail l)).val_inv;have hz:=uY hf (Gs.head (Gs.tail (Gs.tail l)));obtain⟨e,he,N,hd⟩:=J i n s0 X
      have hhit:=zd7 (n:=n) 0 (ents:=ents.toList) (i:=i) (e:=e) (by simpa using he) N (λj e' O f=>by
       have C:j<H.length:=by have:=(Xd.1 X).1;omega
       obtain⟨⟨m,s'⟩,u⟩:∃p,H[j]?=some p:=⟨_,Xb C⟩;obtain⟨L,q1,F,_⟩:=J j m s' u;have f:ents[j]?=some e':=by simpa using f
       rw[q1]at f;cases f
       exact⟨m,F,h2 j m s' O u⟩)
      rw[Kb]at hhit;refine qB.skip (w':={ w with heap:=w.heap.setIfInBounds r (.map (ents.modify i λe=>{ e with key:=.int .i64 n,val:=a.eval z }) clock) }) ?_ ?_
      .simp[execOp,ho,hx,hy,Instr.mapUpdate,run_underlying Q,run_underlying q,MapKept.run_getObj_map A,za5 q,Instr.findKey,hhit,Instr.keyThatStays,he,N,zpj,MapKept.run_setObj_map _ A]
      refine qg.set (T.writeMap _ g B A _ _ λU=>⟨r,ents.modify i λe=>{ e with key:=.int .i64 n,val:=a.eval z },clock,B,by rw[Qe];simp[(X6.1 A).1],by simp[W],λj m s' b=>?_⟩) (.d _ _ (.val _));rw[KB]at b
      by_cases eij:i=j
      .subst eij;rw[Xe rfl]at b
       split at b
       .cases b
        exact⟨{ e with key:=.int .i64 n,val:=a.eval z },by rw[JD,Xe rfl,he];rfl,rfl,hz.stp U⟩
       cases b
      rw[Xc eij]at b;obtain⟨L,q1,F,q3⟩:=J j m s' b;exact⟨L,by rw[JD,Xc eij,q1],F,q3.stp U⟩
     refine⟨_,_,h3,λo ho Keep M Z a w E T _ _ l=>?_⟩;have g:=zu (E c _ R);obtain⟨r,ents,clock,B,A,W,J⟩:=T.rel c _ g;obtain⟨G,v,hx⟩:∃G,Z c=some G/\a.eval x=G:=⟨_,(Gs.head l).own_inv.1,rfl⟩;rw[B]at v;cases v
     have hy:a.eval y=.int .i64 n:=(Gs.head (Gs.tail l)).val_inv;have hz:=uY hf (Gs.head (Gs.tail (Gs.tail l)))
     have hmiss:=zc5 (n:=n) 0 (ents:=ents.toList) (λj e' f=>by
      have f:ents[j]?=some e':=by simpa using f
      have C:j<H.length:=by have:=(X6.1 f).1;omega
      obtain⟨⟨m,s'⟩,u⟩:∃p,H[j]?=some p:=⟨_,Xb C⟩;obtain⟨L,q1,F,_⟩:=J j m s' u;rw[q1]at f;cases f
      exact⟨m,F,X j m s' u⟩)
     refine qB.skip (w':={ w with heap:=w.heap.setIfInBounds r (.map (ents.push { key:=.int .i64 n,val:=a.eval z,born:=clock }) (clock+1)) }) ?_ ?_
     .simp[execOp,ho,hx,hy,Instr.mapUpdate,run_underlying Q,run_underlying q,MapKept.run_getObj_map A,za5 q,Instr.findKey,hmiss,MapKept.run_setObj_map _ A]
     refine qg.set (T.writeMap _ g B A _ _ λU=>⟨r,ents.push { key:=.int .i64 n,val:=a.eval z,born:=clock },clock+1,B,by rw[Qe];simp[(X6.1 A).1],by simp[W],λj m s' b=>?_⟩) (.d _ _ (.val _))
     by_cases O:j<H.length
     .rw[XN O]at b;obtain⟨L,q1,F,q3⟩:=J j m s' b;exact⟨L,by rw[Array.getElem?_push,Xc oM,q1],F,q3.stp U⟩
     rw[XG oM]at b
     have hj0:j=H.length:=by
      have:=(Xd.1 b).1;simp at this;omega
     subst hj0;simp at b;obtain⟨rfl,rfl⟩:=b;exact⟨_,by rw[Array.getElem?_push,Xe W.symm],rfl,hz.stp U⟩
    exact h.elim
   exact h.elim
  exact h.elim
def zpk(hT:TOK P I){t:TypeId}{y:Operand}{ok:Bool}{m k:SV}(h:zpa I t ok m k lm K):∃r,K r .none/\yq P (.lookup t x y ok) [m,k] lm Y r .none:=by
 unfold zpa at h;replace h:=zE h;obtain⟨i,hi,h⟩:=h;have L:=(hT t i hi).kind
 split at h
 .rename_i kt W E;rw[E]at L;have L:P.underlying t=some (.map kt W):=L;replace h:=zE h;obtain⟨j,hj,h⟩:=h;replace h:=zE h;obtain⟨z,hz,h⟩:=h;have q:=(hT kt j hj).kind
  split at h
  .rename_i c n hjk;rw[hjk]at q;have q:P.underlying kt=some (.int .i64):=q
   split at h
   .rename_i Q N
    have lookE:∀{s:SV} {b:Bool},zvi ok s b K->∃r,K r .none/\∀{S Pm:LI} {Z:zh} {w:World} {v:Value},G S Pm Z w s v->G S Pm Z w r (if ok then .tuple #[v,.bool b] else v):=λ{s b} h=>by
     unfold zvi at h
     split at h
     .exact⟨_,h,λhg=>.tup [s,.val (.bool b)] [_,.bool b] rfl (Gs.cons hg (.cons (.d _ _ (.val _)) .nil)).2⟩
     exact⟨_,qH h,λhg=>hg⟩
    obtain⟨i,s0,T,h2,J⟩|⟨T,J⟩:=zkT h
    .obtain⟨res,hK,hres⟩:=lookE J;refine⟨res,hK,λo ho Keep M Z a w F O _ _ u=>?_⟩;have A:=zu (F c _ N);obtain⟨r,ents,clock,X,g2,g3,R⟩:=O.rel c _ A;obtain⟨H,C,hx⟩:∃H,Z c=some H/\a.eval x=H:=⟨_,(Gs.head u).own_inv.1,rfl⟩;rw[X]at C;cases C
     have hy:a.eval y=.int .i64 n:=(Gs.head (Gs.tail u)).val_inv;obtain⟨e,he,hek,hd⟩:=R i n s0 T
     have hhit:=zd7 (n:=n) 0 (ents:=ents.toList) (i:=i) (e:=e) (by simpa using he) hek (λj V hj g=>by
      have D:j<Q.length:=by have:=(Xd.1 T).1;omega
      obtain⟨⟨m,s'⟩,B⟩:∃p,Q[j]?=some p:=⟨_,Xb D⟩;obtain⟨e2,q1,U,_⟩:=R j m s' B;have g:ents[j]?=some V:=by simpa using g
      rw[q1]at g;cases g
      exact⟨m,U,h2 j m s' hj B⟩)
     rw[Kb]at hhit;refine qB.value (v:=if ok then .tuple #[e.val,.bool true] else e.val) ?_ (qg.same O (hres (.d _ _ hd)));simp[execOp,ho,hx,hy,Instr.lookup,run_underlying L,run_underlying q,MapKept.run_getObj_map g2,za5 q,Instr.findKey,hhit]
    obtain⟨s,J,hs⟩:=vB J;obtain⟨res,hK,hres⟩:=lookE J;refine⟨res,hK,λo ho Keep M Z a w F O _ _ u=>?_⟩;have A:=zu (F c _ N);obtain⟨r,ents,clock,X,g2,g3,R⟩:=O.rel c _ A;obtain⟨H,C,hx⟩:∃H,Z c=some H/\a.eval x=H:=⟨_,(Gs.head u).own_inv.1,rfl⟩;rw[X]at C;cases C
    have hy:a.eval y=.int .i64 n:=(Gs.head (Gs.tail u)).val_inv
    have hmiss:=zc5 (n:=n) 0 (ents:=ents.toList) (λj V g=>by
     have g:ents[j]?=some V:=by simpa using g
     have D:j<Q.length:=by have:=(X6.1 g).1;omega
     obtain⟨⟨m,s'⟩,B⟩:∃p,Q[j]?=some p:=⟨_,Xb D⟩;obtain⟨e2,q1,U,_⟩:=R j m s' B;rw[q1]at g;cases g
     exact⟨m,U,T j m s' B⟩)
    obtain⟨f,q1,U,q3,zv,q4,q5,q6,q7,q8⟩:=(hT W z hz).inf;refine qB.value (v:=if ok then .tuple #[zv,.bool false] else zv) ?_ (qg.same O (hres ?_))
    .simp[execOp,ho,hx,hy,Instr.lookup,run_underlying L,run_underlying q,MapKept.run_getObj_map g2,za5 q,Instr.findKey,hmiss,zeroValue,typeInfo,q1,q4]
    obtain⟨ha,rfl⟩|⟨ha,l,hl⟩:=hs
    .obtain⟨f',p1,p2⟩:=(hT W z hz).zagg ha;rw[q1]at p1;cases p1
     rw[q4]at p2;cases p2
     have:((vals z.zero).take z.sz)=vals z.zero:=Xi (by simp[vals,q7]);rw[this];exact .agg _ z.zero (by simp[vals]) (Gs.vals _).2
    have hz1:=q6 ha;have:z.zero=[zv]:=by rw[←q5,hz1]
    rw[this]at hl
    cases hl
    exact .d _ _ (.val _)
   exact h.elim
  exact h.elim
 exact h.elim
def zm8(hT:TOK P I){t:TypeId}{s:SV}(h:zkK I t s K):∃r,K r .none/\yq P (.makeInterface t x) [s] lm Y r .none:=by
 unfold zkK at h;replace h:=zE h;obtain⟨i,hi,h⟩:=h;have c:=(hT t i hi).kind
 have key:∀d,P.underlying t=some d->(∀ms,d≠.interface ms)->∀(o:Oper) (a:Act) (w:World),o.op=.makeInterface t x->(execOp a.eval o).run P w=.ok (.value (.iface t (a.eval x))) w:=λd f l o a w p=>by
  cases d <;> first|exact absurd rfl (l _)|simp[execOp,p,Instr.makeInterface,run_underlying f]
 have b:(∃d,P.underlying t=some d/\∀ms,d≠.interface ms)->K (.ifc t s) .none->∃r,K r .none/\yq P (.makeInterface t x) [s] lm Y r .none:=λ⟨d,f,l⟩ h=>
  ⟨_,h,.pure λo p S Pm Z a w g=>⟨_,key d f l o a w p,.ifc t s _ (Gs.head g)⟩⟩
 cases k:i.kind <;> rw[k]at c h <;> simp only[zgg]at c
 case struct fs=>obtain⟨F,hF,_⟩:=c;exact b ⟨_,hF,λms e=>by cases e⟩ h
 case iface=>exact h.elim
 case other=>exact h.elim
 all_goals exact b ⟨_,c,λms e=>by cases e⟩ h
def jD.named{w:World}{k:Nat}(h:jD S Pm Z w k m):∃v,Z k=some v:=by
 cases m with
 |box T c=>obtain⟨b,vs,a,_⟩:=h;exact⟨_,a⟩
 |arr T enc sz xs=>obtain⟨v,cells,a,_⟩:=h;exact⟨_,a⟩
 |garr T sz xs=>obtain⟨v,cells,a,_⟩:=h;exact⟨_,a⟩
 |map d=>obtain⟨r,ents,clock,a,_⟩:=h;exact⟨_,a⟩
end
section
variable{S S' Pm Pm':LI}{Z Z':zh}{w:World}{ks:LC}{Y n:Nat}
def zg0(hP:∀b,Pm' b->Pm b)(y:∀k v,k<n->Z (rn ks Y k)=some v->Z' k=some v):∀(s:SV) {v:Value},uf n s=true->G S Pm Z w (vr ks Y s) v->G S Pm' Z' w s v:=by
 intro s
 induction s using SV.rec (motive_2:=λg=>∀{vs:LA},uf.lows n g=true->Gs S Pm Z w (vr.rens ks Y g) vs->Gs S Pm' Z' w g vs) with
 |val v=>intro u _ e;exact .d _ _ (e.val_inv ▸ .val _)
 |pr p i=>intro u _ e;rw[e.pr_inv];exact .d _ _ (.pr p i)
 |sl enc xs=>intro u _ e;exact .d _ _ e.sl_inv
 |nils=>intro u _ e;obtain⟨a,rfl⟩:=e.nils_inv;exact .d _ _ (.nils a)
 |anyb=>intro u _ e;obtain⟨b,rfl⟩:=e.anyb_inv;exact .d _ _ (.anyb b)
 |full enc xs=>intro u _ e;obtain⟨a,rfl,J⟩:=e.full_inv;exact .d _ _ (.full enc xs a J)
 |dptr g _=>intro u _ e;cases e with|d _ _ h=>exact .d _ _ h
 |dfn f g _=>intro u _ e;cases e with|d _ _ h=>exact .d _ _ h
 |bm f g _=>intro u _ e;cases e with|d _ _ h=>exact .d _ _ h
 |op v=>intro u _ e;cases e with|d _ _ h=>exact .d _ _ h
 |junk=>intro u _ _;exact .d _ _ (.junk u)
 |ptr g _=>
  intro u _ e
  cases e with
  |d _ _ h=>cases h
  |ptr _ b o c F hPb H h=>exact .ptr _ b o c F (λL=>hPb (hP b L)) H h
 |agg g z=>
  intro u h e;obtain⟨vs,rfl,l⟩:=e.agg_inv;have:=z h l;exact .agg _ vs this.1 this.2
 |tup g z=>
  intro u h e;obtain⟨vs,rfl,l⟩:=e.tup_inv;have:=z h l;exact .tup _ vs this.1 this.2
 |fn f g z=>
  intro u h e;obtain⟨vs,rfl,l⟩:=e.fn_inv;have:=z h l;exact .fn _ _ vs this.1 this.2
 |ifc t s z=>
  intro u h e;obtain⟨v,rfl,N⟩:=e.ifc_inv;exact .ifc t _ v (z h N)
 |loc k off=>
  intro u h e;obtain⟨b,q,rfl⟩:=e.loc_inv;exact .loc _ _ _ (y k _ (by simpa[uf] using h) q)
 |own k=>
  intro u h e;obtain⟨q,A⟩:=e.own_inv;exact .own _ _ (y k _ (by simpa[uf] using h) q) A
 |eloc k sz i off=>
  intro u h e;obtain⟨b,len,cap,q,rfl⟩:=e.eloc_inv;exact .eloc _ _ _ _ b len cap (y k _ (by simpa[uf] using h) q)
 |win k sz lo m=>
  intro u h e;obtain⟨b,len,cap,cap',q,rfl,A,D⟩:=e.win_inv;exact .win _ _ _ _ b len cap cap' (y k _ (by simpa[uf] using h) q) A D
 |nil=>
  rename_i vs _ e;rw[Gs.nil_inv e];exact .nil
 |cons c g B C=>
  rename_i vs h e;simp only[uf.lows]at h
  split at h
  .rename_i E;obtain⟨v,O,rfl,q,A⟩:=e.cons_inv;exact .cons (B E q) (C h A)
  cases h
def ztV(hS:∀b,S b->S' b)(q:∀k v,k<n->Z' k=some v->Z (rn ks Y k)=some v):∀(s:SV) {v:Value},za4 n s=true->G S' Pm' Z' w s v->G S Pm Z w (vr ks Y s) v:=by
 intro s
 induction s using SV.rec (motive_2:=λg=>∀{vs:LA},za4.outs n g=true->Gs S' Pm' Z' w g vs->Gs S Pm Z w (vr.rens ks Y g) vs) with
 |val v=>intro u _ e;exact .d _ _ (e.val_inv ▸ .val _)
 |pr p i=>intro u _ e;rw[e.pr_inv];exact .d _ _ (.pr p i)
 |sl enc xs=>intro u _ e;exact .d _ _ (e.sl_inv.less hS)
 |nils=>intro u _ e;obtain⟨a,rfl⟩:=e.nils_inv;exact .d _ _ (.nils a)
 |anyb=>intro u _ e;obtain⟨b,rfl⟩:=e.anyb_inv;exact .d _ _ (.anyb b)
 |full enc xs=>intro u _ e;obtain⟨a,rfl,E⟩:=e.full_inv;exact .d _ _ (.full enc xs a (E.less hS))
 |dptr g _=>intro u _ e;cases e with|d _ _ h=>exact .d _ _ (h.less hS)
 |dfn f g _=>intro u _ e;cases e with|d _ _ h=>exact .d _ _ (h.less hS)
 |bm f g _=>intro u _ e;cases e with|d _ _ h=>exact .d _ _ (h.less hS)
 |op v=>intro u _ e;cases e with|d _ _ h=>exact .d _ _ (h.less hS)
 |junk=>intro u _ _;exact .d _ _ (.junk u)
 |ptr g _=>intro u h _;cases h
 |agg g y=>
  intro u h e;obtain⟨vs,rfl,l⟩:=e.agg_inv;have:=y h l;exact .agg _ vs this.1 this.2
 |tup g y=>
  intro u h e;obtain⟨vs,rfl,l⟩:=e.tup_inv;have:=y h l;exact .tup _ vs this.1 this.2
 |fn f g y=>
  intro u h e;obtain⟨vs,rfl,l⟩:=e.fn_inv;have:=y h l;exact .fn _ _ vs this.1 this.2
 |ifc t s y=>
  intro u h e;obtain⟨v,rfl,F⟩:=e.ifc_inv;exact .ifc t _ v (y h F)
 |loc k off=>
  intro u h e;obtain⟨b,o,rfl⟩:=e.loc_inv;exact .loc _ _ _ (q k _ (by simpa[za4] using h) o)
 |own k=>
  intro u h e;obtain⟨o,z⟩:=e.own_inv;exact .own _ _ (q k _ (by simpa[za4] using h) o) z
 |eloc k sz i off=>
  intro u h e;obtain⟨b,len,cap,o,rfl⟩:=e.eloc_inv;exact .eloc _ _ _ _ b len cap (q k _ (by simpa[za4] using h) o)
 |win k sz lo m=>
  intro u h e;obtain⟨b,len,cap,cap',o,rfl,z,C⟩:=e.win_inv;exact .win _ _ _ _ b len cap cap' (q k _ (by simpa[za4] using h) o) z C
 |nil=>
  rename_i vs _ e;rw[Gs.nil_inv e];exact .nil
 |cons c g A B=>
  rename_i vs h e;simp only[za4.outs]at h
  split at h
  .rename_i D;obtain⟨v,H,rfl,o,z⟩:=e.cons_inv;exact .cons (A D o) (B h z)
  cases h
def zbd:∀a:LR,(vr.rens ks Y a).length=a.length
 |[]=>rfl
 |c::a=>by simp only[vr.rens,Xm,zbd a]
def zbe:∀(a:LR) (j:Nat),(vr.rens ks Y a)[j]?=(a[j]?).map (vr ks Y)
 |[],j=>by simp[vr.rens]
 |c::a,0=>by simp[vr.rens]
 |c::a,j+1=>by simpa[vr.rens] using zbe a j
def zbs:∀{b:LR},uf.lows n b=true->∀(j:Nat) (s:SV),b[j]?=some s->uf n s=true
 |[],_,j,s,h=>by simp at h
 |c::b,a,j,s,h=>by
  simp only[uf.lows]at a
  split at a
  .rename_i d
   cases j with
   |zero=>simp at h;subst h;exact d
   |succ j=>exact zbs a j s (by simpa using h)
  cases a
def zkU:∀{b:LR},za4.outs n b=true->∀(j:Nat) (s:SV),b[j]?=some s->za4 n s=true
 |[],_,j,s,h=>by simp at h
 |c::b,a,j,s,h=>by
  simp only[za4.outs]at a
  split at a
  .rename_i d
   cases j with
   |zero=>simp at h;subst h;exact d
   |succ j=>exact zkU a j s (by simpa using h)
  cases a
def znA(hP:∀b,Pm' b->Pm b)(a:∀k v,k<n->Z (rn ks Y k)=some v->Z' k=some v){j:Nat}(o:j<n){m:Mem}(y:zqM n m)(h:jD S Pm Z w (rn ks Y j) (zig ks Y m)):jD S Pm' Z' w j m:=by
 cases m with
 |box T z=>
  obtain⟨b,vs,c,d,e,f,g⟩:=h;refine⟨b,vs,a j _ o c,d,e.trans (zbd z),f,λi s v l C=>?_⟩;exact zg0 hP a s (zbs y i s l) (g i _ v (by rw[zbe,l];rfl) C)
 |arr T enc sz xs=>
  obtain⟨v,cells,c,d,e,f,g,t⟩:=h;exact⟨v,cells,a j _ o c,d,e,f,g,t⟩
 |garr T sz xs=>
  obtain⟨v,cells,c,d,e,f,g,t⟩:=h;refine⟨v,cells,a j _ o c,by simpa using d,by simpa using e,f,λx p=>?_,λi q x s p l=>?_⟩
  .have:=g _ (JX p)
   rwa [zbd]at this
  obtain⟨u,B,A⟩:=t i q (vr.rens ks Y x) (vr ks Y s) (by rw[XD,p];rfl) (by rw[zbe,l];rfl);exact⟨u,B,zg0 hP a s (zbs (y x (Xf p)) q s l) A⟩
 |map D=>
  obtain⟨r,ents,clock,c,d,e,f⟩:=h;exact⟨r,ents,clock,a j _ o c,d,e,f⟩
def zDD(hS:∀b,S b->S' b)(a:∀k v,k<n->Z' k=some v->Z (rn ks Y k)=some v){j:Nat}(B:j<n){m:Mem}(F:zxk n m)(h:jD S' Pm' Z' w j m):jD S Pm Z w (rn ks Y j) (zig ks Y m):=by
 cases m with
 |box T E=>
  obtain⟨b,vs,l,o,p,t,A⟩:=h;refine⟨b,vs,a j _ B l,o,p.trans (zbd E).symm,t,λi s v d O=>?_⟩;rw[zbe]at d
  cases f:E[i]? with
  |none=>simp[f]at d
  |some c=>
   simp[f]at d;subst d;exact ztV hS a c (zkU F i c f) (A i c v f O)
 |arr T enc sz xs=>
  obtain⟨v,cells,l,o,p,t,A,C⟩:=h;refine⟨v,cells,a j _ B l,o,p,t,A,λi q x s g d=>?_⟩;obtain⟨u,D,L⟩:=C i q x s g d;exact⟨u,D,L.less hS⟩
 |garr T sz xs=>
  obtain⟨v,cells,l,o,p,t,A,C⟩:=h;refine⟨v,cells,a j _ B l,by simpa using o,by simpa using p,t,λx g=>?_,λi q x s g d=>?_⟩
  .obtain⟨y,z,rfl⟩:=XK.1 g;rw[zbd];exact A y z
  rw[XD]at g
  cases z:xs[i]? with
  |none=>simp[z]at g
  |some y=>
   simp[z]at g;subst g;rw[zbe]at d
   cases f:y[q]? with
   |none=>simp[f]at d
   |some c=>
    simp[f]at d;subst d;obtain⟨u,D,N⟩:=C i q y c z f;exact⟨u,D,ztV hS a c (zkU (F y (Xf z)) q c f) N⟩
 |map Q=>
  obtain⟨r,ents,clock,l,o,p,t⟩:=h;refine⟨r,ents,clock,a j _ B l,o,p,λi n s hi=>?_⟩;obtain⟨e,G,H,J⟩:=t i n s hi;exact⟨e,G,H,J.less hS⟩
end
section
def zb1{x:Nat×Mem}:∀{ks:LC} {M:LT},x∈jJ M ks->x∈M
 |[],_,h=>h
 |k::_,M,h=>qn x (zb1 (M:=k9 M k) h)
def zcr:∀{ks:LC} {M:LT},M.Pairwise (λa b=>a.1≠b.1)->(jJ M ks).Pairwise λa b=>a.1≠b.1
 |[],_,h=>h
 |k::ks,M,h=>zcr (ks:=ks) (M:=k9 M k) (qR h)
def zkV{x:Nat×Mem}:∀{ks:LC} {M:LT},M.Pairwise (λa b=>a.1≠b.1)->x∈jJ M ks->x.1∉ks
 |[],_,_,_=>by simp
 |k::r,M,d,h=>by
  intro c
  cases c with
  |head=>exact vA d x (zb1 (M:=k9 M x.1) h) rfl
  |tail _ c=>exact zkV (qR d) h c
def zg1{k:Nat}:∀{l:LC},k∈l->zm3 k l=true
 |[],h=>(by cases h)
 |x::r,h=>by
  simp only[zm3]
  split
  .rfl
  rename_i a
  cases h with
  |head=>simp[KQ]at a
  |tail _ h=>exact zg1 h
def zgi:∀{l:LC},v7 l=true->∀(i j k:Nat),l[i]?=some k->l[j]?=some k->i=j
 |[],_,i,j,k,h,_=>by simp at h
 |x::r,b,i,j,k,hi,a=>by
  simp only[v7]at b
  split at b
  .cases b
  rename_i c
  have out:∀q:Nat,r[q]? ≠some x:=λq d=>by
   have:=zg1 (Xf d);rw[this]at c;cases c
  match i,j with
  |0,0=>rfl
  |0,j+1=>simp at hi a;subst hi;exact absurd a (out j)
  |i+1,0=>simp at hi a;subst a;exact absurd hi (out i)
  |i+1,j+1=>rw[zgi b i j k (by simpa using hi) (by simpa using a)]
def zkW{n:Nat}:∀{l:LT},zjs n l=true->∀k m,(k,m)∈l->k<n
 |[],_,k,m,h=>(by cases h)
 |(q,y)::r,a,k,m,h=>by
  simp only[zjs]at a;obtain⟨b,c⟩:=kr a
  cases h with
  |head=>simpa using b
  |tail _ h=>exact zkW c k m h
def zrd{k:Nat}{m:Mem}:∀{l:LT},(k,m)∈l->zqN k l=true
 |[],h=>(by cases h)
 |(q,y)::r,h=>by
  simp only[zqN]
  split
  .rfl
  rename_i a
  cases h with
  |head=>simp[KQ]at a
  |tail _ h=>exact zrd h
def zd8:∀{l:LT},zdU l=true->l.Pairwise λa b=>a.1≠b.1
 |[],_=>List.Pairwise.nil
 |(q,y)::r,h=>by
  simp only[zdU]at h
  split at h
  .cases h
  rename_i c;refine XT.2 ⟨λz d e=>?_,zd8 h⟩;obtain⟨k,m⟩:=z;have e:q=k:=e;subst e;rw[zrd d]at c;cases c
def zkX:∀{n:Nat} {K:LI},zqO n K->K n
 |0,_,h=>h
 |n+1,_,h=>zkX (n:=n) h
def zg2:∀{l:LR} {K:LR->Prop},zgO l K->K l
 |[],_,h=>h
 |c::l,K,h=>zg2 (l:=l) (K:=λr=>K (c::r)) (qH (s:=c) (K:=λc=>zgO l λr=>K (c::r)) h)
def zpl{m:Mem}{K:Mem->Prop}(h:zj5 m K):K m:=by
 cases m with
 |box T a=>exact zg2 (K:=λa=>K (.box T a)) h
 |arr T enc sz xs=>exact h
 |garr T sz xs=>exact h
 |map b=>exact h
def zg3:∀{l:LT} {K:LT->Prop},zgP l K->K l
 |[],_,h=>h
 |(k,m)::l,K,h=>zg3 (l:=l) (K:=λr=>K ((k,m)::r)) (zpl (m:=m) (K:=λm=>zgP l λr=>K ((k,m)::r)) (zkX (n:=k) (K:=λk=>zj5 m λm=>zgP l λr=>K ((k,m)::r)) h))
def zb2{lm:LJ}{a:LC}{Y:Nat}{Mc:LT}:∀{ks:LC} {i:Nat},zeY lm a Y Mc i ks->∀(q k:Nat),ks[q]?=some k->∃m,zO Mc (i+q)=some m/\lm k=some (zig a Y m)/\zqM a.length m
 |[],i,_,q,k,h=>by simp at h
 |x::r,i,b,q,k,h=>by
  cases q with
  |zero=>simp at h;subst h;exact b.1
  |succ q=>
   have:=zb2 b.2 q k (by simpa using h)
   rwa [show i+1+q=i+(q+1) by omega]at this
def jT{n:Nat}:∀{l:LT},zih n l->∀j m,(j,m)∈l->j<n/\zxk n m
 |[],_,j,m,h=>(by cases h)
 |(q,y)::r,a,j,m,h=>by
  cases h with
  |head=>exact⟨by simpa using a.1.1,a.1.2⟩
  |tail _ h=>exact jT a.2 j m h
def uw{ks:LC}{Y:Nat}:∀{l:LT} {k:Nat} {m:Mem},(k,m)∈yA ks Y l->∃j a,(j,a)∈l/\k=rn ks Y j/\m=zig ks Y a
 |[],_,_,h=>(by cases h)
 |(q,y)::r,k,m,h=>by
  cases h with
  |head=>exact⟨q,y,.head _,rfl,rfl⟩
  |tail _ h=>
   obtain⟨j,a,b,c⟩:=uw h;exact⟨j,a,.tail _ b,c⟩
def zcs{ks:LC}{Y:Nat}:∀{l:LT} {j:Nat} {m:Mem},(j,m)∈l->(rn ks Y j,zig ks Y m)∈yA ks Y l
 |(q,y)::r,j,m,h=>by
  cases h with
  |head=>exact .head _
  |tail _ h=>exact .tail _ (zcs h)
variable{ks:LC}{Y:Nat}{j:Nat}
def vE{k:Nat}(h:ks[j]?=some k):rn ks Y j=k:=by unfold rn;rw[h]
def zc6(h:ks.length<=j):rn ks Y j=Y+(j-ks.length):=by unfold rn;rw[XH h]
def zkY{P:Program}{f:FuncId}{za:LR}{lm:LJ}{nn:Nat}{args':LR}{Mc M':LT}{r:SV}(hcall:kL P f args' Mc r M')(ha:LEs za (vr.rens ks Y args'))(hl:uf.lows ks.length args'=true)(hn:v7 ks=true)(F:yp (Nat.beq Mc.length ks.length) (yp (zjs ks.length Mc) (zdU Mc))=true)(hM:zeY lm ks Y Mc 0 ks)(hr:za4 (ks.length+nn) r=true)(hM':zih (ks.length+nn) M'){Keep:LI}{M:LT}{Z:zh}{w:World}(U:∀k m,lm k=some m->zO M k=some m)(C:zI Keep M Z w)(W:∀k,Y<=k->k<Y+nn->Z k=none){vs:LA}(hg:Gs (λb=>Keep b∨Own M Z b) (Own M Z) Z w za vs):
  Calls P f vs.toArray w λe w'=>∃v,e=.returned v/\qg Keep M Z w Y (vr ks Y r) (.give ks (yA ks Y M') nn) v w':=by
 obtain⟨Q,F⟩:=kr F;obtain⟨O,hkd⟩:=kr F;have hkd:=zd8 hkd;have Q:=Xk Q;obtain⟨n,hnl⟩:∃n,n=ks.length:=⟨_,rfl⟩;rw[←hnl]at Q O hl hr hM'
 -- the callee's names
 obtain⟨ρc,hρc⟩:∃ρc:zh,∀j,ρc j=(match ks[j]? with|some k=>Z k|none=>none):=⟨_,λ_=>rfl⟩
 have given:∀j m,(j,m)∈Mc->∃k,ks[j]?=some k/\zO Mc j=some m/\lm k=some (zig ks Y m)/\zqM n m:=λj m L=>by
  have hjn:=zkW O j m L;have d:=Xb (show j<ks.length by omega);obtain⟨J,c,i,u⟩:=zb2 hM j _ d;rw[Kb]at c
  have:J=m:=by
   have h4:=zu c
   by_cases e:(j,J)=(j,m)
   .simpa using e
   exfalso
   have:=hkd;obtain⟨a,ha'⟩:=JQ h4;obtain⟨b,hb'⟩:=JQ L;have B:a≠b:=λe'=>by subst e';rw[ha']at hb';cases hb';exact e rfl
   rw[Yd]at this;obtain⟨al,ae⟩:=Xd.1 ha';obtain⟨bl,be⟩:=Xd.1 hb'
   rcases Nat.lt_or_gt_of_ne B with h|h
   .have:=this a b al bl h;rw[ae,be]at this;exact this rfl
   have:=this b a bl al h;rw[ae,be]at this;exact this rfl
  subst this;exact⟨_,d,c,i,by rw[hnl];exact u⟩
 have hdown:∀k v,k<n->Z (rn ks Y k)=some v->ρc k=some v:=λk v hkn z=>by
  have d:=Xb (show k<ks.length by omega);rw[vE d]at z;rw[hρc,d];exact z
 have ownc:∀b,Own Mc ρc b->∃j k m v,(j,m)∈Mc/\ks[j]?=some k/\(k,zig ks Y m)∈M/\Z k=some v/\qi v=some b:=by
  rintro b ⟨j,m,v,c,i,u⟩
  obtain⟨k,d,_,T,_⟩:=given j m c;rw[hρc,d]at i;exact⟨j,k,m,v,c,d,zu (U k _ T),i,u⟩
 have ownsub:∀b,Own Mc ρc b->Own M Z b:=λb o=>by
  obtain⟨j,k,m,v,_,_,c,i,u⟩:=ownc b o;exact⟨k,_,v,c,i,u⟩
 obtain⟨R,hR⟩:∃R,R=jJ M ks:=⟨_,rfl⟩;have memR:∀x,x∈R->x∈M/\x.1∉ks:=λx hx=>by subst hR;exact⟨zb1 hx,zkV C.keys hx⟩
 obtain⟨Kp,hKp⟩:∃Kp:LI,∀b,Kp b↔(Keep b∨Own R Z b):=⟨_,λ_=>Qk⟩;have ownR:∀b,Own R Z b->Own M Z b:=λb ⟨k,m,v,c,i,u⟩=>⟨k,m,v,(memR _ c).1,i,u⟩
 have split:∀b,Keep b∨Own M Z b->Kp b∨Own Mc ρc b:=by
  rintro b (o|⟨k,m,v,c,i,u⟩)
  .exact .inl ((hKp b).2 (.inl o))
  by_cases hks:k∈ks
  .obtain⟨j,L⟩:=JQ hks;obtain⟨J,p,A,_⟩:=zb2 hM j k L;rw[Kb]at p;exact .inr ⟨j,J,v,zu p,by rw[hρc,L];exact i,u⟩
  refine .inl ((hKp b).2 (.inr ⟨k,m,v,?_,i,u⟩));subst hR
  have hin:∀{ks:LC} {M:LT},(k,m)∈M->k∉ks->(k,m)∈jJ M ks:=by
   intro ks
   induction ks with
   |nil=>intro M h _;exact h
   |cons q r ih=>
    intro M h hq;refine ih (M:=k9 M q) ?_ (λe=>hq (.tail _ e));have B:k≠q:=λe=>hq (e ▸ .head _)
    clear ih hq
    induction M with
    |nil=>cases h
    |cons x xs ihx=>
     obtain⟨a,y⟩:=x;simp only[k9]
     split
     .rename_i o;have:=Xk o;subst this
      cases h with
      |head=>exact absurd rfl B
      |tail _ h=>exact h
     cases h with
     |head=>exact .head _
     |tail _ h=>exact .tail _ (ihx h)
  exact hin c hks
 have unsplit:∀b,Kp b∨Own Mc ρc b->Keep b∨Own M Z b:=λb o=>o.elim (λh=>((hKp b).1 h).imp id (ownR b)) λh=>.inr (ownsub b h)
 have apartR:∀b,Kp b->¬Own Mc ρc b:=λb o X=>by
  obtain⟨j,k,m,v,_,d,c,i,u⟩:=ownc b X
  rcases(hKp b).1 o with o|⟨k',J,v',p,A,g3⟩
  .exact(C.old b ⟨k,_,v,c,i,u⟩).2 o
  have B:k≠k':=λe=>(memR _ p).2 (e ▸ Xf d)
  exact C.apart k _ k' J v v' b c (memR _ p).1 B i A u g3
 have hkp:∀b,Kp b->b<w.heap.size:=λb o=>((hKp b).1 o).elim (C.kp b) λh=>(C.old b (ownR b h)).1
 have hmc:zI Kp Mc ρc w:=by
  refine⟨λj m L=>?_,hkd,λj m D J v v' b c i B p A g3 g4=>?_,λb o=>⟨(C.old b (ownsub b o)).1,λh=>apartR b h o⟩,hkp,λg v h=>⟨λX=>(C.gl g v h).1 (ownsub g X),C.glc h⟩⟩
  .obtain⟨k,d,_,T,hlow⟩:=given j m L;have V:=C.rel k _ (zu (U k _ T))
   have hmem2:jD (λb=>Kp b∨Own Mc ρc b) (Own M Z) Z w (rn ks Y j) (zig ks Y m):=by
    rw[vE d];have hS:(λb=>Kp b∨Own Mc ρc b)=λb=>Keep b∨Own M Z b:=funext λb=>propext ⟨unsplit b,split b⟩
    rw[hS];exact V
   exact znA ownsub hdown (zkW O j m L) hlow hmem2
  obtain⟨k,d,_,T,_⟩:=given j m c;obtain⟨k',hkj',_,hlk',_⟩:=given D J i;rw[hρc,d]at p;rw[hρc,hkj']at A;exact C.apart k _ k' _ v v' b (zu (U k _ T)) (zu (U k' _ hlk')) (λe=>B (zgi hn j D k d (e ▸ hkj'))) p A g3 g4
 have hargs:Gs (λb=>Kp b∨Own Mc ρc b) (Own Mc ρc) ρc w args' vs:=by
  have hS:(λb=>Kp b∨Own Mc ρc b)=λb=>Keep b∨Own M Z b:=funext λb=>propext ⟨unsplit b,split b⟩
  rw[hS]
  have c:Gs (λb=>Keep b∨Own M Z b) (Own M Z) Z w (vr.rens ks Y args') vs:=by
   clear hl;generalize vr.rens ks Y args'=bs at ha
   induction ha generalizing vs with
   |nil=>exact hg
   |cons h t ih=>
    obtain⟨v,vs',rfl,p,A⟩:=hg.cons_inv;exact .cons (h _ _ _ _ _ p) (ih A)
  refine⟨c.1.trans (zbd args'),λj s v N z=>?_⟩;exact zg0 ownsub hdown s (zbs hl j s N) (c.2 j _ v (by rw[zbe,N];rfl) z)
 refine(hcall.2 Kp ρc w vs hkp hmc (λk F=>?_) hargs).mono ?_
 .rw[hρc,XH oM]
 rintro e w' ⟨v,Z',rfl,N,G,hgr⟩
 refine⟨v,rfl,?_⟩
 -- the caller's names
 obtain⟨Z2,hρ2⟩:∃Z2:zh,∀k,Z2 k=if Y<=k/\k<Y+nn then Z' (n+(k-Y)) else Z k:=⟨_,λ_=>rfl⟩
 have named:∀j k,ks[j]?=some k->∃v,Z k=some v/\Z' j=some v:=λj k L=>by
  obtain⟨J,p,A,_⟩:=zb2 hM j k L;obtain⟨v,z⟩:=(C.rel k _ (zu (U k _ A))).named;exact⟨v,z,N.rho j v (by rw[hρc,L];exact z)⟩
 have hup:∀j v,j<n+nn->Z' j=some v->Z2 (rn ks Y j)=some v:=λj v L z=>by
  by_cases hjn:j<n
  .have d:=Xb (show j<ks.length by omega);obtain⟨v1,c,i⟩:=named j _ d;rw[z]at i;cases i
   rw[vE d,hρ2,Xc,c]
   rintro⟨u,h4⟩
   rw[W _ u h4]at c;cases c
  rw[zc6 oM,hρ2,Xe oM];rw[←hnl,show n+(Y+(j-n)-Y)=j by omega];exact z
 have hrho:∀k v,Z k=some v->Z2 k=some v:=λk v z=>by
  rw[hρ2,Xc,z]
  rintro⟨u,h4⟩
  rw[W _ u h4]at z;cases z
 have back:∀j v,j<n+nn->Z2 (rn ks Y j)=some v->Z' j=some v:=λj v L z=>by
  by_cases hjn:j<n
  .have d:=Xb (show j<ks.length by omega);obtain⟨v1,c,i⟩:=named j _ d;have:=hrho _ _ c;rw[vE d,this]at z;cases z
   exact i
  rw[zc6 oM,hρ2,Xe oM,←hnl,show n+(Y+(j-n)-Y)=j by omega]at z;exact z
 have nameR:∀k m,(k,m)∈R->∃v,Z k=some v/\Z2 k=some v:=λk m F=>by
  obtain⟨v,z⟩:=(C.rel k m (memR _ F).1).named;exact⟨v,z,hrho k v z⟩
 have ownNew:∀b,Own (yA ks Y M'++R) Z2 b↔(Own M' Z' b∨Own R Z b):=λb=>by
  constructor
  .rintro⟨k,m,v1,c,i,u⟩
   rcases Xu.1 c with c|c
   .obtain⟨j,E,p,rfl,_⟩:=uw c;exact .inl ⟨j,E,v1,p,back j v1 (jT hM' j E p).1 i,u⟩
   obtain⟨v2,p,A⟩:=nameR k m c;rw[i]at A;cases A
   exact .inr ⟨k,m,v1,c,p,u⟩
  rintro(⟨j,m,v1,c,i,u⟩|⟨k,m,v1,c,i,u⟩)
  .exact⟨_,_,v1,Kz _ (zcs c),hup j v1 (jT hM' j m c).1 i,u⟩
  exact⟨k,m,v1,Kt _ c,hrho k v1 i,u⟩
 have hset:∀b,Keep b∨Own (yA ks Y M'++R) Z2 b->Kp b∨Own M' Z' b:=λb o=>by
  rcases o with o|o
  .exact .inl ((hKp b).2 (.inl o))
  rcases(ownNew b).1 o with h|h
  .exact .inr h
  exact .inl ((hKp b).2 (.inr h))
 have hst:Stp (Own M Z) (Own (yA ks Y M'++R) Z2) Z Z2 w w':=by
  refine⟨N.os,N.tape,N.output,N.size,λb o hnb=>N.block b o λX=>hnb (ownsub b X),λb o=>?_,hrho⟩
  rcases(ownNew b).1 o with h|h
  .exact(N.own b h).imp (ownsub b) id
  exact .inl (ownR b h)
 have keyNew:∀k m,(k,m)∈yA ks Y M'->k∉(R.map (·.1)):=λk m F hin=>by
  obtain⟨j,E,p,rfl,_⟩:=uw F;obtain⟨⟨k2,m2⟩,c,i⟩:=XK.1 hin;have i:k2=rn ks Y j:=i
  by_cases hjn:j<n
  .have d:=Xb (show j<ks.length by omega);rw[vE d]at i;exact(memR _ c).2 (i ▸ Xf d)
  have:=(jT hM' j E p).1;rw[zc6 oM]at i;obtain⟨v1,H,_⟩:=nameR k2 m2 c;rw[W k2 oM oM]at H;cases H
 have rninj:∀j D,j<n+nn->D<n+nn->rn ks Y j=rn ks Y D->j=D:=λj D L hj' he=>by
  by_cases c:j<n <;> by_cases i:D<n
  .have k1:=Xb (show j<ks.length by omega);have k2:=Xb (show D<ks.length by omega);rw[vE k1,vE k2]at he;exact zgi hn j D _ k1 (by rw[k2,he])
  .have k1:=Xb (show j<ks.length by omega);obtain⟨v1,H,_⟩:=named j _ k1;rw[vE k1,zc6 oM]at he;rw[W _ oM oM]at H;cases H
  .have k2:=Xb (show D<ks.length by omega);obtain⟨v1,H,_⟩:=named D _ k2;rw[vE k2,zc6 oM]at he;rw[W _ oM oM]at H;cases H
  rw[zc6 oM,zc6 oM]at he;omega
 have hpw:(yA ks Y M'++R).Pairwise λa b=>a.1≠b.1:=by
  rw[List.pairwise_append];refine⟨?_,by subst hR;exact zcr C.keys,λx hx y hy e=>keyNew x.1 x.2 hx (e ▸ JX hy)⟩
  have:∀{l:LT},l.Pairwise (λa b=>a.1≠b.1)->(∀j m,(j,m)∈l->j<n+nn)->(yA ks Y l).Pairwise λa b=>a.1≠b.1:=by
   intro l
   induction l with
   |nil=>intro _ _;exact List.Pairwise.nil
   |cons x xs ih=>
    intro hp hlt;obtain⟨j,m⟩:=x;rw[XT]at hp;refine XT.2 ⟨λy hy e=>?_,ih hp.2 λj m h=>hlt j m (.tail _ h)⟩;obtain⟨k,J⟩:=y;obtain⟨D,E,p,A,_⟩:=uw hy;have e:rn ks Y j=k:=e;rw[A]at e;exact hp.1 (D,E) p (rninj j D (hlt j m (.head _)) (hlt D E (.tail _ p)) e)
  exact this G.keys λj m h=>(jT hM' j m h).1
 have V:zI Keep (yA ks Y M'++R) Z2 w':=by
  refine⟨λk m F=>?_,hpw,λk m k' J v1 v2 b c i B p A g3 g4=>?_,λb o=>?_,λb o=>Xx (C.kp b o) N.size,λg v h=>⟨λX=>((ownNew g).1 X).elim (G.gl g v h).1 λh'=>(C.gl g v h).1 (ownR g h'),G.glc h⟩⟩
  .rcases Xu.1 F with F|F
   .obtain⟨j,E,c,rfl,rfl⟩:=uw F;exact zDD hset hup (jT hM' j E c).1 (jT hM' j E c).2 (G.rel j E c)
   obtain⟨v1,c,i⟩:=nameR k m F;refine jD.keep hst (i.trans c.symm) (λv2 b p A=>?_) (C.rel k m (memR _ F).1);have X:Own R Z b:=⟨k,m,v2,F,p,A⟩;exact N.block b (C.old b (ownR b X)).1 λhc=>apartR b ((hKp b).2 (.inr X)) hc
  .rcases Xu.1 c with c|c <;> rcases Xu.1 i with i|i
   .obtain⟨j,E,q1,rfl,_⟩:=uw c;obtain⟨D,m0',q2,rfl,_⟩:=uw i;exact G.apart j E D m0' v1 v2 b q1 q2 (λe=>B (by rw[e])) (back j v1 (jT hM' j E q1).1 p) (back D v2 (jT hM' D m0' q2).1 A) g3 g4
   .obtain⟨j,E,q1,rfl,_⟩:=uw c;obtain⟨v3,e1,e2⟩:=nameR k' J i;rw[A]at e2;cases e2
    exact(G.old b ⟨j,E,v1,q1,back j v1 (jT hM' j E q1).1 p,g3⟩).2 ((hKp b).2 (.inr ⟨k',J,v2,i,e1,g4⟩))
   .obtain⟨j,E,q1,rfl,_⟩:=uw i;obtain⟨v3,e1,e2⟩:=nameR k m c;rw[p]at e2;cases e2
    exact(G.old b ⟨j,E,v2,q1,back j v2 (jT hM' j E q1).1 A,g4⟩).2 ((hKp b).2 (.inr ⟨k,m,v1,c,e1,g3⟩))
   obtain⟨v3,e1,e2⟩:=nameR k m c;rw[p]at e2;cases e2
   obtain⟨v4,e3,e4⟩:=nameR k' J i;rw[A]at e4;cases e4
   exact C.apart k m k' J v1 v2 b (memR _ c).1 (memR _ i).1 B e1 e3 g3 g4
  rcases(ownNew b).1 o with h|h
  .exact⟨(G.old b h).1,λO=>(G.old b h).2 ((hKp b).2 (.inl O))⟩
  exact⟨Xx (C.old b (ownR b h)).1 N.size,(C.old b (ownR b h)).2⟩
 have e0:zcV M Y (.give ks (yA ks Y M') nn)=yA ks Y M'++R:=by subst hR;rfl
 refine⟨Z2,?_,?_,?_,λk F=>?_⟩
 .rw[e0];exact hst
 .rw[e0];exact V
 .rw[e0];exact ztV hset hup r hr hgr
 have F:k<Y∨Y+nn<=k:=F;rw[hρ2,Xc oM]
end
end Go.Gs
