/- Calls by contract. -/
import Derived.Test.YtakicgnbhdpknaaGreatDoorPAG
import Derived.MapKept
import Derived.ChangeMaps4
set_option maxRecDepth 100000
set_option maxHeartbeats 8000000
set_option linter.all false
namespace Go.Gs
section zkg
variable{lm:LJ}{Keep:LI}{M:LT}{O:zh}{w:World}{S':LI}
section
def D.less{S:LI}(h:∀b,S' b->S b){s:SV}{v:Value}(d:D S w s v):D S' w s v:=d.mono (Xj _) λb _ c=>⟨λa=>c (h b a),rfl⟩
def win_d{α:Type}{enc:α->LR}{sz:Nat}{xs:List α}{b len cap cap' lo n:Nat}(u:b<w.heap.size)(hS:¬S' b)(hesz:∀x∈xs,(enc x).length=sz)(z:D S' w (.sl enc xs) (.slice (some ⟨b,0,none⟩) len cap))(q:lo+n<=len)(g:n<=cap')(d:len=xs.length):
  D S' w (.sl enc ((xs.drop lo).take n)) (.slice (some ⟨b,lo*sz,none⟩) n cap'):=by
 have B:((xs.drop lo).take n).length=n:=by simp;omega
 have f:∀x∈(xs.drop lo).take n,x∈xs:=λx a=>K2 (XO a)
 obtain⟨rfl,_⟩|⟨p,F,o,cp,c,e,_,_,v,_,hsz',y,A⟩:=z.sl_inv
 .have C:n=0:=by simp at d;omega
  subst C;have:=D.sl (S:=S') (w:=w) enc (([]:List α).drop lo |>.take 0) sz b (lo*sz) cap' (λ_ _=>undef) u hS sI sI sI (λi j hi=>by simp at hi) (λi j x s a=>by simp at a)
  simpa using this
 cases e
 have h:∀i x,((xs.drop lo).take n)[i]?=some x->xs[lo+i]?=some x:=by
  intro i x a;rw[XK]at a
  split at a
  .simpa using a
  cases a
 have E:0<n->p=sz:=λI=>by
  have q:=Xb (show lo<xs.length by omega);have g:=Xf q;rw[←hesz _ g,←hsz' _ g]
 have:=D.sl (S:=S') (w:=w) enc ((xs.drop lo).take n) sz b (lo*sz) cap' (λi j=>c (lo+i) j) u hS oM oM (λx a=>hesz x (f x a)) (λi j hi G=>by
  have l:=E oM;have t:=y (lo+i) j oM oM;rw[Ka,l,X8]at t
  exact t) (λi j x s a k=>A (lo+i) j x s (h i x a) k)
 rwa [B]at this
def zuU(d:∀k m,lm k=some m->(k,m)∈M)(o:zJ Keep M O w)(a:∀b,S' b->Keep b∨Own M O b){s:SV}{v:Value}(e:G (λb=>Keep b∨Own M O b) (Own M O) O w s v)(j:yd s=true∨∀b,Own M O b->¬S' b):D S' w (zuJ lm s) v:=by
 unfold zuJ
 split
 .rename_i k;have l:∀b,Own M O b->¬S' b:=j.resolve_left (by simp[yd])
  split
  .rename_i T α enc sz xs c;exact zgC o (d k _ c) a (λv b h i=>l b ⟨k,_,v,d k _ c,h,i⟩) e.own_inv.1
  exact .junk v
 .rename_i f;obtain⟨vs,rfl,g⟩:=e.fn_inv;rw[g.nil_inv];exact .val _
 split
 .rename_i n;exact(uV n e).less a
 exact .junk v
def zkt(a:LR)(j:Nat):(zcM lm a)[j]?=(a[j]?).map (zuJ lm):=by
 induction a generalizing j with
 |nil=>simp[zcM]
 |cons c a b=>cases j with
  |zero=>simp[zcM]
  |succ j=>simp[zcM,b]
def zku(a:LR):(zcM lm a).length=a.length:=by
 induction a with
 |nil=>rfl
 |cons c a b=>simp[zcM,b]
variable{Pm':LI}{O':zh}
def zoS(l:∀k m,lm k=some m->(k,m)∈M)(B:zJ Keep M O w)(p:∀b,S' b->Keep b∨Own M O b){s:SV}{v:Value}(C:G (λb=>Keep b∨Own M O b) (Own M O) O w s v)(I:zcN lm s=true∨∀b,Own M O b->¬S' b)(hP:∀b,¬Own M O b->¬Pm' b)(hP2:∀k off b,s=.loc k off->O k=some (.pointer (some ⟨b,0,none⟩))->¬Pm' b):G S' Pm' O' w (zi6 lm s) v:=by
 unfold zi6
 split
 .rename_i k off
  split
  .rename_i T E a;obtain⟨b,vs,hρ,hheap,A,hone,q⟩:=B.rel k _ (l k _ a);obtain⟨Z,hρ',rfl⟩:=C.loc_inv;rw[hρ]at hρ';cases hρ'
   refine .ptr _ b off (λj=>(vs[off+j]?).getD undef) (B.old b ⟨k,_,_,l k _ a,hρ,rfl⟩).1 (hP2 k off b rfl hρ) (λj W=>?_) (λj s D=>?_)
   .have t:off+j<vs.length:=by simp[zku]at W;omega
    rw[Xb t];exact⟨by rw[zch hheap,Xb t];rfl,hone _ (X2 t)⟩
   simp only[KG,zkt]at D
   cases i:E[off+j]? with
   |none=>simp[i]at D
   |some c=>
    simp[i]at D;subst D;have t:off+j<vs.length:=by rw[A];exact(Xd.1 i).1
    rw[Xb t];refine zuU l B p (q _ c _ i (Xb t)) (I.imp (λh=>?_) id);simp only[zcN,a]at h;exact yP h _ c i
  exact .d _ _ (.junk v)
 .rename_i k;have J:∀b,Own M O b->¬S' b:=I.resolve_left (by simp[zcN,yd])
  split
  .rename_i T α enc sz xs a;exact .d _ _ (zgC B (l k _ a) p (λv b u y=>J b ⟨k,_,v,l k _ a,u,y⟩) C.own_inv.1)
  exact .d _ _ (.junk v)
 .rename_i k sz lo n;have J:∀b,Own M O b->¬S' b:=I.resolve_left (by simp[zcN,yd])
  split
  .rename_i T α enc X xs a
   split
   .rename_i L;have:=Xk L;subst this;obtain⟨b,len,cap,cap',hρ,rfl,u,y⟩:=C.win_inv;have U:=zgC B (l k _ a) p (λv b u y=>J b ⟨k,_,v,l k _ a,u,y⟩) hρ;have Q:Own M O b:=⟨k,_,_,l k _ a,hρ,rfl⟩;obtain⟨v',cells,hρ',F,A,hone,hesz,q⟩:=B.rel k _ (l k _ a);rw[hρ]at hρ';cases hρ'
    refine .d _ _ (win_d (B.old b Q).1 (J b Q) hesz U u y ?_)
    obtain⟨e,_⟩|⟨g,cap,R,e,_⟩:=F.2 <;> cases e
    rfl
   exact .d _ _ (.junk _)
  exact .d _ _ (.junk _)
 .rename_i E;obtain⟨vs,rfl,z⟩:=C.agg_inv;refine .agg _ vs (by rw[zku];exact z.1) λj s v u y=>?_
  rw[zkt]at u
  cases i:E[j]? with
  |none=>simp[i]at u
  |some c=>
   simp[i]at u;subst u;exact .d _ _ (zuU l B p (z.2 j c v i y) (I.imp (λh=>yP h j c i) id))
 .rename_i E;obtain⟨b,o,c,rfl,L,N,u,y⟩:=C.ptr_inv;exact .ptr E b o c L (hP b N) u λj s D=>(y j s D).less p
 .rename_i f;obtain⟨vs,rfl,z⟩:=C.fn_inv;rw[z.nil_inv];exact .fn f [] [] rfl λj s v h=>by simp at h
 split
 .rename_i V;exact .d _ _ ((uV V C).less p)
 exact .d _ _ (.junk v)
def zkv(g:∀k m,lm k=some m->(k,m)∈M)(i:zJ Keep M O w)(d:∀b,S' b->Keep b∨Own M O b){Pm':LI}(hP:∀b,¬Own M O b->¬Pm' b){O':zh}:∀{f:LR} {vs:LA},
  (∀k off b,.loc k off∈f->O k=some (.pointer (some ⟨b,0,none⟩))->¬Pm' b)->Gs (λb=>Keep b∨Own M O b) (Own M O) O w f vs->(zcO lm f=true∨∀b,Own M O b->¬S' b)->Gs S' Pm' O' w (zoI lm f) vs
 |[],vs,_,h,_=>by rw[h.nil_inv];exact .nil
 |c::f,vs,hP2,h,a=>by
  obtain⟨v,o,rfl,j,l⟩:=h.cons_inv
  have key:(zcN lm c=true∨∀b,Own M O b->¬S' b)/\(zcO lm f=true∨∀b,Own M O b->¬S' b):=by
   rcases a with a|a
   .simp only[zcO]at a
    split at a
    .exact⟨.inl ‹_›,.inl a⟩
    cases a
   exact⟨.inr a,.inr a⟩
  exact .cons (zoS g i d j key.1 hP λk off b e=>hP2 k off b (e ▸ .head _)) (zkv g i d hP (λk off b n=>hP2 k off b (.tail _ n)) l key.2)
def zkw(d:∀k m,lm k=some m->(k,m)∈M)(o:zJ Keep M O w)(c:∀b,S' b->Keep b∨Own M O b){s:SV}{v:Value}(n:G (λb=>Keep b∨Own M O b) (Own M O) O w s v)(l:uy lm [s]=true∨∀b,Own M O b->¬S' b)(hP:∀b,¬Own M O b->¬Pm' b)(hP2:∀k off b,(s=.loc k off∨∃f g,s=.fn f g/\.loc k off∈g)->O k=some (.pointer (some ⟨b,0,none⟩))->¬Pm' b):G S' Pm' O' w (zkg lm s) v:=by
 unfold zkg
 split
 .rename_i f g;obtain⟨vs,rfl,j⟩:=n.fn_inv
  have h:=zkv (S':=S') (Pm':=Pm') (O':=O') d o c hP (λk off b p=>hP2 k off b (.inr ⟨_,_,rfl,p⟩)) j (l.imp (λh=>by
   simp only[uy]at h
   split at h
   .assumption
   cases h) id)
  exact .fn f _ vs h.1 h.2
 rename_i i;refine zoS d o c n (l.imp (λh=>?_) id) hP (λk off b e=>hP2 k off b (.inl e));unfold uy at h
 split at h
 .rename_i a;cases a
 .rename_i a;cases a;exact absurd rfl (i _ _)
 rename_i a
 cases a
 split at h
 .assumption
 cases h
def zkx{s:SV}{r:LR}(h:uy lm (s::r)=true):uy lm [s]=true/\uy lm r=true:=by
 cases s <;> simp only[uy]at h ⊢ <;> (split at h <;> simp_all)
def zgF(f:∀k m,lm k=some m->(k,m)∈M)(h:zJ Keep M O w)(a:∀b,S' b->Keep b∨Own M O b){Pm':LI}(hP:∀b,¬Pm' b){O':zh}:∀{e:LR} {vs:LA},
  Gs (λb=>Keep b∨Own M O b) (Own M O) O w e vs->(uy lm e=true∨∀b,Own M O b->¬S' b)->Gs S' Pm' O' w (zdv lm e) vs
 |[],vs,g,_=>by rw[g.nil_inv];exact .nil
 |c::e,vs,g,d=>by
  obtain⟨v,l,rfl,i,j⟩:=g.cons_inv
  have key:(uy lm [c]=true∨∀b,Own M O b->¬S' b)/\(uy lm e=true∨∀b,Own M O b->¬S' b):=by
   rcases d with d|d
   .exact⟨.inl (zkx d).1,.inl (zkx d).2⟩
   exact⟨.inr d,.inr d⟩
  exact .cons (zkw f h a i key.1 (λb _=>hP b) (λ_ _ b _ _=>hP b)) (zgF f h a hP j key.2)
end
end zkg
section
def uW{b:LR}(h:uz.scalars b=true):∀(j:Nat) (s:SV),b[j]?=some s->uz s=true:=by
 induction b with
 |nil=>intro j s a;simp at a
 |cons c b e=>
  intro j s a;simp only[uz.scalars]at h
  split at h
  .rename_i d
   cases j with
   |zero=>simp at a;subst a;exact d
   |succ j=>exact e h j s (by simpa using a)
  cases h
def v7{S S' Pm:LI}{O:zh}{w w':World}{s:SV}(c:uz s=true){v:Value}(o:G S Pm O w s v):D S' w' s v:=by
 have key:∀{s:SV} {v:Value},D S w s v->uz s=true->D S' w' s v:=by
  intro s v n
  induction n with
  |val v=>exact λ_=>.val v
  |pr p i=>exact λ_=>.pr p i
  |nils a=>exact λ_=>.nils a
  |anyb b=>exact λ_=>.anyb b
  |agg g vs l h e=>exact λc=>.agg g vs l λj s v f k=>e j s v f k (uW c j s f)
  |ifc t s v h e=>exact λc=>.ifc t s v (e c)
  |_=>intro c;simp[uz]at c
 induction o with
 |d _ _ h=>exact key h c
 |agg g vs l h e=>exact .agg g vs l λj s v f k=>e j s v f k (uW c j s f)
 |ifc t s v h e=>exact .ifc t s _ (e c)
 |_=>simp[uz]at c
variable{S:LI}{S':LI}{Pm:LI}{Pm':LI}{O:zh}{O':zh}{r:SV}
def zjP{w:World}(a:∀b,S' b->S b)(e:zkf r=true){v:Value}(g:G S Pm O w r v):G S' Pm' O' w r v:=by
 unfold zkf at e
 split at e
 .obtain⟨vs,rfl,c⟩:=g.tup_inv;exact .tup _ vs c.1 λj s v f h=>.d _ _ ((uV (yP e j s f) (c.2 j s v f h)).less a)
 exact .d _ _ ((uV e g).less a)
def zwN{w w':World}(b:zjJ r=true){v:Value}(e:G S Pm O w r v):G S' Pm' O' w' r v:=by
 unfold zjJ at b
 split at b
 .obtain⟨vs,rfl,a⟩:=e.tup_inv;exact .tup _ vs a.1 λj s v c f=>.d _ _ (v7 (uW b j s c) (a.2 j s v c f))
 exact .d _ _ (v7 b e)
def zgG{P:Program}{o:Oper}{c:Call}{fx:Operand}(k:o.op=.call c)(i:c.callee=.value fx){a:Act}{w:World}{f:FuncId}{fs caps vs:LA}(j:a.eval fx=.func (.func f) fs.toArray caps.toArray)(l:c.args.toList.map a.eval=vs)(b:zdM P f):(execOp a.eval o).run P w=.ok (.enter f (fs++(vs++caps)).toArray) w:=by
 obtain⟨fn,d,e,g⟩:=b;have h:c.args.map a.eval=vs.toArray:=by apply QX;simp[l]
 simp only[execOp,k,resolve,i,j,h,Deferred.ofValue,invoke,callFunc,Sem.run_bind,Sem.run_pure,Result.andThen_ok,run_program,d,e,g,KF,if_false];simp
def zN{b:Nat}:¬Own [] O b:=λ⟨_,_,_,h,_⟩=>by cases h
def qr{w:World}(h:∀b,S b->b<w.heap.size)(a:∀g v,GL g v->w.cell? ⟨g,0,none⟩=some v):zJ S [] O w:=
 ⟨λ_ _ h=>(by cases h),List.Pairwise.nil,λ_ _ _ _ _ _ _ h=>(by cases h),λ_ h=>absurd h zN,h,λg v k=>⟨zN,a g v k⟩⟩
def kR.block(w:World){r:Nat}{ents:Array MapEntry}{clock:Nat}(h:w.heap[r]?=some (.map ents clock))(b:Array MapEntry)(c:Nat):
  kR w { w with heap:=w.heap.setIfInBounds r (.map b c) }:=⟨rfl,λa=>by
 unfold World.frozen?
 show(match (w.heap.setIfInBounds r (.map b c))[a.block]? with
  |some (.cells _ _ (lo,hi))=>decide (lo<=a.off)&&decide (a.off<hi)
  |_=>false)=_
 by_cases e:r=a.block
 .subst e;have d:a.block<w.heap.size:=(X3.1 h).1
  have f:(w.heap.setIfInBounds a.block (Obj.map b c))[a.block]?=some (.map b c):=by
   rw[Qd];simp[d]
  rw[f,h]
 rw[Qd,Xc e]
 cases w.heap[a.block]? with
 |none=>rfl
 |some o=>cases o <;> rfl⟩
def kR.map(w:World):kR w (w.alloc (.map #[] 0)):=⟨rfl,λa=>by
 unfold World.frozen?
 by_cases e:a.block<w.heap.size
 .rw[heap_alloc_old w _ a.block e]
 have b:w.heap[a.block]?=none:=K3 oM
 by_cases c:a.block=w.heap.size
 .rw[c,heap_alloc_new];rw[c]at b;rw[b]
 have d:(w.alloc (.map #[] 0)).heap[a.block]?=none:=K3 (by simp;omega)
 rw[b,d]⟩
def zJ.writeMap{Keep:LI}{M:LT}{w:World}(i:zJ Keep M O w){k:Nat}{m:Mem}(l:Mem)(q:(k,m)∈M){r:Nat}(p:O k=some (.map (some r))){ents:Array MapEntry}{clock:Nat}(C:w.heap[r]?=some (.map ents clock))(c:Array MapEntry)(n:Nat)(hrel:Stp (Own M O) (Own (qN M k l) O) O O w { w with heap:=w.heap.setIfInBounds r (.map c n) }->
   jN (λb=>Keep b∨Own (qN M k l) O b) (Own (qN M k l) O) O { w with heap:=w.heap.setIfInBounds r (.map c n) } k l):
  Stp (Own M O) (Own (qN M k l) O) O O w { w with heap:=w.heap.setIfInBounds r (.map c n) }/\zJ Keep (qN M k l) O { w with heap:=w.heap.setIfInBounds r (.map c n) }:=by
 have hkeys:(qN M k l).map (·.1)=M.map (·.1):=za9;have o:qf (.map (some r))=some r:=rfl
 have hother:∀f,f≠r->(w.heap.setIfInBounds r (Obj.map c n))[f]?=w.heap[f]? :=λf a=>by
  rw[Qd];simp[Ne.symm a]
 have v:Stp (Own M O) (Own (qN M k l) O) O O w { w with heap:=w.heap.setIfInBounds r (.map c n) }:=
  ⟨rfl,rfl,.block w C _ _,sI,λf _ D=>hother f (λe=>D ⟨k,m,_,q,p,e ▸ o⟩),λf d=>.inl (zav hkeys.symm d),λ_ _ h=>h⟩
 refine⟨v,zJ.next k i v (yO hkeys i.keys) ?_ ?_ ?_⟩
 .intro z A s a
  obtain⟨_,g⟩|g:=jO i.keys _ s
  .refine⟨g,rfl,λB f j d=>hother f (λe=>?_)⟩;subst e;exact i.apart z A k m B _ f g q a j p d o
  cases g;exact absurd rfl a
 .intro A s
  obtain⟨g,_⟩|g:=jO i.keys _ s
  .exact absurd rfl g
  cases g;exact hrel v
 intro A B f _ j d;rw[p]at j;cases j
 rw[o]at d;cases d
 refine⟨λz E v2 g a y u=>?_,by simpa using (i.old r ⟨k,m,_,q,p,o⟩).1,(i.old r ⟨k,m,_,q,p,o⟩).2⟩
 obtain⟨_,t⟩|t:=jO i.keys _ g
 .exact i.apart z E k m v2 _ r t q a y p u o
 cases t;exact absurd rfl a
def zky:∀{b:List (Int×SV)} {n:Int} {K1:SV->Prop} {K0:Prop},zyR b n K1 K0->
  (∃(i:Nat) (s:SV),b[i]?=some (n,s)/\(∀(j:Nat) (m:Int) (s':SV),j<i->b[j]?=some (m,s')->n≠m)/\K1 s)∨((∀(j:Nat) (m:Int) (s':SV),b[j]?=some (m,s')->n≠m)/\K0)
 |[],n,K1,K0,h=>.inr ⟨λj m s' h=>by simp at h,h⟩
 |(k,s)::r,n,K1,K0,h=>by
  have h:Br (n=k->K1 s) (¬n=k->zyR r n K1 K0):=h
  by_cases e:n=k
  .exact .inl ⟨0,s,by rw[e];rfl,λj _ _ g=>by omega,h.yes e⟩
  rcases zky (h.no e) with⟨i,l,c,d,f⟩|⟨c,d⟩
  .refine .inl ⟨i+1,l,c,λj m s' g a=>?_,f⟩
   cases j with
   |zero=>simp at a;rw[←a.1];exact e
   |succ j=>exact d j m s' oM a
  refine .inr ⟨λj m s' a=>?_,d⟩
  cases j with
  |zero=>simp at a;rw[←a.1];exact e
  |succ j=>exact c j m s' a
def zna:∀{b:List (Int×SV)} {n:Int} {s:SV} {K:List (Int×SV)->Prop},zyS b n s K->
  (∃(i:Nat) (c:SV),b[i]?=some (n,c)/\(∀(j:Nat) (m:Int) (s':SV),j<i->b[j]?=some (m,s')->n≠m)/\K (b.set i (n,s)))∨((∀(j:Nat) (m:Int) (s':SV),b[j]?=some (m,s')->n≠m)/\K (b++[(n,s)]))
 |[],n,s,K,h=>.inr ⟨λj m s' h=>by simp at h,h⟩
 |(k,c)::r,n,s,K,h=>by
  have h:Br (n=k->K ((n,s)::r)) (¬n=k->zyS r n s λo=>K ((k,c)::o)):=h
  by_cases e:n=k
  .exact .inl ⟨0,c,by rw[e];rfl,λj _ _ l=>by omega,h.yes e⟩
  rcases zna (h.no e) with⟨i,p,d,f,g⟩|⟨d,f⟩
  .refine .inl ⟨i+1,p,d,λj m s' l a=>?_,g⟩
   cases j with
   |zero=>simp at a;rw[←a.1];exact e
   |succ j=>exact f j m s' oM a
  refine .inr ⟨λj m s' a=>?_,f⟩
  cases j with
  |zero=>simp at a;rw[←a.1];exact e
  |succ j=>exact d j m s' a
def zdZ{n:Int}:∀{ents:List MapEntry} {i:Nat} {e:MapEntry} (c:Nat),ents[i]?=some e->e.key=.int .i64 n->(∀(j:Nat) a,j<i->ents[j]?=some a->∃m,a.key=.int .i64 m/\n≠m)->
  Instr.findNow (.int .i64) (.int .i64 n) ents c=some (some (c+i,e.val))
 |[],i,e,c,h,_,_=>by simp at h
 |x::r,i,e,c,h,b,d=>by
  cases i with
  |zero=>
   simp at h;subst h;unfold Instr.findNow;simp[Instr.sameNow,b]
  |succ i=>
   obtain⟨m,f,g⟩:=d 0 x oM rfl;unfold Instr.findNow;rw[f];simp only[Instr.sameNow,if_true];rw[show(n==m)=false by simpa using g];simp only;rw[zdZ (c+1) (i:=i) h b (λj a l k=>d (j+1) a oM k)];congr 2;congr 1;omega
def zcU{n:Int}:∀{ents:List MapEntry} (c:Nat),(∀(j:Nat) a,ents[j]?=some a->∃m,a.key=.int .i64 m/\n≠m)->Instr.findNow (.int .i64) (.int .i64 n) ents c=some none
 |[],c,_=>rfl
 |x::r,c,b=>by
  obtain⟨m,d,e⟩:=b 0 x rfl;unfold Instr.findNow;rw[d];simp only[Instr.sameNow,if_true];rw[show(n==m)=false by simpa using e];exact zcU (c+1) λj a f=>b (j+1) a f
variable{P:Program}
def za3{w:World}{kt:TypeId}{k:IntKind}(h:P.underlying kt=some (.int k))(b:Bool)(v:Value):(Instr.checkKey b 10000 kt v).run P w=.ok () w:=by
 rw[Instr.checkKey];simp[run_underlying h]
def zoT(n:Int):Instr.sameBits 10000 (.int .i64 n) (.int .i64 n)=true:=by
 unfold Instr.sameBits;simp
variable{H:LS}{lm:LJ}{Y:Nat}{K:LD}
def zmJ(hT:TOK P H){t:TypeId}{x:Option Operand}{e:LR}(h:zkn H t e Y K):∃r j,K r j/\yU P (.makeMap t x) e lm Y r j:=by
 unfold zkn at h;replace h:=zE h;obtain⟨i,hi,h⟩:=h;have f:=(hT t i hi).kind
 split at h
 .rename_i kt k hkind;rw[hkind]at f;have f:P.underlying t=some (.map kt k):=f
  have fin:∀(o:Oper) (Keep:LI) (M:LT) (O:zh) (a:Act) (w:World),zJ Keep M O w->O Y=none->(∀m,(Y,m)∉M)->
    (execOp a.eval o).run P w=.ok (.value (.map (some w.heap.size))) (w.alloc (.map #[] 0))->qM P o a w (qc Keep M O w Y (.own Y) (.push (.map []))):=λo Keep M O a w c hκ hκM d=>
   qM.value d (qc.push (u:=.map (some w.heap.size)) (zcT c hκ hκM _ _ _ (.map w) rfl λq=>
    ⟨w.heap.size,#[],0,kG,heap_alloc_new w _,rfl,λi n s hi=>by simp at hi⟩) (.own _ _ kG rfl))
  split at h
  .refine⟨_,_,h,λo g Keep M O a w _ c hκ hκM b=>fin o Keep M O a w c (hκ _ (Xj _) (X5 _)) (hκM rfl) ?_⟩
   have l:x=none:=by
    cases x with
    |none=>rfl
    |some y=>have:=b.1;simp[qi,uG]at this
   subst l;simp[execOp,g,Instr.makeMap]
  .rename_i kk nn rest;refine⟨_,_,h,λo g Keep M O a w _ c hκ hκM b=>fin o Keep M O a w c (hκ _ (Xj _) (X5 _)) (hκM rfl) ?_⟩
   cases x with
   |none=>have:=b.1;simp[qi,uG]at this
   |some y=>
    have p:a.eval y=.int kk nn:=(Gs.head b).val_inv;simp[execOp,g,Instr.makeMap,p,run_underlying f,asInt,asIntOf]
  exact h.elim
 exact h.elim
variable{x:Operand}{m:SV}
def zgH(hT:TOK P H){t:TypeId}{y z:Operand}{k s:SV}(h:zcQ H t m k s lm K):(∃r U,K r U/\yU P (.mapUpdate t x y z) [m,k,s] lm Y r U)/\∃r U,K r U/\yU P (.insert t x y z) [m,k,s] lm Y r U:=by
 constructor
 all_goals
  unfold zcQ at h;replace h:=zE h;obtain⟨i,hi,h⟩:=h;have N:=(hT t i hi).kind
  split at h
  .rename_i kt et hkind;rw[hkind]at N;have N:P.underlying t=some (.map kt et):=N;replace h:=zE h;obtain⟨j,L,h⟩:=h;have q:=(hT kt j L).kind
   split at h
   .rename_i c n hjk;rw[hjk]at q;have q:P.underlying kt=some (.int .i64):=q
    split at h
    .rename_i F Q;replace h:=zj h;obtain⟨hf,h⟩:=h
     obtain⟨i,s0,W,h2,Z⟩|⟨W,Z⟩:=zna h
     .refine⟨_,_,Z,λo ho Keep M O a w C R _ _ l=>?_⟩;have g:=zA (C c _ Q);obtain⟨r,ents,clock,A,v,V,G⟩:=R.rel c _ g;obtain⟨E,hρ,hx⟩:∃E,O c=some E/\a.eval x=E:=⟨_,(Gs.head l).own_inv.1,rfl⟩;rw[A]at hρ;cases hρ
      have hy:a.eval y=.int .i64 n:=(Gs.head (Gs.tail l)).val_inv;have hz:=uV hf (Gs.head (Gs.tail (Gs.tail l)));obtain⟨e,he,J,hd⟩:=G i n s0 W
      have hhit:=zdZ (n:=n) 0 (ents:=ents.toList) (i:=i) (e:=e) (by simpa using he) J (λj X L f=>by
       have B:j<F.length:=by have:=(Xd.1 W).1;omega
       obtain⟨⟨m,s'⟩,u⟩:∃p,F[j]?=some p:=⟨_,Xb B⟩;obtain⟨I,q1,D,_⟩:=G j m s' u;have f:ents[j]?=some X:=by simpa using f
       rw[q1]at f;cases f
       exact⟨m,D,h2 j m s' L u⟩)
      rw[X8]at hhit;refine qM.skip (w':={ w with heap:=w.heap.setIfInBounds r (.map (ents.modify i λe=>{ e with key:=.int .i64 n,val:=a.eval z }) clock) }) ?_ ?_
      .simp[execOp,ho,hx,hy,Instr.mapUpdate,run_underlying N,run_underlying q,MapKept.run_getObj_map v,za3 q,Instr.findKey,hhit,Instr.keyThatStays,he,J,zoT,MapKept.run_setObj_map _ v]
      refine qc.set (R.writeMap _ g A v _ _ λT=>⟨r,ents.modify i λe=>{ e with key:=.int .i64 n,val:=a.eval z },clock,A,by rw[Qd];simp[(X3.1 v).1],by simp[V],λj m s' b=>?_⟩) (.d _ _ (.val _));rw[KE]at b
      by_cases eij:i=j
      .subst eij;rw[Xe rfl]at b
       split at b
       .cases b
        exact⟨{ e with key:=.int .i64 n,val:=a.eval z },by rw[Jz,Xe rfl,he];rfl,rfl,hz.stp T⟩
       cases b
      rw[Xc eij]at b;obtain⟨I,q1,D,q3⟩:=G j m s' b;exact⟨I,by rw[Jz,Xc eij,q1],D,q3.stp T⟩
     refine⟨_,_,Z,λo ho Keep M O a w C R _ _ l=>?_⟩;have g:=zA (C c _ Q);obtain⟨r,ents,clock,A,v,V,G⟩:=R.rel c _ g;obtain⟨E,hρ,hx⟩:∃E,O c=some E/\a.eval x=E:=⟨_,(Gs.head l).own_inv.1,rfl⟩;rw[A]at hρ;cases hρ
     have hy:a.eval y=.int .i64 n:=(Gs.head (Gs.tail l)).val_inv;have hz:=uV hf (Gs.head (Gs.tail (Gs.tail l)))
     have hmiss:=zcU (n:=n) 0 (ents:=ents.toList) (λj X f=>by
      have f:ents[j]?=some X:=by simpa using f
      have B:j<F.length:=by have:=(X3.1 f).1;omega
      obtain⟨⟨m,s'⟩,u⟩:∃p,F[j]?=some p:=⟨_,Xb B⟩;obtain⟨I,q1,D,_⟩:=G j m s' u;rw[q1]at f;cases f
      exact⟨m,D,W j m s' u⟩)
     refine qM.skip (w':={ w with heap:=w.heap.setIfInBounds r (.map (ents.push { key:=.int .i64 n,val:=a.eval z,born:=clock }) (clock+1)) }) ?_ ?_
     .simp[execOp,ho,hx,hy,Instr.mapUpdate,run_underlying N,run_underlying q,MapKept.run_getObj_map v,za3 q,Instr.findKey,hmiss,MapKept.run_setObj_map _ v]
     refine qc.set (R.writeMap _ g A v _ _ λT=>⟨r,ents.push { key:=.int .i64 n,val:=a.eval z,born:=clock },clock+1,A,by rw[Qd];simp[(X3.1 v).1],by simp[V],λj m s' b=>?_⟩) (.d _ _ (.val _))
     by_cases L:j<F.length
     .rw[XL L]at b;obtain⟨I,q1,D,q3⟩:=G j m s' b;exact⟨I,by rw[Array.getElem?_push,Xc oM,q1],D,q3.stp T⟩
     rw[XF oM]at b
     have hj0:j=F.length:=by
      have:=(Xd.1 b).1;simp at this;omega
     subst hj0;simp at b;obtain⟨rfl,rfl⟩:=b;exact⟨_,by rw[Array.getElem?_push,Xe V.symm],rfl,hz.stp T⟩
    exact h.elim
   exact h.elim
  exact h.elim
def zoU(hT:TOK P H){t:TypeId}{y:Operand}{ok:Bool}{k:SV}(h:zoK H t ok m k lm K):∃r,K r .none/\yU P (.lookup t x y ok) [m,k] lm Y r .none:=by
 unfold zoK at h;replace h:=zE h;obtain⟨i,hi,h⟩:=h;have I:=(hT t i hi).kind
 split at h
 .rename_i kt V hkind;rw[hkind]at I;have I:P.underlying t=some (.map kt V):=I;replace h:=zE h;obtain⟨j,hj,h⟩:=h;replace h:=zE h;obtain⟨z,hz,h⟩:=h;have q:=(hT kt j hj).kind
  split at h
  .rename_i c n hjk;rw[hjk]at q;have q:P.underlying kt=some (.int .i64):=q
   split at h
   .rename_i N J
    have lookE:∀{s:SV} {b:Bool},zuM ok s b K->∃r,K r .none/\∀{S Pm:LI} {O:zh} {w:World} {v:Value},G S Pm O w s v->G S Pm O w r (if ok then .tuple #[v,.bool b] else v):=λ{s b} h=>by
     unfold zuM at h
     split at h
     .exact⟨_,h,λhg=>.tup [s,.val (.bool b)] [_,.bool b] rfl (Gs.cons hg (.cons (.d _ _ (.val _)) .nil)).2⟩
     exact⟨_,qO h,λhg=>hg⟩
    obtain⟨i,s0,R,h2,F⟩|⟨R,F⟩:=zky h
    .obtain⟨res,hK,hres⟩:=lookE F;refine⟨res,hK,λo ho Keep M O a w D L _ _ u=>?_⟩;have A:=zA (D c _ J);obtain⟨r,ents,clock,W,X,g3,Q⟩:=L.rel c _ A;obtain⟨E,hρ,hx⟩:∃E,O c=some E/\a.eval x=E:=⟨_,(Gs.head u).own_inv.1,rfl⟩;rw[W]at hρ;cases hρ
     have hy:a.eval y=.int .i64 n:=(Gs.head (Gs.tail u)).val_inv;obtain⟨e,he,hek,hd⟩:=Q i n s0 R
     have hhit:=zdZ (n:=n) 0 (ents:=ents.toList) (i:=i) (e:=e) (by simpa using he) hek (λj U hj g=>by
      have C:j<N.length:=by have:=(Xd.1 R).1;omega
      obtain⟨⟨m,s'⟩,B⟩:∃p,N[j]?=some p:=⟨_,Xb C⟩;obtain⟨e2,q1,T,_⟩:=Q j m s' B;have g:ents[j]?=some U:=by simpa using g
      rw[q1]at g;cases g
      exact⟨m,T,h2 j m s' hj B⟩)
     rw[X8]at hhit;refine qM.value (v:=if ok then .tuple #[e.val,.bool true] else e.val) ?_ (qc.same L (hres (.d _ _ hd)));simp[execOp,ho,hx,hy,Instr.lookup,run_underlying I,run_underlying q,MapKept.run_getObj_map X,za3 q,Instr.findKey,hhit]
    obtain⟨s,F,hs⟩:=vv F;obtain⟨res,hK,hres⟩:=lookE F;refine⟨res,hK,λo ho Keep M O a w D L _ _ u=>?_⟩;have A:=zA (D c _ J);obtain⟨r,ents,clock,W,X,g3,Q⟩:=L.rel c _ A;obtain⟨E,hρ,hx⟩:∃E,O c=some E/\a.eval x=E:=⟨_,(Gs.head u).own_inv.1,rfl⟩;rw[W]at hρ;cases hρ
    have hy:a.eval y=.int .i64 n:=(Gs.head (Gs.tail u)).val_inv
    have hmiss:=zcU (n:=n) 0 (ents:=ents.toList) (λj U g=>by
     have g:ents[j]?=some U:=by simpa using g
     have C:j<N.length:=by have:=(X3.1 g).1;omega
     obtain⟨⟨m,s'⟩,B⟩:∃p,N[j]?=some p:=⟨_,Xb C⟩;obtain⟨e2,q1,T,_⟩:=Q j m s' B;rw[q1]at g;cases g
     exact⟨m,T,R j m s' B⟩)
    obtain⟨f,q1,T,q3,zv,q4,q5,q6,q7,q8⟩:=(hT V z hz).inf;refine qM.value (v:=if ok then .tuple #[zv,.bool false] else zv) ?_ (qc.same L (hres ?_))
    .simp[execOp,ho,hx,hy,Instr.lookup,run_underlying I,run_underlying q,MapKept.run_getObj_map X,za3 q,Instr.findKey,hmiss,zeroValue,typeInfo,q1,q4]
    obtain⟨Z,rfl⟩|⟨Z,l,hl⟩:=hs
    .obtain⟨f',p1,p2⟩:=(hT V z hz).zagg Z;rw[q1]at p1;cases p1
     rw[q4]at p2;cases p2
     have:((vals z.zero).take z.sz)=vals z.zero:=Xi (by simp[vals,q7]);rw[this];exact .agg _ z.zero (by simp[vals]) (Gs.vals _).2
    have hz1:=q6 Z;have:z.zero=[zv]:=by rw[←q5,hz1]
    rw[this]at hl
    cases hl
    exact .d _ _ (.val _)
   exact h.elim
  exact h.elim
 exact h.elim
def zmK(hT:TOK P H){t:TypeId}{s:SV}(h:zko H t s K):∃r,K r .none/\yU P (.makeInterface t x) [s] lm Y r .none:=by
 unfold zko at h;replace h:=zE h;obtain⟨i,hi,h⟩:=h;have b:=(hT t i hi).kind
 have key:∀d,P.underlying t=some d->(∀ms,d≠.interface ms)->∀(o:Oper) (a:Act) (w:World),o.op=.makeInterface t x->(execOp a.eval o).run P w=.ok (.value (.iface t (a.eval x))) w:=λd c j o a w k=>by
  cases d <;> first|exact absurd rfl (j _)|simp[execOp,k,Instr.makeInterface,run_underlying c]
 have fin:(∃d,P.underlying t=some d/\∀ms,d≠.interface ms)->K (.ifc t s) .none->∃r,K r .none/\yU P (.makeInterface t x) [s] lm Y r .none:=λ⟨d,c,j⟩ h=>
  ⟨_,h,.pure λo k S Pm O a w f=>⟨_,key d c j o a w k,.ifc t s _ (Gs.head f)⟩⟩
 cases g:i.kind <;> rw[g]at b h <;> simp only[zf1]at b
 case struct fs=>obtain⟨F,hF,_⟩:=b;exact fin ⟨_,hF,λms e=>by cases e⟩ h
 case iface=>exact h.elim
 case other=>exact h.elim
 all_goals exact fin ⟨_,b,λms e=>by cases e⟩ h
end
end Go.Gs
