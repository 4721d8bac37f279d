/- Calls by contract. -/
import Derived.Test.YtakicgnbhdpknaaGreatDoorNAG
import Derived.MapKept
import Derived.ChangeMaps4
set_option maxRecDepth 100000
set_option maxHeartbeats 8000000
set_option linter.all false
namespace Go.Gs
section zjk
variable{lm:LJ}{Keep:LI}{M:LT}{ρ:zh}{w:World}{S':LI}
section
def D.less{S:LI}(h:∀b,S' b->S b){s:SV}{v:Value}(hd:D S w s v):D S' w s v:=hd.mono (Xk _) λb _ hb=>⟨λh'=>hb (h b h'),rfl⟩
def win_d{α:Type}{enc:α->LR}{sz:Nat}{xs:List α}{b len cap cap' lo n:Nat}(hb:b<w.heap.size)(hS:¬S' b)(hesz:∀x∈xs,(enc x).length=sz)(hd:D S' w (.sl enc xs) (.slice (some ⟨b,0,none⟩) len cap))(h1:lo+n<=len)(h2:n<=cap')(hlen:len=xs.length):
  D S' w (.sl enc ((xs.drop lo).take n)) (.slice (some ⟨b,lo*sz,none⟩) n cap'):=by
 have hl:((xs.drop lo).take n).length=n:=by simp;omega
 have hmem:∀x∈(xs.drop lo).take n,x∈xs:=λx hx=>KP (XL hx)
 obtain⟨rfl,_⟩|⟨sz',b',o,cp,c,e,_,_,h48,_,hsz',hc,he⟩:=hd.sl_inv
 ·have hn:n=0:=by simp at hlen;omega
  subst hn;have:=D.sl (S:=S') (w:=w) enc (([]:List α).drop lo |>.take 0) sz b (lo*sz) cap' (λ_ _=>undef) hb hS sI sI sI (λi j hi=>by simp at hi) (λi j x s hx=>by simp at hx)
  simpa using this
 cases e
 have hix:∀i x,((xs.drop lo).take n)[i]?=some x->xs[lo+i]?=some x:=by
  intro i x hx;rw[XI]at hx
  split at hx
  ·simpa using hx
  cases hx
 have hs:0<n->sz'=sz:=λhp=>by
  have h1:=Xb (show lo<xs.length by omega);have h2:=Xf h1;rw[←hesz _ h2,←hsz' _ h2]
 have:=D.sl (S:=S') (w:=w) enc ((xs.drop lo).take n) sz b (lo*sz) cap' (λi j=>c (lo+i) j) hb hS oM oM (λx hx=>hesz x (hmem x hx)) (λi j hi hj=>by
  have hsz:=hs oM;have h5:=hc (lo+i) j oM oM;rw[X2,hsz,Kc]at h5
  exact h5) (λi j x s hx hs'=>he (lo+i) j x s (hix i x hx) hs')
 rwa [hl]at this
def ztk(hlm:∀k m,lm k=some m->(k,m)∈M)(hm:zL Keep M ρ w)(hsub:∀b,S' b->Keep b∨Own M ρ b){s:SV}{v:Value}(hg:G (λb=>Keep b∨Own M ρ b) (Own M ρ) ρ w s v)(hc:j9 s=true∨∀b,Own M ρ b->¬S' b):D S' w (zs9 lm s) v:=by
 unfold zs9
 split
 ·rename_i k;have he:∀b,Own M ρ b->¬S' b:=hc.resolve_left (by simp[j9])
  split
  ·rename_i T α enc sz xs hlk;exact zjv hm (hlm k _ hlk) hsub (λv b h1 h2=>he b ⟨k,_,v,hlm k _ hlk,h1,h2⟩) hg.own_inv.1
  exact .junk v
 ·rename_i f;obtain⟨vs,rfl,hvs⟩:=hg.fn_inv;rw[hvs.nil_inv];exact .val _
 split
 ·rename_i hf;exact(uP hf hg).less hsub
 exact .junk v
def zjx(cs:LR)(j:Nat):(zcm lm cs)[j]?=(cs[j]?).map (zs9 lm):=by
 induction cs generalizing j with
 |nil=>simp[zcm]
 |cons c cs ih=>cases j with
  |zero=>simp[zcm]
  |succ j=>simp[zcm,ih]
def zjy(cs:LR):(zcm lm cs).length=cs.length:=by
 induction cs with
 |nil=>rfl
 |cons c cs ih=>simp[zcm,ih]
variable{Pm':LI}{ρ':zh}
def znM(hlm:∀k m,lm k=some m->(k,m)∈M)(hm:zL Keep M ρ w)(hsub:∀b,S' b->Keep b∨Own M ρ b){s:SV}{v:Value}(hg:G (λb=>Keep b∨Own M ρ b) (Own M ρ) ρ w s v)(hc:zcn lm s=true∨∀b,Own M ρ b->¬S' b)(hP:∀b,¬Own M ρ b->¬Pm' b)(hP2:∀k off b,s=.loc k off->ρ k=some (.pointer (some ⟨b,0,none⟩))->¬Pm' b):G S' Pm' ρ' w (zia lm s) v:=by
 unfold zia
 split
 ·rename_i k off
  split
  ·rename_i T cs hlk;obtain⟨b,vs,hρ,hheap,hlen,hone,hcells⟩:=hm.rel k _ (hlm k _ hlk);obtain⟨b',hρ',rfl⟩:=hg.loc_inv;rw[hρ]at hρ';cases hρ'
   refine .ptr _ b off (λj=>(vs[off+j]?).getD undef) (hm.old b ⟨k,_,_,hlm k _ hlk,hρ,rfl⟩).1 (hP2 k off b rfl hρ) (λj hj=>?_) (λj s hs=>?_)
   ·have hlt:off+j<vs.length:=by simp[zjy]at hj;omega
    rw[Xb hlt];exact⟨by rw[zf2 hheap,Xb hlt];rfl,hone _ (KI hlt)⟩
   simp only[Kz,zjx]at hs
   cases hcs:cs[off+j]? with
   |none=>simp[hcs]at hs
   |some c=>
    simp[hcs]at hs;subst hs;have hlt:off+j<vs.length:=by rw[hlen];exact(Xd.1 hcs).1
    rw[Xb hlt];refine ztk hlm hm hsub (hcells _ c _ hcs (Xb hlt)) (hc.imp (λh=>?_) id);simp only[zcn,hlk]at h;exact yM h _ c hcs
  exact .d _ _ (.junk v)
 ·rename_i k;have he:∀b,Own M ρ b->¬S' b:=hc.resolve_left (by simp[zcn,j9])
  split
  ·rename_i T α enc sz xs hlk;exact .d _ _ (zjv hm (hlm k _ hlk) hsub (λv b h1 h2=>he b ⟨k,_,v,hlm k _ hlk,h1,h2⟩) hg.own_inv.1)
  exact .d _ _ (.junk v)
 ·rename_i k sz lo n;have he:∀b,Own M ρ b->¬S' b:=hc.resolve_left (by simp[zcn,j9])
  split
  ·rename_i T α enc sz' xs hlk
   split
   ·rename_i hb;have:=Xj hb;subst this;obtain⟨b,len,cap,cap',hρ,rfl,h1,h2⟩:=hg.win_inv;have hd:=zjv hm (hlm k _ hlk) hsub (λv b h1 h2=>he b ⟨k,_,v,hlm k _ hlk,h1,h2⟩) hρ;have ho:Own M ρ b:=⟨k,_,_,hlm k _ hlk,hρ,rfl⟩;obtain⟨v',cells,hρ',hown,hlen,hone,hesz,hcells⟩:=hm.rel k _ (hlm k _ hlk);rw[hρ]at hρ';cases hρ'
    refine .d _ _ (win_d (hm.old b ho).1 (he b ho) hesz hd h1 h2 ?_)
    obtain⟨e,_⟩|⟨g,cap,cur,e,_⟩:=hown.2 <;> cases e
    rfl
   exact .d _ _ (.junk _)
  exact .d _ _ (.junk _)
 ·rename_i cs;obtain⟨vs,rfl,hvs⟩:=hg.agg_inv;refine .agg _ vs (by rw[zjy];exact hvs.1) λj s v h1 h2=>?_
  rw[zjx]at h1
  cases hcs:cs[j]? with
  |none=>simp[hcs]at h1
  |some c=>
   simp[hcs]at h1;subst h1;exact .d _ _ (ztk hlm hm hsub (hvs.2 j c v hcs h2) (hc.imp (λh=>yM h j c hcs) id))
 ·rename_i cs;obtain⟨b,o,c,rfl,hb,hnp,h1,h2⟩:=hg.ptr_inv;exact .ptr cs b o c hb (hP b hnp) h1 λj s hs=>(h2 j s hs).less hsub
 ·rename_i f;obtain⟨vs,rfl,hvs⟩:=hg.fn_inv;rw[hvs.nil_inv];exact .fn f [] [] rfl λj s v h=>by simp at h
 split
 ·rename_i hf;exact .d _ _ ((uP hf hg).less hsub)
 exact .d _ _ (.junk v)
def zjz(hlm:∀k m,lm k=some m->(k,m)∈M)(hm:zL Keep M ρ w)(hsub:∀b,S' b->Keep b∨Own M ρ b){Pm':LI}(hP:∀b,¬Own M ρ b->¬Pm' b){ρ':zh}:∀{cs:LR} {vs:LA},
  (∀k off b,.loc k off∈cs->ρ k=some (.pointer (some ⟨b,0,none⟩))->¬Pm' b)->Gs (λb=>Keep b∨Own M ρ b) (Own M ρ) ρ w cs vs->(zco lm cs=true∨∀b,Own M ρ b->¬S' b)->Gs S' Pm' ρ' w (znx lm cs) vs
 |[],vs,_,hg,_=>by rw[hg.nil_inv];exact .nil
 |c::cs,vs,hP2,hg,hc=>by
  obtain⟨v,vs',rfl,h1,h2⟩:=hg.cons_inv
  have key:(zcn lm c=true∨∀b,Own M ρ b->¬S' b)/\(zco lm cs=true∨∀b,Own M ρ b->¬S' b):=by
   rcases hc with hc|hc
   ·simp only[zco]at hc
    split at hc
    ·exact⟨.inl ‹_›,.inl hc⟩
    cases hc
   exact⟨.inr hc,.inr hc⟩
  exact .cons (znM hlm hm hsub h1 key.1 hP λk off b e=>hP2 k off b (e ▸ .head _)) (zjz hlm hm hsub hP (λk off b hk=>hP2 k off b (.tail _ hk)) h2 key.2)
def zjA(hlm:∀k m,lm k=some m->(k,m)∈M)(hm:zL Keep M ρ w)(hsub:∀b,S' b->Keep b∨Own M ρ b){s:SV}{v:Value}(hg:G (λb=>Keep b∨Own M ρ b) (Own M ρ) ρ w s v)(hc:uu lm [s]=true∨∀b,Own M ρ b->¬S' b)(hP:∀b,¬Own M ρ b->¬Pm' b)(hP2:∀k off b,(s=.loc k off∨∃f cs,s=.fn f cs/\.loc k off∈cs)->ρ k=some (.pointer (some ⟨b,0,none⟩))->¬Pm' b):G S' Pm' ρ' w (zjk lm s) v:=by
 unfold zjk
 split
 ·rename_i f cs;obtain⟨vs,rfl,hvs⟩:=hg.fn_inv
  have h:=zjz (S':=S') (Pm':=Pm') (ρ':=ρ') hlm hm hsub hP (λk off b hk=>hP2 k off b (.inr ⟨_,_,rfl,hk⟩)) hvs (hc.imp (λh=>by
   simp only[uu]at h
   split at h
   ·assumption
   cases h) id)
  exact .fn f _ vs h.1 h.2
 rename_i hnf;refine znM hlm hm hsub hg (hc.imp (λh=>?_) id) hP (λk off b e=>hP2 k off b (.inl e));unfold uu at h
 split at h
 ·rename_i heq;cases heq
 ·rename_i heq;cases heq;exact absurd rfl (hnf _ _)
 rename_i heq
 cases heq
 split at h
 ·assumption
 cases h
def zjB{s:SV}{r:LR}(h:uu lm (s::r)=true):uu lm [s]=true/\uu lm r=true:=by
 cases s <;> simp only[uu]at h ⊢ <;> (split at h <;> simp_all)
def zf5(hlm:∀k m,lm k=some m->(k,m)∈M)(hm:zL Keep M ρ w)(hsub:∀b,S' b->Keep b∨Own M ρ b){Pm':LI}(hP:∀b,¬Pm' b){ρ':zh}:∀{cs:LR} {vs:LA},
  Gs (λb=>Keep b∨Own M ρ b) (Own M ρ) ρ w cs vs->(uu lm cs=true∨∀b,Own M ρ b->¬S' b)->Gs S' Pm' ρ' w (zc0 lm cs) vs
 |[],vs,hg,_=>by rw[hg.nil_inv];exact .nil
 |c::cs,vs,hg,hc=>by
  obtain⟨v,vs',rfl,h1,h2⟩:=hg.cons_inv
  have key:(uu lm [c]=true∨∀b,Own M ρ b->¬S' b)/\(uu lm cs=true∨∀b,Own M ρ b->¬S' b):=by
   rcases hc with hc|hc
   ·exact⟨.inl (zjB hc).1,.inl (zjB hc).2⟩
   exact⟨.inr hc,.inr hc⟩
  exact .cons (zjA hlm hm hsub h1 key.1 (λb _=>hP b) (λ_ _ b _ _=>hP b)) (zf5 hlm hm hsub hP h2 key.2)
end
end zjk
section
def uQ{cs:LR}(h:uw.scalars cs=true):∀(j:Nat) (s:SV),cs[j]?=some s->uw s=true:=by
 induction cs with
 |nil=>intro j s h1;simp at h1
 |cons c cs ih=>
  intro j s h1;simp only[uw.scalars]at h
  split at h
  ·rename_i hc
   cases j with
   |zero=>simp at h1;subst h1;exact hc
   |succ j=>exact ih h j s (by simpa using h1)
  cases h
def vJ{S S' Pm:LI}{ρ:zh}{w w':World}{s:SV}(hs:uw s=true){v:Value}(hg:G S Pm ρ w s v):D S' w' s v:=by
 have key:∀{s:SV} {v:Value},D S w s v->uw s=true->D S' w' s v:=by
  intro s v hd
  induction hd with
  |val v=>exact λ_=>.val v
  |pr p i=>exact λ_=>.pr p i
  |nils a=>exact λ_=>.nils a
  |anyb b=>exact λ_=>.anyb b
  |agg cs vs hl h ih=>exact λhs=>.agg cs vs hl λj s v h1 h2=>ih j s v h1 h2 (uQ hs j s h1)
  |ifc t s v h ih=>exact λhs=>.ifc t s v (ih hs)
  |_=>intro hs;simp[uw]at hs
 induction hg with
 |d _ _ h=>exact key h hs
 |agg cs vs hl h ih=>exact .agg cs vs hl λj s v h1 h2=>ih j s v h1 h2 (uQ hs j s h1)
 |ifc t s v h ih=>exact .ifc t s _ (ih hs)
 |_=>simp[uw]at hs
variable{S:LI}{S':LI}{Pm:LI}{Pm':LI}{ρ:zh}{ρ':zh}{r:SV}
def ziV{w:World}(hsub:∀b,S' b->S b)(hr:zjj r=true){v:Value}(hg:G S Pm ρ w r v):G S' Pm' ρ' w r v:=by
 unfold zjj at hr
 split at hr
 ·obtain⟨vs,rfl,hvs⟩:=hg.tup_inv;exact .tup _ vs hvs.1 λj s v h1 h2=>.d _ _ ((uP (yM hr j s h1) (hvs.2 j s v h1 h2)).less hsub)
 exact .d _ _ ((uP hr hg).less hsub)
def zuU{w w':World}(hr:ziO r=true){v:Value}(hg:G S Pm ρ w r v):G S' Pm' ρ' w' r v:=by
 unfold ziO at hr
 split at hr
 ·obtain⟨vs,rfl,hvs⟩:=hg.tup_inv;exact .tup _ vs hvs.1 λj s v h1 h2=>.d _ _ (vJ (uQ hr j s h1) (hvs.2 j s v h1 h2))
 exact .d _ _ (vJ hr hg)
def zf6{P:Program}{o:Oper}{c:Call}{fx:Operand}(ho:o.op=.call c)(hc:c.callee=.value fx){a:Act}{w:World}{f:FuncId}{fs caps vs:LA}(hf:a.eval fx=.func (.func f) fs.toArray caps.toArray)(hv:c.args.toList.map a.eval=vs)(hcall:zdd P f):(execOp a.eval o).run P w=.ok (.enter f (fs++(vs++caps)).toArray) w:=by
 obtain⟨fn,h1,h2,h3⟩:=hcall;have h:c.args.map a.eval=vs.toArray:=by apply QQ;simp[hv]
 simp only[execOp,ho,resolve,hc,hf,h,Deferred.ofValue,invoke,callFunc,Sem.run_bind,Sem.run_pure,Result.andThen_ok,run_program,h1,h2,h3,Ky,if_false];simp
def zP{b:Nat}:¬Own [] ρ b:=λ⟨_,_,_,h,_⟩=>by cases h
def qt{w:World}(h:∀b,S b->b<w.heap.size)(hg:∀g v,GL g v->w.cell? ⟨g,0,none⟩=some v):zL S [] ρ w:=
 ⟨λ_ _ h=>(by cases h),List.Pairwise.nil,λ_ _ _ _ _ _ _ h=>(by cases h),λ_ h=>absurd h zP,h,λg v k=>⟨zP,hg g v k⟩⟩
def kO.block(w:World){r:Nat}{ents:Array MapEntry}{clock:Nat}(h:w.heap[r]?=some (.map ents clock))(es':Array MapEntry)(c':Nat):
  kO w { w with heap:=w.heap.setIfInBounds r (.map es' c') }:=⟨rfl,λa=>by
 unfold World.frozen?
 show(match (w.heap.setIfInBounds r (.map es' c'))[a.block]? with
  |some (.cells _ _ (lo,hi))=>decide (lo<=a.off)&&decide (a.off<hi)
  |_=>false)=_
 by_cases e:r=a.block
 ·subst e;have hlt:a.block<w.heap.size:=(XX.1 h).1
  have h2:(w.heap.setIfInBounds a.block (Obj.map es' c'))[a.block]?=some (.map es' c'):=by
   rw[KZ];simp[hlt]
  rw[h2,h]
 rw[KZ,Xc e]
 cases w.heap[a.block]? with
 |none=>rfl
 |some o=>cases o <;> rfl⟩
def kO.map(w:World):kO w (w.alloc (.map #[] 0)):=⟨rfl,λa=>by
 unfold World.frozen?
 by_cases e:a.block<w.heap.size
 ·rw[heap_alloc_old w _ a.block e]
 have h1:w.heap[a.block]?=none:=KQ oM
 by_cases e2:a.block=w.heap.size
 ·rw[e2,heap_alloc_new];rw[e2]at h1;rw[h1]
 have h2:(w.alloc (.map #[] 0)).heap[a.block]?=none:=KQ (by simp;omega)
 rw[h1,h2]⟩
def zL.writeMap{Keep:LI}{M:LT}{w:World}(hm:zL Keep M ρ w){k:Nat}{m:Mem}(m':Mem)(hk:(k,m)∈M){r:Nat}(hv:ρ k=some (.map (some r))){ents:Array MapEntry}{clock:Nat}(hh:w.heap[r]?=some (.map ents clock))(es':Array MapEntry)(c':Nat)(hrel:Stp (Own M ρ) (Own (qK M k m') ρ) ρ ρ w { w with heap:=w.heap.setIfInBounds r (.map es' c') }->
   jH (λb=>Keep b∨Own (qK M k m') ρ b) (Own (qK M k m') ρ) ρ { w with heap:=w.heap.setIfInBounds r (.map es' c') } k m'):
  Stp (Own M ρ) (Own (qK M k m') ρ) ρ ρ w { w with heap:=w.heap.setIfInBounds r (.map es' c') }/\zL Keep (qK M k m') ρ { w with heap:=w.heap.setIfInBounds r (.map es' c') }:=by
 have hkeys:(qK M k m').map (·.1)=M.map (·.1):=zaP;have hb:qb (.map (some r))=some r:=rfl
 have hother:∀b',b'≠r->(w.heap.setIfInBounds r (Obj.map es' c'))[b']?=w.heap[b']? :=λb' hne=>by
  rw[KZ];simp[Ne.symm hne]
 have hs:Stp (Own M ρ) (Own (qK M k m') ρ) ρ ρ w { w with heap:=w.heap.setIfInBounds r (.map es' c') }:=
  ⟨rfl,rfl,.block w hh _ _,sI,λb' _ hn=>hother b' (λe=>hn ⟨k,m,_,hk,hv,e ▸ hb⟩),λb' hb'=>.inl (zaa hkeys.symm hb'),λ_ _ h=>h⟩
 refine⟨hs,zL.next k hm hs (yL hkeys hm.keys) ?_ ?_ ?_⟩
 ·intro k' m1 h1 hne
  obtain⟨_,h2⟩|h2:=jK hm.keys _ h1
  ·refine⟨h2,rfl,λv' b' hv' hb'=>hother b' (λe=>?_)⟩;subst e;exact hm.apart k' m1 k m v' _ b' h2 hk hne hv' hv hb' hb
  cases h2;exact absurd rfl hne
 ·intro m1 h1
  obtain⟨h2,_⟩|h2:=jK hm.keys _ h1
  ·exact absurd rfl h2
  cases h2;exact hrel hs
 intro m1 v' b' _ hv' hb';rw[hv]at hv';cases hv'
 rw[hb]at hb';cases hb'
 refine⟨λk' m2 v2 h2 hne hv2 hb2=>?_,by simpa using (hm.old r ⟨k,m,_,hk,hv,hb⟩).1,(hm.old r ⟨k,m,_,hk,hv,hb⟩).2⟩
 obtain⟨_,h3⟩|h3:=jK hm.keys _ h2
 ·exact hm.apart k' m2 k m v2 _ r h3 hk hne hv2 hv hb2 hb
 cases h3;exact absurd rfl hne
def zjC:∀{es:List (Int×SV)} {n:Int} {K1:SV->Prop} {K0:Prop},zwK es n K1 K0->
  (∃(i:Nat) (s:SV),es[i]?=some (n,s)/\(∀(j:Nat) (m:Int) (s':SV),j<i->es[j]?=some (m,s')->n≠m)/\K1 s)∨((∀(j:Nat) (m:Int) (s':SV),es[j]?=some (m,s')->n≠m)/\K0)
 |[],n,K1,K0,h=>.inr ⟨λj m s' h=>by simp at h,h⟩
 |(k,s)::r,n,K1,K0,h=>by
  have h:Br (n=k->K1 s) (¬n=k->zwK r n K1 K0):=h
  by_cases e:n=k
  ·exact .inl ⟨0,s,by rw[e];rfl,λj _ _ hj=>by omega,h.yes e⟩
  rcases zjC (h.no e) with⟨i,s1,h1,h2,h3⟩|⟨h1,h2⟩
  ·refine .inl ⟨i+1,s1,h1,λj m s' hj hs=>?_,h3⟩
   cases j with
   |zero=>simp at hs;rw[←hs.1];exact e
   |succ j=>exact h2 j m s' oM hs
  refine .inr ⟨λj m s' hs=>?_,h2⟩
  cases j with
  |zero=>simp at hs;rw[←hs.1];exact e
  |succ j=>exact h1 j m s' hs
def zl6:∀{es:List (Int×SV)} {n:Int} {s:SV} {K:List (Int×SV)->Prop},zwL es n s K->
  (∃(i:Nat) (s0:SV),es[i]?=some (n,s0)/\(∀(j:Nat) (m:Int) (s':SV),j<i->es[j]?=some (m,s')->n≠m)/\K (es.set i (n,s)))∨((∀(j:Nat) (m:Int) (s':SV),es[j]?=some (m,s')->n≠m)/\K (es++[(n,s)]))
 |[],n,s,K,h=>.inr ⟨λj m s' h=>by simp at h,h⟩
 |(k,s0)::r,n,s,K,h=>by
  have h:Br (n=k->K ((n,s)::r)) (¬n=k->zwL r n s λr'=>K ((k,s0)::r')):=h
  by_cases e:n=k
  ·exact .inl ⟨0,s0,by rw[e];rfl,λj _ _ hj=>by omega,h.yes e⟩
  rcases zl6 (h.no e) with⟨i,s1,h1,h2,h3⟩|⟨h1,h2⟩
  ·refine .inl ⟨i+1,s1,h1,λj m s' hj hs=>?_,h3⟩
   cases j with
   |zero=>simp at hs;rw[←hs.1];exact e
   |succ j=>exact h2 j m s' oM hs
  refine .inr ⟨λj m s' hs=>?_,h2⟩
  cases j with
  |zero=>simp at hs;rw[←hs.1];exact e
  |succ j=>exact h1 j m s' hs
def zds{n:Int}:∀{ents:List MapEntry} {i:Nat} {e:MapEntry} (c:Nat),ents[i]?=some e->e.key=.int .i64 n->(∀(j:Nat) e',j<i->ents[j]?=some e'->∃m,e'.key=.int .i64 m/\n≠m)->
  Instr.findNow (.int .i64) (.int .i64 n) ents c=some (some (c+i,e.val))
 |[],i,e,c,h,_,_=>by simp at h
 |x::r,i,e,c,h,hk,ho=>by
  cases i with
  |zero=>
   simp at h;subst h;unfold Instr.findNow;simp[Instr.sameNow,hk]
  |succ i=>
   obtain⟨m,h1,h2⟩:=ho 0 x oM rfl;unfold Instr.findNow;rw[h1];simp only[Instr.sameNow,if_true];rw[show(n==m)=false by simpa using h2];simp only;rw[zds (c+1) (i:=i) h hk (λj e' hj he=>ho (j+1) e' oM he)];congr 2;congr 1;omega
def zcw{n:Int}:∀{ents:List MapEntry} (c:Nat),(∀(j:Nat) e',ents[j]?=some e'->∃m,e'.key=.int .i64 m/\n≠m)->Instr.findNow (.int .i64) (.int .i64 n) ents c=some none
 |[],c,_=>rfl
 |x::r,c,ho=>by
  obtain⟨m,h1,h2⟩:=ho 0 x rfl;unfold Instr.findNow;rw[h1];simp only[Instr.sameNow,if_true];rw[show(n==m)=false by simpa using h2];exact zcw (c+1) λj e' he=>ho (j+1) e' he
variable{P:Program}
def zaK{w:World}{kt:TypeId}{k:IntKind}(h:P.underlying kt=some (.int k))(b:Bool)(v:Value):(Instr.checkKey b 10000 kt v).run P w=.ok () w:=by
 rw[Instr.checkKey];simp[run_underlying h]
def znN(n:Int):Instr.sameBits 10000 (.int .i64 n) (.int .i64 n)=true:=by
 unfold Instr.sameBits;simp
variable{Γ:LS}{lm:LJ}{κ:Nat}{K:LD}
def zlG(hT:TOK P Γ){t:TypeId}{x:Option Operand}{svs:LR}(h:zjq Γ t svs κ K):∃r md,K r md/\yR P (.makeMap t x) svs lm κ r md:=by
 unfold zjq at h;replace h:=zD h;obtain⟨i,hi,h⟩:=h;have hk:=(hT t i hi).kind
 split at h
 ·rename_i kt et hkind;rw[hkind]at hk;have hk:P.underlying t=some (.map kt et):=hk
  have fin:∀(o:Oper) (Keep:LI) (M:LT) (ρ:zh) (a:Act) (w:World),zL Keep M ρ w->ρ κ=none->(∀m,(κ,m)∉M)->
    (execOp a.eval o).run P w=.ok (.value (.map (some w.heap.size))) (w.alloc (.map #[] 0))->qJ P o a w (k8 Keep M ρ w κ (.own κ) (.push (.map []))):=λo Keep M ρ a w hm hκ hκM hrun=>
   qJ.value hrun (k8.push (u:=.map (some w.heap.size)) (zcv hm hκ hκM _ _ _ (.map w) rfl λhs=>
    ⟨w.heap.size,#[],0,kD,heap_alloc_new w _,rfl,λi n s hi=>by simp at hi⟩) (.own _ _ kD rfl))
  split at h
  ·refine⟨_,_,h,λo ho Keep M ρ a w _ hm hκ hκM hgs=>fin o Keep M ρ a w hm (hκ _ (Xk _) (XW _)) (hκM rfl) ?_⟩
   have hx:x=none:=by
    cases x with
    |none=>rfl
    |some y=>have:=hgs.1;simp[qe,uC]at this
   subst hx;simp[execOp,ho,Instr.makeMap]
  ·rename_i kk nn rest;refine⟨_,_,h,λo ho Keep M ρ a w _ hm hκ hκM hgs=>fin o Keep M ρ a w hm (hκ _ (Xk _) (XW _)) (hκM rfl) ?_⟩
   cases x with
   |none=>have:=hgs.1;simp[qe,uC]at this
   |some y=>
    have hy:a.eval y=.int kk nn:=(Gs.head hgs).val_inv;simp[execOp,ho,Instr.makeMap,hy,run_underlying hk,asInt,asIntOf]
  exact h.elim
 exact h.elim
variable{x:Operand}{m:SV}
def zf7(hT:TOK P Γ){t:TypeId}{y z:Operand}{k s:SV}(h:zcs Γ t m k s lm K):(∃r md,K r md/\yR P (.mapUpdate t x y z) [m,k,s] lm κ r md)/\∃r md,K r md/\yR P (.insert t x y z) [m,k,s] lm κ r md:=by
 constructor
 all_goals
  unfold zcs at h;replace h:=zD h;obtain⟨i,hi,h⟩:=h;have hk:=(hT t i hi).kind
  split at h
  ·rename_i kt et hkind;rw[hkind]at hk;have hk:P.underlying t=some (.map kt et):=hk;replace h:=zD h;obtain⟨j,hj,h⟩:=h;have hkk:=(hT kt j hj).kind
   split at h
   ·rename_i c n hjk;rw[hjk]at hkk;have hkk:P.underlying kt=some (.int .i64):=hkk
    split at h
    ·rename_i es hlk;replace h:=zj h;obtain⟨hf,h⟩:=h
     obtain⟨i,s0,h1,h2,h3⟩|⟨h1,h3⟩:=zl6 h
     ·refine⟨_,_,h3,λo ho Keep M ρ a w hlm hm _ _ hgs=>?_⟩;have hmem:=zA (hlm c _ hlk);obtain⟨r,ents,clock,g1,g2,g3,g4⟩:=hm.rel c _ hmem;obtain⟨v0,hρ,hx⟩:∃v0,ρ c=some v0/\a.eval x=v0:=⟨_,(Gs.head hgs).own_inv.1,rfl⟩;rw[g1]at hρ;cases hρ
      have hy:a.eval y=.int .i64 n:=(Gs.head (Gs.tail hgs)).val_inv;have hz:=uP hf (Gs.head (Gs.tail (Gs.tail hgs)));obtain⟨e,he,hek,hd⟩:=g4 i n s0 h1
      have hhit:=zds (n:=n) 0 (ents:=ents.toList) (i:=i) (e:=e) (by simpa using he) hek (λj e' hj he'=>by
       have hjl:j<es.length:=by have:=(Xd.1 h1).1;omega
       obtain⟨⟨m,s'⟩,hms⟩:∃p,es[j]?=some p:=⟨_,Xb hjl⟩;obtain⟨e2,q1,q2,_⟩:=g4 j m s' hms;have he':ents[j]?=some e':=by simpa using he'
       rw[q1]at he';cases he'
       exact⟨m,q2,h2 j m s' hj hms⟩)
      rw[Kc]at hhit;refine qJ.skip (w':={ w with heap:=w.heap.setIfInBounds r (.map (ents.modify i λe=>{ e with key:=.int .i64 n,val:=a.eval z }) clock) }) ?_ ?_
      ·simp[execOp,ho,hx,hy,Instr.mapUpdate,run_underlying hk,run_underlying hkk,MapKept.run_getObj_map g2,zaK hkk,Instr.findKey,hhit,Instr.keyThatStays,he,hek,znN,MapKept.run_setObj_map _ g2]
      refine k8.set (hm.writeMap _ hmem g1 g2 _ _ λhs=>⟨r,ents.modify i λe=>{ e with key:=.int .i64 n,val:=a.eval z },clock,g1,by rw[KZ];simp[(XX.1 g2).1],by simp[g3],λj m s' hjm=>?_⟩) (.d _ _ (.val _));rw[KA]at hjm
      by_cases eij:i=j
      ·subst eij;rw[Xe rfl]at hjm
       split at hjm
       ·cases hjm
        exact⟨{ e with key:=.int .i64 n,val:=a.eval z },by rw[Jm,Xe rfl,he];rfl,rfl,hz.stp hs⟩
       cases hjm
      rw[Xc eij]at hjm;obtain⟨e2,q1,q2,q3⟩:=g4 j m s' hjm;exact⟨e2,by rw[Jm,Xc eij,q1],q2,q3.stp hs⟩
     refine⟨_,_,h3,λo ho Keep M ρ a w hlm hm _ _ hgs=>?_⟩;have hmem:=zA (hlm c _ hlk);obtain⟨r,ents,clock,g1,g2,g3,g4⟩:=hm.rel c _ hmem;obtain⟨v0,hρ,hx⟩:∃v0,ρ c=some v0/\a.eval x=v0:=⟨_,(Gs.head hgs).own_inv.1,rfl⟩;rw[g1]at hρ;cases hρ
     have hy:a.eval y=.int .i64 n:=(Gs.head (Gs.tail hgs)).val_inv;have hz:=uP hf (Gs.head (Gs.tail (Gs.tail hgs)))
     have hmiss:=zcw (n:=n) 0 (ents:=ents.toList) (λj e' he'=>by
      have he':ents[j]?=some e':=by simpa using he'
      have hjl:j<es.length:=by have:=(XX.1 he').1;omega
      obtain⟨⟨m,s'⟩,hms⟩:∃p,es[j]?=some p:=⟨_,Xb hjl⟩;obtain⟨e2,q1,q2,_⟩:=g4 j m s' hms;rw[q1]at he';cases he'
      exact⟨m,q2,h1 j m s' hms⟩)
     refine qJ.skip (w':={ w with heap:=w.heap.setIfInBounds r (.map (ents.push { key:=.int .i64 n,val:=a.eval z,born:=clock }) (clock+1)) }) ?_ ?_
     ·simp[execOp,ho,hx,hy,Instr.mapUpdate,run_underlying hk,run_underlying hkk,MapKept.run_getObj_map g2,zaK hkk,Instr.findKey,hmiss,MapKept.run_setObj_map _ g2]
     refine k8.set (hm.writeMap _ hmem g1 g2 _ _ λhs=>⟨r,ents.push { key:=.int .i64 n,val:=a.eval z,born:=clock },clock+1,g1,by rw[KZ];simp[(XX.1 g2).1],by simp[g3],λj m s' hjm=>?_⟩) (.d _ _ (.val _))
     by_cases hj:j<es.length
     ·rw[XK hj]at hjm;obtain⟨e2,q1,q2,q3⟩:=g4 j m s' hjm;exact⟨e2,by rw[Array.getElem?_push,Xc oM,q1],q2,q3.stp hs⟩
     rw[XG oM]at hjm
     have hj0:j=es.length:=by
      have:=(Xd.1 hjm).1;simp at this;omega
     subst hj0;simp at hjm;obtain⟨rfl,rfl⟩:=hjm;exact⟨_,by rw[Array.getElem?_push,Xe g3.symm],rfl,hz.stp hs⟩
    exact h.elim
   exact h.elim
  exact h.elim
def znO(hT:TOK P Γ){t:TypeId}{y:Operand}{ok:Bool}{k:SV}(h:znE Γ t ok m k lm K):∃r,K r .none/\yR P (.lookup t x y ok) [m,k] lm κ r .none:=by
 unfold znE at h;replace h:=zD h;obtain⟨i,hi,h⟩:=h;have hk:=(hT t i hi).kind
 split at h
 ·rename_i kt et hkind;rw[hkind]at hk;have hk:P.underlying t=some (.map kt et):=hk;replace h:=zD h;obtain⟨j,hj,h⟩:=h;replace h:=zD h;obtain⟨z,hz,h⟩:=h;have hkk:=(hT kt j hj).kind
  split at h
  ·rename_i c n hjk;rw[hjk]at hkk;have hkk:P.underlying kt=some (.int .i64):=hkk
   split at h
   ·rename_i es hlk
    have lookE:∀{s:SV} {b:Bool},ztc ok s b K->∃r,K r .none/\∀{S Pm:LI} {ρ:zh} {w:World} {v:Value},G S Pm ρ w s v->G S Pm ρ w r (if ok then .tuple #[v,.bool b] else v):=λ{s b} h=>by
     unfold ztc at h
     split at h
     ·exact⟨_,h,λhg=>.tup [s,.val (.bool b)] [_,.bool b] rfl (Gs.cons hg (.cons (.d _ _ (.val _)) .nil)).2⟩
     exact⟨_,qL h,λhg=>hg⟩
    obtain⟨i,s0,h1,h2,h3⟩|⟨h1,h3⟩:=zjC h
    ·obtain⟨res,hK,hres⟩:=lookE h3;refine⟨res,hK,λo ho Keep M ρ a w hlm hm _ _ hgs=>?_⟩;have hmem:=zA (hlm c _ hlk);obtain⟨r,ents,clock,g1,g2,g3,g4⟩:=hm.rel c _ hmem;obtain⟨v0,hρ,hx⟩:∃v0,ρ c=some v0/\a.eval x=v0:=⟨_,(Gs.head hgs).own_inv.1,rfl⟩;rw[g1]at hρ;cases hρ
     have hy:a.eval y=.int .i64 n:=(Gs.head (Gs.tail hgs)).val_inv;obtain⟨e,he,hek,hd⟩:=g4 i n s0 h1
     have hhit:=zds (n:=n) 0 (ents:=ents.toList) (i:=i) (e:=e) (by simpa using he) hek (λj e' hj he'=>by
      have hjl:j<es.length:=by have:=(Xd.1 h1).1;omega
      obtain⟨⟨m,s'⟩,hms⟩:∃p,es[j]?=some p:=⟨_,Xb hjl⟩;obtain⟨e2,q1,q2,_⟩:=g4 j m s' hms;have he':ents[j]?=some e':=by simpa using he'
      rw[q1]at he';cases he'
      exact⟨m,q2,h2 j m s' hj hms⟩)
     rw[Kc]at hhit;refine qJ.value (v:=if ok then .tuple #[e.val,.bool true] else e.val) ?_ (k8.same hm (hres (.d _ _ hd)));simp[execOp,ho,hx,hy,Instr.lookup,run_underlying hk,run_underlying hkk,MapKept.run_getObj_map g2,zaK hkk,Instr.findKey,hhit]
    obtain⟨s,h3,hs⟩:=vj h3;obtain⟨res,hK,hres⟩:=lookE h3;refine⟨res,hK,λo ho Keep M ρ a w hlm hm _ _ hgs=>?_⟩;have hmem:=zA (hlm c _ hlk);obtain⟨r,ents,clock,g1,g2,g3,g4⟩:=hm.rel c _ hmem;obtain⟨v0,hρ,hx⟩:∃v0,ρ c=some v0/\a.eval x=v0:=⟨_,(Gs.head hgs).own_inv.1,rfl⟩;rw[g1]at hρ;cases hρ
    have hy:a.eval y=.int .i64 n:=(Gs.head (Gs.tail hgs)).val_inv
    have hmiss:=zcw (n:=n) 0 (ents:=ents.toList) (λj e' he'=>by
     have he':ents[j]?=some e':=by simpa using he'
     have hjl:j<es.length:=by have:=(XX.1 he').1;omega
     obtain⟨⟨m,s'⟩,hms⟩:∃p,es[j]?=some p:=⟨_,Xb hjl⟩;obtain⟨e2,q1,q2,_⟩:=g4 j m s' hms;rw[q1]at he';cases he'
     exact⟨m,q2,h1 j m s' hms⟩)
    obtain⟨f,q1,q2,q3,zv,q4,q5,q6,q7,q8⟩:=(hT et z hz).inf;refine qJ.value (v:=if ok then .tuple #[zv,.bool false] else zv) ?_ (k8.same hm (hres ?_))
    ·simp[execOp,ho,hx,hy,Instr.lookup,run_underlying hk,run_underlying hkk,MapKept.run_getObj_map g2,zaK hkk,Instr.findKey,hmiss,zeroValue,typeInfo,q1,q4]
    obtain⟨ha,rfl⟩|⟨ha,l,hl⟩:=hs
    ·obtain⟨f',p1,p2⟩:=(hT et z hz).zagg ha;rw[q1]at p1;cases p1
     rw[q4]at p2;cases p2
     have:((vals z.zero).take z.sz)=vals z.zero:=Xi (by simp[vals,q7]);rw[this];exact .agg _ z.zero (by simp[vals]) (Gs.vals _).2
    have hz1:=q6 ha;have:z.zero=[zv]:=by rw[←q5,hz1]
    rw[this]at hl
    cases hl
    exact .d _ _ (.val _)
   exact h.elim
  exact h.elim
 exact h.elim
def zlH(hT:TOK P Γ){t:TypeId}{s:SV}(h:zjr Γ t s K):∃r,K r .none/\yR P (.makeInterface t x) [s] lm κ r .none:=by
 unfold zjr at h;replace h:=zD h;obtain⟨i,hi,h⟩:=h;have hk:=(hT t i hi).kind
 have key:∀d,P.underlying t=some d->(∀ms,d≠.interface ms)->∀(o:Oper) (a:Act) (w:World),o.op=.makeInterface t x->(execOp a.eval o).run P w=.ok (.value (.iface t (a.eval x))) w:=λd hd hn o a w ho=>by
  cases d <;> first|exact absurd rfl (hn _)|simp[execOp,ho,Instr.makeInterface,run_underlying hd]
 have fin:(∃d,P.underlying t=some d/\∀ms,d≠.interface ms)->K (.ifc t s) .none->∃r,K r .none/\yR P (.makeInterface t x) [s] lm κ r .none:=λ⟨d,hd,hn⟩ h=>
  ⟨_,h,.pure λo ho S Pm ρ a w hgs=>⟨_,key d hd hn o a w ho,.ifc t s _ (Gs.head hgs)⟩⟩
 cases hkk:i.kind <;> rw[hkk]at hk h <;> simp only[zfs]at hk
 case struct fs=>obtain⟨F,hF,_⟩:=hk;exact fin ⟨_,hF,λms e=>by cases e⟩ h
 case iface=>exact h.elim
 case other=>exact h.elim
 all_goals exact fin ⟨_,hk,λms e=>by cases e⟩ h
end
end Go.Gs
