/- Calls by contract. -/
import Derived.Test.YtjfbljononkmcaaMA
import Derived.Test.YtjfbljononkmcaaMAI
set_option maxRecDepth 100000
set_option maxHeartbeats 8000000
set_option linter.all false
namespace Go.Gs
section v9
variable {lm:Nat->Option Mem} {Keep:Nat->Prop} {M:List (Nat×Mem)} {ρ:zd} {w:World} {S':Nat->Prop}
theorem D.less{S:Nat->Prop}(h:∀b,S' b->S b){s:SV}{v:Value}(hd:D S w s v):D S' w s v:=hd.mono (Nat.le_refl _) fun b _ hb=>⟨fun h'=>hb (h b h'),rfl⟩
theorem win_d {α:Type} {enc:α->List SV} {sz:Nat} {xs:List α} {b len cap cap' lo n:Nat} (hb:b < w.heap.size) (hS:¬S' b) (hesz:∀x∈xs,(enc x).length=sz)
  (hd:D S' w (.sl enc xs) (.slice (some ⟨b,0,none⟩) len cap)) (h1:lo+n<=len) (h2:n<=cap') (hlen:len=xs.length):
  D S' w (.sl enc ((xs.drop lo).take n)) (.slice (some ⟨b,lo*sz,none⟩) n cap'):=by
 have hl:((xs.drop lo).take n).length=n:=by simp;omega
 have hmem:∀x∈(xs.drop lo).take n,x∈xs:=fun x hx=>List.mem_of_mem_drop (List.mem_of_mem_take hx)
 rcases hd.sl_inv with ⟨rfl,_⟩ | ⟨sz',b',o,cp,c,e,_,_,h48,_,hsz',hc,he⟩
 ·have hn:n=0:=by simp at hlen;omega
  subst hn;have:=D.sl (S:=S') (w:=w) enc (([]:List α).drop lo |>.take 0) sz b (lo*sz) cap' (fun _ _=>undef) hb hS (by simp) (by simp) (by simp) (fun i j hi=>by simp at hi) (fun i j x s hx=>by simp at hx)
  simpa using this
 ·cases e
  have hix:∀i x,((xs.drop lo).take n)[i]? =some x->xs[lo+i]? =some x:=by
   intro i x hx;rw [List.getElem?_take] at hx
   split at hx
   ·simpa using hx
   ·cases hx
  have hs:0 < n->sz'=sz:=fun hp=>by
   have h1:=List.getElem?_eq_getElem (show lo < xs.length by omega);have h2:=List.mem_of_getElem? h1;rw [← hesz _ h2,← hsz' _ h2]
  have:=D.sl (S:=S') (w:=w) enc ((xs.drop lo).take n) sz b (lo*sz) cap' (fun i j=>c (lo+i) j) hb hS oM oM (fun x hx=>hesz x (hmem x hx)) (fun i j hi hj=>by
   have hsz:=hs oM;have h5:=hc (lo+i) j oM oM;rw [Nat.add_mul,hsz,Nat.zero_add] at h5
   exact h5) (fun i j x s hx hs'=>he (lo+i) j x s (hix i x hx) hs')
  rwa [hl] at this
theorem zeA (hlm:∀k m,lm k=some m->(k,m)∈M) (hm:zj Keep M ρ w) (hsub:∀b,S' b->Keep b∨Own M ρ b) {s:SV} {v:Value}
  (hg:G (fun b=>Keep b∨Own M ρ b) (Own M ρ) ρ w s v) (hc:kz s=true∨∀b,Own M ρ b->¬S' b):D S' w (zem lm s) v:=by
 unfold zem
 split
 ·rename_i k;have he:∀b,Own M ρ b->¬S' b:=hc.resolve_left (by simp [kz])
  split
  ·rename_i T α enc sz xs hlk;exact zal hm (hlm k _ hlk) hsub (fun v b h1 h2=>he b ⟨k,_,v,hlm k _ hlk,h1,h2⟩) hg.own_inv.1
  ·exact .junk v
 ·rename_i f;obtain ⟨vs,rfl,hvs⟩:=hg.fn_inv;rw [hvs.nil_inv];exact .val _
 ·split
  ·rename_i hf;exact (qh hf hg).less hsub
  ·exact .junk v
theorem zan(cs:List SV)(j:Nat):(jP lm cs)[j]? =(cs[j]?).map (zem lm):=by
 induction cs generalizing j with
 | nil=>simp [jP]
 | cons c cs ih=>cases j with
  | zero=>simp [jP]
  | succ j=>simp [jP,ih]
theorem zao(cs:List SV):(jP lm cs).length=cs.length:=by
 induction cs with
 | nil=>rfl
 | cons c cs ih=>simp [jP,ih]
theorem zcb (hlm:∀k m,lm k=some m->(k,m)∈M) (hm:zj Keep M ρ w) (hsub:∀b,S' b->Keep b∨Own M ρ b) {s:SV} {v:Value}
  (hg:G (fun b=>Keep b∨Own M ρ b) (Own M ρ) ρ w s v) (hc:jQ lm s=true∨∀b,Own M ρ b->¬S' b) {Pm':Nat->Prop} (hP:∀b,¬Own M ρ b->¬Pm' b)
  (hP2:∀k off b,s=.loc k off->ρ k=some (.pointer (some ⟨b,0,none⟩))->¬Pm' b) {ρ':zd}:G S' Pm' ρ' w (vw lm s) v:=by
 unfold vw
 split
 ·rename_i k off
  split
  ·rename_i T cs hlk;obtain ⟨b,vs,hρ,hheap,hlen,hone,hcells⟩:=hm.rel k _ (hlm k _ hlk);obtain ⟨b',hρ',rfl⟩:=hg.loc_inv;rw [hρ] at hρ';cases hρ'
   refine .ptr _ b off (fun j=>(vs[off+j]?).getD undef) (hm.old b ⟨k,_,_,hlm k _ hlk,hρ,rfl⟩).1 (hP2 k off b rfl hρ) (fun j hj=>?_) (fun j s hs=>?_)
   ·have hlt:off+j < vs.length:=by simp [zao] at hj;omega
    rw [List.getElem?_eq_getElem hlt];exact ⟨by rw [uy hheap,List.getElem?_eq_getElem hlt];rfl,hone _ (List.getElem_mem hlt)⟩
   ·simp only [List.getElem?_drop,zan] at hs
    cases hcs:cs[off+j]? with
    | none=>simp [hcs] at hs
    | some c=>
     simp [hcs] at hs;subst hs;have hlt:off+j < vs.length:=by rw [hlen];exact (List.getElem?_eq_some_iff.1 hcs).1
     rw [List.getElem?_eq_getElem hlt];refine zeA hlm hm hsub (hcells _ c _ hcs (List.getElem?_eq_getElem hlt)) (hc.imp (fun h=>?_) id);simp only [jQ,hlk] at h;exact kH h _ c hcs
  ·exact .d _ _ (.junk v)
 ·rename_i k;have he:∀b,Own M ρ b->¬S' b:=hc.resolve_left (by simp [jQ,kz])
  split
  ·rename_i T α enc sz xs hlk;exact .d _ _ (zal hm (hlm k _ hlk) hsub (fun v b h1 h2=>he b ⟨k,_,v,hlm k _ hlk,h1,h2⟩) hg.own_inv.1)
  ·exact .d _ _ (.junk v)
 ·rename_i k sz lo n;have he:∀b,Own M ρ b->¬S' b:=hc.resolve_left (by simp [jQ,kz])
  split
  ·rename_i T α enc sz' xs hlk
   split
   ·rename_i hb;have:=Nat.eq_of_beq_eq_true hb;subst this;obtain ⟨b,len,cap,cap',hρ,rfl,h1,h2⟩:=hg.win_inv;have hd:=zal hm (hlm k _ hlk) hsub (fun v b h1 h2=>he b ⟨k,_,v,hlm k _ hlk,h1,h2⟩) hρ;have ho:Own M ρ b:=⟨k,_,_,hlm k _ hlk,hρ,rfl⟩;obtain ⟨v',cells,hρ',hown,hlen,hone,hesz,hcells⟩:=hm.rel k _ (hlm k _ hlk);rw [hρ] at hρ';cases hρ'
    refine .d _ _ (win_d (hm.old b ho).1 (he b ho) hesz hd h1 h2 ?_)
    rcases hown.2 with ⟨e,_⟩ | ⟨g,cap,cur,e,_⟩ <;> cases e
    rfl
   ·exact .d _ _ (.junk _)
  ·exact .d _ _ (.junk _)
 ·rename_i cs;obtain ⟨vs,rfl,hvs⟩:=hg.agg_inv;refine .agg _ vs (by rw [zao];exact hvs.1) fun j s v h1 h2=>?_
  rw [zan] at h1
  cases hcs:cs[j]? with
  | none=>simp [hcs] at h1
  | some c=>
   simp [hcs] at h1;subst h1;exact .d _ _ (zeA hlm hm hsub (hvs.2 j c v hcs h2) (hc.imp (fun h=>kH h j c hcs) id))
 ·rename_i cs;obtain ⟨b,o,c,rfl,hb,hnp,h1,h2⟩:=hg.ptr_inv;exact .ptr cs b o c hb (hP b hnp) h1 fun j s hs=>(h2 j s hs).less hsub
 ·rename_i f;obtain ⟨vs,rfl,hvs⟩:=hg.fn_inv;rw [hvs.nil_inv];exact .fn f [] [] rfl fun j s v h=>by simp at h
 ·split
  ·rename_i hf;exact .d _ _ ((qh hf hg).less hsub)
  ·exact .d _ _ (.junk v)
theorem zap(hlm:∀k m,lm k=some m->(k,m)∈M)(hm:zj Keep M ρ w)(hsub:∀b,S' b->Keep b∨Own M ρ b){Pm':Nat->Prop}(hP:∀b,¬Own M ρ b->¬Pm' b){ρ':zd}:∀{cs:List SV} {vs:List Value},
  (∀k off b,.loc k off∈cs->ρ k=some (.pointer (some ⟨b,0,none⟩))->¬Pm' b)->Gs (fun b=>Keep b∨Own M ρ b) (Own M ρ) ρ w cs vs->(jR lm cs=true∨∀b,Own M ρ b->¬S' b)->Gs S' Pm' ρ' w (zbT lm cs) vs
 | [],vs,_,hg,_=>by rw [hg.nil_inv];exact .nil
 | c::cs,vs,hP2,hg,hc=>by
  obtain ⟨v,vs',rfl,h1,h2⟩:=hg.cons_inv
  have key:(jQ lm c=true∨∀b,Own M ρ b->¬S' b)/\(jR lm cs=true∨∀b,Own M ρ b->¬S' b):=by
   rcases hc with hc | hc
   ·simp only [jR] at hc
    split at hc
    ·exact ⟨.inl ‹_›,.inl hc⟩
    ·cases hc
   ·exact ⟨.inr hc,.inr hc⟩
  exact .cons (zcb hlm hm hsub h1 key.1 hP fun k off b e=>hP2 k off b (e ▸ .head _)) (zap hlm hm hsub hP (fun k off b hk=>hP2 k off b (.tail _ hk)) h2 key.2)
theorem zaq (hlm:∀k m,lm k=some m->(k,m)∈M) (hm:zj Keep M ρ w) (hsub:∀b,S' b->Keep b∨Own M ρ b) {s:SV} {v:Value}
  (hg:G (fun b=>Keep b∨Own M ρ b) (Own M ρ) ρ w s v) (hc:kY lm [s]=true∨∀b,Own M ρ b->¬S' b) {Pm':Nat->Prop} (hP:∀b,¬Own M ρ b->¬Pm' b)
  (hP2:∀k off b,(s=.loc k off∨∃f cs,s=.fn f cs/\.loc k off∈cs)->ρ k=some (.pointer (some ⟨b,0,none⟩))->¬Pm' b) {ρ':zd}:G S' Pm' ρ' w (v9 lm s) v:=by
 unfold v9
 split
 ·rename_i f cs;obtain ⟨vs,rfl,hvs⟩:=hg.fn_inv
  have h:=zap (S':=S') (Pm':=Pm') (ρ':=ρ') hlm hm hsub hP (fun k off b hk=>hP2 k off b (.inr ⟨_,_,rfl,hk⟩)) hvs (hc.imp (fun h=>by
   simp only [kY] at h
   split at h
   ·assumption
   ·cases h) id)
  exact .fn f _ vs h.1 h.2
 ·rename_i hnf;refine zcb hlm hm hsub hg (hc.imp (fun h=>?_) id) hP (fun k off b e=>hP2 k off b (.inl e));unfold kY at h
  split at h
  ·rename_i heq;cases heq
  ·rename_i heq;cases heq;exact absurd rfl (hnf _ _)
  ·rename_i heq
   cases heq
   split at h
   ·assumption
   ·cases h
theorem zar{s:SV}{r:List SV}(h:kY lm (s::r)=true):kY lm [s]=true/\kY lm r=true:=by
 cases s <;> simp only [kY] at h ⊢ <;> (split at h <;> simp_all)
theorem uB(hlm:∀k m,lm k=some m->(k,m)∈M)(hm:zj Keep M ρ w)(hsub:∀b,S' b->Keep b∨Own M ρ b){Pm':Nat->Prop}(hP:∀b,¬Pm' b){ρ':zd}:∀{cs:List SV} {vs:List Value},
  Gs (fun b=>Keep b∨Own M ρ b) (Own M ρ) ρ w cs vs->(kY lm cs=true∨∀b,Own M ρ b->¬S' b)->Gs S' Pm' ρ' w (yd lm cs) vs
 | [],vs,hg,_=>by rw [hg.nil_inv];exact .nil
 | c::cs,vs,hg,hc=>by
  obtain ⟨v,vs',rfl,h1,h2⟩:=hg.cons_inv
  have key:(kY lm [c]=true∨∀b,Own M ρ b->¬S' b)/\(kY lm cs=true∨∀b,Own M ρ b->¬S' b):=by
   rcases hc with hc | hc
   ·exact ⟨.inl (zar hc).1,.inl (zar hc).2⟩
   ·exact ⟨.inr hc,.inr hc⟩
  exact .cons (zaq hlm hm hsub h1 key.1 (fun b _=>hP b) (fun _ _ b _ _=>hP b)) (uB hlm hm hsub hP h2 key.2)
end v9
theorem qz{cs:List SV}(h:qp.scalars cs=true):∀(j:Nat) (s:SV),cs[j]? =some s->qp s=true:=by
 induction cs with
 | nil=>intro j s h1;simp at h1
 | cons c cs ih=>
  intro j s h1;simp only [qp.scalars] at h
  split at h
  ·rename_i hc
   cases j with
   | zero=>simp at h1;subst h1;exact hc
   | succ j=>exact ih h j s (by simpa using h1)
  ·cases h
theorem qY{S S' Pm:Nat->Prop}{ρ:zd}{w w':World}{s:SV}(hs:qp s=true){v:Value}(hg:G S Pm ρ w s v):D S' w' s v:=by
 have key:∀{s:SV} {v:Value},D S w s v->qp s=true->D S' w' s v:=by
  intro s v hd
  induction hd with
  | val v=>exact fun _=>.val v
  | pr p i=>exact fun _=>.pr p i
  | nils a=>exact fun _=>.nils a
  | anyb b=>exact fun _=>.anyb b
  | agg cs vs hl h ih=>exact fun hs=>.agg cs vs hl fun j s v h1 h2=>ih j s v h1 h2 (qz hs j s h1)
  | ifc t s v h ih=>exact fun hs=>.ifc t s v (ih hs)
  | _=>intro hs;simp [qp] at hs
 induction hg with
 | d _ _ h=>exact key h hs
 | agg cs vs hl h ih=>exact .agg cs vs hl fun j s v h1 h2=>ih j s v h1 h2 (qz hs j s h1)
 | ifc t s v h ih=>exact .ifc t s _ (ih hs)
 | _=>simp [qp] at hs
theorem vV{S S' Pm Pm':Nat->Prop}{ρ ρ':zd}{w:World}(hsub:∀b,S' b->S b){r:SV}(hr:v8 r=true){v:Value}(hg:G S Pm ρ w r v):G S' Pm' ρ' w r v:=by
 unfold v8 at hr
 split at hr
 ·obtain ⟨vs,rfl,hvs⟩:=hg.tup_inv;exact .tup _ vs hvs.1 fun j s v h1 h2=>.d _ _ ((qh (kH hr j s h1) (hvs.2 j s v h1 h2)).less hsub)
 ·exact .d _ _ ((qh hr hg).less hsub)
theorem zfh{S S' Pm Pm':Nat->Prop}{ρ ρ':zd}{w w':World}{r:SV}(hr:vP r=true){v:Value}(hg:G S Pm ρ w r v):G S' Pm' ρ' w' r v:=by
 unfold vP at hr
 split at hr
 ·obtain ⟨vs,rfl,hvs⟩:=hg.tup_inv;exact .tup _ vs hvs.1 fun j s v h1 h2=>.d _ _ (qY (qz hr j s h1) (hvs.2 j s v h1 h2))
 ·exact .d _ _ (qY hr hg)
theorem uC {P:Program} {o:Oper} {c:Call} {fx:Operand} (ho:o.op=.call c) (hc:c.callee=.value fx) {a:Act} {w:World} {f:FuncId} {fs caps vs:List Value}
  (hf:a.eval fx=.func (.func f) fs.toArray caps.toArray) (hv:c.args.toList.map a.eval=vs) (hcall:ur P f):(execOp a.eval o).run P w=.ok (.enter f (fs++(vs++caps)).toArray) w:=by
 obtain ⟨fn,h1,h2,h3⟩:=hcall;have h:c.args.map a.eval=vs.toArray:=by apply Array.ext';simp [hv]
 simp only [execOp,ho,resolve,hc,hf,h,Deferred.ofValue,invoke,callFunc,Sem.run_bind,Sem.run_pure,Result.andThen_ok,run_program,h1,h2,h3,Bool.false_eq_true,if_false];simp
theorem zw{ρ:zd}{b:Nat}:¬Own [] ρ b:=fun ⟨_,_,_,h,_⟩=>by cases h
theorem kV{S:Nat->Prop}{ρ:zd}{w:World}(h:∀b,S b->b < w.heap.size)(hg:∀g v,GL g v->w.cell? ⟨g,0,none⟩=some v):zj S [] ρ w:=
 ⟨fun _ _ h=>(by cases h),List.Pairwise.nil,fun _ _ _ _ _ _ _ h=>(by cases h),fun _ h=>absurd h zw,h,fun g v k=>⟨zw,hg g v k⟩⟩
end Go.Gs
