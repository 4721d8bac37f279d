/- A call to which several blocks of one's own are handed over. -/
import Derived.Test.YtjfbljononkmcaaMA
import Derived.Test.YtjfbljononkmcaaMAK
set_option maxRecDepth 100000
set_option maxHeartbeats 8000000
set_option linter.all false
namespace Go.Gs
theorem kL.named{S Pm:Nat->Prop}{ρ:zd}{w:World}{k:Nat}{m:Mem}(h:kL S Pm ρ w k m):∃v,ρ k=some v:=by
 cases m with
 | box T cs=>obtain ⟨b,vs,h1,_⟩:=h;exact ⟨_,h1⟩
 | arr T enc sz xs=>obtain ⟨v,cells,h1,_⟩:=h;exact ⟨_,h1⟩
 | garr T sz xs=>obtain ⟨v,cells,h1,_⟩:=h;exact ⟨_,h1⟩
 | map es=>obtain ⟨r,ents,clock,h1,_⟩:=h;exact ⟨_,h1⟩
section
variable {S S' Pm Pm':Nat->Prop} {ρ ρ':zd} {w:World} {ks:List Nat} {κ n:Nat}
theorem zat(hP:∀b,Pm' b->Pm b)(hρ:∀k v,k < n->ρ (rn ks κ k)=some v->ρ' k=some v):∀(s:SV) {v:Value},yl n s=true->G S Pm ρ w (k6 ks κ s) v->G S Pm' ρ' w s v:=by
 intro s
 induction s using SV.rec (motive_2:=fun cs=>∀{vs:List Value},yl.lows n cs=true->Gs S Pm ρ w (k6.rens ks κ cs) vs->Gs S Pm' ρ' w cs vs) with
 | val v=>intro u _ hg;exact .d _ _ (hg.val_inv ▸ .val _)
 | pr p i=>intro u _ hg;rw [hg.pr_inv];exact .d _ _ (.pr p i)
 | sl enc xs=>intro u _ hg;exact .d _ _ hg.sl_inv
 | nils=>intro u _ hg;obtain ⟨a,rfl⟩:=hg.nils_inv;exact .d _ _ (.nils a)
 | anyb=>intro u _ hg;obtain ⟨b,rfl⟩:=hg.anyb_inv;exact .d _ _ (.anyb b)
 | full enc xs=>intro u _ hg;obtain ⟨a,rfl,hd⟩:=hg.full_inv;exact .d _ _ (.full enc xs a hd)
 | dptr cs _=>intro u _ hg;cases hg with | d _ _ h=>exact .d _ _ h
 | dfn f cs _=>intro u _ hg;cases hg with | d _ _ h=>exact .d _ _ h
 | bm f cs _=>intro u _ hg;cases hg with | d _ _ h=>exact .d _ _ h
 | op v=>intro u _ hg;cases hg with | d _ _ h=>exact .d _ _ h
 | junk=>intro u _ _;exact .d _ _ (.junk u)
 | ptr cs _=>
  intro u _ hg
  cases hg with
  | d _ _ h=>cases h
  | ptr _ b o c hb hPb hc h=>exact .ptr _ b o c hb (fun hp=>hPb (hP b hp)) hc h
 | agg cs ih=>
  intro u h hg;obtain ⟨vs,rfl,hvs⟩:=hg.agg_inv;have:=ih h hvs;exact .agg _ vs this.1 this.2
 | tup cs ih=>
  intro u h hg;obtain ⟨vs,rfl,hvs⟩:=hg.tup_inv;have:=ih h hvs;exact .tup _ vs this.1 this.2
 | fn f cs ih=>
  intro u h hg;obtain ⟨vs,rfl,hvs⟩:=hg.fn_inv;have:=ih h hvs;exact .fn _ _ vs this.1 this.2
 | ifc t s ih=>
  intro u h hg;obtain ⟨v,rfl,hv⟩:=hg.ifc_inv;exact .ifc t _ v (ih h hv)
 | loc k off=>
  intro u h hg;obtain ⟨b,g1,rfl⟩:=hg.loc_inv;exact .loc _ _ _ (hρ k _ (by simpa [yl] using h) g1)
 | own k=>
  intro u h hg;obtain ⟨g1,g2⟩:=hg.own_inv;exact .own _ _ (hρ k _ (by simpa [yl] using h) g1) g2
 | eloc k sz i off=>
  intro u h hg;obtain ⟨b,len,cap,g1,rfl⟩:=hg.eloc_inv;exact .eloc _ _ _ _ b len cap (hρ k _ (by simpa [yl] using h) g1)
 | win k sz lo m=>
  intro u h hg;obtain ⟨b,len,cap,cap',g1,rfl,g2,g3⟩:=hg.win_inv;exact .win _ _ _ _ b len cap cap' (hρ k _ (by simpa [yl] using h) g1) g2 g3
 | nil=>
  rename_i vs _ hg;rw [Gs.nil_inv hg];exact .nil
 | cons c cs ih1 ih2=>
  rename_i vs h hg;simp only [yl.lows] at h
  split at h
  ·rename_i h1;obtain ⟨v,vs',rfl,g1,g2⟩:=hg.cons_inv;exact .cons (ih1 h1 g1) (ih2 h g2)
  ·cases h
theorem zdX(hS:∀b,S b->S' b)(hρ:∀k v,k < n->ρ' k=some v->ρ (rn ks κ k)=some v):∀(s:SV) {v:Value},ym n s=true->G S' Pm' ρ' w s v->G S Pm ρ w (k6 ks κ s) v:=by
 intro s
 induction s using SV.rec (motive_2:=fun cs=>∀{vs:List Value},ym.outs n cs=true->Gs S' Pm' ρ' w cs vs->Gs S Pm ρ w (k6.rens ks κ cs) vs) with
 | val v=>intro u _ hg;exact .d _ _ (hg.val_inv ▸ .val _)
 | pr p i=>intro u _ hg;rw [hg.pr_inv];exact .d _ _ (.pr p i)
 | sl enc xs=>intro u _ hg;exact .d _ _ (hg.sl_inv.less hS)
 | nils=>intro u _ hg;obtain ⟨a,rfl⟩:=hg.nils_inv;exact .d _ _ (.nils a)
 | anyb=>intro u _ hg;obtain ⟨b,rfl⟩:=hg.anyb_inv;exact .d _ _ (.anyb b)
 | full enc xs=>intro u _ hg;obtain ⟨a,rfl,hd⟩:=hg.full_inv;exact .d _ _ (.full enc xs a (hd.less hS))
 | dptr cs _=>intro u _ hg;cases hg with | d _ _ h=>exact .d _ _ (h.less hS)
 | dfn f cs _=>intro u _ hg;cases hg with | d _ _ h=>exact .d _ _ (h.less hS)
 | bm f cs _=>intro u _ hg;cases hg with | d _ _ h=>exact .d _ _ (h.less hS)
 | op v=>intro u _ hg;cases hg with | d _ _ h=>exact .d _ _ (h.less hS)
 | junk=>intro u _ _;exact .d _ _ (.junk u)
 | ptr cs _=>intro u h _;cases h
 | agg cs ih=>
  intro u h hg;obtain ⟨vs,rfl,hvs⟩:=hg.agg_inv;have:=ih h hvs;exact .agg _ vs this.1 this.2
 | tup cs ih=>
  intro u h hg;obtain ⟨vs,rfl,hvs⟩:=hg.tup_inv;have:=ih h hvs;exact .tup _ vs this.1 this.2
 | fn f cs ih=>
  intro u h hg;obtain ⟨vs,rfl,hvs⟩:=hg.fn_inv;have:=ih h hvs;exact .fn _ _ vs this.1 this.2
 | ifc t s ih=>
  intro u h hg;obtain ⟨v,rfl,hv⟩:=hg.ifc_inv;exact .ifc t _ v (ih h hv)
 | loc k off=>
  intro u h hg;obtain ⟨b,g1,rfl⟩:=hg.loc_inv;exact .loc _ _ _ (hρ k _ (by simpa [ym] using h) g1)
 | own k=>
  intro u h hg;obtain ⟨g1,g2⟩:=hg.own_inv;exact .own _ _ (hρ k _ (by simpa [ym] using h) g1) g2
 | eloc k sz i off=>
  intro u h hg;obtain ⟨b,len,cap,g1,rfl⟩:=hg.eloc_inv;exact .eloc _ _ _ _ b len cap (hρ k _ (by simpa [ym] using h) g1)
 | win k sz lo m=>
  intro u h hg;obtain ⟨b,len,cap,cap',g1,rfl,g2,g3⟩:=hg.win_inv;exact .win _ _ _ _ b len cap cap' (hρ k _ (by simpa [ym] using h) g1) g2 g3
 | nil=>
  rename_i vs _ hg;rw [Gs.nil_inv hg];exact .nil
 | cons c cs ih1 ih2=>
  rename_i vs h hg;simp only [ym.outs] at h
  split at h
  ·rename_i h1;obtain ⟨v,vs',rfl,g1,g2⟩:=hg.cons_inv;exact .cons (ih1 h1 g1) (ih2 h g2)
  ·cases h
theorem qS:∀cs:List SV,(k6.rens ks κ cs).length=cs.length
 | []=>rfl
 | c::cs=>by simp only [k6.rens,List.length_cons,qS cs]
theorem qT:∀(cs:List SV) (j:Nat),(k6.rens ks κ cs)[j]? =(cs[j]?).map (k6 ks κ)
 | [],j=>by simp [k6.rens]
 | c::cs,0=>by simp [k6.rens]
 | c::cs,j+1=>by simpa [k6.rens] using qT cs j
theorem uE:∀{cs:List SV},yl.lows n cs=true->∀(j:Nat) (s:SV),cs[j]? =some s->yl n s=true
 | [],_,j,s,h=>by simp at h
 | c::cs,hl,j,s,h=>by
  simp only [yl.lows] at hl
  split at hl
  ·rename_i h1
   cases j with
   | zero=>simp at h;subst h;exact h1
   | succ j=>exact uE hl j s (by simpa using h)
  ·cases hl
theorem zau:∀{cs:List SV},ym.outs n cs=true->∀(j:Nat) (s:SV),cs[j]? =some s->ym n s=true
 | [],_,j,s,h=>by simp at h
 | c::cs,hl,j,s,h=>by
  simp only [ym.outs] at hl
  split at hl
  ·rename_i h1
   cases j with
   | zero=>simp at h;subst h;exact h1
   | succ j=>exact zau hl j s (by simpa using h)
  ·cases hl
theorem zfi(hP:∀b,Pm' b->Pm b)(hρ:∀k v,k < n->ρ (rn ks κ k)=some v->ρ' k=some v){j:Nat}(hj:j < n){m:Mem}(hl:lowM n m)(h:kL S Pm ρ w (rn ks κ j) (za4 ks κ m)):kL S Pm' ρ' w j m:=by
 cases m with
 | box T cs=>
  obtain ⟨b,vs,h1,h2,h3,h4,h5⟩:=h;refine ⟨b,vs,hρ j _ hj h1,h2,h3.trans (qS cs),h4,fun i s v hs hv=>?_⟩;exact zat hP hρ s (uE hl i s hs) (h5 i _ v (by rw [qT,hs];rfl) hv)
 | arr T enc sz xs=>
  obtain ⟨v,cells,h1,h2,h3,h4,h5,h6⟩:=h;exact ⟨v,cells,hρ j _ hj h1,h2,h3,h4,h5,h6⟩
 | garr T sz xs=>
  obtain ⟨v,cells,h1,h2,h3,h4,h5,h6⟩:=h;refine ⟨v,cells,hρ j _ hj h1,by simpa using h2,by simpa using h3,h4,fun x hx=>?_,fun i q x s hx hs=>?_⟩
  ·have:=h5 _ (List.mem_map_of_mem hx)
   rwa [qS] at this
  ·obtain ⟨u,hu,hg⟩:=h6 i q (k6.rens ks κ x) (k6 ks κ s) (by rw [List.getElem?_map,hx];rfl) (by rw [qT,hs];rfl);exact ⟨u,hu,zat hP hρ s (uE (hl x (List.mem_of_getElem? hx)) q s hs) hg⟩
 | map es=>
  obtain ⟨r,ents,clock,h1,h2,h3,h4⟩:=h;exact ⟨r,ents,clock,hρ j _ hj h1,h2,h3,h4⟩
theorem zhb(hS:∀b,S b->S' b)(hρ:∀k v,k < n->ρ' k=some v->ρ (rn ks κ k)=some v){j:Nat}(hj:j < n){m:Mem}(hl:outM n m)(h:kL S' Pm' ρ' w j m):kL S Pm ρ w (rn ks κ j) (za4 ks κ m):=by
 cases m with
 | box T cs=>
  obtain ⟨b,vs,h1,h2,h3,h4,h5⟩:=h;refine ⟨b,vs,hρ j _ hj h1,h2,h3.trans (qS cs).symm,h4,fun i s v hs hv=>?_⟩;rw [qT] at hs
  cases hc:cs[i]? with
  | none=>simp [hc] at hs
  | some c=>
   simp [hc] at hs;subst hs;exact zdX hS hρ c (zau hl i c hc) (h5 i c v hc hv)
 | arr T enc sz xs=>
  obtain ⟨v,cells,h1,h2,h3,h4,h5,h6⟩:=h;refine ⟨v,cells,hρ j _ hj h1,h2,h3,h4,h5,fun i q x s hx hs=>?_⟩;obtain ⟨u,hu,hd⟩:=h6 i q x s hx hs;exact ⟨u,hu,hd.less hS⟩
 | garr T sz xs=>
  obtain ⟨v,cells,h1,h2,h3,h4,h5,h6⟩:=h;refine ⟨v,cells,hρ j _ hj h1,by simpa using h2,by simpa using h3,h4,fun x hx=>?_,fun i q x s hx hs=>?_⟩
  ·obtain ⟨y,hy,rfl⟩:=List.mem_map.1 hx;rw [qS];exact h5 y hy
  ·rw [List.getElem?_map] at hx
   cases hy:xs[i]? with
   | none=>simp [hy] at hx
   | some y=>
    simp [hy] at hx;subst hx;rw [qT] at hs
    cases hc:y[q]? with
    | none=>simp [hc] at hs
    | some c=>
     simp [hc] at hs;subst hs;obtain ⟨u,hu,hg⟩:=h6 i q y c hy hc;exact ⟨u,hu,zdX hS hρ c (zau (hl y (List.mem_of_getElem? hy)) q c hc) hg⟩
 | map es=>
  obtain ⟨r,ents,clock,h1,h2,h3,h4⟩:=h;refine ⟨r,ents,clock,hρ j _ hj h1,h2,h3,fun i n s hi=>?_⟩;obtain ⟨e,g1,g2,g3⟩:=h4 i n s hi;exact ⟨e,g1,g2,g3.less hS⟩
end
theorem yD{x:Nat×Mem}:∀{ks:List Nat} {M:List (Nat×Mem)},x∈qe M ks->x∈M
 | [],_,h=>h
 | k::_,M,h=>zp x (yD (M:=zL M k) h)
theorem jC:∀{ks:List Nat} {M:List (Nat×Mem)},M.Pairwise (fun a b=>a.1≠b.1)->(qe M ks).Pairwise fun a b=>a.1≠b.1
 | [],_,h=>h
 | k::ks,M,h=>jC (ks:=ks) (M:=zL M k) (zN h)
theorem zav{x:Nat×Mem}:∀{ks:List Nat} {M:List (Nat×Mem)},M.Pairwise (fun a b=>a.1≠b.1)->x∈qe M ks->x.1∉ks
 | [],_,_,_=>by simp
 | k::r,M,hp,h=>by
  intro hk
  cases hk with
  | head=>exact kF hp x (yD (M:=zL M x.1) h) rfl
  | tail _ hk=>exact zav (zN hp) h hk
theorem zc4{k:Nat}:∀{l:List Nat},k∈l->zdJ k l=true
 | [],h=>(by cases h)
 | x::r,h=>by
  simp only [zdJ]
  split
  ·rfl
  ·rename_i hb
   cases h with
   | head=>simp [Nat.beq_refl] at hb
   | tail _ h=>exact zc4 h
theorem uh:∀{l:List Nat},zaa l=true->∀(i j k:Nat),l[i]? =some k->l[j]? =some k->i=j
 | [],_,i,j,k,h,_=>by simp at h
 | x::r,hn,i,j,k,hi,hj=>by
  simp only [zaa] at hn
  split at hn
  ·cases hn
  ·rename_i hm
   have out:∀q:Nat,r[q]? ≠some x:=fun q hq=>by
    have:=zc4 (List.mem_of_getElem? hq);rw [this] at hm;cases hm
   match i,j with
   | 0,0=>rfl
   | 0,j+1=>simp at hi hj;subst hi;exact absurd hj (out j)
   | i+1,0=>simp at hi hj;subst hj;exact absurd hi (out i)
   | i+1,j+1=>rw [uh hn i j k (by simpa using hi) (by simpa using hj)]
theorem zaw{n:Nat}:∀{l:List (Nat×Mem)},zcE n l=true->∀k m,(k,m)∈l->k < n
 | [],_,k,m,h=>(by cases h)
 | (q,y)::r,hb,k,m,h=>by
  simp only [zcE] at hb;obtain ⟨h1,h2⟩:=zu hb
  cases h with
  | head=>simpa using h1
  | tail _ h=>exact zaw h2 k m h
theorem zc5{k:Nat}{m:Mem}:∀{l:List (Nat×Mem)},(k,m)∈l->memM k l=true
 | [],h=>(by cases h)
 | (q,y)::r,h=>by
  simp only [memM]
  split
  ·rfl
  ·rename_i hb
   cases h with
   | head=>simp [Nat.beq_refl] at hb
   | tail _ h=>exact zc5 h
theorem vz:∀{l:List (Nat×Mem)},zab l=true->l.Pairwise fun a b=>a.1≠b.1
 | [],_=>List.Pairwise.nil
 | (q,y)::r,h=>by
  simp only [zab] at h
  split at h
  ·cases h
  ·rename_i hm;refine List.pairwise_cons.2 ⟨fun z hz e=>?_,vz h⟩;obtain ⟨k,m⟩:=z;have e:q=k:=e;subst e;rw [zc5 hz] at hm;cases hm
theorem zax:∀{n:Nat} {K:Nat->Prop},zhH n K->K n
 | 0,_,h=>h
 | n+1,_,h=>zax (n:=n) h
theorem uF:∀{l:List SV} {K:List SV->Prop},zbX l K->K l
 | [],_,h=>h
 | c::l,K,h=>uF (l:=l) (K:=fun r=>K (c::r)) (zS (s:=c) (K:=fun c=>zbX l fun r=>K (c::r)) h)
theorem zcf{m:Mem}{K:Mem->Prop}(h:zbY m K):K m:=by
 cases m with
 | box T cs=>exact uF (K:=fun cs=>K (.box T cs)) h
 | arr T enc sz xs=>exact h
 | garr T sz xs=>exact h
 | map es=>exact h
theorem uG:∀{l:List (Nat×Mem)} {K:List (Nat×Mem)->Prop},vS l K->K l
 | [],_,h=>h
 | (k,m)::l,K,h=>uG (l:=l) (K:=fun r=>K ((k,m)::r)) (zcf (m:=m) (K:=fun m=>vS l fun r=>K ((k,m)::r)) (zax (n:=k) (K:=fun k=>zbY m fun m=>vS l fun r=>K ((k,m)::r)) h))
theorem jm{lm:Nat->Option Mem}{ks0:List Nat}{κ:Nat}{Mc:List (Nat×Mem)}:∀{ks:List Nat} {i:Nat},vR lm ks0 κ Mc i ks->∀(q k:Nat),ks[q]? =some k->∃m,zl Mc (i+q)=some m/\lm k=some (za4 ks0 κ m)/\lowM ks0.length m
 | [],i,_,q,k,h=>by simp at h
 | x::r,i,hg,q,k,h=>by
  cases q with
  | zero=>simp at h;subst h;exact hg.1
  | succ q=>
   have:=jm hg.2 q k (by simpa using h)
   rwa [show i+1+q=i+(q+1) by omega] at this
theorem kb{n:Nat}:∀{l:List (Nat×Mem)},zbU n l->∀j m,(j,m)∈l->j < n/\outM n m
 | [],_,j,m,h=>(by cases h)
 | (q,y)::r,hl,j,m,h=>by
  cases h with
  | head=>exact ⟨by simpa using hl.1.1,hl.1.2⟩
  | tail _ h=>exact kb hl.2 j m h
theorem kX{ks:List Nat}{κ:Nat}:∀{l:List (Nat×Mem)} {k:Nat} {m:Mem},(k,m)∈jh ks κ l->∃j m0,(j,m0)∈l/\k=rn ks κ j/\m=za4 ks κ m0
 | [],_,_,h=>(by cases h)
 | (q,y)::r,k,m,h=>by
  cases h with
  | head=>exact ⟨q,y,.head _,rfl,rfl⟩
  | tail _ h=>
   obtain ⟨j,m0,h1,h2⟩:=kX h;exact ⟨j,m0,.tail _ h1,h2⟩
theorem zbt{ks:List Nat}{κ:Nat}:∀{l:List (Nat×Mem)} {j:Nat} {m:Mem},(j,m)∈l->(rn ks κ j,za4 ks κ m)∈jh ks κ l
 | (q,y)::r,j,m,h=>by
  cases h with
  | head=>exact .head _
  | tail _ h=>exact .tail _ (zbt h)
theorem uH{ks:List Nat}{κ j k:Nat}(h:ks[j]? =some k):rn ks κ j=k:=by unfold rn;rw [h]
theorem ui{ks:List Nat}{κ j:Nat}(h:ks.length<=j):rn ks κ j=κ+(j - ks.length):=by unfold rn;rw [List.getElem?_eq_none h]
theorem zdY {P:Program} {f:FuncId} {za:List SV} {lm:Nat->Option Mem} {κ nn:Nat} {ks:List Nat} {args':List SV} {Mc M':List (Nat×Mem)} {r:SV} (hcall:zf P f args' Mc r M')
  (ha:LEs za (k6.rens ks κ args')) (hl:yl.lows ks.length args'=true) (hn:zaa ks=true) (hk:qo (Nat.beq Mc.length ks.length) (qo (zcE ks.length Mc) (zab Mc))=true) (hM:vR lm ks κ Mc 0 ks)
  (hr:ym (ks.length+nn) r=true) (hM':zbU (ks.length+nn) M') {Keep:Nat->Prop} {M:List (Nat×Mem)} {ρ:zd} {w:World} (hlm:∀k m,lm k=some m->zl M k=some m) (hm:zj Keep M ρ w)
  (hκ:∀k,κ<=k->k < κ+nn->ρ k=none) {vs:List Value} (hg:Gs (fun b=>Keep b∨Own M ρ b) (Own M ρ) ρ w za vs):
  Calls P f vs.toArray w fun e w'=>∃v,e=.returned v/\zE Keep M ρ w κ (k6 ks κ r) (.give ks (jh ks κ M') nn) v w':=by
 obtain ⟨hlen,hk⟩:=zu hk;obtain ⟨hkb,hkd⟩:=zu hk;have hkd:=vz hkd;have hlen:=Nat.eq_of_beq_eq_true hlen;obtain ⟨n,hnl⟩:∃n,n=ks.length:=⟨_,rfl⟩;rw [← hnl] at hlen hkb hl hr hM'
 -- the callee's names
 obtain ⟨ρc,hρc⟩:∃ρc:zd,∀j,ρc j=(match ks[j]? with | some k=>ρ k | none=>none):=⟨_,fun _=>rfl⟩
 have given:∀j m,(j,m)∈Mc->∃k,ks[j]? =some k/\zl Mc j=some m/\lm k=some (za4 ks κ m)/\lowM n m:=fun j m hj=>by
  have hjn:=zaw hkb j m hj;have hkj:=List.getElem?_eq_getElem (show j < ks.length by omega);obtain ⟨m',h1,h2,h3⟩:=jm hM j _ hkj;rw [Nat.zero_add] at h1
  have:m'=m:=by
   have h4:=zg h1
   by_cases e:(j,m')=(j,m)
   ·simpa using e
   ·exfalso
    have:=hkd;obtain ⟨a,ha'⟩:=List.getElem?_of_mem h4;obtain ⟨b,hb'⟩:=List.getElem?_of_mem hj;have hne:a≠b:=fun e'=>by subst e';rw [ha'] at hb';cases hb';exact e rfl
    rw [List.pairwise_iff_getElem] at this;obtain ⟨al,ae⟩:=List.getElem?_eq_some_iff.1 ha';obtain ⟨bl,be⟩:=List.getElem?_eq_some_iff.1 hb'
    rcases Nat.lt_or_gt_of_ne hne with h | h
    ·have:=this a b al bl h;rw [ae,be] at this;exact this rfl
    ·have:=this b a bl al h;rw [ae,be] at this;exact this rfl
  subst this;exact ⟨_,hkj,h1,h2,by rw [hnl];exact h3⟩
 have hdown:∀k v,k < n->ρ (rn ks κ k)=some v->ρc k=some v:=fun k v hkn hv=>by
  have hkj:=List.getElem?_eq_getElem (show k < ks.length by omega);rw [uH hkj] at hv;rw [hρc,hkj];exact hv
 have ownc:∀b,Own Mc ρc b->∃j k m v,(j,m)∈Mc/\ks[j]? =some k/\(k,za4 ks κ m)∈M/\ρ k=some v/\zM v=some b:=by
  rintro b ⟨j,m,v,h1,h2,h3⟩
  obtain ⟨k,hkj,_,hlk,_⟩:=given j m h1;rw [hρc,hkj] at h2;exact ⟨j,k,m,v,h1,hkj,zg (hlm k _ hlk),h2,h3⟩
 have ownsub:∀b,Own Mc ρc b->Own M ρ b:=fun b hb=>by
  obtain ⟨j,k,m,v,_,_,h1,h2,h3⟩:=ownc b hb;exact ⟨k,_,v,h1,h2,h3⟩
 obtain ⟨R,hR⟩:∃R,R=qe M ks:=⟨_,rfl⟩;have memR:∀x,x∈R->x∈M/\x.1∉ks:=fun x hx=>by subst hR;exact ⟨yD hx,zav hm.keys hx⟩
 obtain ⟨Kp,hKp⟩:∃Kp:Nat->Prop,∀b,Kp b↔(Keep b∨Own R ρ b):=⟨_,fun _=>Iff.rfl⟩;have ownR:∀b,Own R ρ b->Own M ρ b:=fun b ⟨k,m,v,h1,h2,h3⟩=>⟨k,m,v,(memR _ h1).1,h2,h3⟩
 have split:∀b,Keep b∨Own M ρ b->Kp b∨Own Mc ρc b:=by
  rintro b (hb | ⟨k,m,v,h1,h2,h3⟩)
  ·exact .inl ((hKp b).2 (.inl hb))
  ·by_cases hks:k∈ks
   ·obtain ⟨j,hj⟩:=List.getElem?_of_mem hks;obtain ⟨m',g1,g2,_⟩:=jm hM j k hj;rw [Nat.zero_add] at g1;exact .inr ⟨j,m',v,zg g1,by rw [hρc,hj];exact h2,h3⟩
   ·refine .inl ((hKp b).2 (.inr ⟨k,m,v,?_,h2,h3⟩));subst hR
    have hin:∀{ks:List Nat} {M:List (Nat×Mem)},(k,m)∈M->k∉ks->(k,m)∈qe M ks:=by
     intro ks
     induction ks with
     | nil=>intro M h _;exact h
     | cons q r ih=>
      intro M h hq;refine ih (M:=zL M q) ?_ (fun e=>hq (.tail _ e));have hne:k≠q:=fun e=>hq (e ▸ .head _)
      clear ih hq
      induction M with
      | nil=>cases h
      | cons x xs ihx=>
       obtain ⟨a,y⟩:=x;simp only [zL]
       split
       ·rename_i hb;have:=Nat.eq_of_beq_eq_true hb;subst this
        cases h with
        | head=>exact absurd rfl hne
        | tail _ h=>exact h
       ·cases h with
        | head=>exact .head _
        | tail _ h=>exact .tail _ (ihx h)
    exact hin h1 hks
 have unsplit:∀b,Kp b∨Own Mc ρc b->Keep b∨Own M ρ b:=fun b hb=>hb.elim (fun h=>((hKp b).1 h).imp id (ownR b)) fun h=>.inr (ownsub b h)
 have apartR:∀b,Kp b->¬Own Mc ρc b:=fun b hb ho=>by
  obtain ⟨j,k,m,v,_,hkj,h1,h2,h3⟩:=ownc b ho
  rcases (hKp b).1 hb with hb | ⟨k',m',v',g1,g2,g3⟩
  ·exact (hm.old b ⟨k,_,v,h1,h2,h3⟩).2 hb
  ·have hne:k≠k':=fun e=>(memR _ g1).2 (e ▸ List.mem_of_getElem? hkj)
   exact hm.apart k _ k' m' v v' b h1 (memR _ g1).1 hne h2 g2 h3 g3
 have hkp:∀b,Kp b->b < w.heap.size:=fun b hb=>((hKp b).1 hb).elim (hm.kp b) fun h=>(hm.old b (ownR b h)).1
 have hmc:zj Kp Mc ρc w:=by
  refine ⟨fun j m hj=>?_,hkd,fun j m j' m' v v' b h1 h2 hne g1 g2 g3 g4=>?_,fun b hb=>⟨(hm.old b (ownsub b hb)).1,fun h=>apartR b h hb⟩,hkp,fun g v h=>⟨fun ho=>(hm.gl g v h).1 (ownsub g ho),hm.glc h⟩⟩
  ·obtain ⟨k,hkj,_,hlk,hlow⟩:=given j m hj;have hmem:=hm.rel k _ (zg (hlm k _ hlk))
   have hmem2:kL (fun b=>Kp b∨Own Mc ρc b) (Own M ρ) ρ w (rn ks κ j) (za4 ks κ m):=by
    rw [uH hkj];have hS:(fun b=>Kp b∨Own Mc ρc b)=fun b=>Keep b∨Own M ρ b:=funext fun b=>propext ⟨unsplit b,split b⟩
    rw [hS];exact hmem
   exact zfi ownsub hdown (zaw hkb j m hj) hlow hmem2
  ·obtain ⟨k,hkj,_,hlk,_⟩:=given j m h1;obtain ⟨k',hkj',_,hlk',_⟩:=given j' m' h2;rw [hρc,hkj] at g1;rw [hρc,hkj'] at g2;exact hm.apart k _ k' _ v v' b (zg (hlm k _ hlk)) (zg (hlm k' _ hlk')) (fun e=>hne (uh hn j j' k hkj (e ▸ hkj'))) g1 g2 g3 g4
 have hargs:Gs (fun b=>Kp b∨Own Mc ρc b) (Own Mc ρc) ρc w args' vs:=by
  have hS:(fun b=>Kp b∨Own Mc ρc b)=fun b=>Keep b∨Own M ρ b:=funext fun b=>propext ⟨unsplit b,split b⟩
  rw [hS]
  have h1:Gs (fun b=>Keep b∨Own M ρ b) (Own M ρ) ρ w (k6.rens ks κ args') vs:=by
   clear hl;generalize k6.rens ks κ args'=bs at ha
   induction ha generalizing vs with
   | nil=>exact hg
   | cons h t ih=>
    obtain ⟨v,vs',rfl,g1,g2⟩:=hg.cons_inv;exact .cons (h _ _ _ _ _ g1) (ih g2)
  refine ⟨h1.1.trans (qS args'),fun j s v hs hv=>?_⟩;exact zat ownsub hdown s (uE hl j s hs) (h1.2 j _ v (by rw [qT,hs];rfl) hv)
 refine (hcall.2 Kp ρc w vs hkp hmc (fun k hk=>?_) hargs).mono ?_
 ·rw [hρc,List.getElem?_eq_none oM]
 rintro e w' ⟨v,ρ',rfl,hs,hm',hgr⟩
 refine ⟨v,rfl,?_⟩
 -- the caller's names
 obtain ⟨ρ2,hρ2⟩:∃ρ2:zd,∀k,ρ2 k=if κ<=k/\k < κ+nn then ρ' (n+(k - κ)) else ρ k:=⟨_,fun _=>rfl⟩
 have named:∀j k,ks[j]? =some k->∃v,ρ k=some v/\ρ' j=some v:=fun j k hj=>by
  obtain ⟨m',g1,g2,_⟩:=jm hM j k hj;obtain ⟨v,hv⟩:=(hm.rel k _ (zg (hlm k _ g2))).named;exact ⟨v,hv,hs.rho j v (by rw [hρc,hj];exact hv)⟩
 have hup:∀j v,j < n+nn->ρ' j=some v->ρ2 (rn ks κ j)=some v:=fun j v hj hv=>by
  by_cases hjn:j < n
  ·have hkj:=List.getElem?_eq_getElem (show j < ks.length by omega);obtain ⟨v1,h1,h2⟩:=named j _ hkj;rw [hv] at h2;cases h2
   rw [uH hkj,hρ2,if_neg,h1]
   rintro ⟨h3,h4⟩
   rw [hκ _ h3 h4] at h1;cases h1
  ·rw [ui oM,hρ2,if_pos oM];rw [← hnl,show n+(κ+(j - n) - κ)=j by omega];exact hv
 have hrho:∀k v,ρ k=some v->ρ2 k=some v:=fun k v hv=>by
  rw [hρ2,if_neg,hv]
  rintro ⟨h3,h4⟩
  rw [hκ _ h3 h4] at hv;cases hv
 have back:∀j v,j < n+nn->ρ2 (rn ks κ j)=some v->ρ' j=some v:=fun j v hj hv=>by
  by_cases hjn:j < n
  ·have hkj:=List.getElem?_eq_getElem (show j < ks.length by omega);obtain ⟨v1,h1,h2⟩:=named j _ hkj;have:=hrho _ _ h1;rw [uH hkj,this] at hv;cases hv
   exact h2
  ·rw [ui oM,hρ2,if_pos oM,← hnl,show n+(κ+(j - n) - κ)=j by omega] at hv;exact hv
 have nameR:∀k m,(k,m)∈R->∃v,ρ k=some v/\ρ2 k=some v:=fun k m hk=>by
  obtain ⟨v,hv⟩:=(hm.rel k m (memR _ hk).1).named;exact ⟨v,hv,hrho k v hv⟩
 have ownNew:∀b,Own (jh ks κ M'++R) ρ2 b↔(Own M' ρ' b∨Own R ρ b):=fun b=>by
  constructor
  ·rintro ⟨k,m,v1,h1,h2,h3⟩
   rcases List.mem_append.1 h1 with h1 | h1
   ·obtain ⟨j,m0,g1,rfl,_⟩:=kX h1;exact .inl ⟨j,m0,v1,g1,back j v1 (kb hM' j m0 g1).1 h2,h3⟩
   ·obtain ⟨v2,g1,g2⟩:=nameR k m h1;rw [h2] at g2;cases g2
    exact .inr ⟨k,m,v1,h1,g1,h3⟩
  ·rintro (⟨j,m,v1,h1,h2,h3⟩ | ⟨k,m,v1,h1,h2,h3⟩)
   ·exact ⟨_,_,v1,List.mem_append_left _ (zbt h1),hup j v1 (kb hM' j m h1).1 h2,h3⟩
   ·exact ⟨k,m,v1,List.mem_append_right _ h1,hrho k v1 h2,h3⟩
 have hset:∀b,Keep b∨Own (jh ks κ M'++R) ρ2 b->Kp b∨Own M' ρ' b:=fun b hb=>by
  rcases hb with hb | hb
  ·exact .inl ((hKp b).2 (.inl hb))
  ·rcases (ownNew b).1 hb with h | h
   ·exact .inr h
   ·exact .inl ((hKp b).2 (.inr h))
 have hst:Stp (Own M ρ) (Own (jh ks κ M'++R) ρ2) ρ ρ2 w w':=by
  refine ⟨hs.os,hs.tape,hs.output,hs.size,fun b hb hnb=>hs.block b hb fun ho=>hnb (ownsub b ho),fun b hb=>?_,hrho⟩
  rcases (ownNew b).1 hb with h | h
  ·exact (hs.own b h).imp (ownsub b) id
  ·exact .inl (ownR b h)
 have keyNew:∀k m,(k,m)∈jh ks κ M'->k∉(R.map (·.1)):=fun k m hk hin=>by
  obtain ⟨j,m0,g1,rfl,_⟩:=kX hk;obtain ⟨⟨k2,m2⟩,h1,h2⟩:=List.mem_map.1 hin;have h2:k2=rn ks κ j:=h2
  by_cases hjn:j < n
  ·have hkj:=List.getElem?_eq_getElem (show j < ks.length by omega);rw [uH hkj] at h2;exact (memR _ h1).2 (h2 ▸ List.mem_of_getElem? hkj)
  ·have:=(kb hM' j m0 g1).1;rw [ui oM] at h2;obtain ⟨v1,hv1,_⟩:=nameR k2 m2 h1;rw [hκ k2 oM oM] at hv1;cases hv1
 have rninj:∀j j',j < n+nn->j' < n+nn->rn ks κ j=rn ks κ j'->j=j':=fun j j' hj hj' he=>by
  by_cases h1:j < n <;> by_cases h2:j' < n
  ·have k1:=List.getElem?_eq_getElem (show j < ks.length by omega);have k2:=List.getElem?_eq_getElem (show j' < ks.length by omega);rw [uH k1,uH k2] at he;exact uh hn j j' _ k1 (by rw [k2,he])
  ·have k1:=List.getElem?_eq_getElem (show j < ks.length by omega);obtain ⟨v1,hv1,_⟩:=named j _ k1;rw [uH k1,ui oM] at he;rw [hκ _ oM oM] at hv1;cases hv1
  ·have k2:=List.getElem?_eq_getElem (show j' < ks.length by omega);obtain ⟨v1,hv1,_⟩:=named j' _ k2;rw [uH k2,ui oM] at he;rw [hκ _ oM oM] at hv1;cases hv1
  ·rw [ui oM,ui oM] at he;omega
 have hpw:(jh ks κ M'++R).Pairwise fun a b=>a.1≠b.1:=by
  rw [List.pairwise_append];refine ⟨?_,by subst hR;exact jC hm.keys,fun x hx y hy e=>keyNew x.1 x.2 hx (e ▸ List.mem_map_of_mem hy)⟩
  have:∀{l:List (Nat×Mem)},l.Pairwise (fun a b=>a.1≠b.1)->(∀j m,(j,m)∈l->j < n+nn)->(jh ks κ l).Pairwise fun a b=>a.1≠b.1:=by
   intro l
   induction l with
   | nil=>intro _ _;exact List.Pairwise.nil
   | cons x xs ih=>
    intro hp hlt;obtain ⟨j,m⟩:=x;rw [List.pairwise_cons] at hp;refine List.pairwise_cons.2 ⟨fun y hy e=>?_,ih hp.2 fun j m h=>hlt j m (.tail _ h)⟩;obtain ⟨k,m'⟩:=y;obtain ⟨j',m0,g1,g2,_⟩:=kX hy;have e:rn ks κ j=k:=e;rw [g2] at e;exact hp.1 (j',m0) g1 (rninj j j' (hlt j m (.head _)) (hlt j' m0 (.tail _ g1)) e)
  exact this hm'.keys fun j m h=>(kb hM' j m h).1
 have hmem:zj Keep (jh ks κ M'++R) ρ2 w':=by
  refine ⟨fun k m hk=>?_,hpw,fun k m k' m' v1 v2 b h1 h2 hne g1 g2 g3 g4=>?_,fun b hb=>?_,fun b hb=>Nat.lt_of_lt_of_le (hm.kp b hb) hs.size,fun g v h=>⟨fun ho=>((ownNew g).1 ho).elim (hm'.gl g v h).1 fun h'=>(hm.gl g v h).1 (ownR g h'),hm'.glc h⟩⟩
  ·rcases List.mem_append.1 hk with hk | hk
   ·obtain ⟨j,m0,h1,rfl,rfl⟩:=kX hk;exact zhb hset hup (kb hM' j m0 h1).1 (kb hM' j m0 h1).2 (hm'.rel j m0 h1)
   ·obtain ⟨v1,h1,h2⟩:=nameR k m hk;refine kL.keep hst (h2.trans h1.symm) (fun v2 b g1 g2=>?_) (hm.rel k m (memR _ hk).1);have ho:Own R ρ b:=⟨k,m,v2,hk,g1,g2⟩;exact hs.block b (hm.old b (ownR b ho)).1 fun hc=>apartR b ((hKp b).2 (.inr ho)) hc
  ·rcases List.mem_append.1 h1 with h1 | h1 <;> rcases List.mem_append.1 h2 with h2 | h2
   ·obtain ⟨j,m0,q1,rfl,_⟩:=kX h1;obtain ⟨j',m0',q2,rfl,_⟩:=kX h2;exact hm'.apart j m0 j' m0' v1 v2 b q1 q2 (fun e=>hne (by rw [e])) (back j v1 (kb hM' j m0 q1).1 g1) (back j' v2 (kb hM' j' m0' q2).1 g2) g3 g4
   ·obtain ⟨j,m0,q1,rfl,_⟩:=kX h1;obtain ⟨v3,e1,e2⟩:=nameR k' m' h2;rw [g2] at e2;cases e2
    exact (hm'.old b ⟨j,m0,v1,q1,back j v1 (kb hM' j m0 q1).1 g1,g3⟩).2 ((hKp b).2 (.inr ⟨k',m',v2,h2,e1,g4⟩))
   ·obtain ⟨j,m0,q1,rfl,_⟩:=kX h2;obtain ⟨v3,e1,e2⟩:=nameR k m h1;rw [g1] at e2;cases e2
    exact (hm'.old b ⟨j,m0,v2,q1,back j v2 (kb hM' j m0 q1).1 g2,g4⟩).2 ((hKp b).2 (.inr ⟨k,m,v1,h1,e1,g3⟩))
   ·obtain ⟨v3,e1,e2⟩:=nameR k m h1;rw [g1] at e2;cases e2
    obtain ⟨v4,e3,e4⟩:=nameR k' m' h2;rw [g2] at e4;cases e4
    exact hm.apart k m k' m' v1 v2 b (memR _ h1).1 (memR _ h2).1 hne e1 e3 g3 g4
  ·rcases (ownNew b).1 hb with h | h
   ·exact ⟨(hm'.old b h).1,fun hkb=>(hm'.old b h).2 ((hKp b).2 (.inl hkb))⟩
   ·exact ⟨Nat.lt_of_lt_of_le (hm.old b (ownR b h)).1 hs.size,(hm.old b (ownR b h)).2⟩
 have e0:jO M κ (.give ks (jh ks κ M') nn)=jh ks κ M'++R:=by subst hR;rfl
 refine ⟨ρ2,?_,?_,?_,fun k hk=>?_⟩
 ·rw [e0];exact hst
 ·rw [e0];exact hmem
 ·rw [e0];exact zdX hset hup r hr hgr
 ·have hk:k < κ∨κ+nn<=k:=hk;rw [hρ2,if_neg oM]
theorem zj.same {Keep:Nat->Prop} {M:List (Nat×Mem)} {ρ:zd} {w w':World} (hm:zj Keep M ρ w) (hos:w'.os=w.os) (htape:w'.tape=w.tape) (hout:ziu w w')
  (hsize:w.heap.size<=w'.heap.size) (hblock:∀b,b < w.heap.size->w'.heap[b]? =w.heap[b]?):Stp (Own M ρ) (Own M ρ) ρ ρ w w'/\zj Keep M ρ w':=by
 have hs:Stp (Own M ρ) (Own M ρ) ρ ρ w w':=⟨hos,htape,hout,hsize,fun b hb _=>hblock b hb,fun b hb=>.inl hb,fun _ _ h=>h⟩
 exact ⟨hs,fun k m h=>(hm.rel k m h).keep hs rfl (fun v b h1 h2=>hblock b (hm.old b ⟨k,m,v,h,h1,h2⟩).1),hm.keys,hm.apart,
  fun b hb=>⟨Nat.lt_of_lt_of_le (hm.old b hb).1 hsize,(hm.old b hb).2⟩,fun b hb=>Nat.lt_of_lt_of_le (hm.kp b hb) hsize,hm.glS hs⟩
theorem zdZ {P:Program} {Γ:List (TypeId×TI)} {e:TypeId} {x:Operand} {s:SV} {lm:Nat->Option Mem} {κ:Nat} {K:SV->MD->Prop}
  (h:boxV Γ e s κ K):∃r md,K r md/\kE P (.box e x) [s] lm κ r md:=by
 unfold boxV at h;replace h:=zb h;obtain ⟨hc,h⟩:=h;have old:K (.loc κ 0) (.push (.box e (zA s)))->∃r md,K r md/\kE P (.box e x) [s] lm κ r md:=fun h=>zff (by unfold zi;rw [hc];exact h)
 split at h
 ·split at h
  ·split at h
   ·rename_i hf
    rcases h with h | h
    ·exact old h
    ·refine ⟨_,_,h,fun o ho Keep M ρ a w _ hm hκ hκM hgs=>?_⟩;obtain ⟨h1,h2⟩:=qy hc (Gs.head hgs)
     have hrun:(execOp a.eval o).run P w=.ok (.value (.pointer (some ⟨w.heap.size,0,none⟩))) (w.alloc (.cells (a.eval x).cells e)):=by
      simp [execOp,ho,Instr.box,newVar,newRow]
     refine zO.value hrun ?_;obtain ⟨hs,hm'⟩:=hm.same (w':=w.alloc (.cells (a.eval x).cells e)) rfl rfl (.cells _ _ _) (by simp) (fun b hb=>heap_alloc_old w _ b hb);refine ⟨ρ,hs,hm',.d _ _ ?_,fun _ _=>rfl⟩;have hnew:=heap_alloc_new w (.cells (a.eval x).cells e);have hn:∀b,b < w.heap.size->True:=fun _ _=>trivial
     refine .dptr _ w.heap.size 0 (fun j=>((a.eval x).cells.toList[j]?).getD undef) (by simp) (fun hb=>?_) (fun j hj=>?_) (fun j s' hs'=>?_)
     ·rcases hb with hb | hb
      ·have:=hm.kp _ hb;omega
      ·have:=(hm.old _ hb).1;omega
     ·have hj':j < (a.eval x).cells.toList.length:=by rw [h1.1];exact hj
      have hj2:j < (a.eval x).cells.size:=by simpa using hj'
      refine ⟨?_,?_⟩
      ·show (w.alloc (.cells (a.eval x).cells e)).cell? ⟨w.heap.size,0+j,none⟩=_;rw [Nat.zero_add];simp only [World.cell?,hnew];simp [hj2]
      ·rw [List.getElem?_eq_getElem hj',Option.getD_some];exact h2 _ (List.getElem_mem hj')
     ·have hj:j < (zA s).length:=(List.getElem?_eq_some_iff.1 hs').1;have hj':j < (a.eval x).cells.toList.length:=by rw [h1.1];exact hj
      rw [List.getElem?_eq_getElem hj',Option.getD_some];exact (qh (kH hf j s' hs') (h1.2 j s' _ hs' (List.getElem?_eq_getElem hj'))).stp hs
   ·exact old h
  ·exact old h
 ·exact old h
theorem zcg {P:Program} {Γ:List (TypeId×TI)} (hT:TOK P Γ) {t:TypeId} {x:Operand} {lo hi mx:Option Operand} {svs:List SV} {lm:Nat->Option Mem} {κ:Nat} {K:SV->MD->Prop}
  (h:zb0 Γ t lo hi mx svs lm κ K):∃r md,K r md/\kE P (.slice t x lo hi mx) svs lm κ r md:=by
 unfold zb0 at h
 split at h
 ·rename_i cs;unfold zbl at h;replace h:=zb h;obtain ⟨hn,h⟩:=h;obtain ⟨n1,hn⟩:=zu hn;obtain ⟨n2,n3⟩:=zu hn;have lo0:lo=none:=by cases lo with | none=>rfl | some _=>cases n1
  have hi0:hi=none:=by cases hi with | none=>rfl | some _=>cases n2
  have mx0:mx=none:=by cases mx with | none=>rfl | some _=>cases n3
  subst lo0;subst hi0;subst mx0;replace h:=zc h;obtain ⟨i,hi',h⟩:=h;have hk:=(hT t i hi').kind
  split at h
  ·rename_i n e hkind;rw [hkind] at hk;have hk:P.underlying t=some (.array n e):=hk;have helem:P.elem t=e:=by simp [Program.elem,hk]
   have hlen:P.arrayLen t=n:=by simp [Program.arrayLen,hk]
   have hk':P.underlying t=some (.array (P.arrayLen t) (P.elem t)):=by rw [helem,hlen];exact hk
   replace h:=zc h;obtain ⟨j,hj,h⟩:=h;have hsz:=(hT e j hj).size;obtain ⟨α,enc,xs,hch,h⟩:=h;obtain ⟨e1,e2,e3⟩:=h.ob;refine ⟨_,_,h.go,.pure fun o ho S Pm ρ a w hgs=>?_⟩;obtain ⟨b,o',c,hx,hb,hS,hc,hd⟩:=(Gs.head hgs).dptr_inv
   have hrun:(execOp a.eval o).run P w=.ok (.value (.slice (some ⟨b,o',none⟩) xs.length n)) w:=by
    simp [execOp,ho,hx,run_sliceAt_array_all (ht:=hk'),slicedAt,hsz,helem,hlen,e1];intro _;simp [Addr.add]
   refine ⟨_,hrun,.d _ _ ?_⟩;have hl:=yP e3;refine .sl enc xs j.sz b o' n (fun p q=>c (p*j.sz+q)) hb hS oM oM e3 (fun p q hp hq=>?_) (fun p q x s hx hs=>?_)
   ·have hlt:p*j.sz+q < cs.length:=by
     rw [← hch,hl];have:=Nat.mul_le_mul_right j.sz (Nat.succ_le_of_lt hp);rw [Nat.succ_mul] at this;omega
    have:=hc _ hlt
    rwa [Nat.add_assoc]
   ·have hq:q < j.sz:=by
     have:=(List.getElem?_eq_some_iff.1 hs).1;rw [e3 x (List.mem_of_getElem? hx)] at this;exact this
    have:=yO e3 p q x hx hq;rw [hch] at this;exact hd _ s (this.trans hs)
  ·exact h.elim
 ·exact zcS hT h
end Go.Gs
